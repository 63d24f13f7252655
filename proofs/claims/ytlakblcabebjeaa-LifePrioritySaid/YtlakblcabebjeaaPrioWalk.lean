import Derived.Test.YtlakblcabebjeaaPrio
namespace Go.Proofs.Ytlakblcabebjeaa
open Go.RowKit
attribute [local go_sem ↓] Go.wp_at_zero Go.wp_at_succ

/-- Two rows of the call's own lie apart. -/
def Apart (v1 v2 : Value) : Prop := ∀ g, v1.ownBlock = some g → v2.ownBlock ≠ some g
theorem dis_row {v1 v2 : Value} (h : Apart v1 v2) : v1.ownBlock = none ∨ v1.ownBlock ≠ v2.ownBlock := by
  cases hv : v1.ownBlock with
  | none => exact .inl rfl
  | some g => exact .inr fun he => h g hv he.symm
theorem Apart.symm {v1 v2 : Value} (h : Apart v1 v2) : Apart v2 v1 := fun g h2 h1 => h g h1 h2
theorem own_ne {w : World} {base : Nat} {e : TypeId} {size : Nat} {v : Value} {n : Nat} {xs : List Value} (h : w.ownsRow base e size v n xs) {g : Nat} (hg : g < base ∨ w.heap.size ≤ g) : some g ≠ v.ownBlock := by
  intro he
  have := h.lt g he.symm
  omega
/-- Behind an append onto the second row. -/
theorem dis_next {w : World} {base : Nat} {ty : TypeId} {size : Nat} {v1 v2 : Value} {n1 : Nat} {xs1 : List Value} (h : Apart v1 v2) (h1 : w.ownsRow base ty size v1 n1 xs1) {g n cap : Nat} (hat : v2.ownBlock = some g ∨ g = w.heap.size) : Apart v1 (.slice (some ⟨g, 0, none⟩) n cap) := fun g' hg' he => by
  have hgg : g = g' := by simpa [Value.ownBlock] using he
  subst hgg
  rcases hat with hat | hat
  · exact h g hg' hat
  · have := h1.lt g hg'
    omega
theorem ne_next {v : Value} {b g n cap H : Nat} (h : some b ≠ v.ownBlock) (hlt : b < H) (hat : v.ownBlock = some g ∨ g = H) : some b ≠ (Value.slice (some ⟨g, 0, none⟩) n cap).ownBlock := fun he => by
  have hbg : b = g := by simpa [Value.ownBlock] using he
  subst hbg
  rcases hat with hat | hat
  · exact h hat.symm
  · omega
theorem wp_append_boxh {P : Program} {w0 : World} {ops : Array Oper} {rest : List Oper} {o : Oper} {a : Act} {Q : Exit → Act → World → Prop} (hgd : o.guard = none) (s x : Operand) (t : TypeId)
    (ho : o.op = .call { callee := .builtin .append, args := #[s, x], argTypes := #[t, t] })
    (base : Nat) (e : TypeId) (i : TypeInfo) (z : Value) (size bytes : Nat) (ht : P.underlying t = some (.slice e)) (hi : P.info? e = some i) (hz : i.zero = some z)
    (hsize : i.size = size) (hby : i.bytes = bytes) (hzs : z.cells.size = size) (hsz : 0 < size)
    (v : Value) (n : Nat) (xs : List Value) (hs : a.eval s = v) (hown : w0.ownsRow base e size v n xs)
    (m : Nat) (cs : Array Value) (hx : a.eval x = .slice (some ⟨w0.heap.size, 0, none⟩) m m) (hcs : cs.size = m * size) (h1 : ∀ u ∈ cs.toList, u.oneCell' = true)
    (hm : 0 < m) (hn : n + m ≤ 1000000000) (hb : bytes ≤ 1000) (hbase : base ≤ w0.heap.size)
    (h : ∀ g cap w', w'.ownsRow base e size (.slice (some ⟨g, 0, none⟩) (n + m) cap) (n + m) (xs ++ cs.toList) → (w0.alloc (.cells cs e)).grownBy w' v.ownBlock → (v.ownBlock = some g ∨ g = (w0.alloc (.cells cs e)).heap.size) → wpList P ops Q rest (a.put o.dst (.slice (some ⟨g, 0, none⟩) (n + m) cap)) w') : wpList P ops Q (o :: rest) a (w0.alloc (.cells cs e)) := by
  refine wpList_append_lies (w0.alloc (.cells cs e)) hgd s x t ho base e i z size bytes ht hi hz hsize hby hzs hsz v n xs hs (hown.alloc _) ⟨w0.heap.size, 0, none⟩ m m cs.toList hx (by simpa using hcs) ?_ h1 hm (by unfold maxLen; omega) ?_ (by simp; omega) _ rfl ?_
  · exact (Blk.new w0 e cs).at rfl
  · have := Nat.mul_le_mul hn hb
    omega
  · intro g cap w' hown' hg hat _
    exact h g cap w' hown' hg hat
theorem take_more (l : List (Int × Bool)) (k : Nat) (h : k < l.length) : (moreL (l.take k)).flatMap cellsE ++ [Value.int .u8 4, Value.bool l[k].2] ++ [Value.int .u8 l[k].1, Value.bool l[k].2] = (moreL (l.take (k + 1))).flatMap cellsE := by
  rw [← List.take_append_getElem h, more_snoc, List.flatMap_append]
  simp [cellsE]
def evsL (l : List (Int × Bool)) : List (Int × Bool) := l.map fun x => (x.1 % 8, x.2)
theorem agg_take {α : Type} {nf : Nat} {C : α → List Value} {G : α → Prop} {w : World} {A : Option Addr} {len cap : Nat} {xs : List α} (h : AggRow nf C G w A len cap xs) {k : Nat} (hk : k ≤ len) : AggRow nf C G w A k cap (xs.take k) := by
  obtain ⟨g1, g2, g3, g4, g5, g6⟩ := h
  refine ⟨by rw [List.length_take]; omega, by omega, g3, fun e => ⟨by have := g4 e; omega, (g4 e).2⟩, fun i x hx => ?_, fun x hx => g6 x (List.mem_of_mem_take hx)⟩
  have hi : i < (xs.take k).length := (List.getElem?_eq_some_iff.1 hx).1
  rw [List.length_take] at hi
  rw [List.getElem?_take_of_lt (by omega)] at hx
  exact g5 i x hx
theorem run_st : ∀ (l : List (Int × Bool)) (s : Int) (i : Nat), 0 ≤ s → 0 ≤ (runL l s i).1
  | [], _, _, h => h
  | x :: t, s, i, h => by
    rw [run_cons]
    split
    · exact run_st t _ _ (step_st x.1 x.2 h).1
    · exact (step_st x.1 x.2 h).1
theorem evs_wf {l evs : List (Int × Bool)} (h : evs = evsL l) : ∀ x ∈ evs, (Lit.int .u8 x.1).wf = true := by
  subst h
  intro x hx
  obtain ⟨y, _, rfl⟩ := List.mem_map.1 hx
  have h0 := Int.emod_nonneg y.1 (show (8 : Int) ≠ 0 by decide)
  have h1 := Int.emod_lt_of_pos y.1 (show 0 < (8 : Int) by decide)
  simp [Lit.wf, IntKind.min, IntKind.max, IntKind.signed, IntKind.bits]
  omega
theorem more_wf {l : List (Int × Bool)} (h : ∀ x ∈ l, (Lit.int .u8 x.1).wf = true) : ∀ x ∈ moreL l, (Lit.int .u8 x.1).wf = true := by
  intro x hx
  obtain ⟨y, hy, hxy⟩ := List.mem_flatMap.1 hx
  rcases List.mem_cons.1 hxy with rfl | hxy
  · show (Lit.int .u8 4).wf = true
    decide
  · rw [List.mem_singleton.1 hxy]; exact h y hy
set_option maxRecDepth 100000 in
set_option maxHeartbeats 3200000 in
theorem prio_walk (a0 : Int) (a1 : Option Addr) (len1 cap1 : Nat) (xs1 : List (Int × Bool)) (a2 : Int) (w : World) (b00 : 0 ≤ a0) (b01 : a0 ≤ 255) (b20 : 0 ≤ a2) (b21 : a2 ≤ 255) (w1 : AggRow 2 (fun x : Int × Bool => [Value.int .u8 x.1, Value.bool x.2]) (fun x : Int × Bool => (Lit.int .u8 x.1).wf = true) w a1 len1 cap1 xs1) (hbig : ¬ len1 > 60) :
    Calls Try.prog 6 #[.int .u8 a0, .slice a1 len1 cap1, .int .u8 a2] w fun e w' => e = .returned (.bool true) ∧ Below w.heap.size w w' := by
  have HL := Lib.hid w1
  have hll := w1.1
  have hlm : len1 ≤ maxLen := Nat.le_trans w1.2.1 w1.2.2.1
  obtain ⟨i0, hi, hz0, hz1, hz2⟩ := info_parts info30
  clear w1
  obtain ⟨evs, hevs⟩ : ∃ evs, evs = evsL xs1 := ⟨_, rfl⟩
  have hel : evs.length = len1 := by rw [hevs, evsL, List.length_map, hll]
  have HEV := Lib.hid hevs
  clear hevs
  go_enter Try.func6, Try.ntmps6
  go_wp2_with fail
  go_loopw [7, 8, 9] (fun v1 v2 y wr => ∃ (k : Nat), k ≤ len1 ∧ y = .int .i64 k ∧ wr.ownsRow w.heap.size 30 2 v1 k ((evs.take k).flatMap cellsE) ∧ wr.ownsRow w.heap.size 30 2 v2 (2 * k) ((moreL (evs.take k)).flatMap cellsE) ∧ Apart v1 v2 ∧ Below w.heap.size w wr) (fun _ _ y _ => len1 - (intOf y).toNat)
  case atStart => exact ⟨0, by omega, rfl, World.ownsRow_nil _ _ _ _, World.ownsRow_nil _ _ _ _, fun g hg => by simp [Value.ownBlock] at hg, lo_refl w⟩
  case round =>
    obtain ⟨k, hk, rfl, hw1, hw2, hD, hbel⟩ := hrel
    by_cases hkl : k < len1
    · obtain ⟨b, off, rfl, hlt, hc⟩ := (agg_lo HL.out hbel).2.2.2.2.1 k xs1[k] (List.getElem?_eq_getElem (by omega))
      have hwf := HL.out.2.2.2.2.2 xs1[k] (List.getElem_mem _)
      have ht := take_flat evs k (by omega)
      have hm := take_more evs k (by omega)
      have hx : evs[k]'(by omega) = (xs1[k].1 % 8, xs1[k].2) := by
        have := HEV.out
        subst this
        simp [evsL]
      rw [hx] at ht hm
      generalize xs1[k] = x at hc hwf ht hm hx
      obtain ⟨kd0, e⟩ := x
      have hc0 := hc 0 _ rfl
      have hc1 := hc 1 _ rfl
      simp only [Nat.add_zero] at hc0 hc1
      have hkd := bounds_u8 hwf
      simp only at hkd ht hm
      have hkl' : (k : Int) < (len1 : Int) := by omega
      clear hc hwf hx
      go_upto_region 7 with fail
      go_region
      obtain ⟨kd, hkd8⟩ : ∃ kd, kd0 % 8 = kd := ⟨_, rfl⟩
      have hkd0 : 0 ≤ kd ∧ kd < 8 := by omega
      rw [hkd8] at ht hm ⊢
      have HT := Lib.hid ht
      have HM := Lib.hid hm
      have hE := (Blk.new wr 30 #[.int .u8 kd, .bool e]).drew
      have hnE := own_ne hw2 (g := wr.heap.size) (Or.inr (Nat.le_refl _))
      have hnE1 := own_ne hw1 (g := wr.heap.size) (Or.inr (Nat.le_refl _))
      have hbel := lo_drew (lo_alloc hbel (.cells #[.int .u8 kd, .bool e] 30))
      have hw1 : (wr.alloc (.cells #[.int .u8 kd, .bool e] 30)).drew.ownsRow _ _ _ _ _ _ := hw1.alloc (.cells #[.int .u8 kd, .bool e] 30)
      have hw2 : (wr.alloc (.cells #[.int .u8 kd, .bool e] 30)).drew.ownsRow _ _ _ _ _ _ := hw2.alloc (.cells #[.int .u8 kd, .bool e] 30)
      clear hc0 hc1 hkd hlt ht hm hkd8
      generalize wr.heap.size = ge at *
      generalize (wr.alloc (.cells #[.int .u8 kd, .bool e] 30)).drew = w1 at *
      obtain ⟨cE, fE⟩ := hE.facts
      have hsz := hbel.size
      go_upto_region 9 with (at_builtin; refine wp_append_boxh rfl _ _ 40 rfl w.heap.size 30 i0 _ 2 2 Try.underlying40 hi hz0 hz1 hz2 rfl (by decide) _ _ _ rfl hw1 1 _ rfl rfl (by intro u hu; simp at hu; rcases hu with rfl | rfl <;> rfl) (by decide) (by omega) (by decide) hsz ?_; intro g1 cap1 w2 hw1n hgr hat)
      have hgr : (w1.alloc (.cells #[.int .u8 kd, .bool e] 30)).grownBy w2 u7.ownBlock := hgr
      have hat : u7.ownBlock = some g1 ∨ g1 = (w1.alloc (.cells #[.int .u8 kd, .bool e] 30)).heap.size := hat
      have hw2a := hw2.alloc (.cells #[.int .u8 kd, .bool e] 30)
      have hDn : Apart (.slice (some ⟨g1, 0, none⟩) (k + 1) cap1) u8 := (dis_next hD.symm hw2a hat).symm
      have hw2n := hw2a.kept hgr (dis_row hD.symm)
      have hEn := (hE.alloc (.cells #[.int .u8 kd, .bool e] 30)).grown hgr hnE1
      have hbeln := (lo_alloc hbel (.cells #[.int .u8 kd, .bool e] 30)).grown hgr (by rw [World.size_alloc]; omega) (fun q hq => (hw1.lt q hq).1)
      have hw1n : w2.ownsRow w.heap.size 30 2 (.slice (some ⟨g1, 0, none⟩) (k + 1) cap1) (k + 1) ((evs.take (k + 1)).flatMap cellsE) := by rw [← HT.out]; exact hw1n
      clear hw1 hw2 hD hE hbel hw2a hgr hat cE fE hsz hnE1
      have hw1 := hw1n
      have hw2 := hw2n
      have hD := hDn
      have hE := hEn
      have hbel := hbeln
      clear hw1n hw2n hDn hEn hbeln HT
      refine wp_region_held_drew (S := (fun W => W.cell? ⟨ge, 0, none⟩ = some (.int .u8 kd) ∧ W.cell? ⟨ge, 1, none⟩ = some (.bool e) ∧ ge < W.heap.size)) (by kernel_rfl) ?_ (fun hHeld => ?_)
      focus (have q := hE.facts.1; exact ⟨q 0, q 1, hE.lt⟩)
      first
      | (refine wpAnyH_take (i := 0) (oi := _) (v := ?_) (getop rfl) (by kernel_rfl) (by kernel_rfl) (by kernel_rfl) (fun _ _ _ h => h) (Or.inl ⟨by rfl, ?_⟩) (by assumption) ?_; rotate_left; focus (intro w hSw; (try dsimp only at hSw); go_simp; (try with_reducible rfl); done))
      | (refine wpAnyH_take (i := 0) (oi := _) (v := undef) (getop rfl) (by kernel_rfl) (by kernel_rfl) (by kernel_rfl) (fun _ _ _ h => h) (Or.inr ⟨by rfl, rfl⟩) (by assumption) ?_)
      (try simp only [Act.put, List.setIfInBounds_toArray, List.set_cons_zero, List.set_cons_succ])
      first
      | (refine wpAnyH_take (i := 1) (oi := _) (v := ?_) (getop rfl) (by kernel_rfl) (by kernel_rfl) (by kernel_rfl) (fun _ _ _ h => h) (Or.inl ⟨by rfl, ?_⟩) (by assumption) ?_; rotate_left; focus (intro w hSw; (try dsimp only at hSw); go_simp; (try with_reducible rfl); done))
      | (refine wpAnyH_take (i := 1) (oi := _) (v := undef) (getop rfl) (by kernel_rfl) (by kernel_rfl) (by kernel_rfl) (fun _ _ _ h => h) (Or.inr ⟨by rfl, rfl⟩) (by assumption) ?_)
      (try simp only [Act.put, List.setIfInBounds_toArray, List.set_cons_zero, List.set_cons_succ])
      first
      | (refine wpAnyH_take (i := 2) (oi := _) (v := ?_) (getop rfl) (by kernel_rfl) (by kernel_rfl) (by kernel_rfl) (fun _ _ _ h => h) (Or.inl ⟨by rfl, ?_⟩) (by assumption) ?_; rotate_left; focus (intro w hSw; (try dsimp only at hSw); go_simp; (try with_reducible rfl); done))
      | (refine wpAnyH_take (i := 2) (oi := _) (v := undef) (getop rfl) (by kernel_rfl) (by kernel_rfl) (by kernel_rfl) (fun _ _ _ h => h) (Or.inr ⟨by rfl, rfl⟩) (by assumption) ?_)
      (try simp only [Act.put, List.setIfInBounds_toArray, List.set_cons_zero, List.set_cons_succ])
      first
      | (refine wpAnyH_take (i := 3) (oi := _) (v := ?_) (getop rfl) (by kernel_rfl) (by kernel_rfl) (by kernel_rfl) (fun _ _ _ h => h) (Or.inl ⟨by rfl, ?_⟩) (by assumption) ?_; rotate_left; focus (intro w hSw; (try dsimp only at hSw); go_simp; (try with_reducible rfl); done))
      | (refine wpAnyH_take (i := 3) (oi := _) (v := undef) (getop rfl) (by kernel_rfl) (by kernel_rfl) (by kernel_rfl) (fun _ _ _ h => h) (Or.inr ⟨by rfl, rfl⟩) (by assumption) ?_)
      (try simp only [Act.put, List.setIfInBounds_toArray, List.set_cons_zero, List.set_cons_succ])
      first
      | (refine wpAnyH_take (i := 6) (oi := _) (v := ?_) (getop rfl) (by kernel_rfl) (by kernel_rfl) (by kernel_rfl) (fun _ _ _ h => h) (Or.inl ⟨by rfl, ?_⟩) (by assumption) ?_; rotate_left; focus (intro w hSw; (try dsimp only at hSw); go_simp; (try with_reducible rfl); done))
      | (refine wpAnyH_take (i := 6) (oi := _) (v := undef) (getop rfl) (by kernel_rfl) (by kernel_rfl) (by kernel_rfl) (fun _ _ _ h => h) (Or.inr ⟨by rfl, rfl⟩) (by assumption) ?_)
      (try simp only [Act.put, List.setIfInBounds_toArray, List.set_cons_zero, List.set_cons_succ])
      have hw2 : w2.drew.ownsRow _ _ _ _ _ _ := hw2
      have hw1 : w2.drew.ownsRow _ _ _ _ _ _ := hw1
      have hE : Blk w2.drew _ _ _ := hE
      have hbel := lo_drew hbel
      generalize w2.drew = w3 at *
      refine wpAnyH_ready (rs := [4, 7]) (by kernel_rfl) (by simp) ?_
      refine AllReadyH.cons (o := _) (getop rfl) (fun K hK => ?_) (AllReadyH.cons (o := _) (getop rfl) (fun K hK => ?_) AllReadyH.nil)
      · go_simp
        have hnA := own_ne hw2 (g := w3.heap.size) (Or.inr (Nat.le_refl _))
        have hA := Blk.new w3 30 #[.int .u8 4, .bool e]
        have hE := hE.alloc (.cells #[.int .u8 4, .bool e] 30)
        have hw1 := hw1.alloc (.cells #[.int .u8 4, .bool e] 30)
        have hw2 := hw2.alloc (.cells #[.int .u8 4, .bool e] 30)
        have hbel := lo_alloc hbel (.cells #[.int .u8 4, .bool e] 30)
        generalize w3.heap.size = gA at *
        generalize w3.alloc (.cells #[.int .u8 4, .bool e] 30) = w4 at *
        refine hK.out _ _ ?_ (fun hHeld4 => ?_)
        focus (have q := hE.facts.1; exact ⟨q 0, q 1, hE.lt⟩)
        clear hK K hHeld
        have hHeld := hHeld4
        clear hHeld4
        (try simp only [Act.put, List.setIfInBounds_toArray, List.set_cons_zero, List.set_cons_succ])
        refine wpAnyH_ready (rs := [5, 7]) (by kernel_rfl) (by simp) ?_
        refine AllReadyH.cons (o := _) (getop rfl) (fun K hK => ?_) (AllReadyH.cons (o := _) (getop rfl) (fun K hK => ?_) AllReadyH.nil)
        · refine step_append_lies w4 rfl (.tmp 50) (.tmp 54) 40 rfl w.heap.size 30 i0 _ 2 2 Try.underlying40 hi hz0 hz1 hz2 rfl (by decide) _ _ _ rfl hw2 ⟨gA, 0, none⟩ 1 1 #[.int .u8 4, .bool e].toList rfl rfl (hA.at rfl) (by intro u hu; simp at hu; rcases hu with rfl | rfl <;> rfl) (by decide) (by unfold maxLen; omega) (by omega) hbel.size _ rfl ?_
          intro g5 cg5 w5 hw2n hgr hat hltg5
          have hw1n := hw1.kept hgr (dis_row hD)
          have hDn := dis_next (n := 2 * k + 1) (cap := cg5) hD hw1 hat
          have hbeln := hbel.grown hgr hbel.size (fun k hk => (hw2.lt k hk).1)
          have hnEn := ne_next (n := 2 * k + 1) (cap := cg5) hnE hE.lt hat
          have hEn := hE.grown hgr hnE
          clear hw2 hgr hat hw1 hD hbel hE hnE hA hnA
          have hw2 := hw2n
          have hw1 := hw1n
          have hD := hDn
          have hbel := hbeln
          have hE := hEn
          have hnE := hnEn
          clear hw2n hw1n hDn hbeln hEn hnEn
          refine hK.out _ _ ?_ (fun hHeld5 => ?_)
          focus (have q := hE.facts.1; exact ⟨q 0, q 1, hE.lt⟩)
          clear hK K hHeld
          have hHeld := hHeld5
          clear hHeld5
          (try simp only [Act.put, List.setIfInBounds_toArray, List.set_cons_zero, List.set_cons_succ])
          refine wpAnyH_ready (rs := [7]) (by kernel_rfl) (by simp) ?_
          refine AllReadyH.cons (o := _) (getop rfl) (fun K hK => ?_) AllReadyH.nil
          go_simp
          have hnB := own_ne hw2 (g := w5.heap.size) (Or.inr (Nat.le_refl _))
          have hB := Blk.new w5 30 #[.int .u8 kd, .bool e]
          have hE := hE.alloc (.cells #[.int .u8 kd, .bool e] 30)
          have hw1 := hw1.alloc (.cells #[.int .u8 kd, .bool e] 30)
          have hw2 := hw2.alloc (.cells #[.int .u8 kd, .bool e] 30)
          have hbel := lo_alloc hbel (.cells #[.int .u8 kd, .bool e] 30)
          generalize w5.heap.size = gB at *
          generalize w5.alloc (.cells #[.int .u8 kd, .bool e] 30) = w7 at *
          refine hK.out _ _ ?_ (fun hHeld7 => ?_)
          focus (have q := hE.facts.1; exact ⟨q 0, q 1, hE.lt⟩)
          clear hK K hHeld
          have hHeld := hHeld7
          clear hHeld7
          (try simp only [Act.put, List.setIfInBounds_toArray, List.set_cons_zero, List.set_cons_succ])
          refine wpAnyH_ready (rs := [8]) (by kernel_rfl) (by simp) ?_
          refine AllReadyH.cons (o := _) (getop rfl) (fun K hK => ?_) AllReadyH.nil
          refine step_append_lies w7 rfl (.tmp 55) (.tmp 57) 40 rfl w.heap.size 30 i0 _ 2 2 Try.underlying40 hi hz0 hz1 hz2 rfl (by decide) _ _ _ rfl hw2 ⟨gB, 0, none⟩ 1 1 #[.int .u8 kd, .bool e].toList rfl rfl (hB.at rfl) (by intro u hu; simp at hu; rcases hu with rfl | rfl <;> rfl) (by decide) (by unfold maxLen; omega) (by omega) hbel.size _ rfl ?_
          intro g8 cg8 w8 hw2n hgr hat hltg8
          have hw1n := hw1.kept hgr (dis_row hD)
          have hDn := dis_next (n := 2 * k + 1 + 1) (cap := cg8) hD hw1 hat
          have hbeln := hbel.grown hgr hbel.size (fun k hk => (hw2.lt k hk).1)
          have hnEn := ne_next (n := 2 * k + 1 + 1) (cap := cg8) hnE hE.lt hat
          have hEn := hE.grown hgr hnE
          clear hw2 hgr hat hw1 hD hbel hE hnE hB hnB
          have hw2 := hw2n
          have hw1 := hw1n
          have hD := hDn
          have hbel := hbeln
          have hE := hEn
          have hnE := hnEn
          clear hw2n hw1n hDn hbeln hEn hnEn
          refine hK.out _ _ ?_ (fun hHeld8 => ?_)
          focus (have q := hE.facts.1; exact ⟨q 0, q 1, hE.lt⟩)
          clear hK K hHeld
          have hHeld := hHeld8
          clear hHeld8
          (try simp only [Act.put, List.setIfInBounds_toArray, List.set_cons_zero, List.set_cons_succ])
          first
          | (refine wpAnyH_take (i := 9) (oi := _) (v := ?_) (getop rfl) (by kernel_rfl) (by kernel_rfl) (by kernel_rfl) (fun _ _ _ h => h) (Or.inl ⟨by rfl, ?_⟩) (by assumption) ?_; rotate_left; focus (intro w hSw; (try dsimp only at hSw); go_simp; (try with_reducible rfl); done))
          | (refine wpAnyH_take (i := 9) (oi := _) (v := undef) (getop rfl) (by kernel_rfl) (by kernel_rfl) (by kernel_rfl) (fun _ _ _ h => h) (Or.inr ⟨by rfl, rfl⟩) (by assumption) ?_)
          (try simp only [Act.put, List.setIfInBounds_toArray, List.set_cons_zero, List.set_cons_succ])
          refine wpAnyH_done (by kernel_rfl) ?_ _
          have hfin : (moreL (evs.take k)).flatMap cellsE ++ [Value.int .u8 4, Value.bool e] ++ [Value.int .u8 kd, Value.bool e] = (moreL (evs.take (k + 1))).flatMap cellsE := HM.out
          rw [hfin] at hw2
          go_wp2_with fail
          go_roundw
          case rel => exact ⟨k + 1, by omega, by go_num, hw1, by simpa [Nat.mul_add] using hw2, hD, hbel⟩
          case measure => simp [intOf]; omega
        · go_simp
          have hnB := own_ne hw2 (g := w4.heap.size) (Or.inr (Nat.le_refl _))
          have hB := Blk.new w4 30 #[.int .u8 kd, .bool e]
          have hE := hE.alloc (.cells #[.int .u8 kd, .bool e] 30)
          have hA := hA.alloc (.cells #[.int .u8 kd, .bool e] 30)
          have hw1 := hw1.alloc (.cells #[.int .u8 kd, .bool e] 30)
          have hw2 := hw2.alloc (.cells #[.int .u8 kd, .bool e] 30)
          have hbel := lo_alloc hbel (.cells #[.int .u8 kd, .bool e] 30)
          generalize w4.heap.size = gB at *
          generalize w4.alloc (.cells #[.int .u8 kd, .bool e] 30) = w7 at *
          refine hK.out _ _ ?_ (fun hHeld7 => ?_)
          focus (have q := hE.facts.1; exact ⟨q 0, q 1, hE.lt⟩)
          clear hK K hHeld
          have hHeld := hHeld7
          clear hHeld7
          (try simp only [Act.put, List.setIfInBounds_toArray, List.set_cons_zero, List.set_cons_succ])
          refine wpAnyH_ready (rs := [5]) (by kernel_rfl) (by simp) ?_
          refine AllReadyH.cons (o := _) (getop rfl) (fun K hK => ?_) AllReadyH.nil
          refine step_append_lies w7 rfl (.tmp 50) (.tmp 54) 40 rfl w.heap.size 30 i0 _ 2 2 Try.underlying40 hi hz0 hz1 hz2 rfl (by decide) _ _ _ rfl hw2 ⟨gA, 0, none⟩ 1 1 #[.int .u8 4, .bool e].toList rfl rfl (hA.at rfl) (by intro u hu; simp at hu; rcases hu with rfl | rfl <;> rfl) (by decide) (by unfold maxLen; omega) (by omega) hbel.size _ rfl ?_
          intro g5 cg5 w5 hw2n hgr hat hltg5
          have hw1n := hw1.kept hgr (dis_row hD)
          have hDn := dis_next (n := 2 * k + 1) (cap := cg5) hD hw1 hat
          have hbeln := hbel.grown hgr hbel.size (fun k hk => (hw2.lt k hk).1)
          have hnEn := ne_next (n := 2 * k + 1) (cap := cg5) hnE hE.lt hat
          have hEn := hE.grown hgr hnE
          have hnBn := ne_next (n := 2 * k + 1) (cap := cg5) hnB hB.lt hat
          have hBn := hB.grown hgr hnB
          clear hw2 hgr hat hw1 hD hbel hE hnE hB hnB hA hnA
          have hw2 := hw2n
          have hw1 := hw1n
          have hD := hDn
          have hbel := hbeln
          have hE := hEn
          have hnE := hnEn
          have hB := hBn
          have hnB := hnBn
          clear hw2n hw1n hDn hbeln hEn hnEn hBn hnBn
          refine hK.out _ _ ?_ (fun hHeld5 => ?_)
          focus (have q := hE.facts.1; exact ⟨q 0, q 1, hE.lt⟩)
          clear hK K hHeld
          have hHeld := hHeld5
          clear hHeld5
          (try simp only [Act.put, List.setIfInBounds_toArray, List.set_cons_zero, List.set_cons_succ])
          refine wpAnyH_ready (rs := [8]) (by kernel_rfl) (by simp) ?_
          refine AllReadyH.cons (o := _) (getop rfl) (fun K hK => ?_) AllReadyH.nil
          refine step_append_lies w5 rfl (.tmp 55) (.tmp 57) 40 rfl w.heap.size 30 i0 _ 2 2 Try.underlying40 hi hz0 hz1 hz2 rfl (by decide) _ _ _ rfl hw2 ⟨gB, 0, none⟩ 1 1 #[.int .u8 kd, .bool e].toList rfl rfl (hB.at rfl) (by intro u hu; simp at hu; rcases hu with rfl | rfl <;> rfl) (by decide) (by unfold maxLen; omega) (by omega) hbel.size _ rfl ?_
          intro g8 cg8 w8 hw2n hgr hat hltg8
          have hw1n := hw1.kept hgr (dis_row hD)
          have hDn := dis_next (n := 2 * k + 1 + 1) (cap := cg8) hD hw1 hat
          have hbeln := hbel.grown hgr hbel.size (fun k hk => (hw2.lt k hk).1)
          have hnEn := ne_next (n := 2 * k + 1 + 1) (cap := cg8) hnE hE.lt hat
          have hEn := hE.grown hgr hnE
          clear hw2 hgr hat hw1 hD hbel hE hnE hB hnB
          have hw2 := hw2n
          have hw1 := hw1n
          have hD := hDn
          have hbel := hbeln
          have hE := hEn
          have hnE := hnEn
          clear hw2n hw1n hDn hbeln hEn hnEn
          refine hK.out _ _ ?_ (fun hHeld8 => ?_)
          focus (have q := hE.facts.1; exact ⟨q 0, q 1, hE.lt⟩)
          clear hK K hHeld
          have hHeld := hHeld8
          clear hHeld8
          (try simp only [Act.put, List.setIfInBounds_toArray, List.set_cons_zero, List.set_cons_succ])
          first
          | (refine wpAnyH_take (i := 9) (oi := _) (v := ?_) (getop rfl) (by kernel_rfl) (by kernel_rfl) (by kernel_rfl) (fun _ _ _ h => h) (Or.inl ⟨by rfl, ?_⟩) (by assumption) ?_; rotate_left; focus (intro w hSw; (try dsimp only at hSw); go_simp; (try with_reducible rfl); done))
          | (refine wpAnyH_take (i := 9) (oi := _) (v := undef) (getop rfl) (by kernel_rfl) (by kernel_rfl) (by kernel_rfl) (fun _ _ _ h => h) (Or.inr ⟨by rfl, rfl⟩) (by assumption) ?_)
          (try simp only [Act.put, List.setIfInBounds_toArray, List.set_cons_zero, List.set_cons_succ])
          refine wpAnyH_done (by kernel_rfl) ?_ _
          have hfin : (moreL (evs.take k)).flatMap cellsE ++ [Value.int .u8 4, Value.bool e] ++ [Value.int .u8 kd, Value.bool e] = (moreL (evs.take (k + 1))).flatMap cellsE := HM.out
          rw [hfin] at hw2
          go_wp2_with fail
          go_roundw
          case rel => exact ⟨k + 1, by omega, by go_num, hw1, by simpa [Nat.mul_add] using hw2, hD, hbel⟩
          case measure => simp [intOf]; omega
      · go_simp
        have hnB := own_ne hw2 (g := w3.heap.size) (Or.inr (Nat.le_refl _))
        have hB := Blk.new w3 30 #[.int .u8 kd, .bool e]
        have hE := hE.alloc (.cells #[.int .u8 kd, .bool e] 30)
        have hw1 := hw1.alloc (.cells #[.int .u8 kd, .bool e] 30)
        have hw2 := hw2.alloc (.cells #[.int .u8 kd, .bool e] 30)
        have hbel := lo_alloc hbel (.cells #[.int .u8 kd, .bool e] 30)
        generalize w3.heap.size = gB at *
        generalize w3.alloc (.cells #[.int .u8 kd, .bool e] 30) = w7 at *
        refine hK.out _ _ ?_ (fun hHeld7 => ?_)
        focus (have q := hE.facts.1; exact ⟨q 0, q 1, hE.lt⟩)
        clear hK K hHeld
        have hHeld := hHeld7
        clear hHeld7
        (try simp only [Act.put, List.setIfInBounds_toArray, List.set_cons_zero, List.set_cons_succ])
        refine wpAnyH_ready (rs := [4]) (by kernel_rfl) (by simp) ?_
        refine AllReadyH.cons (o := _) (getop rfl) (fun K hK => ?_) AllReadyH.nil
        go_simp
        have hnA := own_ne hw2 (g := w7.heap.size) (Or.inr (Nat.le_refl _))
        have hA := Blk.new w7 30 #[.int .u8 4, .bool e]
        have hE := hE.alloc (.cells #[.int .u8 4, .bool e] 30)
        have hB := hB.alloc (.cells #[.int .u8 4, .bool e] 30)
        have hw1 := hw1.alloc (.cells #[.int .u8 4, .bool e] 30)
        have hw2 := hw2.alloc (.cells #[.int .u8 4, .bool e] 30)
        have hbel := lo_alloc hbel (.cells #[.int .u8 4, .bool e] 30)
        generalize w7.heap.size = gA at *
        generalize w7.alloc (.cells #[.int .u8 4, .bool e] 30) = w4 at *
        refine hK.out _ _ ?_ (fun hHeld4 => ?_)
        focus (have q := hE.facts.1; exact ⟨q 0, q 1, hE.lt⟩)
        clear hK K hHeld
        have hHeld := hHeld4
        clear hHeld4
        (try simp only [Act.put, List.setIfInBounds_toArray, List.set_cons_zero, List.set_cons_succ])
        refine wpAnyH_ready (rs := [5]) (by kernel_rfl) (by simp) ?_
        refine AllReadyH.cons (o := _) (getop rfl) (fun K hK => ?_) AllReadyH.nil
        refine step_append_lies w4 rfl (.tmp 50) (.tmp 54) 40 rfl w.heap.size 30 i0 _ 2 2 Try.underlying40 hi hz0 hz1 hz2 rfl (by decide) _ _ _ rfl hw2 ⟨gA, 0, none⟩ 1 1 #[.int .u8 4, .bool e].toList rfl rfl (hA.at rfl) (by intro u hu; simp at hu; rcases hu with rfl | rfl <;> rfl) (by decide) (by unfold maxLen; omega) (by omega) hbel.size _ rfl ?_
        intro g5 cg5 w5 hw2n hgr hat hltg5
        have hw1n := hw1.kept hgr (dis_row hD)
        have hDn := dis_next (n := 2 * k + 1) (cap := cg5) hD hw1 hat
        have hbeln := hbel.grown hgr hbel.size (fun k hk => (hw2.lt k hk).1)
        have hnEn := ne_next (n := 2 * k + 1) (cap := cg5) hnE hE.lt hat
        have hEn := hE.grown hgr hnE
        have hnBn := ne_next (n := 2 * k + 1) (cap := cg5) hnB hB.lt hat
        have hBn := hB.grown hgr hnB
        clear hw2 hgr hat hw1 hD hbel hE hnE hB hnB hA hnA
        have hw2 := hw2n
        have hw1 := hw1n
        have hD := hDn
        have hbel := hbeln
        have hE := hEn
        have hnE := hnEn
        have hB := hBn
        have hnB := hnBn
        clear hw2n hw1n hDn hbeln hEn hnEn hBn hnBn
        refine hK.out _ _ ?_ (fun hHeld5 => ?_)
        focus (have q := hE.facts.1; exact ⟨q 0, q 1, hE.lt⟩)
        clear hK K hHeld
        have hHeld := hHeld5
        clear hHeld5
        (try simp only [Act.put, List.setIfInBounds_toArray, List.set_cons_zero, List.set_cons_succ])
        refine wpAnyH_ready (rs := [8]) (by kernel_rfl) (by simp) ?_
        refine AllReadyH.cons (o := _) (getop rfl) (fun K hK => ?_) AllReadyH.nil
        refine step_append_lies w5 rfl (.tmp 55) (.tmp 57) 40 rfl w.heap.size 30 i0 _ 2 2 Try.underlying40 hi hz0 hz1 hz2 rfl (by decide) _ _ _ rfl hw2 ⟨gB, 0, none⟩ 1 1 #[.int .u8 kd, .bool e].toList rfl rfl (hB.at rfl) (by intro u hu; simp at hu; rcases hu with rfl | rfl <;> rfl) (by decide) (by unfold maxLen; omega) (by omega) hbel.size _ rfl ?_
        intro g8 cg8 w8 hw2n hgr hat hltg8
        have hw1n := hw1.kept hgr (dis_row hD)
        have hDn := dis_next (n := 2 * k + 1 + 1) (cap := cg8) hD hw1 hat
        have hbeln := hbel.grown hgr hbel.size (fun k hk => (hw2.lt k hk).1)
        have hnEn := ne_next (n := 2 * k + 1 + 1) (cap := cg8) hnE hE.lt hat
        have hEn := hE.grown hgr hnE
        clear hw2 hgr hat hw1 hD hbel hE hnE hB hnB
        have hw2 := hw2n
        have hw1 := hw1n
        have hD := hDn
        have hbel := hbeln
        have hE := hEn
        have hnE := hnEn
        clear hw2n hw1n hDn hbeln hEn hnEn
        refine hK.out _ _ ?_ (fun hHeld8 => ?_)
        focus (have q := hE.facts.1; exact ⟨q 0, q 1, hE.lt⟩)
        clear hK K hHeld
        have hHeld := hHeld8
        clear hHeld8
        (try simp only [Act.put, List.setIfInBounds_toArray, List.set_cons_zero, List.set_cons_succ])
        first
        | (refine wpAnyH_take (i := 9) (oi := _) (v := ?_) (getop rfl) (by kernel_rfl) (by kernel_rfl) (by kernel_rfl) (fun _ _ _ h => h) (Or.inl ⟨by rfl, ?_⟩) (by assumption) ?_; rotate_left; focus (intro w hSw; (try dsimp only at hSw); go_simp; (try with_reducible rfl); done))
        | (refine wpAnyH_take (i := 9) (oi := _) (v := undef) (getop rfl) (by kernel_rfl) (by kernel_rfl) (by kernel_rfl) (fun _ _ _ h => h) (Or.inr ⟨by rfl, rfl⟩) (by assumption) ?_)
        (try simp only [Act.put, List.setIfInBounds_toArray, List.set_cons_zero, List.set_cons_succ])
        refine wpAnyH_done (by kernel_rfl) ?_ _
        have hfin : (moreL (evs.take k)).flatMap cellsE ++ [Value.int .u8 4, Value.bool e] ++ [Value.int .u8 kd, Value.bool e] = (moreL (evs.take (k + 1))).flatMap cellsE := HM.out
        rw [hfin] at hw2
        go_wp2_with fail
        go_roundw
        case rel => exact ⟨k + 1, by omega, by go_num, hw1, by simpa [Nat.mul_add] using hw2, hD, hbel⟩
        case measure => simp [intOf]; omega
    · have hkl' : ¬ (k : Int) < (len1 : Int) := by omega
      have hke : k = len1 := by omega
      subst hke
      have hfull : evs.take k = evs := List.take_of_length_le (by omega)
      rw [hfull] at hw1 hw2
      obtain ⟨A1, p1, rfl, hcap1, hnil1⟩ := own_shape hw1
      obtain ⟨A2, p2, rfl, hcap2, hnil2⟩ := own_shape hw2
      have hG : ∀ x ∈ evs, (Lit.int .u8 x.1).wf = true := evs_wf HEV.out
      have hE1 : Evs wr A1 k p1 evs := agg_own (C := cellsE) (fun _ => rfl) (by decide) hw1 hG
      have hE2 : Evs wr A2 (2 * k) p2 (moreL evs) := agg_own (C := cellsE) (fun _ => rfl) (by decide) hw2 (more_wf hG)
      obtain ⟨s, hs⟩ : ∃ s, a0 % 6 = s := ⟨_, rfl⟩
      have hs0 : 0 ≤ s ∧ s < 6 := by omega
      have hm0 := Int.emod_nonneg a2 (show (k : Int) + 1 ≠ 0 by omega)
      have hm1 := Int.emod_lt_of_pos a2 (show 0 < (k : Int) + 1 by omega)
      obtain ⟨q, hq⟩ : ∃ q : Nat, a2 % ((k : Int) + 1) = (q : Int) := ⟨(a2 % ((k : Int) + 1)).toNat, by omega⟩
      have hqk : q ≤ k := by omega
      have hqk' : (q : Int) ≤ (k : Int) := by omega
      have hqp : (q : Int) ≤ (p1 : Int) := by omega
      clear hw1 hw2 hD hcap1 hnil1 hcap2 hnil2 hm0 hm1 hG hfull
      have HE1 := Lib.hid hE1
      have HE2 := Lib.hid hE2
      have Hbel := Lib.hid hbel
      clear hE1 hE2 hbel
      obtain ⟨R1, hR1⟩ : ∃ r, runL evs s 0 = r := ⟨_, rfl⟩
      obtain ⟨R2, hR2⟩ : ∃ r, runL (moreL evs) s 0 = r := ⟨_, rfl⟩
      obtain ⟨R3, hR3⟩ : ∃ r, runL (evs.take q) s 0 = r := ⟨_, rfl⟩
      obtain ⟨R4, hR4⟩ : ∃ r, runL (evs.drop q) R3.1 0 = r := ⟨_, rfl⟩
      have hpl := prio_plain evs s q hs0.1 hs0.2 (by omega) hR1 hR2 hR3 hR4
      have hc0 : 0 ≤ R3.1 := by have := run_st (evs.take q) s 0 hs0.1; rw [hR3] at this; exact this
      have hn0 := run_end evs s 0
      have hi0 := run_end (evs.take q) s 0
      rw [hR1] at hn0
      rw [hR3, List.length_take] at hi0
      have X1 := Lib.hid (run_any s A1 k p1 evs wr hs0.1 HE1.out (by omega))
      have X2 := Lib.hid fun (w2 : World) (hb : Below wr.heap.size wr w2) => run_any s A2 (2 * k) p2 (moreL evs) w2 hs0.1 (agg_lo HE2.out hb) (by omega)
      have X3 := Lib.hid fun (w2 : World) (hb : Below wr.heap.size wr w2) => run_any s _ _ _ (evs.take q) w2 hs0.1 (agg_take (agg_lo HE1.out hb) hqk) (by omega)
      have X4 := Lib.hid fun (w2 : World) (hb : Below wr.heap.size wr w2) => run_any R3.1 _ _ _ ((evs.take k).drop q) w2 hc0 (agg_sliced (agg_lo HE1.out hb) q k hqk (by omega)) (by omega)
      rw [hR1] at X1
      rw [hR2] at X2
      simp only [hR3] at X3
      rw [List.take_of_length_le (by omega), hR4] at X4
      clear HE1 HE2 hc0
      obtain ⟨a, ⟨vc0, va0, vb0⟩, n⟩ := R1
      obtain ⟨r2, ⟨vc, va, vb⟩, m⟩ := R2
      obtain ⟨c, ⟨xc, xa, xb⟩, i⟩ := R3
      obtain ⟨d, ⟨yc, ya, yb⟩, j⟩ := R4
      obtain ⟨rfl, hw, hcase, hlast⟩ := hpl
      injection hw with e1 hw
      injection hw with e2 e3
      subst e1 e2 e3
      have Hcase := Lib.hid hcase
      have Hlast := Lib.hid hlast
      clear hcase hlast
      go_upto_region 11 with fail
      go_wp2_with fail
      refine X1.out.mono ?_
      rintro e w2 ⟨rfl, hb2⟩
      have hV := Blk.new w2 27 #[.int .u32 vc, .bool va, .bool vb]
      have hB := Lib.hid (lo_alloc hb2 (.cells #[.int .u32 vc, .bool va, .bool vb] 27))
      have X2' := X2.out _ hB.out
      clear hb2 X2 X1
      go_wp2_with fail
      refine X2'.mono ?_
      rintro e w3 ⟨rfl, hb3⟩
      have hV := (hV.lo hb3).alloc (.cells #[.int .u32 vc, .bool va, .bool vb] 27)
      have hW := Blk.new w3 27 #[.int .u32 vc, .bool va, .bool vb]
      have hB := Lib.hid (lo_alloc (lo_trans hB.out hb3) (.cells #[.int .u32 vc, .bool va, .bool vb] 27))
      have X3' := X3.out _ hB.out
      clear hb3 X3 X2'
      go_upto_region 13 with fail
      generalize w2.heap.size = gv at *
      generalize w3.heap.size = gw at *
      generalize w3.alloc (.cells #[.int .u32 vc, .bool va, .bool vb] 27) = w4 at *
      go_wp2_with fail
      refine X3'.mono ?_
      rintro e w5 ⟨rfl, hb5⟩
      have hV := (hV.lo hb5).alloc (.cells #[.int .u32 xc, .bool xa, .bool xb] 27)
      have hX := Blk.new w5 27 #[.int .u32 xc, .bool xa, .bool xb]
      have hW := (hW.lo hb5).alloc (.cells #[.int .u32 xc, .bool xa, .bool xb] 27)
      have hB := Lib.hid (lo_alloc (lo_trans hB.out hb5) (.cells #[.int .u32 xc, .bool xa, .bool xb] 27))
      have hL := Lib.hid (lo_trans Hbel.out hB.out)
      have X4' := X4.out _ hB.out
      clear hb5 X4 X3' Hbel hB
      go_upto_region 14 with fail
      generalize w5.heap.size = gx at *
      generalize w5.alloc (.cells #[.int .u32 xc, .bool xa, .bool xb] 27) = w6 at *
      obtain ⟨cV, fV⟩ := hV.facts
      obtain ⟨cW, fW⟩ := hW.facts
      obtain ⟨cX, fX⟩ := hX.facts
      have hk60 : (k : Int) ≤ 60 := by omega
      clear hW
      have hcases : (n < q ∧ c = r2 ∧ (xc, xa, xb) = (vc, va, vb) ∧ i = n ∧ vc ≠ 0 ∧ m = 2 * n + 1) ∨
          (q ≤ n ∧ (xc, xa, xb) = ((0 : Int), false, false) ∧ i = q ∧ d = r2 ∧ (yc, ya, yb) = (vc, va, vb) ∧ j + q = n ∧ ((vc, va, vb) = ((0 : Int), false, false) ∧ n = k ∨ vc ≠ 0 ∧ n < k ∧ m = 2 * n + 1)) := by
        have h1 := Hcase.out
        rw [hel] at h1
        rcases Hlast.out with ⟨g1, g2, g3, g4⟩ | ⟨g1, g2, g3, g4, g5, g6⟩
        · rcases h1 with ⟨h1, h2⟩ | ⟨h1, h2, h3⟩
          · omega
          · exact .inl ⟨g1, g2, g3, g4, h1, h3⟩
        · exact .inr ⟨g1, g2, g3, g4, g5, g6, h1⟩
      clear Hcase Hlast
      rcases hcases with ⟨g1, rfl, g3, rfl, h1, h3⟩ | ⟨g1, g2, rfl, rfl, g5, g6, h1⟩
      · injection g3 with e1 g3
        injection g3 with e2 e3
        subst e1 e2 e3
        have f1 : ((i : Int) == (k : Int)) = false := beq_eq_false_iff_ne.2 (by omega)
        have f2 : (i : Int) < (k : Int) := by omega
        have f3 : (m : Int) = 2 * (i : Int) + 1 := by omega
        have f4 : (xc == 0) = false := beq_eq_false_iff_ne.2 h1
        have f5 : (i : Int) < (q : Int) := by omega
        clear h3 h1 X4'
        go_wp2_with fail
        refine (awake_any _).mono ?_
        rintro e w7 ⟨rfl, hb7⟩
        go_wp2_with fail
        go_ret
        exact ⟨rfl, lo_trans hL.out hb7⟩
      · injection g2 with e1 g2
        injection g2 with e2 e3
        injection g5 with e4 g5
        injection g5 with e5 e6
        subst e1 e2 e3 e4 e5 e6
        have f5 : ¬ (n : Int) < (i : Int) := by omega
        have f6 : (n : Int) - (i : Int) = (j : Int) := by omega
        have X4a : p1 = i → Calls Try.prog 14 #[.int .u8 c, .slice A1 (k - i) 0] w6 (RunPost w6 .u32 (d, (yc, ya, yb), j)) := fun h => by rw [if_pos h, show p1 - i = 0 by omega] at X4'; exact X4'
        have X4b : ¬ p1 = i → Calls Try.prog 14 #[.int .u8 c, .slice (A1.map (·.add (i * 2))) (k - i) (p1 - i)] w6 (RunPost w6 .u32 (d, (yc, ya, yb), j)) := fun h => by rw [if_neg h] at X4'; exact X4'
        have HX4a := Lib.hid X4a
        have HX4b := Lib.hid X4b
        clear X4' X4a X4b
        have f7 : (j : Int) ≤ 60 := by rcases h1 with ⟨_, h2⟩ | ⟨_, h2, _⟩ <;> omega
        have H1 := Lib.hid h1
        clear h1
        have hcc : (((yc, ya, yb) = ((0 : Int), false, false) ∧ n = k) ∨ (yc ≠ 0 ∧ n < k ∧ m = 2 * n + 1)) ∧ (p1 = i ∨ ¬ p1 = i) := ⟨H1.out, Classical.em _⟩
        clear H1
        rcases hcc with ⟨⟨h2, rfl⟩ | ⟨h2, h3, h4⟩, hpq | hpq⟩
        · injection h2 with e1 h2
          injection h2 with e2 e3
          subst e1 e2 e3
          have X := Lib.hid (HX4a.out hpq)
          clear HX4a HX4b
          go_upto_region 16 with fail
          go_wp2_with fail
          refine X.out.mono ?_
          rintro e w7 ⟨rfl, hb7⟩
          have hV := (hV.lo hb7).alloc (.cells #[.int .u32 0, .bool false, .bool false] 27)
          have hX := (hX.lo hb7).alloc (.cells #[.int .u32 0, .bool false, .bool false] 27)
          have hY := Blk.new w7 27 #[.int .u32 0, .bool false, .bool false]
          have hM := Lib.hid (lo_alloc (lo_trans hL.out hb7) (.cells #[.int .u32 0, .bool false, .bool false] 27))
          clear hb7 cV fV cX fX cW fW X
          go_upto_region 19 with fail
          generalize w7.heap.size = gy at *
          generalize w7.alloc (.cells #[.int .u32 0, .bool false, .bool false] 27) = w8 at *
          obtain ⟨cV, fV⟩ := hV.facts
          obtain ⟨cX, fX⟩ := hX.facts
          obtain ⟨cY, fY⟩ := hY.facts
          clear hV hX hY
          go_wp2_with fail
          refine (awake_any _).mono ?_
          rintro e w9 ⟨rfl, hb9⟩
          go_wp2_with fail
          go_ret
          exact ⟨rfl, lo_trans hM.out hb9⟩
        · injection h2 with e1 h2
          injection h2 with e2 e3
          subst e1 e2 e3
          have X := Lib.hid (HX4b.out hpq)
          clear HX4a HX4b
          go_upto_region 16 with fail
          go_wp2_with fail
          refine X.out.mono ?_
          rintro e w7 ⟨rfl, hb7⟩
          have hV := (hV.lo hb7).alloc (.cells #[.int .u32 0, .bool false, .bool false] 27)
          have hX := (hX.lo hb7).alloc (.cells #[.int .u32 0, .bool false, .bool false] 27)
          have hY := Blk.new w7 27 #[.int .u32 0, .bool false, .bool false]
          have hM := Lib.hid (lo_alloc (lo_trans hL.out hb7) (.cells #[.int .u32 0, .bool false, .bool false] 27))
          clear hb7 cV fV cX fX cW fW X
          go_upto_region 19 with fail
          generalize w7.heap.size = gy at *
          generalize w7.alloc (.cells #[.int .u32 0, .bool false, .bool false] 27) = w8 at *
          obtain ⟨cV, fV⟩ := hV.facts
          obtain ⟨cX, fX⟩ := hX.facts
          obtain ⟨cY, fY⟩ := hY.facts
          clear hV hX hY
          go_wp2_with fail
          refine (awake_any _).mono ?_
          rintro e w9 ⟨rfl, hb9⟩
          go_wp2_with fail
          go_ret
          exact ⟨rfl, lo_trans hM.out hb9⟩
        · have f1 : ((n : Int) == (k : Int)) = false := beq_eq_false_iff_ne.2 (by omega)
          have f2 : (n : Int) < (k : Int) := by omega
          have f3 : (m : Int) = 2 * (n : Int) + 1 := by omega
          have f4 : (yc == 0) = false := beq_eq_false_iff_ne.2 h2
          have X := Lib.hid (HX4a.out hpq)
          clear HX4a HX4b h3 h2 h4
          go_upto_region 16 with fail
          go_wp2_with fail
          refine X.out.mono ?_
          rintro e w7 ⟨rfl, hb7⟩
          have hV := (hV.lo hb7).alloc (.cells #[.int .u32 yc, .bool ya, .bool yb] 27)
          have hX := (hX.lo hb7).alloc (.cells #[.int .u32 yc, .bool ya, .bool yb] 27)
          have hY := Blk.new w7 27 #[.int .u32 yc, .bool ya, .bool yb]
          have hM := Lib.hid (lo_alloc (lo_trans hL.out hb7) (.cells #[.int .u32 yc, .bool ya, .bool yb] 27))
          clear hb7 cV fV cX fX cW fW X
          go_upto_region 19 with fail
          generalize w7.heap.size = gy at *
          generalize w7.alloc (.cells #[.int .u32 yc, .bool ya, .bool yb] 27) = w8 at *
          obtain ⟨cV, fV⟩ := hV.facts
          obtain ⟨cX, fX⟩ := hX.facts
          obtain ⟨cY, fY⟩ := hY.facts
          clear hV hX hY
          go_wp2_with fail
          refine (awake_any _).mono ?_
          rintro e w9 ⟨rfl, hb9⟩
          go_wp2_with fail
          go_ret
          exact ⟨rfl, lo_trans hM.out hb9⟩
        · have f1 : ((n : Int) == (k : Int)) = false := beq_eq_false_iff_ne.2 (by omega)
          have f2 : (n : Int) < (k : Int) := by omega
          have f3 : (m : Int) = 2 * (n : Int) + 1 := by omega
          have f4 : (yc == 0) = false := beq_eq_false_iff_ne.2 h2
          have X := Lib.hid (HX4b.out hpq)
          clear HX4a HX4b h3 h2 h4
          go_upto_region 16 with fail
          go_wp2_with fail
          refine X.out.mono ?_
          rintro e w7 ⟨rfl, hb7⟩
          have hV := (hV.lo hb7).alloc (.cells #[.int .u32 yc, .bool ya, .bool yb] 27)
          have hX := (hX.lo hb7).alloc (.cells #[.int .u32 yc, .bool ya, .bool yb] 27)
          have hY := Blk.new w7 27 #[.int .u32 yc, .bool ya, .bool yb]
          have hM := Lib.hid (lo_alloc (lo_trans hL.out hb7) (.cells #[.int .u32 yc, .bool ya, .bool yb] 27))
          clear hb7 cV fV cX fX cW fW X
          go_upto_region 19 with fail
          generalize w7.heap.size = gy at *
          generalize w7.alloc (.cells #[.int .u32 yc, .bool ya, .bool yb] 27) = w8 at *
          obtain ⟨cV, fV⟩ := hV.facts
          obtain ⟨cX, fX⟩ := hX.facts
          obtain ⟨cY, fY⟩ := hY.facts
          clear hV hX hY
          go_wp2_with fail
          refine (awake_any _).mono ?_
          rintro e w9 ⟨rfl, hb9⟩
          go_wp2_with fail
          go_ret
          exact ⟨rfl, lo_trans hM.out hb9⟩
end Go.Proofs.Ytlakblcabebjeaa
