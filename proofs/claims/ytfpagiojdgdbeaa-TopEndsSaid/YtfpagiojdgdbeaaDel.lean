import Derived.Test.YtfpagiojdgdbeaaPushW
namespace Go.Proofs.Ytfpagiojdgdbeaa
open Go.RowKit
attribute [local go_sem ↓] Go.wp_at_zero Go.wp_at_succ

section
variable {P : Program} (w : World)
/-- append in place, at a step of a region that draws its order. -/
theorem step_append_fits {ops : Array Oper} {o : Oper} {a : Act} {K : Act → World → Prop} {Q : Exit → Act → World → Prop} {E : Prop} (hgd : o.guard = none) (s x : Operand) (t : TypeId)
    (ho : o.op = .call { callee := .builtin .append, args := #[s, x], argTypes := #[t, t] })
    (base : Nat) (e : TypeId) (i : TypeInfo) (size : Nat) (ht : P.underlying t = some (.slice e)) (hi : P.info? e = some i) (hsize : i.size = size)
    (g n cap : Nat) (xs : List Value) (hs : a.eval s = .slice (some ⟨g, 0, none⟩) n cap) (hown : w.ownsRow base e size (.slice (some ⟨g, 0, none⟩) n cap) n xs)
    (ad : Addr) (m c : Nat) (news : List Value) (hx : a.eval x = .slice (some ad) m c) (hl : news.length = m * size) (hnews : ∀ j u, news[j]? = some u → w.cell? (ad.add j) = some u) (h1 : ∀ u ∈ news, u.oneCell' = true)
    (hroom : n + m ≤ cap) (N : Nat) (hN : n + m = N)
    (h : ∀ w', w'.ownsRow base e size (.slice (some ⟨g, 0, none⟩) N cap) N (xs ++ news) → w.grownBy w' (some g) → K (a.put o.dst (.slice (some ⟨g, 0, none⟩) N cap)) w') :
    if Region.wanted o (yielded ops a.tmps) = true then Oper.wp P o a w K Q else E := by
  subst hN
  have hw : Region.wanted o (yielded ops a.tmps) = true := by simp [Region.wanted, hgd]
  rw [if_pos hw]
  obtain ⟨w', hr, h2, h3⟩ := run_append_fits (P := P) w base t o.type e i size ht hi hsize g n cap xs hown ad m c news hl hnews h1 hroom
  unfold Oper.wp execOp
  simp only [ho, resolve, invoke, builtin, Sem.run_bind, Sem.run_pure, Result.andThen_ok, List.map_toArray, List.map_cons, List.map_nil, hs, hx, hr]
  exact h w' h2 h3
end
theorem own_prefix {w : World} {base e size g n cap k : Nat} {xs : List Value} (h : w.ownsRow base e size (.slice (some ⟨g, 0, none⟩) n cap) n xs) (hk : k ≤ n) : w.ownsRow base e size (.slice (some ⟨g, 0, none⟩) k cap) k (xs.take (k * size)) := by
  have hks : k * size ≤ n * size := Nat.mul_le_mul_right _ hk
  refine ⟨by rw [List.length_take, h.1]; omega, ?_⟩
  rcases h.2 with ⟨he, _⟩ | ⟨g', cap', cur, he, hb, hg, hnc, hcm, hcs, ht⟩
  · cases he
  · injection he with e1 e2 e3
    injection e1 with e1
    injection e1 with e1
    subst e1 e3
    exact .inr ⟨g, cap, cur, rfl, hb, hg, by omega, hcm, hcs, by rw [← ht, List.take_take, Nat.min_eq_left hks]⟩
theorem flat_take (l : List Rq) (k : Nat) : (l.flatMap cellsR).take (k * 4) = (l.take k).flatMap cellsR := by
  induction l generalizing k with
  | nil => simp
  | cons x t ih =>
    cases k with
    | zero => simp
    | succ k =>
      rw [List.take_succ_cons, List.flatMap_cons, List.flatMap_cons, ← ih k, show (k + 1) * 4 = (cellsR x).length + k * 4 by rw [cellsR_len]; omega, List.take_length_add_append]
def zero4 : List Value := [.int .i64 0, .int .i64 0, .int .i64 0, .int .i64 0]
theorem run_clear_one (w : World) (g : Nat) (cur : Array Value) (hg : w.heap[g]? = some (.cells cur 68 (0, 0))) (o c : Nat) (ho : o + 4 ≤ cur.size) (ty : TypeId) :
    (Builtin.clear_ #[56] ty #[.slice (some ⟨g, o, none⟩) 1 c]).run Try.prog w = .ok (.tuple #[]) (w.setRow g (cur.toList.take o ++ zero4 ++ cur.toList.drop (o + 4)).toArray) := by
  have hst := run_storeCells_at (P := Try.prog) g o 68 zero4 0 cur w hg (by simpa [zero4] using ho) (by intro u hu; simp [zero4] at hu; subst hu; rfl)
  rw [Nat.add_zero, show zero4.length = 4 from rfl] at hst
  have hzc : ∀ w, (zeroValue 68).run Try.prog w = .ok (.agg #[.int .i64 0, .int .i64 0, .int .i64 0, .int .i64 0]) w := fun _ => by kernel_rfl
  have hz : (Builtin.zeroCells (Value.agg #[.int .i64 0, .int .i64 0, .int .i64 0, .int .i64 0]).cells 1).toList = zero4 := by kernel_rfl
  simp [Builtin.clear_, run_underlying Try.underlying56, hzc, hz, hst]
theorem own_setRow {w : World} {base g n cap : Nat} {xs : List Value} (h : w.ownsRow base 68 4 (.slice (some ⟨g, 0, none⟩) n cap) n xs) (hn : n + 1 ≤ cap) :
    ∃ cur, w.heap[g]? = some (.cells cur 68 (0, 0)) ∧ n * 4 + 4 ≤ cur.size ∧ (w.setRow g (cur.toList.take (n * 4) ++ zero4 ++ cur.toList.drop (n * 4 + 4)).toArray).ownsRow base 68 4 (.slice (some ⟨g, 0, none⟩) n cap) n xs ∧ w.grownBy (w.setRow g (cur.toList.take (n * 4) ++ zero4 ++ cur.toList.drop (n * 4 + 4)).toArray) (some g) := by
  rcases h.2 with ⟨he, _⟩ | ⟨g', cap', cur, he, hb, hg, hnc, hcm, hcs, ht⟩
  · cases he
  · injection he with e1 e2 e3
    injection e1 with e1
    injection e1 with e1
    subst e1 e3
    have hsz : n * 4 + 4 ≤ cur.size := by omega
    refine ⟨cur, hg, hsz, ⟨h.1, .inr ⟨g, cap, _, rfl, hb, setRow_heap w g cur _ 68 _ hg, hnc, hcm, ?_, ?_⟩⟩, ⟨rfl, rfl, rfl, by simp, fun k _ hk => setRow_other w g k _ (fun e => hk (by simp [e]))⟩⟩
    · simp only [List.size_toArray, List.length_append, List.length_take, List.length_drop, Array.length_toList, show zero4.length = 4 from rfl]
      omega
    · rw [List.append_assoc, List.take_append_of_le_length (by rw [List.length_take, Array.length_toList]; omega), List.take_take, Nat.min_self, ht]
set_option maxRecDepth 100000 in
set_option maxHeartbeats 3200000 in
theorem del_ok (base g cap q : Nat) (l : List Rq) (hlq : l.length = q + 1) (k : Nat) (hk : k < q + 1) (w : World) (hown : w.ownsRow base 68 4 (.slice (some ⟨g, 0, none⟩) (q + 1) cap) (q + 1) (l.flatMap cellsR)) (hn : q ≤ 1000) :
    Calls Try.prog 32 #[.slice (some ⟨g, 0, none⟩) (q + 1) cap, .int .i64 k, .int .i64 (k + 1)] w fun e w' => e = .returned (.slice (some ⟨g, 0, none⟩) q cap) ∧ w'.ownsRow base 68 4 (.slice (some ⟨g, 0, none⟩) q cap) q ((l.eraseIdx k).flatMap cellsR) ∧ w.grownBy w' (some g) := by
  obtain ⟨i0, hi, hz0, hz1, hz2⟩ := info_parts info68
  obtain ⟨hcap, hcm⟩ : q + 1 ≤ cap ∧ cap ≤ maxLen := by
    rcases hown.2 with ⟨he, _⟩ | ⟨g', cap', cur, he, hb, hg, hnc, hcm, hcs, ht⟩
    · cases he
    · injection he with e1 e2 e3
      subst e3
      exact ⟨hnc, hcm⟩
  have hpre := own_prefix hown (k := k) (by omega)
  rw [flat_take] at hpre
  have hnews : ∀ j u, ((l.drop (k + 1)).flatMap cellsR)[j]? = some u → w.cell? ⟨g, (k + 1) * 4 + j, none⟩ = some u := fun j u hu => by
    have hj := (List.getElem?_eq_some_iff.1 hu).1
    rw [flatMap_len cellsR_len, List.length_drop] at hj
    have hd : (l.drop (k + 1)).flatMap cellsR = (l.flatMap cellsR).drop ((k + 1) * 4) := by
      conv => rhs; rw [← List.take_append_drop (k + 1) l, List.flatMap_append]
      rw [List.drop_left' (by rw [flatMap_len cellsR_len, List.length_take]; omega)]
    rw [hd, List.getElem?_drop] at hu
    rw [hown.cellAt _ (by omega)]
    exact hu
  have hers : (l.take k).flatMap cellsR ++ (l.drop (k + 1)).flatMap cellsR = (l.eraseIdx k).flatMap cellsR := by rw [← List.flatMap_append, List.eraseIdx_eq_take_drop_succ]
  have HPre := Lib.hid hpre
  have HE := Lib.hid hers
  unfold maxLen at hcm
  have b0 : (0 : Int) ≤ (k : Int) := by omega
  have b1 : (k : Int) ≤ (k : Int) + 1 := by omega
  have b2 : (k : Int) + 1 ≤ ((q + 1 : Nat) : Int) := by omega
  have b3 : ((q + 1 : Nat) : Int) ≤ (cap : Int) := by omega
  have b4 : ¬ (k : Int) = (k : Int) + 1 := by omega
  have b5 : (k : Int) ≤ (cap : Int) := by omega
  have b6 : (k : Int) ≤ (q : Int) := by omega
  have HO := Lib.hid hown
  have HN := Lib.hid hnews
  clear hpre hnews hers hown
  go_enter Try.func32, Try.ntmps32
  go_upto_region 5 with fail
  by_cases hce : cap = k + 1
  · have hkq : k = q := by omega
    subst hkq hce
    have b7 : (k + 1 : Int) ≤ ((k + 1 : Nat) : Int) := by omega
    have b8 : (0 : Int) ≤ (k : Int) + 1 := by omega
    have b9 : ((k : Int) + 1).toNat = k + 1 := by omega
    have hdn : l.drop (k + 1) = [] := List.drop_eq_nil_of_le (by omega)
    refine wp_region_held_drew (S := (fun _ => True)) (by kernel_rfl) ?_ (fun hHeld => ?_)
    focus ((try dsimp only); done)
    have hgd : w.grownBy w.drew (some g) := ⟨rfl, rfl, rfl, Nat.le_refl _, fun _ _ _ => rfl⟩
    replace HPre : Hid (w.drew.ownsRow _ _ _ _ _ _) := HPre
    replace HN : Hid (∀ (j : Nat) (u : Value), _ → w.drew.cell? _ = _) := HN
    generalize w.drew = wd at HPre HN hgd hHeld ⊢
    first
    | (refine wpAnyH_take (i := 0) (oi := _) (v := ?_) (getop rfl) (by kernel_rfl) (by kernel_rfl) (by kernel_rfl) (fun _ _ _ h => h) (Or.inl ⟨by rfl, ?_⟩) (by assumption) ?_; rotate_left; focus (intro w hSw; (try dsimp only at hSw); go_simp; (try with_reducible rfl); done))
    | (refine wpAnyH_take (i := 0) (oi := _) (v := undef) (getop rfl) (by kernel_rfl) (by kernel_rfl) (by kernel_rfl) (fun _ _ _ h => h) (Or.inr ⟨by rfl, rfl⟩) (by assumption) ?_)
    (try simp only [Act.put, List.setIfInBounds_toArray, List.set_cons_zero, List.set_cons_succ])
    first
    | (refine wpAnyH_take (i := 1) (oi := _) (v := ?_) (getop rfl) (by kernel_rfl) (by kernel_rfl) (by kernel_rfl) (fun _ _ _ h => h) (Or.inl ⟨by rfl, ?_⟩) (by assumption) ?_; rotate_left; focus (intro w hSw; (try dsimp only at hSw); go_simp; (try with_reducible rfl); done))
    | (refine wpAnyH_take (i := 1) (oi := _) (v := undef) (getop rfl) (by kernel_rfl) (by kernel_rfl) (by kernel_rfl) (fun _ _ _ h => h) (Or.inr ⟨by rfl, rfl⟩) (by assumption) ?_)
    (try simp only [Act.put, List.setIfInBounds_toArray, List.set_cons_zero, List.set_cons_succ])
    first
    | (refine wpAnyH_take (i := 3) (oi := _) (v := ?_) (getop rfl) (by kernel_rfl) (by kernel_rfl) (by kernel_rfl) (fun _ _ _ h => h) (Or.inl ⟨by rfl, ?_⟩) (by assumption) ?_; rotate_left; focus (intro w hSw; (try dsimp only at hSw); go_simp; (try with_reducible rfl); done))
    | (refine wpAnyH_take (i := 3) (oi := _) (v := undef) (getop rfl) (by kernel_rfl) (by kernel_rfl) (by kernel_rfl) (fun _ _ _ h => h) (Or.inr ⟨by rfl, rfl⟩) (by assumption) ?_)
    (try simp only [Act.put, List.setIfInBounds_toArray, List.set_cons_zero, List.set_cons_succ])
    first
    | (refine wpAnyH_take (i := 4) (oi := _) (v := ?_) (getop rfl) (by kernel_rfl) (by kernel_rfl) (by kernel_rfl) (fun _ _ _ h => h) (Or.inl ⟨by rfl, ?_⟩) (by assumption) ?_; rotate_left; focus (intro w hSw; (try dsimp only at hSw); go_simp; (try with_reducible rfl); done))
    | (refine wpAnyH_take (i := 4) (oi := _) (v := undef) (getop rfl) (by kernel_rfl) (by kernel_rfl) (by kernel_rfl) (fun _ _ _ h => h) (Or.inr ⟨by rfl, rfl⟩) (by assumption) ?_)
    (try simp only [Act.put, List.setIfInBounds_toArray, List.set_cons_zero, List.set_cons_succ])
    first
    | (refine wpAnyH_take (i := 2) (oi := _) (v := ?_) (getop rfl) (by kernel_rfl) (by kernel_rfl) (by kernel_rfl) (fun _ _ _ h => h) (Or.inl ⟨by rfl, ?_⟩) (by assumption) ?_; rotate_left; focus (intro w hSw; (try dsimp only at hSw); go_simp; (try with_reducible rfl); done))
    | (refine wpAnyH_take (i := 2) (oi := _) (v := undef) (getop rfl) (by kernel_rfl) (by kernel_rfl) (by kernel_rfl) (fun _ _ _ h => h) (Or.inr ⟨by rfl, rfl⟩) (by assumption) ?_)
    (try simp only [Act.put, List.setIfInBounds_toArray, List.set_cons_zero, List.set_cons_succ])
    first
    | (refine wpAnyH_take (i := 5) (oi := _) (v := ?_) (getop rfl) (by kernel_rfl) (by kernel_rfl) (by kernel_rfl) (fun _ _ _ h => h) (Or.inl ⟨by rfl, ?_⟩) (by assumption) ?_; rotate_left; focus (intro w hSw; (try dsimp only at hSw); go_simp; (try with_reducible rfl); done))
    | (refine wpAnyH_take (i := 5) (oi := _) (v := undef) (getop rfl) (by kernel_rfl) (by kernel_rfl) (by kernel_rfl) (fun _ _ _ h => h) (Or.inr ⟨by rfl, rfl⟩) (by assumption) ?_)
    (try simp only [Act.put, List.setIfInBounds_toArray, List.set_cons_zero, List.set_cons_succ])
    refine wpAnyH_ready (rs := [6]) (by kernel_rfl) (by simp) ?_
    refine (AllReadyH.cons (o := _) (getop rfl) (fun K hK => ?_) AllReadyH.nil)
    refine step_append_fits _ rfl (.tmp 22) (.tmp 25) 56 rfl base 68 i0 4 Try.underlying56 hi hz1 g k (k + 1) ((l.take k).flatMap cellsR) rfl HPre.out ⟨g, 0, none⟩ 0 _ ((l.drop (k + 1)).flatMap cellsR) rfl (by rw [flatMap_len cellsR_len, List.length_drop, hlq]; omega) (by rw [hdn]; intro j u hu; simp at hu) (one_flat _) (by omega) k (by omega) ?_
    intro wz0 hwn hgr
    refine hK.out _ _ ?_ (fun hHeld6 => ?_)
    focus ((try dsimp only); done)
    clear hK K hHeld
    have hHeld := hHeld6
    clear hHeld6
    (try simp only [Act.put, List.setIfInBounds_toArray, List.set_cons_zero, List.set_cons_succ])
    first
    | (refine wpAnyH_take (i := 7) (oi := _) (v := ?_) (getop rfl) (by kernel_rfl) (by kernel_rfl) (by kernel_rfl) (fun _ _ _ h => h) (Or.inl ⟨by rfl, ?_⟩) (by assumption) ?_; rotate_left; focus (intro w hSw; (try dsimp only at hSw); go_simp; (try with_reducible rfl); done))
    | (refine wpAnyH_take (i := 7) (oi := _) (v := undef) (getop rfl) (by kernel_rfl) (by kernel_rfl) (by kernel_rfl) (fun _ _ _ h => h) (Or.inr ⟨by rfl, rfl⟩) (by assumption) ?_)
    (try simp only [Act.put, List.setIfInBounds_toArray, List.set_cons_zero, List.set_cons_succ])
    refine wpAnyH_done (by kernel_rfl) ?_ _
    rw [HE.out] at hwn
    obtain ⟨cur, hcg, hcs, hown2, hgr2⟩ := own_setRow hwn (by omega)
    have hclr := fun c => run_clear_one wz0 g cur hcg (k * 4) c (by omega)
    generalize wz0.setRow g (cur.toList.take (k * 4) ++ zero4 ++ cur.toList.drop (k * 4 + 4)).toArray = wf at hclr hown2 hgr2
    have HR := Lib.hid (And.intro hown2 (World.grownBy.trans (World.grownBy.trans hgd hgr) hgr2))
    clear hown2 hgr2 hgr hgd hwn hcg
    have c1 : (k : Int) ≤ ((k + 1 : Nat) : Int) := by omega
    have c2 : ¬ (k + 1) = k := by omega
    go_wp2_with fail
    go_ret
    exact ⟨rfl, HR.out⟩
  · have hce2 : ¬ cap = k + 1 := hce
    clear hce
    have b8 : (0 : Int) ≤ (k : Int) + 1 := by omega
    have b9 : ((k : Int) + 1).toNat = k + 1 := by omega
    refine wp_region_held_drew (S := (fun _ => True)) (by kernel_rfl) ?_ (fun hHeld => ?_)
    focus ((try dsimp only); done)
    have hgd : w.grownBy w.drew (some g) := ⟨rfl, rfl, rfl, Nat.le_refl _, fun _ _ _ => rfl⟩
    replace HPre : Hid (w.drew.ownsRow _ _ _ _ _ _) := HPre
    replace HN : Hid (∀ (j : Nat) (u : Value), _ → w.drew.cell? _ = _) := HN
    generalize w.drew = wd at HPre HN hgd hHeld ⊢
    first
    | (refine wpAnyH_take (i := 0) (oi := _) (v := ?_) (getop rfl) (by kernel_rfl) (by kernel_rfl) (by kernel_rfl) (fun _ _ _ h => h) (Or.inl ⟨by rfl, ?_⟩) (by assumption) ?_; rotate_left; focus (intro w hSw; (try dsimp only at hSw); go_simp; (try with_reducible rfl); done))
    | (refine wpAnyH_take (i := 0) (oi := _) (v := undef) (getop rfl) (by kernel_rfl) (by kernel_rfl) (by kernel_rfl) (fun _ _ _ h => h) (Or.inr ⟨by rfl, rfl⟩) (by assumption) ?_)
    (try simp only [Act.put, List.setIfInBounds_toArray, List.set_cons_zero, List.set_cons_succ])
    first
    | (refine wpAnyH_take (i := 1) (oi := _) (v := ?_) (getop rfl) (by kernel_rfl) (by kernel_rfl) (by kernel_rfl) (fun _ _ _ h => h) (Or.inl ⟨by rfl, ?_⟩) (by assumption) ?_; rotate_left; focus (intro w hSw; (try dsimp only at hSw); go_simp; (try with_reducible rfl); done))
    | (refine wpAnyH_take (i := 1) (oi := _) (v := undef) (getop rfl) (by kernel_rfl) (by kernel_rfl) (by kernel_rfl) (fun _ _ _ h => h) (Or.inr ⟨by rfl, rfl⟩) (by assumption) ?_)
    (try simp only [Act.put, List.setIfInBounds_toArray, List.set_cons_zero, List.set_cons_succ])
    first
    | (refine wpAnyH_take (i := 3) (oi := _) (v := ?_) (getop rfl) (by kernel_rfl) (by kernel_rfl) (by kernel_rfl) (fun _ _ _ h => h) (Or.inl ⟨by rfl, ?_⟩) (by assumption) ?_; rotate_left; focus (intro w hSw; (try dsimp only at hSw); go_simp; (try with_reducible rfl); done))
    | (refine wpAnyH_take (i := 3) (oi := _) (v := undef) (getop rfl) (by kernel_rfl) (by kernel_rfl) (by kernel_rfl) (fun _ _ _ h => h) (Or.inr ⟨by rfl, rfl⟩) (by assumption) ?_)
    (try simp only [Act.put, List.setIfInBounds_toArray, List.set_cons_zero, List.set_cons_succ])
    first
    | (refine wpAnyH_take (i := 4) (oi := _) (v := ?_) (getop rfl) (by kernel_rfl) (by kernel_rfl) (by kernel_rfl) (fun _ _ _ h => h) (Or.inl ⟨by rfl, ?_⟩) (by assumption) ?_; rotate_left; focus (intro w hSw; (try dsimp only at hSw); go_simp; (try with_reducible rfl); done))
    | (refine wpAnyH_take (i := 4) (oi := _) (v := undef) (getop rfl) (by kernel_rfl) (by kernel_rfl) (by kernel_rfl) (fun _ _ _ h => h) (Or.inr ⟨by rfl, rfl⟩) (by assumption) ?_)
    (try simp only [Act.put, List.setIfInBounds_toArray, List.set_cons_zero, List.set_cons_succ])
    first
    | (refine wpAnyH_take (i := 2) (oi := _) (v := ?_) (getop rfl) (by kernel_rfl) (by kernel_rfl) (by kernel_rfl) (fun _ _ _ h => h) (Or.inl ⟨by rfl, ?_⟩) (by assumption) ?_; rotate_left; focus (intro w hSw; (try dsimp only at hSw); go_simp; (try with_reducible rfl); done))
    | (refine wpAnyH_take (i := 2) (oi := _) (v := undef) (getop rfl) (by kernel_rfl) (by kernel_rfl) (by kernel_rfl) (fun _ _ _ h => h) (Or.inr ⟨by rfl, rfl⟩) (by assumption) ?_)
    (try simp only [Act.put, List.setIfInBounds_toArray, List.set_cons_zero, List.set_cons_succ])
    first
    | (refine wpAnyH_take (i := 5) (oi := _) (v := ?_) (getop rfl) (by kernel_rfl) (by kernel_rfl) (by kernel_rfl) (fun _ _ _ h => h) (Or.inl ⟨by rfl, ?_⟩) (by assumption) ?_; rotate_left; focus (intro w hSw; (try dsimp only at hSw); go_simp; (try with_reducible rfl); done))
    | (refine wpAnyH_take (i := 5) (oi := _) (v := undef) (getop rfl) (by kernel_rfl) (by kernel_rfl) (by kernel_rfl) (fun _ _ _ h => h) (Or.inr ⟨by rfl, rfl⟩) (by assumption) ?_)
    (try simp only [Act.put, List.setIfInBounds_toArray, List.set_cons_zero, List.set_cons_succ])
    refine wpAnyH_ready (rs := [6]) (by kernel_rfl) (by simp) ?_
    refine (AllReadyH.cons (o := _) (getop rfl) (fun K hK => ?_) AllReadyH.nil)
    refine step_append_fits _ rfl (.tmp 22) (.tmp 25) 56 rfl base 68 i0 4 Try.underlying56 hi hz1 g k cap ((l.take k).flatMap cellsR) rfl HPre.out ⟨g, (k + 1) * 4, none⟩ (q - k) _ ((l.drop (k + 1)).flatMap cellsR) rfl (by rw [flatMap_len cellsR_len, List.length_drop, hlq]; omega) (fun j u hu => by rw [add_none]; exact HN.out j u hu) (one_flat _) (by omega) q (by omega) ?_
    intro wz0 hwn hgr
    refine hK.out _ _ ?_ (fun hHeld6 => ?_)
    focus ((try dsimp only); done)
    clear hK K hHeld
    have hHeld := hHeld6
    clear hHeld6
    (try simp only [Act.put, List.setIfInBounds_toArray, List.set_cons_zero, List.set_cons_succ])
    first
    | (refine wpAnyH_take (i := 7) (oi := _) (v := ?_) (getop rfl) (by kernel_rfl) (by kernel_rfl) (by kernel_rfl) (fun _ _ _ h => h) (Or.inl ⟨by rfl, ?_⟩) (by assumption) ?_; rotate_left; focus (intro w hSw; (try dsimp only at hSw); go_simp; (try with_reducible rfl); done))
    | (refine wpAnyH_take (i := 7) (oi := _) (v := undef) (getop rfl) (by kernel_rfl) (by kernel_rfl) (by kernel_rfl) (fun _ _ _ h => h) (Or.inr ⟨by rfl, rfl⟩) (by assumption) ?_)
    (try simp only [Act.put, List.setIfInBounds_toArray, List.set_cons_zero, List.set_cons_succ])
    refine wpAnyH_done (by kernel_rfl) ?_ _
    rw [HE.out] at hwn
    obtain ⟨cur, hcg, hcs, hown2, hgr2⟩ := own_setRow hwn (by omega)
    have hclr := fun c => run_clear_one wz0 g cur hcg (q * 4) c (by omega)
    generalize wz0.setRow g (cur.toList.take (q * 4) ++ zero4 ++ cur.toList.drop (q * 4 + 4)).toArray = wf at hclr hown2 hgr2
    have HR := Lib.hid (And.intro hown2 (World.grownBy.trans (World.grownBy.trans hgd hgr) hgr2))
    clear hown2 hgr2 hgr hgd hwn hcg
    have c1 : (q : Int) ≤ ((q + 1 : Nat) : Int) := by omega
    have c2 : ¬ cap = q := by omega
    go_wp2_with fail
    go_ret
    exact ⟨rfl, HR.out⟩
end Go.Proofs.Ytfpagiojdgdbeaa
