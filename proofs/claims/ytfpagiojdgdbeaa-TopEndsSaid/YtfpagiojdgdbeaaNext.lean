import Derived.Test.YtfpagiojdgdbeaaRow
namespace Go.Proofs.Ytfpagiojdgdbeaa
open Go.RowKit
attribute [local go_sem ↓] Go.wp_at_zero Go.wp_at_succ

theorem own_set {w : World} {base e size n : Nat} {v : Value} {xs : List Value} (h : w.ownsRow base e size v n xs) {p : Addr} (hp : p.block < base) (u : Value) : (w.setCell p u).ownsRow base e size v n xs := by
  refine h.kept (row := some p.block) ⟨rfl, rfl, rfl, by simp, fun k _ hk => heap_setCell_other w p k u (fun e => hk (by simp [e]))⟩ ?_
  cases hv : v.ownBlock with
  | none => exact .inl rfl
  | some g =>
    have := (h.lt g hv).1
    exact .inr fun e => by injection e with e; omega
set_option maxRecDepth 100000 in
set_option maxHeartbeats 1600000 in
theorem own_any (lim : Int) (A : Option Addr) (n cap : Nat) (l : List Rq) (w : World) (hl : Rqs w A n cap l) (hn : n ≤ 1000) : Calls Try.prog 30 #[.agg #[.int .i64 lim, .slice A n cap]] w (OwnPost w lim l) := by
  have H : Hid (∀ w0, Rqs w0 A n cap l → Calls Try.prog 48 #[.slice A n cap] w0 (RowPost w0 l)) := Lib.hid fun w0 h0 => clone_any A n cap l w0 h0 hn
  have HL := Lib.hid hl
  have hQ := (Blk.new w 58 #[.int .i64 lim, .slice A n cap]).alloc (.cells #[.int .i64 0, .slice none 0 0] 58)
  have hR := Blk.new (w.alloc (.cells #[.int .i64 lim, .slice A n cap] 58)) 58 #[.int .i64 0, .slice none 0 0]
  have hL := lo_alloc (lo_alloc (lo_refl w) (.cells #[.int .i64 lim, .slice A n cap] 58)) (.cells #[.int .i64 0, .slice none 0 0] 58)
  simp only [World.size_alloc] at hR
  clear hl
  obtain ⟨cQ, fQ⟩ := hQ.facts
  go_enter Try.func30, Try.ntmps30
  go_wp2_with fail
  refine (H.out _ (agg_lo HL.out hL)).mono ?_
  rintro e w1 ⟨base, u, h1, h2, rfl, hown, hb⟩
  obtain ⟨A2, cap2, rfl, _, _⟩ := own_shape hown
  simp only [World.size_alloc] at h1
  clear cQ fQ
  replace hQ := hQ.lo hb
  replace hR := hR.lo hb
  have lQ := hQ.lt
  have lR := hR.lt
  replace hL := lo_trans hL hb
  clear hb
  obtain ⟨cQ, fQ⟩ := hQ.facts
  obtain ⟨cR, fR⟩ := hR.facts
  go_wp2_with fail
  refine bodyPost_ret (v := .agg #[.int .i64 lim, .slice A2 l.length cap2]) (by simp [results, Try.results30, go_sem, cR] <;> rfl) rfl ⟨base, .slice A2 l.length cap2, by omega, ?_, rfl, ?_, ?_⟩
  · simpa using h2
  · refine own_set (own_set (own_set hown ?_ _) ?_ _) ?_ _ <;> (dsimp only; omega)
  · have hl2 := hL
    repeat' (first | with_reducible exact hl2 | with_reducible apply lo_set | (dsimp only; omega) | simp)
theorem run_52 : ∀ args w, (callFunc 52 args).run Try.prog w = .ok (.enter 52 args) w := enters_52
set_option maxRecDepth 100000 in
set_option maxHeartbeats 3200000 in
theorem min_ok (A : Option Addr) (n cap : Nat) (l : List Rq) (w : World) (hl : Rqs w A n cap l) (hr : ∀ x ∈ l, x.right) (hn : 0 < n) (hn2 : n ≤ 1000) : Calls Try.prog 51 #[.slice A n cap, .func (.func 52) #[] #[]] w fun e w' => (∃ x ∈ l, e = .returned (.agg #[.int .i64 x.id, .int .i64 x.rank, .int .i64 x.left, .int .i64 x.passed])) ∧ Below w.heap.size w w' := by
  have eg := enters_52
  have HL := Lib.hid hl
  have HR := Lib.hid hr
  have hln := hl.1
  clear hr hl
  have hZ := Blk.new w 68 #[.int .i64 0, .int .i64 0, .int .i64 0, .int .i64 0]
  have hL := lo_alloc (lo_refl w) (.cells #[.int .i64 0, .int .i64 0, .int .i64 0, .int .i64 0] 68)
  obtain ⟨b, off, rfl, hlt, hc⟩ := HL.out.2.2.2.2.1 0 l[0] (List.getElem?_eq_getElem (by omega))
  have hc0 := ((lo_cell hL).1 b _ hlt).trans (hc 0 _ rfl)
  have hc1 := ((lo_cell hL).1 b _ hlt).trans (hc 1 _ rfl)
  have hc2 := ((lo_cell hL).1 b _ hlt).trans (hc 2 _ rfl)
  have hc3 := ((lo_cell hL).1 b _ hlt).trans (hc 3 _ rfl)
  simp only [Nat.zero_mul, Nat.add_zero] at hc0 hc1 hc2 hc3
  have hx0 : l[0] ∈ l := List.getElem_mem _
  generalize l[0] = x0 at hc0 hc1 hc2 hc3 hx0
  have hM := Blk.new (w.alloc (.cells #[.int .i64 0, .int .i64 0, .int .i64 0, .int .i64 0] 68)) 68 #[.int .i64 x0.id, .int .i64 x0.rank, .int .i64 x0.left, .int .i64 x0.passed]
  have HX0 := Lib.hid hx0
  clear hc hx0
  simp only [World.size_alloc] at hM
  replace hL := lo_alloc hL (.cells #[.int .i64 x0.id, .int .i64 x0.rank, .int .i64 x0.left, .int .i64 x0.passed] 68)
  replace hZ := hZ.alloc (.cells #[.int .i64 x0.id, .int .i64 x0.rank, .int .i64 x0.left, .int .i64 x0.passed] 68)
  have hlw : b < (w.alloc (.cells #[.int .i64 0, .int .i64 0, .int .i64 0, .int .i64 0] 68)).heap.size := by simp; omega
  go_enter Try.func51, Try.ntmps51
  go_wp2_with fail
  have hgm : w.heap.size < w.heap.size + 1 := by omega
  have hgw : w.heap.size ≤ w.heap.size + 1 := by omega
  simp only [World.size_alloc] at hlw ⊢
  have HC : Hid (∀ k (h : k < l.length) W, Below w.heap.size w W → W.cell? ⟨b, off + k * 4, none⟩ = some (.int .i64 l[k].id) ∧ W.cell? ⟨b, off + k * 4 + 1, none⟩ = some (.int .i64 l[k].rank) ∧ W.cell? ⟨b, off + k * 4 + 2, none⟩ = some (.int .i64 l[k].left) ∧ W.cell? ⟨b, off + k * 4 + 3, none⟩ = some (.int .i64 l[k].passed) ∧ b < W.heap.size) := Lib.hid fun k h W hb => by
    obtain ⟨b', off', he, hlt', hc'⟩ := HL.out.2.2.2.2.1 k l[k] (List.getElem?_eq_getElem (by omega))
    injection he with he
    injection he with e1 e2
    subst e1 e2
    have d0 := ((lo_cell hb).1 b _ hlt').trans (hc' 0 _ rfl)
    simp only [Nat.add_zero] at d0
    exact ⟨d0, ((lo_cell hb).1 b _ hlt').trans (hc' 1 _ rfl), ((lo_cell hb).1 b _ hlt').trans (hc' 2 _ rfl), ((lo_cell hb).1 b _ hlt').trans (hc' 3 _ rfl), Nat.lt_of_lt_of_le hlt' hb.size⟩
  generalize w.heap.size + 1 = gm at hM hgm hgw ⊢
  clear hc0 hc1 hc2 hc3 hlw HL
  go_loopw [6] (fun y wr => ∃ (k : Nat) (m : Rq), k ≤ n ∧ y = .int .i64 k ∧ Hid (m ∈ l) ∧ Blk wr gm 68 #[.int .i64 m.id, .int .i64 m.rank, .int .i64 m.left, .int .i64 m.passed] ∧ Blk wr w.heap.size 68 #[.int .i64 0, .int .i64 0, .int .i64 0, .int .i64 0] ∧ Below w.heap.size w wr) (fun y _ => n - (intOf y).toNat)
  case atStart => exact ⟨1, x0, by omega, rfl, HX0, hM, hZ, hL⟩
  case round =>
  clear hM hZ hL
  obtain ⟨k, m, hk, rfl, HML, hM, hZ, hL⟩ := hrel
  by_cases hkl : k < n
  · have hkl' : (k : Int) < (n : Int) := by omega
    have hc := HC.out k (by omega)
    have hxl : l[k] ∈ l := List.getElem_mem _
    generalize l[k] = x at hc hxl
    have HD : Hid (∀ w0, Calls Try.prog 52 #[.agg #[.int .i64 x.id, .int .i64 x.rank, .int .i64 x.left, .int .i64 x.passed], .agg #[.int .i64 m.id, .int .i64 m.rank, .int .i64 m.left, .int .i64 m.passed]] w0 (IntPost w0 (x.rank - m.rank))) := Lib.hid fun w0 => ranks_any x m (HR.out x hxl) (HR.out m HML.out) w0
    have HXL := Lib.hid hxl
    have HC := Lib.hid hc
    clear hc hxl
    go_upto_region 7 with fail
    refine wp_region_held_drew (S := (fun W => W.cell? ⟨gm, 0, none⟩ = some (.int .i64 m.id) ∧ W.cell? ⟨gm, 1, none⟩ = some (.int .i64 m.rank) ∧ W.cell? ⟨gm, 2, none⟩ = some (.int .i64 m.left) ∧ W.cell? ⟨gm, 3, none⟩ = some (.int .i64 m.passed) ∧ gm < W.heap.size ∧ W.cell? ⟨b, off + k * 4, none⟩ = some (.int .i64 x.id) ∧ W.cell? ⟨b, off + k * 4 + 1, none⟩ = some (.int .i64 x.rank) ∧ W.cell? ⟨b, off + k * 4 + 2, none⟩ = some (.int .i64 x.left) ∧ W.cell? ⟨b, off + k * 4 + 3, none⟩ = some (.int .i64 x.passed) ∧ b < W.heap.size)) (by kernel_rfl) ?_ (fun hHeld => ?_)
    focus ((try dsimp only); (have q := hM.facts.1; have r := HC.out _ hL; exact ⟨q 0, q 1, q 2, q 3, hM.lt, r⟩))
    replace hM : Blk wr.drew _ _ _ := hM
    replace hZ : Blk wr.drew _ _ _ := hZ
    replace hL := lo_drew hL
    generalize wr.drew = wd at hM hZ hL hHeld ⊢
    first
    | (refine wpAnyH_take (i := 0) (oi := _) (v := ?_) (getop rfl) (by kernel_rfl) (by kernel_rfl) (by kernel_rfl) (fun _ _ _ h => h) (Or.inl ⟨by rfl, ?_⟩) (by assumption) ?_; rotate_left; focus (intro w hSw; (try dsimp only at hSw); go_simp; (try with_reducible rfl); done))
    | (refine wpAnyH_take (i := 0) (oi := _) (v := undef) (getop rfl) (by kernel_rfl) (by kernel_rfl) (by kernel_rfl) (fun _ _ _ h => h) (Or.inr ⟨by rfl, rfl⟩) (by assumption) ?_)
    (try simp only [Act.put, List.setIfInBounds_toArray, List.set_cons_zero, List.set_cons_succ])
    first
    | (refine wpAnyH_take (i := 1) (oi := _) (v := ?_) (getop rfl) (by kernel_rfl) (by kernel_rfl) (by kernel_rfl) (fun _ _ _ h => h) (Or.inl ⟨by rfl, ?_⟩) (by assumption) ?_; rotate_left; focus (intro w hSw; (try dsimp only at hSw); go_simp; (try with_reducible rfl); done))
    | (refine wpAnyH_take (i := 1) (oi := _) (v := undef) (getop rfl) (by kernel_rfl) (by kernel_rfl) (by kernel_rfl) (fun _ _ _ h => h) (Or.inr ⟨by rfl, rfl⟩) (by assumption) ?_)
    (try simp only [Act.put, List.setIfInBounds_toArray, List.set_cons_zero, List.set_cons_succ])
    first
    | (refine wpAnyH_take (i := 2) (oi := _) (v := ?_) (getop rfl) (by kernel_rfl) (by kernel_rfl) (by kernel_rfl) (fun _ _ _ h => h) (Or.inl ⟨by rfl, ?_⟩) (by assumption) ?_; rotate_left; focus (intro w hSw; (try dsimp only at hSw); go_simp; (try with_reducible rfl); done))
    | (refine wpAnyH_take (i := 2) (oi := _) (v := undef) (getop rfl) (by kernel_rfl) (by kernel_rfl) (by kernel_rfl) (fun _ _ _ h => h) (Or.inr ⟨by rfl, rfl⟩) (by assumption) ?_)
    (try simp only [Act.put, List.setIfInBounds_toArray, List.set_cons_zero, List.set_cons_succ])
    first
    | (refine wpAnyH_take (i := 5) (oi := _) (v := ?_) (getop rfl) (by kernel_rfl) (by kernel_rfl) (by kernel_rfl) (fun _ _ _ h => h) (Or.inl ⟨by rfl, ?_⟩) (by assumption) ?_; rotate_left; focus (intro w hSw; (try dsimp only at hSw); go_simp; (try with_reducible rfl); done))
    | (refine wpAnyH_take (i := 5) (oi := _) (v := undef) (getop rfl) (by kernel_rfl) (by kernel_rfl) (by kernel_rfl) (fun _ _ _ h => h) (Or.inr ⟨by rfl, rfl⟩) (by assumption) ?_)
    (try simp only [Act.put, List.setIfInBounds_toArray, List.set_cons_zero, List.set_cons_succ])
    first
    | (refine wpAnyH_take (i := 3) (oi := _) (v := ?_) (getop rfl) (by kernel_rfl) (by kernel_rfl) (by kernel_rfl) (fun _ _ _ h => h) (Or.inl ⟨by rfl, ?_⟩) (by assumption) ?_; rotate_left; focus (intro w hSw; (try dsimp only at hSw); go_simp; (try with_reducible rfl); done))
    | (refine wpAnyH_take (i := 3) (oi := _) (v := undef) (getop rfl) (by kernel_rfl) (by kernel_rfl) (by kernel_rfl) (fun _ _ _ h => h) (Or.inr ⟨by rfl, rfl⟩) (by assumption) ?_)
    (try simp only [Act.put, List.setIfInBounds_toArray, List.set_cons_zero, List.set_cons_succ])
    first
    | (refine wpAnyH_take (i := 4) (oi := _) (v := ?_) (getop rfl) (by kernel_rfl) (by kernel_rfl) (by kernel_rfl) (fun _ _ _ h => h) (Or.inl ⟨by rfl, ?_⟩) (by assumption) ?_; rotate_left; focus (intro w hSw; (try dsimp only at hSw); go_simp; (try with_reducible rfl); done))
    | (refine wpAnyH_take (i := 4) (oi := _) (v := undef) (getop rfl) (by kernel_rfl) (by kernel_rfl) (by kernel_rfl) (fun _ _ _ h => h) (Or.inr ⟨by rfl, rfl⟩) (by assumption) ?_)
    (try simp only [Act.put, List.setIfInBounds_toArray, List.set_cons_zero, List.set_cons_succ])
    refine wpAnyH_ready (rs := [6]) (by kernel_rfl) (by simp) ?_
    refine (AllReadyH.cons (o := _) (getop rfl) (fun K hK => ?_) AllReadyH.nil)
    go_simp
    refine (HD.out _).mono ?_
    rintro e wz0 ⟨rfl, hb⟩
    replace hM := hM.lo hb
    replace hZ := hZ.lo hb
    replace hL := lo_trans hL hb
    clear hb
    refine hK.out _ _ ?_ (fun hHeld6 => ?_)
    focus ((try dsimp only); (have q := hM.facts.1; have r := HC.out _ hL; exact ⟨q 0, q 1, q 2, q 3, hM.lt, r⟩))
    clear hK K hHeld
    have hHeld := hHeld6
    clear hHeld6
    (try simp only [Act.put, List.setIfInBounds_toArray, List.set_cons_zero, List.set_cons_succ])
    first
    | (refine wpAnyH_take (i := 7) (oi := _) (v := ?_) (getop rfl) (by kernel_rfl) (by kernel_rfl) (by kernel_rfl) (fun _ _ _ h => h) (Or.inl ⟨by rfl, ?_⟩) (by assumption) ?_; rotate_left; focus (intro w hSw; (try dsimp only at hSw); go_simp; (try with_reducible rfl); done))
    | (refine wpAnyH_take (i := 7) (oi := _) (v := undef) (getop rfl) (by kernel_rfl) (by kernel_rfl) (by kernel_rfl) (fun _ _ _ h => h) (Or.inr ⟨by rfl, rfl⟩) (by assumption) ?_)
    (try simp only [Act.put, List.setIfInBounds_toArray, List.set_cons_zero, List.set_cons_succ])
    refine wpAnyH_done (by kernel_rfl) ?_ _
    by_cases hr : x.rank - m.rank < 0
    · obtain ⟨hc0, hc1, hc2, hc3, hb⟩ := HC.out _ hL
      obtain ⟨cM, fM⟩ := hM.facts
      have lM := hM.lt
      go_wp2_with fail
      go_roundw
      case rel =>
        have hM2 := (((hM.set_ 0 (.int .i64 x.id)).set_ 1 (.int .i64 x.rank)).set_ 2 (.int .i64 x.left)).set_ 3 (.int .i64 x.passed)
        exact ⟨k + 1, x, by omega, by go_num, HXL, by simpa using hM2, (((hZ.far (p := ⟨gm, 0, none⟩) (by dsimp only; omega) _).far (p := ⟨gm, 1, none⟩) (by dsimp only; omega) _).far (p := ⟨gm, 2, none⟩) (by dsimp only; omega) _).far (p := ⟨gm, 3, none⟩) (by dsimp only; omega) _, lo_set (lo_set (lo_set (lo_set hL (p := ⟨gm, 0, none⟩) (by dsimp only; omega) _) (p := ⟨gm, 1, none⟩) (by dsimp only; omega) _) (p := ⟨gm, 2, none⟩) (by dsimp only; omega) _) (p := ⟨gm, 3, none⟩) (by dsimp only; omega) _⟩
      case measure => simp [intOf]; omega
    · go_wp2_with fail
      go_roundw
      case rel => exact ⟨k + 1, m, by omega, by go_num, HML, hM, hZ, hL⟩
      case measure => simp [intOf]; omega
  · have hkl' : ¬ (k : Int) < (n : Int) := by omega
    obtain ⟨cM, fM⟩ := hM.facts
    obtain ⟨cZ, fZ⟩ := hZ.facts
    have lZ := hZ.lt
    go_wp2_with fail
    refine bodyPost_ret (v := .agg #[.int .i64 m.id, .int .i64 m.rank, .int .i64 m.left, .int .i64 m.passed]) (by simp [results, Try.results51, go_sem, cZ] <;> rfl) rfl ⟨⟨m, HML.out, rfl⟩, ?_⟩
    have hl2 := hL
    repeat' (first | with_reducible exact hl2 | with_reducible apply lo_set | (dsimp only; omega) | simp)
end Go.Proofs.Ytfpagiojdgdbeaa
