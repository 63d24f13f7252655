import Derived.Shelf.Abstract
import Derived.Test.YtdonnbfojcggmaaGreatPush
namespace Go.Proofs.YtdonnbfojcggmaaGreat
open Go.RowKit
attribute [local go_sem ↓] Go.wp_at_zero Go.wp_at_succ

/-- Settings under way that may be. -/
structure ItsOk (w : World) (A : Option Addr) (n cap : Nat) (l : List It) : Prop where
  row : RowI w A n cap l
  prs : ∀ x ∈ l, RowP w x.A x.n x.cap x.l
  few : n ≤ 4
  num : ∀ x ∈ l, (0 ≤ x.v ∧ x.v ≤ 4294967295) ∧ 0 ≤ x.t ∧ x.t ≤ 1099511627776
  ord : l.Pairwise fun a b => a.t ≤ b.t
section
variable {w w' : World} {A : Option Addr} {n cap : Nat} {l : List It}
theorem ItsOk.lo (h : ItsOk w A n cap l) (hb : Below w.heap.size w w') : ItsOk w' A n cap l := ⟨h.row.lo hb, fun x hx => (h.prs x hx).lo hb, h.few, h.num, h.ord⟩
theorem ItsOk.kept {g : Nat} {cs : Array Value} (h : ItsOk w A n cap l) (hk : Kept w w' g) (hg : Blk w g 89 cs) : ItsOk w' A n cap l := ⟨h.row.kept hk hg (by decide), fun x hx => (h.prs x hx).kept hk hg (by decide), h.few, h.num, h.ord⟩
theorem ItsOk.len (h : ItsOk w A n cap l) : l.length = n := h.row.len
end
theorem uin_any (n : Int) (w : World) (h : 0 ≤ n ∧ n ≤ 1099511627776) : Calls Tryz.prog 37 #[.int .i64 n] w (BoolSame w true) := by
  obtain ⟨h1, h2⟩ := h
  go_enter Tryz.func37, Tryz.ntmps37
  go_wp2
  go_ret
  exact ⟨by simp [h2], rfl⟩
theorem uown_any (A : Option Addr) (n cap : Nat) (l : List It) (w : World) (hl : RowI w A n cap l) (hn : n ≤ 100000) : Calls Tryz.prog 35 #[.slice A n cap] w (RowPost 116 2 cellsI w l) := by
  have H := Lib.hid (clone_i A n cap l w hl hn)
  clear hl hn
  go_enter Tryz.func35, Tryz.ntmps35
  go_wp2_with fail
  refine H.out.mono ?_
  rintro e w1 ⟨v, rfl, hown, hb⟩
  go_wp2_with fail
  go_ret
  exact ⟨_, rfl, hown, hb⟩
theorem long_any (x : It) (w : World) : Calls Tryz.prog 73 #[.agg #[.slice x.A x.n x.cap, .int .i64 x.t]] w (BoolPost w false) := by
  have hA := Blk.new w 116 #[.slice x.A x.n x.cap, .int .i64 x.t]
  have hL := lo_alloc (lo_refl w) (.cells #[.slice x.A x.n x.cap, .int .i64 x.t] 116)
  have hx := x.n_le
  have h1 : ¬ (8 : Int) < (x.n : Int) := by omega
  generalize x.n = n at hA hL h1 ⊢
  generalize x.A = A at hA hL ⊢
  generalize x.cap = c at hA hL ⊢
  generalize x.t = tt at hA hL ⊢
  obtain ⟨cA, fA⟩ := hA.facts
  clear hx
  go_enter Tryz.func73, Tryz.ntmps73
  go_wp2_with fail
  go_ret
  exact ⟨rfl, hL⟩
theorem range_any (x : It) (w : World) (hx : 0 ≤ x.t ∧ x.t ≤ 1099511627776) : Calls Tryz.prog 74 #[.agg #[.slice x.A x.n x.cap, .int .i64 x.t]] w (BoolPost w false) := by
  have hA := Blk.new w 116 #[.slice x.A x.n x.cap, .int .i64 x.t]
  have hL := lo_alloc (lo_refl w) (.cells #[.slice x.A x.n x.cap, .int .i64 x.t] 116)
  have H : Hid (∀ w0, Calls Tryz.prog 37 #[.int .i64 x.t] w0 (BoolSame w0 true)) := Lib.hid fun w0 => uin_any x.t w0 hx
  clear hx
  generalize x.n = n at hA hL ⊢
  generalize x.A = A at hA hL ⊢
  generalize x.cap = c at hA hL ⊢
  generalize x.t = tt at hA hL H ⊢
  obtain ⟨cA, fA⟩ := hA.facts
  go_enter Tryz.func74, Tryz.ntmps74
  go_wp2_with fail
  refine (H.out _).mono ?_
  rintro e w1 ⟨rfl, rfl⟩
  go_wp2_with fail
  go_ret
  exact ⟨rfl, hL⟩
/-- The order of two items. -/
def IntPost' (w : World) (n : Int) (e : Ending) (w' : World) : Prop := e = .returned (.int .i64 n) ∧ Below w.heap.size w w'
theorem cmp_any (A : Option Addr) (n c : Nat) (s : Int) (B : Option Addr) (m d : Nat) (u : Int) (w : World) (hs : 0 ≤ s ∧ s ≤ 1099511627776) (hu : 0 ≤ u ∧ u ≤ 1099511627776) : Calls Tryz.prog 76 #[.agg #[.slice A n c, .int .i64 s], .agg #[.slice B m d, .int .i64 u]] w (IntPost w (s - u)) := by
  have hA := (Blk.new w 116 #[.slice A n c, .int .i64 s]).alloc (.cells #[.slice B m d, .int .i64 u] 116)
  have hB := Blk.new (w.alloc (.cells #[.slice A n c, .int .i64 s] 116)) 116 #[.slice B m d, .int .i64 u]
  have hL := lo_alloc (lo_alloc (lo_refl w) (.cells #[.slice A n c, .int .i64 s] 116)) (.cells #[.slice B m d, .int .i64 u] 116)
  simp only [World.size_alloc] at hB
  have hw : IntKind.i64.wrap (s - u) = s - u := IntWalk.i64_in _ (by omega)
  clear hs hu
  obtain ⟨cA, fA⟩ := hA.facts
  obtain ⟨cB, fB⟩ := hB.facts
  go_enter Tryz.func76, Tryz.ntmps76
  go_wp2_with fail
  go_ret
  exact ⟨rfl, hL⟩
theorem enters_73 : ∀ args w, (callFunc 73 args).run Tryz.prog w = .ok (.enter 73 args) w := enters_of Tryz.func73 (by kernel_rfl) rfl
theorem enters_74 : ∀ args w, (callFunc 74 args).run Tryz.prog w = .ok (.enter 74 args) w := enters_of Tryz.func74 (by kernel_rfl) rfl
theorem enters_76 : ∀ args w, (callFunc 76 args).run Tryz.prog w = .ok (.enter 76 args) w := enters_of Tryz.func76 (by kernel_rfl) rfl
set_option maxRecDepth 100000 in
set_option maxHeartbeats 1600000 in
theorem uindex_any (g : Nat) (eg : ∀ args w, (callFunc g args).run Tryz.prog w = .ok (.enter g args) w) (A : Option Addr) (n cap : Nat) (l : List It) (w : World) (hl : RowI w A n cap l) (hp : ∀ W, ∀ x ∈ l, Calls Tryz.prog g #[.agg #[.slice x.A x.n x.cap, .int .i64 x.t]] W (BoolPost W false)) :
    Calls Tryz.prog 113 #[.slice A n cap, .func (.func g) #[] #[]] w (IntPost w (-1)) := by
  have HR := Lib.hid hl
  have HP := Lib.hid hp
  have hln := hl.len
  have lm : n ≤ 9223372036854775807 := by have h := Nat.le_trans hl.le hl.capm; unfold maxLen at h; omega
  clear hl hp
  have hL := lo_refl w
  go_enter Tryz.func113, Tryz.ntmps113
  go_wp2_with fail
  go_loopw [5, 8] (fun _ y wr => ∃ k : Nat, k ≤ n ∧ y = .int .i64 k ∧ Below w.heap.size w wr) (fun _ y _ => n - (intOf y).toNat)
  case atStart => exact ⟨0, by omega, rfl, hL⟩
  case round =>
  clear hL
  obtain ⟨k, hk, rfl, hL⟩ := hrel
  by_cases hkl : k < n
  · have hkl' : (k : Int) < (n : Int) := by omega
    obtain ⟨b, off, rfl, hlt, hc⟩ := (HR.out.lo hL).at (i := k) (x := l[k]) (List.getElem?_eq_getElem (by omega))
    have hc0 := hc 0 _ rfl
    have hc1 := hc 1 _ rfl
    simp only [Nat.add_zero] at hc0
    have HC := Lib.hid (HP.out wr l[k] (List.getElem_mem _))
    generalize l[k] = x at hc0 hc1 HC
    generalize x.n = xn at hc0 HC
    generalize x.A = xA at hc0 HC
    generalize x.cap = xc at hc0 HC
    generalize x.t = xt at hc1 HC
    clear hc
    go_wp2_with (go_at_fn g; refine HC.out.mono ?_; rintro e w2 ⟨rfl, hb2⟩)
    have HB := Lib.hid hb2
    clear hb2
    go_wp2_with fail
    go_roundw
    case rel => exact ⟨k + 1, by omega, by go_num, lo_trans hL HB.out⟩
    case measure => simp [intOf]; omega
  · have hkl' : ¬ (k : Int) < (n : Int) := by omega
    have hM := Lib.hid hL
    clear hL
    go_wp2_with fail
    go_ret
    exact ⟨rfl, hM.out⟩
theorem ucontains_any (g : Nat) (eg : ∀ args w, (callFunc g args).run Tryz.prog w = .ok (.enter g args) w) (A : Option Addr) (n cap : Nat) (l : List It) (w : World) (hl : RowI w A n cap l) (hp : ∀ W, ∀ x ∈ l, Calls Tryz.prog g #[.agg #[.slice x.A x.n x.cap, .int .i64 x.t]] W (BoolPost W false)) :
    Calls Tryz.prog 72 #[.slice A n cap, .func (.func g) #[] #[]] w (BoolPost w false) := by
  have H := Lib.hid (uindex_any g eg A n cap l w hl hp)
  clear hl hp
  go_enter Tryz.func72, Tryz.ntmps72
  go_wp2_with fail
  refine H.out.mono ?_
  rintro e w1 ⟨rfl, hb⟩
  go_wp2_with fail
  go_ret
  exact ⟨rfl, hb⟩
set_option maxRecDepth 100000 in
set_option maxHeartbeats 1600000 in
theorem usorted_any (A : Option Addr) (n cap : Nat) (l : List It) (w : World) (hl : ItsOk w A n cap l) : Calls Tryz.prog 75 #[.slice A n cap, .func (.func 76) #[] #[]] w (BoolPost w true) := by
  have HR := Lib.hid hl
  have hln := hl.len
  have hn4 := hl.few
  have hw1 : IntKind.i64.wrap ((n : Int) - 1) = (n : Int) - 1 := IntWalk.i64_in _ (by omega)
  clear hl
  have hL := lo_refl w
  have eg := enters_76
  go_enter Tryz.func75, Tryz.ntmps75
  go_wp2_with fail
  go_loopw [5] (fun y wr => ∃ j : Int, -1 ≤ j ∧ j < n ∧ y = .int .i64 j ∧ Below w.heap.size w wr) (fun y _ => (intOf y + 1).toNat)
  case atStart => exact ⟨(n : Int) - 1, by omega, by omega, rfl, hL⟩
  case round =>
  clear hL
  obtain ⟨j0, hj0, hjn, rfl, hL⟩ := hrel
  by_cases hkl : 0 < j0
  · rcases (by omega : j0 = 1 ∨ j0 = 2 ∨ j0 = 3) with rfl | rfl | rfl
    · have hwq : IntKind.i64.wrap 0 = 0 := by decide
      have hj1 : 1 < n := by omega
      have hj2 : 0 < n := by omega
      have hi1 : (1 : Int) < (n : Int) := by omega
      have hi2 : (0 : Int) < (n : Int) := by omega
      obtain ⟨b, off, rfl, hlt, hc⟩ := (HR.out.row.lo hL).at (i := 1) (x := l[1]) (List.getElem?_eq_getElem (by omega))
      obtain ⟨b', off', he, _, hd⟩ := (HR.out.row.lo hL).at (i := 0) (x := l[0]) (List.getElem?_eq_getElem (by omega))
      injection he with he
      injection he with e1 e2 _
      subst e1 e2
      have hcx0 := hc 0 _ rfl
      have hcx1 := hc 1 _ rfl
      have hcy0 := hd 0 _ rfl
      have hcy1 := hd 1 _ rfl
      simp only [Nat.add_zero, Nat.zero_mul, Nat.reduceMul, Nat.add_assoc, Nat.reduceAdd] at hcx0 hcy0 hcx1 hcy1
      have hle := List.pairwise_iff_getElem.1 HR.out.ord 0 1 (by omega) (by omega) (by omega)
      have hrx := (HR.out.num l[1] (List.getElem_mem _)).2
      have hry := (HR.out.num l[0] (List.getElem_mem _)).2
      generalize l[1] = x at hcx0 hcx1 hle hrx
      generalize l[0] = y at hcy0 hcy1 hle hry
      generalize x.n = xn at hcx0
      generalize x.A = xA at hcx0
      generalize x.cap = xc at hcx0
      generalize x.t = xt at hcx1 hle hrx
      generalize y.n = yn at hcy0
      generalize y.A = yA at hcy0
      generalize y.cap = yc at hcy0
      generalize y.t = yt at hcy1 hle hry
      have HC : Hid (∀ W, Calls Tryz.prog 76 #[.agg #[.slice xA xn xc, .int .i64 xt], .agg #[.slice yA yn yc, .int .i64 yt]] W (IntPost W (xt - yt))) := Lib.hid fun W => cmp_any _ _ _ _ _ _ _ _ W hrx hry
      have hlt0 : ¬ (xt - yt) < 0 := by omega
      clear hc hd hle hrx hry
      go_upto_region 4 with fail
      refine wp_region_held_drew (S := (fun W => W.cell? ⟨b, off + 2, none⟩ = some (.slice xA xn xc) ∧ W.cell? ⟨b, off + 3, none⟩ = some (.int .i64 xt) ∧ W.cell? ⟨b, off, none⟩ = some (.slice yA yn yc) ∧ W.cell? ⟨b, off + 1, none⟩ = some (.int .i64 yt) ∧ b < W.heap.size)) (by kernel_rfl) ?_ (fun hHeld => ?_)
      focus ((try dsimp only); exact ⟨hcx0, hcx1, hcy0, hcy1, hlt⟩)
      replace hcx0 : wr.drew.cell? _ = _ := hcx0
      replace hcx1 : wr.drew.cell? _ = _ := hcx1
      replace hcy0 : wr.drew.cell? _ = _ := hcy0
      replace hcy1 : wr.drew.cell? _ = _ := hcy1
      replace hlt : _ < wr.drew.heap.size := hlt
      replace hL := lo_drew hL
      generalize wr.drew = wd at hcx0 hcx1 hcy0 hcy1 hlt hL hHeld ⊢
      first
      | (refine wpAnyH_take (i := 0) (oi := _) (v := ?_) (getop rfl) (by kernel_rfl) (by kernel_rfl) (by kernel_rfl) (fun _ _ _ h => h) (Or.inl ⟨by rfl, ?_⟩) (by assumption) ?_; rotate_left; focus (intro w hSw; (try dsimp only at hSw); go_simp; (try with_reducible rfl); done))
      | (refine wpAnyH_take (i := 0) (oi := _) (v := undef) (getop rfl) (by kernel_rfl) (by kernel_rfl) (by kernel_rfl) (fun _ _ _ h => h) (Or.inr ⟨by rfl, rfl⟩) (by assumption) ?_)
      (try simp only [Act.put, List.setIfInBounds_toArray, List.set_cons_zero, List.set_cons_succ])
      first
      | (refine wpAnyH_take (i := 1) (oi := _) (v := ?_) (getop rfl) (by kernel_rfl) (by kernel_rfl) (by kernel_rfl) (fun _ _ _ h => h) (Or.inl ⟨by rfl, ?_⟩) (by assumption) ?_; rotate_left; focus (intro w hSw; (try dsimp only at hSw); go_simp; (try with_reducible rfl); done))
      | (refine wpAnyH_take (i := 1) (oi := _) (v := undef) (getop rfl) (by kernel_rfl) (by kernel_rfl) (by kernel_rfl) (fun _ _ _ h => h) (Or.inr ⟨by rfl, rfl⟩) (by assumption) ?_)
      (try simp only [Act.put, List.setIfInBounds_toArray, List.set_cons_zero, List.set_cons_succ])
      first
      | (refine wpAnyH_take (i := 2) (oi := _) (v := ?_) (getop rfl) (by kernel_rfl) (by kernel_rfl) (by kernel_rfl) (fun _ _ _ h => h) (Or.inl ⟨by rfl, ?_⟩) (by assumption) ?_; rotate_left; focus (intro w hSw; (try dsimp only at hSw); go_simp; (try with_reducible rfl); done))
      | (refine wpAnyH_take (i := 2) (oi := _) (v := undef) (getop rfl) (by kernel_rfl) (by kernel_rfl) (by kernel_rfl) (fun _ _ _ h => h) (Or.inr ⟨by rfl, rfl⟩) (by assumption) ?_)
      (try simp only [Act.put, List.setIfInBounds_toArray, List.set_cons_zero, List.set_cons_succ])
      first
      | (refine wpAnyH_take (i := 5) (oi := _) (v := ?_) (getop rfl) (by kernel_rfl) (by kernel_rfl) (by kernel_rfl) (fun _ _ _ h => h) (Or.inl ⟨by rfl, ?_⟩) (by assumption) ?_; rotate_left; focus (intro w hSw; (try dsimp only at hSw); go_simp; (try with_reducible rfl); done))
      | (refine wpAnyH_take (i := 5) (oi := _) (v := undef) (getop rfl) (by kernel_rfl) (by kernel_rfl) (by kernel_rfl) (fun _ _ _ h => h) (Or.inr ⟨by rfl, rfl⟩) (by assumption) ?_)
      (try simp only [Act.put, List.setIfInBounds_toArray, List.set_cons_zero, List.set_cons_succ])
      first
      | (refine wpAnyH_take (i := 6) (oi := _) (v := ?_) (getop rfl) (by kernel_rfl) (by kernel_rfl) (by kernel_rfl) (fun _ _ _ h => h) (Or.inl ⟨by rfl, ?_⟩) (by assumption) ?_; rotate_left; focus (intro w hSw; (try dsimp only at hSw); go_simp; (try with_reducible rfl); done))
      | (refine wpAnyH_take (i := 6) (oi := _) (v := undef) (getop rfl) (by kernel_rfl) (by kernel_rfl) (by kernel_rfl) (fun _ _ _ h => h) (Or.inr ⟨by rfl, rfl⟩) (by assumption) ?_)
      (try simp only [Act.put, List.setIfInBounds_toArray, List.set_cons_zero, List.set_cons_succ])
      first
      | (refine wpAnyH_take (i := 3) (oi := _) (v := ?_) (getop rfl) (by kernel_rfl) (by kernel_rfl) (by kernel_rfl) (fun _ _ _ h => h) (Or.inl ⟨by rfl, ?_⟩) (by assumption) ?_; rotate_left; focus (intro w hSw; (try dsimp only at hSw); go_simp; (try with_reducible rfl); done))
      | (refine wpAnyH_take (i := 3) (oi := _) (v := undef) (getop rfl) (by kernel_rfl) (by kernel_rfl) (by kernel_rfl) (fun _ _ _ h => h) (Or.inr ⟨by rfl, rfl⟩) (by assumption) ?_)
      (try simp only [Act.put, List.setIfInBounds_toArray, List.set_cons_zero, List.set_cons_succ])
      first
      | (refine wpAnyH_take (i := 7) (oi := _) (v := ?_) (getop rfl) (by kernel_rfl) (by kernel_rfl) (by kernel_rfl) (fun _ _ _ h => h) (Or.inl ⟨by rfl, ?_⟩) (by assumption) ?_; rotate_left; focus (intro w hSw; (try dsimp only at hSw); go_simp; (try with_reducible rfl); done))
      | (refine wpAnyH_take (i := 7) (oi := _) (v := undef) (getop rfl) (by kernel_rfl) (by kernel_rfl) (by kernel_rfl) (fun _ _ _ h => h) (Or.inr ⟨by rfl, rfl⟩) (by assumption) ?_)
      (try simp only [Act.put, List.setIfInBounds_toArray, List.set_cons_zero, List.set_cons_succ])
      first
      | (refine wpAnyH_take (i := 4) (oi := _) (v := ?_) (getop rfl) (by kernel_rfl) (by kernel_rfl) (by kernel_rfl) (fun _ _ _ h => h) (Or.inl ⟨by rfl, ?_⟩) (by assumption) ?_; rotate_left; focus (intro w hSw; (try dsimp only at hSw); go_simp; (try with_reducible rfl); done))
      | (refine wpAnyH_take (i := 4) (oi := _) (v := undef) (getop rfl) (by kernel_rfl) (by kernel_rfl) (by kernel_rfl) (fun _ _ _ h => h) (Or.inr ⟨by rfl, rfl⟩) (by assumption) ?_)
      (try simp only [Act.put, List.setIfInBounds_toArray, List.set_cons_zero, List.set_cons_succ])
      first
      | (refine wpAnyH_take (i := 8) (oi := _) (v := ?_) (getop rfl) (by kernel_rfl) (by kernel_rfl) (by kernel_rfl) (fun _ _ _ h => h) (Or.inl ⟨by rfl, ?_⟩) (by assumption) ?_; rotate_left; focus (intro w hSw; (try dsimp only at hSw); go_simp; (try with_reducible rfl); done))
      | (refine wpAnyH_take (i := 8) (oi := _) (v := undef) (getop rfl) (by kernel_rfl) (by kernel_rfl) (by kernel_rfl) (fun _ _ _ h => h) (Or.inr ⟨by rfl, rfl⟩) (by assumption) ?_)
      (try simp only [Act.put, List.setIfInBounds_toArray, List.set_cons_zero, List.set_cons_succ])
      first
      | (refine wpAnyH_take (i := 9) (oi := _) (v := ?_) (getop rfl) (by kernel_rfl) (by kernel_rfl) (by kernel_rfl) (fun _ _ _ h => h) (Or.inl ⟨by rfl, ?_⟩) (by assumption) ?_; rotate_left; focus (intro w hSw; (try dsimp only at hSw); go_simp; (try with_reducible rfl); done))
      | (refine wpAnyH_take (i := 9) (oi := _) (v := undef) (getop rfl) (by kernel_rfl) (by kernel_rfl) (by kernel_rfl) (fun _ _ _ h => h) (Or.inr ⟨by rfl, rfl⟩) (by assumption) ?_)
      (try simp only [Act.put, List.setIfInBounds_toArray, List.set_cons_zero, List.set_cons_succ])
      refine wpAnyH_ready (rs := [10]) (by kernel_rfl) (by simp) ?_
      refine (AllReadyH.cons (o := _) (getop rfl) (fun K hK => ?_) AllReadyH.nil)
      go_simp
      refine (HC.out _).mono ?_
      rintro e wz0 ⟨rfl, hb⟩
      replace hcx0 := ((lo_cell hb).1 _ _ hlt).trans hcx0
      replace hcx1 := ((lo_cell hb).1 _ _ hlt).trans hcx1
      replace hcy0 := ((lo_cell hb).1 _ _ hlt).trans hcy0
      replace hcy1 := ((lo_cell hb).1 _ _ hlt).trans hcy1
      replace hlt := Nat.lt_of_lt_of_le hlt hb.size
      replace hL := lo_trans hL hb
      clear hb
      refine hK.out _ _ ?_ (fun hHeld10 => ?_)
      focus ((try dsimp only); exact ⟨hcx0, hcx1, hcy0, hcy1, hlt⟩)
      clear hK K hHeld
      have hHeld := hHeld10
      clear hHeld10
      (try simp only [Act.put, List.setIfInBounds_toArray, List.set_cons_zero, List.set_cons_succ])
      first
      | (refine wpAnyH_take (i := 11) (oi := _) (v := ?_) (getop rfl) (by kernel_rfl) (by kernel_rfl) (by kernel_rfl) (fun _ _ _ h => h) (Or.inl ⟨by rfl, ?_⟩) (by assumption) ?_; rotate_left; focus (intro w hSw; (try dsimp only at hSw); go_simp; (try with_reducible rfl); done))
      | (refine wpAnyH_take (i := 11) (oi := _) (v := undef) (getop rfl) (by kernel_rfl) (by kernel_rfl) (by kernel_rfl) (fun _ _ _ h => h) (Or.inr ⟨by rfl, rfl⟩) (by assumption) ?_)
      (try simp only [Act.put, List.setIfInBounds_toArray, List.set_cons_zero, List.set_cons_succ])
      refine wpAnyH_done (by kernel_rfl) ?_ _
      clear hcx0 hcx1 hcy0 hcy1 hlt hHeld
      have hM := Lib.hid hL
      clear hL
      go_wp2_with fail
      go_roundw
      case rel => exact ⟨0, by omega, by omega, rfl, hM.out⟩
      case measure => simp [intOf]
    · have hwq : IntKind.i64.wrap 1 = 1 := by decide
      have hj1 : 2 < n := by omega
      have hj2 : 1 < n := by omega
      have hi1 : (2 : Int) < (n : Int) := by omega
      have hi2 : (1 : Int) < (n : Int) := by omega
      obtain ⟨b, off, rfl, hlt, hc⟩ := (HR.out.row.lo hL).at (i := 2) (x := l[2]) (List.getElem?_eq_getElem (by omega))
      obtain ⟨b', off', he, _, hd⟩ := (HR.out.row.lo hL).at (i := 1) (x := l[1]) (List.getElem?_eq_getElem (by omega))
      injection he with he
      injection he with e1 e2 _
      subst e1 e2
      have hcx0 := hc 0 _ rfl
      have hcx1 := hc 1 _ rfl
      have hcy0 := hd 0 _ rfl
      have hcy1 := hd 1 _ rfl
      simp only [Nat.add_zero, Nat.zero_mul, Nat.reduceMul, Nat.add_assoc, Nat.reduceAdd] at hcx0 hcy0 hcx1 hcy1
      have hle := List.pairwise_iff_getElem.1 HR.out.ord 1 2 (by omega) (by omega) (by omega)
      have hrx := (HR.out.num l[2] (List.getElem_mem _)).2
      have hry := (HR.out.num l[1] (List.getElem_mem _)).2
      generalize l[2] = x at hcx0 hcx1 hle hrx
      generalize l[1] = y at hcy0 hcy1 hle hry
      generalize x.n = xn at hcx0
      generalize x.A = xA at hcx0
      generalize x.cap = xc at hcx0
      generalize x.t = xt at hcx1 hle hrx
      generalize y.n = yn at hcy0
      generalize y.A = yA at hcy0
      generalize y.cap = yc at hcy0
      generalize y.t = yt at hcy1 hle hry
      have HC : Hid (∀ W, Calls Tryz.prog 76 #[.agg #[.slice xA xn xc, .int .i64 xt], .agg #[.slice yA yn yc, .int .i64 yt]] W (IntPost W (xt - yt))) := Lib.hid fun W => cmp_any _ _ _ _ _ _ _ _ W hrx hry
      have hlt0 : ¬ (xt - yt) < 0 := by omega
      clear hc hd hle hrx hry
      go_upto_region 4 with fail
      refine wp_region_held_drew (S := (fun W => W.cell? ⟨b, off + 4, none⟩ = some (.slice xA xn xc) ∧ W.cell? ⟨b, off + 5, none⟩ = some (.int .i64 xt) ∧ W.cell? ⟨b, off + 2, none⟩ = some (.slice yA yn yc) ∧ W.cell? ⟨b, off + 3, none⟩ = some (.int .i64 yt) ∧ b < W.heap.size)) (by kernel_rfl) ?_ (fun hHeld => ?_)
      focus ((try dsimp only); exact ⟨hcx0, hcx1, hcy0, hcy1, hlt⟩)
      replace hcx0 : wr.drew.cell? _ = _ := hcx0
      replace hcx1 : wr.drew.cell? _ = _ := hcx1
      replace hcy0 : wr.drew.cell? _ = _ := hcy0
      replace hcy1 : wr.drew.cell? _ = _ := hcy1
      replace hlt : _ < wr.drew.heap.size := hlt
      replace hL := lo_drew hL
      generalize wr.drew = wd at hcx0 hcx1 hcy0 hcy1 hlt hL hHeld ⊢
      first
      | (refine wpAnyH_take (i := 0) (oi := _) (v := ?_) (getop rfl) (by kernel_rfl) (by kernel_rfl) (by kernel_rfl) (fun _ _ _ h => h) (Or.inl ⟨by rfl, ?_⟩) (by assumption) ?_; rotate_left; focus (intro w hSw; (try dsimp only at hSw); go_simp; (try with_reducible rfl); done))
      | (refine wpAnyH_take (i := 0) (oi := _) (v := undef) (getop rfl) (by kernel_rfl) (by kernel_rfl) (by kernel_rfl) (fun _ _ _ h => h) (Or.inr ⟨by rfl, rfl⟩) (by assumption) ?_)
      (try simp only [Act.put, List.setIfInBounds_toArray, List.set_cons_zero, List.set_cons_succ])
      first
      | (refine wpAnyH_take (i := 1) (oi := _) (v := ?_) (getop rfl) (by kernel_rfl) (by kernel_rfl) (by kernel_rfl) (fun _ _ _ h => h) (Or.inl ⟨by rfl, ?_⟩) (by assumption) ?_; rotate_left; focus (intro w hSw; (try dsimp only at hSw); go_simp; (try with_reducible rfl); done))
      | (refine wpAnyH_take (i := 1) (oi := _) (v := undef) (getop rfl) (by kernel_rfl) (by kernel_rfl) (by kernel_rfl) (fun _ _ _ h => h) (Or.inr ⟨by rfl, rfl⟩) (by assumption) ?_)
      (try simp only [Act.put, List.setIfInBounds_toArray, List.set_cons_zero, List.set_cons_succ])
      first
      | (refine wpAnyH_take (i := 2) (oi := _) (v := ?_) (getop rfl) (by kernel_rfl) (by kernel_rfl) (by kernel_rfl) (fun _ _ _ h => h) (Or.inl ⟨by rfl, ?_⟩) (by assumption) ?_; rotate_left; focus (intro w hSw; (try dsimp only at hSw); go_simp; (try with_reducible rfl); done))
      | (refine wpAnyH_take (i := 2) (oi := _) (v := undef) (getop rfl) (by kernel_rfl) (by kernel_rfl) (by kernel_rfl) (fun _ _ _ h => h) (Or.inr ⟨by rfl, rfl⟩) (by assumption) ?_)
      (try simp only [Act.put, List.setIfInBounds_toArray, List.set_cons_zero, List.set_cons_succ])
      first
      | (refine wpAnyH_take (i := 5) (oi := _) (v := ?_) (getop rfl) (by kernel_rfl) (by kernel_rfl) (by kernel_rfl) (fun _ _ _ h => h) (Or.inl ⟨by rfl, ?_⟩) (by assumption) ?_; rotate_left; focus (intro w hSw; (try dsimp only at hSw); go_simp; (try with_reducible rfl); done))
      | (refine wpAnyH_take (i := 5) (oi := _) (v := undef) (getop rfl) (by kernel_rfl) (by kernel_rfl) (by kernel_rfl) (fun _ _ _ h => h) (Or.inr ⟨by rfl, rfl⟩) (by assumption) ?_)
      (try simp only [Act.put, List.setIfInBounds_toArray, List.set_cons_zero, List.set_cons_succ])
      first
      | (refine wpAnyH_take (i := 6) (oi := _) (v := ?_) (getop rfl) (by kernel_rfl) (by kernel_rfl) (by kernel_rfl) (fun _ _ _ h => h) (Or.inl ⟨by rfl, ?_⟩) (by assumption) ?_; rotate_left; focus (intro w hSw; (try dsimp only at hSw); go_simp; (try with_reducible rfl); done))
      | (refine wpAnyH_take (i := 6) (oi := _) (v := undef) (getop rfl) (by kernel_rfl) (by kernel_rfl) (by kernel_rfl) (fun _ _ _ h => h) (Or.inr ⟨by rfl, rfl⟩) (by assumption) ?_)
      (try simp only [Act.put, List.setIfInBounds_toArray, List.set_cons_zero, List.set_cons_succ])
      first
      | (refine wpAnyH_take (i := 3) (oi := _) (v := ?_) (getop rfl) (by kernel_rfl) (by kernel_rfl) (by kernel_rfl) (fun _ _ _ h => h) (Or.inl ⟨by rfl, ?_⟩) (by assumption) ?_; rotate_left; focus (intro w hSw; (try dsimp only at hSw); go_simp; (try with_reducible rfl); done))
      | (refine wpAnyH_take (i := 3) (oi := _) (v := undef) (getop rfl) (by kernel_rfl) (by kernel_rfl) (by kernel_rfl) (fun _ _ _ h => h) (Or.inr ⟨by rfl, rfl⟩) (by assumption) ?_)
      (try simp only [Act.put, List.setIfInBounds_toArray, List.set_cons_zero, List.set_cons_succ])
      first
      | (refine wpAnyH_take (i := 7) (oi := _) (v := ?_) (getop rfl) (by kernel_rfl) (by kernel_rfl) (by kernel_rfl) (fun _ _ _ h => h) (Or.inl ⟨by rfl, ?_⟩) (by assumption) ?_; rotate_left; focus (intro w hSw; (try dsimp only at hSw); go_simp; (try with_reducible rfl); done))
      | (refine wpAnyH_take (i := 7) (oi := _) (v := undef) (getop rfl) (by kernel_rfl) (by kernel_rfl) (by kernel_rfl) (fun _ _ _ h => h) (Or.inr ⟨by rfl, rfl⟩) (by assumption) ?_)
      (try simp only [Act.put, List.setIfInBounds_toArray, List.set_cons_zero, List.set_cons_succ])
      first
      | (refine wpAnyH_take (i := 4) (oi := _) (v := ?_) (getop rfl) (by kernel_rfl) (by kernel_rfl) (by kernel_rfl) (fun _ _ _ h => h) (Or.inl ⟨by rfl, ?_⟩) (by assumption) ?_; rotate_left; focus (intro w hSw; (try dsimp only at hSw); go_simp; (try with_reducible rfl); done))
      | (refine wpAnyH_take (i := 4) (oi := _) (v := undef) (getop rfl) (by kernel_rfl) (by kernel_rfl) (by kernel_rfl) (fun _ _ _ h => h) (Or.inr ⟨by rfl, rfl⟩) (by assumption) ?_)
      (try simp only [Act.put, List.setIfInBounds_toArray, List.set_cons_zero, List.set_cons_succ])
      first
      | (refine wpAnyH_take (i := 8) (oi := _) (v := ?_) (getop rfl) (by kernel_rfl) (by kernel_rfl) (by kernel_rfl) (fun _ _ _ h => h) (Or.inl ⟨by rfl, ?_⟩) (by assumption) ?_; rotate_left; focus (intro w hSw; (try dsimp only at hSw); go_simp; (try with_reducible rfl); done))
      | (refine wpAnyH_take (i := 8) (oi := _) (v := undef) (getop rfl) (by kernel_rfl) (by kernel_rfl) (by kernel_rfl) (fun _ _ _ h => h) (Or.inr ⟨by rfl, rfl⟩) (by assumption) ?_)
      (try simp only [Act.put, List.setIfInBounds_toArray, List.set_cons_zero, List.set_cons_succ])
      first
      | (refine wpAnyH_take (i := 9) (oi := _) (v := ?_) (getop rfl) (by kernel_rfl) (by kernel_rfl) (by kernel_rfl) (fun _ _ _ h => h) (Or.inl ⟨by rfl, ?_⟩) (by assumption) ?_; rotate_left; focus (intro w hSw; (try dsimp only at hSw); go_simp; (try with_reducible rfl); done))
      | (refine wpAnyH_take (i := 9) (oi := _) (v := undef) (getop rfl) (by kernel_rfl) (by kernel_rfl) (by kernel_rfl) (fun _ _ _ h => h) (Or.inr ⟨by rfl, rfl⟩) (by assumption) ?_)
      (try simp only [Act.put, List.setIfInBounds_toArray, List.set_cons_zero, List.set_cons_succ])
      refine wpAnyH_ready (rs := [10]) (by kernel_rfl) (by simp) ?_
      refine (AllReadyH.cons (o := _) (getop rfl) (fun K hK => ?_) AllReadyH.nil)
      go_simp
      refine (HC.out _).mono ?_
      rintro e wz0 ⟨rfl, hb⟩
      replace hcx0 := ((lo_cell hb).1 _ _ hlt).trans hcx0
      replace hcx1 := ((lo_cell hb).1 _ _ hlt).trans hcx1
      replace hcy0 := ((lo_cell hb).1 _ _ hlt).trans hcy0
      replace hcy1 := ((lo_cell hb).1 _ _ hlt).trans hcy1
      replace hlt := Nat.lt_of_lt_of_le hlt hb.size
      replace hL := lo_trans hL hb
      clear hb
      refine hK.out _ _ ?_ (fun hHeld10 => ?_)
      focus ((try dsimp only); exact ⟨hcx0, hcx1, hcy0, hcy1, hlt⟩)
      clear hK K hHeld
      have hHeld := hHeld10
      clear hHeld10
      (try simp only [Act.put, List.setIfInBounds_toArray, List.set_cons_zero, List.set_cons_succ])
      first
      | (refine wpAnyH_take (i := 11) (oi := _) (v := ?_) (getop rfl) (by kernel_rfl) (by kernel_rfl) (by kernel_rfl) (fun _ _ _ h => h) (Or.inl ⟨by rfl, ?_⟩) (by assumption) ?_; rotate_left; focus (intro w hSw; (try dsimp only at hSw); go_simp; (try with_reducible rfl); done))
      | (refine wpAnyH_take (i := 11) (oi := _) (v := undef) (getop rfl) (by kernel_rfl) (by kernel_rfl) (by kernel_rfl) (fun _ _ _ h => h) (Or.inr ⟨by rfl, rfl⟩) (by assumption) ?_)
      (try simp only [Act.put, List.setIfInBounds_toArray, List.set_cons_zero, List.set_cons_succ])
      refine wpAnyH_done (by kernel_rfl) ?_ _
      clear hcx0 hcx1 hcy0 hcy1 hlt hHeld
      have hM := Lib.hid hL
      clear hL
      go_wp2_with fail
      go_roundw
      case rel => exact ⟨1, by omega, by omega, rfl, hM.out⟩
      case measure => simp [intOf]
    · have hwq : IntKind.i64.wrap 2 = 2 := by decide
      have hj1 : 3 < n := by omega
      have hj2 : 2 < n := by omega
      have hi1 : (3 : Int) < (n : Int) := by omega
      have hi2 : (2 : Int) < (n : Int) := by omega
      obtain ⟨b, off, rfl, hlt, hc⟩ := (HR.out.row.lo hL).at (i := 3) (x := l[3]) (List.getElem?_eq_getElem (by omega))
      obtain ⟨b', off', he, _, hd⟩ := (HR.out.row.lo hL).at (i := 2) (x := l[2]) (List.getElem?_eq_getElem (by omega))
      injection he with he
      injection he with e1 e2 _
      subst e1 e2
      have hcx0 := hc 0 _ rfl
      have hcx1 := hc 1 _ rfl
      have hcy0 := hd 0 _ rfl
      have hcy1 := hd 1 _ rfl
      simp only [Nat.add_zero, Nat.zero_mul, Nat.reduceMul, Nat.add_assoc, Nat.reduceAdd] at hcx0 hcy0 hcx1 hcy1
      have hle := List.pairwise_iff_getElem.1 HR.out.ord 2 3 (by omega) (by omega) (by omega)
      have hrx := (HR.out.num l[3] (List.getElem_mem _)).2
      have hry := (HR.out.num l[2] (List.getElem_mem _)).2
      generalize l[3] = x at hcx0 hcx1 hle hrx
      generalize l[2] = y at hcy0 hcy1 hle hry
      generalize x.n = xn at hcx0
      generalize x.A = xA at hcx0
      generalize x.cap = xc at hcx0
      generalize x.t = xt at hcx1 hle hrx
      generalize y.n = yn at hcy0
      generalize y.A = yA at hcy0
      generalize y.cap = yc at hcy0
      generalize y.t = yt at hcy1 hle hry
      have HC : Hid (∀ W, Calls Tryz.prog 76 #[.agg #[.slice xA xn xc, .int .i64 xt], .agg #[.slice yA yn yc, .int .i64 yt]] W (IntPost W (xt - yt))) := Lib.hid fun W => cmp_any _ _ _ _ _ _ _ _ W hrx hry
      have hlt0 : ¬ (xt - yt) < 0 := by omega
      clear hc hd hle hrx hry
      go_upto_region 4 with fail
      refine wp_region_held_drew (S := (fun W => W.cell? ⟨b, off + 6, none⟩ = some (.slice xA xn xc) ∧ W.cell? ⟨b, off + 7, none⟩ = some (.int .i64 xt) ∧ W.cell? ⟨b, off + 4, none⟩ = some (.slice yA yn yc) ∧ W.cell? ⟨b, off + 5, none⟩ = some (.int .i64 yt) ∧ b < W.heap.size)) (by kernel_rfl) ?_ (fun hHeld => ?_)
      focus ((try dsimp only); exact ⟨hcx0, hcx1, hcy0, hcy1, hlt⟩)
      replace hcx0 : wr.drew.cell? _ = _ := hcx0
      replace hcx1 : wr.drew.cell? _ = _ := hcx1
      replace hcy0 : wr.drew.cell? _ = _ := hcy0
      replace hcy1 : wr.drew.cell? _ = _ := hcy1
      replace hlt : _ < wr.drew.heap.size := hlt
      replace hL := lo_drew hL
      generalize wr.drew = wd at hcx0 hcx1 hcy0 hcy1 hlt hL hHeld ⊢
      first
      | (refine wpAnyH_take (i := 0) (oi := _) (v := ?_) (getop rfl) (by kernel_rfl) (by kernel_rfl) (by kernel_rfl) (fun _ _ _ h => h) (Or.inl ⟨by rfl, ?_⟩) (by assumption) ?_; rotate_left; focus (intro w hSw; (try dsimp only at hSw); go_simp; (try with_reducible rfl); done))
      | (refine wpAnyH_take (i := 0) (oi := _) (v := undef) (getop rfl) (by kernel_rfl) (by kernel_rfl) (by kernel_rfl) (fun _ _ _ h => h) (Or.inr ⟨by rfl, rfl⟩) (by assumption) ?_)
      (try simp only [Act.put, List.setIfInBounds_toArray, List.set_cons_zero, List.set_cons_succ])
      first
      | (refine wpAnyH_take (i := 1) (oi := _) (v := ?_) (getop rfl) (by kernel_rfl) (by kernel_rfl) (by kernel_rfl) (fun _ _ _ h => h) (Or.inl ⟨by rfl, ?_⟩) (by assumption) ?_; rotate_left; focus (intro w hSw; (try dsimp only at hSw); go_simp; (try with_reducible rfl); done))
      | (refine wpAnyH_take (i := 1) (oi := _) (v := undef) (getop rfl) (by kernel_rfl) (by kernel_rfl) (by kernel_rfl) (fun _ _ _ h => h) (Or.inr ⟨by rfl, rfl⟩) (by assumption) ?_)
      (try simp only [Act.put, List.setIfInBounds_toArray, List.set_cons_zero, List.set_cons_succ])
      first
      | (refine wpAnyH_take (i := 2) (oi := _) (v := ?_) (getop rfl) (by kernel_rfl) (by kernel_rfl) (by kernel_rfl) (fun _ _ _ h => h) (Or.inl ⟨by rfl, ?_⟩) (by assumption) ?_; rotate_left; focus (intro w hSw; (try dsimp only at hSw); go_simp; (try with_reducible rfl); done))
      | (refine wpAnyH_take (i := 2) (oi := _) (v := undef) (getop rfl) (by kernel_rfl) (by kernel_rfl) (by kernel_rfl) (fun _ _ _ h => h) (Or.inr ⟨by rfl, rfl⟩) (by assumption) ?_)
      (try simp only [Act.put, List.setIfInBounds_toArray, List.set_cons_zero, List.set_cons_succ])
      first
      | (refine wpAnyH_take (i := 5) (oi := _) (v := ?_) (getop rfl) (by kernel_rfl) (by kernel_rfl) (by kernel_rfl) (fun _ _ _ h => h) (Or.inl ⟨by rfl, ?_⟩) (by assumption) ?_; rotate_left; focus (intro w hSw; (try dsimp only at hSw); go_simp; (try with_reducible rfl); done))
      | (refine wpAnyH_take (i := 5) (oi := _) (v := undef) (getop rfl) (by kernel_rfl) (by kernel_rfl) (by kernel_rfl) (fun _ _ _ h => h) (Or.inr ⟨by rfl, rfl⟩) (by assumption) ?_)
      (try simp only [Act.put, List.setIfInBounds_toArray, List.set_cons_zero, List.set_cons_succ])
      first
      | (refine wpAnyH_take (i := 6) (oi := _) (v := ?_) (getop rfl) (by kernel_rfl) (by kernel_rfl) (by kernel_rfl) (fun _ _ _ h => h) (Or.inl ⟨by rfl, ?_⟩) (by assumption) ?_; rotate_left; focus (intro w hSw; (try dsimp only at hSw); go_simp; (try with_reducible rfl); done))
      | (refine wpAnyH_take (i := 6) (oi := _) (v := undef) (getop rfl) (by kernel_rfl) (by kernel_rfl) (by kernel_rfl) (fun _ _ _ h => h) (Or.inr ⟨by rfl, rfl⟩) (by assumption) ?_)
      (try simp only [Act.put, List.setIfInBounds_toArray, List.set_cons_zero, List.set_cons_succ])
      first
      | (refine wpAnyH_take (i := 3) (oi := _) (v := ?_) (getop rfl) (by kernel_rfl) (by kernel_rfl) (by kernel_rfl) (fun _ _ _ h => h) (Or.inl ⟨by rfl, ?_⟩) (by assumption) ?_; rotate_left; focus (intro w hSw; (try dsimp only at hSw); go_simp; (try with_reducible rfl); done))
      | (refine wpAnyH_take (i := 3) (oi := _) (v := undef) (getop rfl) (by kernel_rfl) (by kernel_rfl) (by kernel_rfl) (fun _ _ _ h => h) (Or.inr ⟨by rfl, rfl⟩) (by assumption) ?_)
      (try simp only [Act.put, List.setIfInBounds_toArray, List.set_cons_zero, List.set_cons_succ])
      first
      | (refine wpAnyH_take (i := 7) (oi := _) (v := ?_) (getop rfl) (by kernel_rfl) (by kernel_rfl) (by kernel_rfl) (fun _ _ _ h => h) (Or.inl ⟨by rfl, ?_⟩) (by assumption) ?_; rotate_left; focus (intro w hSw; (try dsimp only at hSw); go_simp; (try with_reducible rfl); done))
      | (refine wpAnyH_take (i := 7) (oi := _) (v := undef) (getop rfl) (by kernel_rfl) (by kernel_rfl) (by kernel_rfl) (fun _ _ _ h => h) (Or.inr ⟨by rfl, rfl⟩) (by assumption) ?_)
      (try simp only [Act.put, List.setIfInBounds_toArray, List.set_cons_zero, List.set_cons_succ])
      first
      | (refine wpAnyH_take (i := 4) (oi := _) (v := ?_) (getop rfl) (by kernel_rfl) (by kernel_rfl) (by kernel_rfl) (fun _ _ _ h => h) (Or.inl ⟨by rfl, ?_⟩) (by assumption) ?_; rotate_left; focus (intro w hSw; (try dsimp only at hSw); go_simp; (try with_reducible rfl); done))
      | (refine wpAnyH_take (i := 4) (oi := _) (v := undef) (getop rfl) (by kernel_rfl) (by kernel_rfl) (by kernel_rfl) (fun _ _ _ h => h) (Or.inr ⟨by rfl, rfl⟩) (by assumption) ?_)
      (try simp only [Act.put, List.setIfInBounds_toArray, List.set_cons_zero, List.set_cons_succ])
      first
      | (refine wpAnyH_take (i := 8) (oi := _) (v := ?_) (getop rfl) (by kernel_rfl) (by kernel_rfl) (by kernel_rfl) (fun _ _ _ h => h) (Or.inl ⟨by rfl, ?_⟩) (by assumption) ?_; rotate_left; focus (intro w hSw; (try dsimp only at hSw); go_simp; (try with_reducible rfl); done))
      | (refine wpAnyH_take (i := 8) (oi := _) (v := undef) (getop rfl) (by kernel_rfl) (by kernel_rfl) (by kernel_rfl) (fun _ _ _ h => h) (Or.inr ⟨by rfl, rfl⟩) (by assumption) ?_)
      (try simp only [Act.put, List.setIfInBounds_toArray, List.set_cons_zero, List.set_cons_succ])
      first
      | (refine wpAnyH_take (i := 9) (oi := _) (v := ?_) (getop rfl) (by kernel_rfl) (by kernel_rfl) (by kernel_rfl) (fun _ _ _ h => h) (Or.inl ⟨by rfl, ?_⟩) (by assumption) ?_; rotate_left; focus (intro w hSw; (try dsimp only at hSw); go_simp; (try with_reducible rfl); done))
      | (refine wpAnyH_take (i := 9) (oi := _) (v := undef) (getop rfl) (by kernel_rfl) (by kernel_rfl) (by kernel_rfl) (fun _ _ _ h => h) (Or.inr ⟨by rfl, rfl⟩) (by assumption) ?_)
      (try simp only [Act.put, List.setIfInBounds_toArray, List.set_cons_zero, List.set_cons_succ])
      refine wpAnyH_ready (rs := [10]) (by kernel_rfl) (by simp) ?_
      refine (AllReadyH.cons (o := _) (getop rfl) (fun K hK => ?_) AllReadyH.nil)
      go_simp
      refine (HC.out _).mono ?_
      rintro e wz0 ⟨rfl, hb⟩
      replace hcx0 := ((lo_cell hb).1 _ _ hlt).trans hcx0
      replace hcx1 := ((lo_cell hb).1 _ _ hlt).trans hcx1
      replace hcy0 := ((lo_cell hb).1 _ _ hlt).trans hcy0
      replace hcy1 := ((lo_cell hb).1 _ _ hlt).trans hcy1
      replace hlt := Nat.lt_of_lt_of_le hlt hb.size
      replace hL := lo_trans hL hb
      clear hb
      refine hK.out _ _ ?_ (fun hHeld10 => ?_)
      focus ((try dsimp only); exact ⟨hcx0, hcx1, hcy0, hcy1, hlt⟩)
      clear hK K hHeld
      have hHeld := hHeld10
      clear hHeld10
      (try simp only [Act.put, List.setIfInBounds_toArray, List.set_cons_zero, List.set_cons_succ])
      first
      | (refine wpAnyH_take (i := 11) (oi := _) (v := ?_) (getop rfl) (by kernel_rfl) (by kernel_rfl) (by kernel_rfl) (fun _ _ _ h => h) (Or.inl ⟨by rfl, ?_⟩) (by assumption) ?_; rotate_left; focus (intro w hSw; (try dsimp only at hSw); go_simp; (try with_reducible rfl); done))
      | (refine wpAnyH_take (i := 11) (oi := _) (v := undef) (getop rfl) (by kernel_rfl) (by kernel_rfl) (by kernel_rfl) (fun _ _ _ h => h) (Or.inr ⟨by rfl, rfl⟩) (by assumption) ?_)
      (try simp only [Act.put, List.setIfInBounds_toArray, List.set_cons_zero, List.set_cons_succ])
      refine wpAnyH_done (by kernel_rfl) ?_ _
      clear hcx0 hcx1 hcy0 hcy1 hlt hHeld
      have hM := Lib.hid hL
      clear hL
      go_wp2_with fail
      go_roundw
      case rel => exact ⟨2, by omega, by omega, rfl, hM.out⟩
      case measure => simp [intOf]
  · have hM := Lib.hid hL
    clear hL
    go_wp2_with fail
    go_ret
    exact ⟨rfl, hM.out⟩
end Go.Proofs.YtdonnbfojcggmaaGreat
