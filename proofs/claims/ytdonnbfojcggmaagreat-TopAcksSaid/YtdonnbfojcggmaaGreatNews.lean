import Derived.Test.YtdonnbfojcggmaaGreatRead
namespace Go.Proofs.YtdonnbfojcggmaaGreat
open Go.RowKit
attribute [local go_sem ↓] Go.wp_at_zero Go.wp_at_succ

/-- The settings that are sent first. -/
def ValPost2 (w : World) (e : Ending) (w' : World) : Prop := ∃ g, e = .returned (.slice (some ⟨g, 0, none⟩) 2 2) ∧ Blk w' g 104 #[.int .u16 3, .int .u32 9, .int .u16 6, .int .u32 1024] ∧ Below w.heap.size w w'
/-- One value, what was there is kept. -/
def ValPost (w : World) (v : Value) (e : Ending) (w' : World) : Prop := e = .returned v ∧ Below w.heap.size w w'
theorem din_any (w : World) : Calls Tryz.prog 70 #[.int .i64 4096] w (BoolSame w true) := by
  go_enter Tryz.func70, Tryz.ntmps70
  go_wp2
  go_ret
  exact ⟨rfl, rfl⟩
theorem open_any (i : Int) (b c : Value) (w : World) (hi : i = 0) : Calls Tryz.prog 51 #[.agg #[.int .i64 i, b, c]] w (BoolPost w false) := by
  subst hi
  have hA := Blk.new w 27 #[.int .i64 0, b, c]
  have hL := lo_alloc (lo_refl w) (.cells #[.int .i64 0, b, c] 27)
  obtain ⟨cA, fA⟩ := hA.facts
  go_enter Tryz.func51, Tryz.ntmps51
  go_wp2_with fail
  go_ret
  exact ⟨rfl, hL⟩
set_option maxRecDepth 100000 in
set_option maxHeartbeats 1600000 in
theorem dnew_any (w : World) : Calls Tryz.prog 34 #[.int .i64 4096] w (ValPost w (.tuple #[.agg #[.int .i64 4096, .slice none 0 0], .int .i64 0])) := by
  have H : Hid (∀ w0, Calls Tryz.prog 70 #[.int .i64 4096] w0 (BoolSame w0 true)) := Lib.hid fun w0 => din_any w0
  have hR := Blk.new w 30 #[.int .i64 0, .slice none 0 0]
  have hL := lo_alloc (lo_refl w) (.cells #[.int .i64 4096, .slice none 0 0] 30)
  have hT := Blk.new w 30 #[.int .i64 4096, .slice none 0 0]
  obtain ⟨cR, fR⟩ := hR.facts
  obtain ⟨cT, fT⟩ := hT.facts
  have lR := hR.lt
  go_enter Tryz.func34, Tryz.ntmps34
  go_wp2_with fail
  refine (H.out _).mono ?_
  rintro e w1 ⟨rfl, rfl⟩
  go_wp2_with fail
  exact bodyPost_ret (v := .tuple #[.agg #[.int .i64 4096, .slice none 0 0], .int .i64 0]) (by simp [results, Tryz.results34, go_sem, cT] <;> (repeat' (first | apply And.intro | (show _ = _; kernel_rfl)))) rfl ⟨rfl, hL⟩
set_option maxRecDepth 100000 in
set_option maxHeartbeats 1600000 in
theorem hnew_any (w : World) : Calls Tryz.prog 15 #[.int .i64 4096] w (ValPost w (.tuple #[.agg #[.int .i64 4096, .slice none 0 0, .int .i64 4096], .int .i64 0])) := by
  have H : Hid (∀ w0, Calls Tryz.prog 34 #[.int .i64 4096] w0 (ValPost w0 (.tuple #[.agg #[.int .i64 4096, .slice none 0 0], .int .i64 0]))) := Lib.hid fun w0 => dnew_any w0
  have hR := Blk.new w 32 #[.int .i64 0, .slice none 0 0, .int .i64 0]
  have hL := lo_alloc (lo_refl w) (.cells #[.int .i64 0, .slice none 0 0, .int .i64 0] 32)
  go_enter Tryz.func15, Tryz.ntmps15
  go_wp2_with fail
  refine (H.out _).mono ?_
  rintro e w1 ⟨rfl, hb⟩
  replace hR := hR.lo hb
  replace hL := lo_trans hL hb
  clear hb H
  have hN := Blk.new w1 30 #[.int .i64 4096, .slice none 0 0]
  replace hR := hR.alloc (.cells #[.int .i64 4096, .slice none 0 0] 30)
  replace hL := lo_alloc hL (.cells #[.int .i64 4096, .slice none 0 0] 30)
  go_upto_region 2 with fail
  generalize w1.heap.size = gN at hN ⊢
  generalize w1.alloc (.cells #[.int .i64 4096, .slice none 0 0] 30) = w4 at hN hR hL ⊢
  obtain ⟨cN, fN⟩ := hN.facts
  obtain ⟨cR, fR⟩ := hR.facts
  have lR := hR.lt
  go_wp2_with fail
  clear cN fN cR fR lR
  have hR7 := (((hR.set_ 0 (.int .i64 4096)).set_ 1 (.slice none 0 0)).set_ 2 (.int .i64 4096))
  have hL7 := (lo_set (lo_set (lo_set hL (p := ⟨w.heap.size, 0, none⟩) (Nat.le_refl _) (.int .i64 4096)) (p := ⟨w.heap.size, 1, none⟩) (Nat.le_refl _) (.slice none 0 0)) (p := ⟨w.heap.size, 2, none⟩) (Nat.le_refl _) (.int .i64 4096))
  clear hR hL hN
  generalize (((w4.setCell ⟨w.heap.size, 0, none⟩ (.int .i64 4096)).setCell ⟨w.heap.size, 1, none⟩ (.slice none 0 0)).setCell ⟨w.heap.size, 2, none⟩ (.int .i64 4096)) = w7 at hR7 hL7 ⊢
  simp only [List.setIfInBounds_toArray, List.set_cons_zero, List.set_cons_succ] at hR7
  obtain ⟨cR, fR⟩ := hR7.facts
  exact bodyPost_ret (v := .tuple #[.agg #[.int .i64 4096, .slice none 0 0, .int .i64 4096], .int .i64 0]) (by simp [results, Tryz.results15, go_sem, cR] <;> (repeat' (first | apply And.intro | (show _ = _; kernel_rfl)))) rfl ⟨rfl, hL7⟩
set_option maxRecDepth 100000 in
set_option maxHeartbeats 1600000 in
theorem enew_any (w : World) : Calls Tryz.prog 20 #[] w (ValPost w (.agg #[.int .i64 4096, .slice none 0 0, .int .i64 4096, .int .i64 4096])) := by
  have hR := Blk.new w 34 #[.int .i64 0, .slice none 0 0, .int .i64 0, .int .i64 0]
  have hT := Blk.new w 34 #[.int .i64 4096, .slice none 0 0, .int .i64 4096, .int .i64 4096]
  have hL := lo_alloc (lo_refl w) (.cells #[.int .i64 4096, .slice none 0 0, .int .i64 4096, .int .i64 4096] 34)
  obtain ⟨cR, fR⟩ := hR.facts
  obtain ⟨cT, fT⟩ := hT.facts
  have lR := hR.lt
  go_enter Tryz.func20, Tryz.ntmps20
  go_wp2_with fail
  exact bodyPost_ret (v := .agg #[.int .i64 4096, .slice none 0 0, .int .i64 4096, .int .i64 4096]) (by simp [results, Tryz.results20, go_sem, cT] <;> (repeat' (first | apply And.intro | (show _ = _; kernel_rfl)))) rfl ⟨rfl, hL⟩
set_option maxRecDepth 100000 in
set_option maxHeartbeats 1600000 in
theorem first_any (w : World) : Calls Tryz.prog 17 #[] w (ValPost w (.agg #[.int .i64 4096, .int .i64 1, .int .i64 4294967295, .int .i64 65535, .int .i64 16384, .int .i64 4294967295])) := by
  have hR := Blk.new w 36 #[.int .i64 0, .int .i64 0, .int .i64 0, .int .i64 0, .int .i64 0, .int .i64 0]
  have hT := Blk.new w 36 #[.int .i64 4096, .int .i64 1, .int .i64 4294967295, .int .i64 65535, .int .i64 16384, .int .i64 4294967295]
  have hL := lo_alloc (lo_refl w) (.cells #[.int .i64 4096, .int .i64 1, .int .i64 4294967295, .int .i64 65535, .int .i64 16384, .int .i64 4294967295] 36)
  obtain ⟨cR, fR⟩ := hR.facts
  obtain ⟨cT, fT⟩ := hT.facts
  have lR := hR.lt
  go_enter Tryz.func17, Tryz.ntmps17
  go_wp2_with fail
  exact bodyPost_ret (v := .agg #[.int .i64 4096, .int .i64 1, .int .i64 4294967295, .int .i64 65535, .int .i64 16384, .int .i64 4294967295]) (by simp [results, Tryz.results17, go_sem, cT] <;> (repeat' (first | apply And.intro | (show _ = _; kernel_rfl)))) rfl ⟨rfl, hL⟩
set_option maxRecDepth 100000 in
set_option maxHeartbeats 1600000 in
theorem findex_nil (g : Nat) (lb : Array Value) (w : World) : Calls Tryz.prog 197 #[.slice none 0 0, .func (.func g) #[] lb] w (fun e w' => e = .returned (.int .i64 (-1)) ∧ w = w') := by
  go_enter Tryz.func197, Tryz.ntmps197
  go_wp2_with fail
  go_loopw [5, 8] (fun _ y wr => y = .int .i64 0 ∧ wr = w) (fun _ _ _ => 0)
  case atStart => exact ⟨rfl, rfl⟩
  case round =>
  obtain ⟨rfl, rfl⟩ := hrel
  go_wp2_with fail
  go_ret
  exact ⟨rfl, rfl⟩
theorem fcontains_nil (g : Nat) (lb : Array Value) (w : World) : Calls Tryz.prog 169 #[.slice none 0 0, .func (.func g) #[] lb] w (BoolSame w false) := by
  have H := Lib.hid (findex_nil g lb w)
  go_enter Tryz.func169, Tryz.ntmps169
  go_wp2_with fail
  refine H.out.mono ?_
  rintro e w1 ⟨rfl, rfl⟩
  go_wp2_with fail
  go_ret
  exact ⟨rfl, rfl⟩
theorem dsize_any (w : World) : Calls Tryz.prog 171 #[.agg #[.int .i64 4096, .slice none 0 0]] w (IntPost w 0) := by
  have hA := Blk.new w 30 #[.int .i64 4096, .slice none 0 0]
  have hL := lo_alloc (lo_refl w) (.cells #[.int .i64 4096, .slice none 0 0] 30)
  obtain ⟨cA, fA⟩ := hA.facts
  go_enter Tryz.func171, Tryz.ntmps171
  go_wp2_with fail
  clear cA fA hA
  go_loopw [3, 9] (fun s y wr => s = .int .i64 0 ∧ y = .int .i64 0 ∧ Below w.heap.size w wr) (fun _ _ _ => 0)
  case atStart => exact ⟨rfl, rfl, hL⟩
  case round =>
  clear hL
  obtain ⟨rfl, rfl, hL⟩ := hrel
  go_wp2_with fail
  go_ret
  exact ⟨rfl, hL⟩
set_option maxRecDepth 100000 in
set_option maxHeartbeats 1600000 in
theorem dcheck_any (w : World) : Calls Tryz.prog 148 #[.agg #[.int .i64 4096, .slice none 0 0]] w (IntPost w 0) := by
  have H1 : Hid (∀ w0, Calls Tryz.prog 70 #[.int .i64 4096] w0 (BoolSame w0 true)) := Lib.hid fun w0 => din_any w0
  have H2 : Hid (∀ w0, Calls Tryz.prog 169 #[.slice none 0 0, .func (.func 170) #[] #[]] w0 (BoolSame w0 false)) := Lib.hid fun w0 => fcontains_nil 170 #[] w0
  have H3 : Hid (∀ w0, Calls Tryz.prog 171 #[.agg #[.int .i64 4096, .slice none 0 0]] w0 (IntPost w0 0)) := Lib.hid fun w0 => dsize_any w0
  have hA := Blk.new w 30 #[.int .i64 4096, .slice none 0 0]
  have hL := lo_alloc (lo_refl w) (.cells #[.int .i64 4096, .slice none 0 0] 30)
  obtain ⟨cA, fA⟩ := hA.facts
  go_enter Tryz.func148, Tryz.ntmps148
  go_wp2_with fail
  refine (H1.out _).mono ?_
  rintro e w1 ⟨rfl, rfl⟩
  go_wp2_with fail
  refine (H2.out _).mono ?_
  rintro e w1 ⟨rfl, rfl⟩
  clear cA fA
  go_upto_region 5 with fail
  refine wp_region_held_drew (S := (fun W => W.cell? ⟨w.heap.size, 0, none⟩ = some (.int .i64 4096) ∧ W.cell? ⟨w.heap.size, 1, none⟩ = some (.slice none 0 0) ∧ w.heap.size < W.heap.size)) (by kernel_rfl) ?_ (fun hHeld => ?_)
  focus ((try dsimp only); (have r := hA.facts.1; exact ⟨r 0, r 1, hA.lt⟩))
  generalize hwd : (w.alloc (.cells #[.int .i64 4096, .slice none 0 0] 30)).drew = wd at hHeld ⊢
  replace hA : Blk wd _ _ _ := hwd ▸ hA.drew
  replace hL : Below w.heap.size w wd := hwd ▸ lo_drew hL
  clear hwd
  first
  | (refine wpAnyH_take (i := 0) (oi := _) (v := ?_) (getop rfl) (by kernel_rfl) (by kernel_rfl) (by kernel_rfl) (fun _ _ _ h => h) (Or.inl ⟨by rfl, ?_⟩) (by assumption) ?_; rotate_left; focus (intro w hSw; (try dsimp only at hSw); go_simp; (try with_reducible rfl); done))
  | (refine wpAnyH_take (i := 0) (oi := _) (v := undef) (getop rfl) (by kernel_rfl) (by kernel_rfl) (by kernel_rfl) (fun _ _ _ h => h) (Or.inr ⟨by rfl, rfl⟩) (by assumption) ?_)
  (try simp only [Act.put, List.setIfInBounds_toArray, List.set_cons_zero, List.set_cons_succ])
  first
  | (refine wpAnyH_take (i := 2) (oi := _) (v := ?_) (getop rfl) (by kernel_rfl) (by kernel_rfl) (by kernel_rfl) (fun _ _ _ h => h) (Or.inl ⟨by rfl, ?_⟩) (by assumption) ?_; rotate_left; focus (intro w hSw; (try dsimp only at hSw); go_simp; (try with_reducible rfl); done))
  | (refine wpAnyH_take (i := 2) (oi := _) (v := undef) (getop rfl) (by kernel_rfl) (by kernel_rfl) (by kernel_rfl) (fun _ _ _ h => h) (Or.inr ⟨by rfl, rfl⟩) (by assumption) ?_)
  (try simp only [Act.put, List.setIfInBounds_toArray, List.set_cons_zero, List.set_cons_succ])
  first
  | (refine wpAnyH_take (i := 3) (oi := _) (v := ?_) (getop rfl) (by kernel_rfl) (by kernel_rfl) (by kernel_rfl) (fun _ _ _ h => h) (Or.inl ⟨by rfl, ?_⟩) (by assumption) ?_; rotate_left; focus (intro w hSw; (try dsimp only at hSw); go_simp; (try with_reducible rfl); done))
  | (refine wpAnyH_take (i := 3) (oi := _) (v := undef) (getop rfl) (by kernel_rfl) (by kernel_rfl) (by kernel_rfl) (fun _ _ _ h => h) (Or.inr ⟨by rfl, rfl⟩) (by assumption) ?_)
  (try simp only [Act.put, List.setIfInBounds_toArray, List.set_cons_zero, List.set_cons_succ])
  refine wpAnyH_ready (rs := [1]) (by kernel_rfl) (by simp) ?_
  refine (AllReadyH.cons (o := _) (getop rfl) (fun K hK => ?_) AllReadyH.nil)
  go_simp
  refine (H3.out _).mono ?_
  rintro e wz0 ⟨rfl, hb⟩
  replace hA := hA.lo hb
  replace hL := lo_trans hL hb
  clear hb
  refine hK.out _ _ ?_ (fun hHeld1 => ?_)
  focus ((try dsimp only); (have r := hA.facts.1; exact ⟨r 0, r 1, hA.lt⟩))
  clear hK K hHeld
  have hHeld := hHeld1
  clear hHeld1
  (try simp only [Act.put, List.setIfInBounds_toArray, List.set_cons_zero, List.set_cons_succ])
  first
  | (refine wpAnyH_take (i := 4) (oi := _) (v := ?_) (getop rfl) (by kernel_rfl) (by kernel_rfl) (by kernel_rfl) (fun _ _ _ h => h) (Or.inl ⟨by rfl, ?_⟩) (by assumption) ?_; rotate_left; focus (intro w hSw; (try dsimp only at hSw); go_simp; (try with_reducible rfl); done))
  | (refine wpAnyH_take (i := 4) (oi := _) (v := undef) (getop rfl) (by kernel_rfl) (by kernel_rfl) (by kernel_rfl) (fun _ _ _ h => h) (Or.inr ⟨by rfl, rfl⟩) (by assumption) ?_)
  (try simp only [Act.put, List.setIfInBounds_toArray, List.set_cons_zero, List.set_cons_succ])
  first
  | (refine wpAnyH_take (i := 5) (oi := _) (v := ?_) (getop rfl) (by kernel_rfl) (by kernel_rfl) (by kernel_rfl) (fun _ _ _ h => h) (Or.inl ⟨by rfl, ?_⟩) (by assumption) ?_; rotate_left; focus (intro w hSw; (try dsimp only at hSw); go_simp; (try with_reducible rfl); done))
  | (refine wpAnyH_take (i := 5) (oi := _) (v := undef) (getop rfl) (by kernel_rfl) (by kernel_rfl) (by kernel_rfl) (fun _ _ _ h => h) (Or.inr ⟨by rfl, rfl⟩) (by assumption) ?_)
  (try simp only [Act.put, List.setIfInBounds_toArray, List.set_cons_zero, List.set_cons_succ])
  refine wpAnyH_done (by kernel_rfl) ?_ _
  clear hHeld hA
  go_wp2_with fail
  go_ret
  exact ⟨rfl, hL⟩
set_option maxRecDepth 100000 in
set_option maxHeartbeats 1600000 in
theorem echeck_any (w : World) : Calls Tryz.prog 138 #[.agg #[.int .i64 4096, .slice none 0 0, .int .i64 4096, .int .i64 4096]] w (IntPost w 0) := by
  have H1 : Hid (∀ w0, Calls Tryz.prog 148 #[.agg #[.int .i64 4096, .slice none 0 0]] w0 (IntPost w0 0)) := Lib.hid fun w0 => dcheck_any w0
  have hA := Blk.new w 34 #[.int .i64 4096, .slice none 0 0, .int .i64 4096, .int .i64 4096]
  have hL := lo_alloc (lo_refl w) (.cells #[.int .i64 4096, .slice none 0 0, .int .i64 4096, .int .i64 4096] 34)
  obtain ⟨cA, fA⟩ := hA.facts
  go_enter Tryz.func138, Tryz.ntmps138
  go_wp2_with fail
  refine (H1.out _).mono ?_
  rintro e w1 ⟨rfl, hb⟩
  clear cA fA
  replace hA := hA.lo hb
  replace hL := lo_trans hL hb
  clear hb
  obtain ⟨cA, fA⟩ := hA.facts
  go_wp2_with fail
  go_ret
  exact ⟨rfl, hL⟩
set_option maxRecDepth 100000 in
set_option maxHeartbeats 1600000 in
theorem elimit_any (w : World) : Calls Tryz.prog 96 #[.agg #[.int .i64 4096, .slice none 0 0, .int .i64 4096, .int .i64 4096], .int .i64 4096] w (ValPost w (.tuple #[.agg #[.int .i64 4096, .slice none 0 0, .int .i64 4096, .int .i64 4096], .int .i64 0])) := by
  have H1 : Hid (∀ w0, Calls Tryz.prog 138 #[.agg #[.int .i64 4096, .slice none 0 0, .int .i64 4096, .int .i64 4096]] w0 (IntPost w0 0)) := Lib.hid fun w0 => echeck_any w0
  have hA := Blk.new w 34 #[.int .i64 4096, .slice none 0 0, .int .i64 4096, .int .i64 4096]
  have hL := lo_alloc (lo_refl w) (.cells #[.int .i64 4096, .slice none 0 0, .int .i64 4096, .int .i64 4096] 34)
  have hR := Blk.new (w.alloc (.cells #[.int .i64 4096, .slice none 0 0, .int .i64 4096, .int .i64 4096] 34)) 34 #[.int .i64 0, .slice none 0 0, .int .i64 0, .int .i64 0]
  replace hA := hA.alloc (.cells #[.int .i64 0, .slice none 0 0, .int .i64 0, .int .i64 0] 34)
  replace hL := lo_alloc hL (.cells #[.int .i64 0, .slice none 0 0, .int .i64 0, .int .i64 0] 34)
  simp only [World.size_alloc] at hR
  obtain ⟨cA, fA⟩ := hA.facts
  go_enter Tryz.func96, Tryz.ntmps96
  go_wp2_with fail
  refine (H1.out _).mono ?_
  rintro e w1 ⟨rfl, hb⟩
  clear cA fA
  replace hA := hA.lo hb
  replace hR := hR.lo hb
  replace hL := lo_trans hL hb
  clear hb
  obtain ⟨cA, fA⟩ := hA.facts
  obtain ⟨cR, fR⟩ := hR.facts
  have lR := hR.lt
  go_wp2_with fail
  clear cA fA cR fR lR
  have hR7 := ((((hR.set_ 0 (.int .i64 4096)).set_ 1 (.slice none 0 0)).set_ 2 (.int .i64 4096)).set_ 3 (.int .i64 4096))
  have hL7 := (lo_set (lo_set (lo_set (lo_set hL (p := ⟨w.heap.size + 1, 0, none⟩) (Nat.le_succ _) (.int .i64 4096)) (p := ⟨w.heap.size + 1, 1, none⟩) (Nat.le_succ _) (.slice none 0 0)) (p := ⟨w.heap.size + 1, 2, none⟩) (Nat.le_succ _) (.int .i64 4096)) (p := ⟨w.heap.size + 1, 3, none⟩) (Nat.le_succ _) (.int .i64 4096))
  clear hR hL hA
  generalize ((((w1.setCell ⟨w.heap.size + 1, 0, none⟩ (.int .i64 4096)).setCell ⟨w.heap.size + 1, 1, none⟩ (.slice none 0 0)).setCell ⟨w.heap.size + 1, 2, none⟩ (.int .i64 4096)).setCell ⟨w.heap.size + 1, 3, none⟩ (.int .i64 4096)) = w7 at hR7 hL7 ⊢
  simp only [List.setIfInBounds_toArray, List.set_cons_zero, List.set_cons_succ] at hR7
  obtain ⟨cR, fR⟩ := hR7.facts
  exact bodyPost_ret (v := .tuple #[.agg #[.int .i64 4096, .slice none 0 0, .int .i64 4096, .int .i64 4096], .int .i64 0]) (by simp [results, Tryz.results96, go_sem, cR] <;> (repeat' (first | apply And.intro | (show _ = _; kernel_rfl)))) rfl ⟨rfl, hL7⟩
set_option maxRecDepth 100000 in
set_option maxHeartbeats 1600000 in
theorem sown_any (w : World) : Calls Tryz.prog 16 #[.int .i64 9] w (ValPost2 w) := by
  have hT := Blk.new w 104 #[.int .u16 3, .int .u32 9, .int .u16 6, .int .u32 1024]
  have hL := lo_alloc (lo_refl w) (.cells #[.int .u16 3, .int .u32 9, .int .u16 6, .int .u32 1024] 104)
  go_enter Tryz.func16, Tryz.ntmps16
  go_wp2_with fail
  go_ret
  exact ⟨_, rfl, hT, hL⟩
end Go.Proofs.YtdonnbfojcggmaaGreat
