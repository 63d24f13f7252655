import Derived.Test.YtdonnbfojcggmaaGreatLimit
namespace Go.Proofs.YtdonnbfojcggmaaGreat
open Go.RowKit
attribute [local go_sem ↓] Go.wp_at_zero Go.wp_at_succ

/-- A connection that was made. -/
def NewPost (w : World) (C : Value → Value → Array Value) (e : Ending) (w' : World) : Prop :=
  ∃ A cap B c oA on oc ol, e = .returned (.tuple #[.agg (C (.slice A 1 cap) (.slice oA on oc)), .int .i64 0]) ∧ ItsOk w' A 1 cap [⟨B, c, 9, true, 5⟩] ∧ OutOk w' oA on oc ol 21 0 ∧ Below w.heap.size w w'
set_option maxRecDepth 100000 in
set_option maxHeartbeats 6400000 in
theorem new_any (w : World) : Calls Tryz.prog 5 #[.int .i64 9, .int .i64 30, .int .i64 5] w (NewPost w (fun s o => #[.int .i64 0, .string ⟨#[]⟩, .bool false, .int .i64 0, .string ⟨#[]⟩, .bool false, .int .i64 4096, .slice none 0 0, .int .i64 4096, .int .i64 4096, .slice none 0 0, .int .i64 4096, .int .i64 4096, .int .i64 4096, .int .i64 1, .int .i64 4294967295, .int .i64 65535, .int .i64 16384, .int .i64 4294967295, s, .int .i64 4294967295, .int .i64 9, .int .i64 0, .slice none 0 0, .slice none 0 0, .slice none 0 0, .int .i64 65535, .int .i64 65535, o, .int .i64 21, .int .i64 0, .bool false, .bool false, .bool false, .int .u32 0, .int .i64 5, .int .i64 30])) := by
  have H1 : Hid (∀ W, Calls Tryz.prog 15 #[.int .i64 4096] W (ValPost W (.tuple #[.agg #[.int .i64 4096, .slice none 0 0, .int .i64 4096], .int .i64 0]))) := Lib.hid fun W => hnew_any W
  have H2 : Hid (∀ W, Calls Tryz.prog 16 #[.int .i64 9] W (ValPost2 W)) := Lib.hid fun W => sown_any W
  have H3 : Hid (∀ W, Calls Tryz.prog 17 #[] W (ValPost W (.agg #[.int .i64 4096, .int .i64 1, .int .i64 4294967295, .int .i64 65535, .int .i64 16384, .int .i64 4294967295]))) := Lib.hid fun W => first_any W
  have H4 : Hid (∀ W gP, RowP W (some ⟨gP, 0, none⟩) 2 2 (prsL 9 true) → Calls Tryz.prog 18 #[.slice none 0 0, .slice (some ⟨gP, 0, none⟩) 2 2, .int .i64 5] W (UPushPost W [] 9 true 5)) := Lib.hid fun W gP hp => upush_ok none 0 0 [] (some ⟨gP, 0, none⟩) 2 2 9 true 5 W ⟨Row.nil, fun x hx => by simp at hx, by decide, fun x hx => by simp at hx, List.Pairwise.nil⟩ hp (by decide) (by decide) (fun x hx => by simp at hx) (by decide)
  have H5 : Hid (∀ W, Calls Tryz.prog 20 #[] W (ValPost W (.agg #[.int .i64 4096, .slice none 0 0, .int .i64 4096, .int .i64 4096]))) := Lib.hid fun W => enew_any W
  have H6 : Hid (∀ W A1 c1, Calls Tryz.prog 19 #[.agg #[.int .i64 0, .string ⟨#[]⟩, .bool false, .int .i64 0, .string ⟨#[]⟩, .bool false, .int .i64 4096, .slice none 0 0, .int .i64 4096, .int .i64 4096, .slice none 0 0, .int .i64 4096, .int .i64 4096, .int .i64 4096, .int .i64 1, .int .i64 4294967295, .int .i64 65535, .int .i64 16384, .int .i64 4294967295, .slice A1 1 c1, .int .i64 4294967295, .int .i64 9, .int .i64 0, .slice none 0 0, .slice none 0 0, .slice none 0 0, .int .i64 65535, .int .i64 65535, .slice none 0 0, .int .i64 0, .int .i64 0, .bool false, .bool false, .bool false, .int .u32 0, .int .i64 5, .int .i64 30]] W (StartPost W #[.int .i64 0, .string ⟨#[]⟩, .bool false, .int .i64 0, .string ⟨#[]⟩, .bool false, .int .i64 4096, .slice none 0 0, .int .i64 4096, .int .i64 4096, .slice none 0 0, .int .i64 4096, .int .i64 4096, .int .i64 4096, .int .i64 1, .int .i64 4294967295, .int .i64 65535, .int .i64 16384, .int .i64 4294967295, .slice A1 1 c1, .int .i64 4294967295, .int .i64 9, .int .i64 0, .slice none 0 0, .slice none 0 0, .slice none 0 0, .int .i64 65535, .int .i64 65535, .slice none 0 0, .int .i64 0, .int .i64 0, .bool false, .bool false, .bool false, .int .u32 0, .int .i64 5, .int .i64 30, .slice none 0 0])) := Lib.hid fun W A1 c1 => start_any 0 A1 1 c1 4294967295 9 none 0 0 0 0 false false 0 5 W
  have H7 : Hid (∀ W g gP A1 c1, Blk W g 89 #[.int .i64 0, .string ⟨#[]⟩, .bool false, .int .i64 0, .string ⟨#[]⟩, .bool false, .int .i64 4096, .slice none 0 0, .int .i64 4096, .int .i64 4096, .slice none 0 0, .int .i64 4096, .int .i64 4096, .int .i64 4096, .int .i64 1, .int .i64 4294967295, .int .i64 65535, .int .i64 16384, .int .i64 4294967295, .slice A1 1 c1, .int .i64 4294967295, .int .i64 9, .int .i64 0, .slice none 0 0, .slice none 0 0, .slice none 0 0, .int .i64 65535, .int .i64 65535, .slice none 0 0, .int .i64 0, .int .i64 0, .bool false, .bool false, .bool false, .int .u32 0, .int .i64 5, .int .i64 30, .slice none 0 0] → RowP W (some ⟨gP, 0, none⟩) 2 2 (prsL 9 true) → Calls Tryz.prog 21 #[.pointer (some ⟨g, 0, none⟩), .agg #[.int .u8 4, .int .u8 0, .int .i64 0, .string ⟨#[]⟩, .int .i64 0, .int .i64 0, .bool false, .int .u8 0, .int .u32 0, .int .i64 0, .int .i64 0, .slice (some ⟨gP, 0, none⟩) 2 2]] W (EmitPost W g 21 (fun o md => #[.int .i64 0, .string ⟨#[]⟩, .bool false, .int .i64 0, .string ⟨#[]⟩, .bool false, .int .i64 4096, .slice none 0 0, .int .i64 4096, .int .i64 4096, .slice none 0 0, .int .i64 4096, .int .i64 4096, .int .i64 4096, .int .i64 1, .int .i64 4294967295, .int .i64 65535, .int .i64 16384, .int .i64 4294967295, .slice A1 1 c1, .int .i64 4294967295, .int .i64 9, .int .i64 0, .slice none 0 0, .slice none 0 0, .slice none 0 0, .int .i64 65535, .int .i64 65535, o, .int .i64 md, .int .i64 0, .bool false, .bool false, .bool false, .int .u32 0, .int .i64 5, .int .i64 30, .slice none 0 0]) 0 0)) := Lib.hid fun W g gP A1 c1 h1 h3 => emit_any 0 A1 1 c1 4294967295 9 none 0 0 [] 0 0 false 5 4 0 0 (.slice (some ⟨gP, 0, none⟩) 2 2) 21 g W h1 ⟨Row.nil, fun x hx => by simp at hx, rfl, by decide, by decide⟩ (by decide) (by decide) fun W2 hb => put_h 0 (some ⟨gP, 0, none⟩) 2 2 (prsL 9 true) W2 (RowP.prs (h3.lo hb) fun x hx => by
    simp [prsL] at hx
    rcases hx with rfl | rfl
    · exact ⟨.inl rfl, by decide⟩
    · exact ⟨.inr rfl, by decide⟩) (by decide) ⟨.inl rfl, fun _ => rfl⟩ (by decide)
  have hR := Blk.new w 49 #[.int .i64 0, .string ⟨#[]⟩, .bool false, .int .i64 0, .string ⟨#[]⟩, .bool false, .int .i64 0, .slice none 0 0, .int .i64 0, .int .i64 0, .slice none 0 0, .int .i64 0, .int .i64 0, .int .i64 0, .int .i64 0, .int .i64 0, .int .i64 0, .int .i64 0, .int .i64 0, .slice none 0 0, .int .i64 0, .int .i64 0, .int .i64 0, .slice none 0 0, .slice none 0 0, .slice none 0 0, .int .i64 0, .int .i64 0, .slice none 0 0, .int .i64 0, .int .i64 0, .bool false, .bool false, .bool false, .int .u32 0, .int .i64 0, .int .i64 0]
  have hL := lo_alloc (lo_refl w) (.cells #[.int .i64 0, .string ⟨#[]⟩, .bool false, .int .i64 0, .string ⟨#[]⟩, .bool false, .int .i64 0, .slice none 0 0, .int .i64 0, .int .i64 0, .slice none 0 0, .int .i64 0, .int .i64 0, .int .i64 0, .int .i64 0, .int .i64 0, .int .i64 0, .int .i64 0, .int .i64 0, .slice none 0 0, .int .i64 0, .int .i64 0, .int .i64 0, .slice none 0 0, .slice none 0 0, .slice none 0 0, .int .i64 0, .int .i64 0, .slice none 0 0, .int .i64 0, .int .i64 0, .bool false, .bool false, .bool false, .int .u32 0, .int .i64 0, .int .i64 0] 49)
  go_enter Tryz.func5, Tryz.ntmps5
  go_upto_region 1 with fail
  generalize w.alloc (.cells #[.int .i64 0, .string ⟨#[]⟩, .bool false, .int .i64 0, .string ⟨#[]⟩, .bool false, .int .i64 0, .slice none 0 0, .int .i64 0, .int .i64 0, .slice none 0 0, .int .i64 0, .int .i64 0, .int .i64 0, .int .i64 0, .int .i64 0, .int .i64 0, .int .i64 0, .int .i64 0, .slice none 0 0, .int .i64 0, .int .i64 0, .int .i64 0, .slice none 0 0, .slice none 0 0, .slice none 0 0, .int .i64 0, .int .i64 0, .slice none 0 0, .int .i64 0, .int .i64 0, .bool false, .bool false, .bool false, .int .u32 0, .int .i64 0, .int .i64 0] 49) = w1 at hR hL ⊢
  go_wp2_with fail
  refine (H1.out _).mono ?_
  rintro e w2 ⟨rfl, hb⟩
  replace hR := hR.lo hb
  replace hL := lo_trans hL hb
  clear hb H1
  have h8 := Blk.new w2 32 #[.int .i64 4096, .slice none 0 0, .int .i64 4096]
  go_upto_region 4 with fail
  replace hR := hR.alloc (.cells #[.int .i64 4096, .slice none 0 0, .int .i64 4096] 32)
  replace hL := lo_alloc hL (.cells #[.int .i64 4096, .slice none 0 0, .int .i64 4096] 32)
  generalize w2.heap.size = g8 at h8 ⊢
  generalize w2.alloc (.cells #[.int .i64 4096, .slice none 0 0, .int .i64 4096] 32) = w3 at h8 hR hL ⊢
  go_wp2_with fail
  refine (H2.out _).mono ?_
  rintro e w4 ⟨gP, rfl, hP, hb⟩
  replace hR := hR.lo hb
  replace h8 := h8.lo hb
  replace hL := lo_trans hL hb
  clear hb H2
  go_wp2_with fail
  refine (H3.out _).mono ?_
  rintro e w5 ⟨rfl, hb⟩
  replace hR := hR.lo hb
  replace h8 := h8.lo hb
  replace hP := hP.lo hb
  replace hL := lo_trans hL hb
  clear hb H3
  have h11 := Blk.new w5 36 #[.int .i64 4096, .int .i64 1, .int .i64 4294967295, .int .i64 65535, .int .i64 16384, .int .i64 4294967295]
  go_upto_region 7 with fail
  replace hR := hR.alloc (.cells #[.int .i64 4096, .int .i64 1, .int .i64 4294967295, .int .i64 65535, .int .i64 16384, .int .i64 4294967295] 36)
  replace h8 := h8.alloc (.cells #[.int .i64 4096, .int .i64 1, .int .i64 4294967295, .int .i64 65535, .int .i64 16384, .int .i64 4294967295] 36)
  replace hP := hP.alloc (.cells #[.int .i64 4096, .int .i64 1, .int .i64 4294967295, .int .i64 65535, .int .i64 16384, .int .i64 4294967295] 36)
  replace hL := lo_alloc hL (.cells #[.int .i64 4096, .int .i64 1, .int .i64 4294967295, .int .i64 65535, .int .i64 16384, .int .i64 4294967295] 36)
  generalize w5.heap.size = g11 at h11 ⊢
  generalize w5.alloc (.cells #[.int .i64 4096, .int .i64 1, .int .i64 4294967295, .int .i64 65535, .int .i64 16384, .int .i64 4294967295] 36) = w5b at h11 h8 hR hP hL ⊢
  have hrp : RowP w5b (some ⟨gP, 0, none⟩) 2 2 (prsL 9 true) := row_one hP (prsL 9 true) 2 rfl rfl cellsP_len (by unfold maxLen; omega)
  clear hP
  go_wp2_with fail
  refine (H4.out _ _ hrp).mono ?_
  rintro e w6 ⟨A1, c1, B1, d1, rfl, hI, hb⟩
  replace hR := hR.lo hb
  replace h8 := h8.lo hb
  replace h11 := h11.lo hb
  replace hrp := hrp.lo hb
  replace hL := lo_trans hL hb
  clear hb H4
  have hI : ItsOk w6 A1 1 c1 [⟨B1, d1, 9, true, 5⟩] := hI
  go_upto_region 10 with fail
  refine wp_region_held_drew (S := (fun W => W.cell? ⟨g8, 0, none⟩ = some (.int .i64 4096) ∧ W.cell? ⟨g8, 1, none⟩ = some (.slice none 0 0) ∧ W.cell? ⟨g8, 2, none⟩ = some (.int .i64 4096) ∧ W.cell? ⟨g11, 0, none⟩ = some (.int .i64 4096) ∧ W.cell? ⟨g11, 1, none⟩ = some (.int .i64 1) ∧ W.cell? ⟨g11, 2, none⟩ = some (.int .i64 4294967295) ∧ W.cell? ⟨g11, 3, none⟩ = some (.int .i64 65535) ∧ W.cell? ⟨g11, 4, none⟩ = some (.int .i64 16384) ∧ W.cell? ⟨g11, 5, none⟩ = some (.int .i64 4294967295) ∧ g8 < W.heap.size ∧ g11 < W.heap.size)) (by kernel_rfl) ?_ (fun hHeld => ?_)
  focus ((try dsimp only); (have r := h8.facts.1; have q := h11.facts.1; exact ⟨r 0, r 1, r 2, q 0, q 1, q 2, q 3, q 4, q 5, h8.lt, h11.lt⟩))
  replace h8 : Blk w6.drew _ _ _ := h8
  replace h11 : Blk w6.drew _ _ _ := h11
  replace hR : Blk w6.drew _ _ _ := hR
  replace hI := hI.lo (lo_drew (lo_refl w6))
  replace hrp := hrp.lo (lo_drew (lo_refl w6))
  replace hL := lo_drew hL
  generalize w6.drew = wd at h8 h11 hR hI hrp hL hHeld ⊢
  first
  | (refine wpAnyH_take (i := 0) (oi := _) (v := ?_) (getop rfl) (by kernel_rfl) (by kernel_rfl) (by kernel_rfl) (fun _ _ _ h => h) (Or.inl ⟨by rfl, ?_⟩) (by assumption) ?_; rotate_left; focus (intro w hSw; (try dsimp only at hSw); go_simp; (try with_reducible rfl); done))
  | (refine wpAnyH_take (i := 0) (oi := _) (v := undef) (getop rfl) (by kernel_rfl) (by kernel_rfl) (by kernel_rfl) (fun _ _ _ h => h) (Or.inr ⟨by rfl, rfl⟩) (by assumption) ?_)
  (try simp only [Act.put, List.setIfInBounds_toArray, List.set_cons_zero, List.set_cons_succ])
  first
  | (refine wpAnyH_take (i := 2) (oi := _) (v := ?_) (getop rfl) (by kernel_rfl) (by kernel_rfl) (by kernel_rfl) (fun _ _ _ h => h) (Or.inl ⟨by rfl, ?_⟩) (by assumption) ?_; rotate_left; focus (intro w hSw; (try dsimp only at hSw); go_simp; (try with_reducible rfl); done))
  | (refine wpAnyH_take (i := 2) (oi := _) (v := undef) (getop rfl) (by kernel_rfl) (by kernel_rfl) (by kernel_rfl) (fun _ _ _ h => h) (Or.inr ⟨by rfl, rfl⟩) (by assumption) ?_)
  (try simp only [Act.put, List.setIfInBounds_toArray, List.set_cons_zero, List.set_cons_succ])
  first
  | (refine wpAnyH_take (i := 3) (oi := _) (v := ?_) (getop rfl) (by kernel_rfl) (by kernel_rfl) (by kernel_rfl) (fun _ _ _ h => h) (Or.inl ⟨by rfl, ?_⟩) (by assumption) ?_; rotate_left; focus (intro w hSw; (try dsimp only at hSw); go_simp; (try with_reducible rfl); done))
  | (refine wpAnyH_take (i := 3) (oi := _) (v := undef) (getop rfl) (by kernel_rfl) (by kernel_rfl) (by kernel_rfl) (fun _ _ _ h => h) (Or.inr ⟨by rfl, rfl⟩) (by assumption) ?_)
  (try simp only [Act.put, List.setIfInBounds_toArray, List.set_cons_zero, List.set_cons_succ])
  first
  | (refine wpAnyH_take (i := 4) (oi := _) (v := ?_) (getop rfl) (by kernel_rfl) (by kernel_rfl) (by kernel_rfl) (fun _ _ _ h => h) (Or.inl ⟨by rfl, ?_⟩) (by assumption) ?_; rotate_left; focus (intro w hSw; (try dsimp only at hSw); go_simp; (try with_reducible rfl); done))
  | (refine wpAnyH_take (i := 4) (oi := _) (v := undef) (getop rfl) (by kernel_rfl) (by kernel_rfl) (by kernel_rfl) (fun _ _ _ h => h) (Or.inr ⟨by rfl, rfl⟩) (by assumption) ?_)
  (try simp only [Act.put, List.setIfInBounds_toArray, List.set_cons_zero, List.set_cons_succ])
  first
  | (refine wpAnyH_take (i := 6) (oi := _) (v := ?_) (getop rfl) (by kernel_rfl) (by kernel_rfl) (by kernel_rfl) (fun _ _ _ h => h) (Or.inl ⟨by rfl, ?_⟩) (by assumption) ?_; rotate_left; focus (intro w hSw; (try dsimp only at hSw); go_simp; (try with_reducible rfl); done))
  | (refine wpAnyH_take (i := 6) (oi := _) (v := undef) (getop rfl) (by kernel_rfl) (by kernel_rfl) (by kernel_rfl) (fun _ _ _ h => h) (Or.inr ⟨by rfl, rfl⟩) (by assumption) ?_)
  (try simp only [Act.put, List.setIfInBounds_toArray, List.set_cons_zero, List.set_cons_succ])
  first
  | (refine wpAnyH_take (i := 7) (oi := _) (v := ?_) (getop rfl) (by kernel_rfl) (by kernel_rfl) (by kernel_rfl) (fun _ _ _ h => h) (Or.inl ⟨by rfl, ?_⟩) (by assumption) ?_; rotate_left; focus (intro w hSw; (try dsimp only at hSw); go_simp; (try with_reducible rfl); done))
  | (refine wpAnyH_take (i := 7) (oi := _) (v := undef) (getop rfl) (by kernel_rfl) (by kernel_rfl) (by kernel_rfl) (fun _ _ _ h => h) (Or.inr ⟨by rfl, rfl⟩) (by assumption) ?_)
  (try simp only [Act.put, List.setIfInBounds_toArray, List.set_cons_zero, List.set_cons_succ])
  first
  | (refine wpAnyH_take (i := 8) (oi := _) (v := ?_) (getop rfl) (by kernel_rfl) (by kernel_rfl) (by kernel_rfl) (fun _ _ _ h => h) (Or.inl ⟨by rfl, ?_⟩) (by assumption) ?_; rotate_left; focus (intro w hSw; (try dsimp only at hSw); go_simp; (try with_reducible rfl); done))
  | (refine wpAnyH_take (i := 8) (oi := _) (v := undef) (getop rfl) (by kernel_rfl) (by kernel_rfl) (by kernel_rfl) (fun _ _ _ h => h) (Or.inr ⟨by rfl, rfl⟩) (by assumption) ?_)
  (try simp only [Act.put, List.setIfInBounds_toArray, List.set_cons_zero, List.set_cons_succ])
  first
  | (refine wpAnyH_take (i := 5) (oi := _) (v := ?_) (getop rfl) (by kernel_rfl) (by kernel_rfl) (by kernel_rfl) (fun _ _ _ h => h) (Or.inl ⟨by rfl, ?_⟩) (by assumption) ?_; rotate_left; focus (intro w hSw; (try dsimp only at hSw); go_simp; (try with_reducible rfl); done))
  | (refine wpAnyH_take (i := 5) (oi := _) (v := undef) (getop rfl) (by kernel_rfl) (by kernel_rfl) (by kernel_rfl) (fun _ _ _ h => h) (Or.inr ⟨by rfl, rfl⟩) (by assumption) ?_)
  (try simp only [Act.put, List.setIfInBounds_toArray, List.set_cons_zero, List.set_cons_succ])
  refine wpAnyH_ready (rs := [1]) (by kernel_rfl) (by simp) ?_
  refine (AllReadyH.cons (o := _) (getop rfl) (fun K hK => ?_) AllReadyH.nil)
  go_simp
  refine (H5.out _).mono ?_
  rintro e wz0 ⟨rfl, hb⟩
  replace h8 := h8.lo hb
  replace h11 := h11.lo hb
  replace hR := hR.lo hb
  replace hI := hI.lo hb
  replace hrp := hrp.lo hb
  replace hL := lo_trans hL hb
  clear hb
  refine hK.out _ _ ?_ (fun hHeld1 => ?_)
  focus ((try dsimp only); (have r := h8.facts.1; have q := h11.facts.1; exact ⟨r 0, r 1, r 2, q 0, q 1, q 2, q 3, q 4, q 5, h8.lt, h11.lt⟩))
  clear hK K hHeld
  have hHeld := hHeld1
  clear hHeld1
  (try simp only [Act.put, List.setIfInBounds_toArray, List.set_cons_zero, List.set_cons_succ])
  first
  | (refine wpAnyH_take (i := 9) (oi := _) (v := ?_) (getop rfl) (by kernel_rfl) (by kernel_rfl) (by kernel_rfl) (fun _ _ _ h => h) (Or.inl ⟨by rfl, ?_⟩) (by assumption) ?_; rotate_left; focus (intro w hSw; (try dsimp only at hSw); go_simp; (try with_reducible rfl); done))
  | (refine wpAnyH_take (i := 9) (oi := _) (v := undef) (getop rfl) (by kernel_rfl) (by kernel_rfl) (by kernel_rfl) (fun _ _ _ h => h) (Or.inr ⟨by rfl, rfl⟩) (by assumption) ?_)
  (try simp only [Act.put, List.setIfInBounds_toArray, List.set_cons_zero, List.set_cons_succ])
  refine wpAnyH_ready (rs := [10]) (by kernel_rfl) (by simp) ?_
  refine (AllReadyH.cons (o := _) (getop rfl) (fun K hK => ?_) AllReadyH.nil)
  go_simp
  refine (H6.out _ _ _).mono ?_
  rintro e wz1 ⟨g, rfl, hM, hg, hb⟩
  have hgR : w.heap.size < g := by have := hR.lt; omega
  replace h8 := h8.lo hb
  replace h11 := h11.lo hb
  replace hR := hR.lo hb
  replace hI := hI.lo hb
  replace hrp := hrp.lo hb
  replace hL := lo_trans hL hb
  clear hb hg
  refine hK.out _ _ ?_ (fun hHeld10 => ?_)
  focus ((try dsimp only); (have r := h8.facts.1; have q := h11.facts.1; exact ⟨r 0, r 1, r 2, q 0, q 1, q 2, q 3, q 4, q 5, h8.lt, h11.lt⟩))
  clear hK K hHeld
  have hHeld := hHeld10
  clear hHeld10
  (try simp only [Act.put, List.setIfInBounds_toArray, List.set_cons_zero, List.set_cons_succ])
  first
  | (refine wpAnyH_take (i := 11) (oi := _) (v := ?_) (getop rfl) (by kernel_rfl) (by kernel_rfl) (by kernel_rfl) (fun _ _ _ h => h) (Or.inl ⟨by rfl, ?_⟩) (by assumption) ?_; rotate_left; focus (intro w hSw; (try dsimp only at hSw); go_simp; (try with_reducible rfl); done))
  | (refine wpAnyH_take (i := 11) (oi := _) (v := undef) (getop rfl) (by kernel_rfl) (by kernel_rfl) (by kernel_rfl) (fun _ _ _ h => h) (Or.inr ⟨by rfl, rfl⟩) (by assumption) ?_)
  (try simp only [Act.put, List.setIfInBounds_toArray, List.set_cons_zero, List.set_cons_succ])
  refine wpAnyH_done (by kernel_rfl) ?_ _
  clear hHeld h8 h11
  obtain ⟨cM, fM⟩ := hM.facts
  have lM := hM.lt
  go_wp2_with fail
  refine (H7.out _ _ _ _ _ hM hrp).mono ?_
  rintro e w8 ⟨A2, n2, c2, l2, rfl, ho, hM2, hKt⟩
  clear cM fM lM
  replace hL := kept_lo hL hKt (by omega)
  replace hR := hR.kept hKt (by omega)
  replace hI := hI.kept hKt hM
  clear hM hKt hrp
  have hrg := blk_range hM2 [.int .i64 0, .string ⟨#[]⟩, .bool false, .int .i64 0, .string ⟨#[]⟩, .bool false, .int .i64 4096, .slice none 0 0, .int .i64 4096, .int .i64 4096, .slice none 0 0, .int .i64 4096, .int .i64 4096, .int .i64 4096, .int .i64 1, .int .i64 4294967295, .int .i64 65535, .int .i64 16384, .int .i64 4294967295, .slice A1 1 c1, .int .i64 4294967295, .int .i64 9, .int .i64 0, .slice none 0 0, .slice none 0 0, .slice none 0 0, .int .i64 65535, .int .i64 65535, .slice A2 n2 c2, .int .i64 (0 + ((21 : Nat) : Int)), .int .i64 0, .bool false, .bool false, .bool false, .int .u32 0, .int .i64 5, .int .i64 30] [.slice none 0 0] rfl
  have hth := blk_there hR 37 rfl
  go_wp2_with (first | (refine wpList_load_mid rfl 49 _ rfl (g) 0 rfl [.int .i64 0, .string ⟨#[]⟩, .bool false, .int .i64 0, .string ⟨#[]⟩, .bool false, .int .i64 4096, .slice none 0 0, .int .i64 4096, .int .i64 4096, .slice none 0 0, .int .i64 4096, .int .i64 4096, .int .i64 4096, .int .i64 1, .int .i64 4294967295, .int .i64 65535, .int .i64 16384, .int .i64 4294967295, .slice A1 1 c1, .int .i64 4294967295, .int .i64 9, .int .i64 0, .slice none 0 0, .slice none 0 0, .slice none 0 0, .int .i64 65535, .int .i64 65535, .slice A2 n2 c2, .int .i64 (0 + ((21 : Nat) : Int)), .int .i64 0, .bool false, .bool false, .bool false, .int .u32 0, .int .i64 5, .int .i64 30] _ hrg Tryz.underlying49 rfl size49 ?_) | (refine wpList_store_mid rfl 49 _ _ rfl (w.heap.size) 0 #[.int .i64 0, .string ⟨#[]⟩, .bool false, .int .i64 0, .string ⟨#[]⟩, .bool false, .int .i64 4096, .slice none 0 0, .int .i64 4096, .int .i64 4096, .slice none 0 0, .int .i64 4096, .int .i64 4096, .int .i64 4096, .int .i64 1, .int .i64 4294967295, .int .i64 65535, .int .i64 16384, .int .i64 4294967295, .slice A1 1 c1, .int .i64 4294967295, .int .i64 9, .int .i64 0, .slice none 0 0, .slice none 0 0, .slice none 0 0, .int .i64 65535, .int .i64 65535, .slice A2 n2 c2, .int .i64 (0 + ((21 : Nat) : Int)), .int .i64 0, .bool false, .bool false, .bool false, .int .u32 0, .int .i64 5, .int .i64 30] rfl rfl hth size49 (by kernel_rfl) ?_))
  have hKr := Kept.setCells ([.int .i64 0, .string ⟨#[]⟩, .bool false, .int .i64 0, .string ⟨#[]⟩, .bool false, .int .i64 4096, .slice none 0 0, .int .i64 4096, .int .i64 4096, .slice none 0 0, .int .i64 4096, .int .i64 4096, .int .i64 4096, .int .i64 1, .int .i64 4294967295, .int .i64 65535, .int .i64 16384, .int .i64 4294967295, .slice A1 1 c1, .int .i64 4294967295, .int .i64 9, .int .i64 0, .slice none 0 0, .slice none 0 0, .slice none 0 0, .int .i64 65535, .int .i64 65535, .slice A2 n2 c2, .int .i64 (0 + ((21 : Nat) : Int)), .int .i64 0, .bool false, .bool false, .bool false, .int .u32 0, .int .i64 5, .int .i64 30] : List Value) 0 w8 (Kept.refl w8 w.heap.size)
  have ho7 := ho.keptT hKr hR (by decide)
  have hI7 := hI.keptT hKr hR (by decide) (by decide)
  have hR7 := hR.setAll #[.int .i64 0, .string ⟨#[]⟩, .bool false, .int .i64 0, .string ⟨#[]⟩, .bool false, .int .i64 4096, .slice none 0 0, .int .i64 4096, .int .i64 4096, .slice none 0 0, .int .i64 4096, .int .i64 4096, .int .i64 4096, .int .i64 1, .int .i64 4294967295, .int .i64 65535, .int .i64 16384, .int .i64 4294967295, .slice A1 1 c1, .int .i64 4294967295, .int .i64 9, .int .i64 0, .slice none 0 0, .slice none 0 0, .slice none 0 0, .int .i64 65535, .int .i64 65535, .slice A2 n2 c2, .int .i64 (0 + ((21 : Nat) : Int)), .int .i64 0, .bool false, .bool false, .bool false, .int .u32 0, .int .i64 5, .int .i64 30] rfl
  have hL7 := lo_cells (Nat.le_refl _) [.int .i64 0, .string ⟨#[]⟩, .bool false, .int .i64 0, .string ⟨#[]⟩, .bool false, .int .i64 4096, .slice none 0 0, .int .i64 4096, .int .i64 4096, .slice none 0 0, .int .i64 4096, .int .i64 4096, .int .i64 4096, .int .i64 1, .int .i64 4294967295, .int .i64 65535, .int .i64 16384, .int .i64 4294967295, .slice A1 1 c1, .int .i64 4294967295, .int .i64 9, .int .i64 0, .slice none 0 0, .slice none 0 0, .slice none 0 0, .int .i64 65535, .int .i64 65535, .slice A2 n2 c2, .int .i64 (0 + ((21 : Nat) : Int)), .int .i64 0, .bool false, .bool false, .bool false, .int .u32 0, .int .i64 5, .int .i64 30] 0 w8 hL
  dsimp only at hR7 hL7 ho7 hI7
  refine bodyPost_ret (results_big (fn := Tryz.f5) (p := 6) (u := 7) rfl rfl hR7 Tryz.underlying49 rfl size49) rfl ?_
  exact ⟨A1, c1, B1, d1, A2, n2, c2, l2, rfl, hI7, ho7, hL7⟩
end Go.Proofs.YtdonnbfojcggmaaGreat
