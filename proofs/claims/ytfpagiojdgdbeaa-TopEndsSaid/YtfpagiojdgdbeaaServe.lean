import Derived.Deep.Onto
import Derived.Test.YtfpagiojdgdbeaaServeDef
namespace Go.Proofs.Ytfpagiojdgdbeaa
open Go.RowKit
attribute [local go_sem ↓] Go.wp_at_zero Go.wp_at_succ

set_option maxRecDepth 100000 in
set_option maxHeartbeats 1600000 in
theorem serve_none (B : Nat) (w : World) (s : Nat) (quantum limit time work : Int) (fl : List Fl) (gs : List Nat) (uo : Value) (mo : Nat) (ur : Value) (h : St B w s ⟨quantum, limit, time, work, fl, []⟩ gs uo mo ur) (hBw : B ≤ w.heap.size) :
    Calls Try.prog 8 #[.pointer (some ⟨s, 0, none⟩)] w fun e w' => e = .returned (.tuple #[.agg #[.int .i64 0, .int .i64 0, .int .i64 0, .int .i64 0], .bool false]) ∧ St B w' s ⟨quantum, limit, time, work, fl, []⟩ gs uo mo ur ∧ Below B w w' := by
  obtain ⟨Ar, capr, rfl, _⟩ := own_its h.rdy
  have hSt := h.lo (lo_alloc (lo_refl w) (.cells #[.int .i64 0, .int .i64 0, .int .i64 0, .int .i64 0] 32))
  have hR := Blk.new w 32 #[.int .i64 0, .int .i64 0, .int .i64 0, .int .i64 0]
  have hL := lo_alloc (lo_refl w) (.cells #[.int .i64 0, .int .i64 0, .int .i64 0, .int .i64 0] 32)
  have HPO := Lib.hid fun w0 => pop_none Ar capr w0
  clear h
  obtain ⟨cS, fS⟩ := hSt.blk.facts
  unfold schedC at cS
  have lS := hSt.blk.lt
  go_enter Try.func8, Try.ntmps8
  go_wp2_with fail
  refine (HPO.out _).mono ?_
  rintro e w1 ⟨rfl, hb⟩
  clear cS fS lS
  have hR := (hR.lo hb).alloc (.cells #[.int .i64 0, .int .i64 0] 64)
  have HSt := Lib.hid (hSt.lo (lo_alloc hb (.cells #[.int .i64 0, .int .i64 0] 64)))
  have hL := lo_alloc (lo_trans hL hb) (.cells #[.int .i64 0, .int .i64 0] 64)
  clear hb hSt
  obtain ⟨cR, fR⟩ := hR.facts
  have lR := hR.lt
  go_wp2_with fail
  refine bodyPost_ret (v := .tuple #[.agg #[.int .i64 0, .int .i64 0, .int .i64 0, .int .i64 0], .bool false]) (by simp [results, Try.results8, go_sem, cR] <;> rfl) rfl ⟨rfl, ?_, ?_⟩
  · have hR1 := hR.set_ 0 (.int .i64 0)
    have hR2 := hR1.set_ 1 (.int .i64 0)
    have hR3 := hR2.set_ 2 (.int .i64 0)
    have h1 := HSt.out.far hR (by decide) (by decide) (by decide) (by decide) (by decide) 0 (.int .i64 0)
    have h2 := h1.far hR1 (by decide) (by decide) (by decide) (by decide) (by decide) 1 (.int .i64 0)
    have h3 := h2.far hR2 (by decide) (by decide) (by decide) (by decide) (by decide) 2 (.int .i64 0)
    exact h3.far hR3 (by decide) (by decide) (by decide) (by decide) (by decide) 3 (.int .i64 0)
  · have hl2 := hL.mono hBw
    exact (((hl2.setCell (p := ⟨w.heap.size, 0, none⟩) hBw _).setCell (p := ⟨w.heap.size, 1, none⟩) hBw _).setCell (p := ⟨w.heap.size, 2, none⟩) hBw _).setCell (p := ⟨w.heap.size, 3, none⟩) hBw _
set_option maxRecDepth 100000 in
set_option maxHeartbeats 6400000 in
theorem serve_ok (B : Nat) (w : World) (s : Nat) (quantum limit time work : Int) (fl : List Fl) (p1 : Int) (t : List (Int × Int)) (gs : List Nat) (uo : Value) (mo : Nat) (ur : Value) (c : Nat) (hc : c < gs.length) (hcl : c < fl.length)
    (wt st fi wk : Int) (l : List Rq) (hfe : fl[c] = ⟨⟨wt, st, fi, wk⟩, l⟩) (h : St B w s ⟨quantum, limit, time, work, fl, (p1, (c : Int)) :: t⟩ gs uo mo ur) (hBw : B ≤ w.heap.size) (hokl : okQ limit l) (hl0 : l ≠ [])
    (htg : (Tg.mk wt st fi wk).ok) (hst : st ≤ 2000000000000000000) (hwk : wk ≤ 1000000) (hwork : 0 ≤ work ∧ work ≤ 1000000) (hq : 1 ≤ quantum ∧ quantum ≤ 1000) (hheap : heapOk ((p1, (c : Int)) :: t)) (hrl : t.length ≤ 40) :
    Calls Try.prog 8 #[.pointer (some ⟨s, 0, none⟩)] w (ServePost B w s ⟨quantum, limit, time, work, fl, (p1, (c : Int)) :: t⟩ gs uo mo c t) := by
  obtain ⟨Ar, capr, hur, hit⟩ := own_its h.rdy
  replace hur : ur = .slice Ar (t.length + 1) capr := hur
  replace hit : Its w Ar (t.length + 1) capr ((p1, (c : Int)) :: t) := hit
  subst hur
  obtain ⟨u, hF, hrow⟩ := h.fl c hc hcl
  obtain ⟨g, hge⟩ : ∃ g, gs[c] = g := ⟨_, rfl⟩
  have HFC : Hid (fl[c]? = some ⟨⟨wt, st, fi, wk⟩, l⟩) := Lib.hid (by rw [List.getElem?_eq_getElem hcl, hfe])
  rw [hge] at hF
  simp only [hfe] at hF hrow
  obtain ⟨A, cap, rfl, hrq⟩ := own_rqs hrow
  have HGE := Lib.hid hge
  have HOK := Lib.hid hokl
  have HTG := Lib.hid htg
  have hlp : 0 < l.length := List.length_pos_iff.2 hl0
  have HPO := Lib.hid fun w0 (h0 : Its w0 Ar (t.length + 1) capr ((p1, (c : Int)) :: t)) => pop_ok Ar (t.length + 1) capr t.length p1 c t w0 rfl h0 hheap (by omega)
  have HAS := Lib.hid fun w0 (h0 : Rqs w0 A l.length cap l) => aserve_ok limit A l.length cap l quantum w0 h0 hokl hlp hq.1
  have hSt := h
  clear h hge hfe hokl htg hheap hrow
  have HIT := Lib.hid hit
  have HR0 := Lib.hid hrq
  clear hit hrq
  have hL := lo_alloc (lo_refl w) (.cells #[.int .i64 0, .int .i64 0, .int .i64 0, .int .i64 0] 32)
  replace hSt := hSt.lo hL
  replace hF := hF.lo hL
  have hR := Blk.new w 32 #[.int .i64 0, .int .i64 0, .int .i64 0, .int .i64 0]
  obtain ⟨cS, fS⟩ := hSt.blk.facts
  unfold schedC at cS
  have lS := hSt.blk.lt
  go_enter Try.func8, Try.ntmps8
  go_wp2_with fail
  refine (HPO.out _ (agg_lo HIT.out hL)).mono ?_
  rintro e w1 ⟨r1, base1, u2, hper1, hok1, _, _, rfl, hr1, hb⟩
  obtain ⟨A2, cap2, rfl, _, _⟩ := own_shape hr1
  clear cS fS lS HPO HIT
  have HP1 := Lib.hid (And.intro hper1 hok1)
  have hr1l : r1.length = t.length := hper1.length_eq
  have HRL := Lib.hid hr1l
  clear hper1 hok1 hr1l
  replace hSt := hSt.lo (lo_alloc hb (.cells #[.int .i64 p1, .int .i64 (c : Int)] 64))
  replace hF := (hF.lo hb).alloc (.cells #[.int .i64 p1, .int .i64 (c : Int)] 64)
  replace hR := (hR.lo hb).alloc (.cells #[.int .i64 p1, .int .i64 (c : Int)] 64)
  replace hr1 := hr1.alloc (.cells #[.int .i64 p1, .int .i64 (c : Int)] 64)
  replace hL := lo_alloc (lo_trans hL hb) (.cells #[.int .i64 p1, .int .i64 (c : Int)] 64)
  have hI := Blk.new w1 64 #[.int .i64 p1, .int .i64 (c : Int)]
  clear hb
  go_upto_region 6 with fail
  generalize w1.heap.size = gI at hI ⊢
  generalize w1.alloc (.cells #[.int .i64 p1, .int .i64 (c : Int)] 64) = w2 at hSt hF hR hr1 hL hI ⊢
  refine wp_region_held_drew (S := (fun W => W.cell? ⟨s, 3, none⟩ = some (.map (some mo)) ∧ s < W.heap.size ∧ W.cell? ⟨gI, 1, none⟩ = some (.int .i64 c) ∧ gI < W.heap.size ∧ (Instr.lookup 45 (.map (some mo)) (.int .i64 c) false).run Try.prog W = .ok (.pointer (some ⟨g, 0, none⟩)) W)) (by kernel_rfl) ?_ (fun hHeld => ?_)
  focus ((try dsimp only); (have a := hSt.blk.facts.1 3; have b := hI.facts.1 1; have d := lookup_hit hSt.drew.map c hc; exact ⟨a, hSt.blk.lt, b, hI.lt, by rw [← HGE.out]; exact d⟩))
  replace hSt := hSt.drew
  replace hF : Blk w2.drew _ _ _ := hF
  replace hR : Blk w2.drew _ _ _ := hR
  replace hI : Blk w2.drew _ _ _ := hI
  replace hr1 : w2.drew.ownsRow _ _ _ _ _ _ := hr1
  replace hL := lo_drew hL
  generalize w2.drew = wd at hSt hF hR hI hr1 hL hHeld ⊢
  first
  | (refine wpAnyH_take (i := 0) (oi := _) (v := ?_) (getop rfl) (by kernel_rfl) (by kernel_rfl) (by kernel_rfl) (fun _ _ _ h => h) (Or.inl ⟨by rfl, ?_⟩) (by assumption) ?_; rotate_left; focus (intro w hSw; (try dsimp only at hSw); go_simp; (try with_reducible rfl); done))
  | (refine wpAnyH_take (i := 0) (oi := _) (v := undef) (getop rfl) (by kernel_rfl) (by kernel_rfl) (by kernel_rfl) (fun _ _ _ h => h) (Or.inr ⟨by rfl, rfl⟩) (by assumption) ?_)
  (try simp only [Act.put, List.setIfInBounds_toArray, List.set_cons_zero, List.set_cons_succ])
  first
  | (refine wpAnyH_take (i := 4) (oi := _) (v := ?_) (getop rfl) (by kernel_rfl) (by kernel_rfl) (by kernel_rfl) (fun _ _ _ h => h) (Or.inl ⟨by rfl, ?_⟩) (by assumption) ?_; rotate_left; focus (intro w hSw; (try dsimp only at hSw); go_simp; (try with_reducible rfl); done))
  | (refine wpAnyH_take (i := 4) (oi := _) (v := undef) (getop rfl) (by kernel_rfl) (by kernel_rfl) (by kernel_rfl) (fun _ _ _ h => h) (Or.inr ⟨by rfl, rfl⟩) (by assumption) ?_)
  (try simp only [Act.put, List.setIfInBounds_toArray, List.set_cons_zero, List.set_cons_succ])
  first
  | (refine wpAnyH_take (i := 1) (oi := _) (v := ?_) (getop rfl) (by kernel_rfl) (by kernel_rfl) (by kernel_rfl) (fun _ _ _ h => h) (Or.inl ⟨by rfl, ?_⟩) (by assumption) ?_; rotate_left; focus (intro w hSw; (try dsimp only at hSw); go_simp; (try with_reducible rfl); done))
  | (refine wpAnyH_take (i := 1) (oi := _) (v := undef) (getop rfl) (by kernel_rfl) (by kernel_rfl) (by kernel_rfl) (fun _ _ _ h => h) (Or.inr ⟨by rfl, rfl⟩) (by assumption) ?_)
  (try simp only [Act.put, List.setIfInBounds_toArray, List.set_cons_zero, List.set_cons_succ])
  first
  | (refine wpAnyH_take (i := 5) (oi := _) (v := ?_) (getop rfl) (by kernel_rfl) (by kernel_rfl) (by kernel_rfl) (fun _ _ _ h => h) (Or.inl ⟨by rfl, ?_⟩) (by assumption) ?_; rotate_left; focus (intro w hSw; (try dsimp only at hSw); go_simp; (try with_reducible rfl); done))
  | (refine wpAnyH_take (i := 5) (oi := _) (v := undef) (getop rfl) (by kernel_rfl) (by kernel_rfl) (by kernel_rfl) (fun _ _ _ h => h) (Or.inr ⟨by rfl, rfl⟩) (by assumption) ?_)
  (try simp only [Act.put, List.setIfInBounds_toArray, List.set_cons_zero, List.set_cons_succ])
  first
  | (refine wpAnyH_take (i := 2) (oi := _) (v := ?_) (getop rfl) (by kernel_rfl) (by kernel_rfl) (by kernel_rfl) (fun _ _ _ h => h) (Or.inl ⟨by rfl, ?_⟩) (by assumption) ?_; rotate_left; focus (intro w hSw; (try dsimp only at hSw); go_simp; (try with_reducible rfl); done))
  | (refine wpAnyH_take (i := 2) (oi := _) (v := undef) (getop rfl) (by kernel_rfl) (by kernel_rfl) (by kernel_rfl) (fun _ _ _ h => h) (Or.inr ⟨by rfl, rfl⟩) (by assumption) ?_)
  (try simp only [Act.put, List.setIfInBounds_toArray, List.set_cons_zero, List.set_cons_succ])
  first
  | (refine wpAnyH_take (i := 3) (oi := _) (v := ?_) (getop rfl) (by kernel_rfl) (by kernel_rfl) (by kernel_rfl) (fun _ _ _ h => h) (Or.inl ⟨by rfl, ?_⟩) (by assumption) ?_; rotate_left; focus (intro w hSw; (try dsimp only at hSw); go_simp; (try with_reducible rfl); done))
  | (refine wpAnyH_take (i := 3) (oi := _) (v := undef) (getop rfl) (by kernel_rfl) (by kernel_rfl) (by kernel_rfl) (fun _ _ _ h => h) (Or.inr ⟨by rfl, rfl⟩) (by assumption) ?_)
  (try simp only [Act.put, List.setIfInBounds_toArray, List.set_cons_zero, List.set_cons_succ])
  first
  | (refine wpAnyH_take (i := 6) (oi := _) (v := ?_) (getop rfl) (by kernel_rfl) (by kernel_rfl) (by kernel_rfl) (fun _ _ _ h => h) (Or.inl ⟨by rfl, ?_⟩) (by assumption) ?_; rotate_left; focus (intro w hSw; (try dsimp only at hSw); go_simp; (try with_reducible rfl); done))
  | (refine wpAnyH_take (i := 6) (oi := _) (v := undef) (getop rfl) (by kernel_rfl) (by kernel_rfl) (by kernel_rfl) (fun _ _ _ h => h) (Or.inr ⟨by rfl, rfl⟩) (by assumption) ?_)
  (try simp only [Act.put, List.setIfInBounds_toArray, List.set_cons_zero, List.set_cons_succ])
  first
  | (refine wpAnyH_take (i := 7) (oi := _) (v := ?_) (getop rfl) (by kernel_rfl) (by kernel_rfl) (by kernel_rfl) (fun _ _ _ h => h) (Or.inl ⟨by rfl, ?_⟩) (by assumption) ?_; rotate_left; focus (intro w hSw; (try dsimp only at hSw); go_simp; (try with_reducible rfl); done))
  | (refine wpAnyH_take (i := 7) (oi := _) (v := undef) (getop rfl) (by kernel_rfl) (by kernel_rfl) (by kernel_rfl) (fun _ _ _ h => h) (Or.inr ⟨by rfl, rfl⟩) (by assumption) ?_)
  (try simp only [Act.put, List.setIfInBounds_toArray, List.set_cons_zero, List.set_cons_succ])
  refine wpAnyH_done (by kernel_rfl) ?_ _
  clear hHeld hI
  go_upto_region 7 with fail
  generalize wd = w4 at hSt hF hR hr1 hL ⊢
  have HRQ := Lib.hid (agg_lo HR0.out hL)
  have HSt := Lib.hid hSt
  have HF := Lib.hid hF
  have HRR := Lib.hid (And.intro hR hr1)
  have HL0 := Lib.hid hL
  clear hSt hF hR hr1 hL HR0
  have hL := lo_refl w4
  go_cut [8, 9, 10] (fun t8 t9 t10 wc => ∃ gA gX k, ∃ hkl : k < l.length, ∃ A3 cap3, t8 = .pointer (some ⟨gA, 0, none⟩) ∧ t9 = .pointer (some ⟨gX, 0, none⟩) ∧ t10 = .int .i64 (min l[k].left quantum) ∧ NextOk limit l k ∧ wc.ownsRow 0 68 4 (.slice A3 (serveL l k quantum).length cap3) (serveL l k quantum).length ((serveL l k quantum).flatMap cellsR) ∧ Blk wc gA 58 #[.int .i64 limit, .slice A3 (serveL l k quantum).length cap3] ∧ Blk wc gX 68 #[.int .i64 (cutR l[k] quantum).id, .int .i64 (cutR l[k] quantum).rank, .int .i64 (cutR l[k] quantum).left, .int .i64 (cutR l[k] quantum).passed] ∧ w4.heap.size ≤ gA ∧ w4.heap.size ≤ gX ∧ Below w4.heap.size w4 wc)
  case first =>
    clear HFC HOK HTG HP1 HRL HL0 HRR
    refine wp_region_held_drew (S := (fun W => W.cell? ⟨g, 5, none⟩ = some (.int .i64 limit) ∧ W.cell? ⟨g, 6, none⟩ = some (.slice A l.length cap) ∧ g < W.heap.size ∧ W.cell? ⟨s, 0, none⟩ = some (.int .i64 quantum) ∧ s < W.heap.size)) (by kernel_rfl) ?_ (fun hHeld => ?_)
    focus ((try dsimp only); (have a := (HF.out.lo hL).facts.1; have b := (HSt.out.lo hL).blk.facts.1 0; exact ⟨a 5, a 6, (HF.out.lo hL).lt, b, (HSt.out.lo hL).blk.lt⟩))
    replace hL := lo_drew hL
    generalize w4.drew = wd at hL hHeld ⊢
    first
    | (refine wpAnyH_take (i := 0) (oi := _) (v := ?_) (getop rfl) (by kernel_rfl) (by kernel_rfl) (by kernel_rfl) (fun _ _ _ h => h) (Or.inl ⟨by rfl, ?_⟩) (by assumption) ?_; rotate_left; focus (intro w hSw; (try dsimp only at hSw); go_simp; (try with_reducible rfl); done))
    | (refine wpAnyH_take (i := 0) (oi := _) (v := undef) (getop rfl) (by kernel_rfl) (by kernel_rfl) (by kernel_rfl) (fun _ _ _ h => h) (Or.inr ⟨by rfl, rfl⟩) (by assumption) ?_)
    (try simp only [Act.put, List.setIfInBounds_toArray, List.set_cons_zero, List.set_cons_succ])
    first
    | (refine wpAnyH_take (i := 4) (oi := _) (v := ?_) (getop rfl) (by kernel_rfl) (by kernel_rfl) (by kernel_rfl) (fun _ _ _ h => h) (Or.inl ⟨by rfl, ?_⟩) (by assumption) ?_; rotate_left; focus (intro w hSw; (try dsimp only at hSw); go_simp; (try with_reducible rfl); done))
    | (refine wpAnyH_take (i := 4) (oi := _) (v := undef) (getop rfl) (by kernel_rfl) (by kernel_rfl) (by kernel_rfl) (fun _ _ _ h => h) (Or.inr ⟨by rfl, rfl⟩) (by assumption) ?_)
    (try simp only [Act.put, List.setIfInBounds_toArray, List.set_cons_zero, List.set_cons_succ])
    first
    | (refine wpAnyH_take (i := 1) (oi := _) (v := ?_) (getop rfl) (by kernel_rfl) (by kernel_rfl) (by kernel_rfl) (fun _ _ _ h => h) (Or.inl ⟨by rfl, ?_⟩) (by assumption) ?_; rotate_left; focus (intro w hSw; (try dsimp only at hSw); go_simp; (try with_reducible rfl); done))
    | (refine wpAnyH_take (i := 1) (oi := _) (v := undef) (getop rfl) (by kernel_rfl) (by kernel_rfl) (by kernel_rfl) (fun _ _ _ h => h) (Or.inr ⟨by rfl, rfl⟩) (by assumption) ?_)
    (try simp only [Act.put, List.setIfInBounds_toArray, List.set_cons_zero, List.set_cons_succ])
    first
    | (refine wpAnyH_take (i := 5) (oi := _) (v := ?_) (getop rfl) (by kernel_rfl) (by kernel_rfl) (by kernel_rfl) (fun _ _ _ h => h) (Or.inl ⟨by rfl, ?_⟩) (by assumption) ?_; rotate_left; focus (intro w hSw; (try dsimp only at hSw); go_simp; (try with_reducible rfl); done))
    | (refine wpAnyH_take (i := 5) (oi := _) (v := undef) (getop rfl) (by kernel_rfl) (by kernel_rfl) (by kernel_rfl) (fun _ _ _ h => h) (Or.inr ⟨by rfl, rfl⟩) (by assumption) ?_)
    (try simp only [Act.put, List.setIfInBounds_toArray, List.set_cons_zero, List.set_cons_succ])
    first
    | (refine wpAnyH_take (i := 2) (oi := _) (v := ?_) (getop rfl) (by kernel_rfl) (by kernel_rfl) (by kernel_rfl) (fun _ _ _ h => h) (Or.inl ⟨by rfl, ?_⟩) (by assumption) ?_; rotate_left; focus (intro w hSw; (try dsimp only at hSw); go_simp; (try with_reducible rfl); done))
    | (refine wpAnyH_take (i := 2) (oi := _) (v := undef) (getop rfl) (by kernel_rfl) (by kernel_rfl) (by kernel_rfl) (fun _ _ _ h => h) (Or.inr ⟨by rfl, rfl⟩) (by assumption) ?_)
    (try simp only [Act.put, List.setIfInBounds_toArray, List.set_cons_zero, List.set_cons_succ])
    first
    | (refine wpAnyH_take (i := 6) (oi := _) (v := ?_) (getop rfl) (by kernel_rfl) (by kernel_rfl) (by kernel_rfl) (fun _ _ _ h => h) (Or.inl ⟨by rfl, ?_⟩) (by assumption) ?_; rotate_left; focus (intro w hSw; (try dsimp only at hSw); go_simp; (try with_reducible rfl); done))
    | (refine wpAnyH_take (i := 6) (oi := _) (v := undef) (getop rfl) (by kernel_rfl) (by kernel_rfl) (by kernel_rfl) (fun _ _ _ h => h) (Or.inr ⟨by rfl, rfl⟩) (by assumption) ?_)
    (try simp only [Act.put, List.setIfInBounds_toArray, List.set_cons_zero, List.set_cons_succ])
    first
    | (refine wpAnyH_take (i := 3) (oi := _) (v := ?_) (getop rfl) (by kernel_rfl) (by kernel_rfl) (by kernel_rfl) (fun _ _ _ h => h) (Or.inl ⟨by rfl, ?_⟩) (by assumption) ?_; rotate_left; focus (intro w hSw; (try dsimp only at hSw); go_simp; (try with_reducible rfl); done))
    | (refine wpAnyH_take (i := 3) (oi := _) (v := undef) (getop rfl) (by kernel_rfl) (by kernel_rfl) (by kernel_rfl) (fun _ _ _ h => h) (Or.inr ⟨by rfl, rfl⟩) (by assumption) ?_)
    (try simp only [Act.put, List.setIfInBounds_toArray, List.set_cons_zero, List.set_cons_succ])
    first
    | (refine wpAnyH_take (i := 7) (oi := _) (v := ?_) (getop rfl) (by kernel_rfl) (by kernel_rfl) (by kernel_rfl) (fun _ _ _ h => h) (Or.inl ⟨by rfl, ?_⟩) (by assumption) ?_; rotate_left; focus (intro w hSw; (try dsimp only at hSw); go_simp; (try with_reducible rfl); done))
    | (refine wpAnyH_take (i := 7) (oi := _) (v := undef) (getop rfl) (by kernel_rfl) (by kernel_rfl) (by kernel_rfl) (fun _ _ _ h => h) (Or.inr ⟨by rfl, rfl⟩) (by assumption) ?_)
    (try simp only [Act.put, List.setIfInBounds_toArray, List.set_cons_zero, List.set_cons_succ])
    refine wpAnyH_ready (rs := [8, 13, 14]) (by kernel_rfl) (by simp) ?_
    refine (AllReadyH.cons (o := _) (getop rfl) (fun K hK => ?_) (AllReadyH.cons (o := _) (getop rfl) (fun K hK => ?_) (AllReadyH.cons (o := _) (getop rfl) (fun K hK => ?_) AllReadyH.nil)))
    · go_simp
      refine (HAS.out _ (agg_lo HRQ.out hL)).mono ?_
      rintro e wz0 ⟨⟨k, hk, hkl, base, u3, b1, b2, rfl, hown⟩, hb⟩
      obtain ⟨A3, cap3, rfl, _, _⟩ := own_shape hown
      replace hL := lo_trans hL hb
      clear hb
      refine hK.out _ _ ?_ (fun hHeld8 => ?_)
      focus ((try dsimp only); (have a := (HF.out.lo hL).facts.1; have b := (HSt.out.lo hL).blk.facts.1 0; exact ⟨a 5, a 6, (HF.out.lo hL).lt, b, (HSt.out.lo hL).blk.lt⟩))
      clear hK K hHeld
      have hHeld := hHeld8
      clear hHeld8
      (try simp only [Act.put, List.setIfInBounds_toArray, List.set_cons_zero, List.set_cons_succ])
      first
      | (refine wpAnyH_take (i := 9) (oi := _) (v := ?_) (getop rfl) (by kernel_rfl) (by kernel_rfl) (by kernel_rfl) (fun _ _ _ h => h) (Or.inl ⟨by rfl, ?_⟩) (by assumption) ?_; rotate_left; focus (intro w hSw; (try dsimp only at hSw); go_simp; (try with_reducible rfl); done))
      | (refine wpAnyH_take (i := 9) (oi := _) (v := undef) (getop rfl) (by kernel_rfl) (by kernel_rfl) (by kernel_rfl) (fun _ _ _ h => h) (Or.inr ⟨by rfl, rfl⟩) (by assumption) ?_)
      (try simp only [Act.put, List.setIfInBounds_toArray, List.set_cons_zero, List.set_cons_succ])
      first
      | (refine wpAnyH_take (i := 10) (oi := _) (v := ?_) (getop rfl) (by kernel_rfl) (by kernel_rfl) (by kernel_rfl) (fun _ _ _ h => h) (Or.inl ⟨by rfl, ?_⟩) (by assumption) ?_; rotate_left; focus (intro w hSw; (try dsimp only at hSw); go_simp; (try with_reducible rfl); done))
      | (refine wpAnyH_take (i := 10) (oi := _) (v := undef) (getop rfl) (by kernel_rfl) (by kernel_rfl) (by kernel_rfl) (fun _ _ _ h => h) (Or.inr ⟨by rfl, rfl⟩) (by assumption) ?_)
      (try simp only [Act.put, List.setIfInBounds_toArray, List.set_cons_zero, List.set_cons_succ])
      first
      | (refine wpAnyH_take (i := 11) (oi := _) (v := ?_) (getop rfl) (by kernel_rfl) (by kernel_rfl) (by kernel_rfl) (fun _ _ _ h => h) (Or.inl ⟨by rfl, ?_⟩) (by assumption) ?_; rotate_left; focus (intro w hSw; (try dsimp only at hSw); go_simp; (try with_reducible rfl); done))
      | (refine wpAnyH_take (i := 11) (oi := _) (v := undef) (getop rfl) (by kernel_rfl) (by kernel_rfl) (by kernel_rfl) (fun _ _ _ h => h) (Or.inr ⟨by rfl, rfl⟩) (by assumption) ?_)
      (try simp only [Act.put, List.setIfInBounds_toArray, List.set_cons_zero, List.set_cons_succ])
      first
      | (refine wpAnyH_take (i := 12) (oi := _) (v := ?_) (getop rfl) (by kernel_rfl) (by kernel_rfl) (by kernel_rfl) (fun _ _ _ h => h) (Or.inl ⟨by rfl, ?_⟩) (by assumption) ?_; rotate_left; focus (intro w hSw; (try dsimp only at hSw); go_simp; (try with_reducible rfl); done))
      | (refine wpAnyH_take (i := 12) (oi := _) (v := undef) (getop rfl) (by kernel_rfl) (by kernel_rfl) (by kernel_rfl) (fun _ _ _ h => h) (Or.inr ⟨by rfl, rfl⟩) (by assumption) ?_)
      (try simp only [Act.put, List.setIfInBounds_toArray, List.set_cons_zero, List.set_cons_succ])
      refine wpAnyH_ready (rs := [13, 14]) (by kernel_rfl) (by simp) ?_
      refine (AllReadyH.cons (o := _) (getop rfl) (fun K hK => ?_) (AllReadyH.cons (o := _) (getop rfl) (fun K hK => ?_) AllReadyH.nil))
      · go_simp
        have hA := Blk.new wz0 58 #[.int .i64 0, .slice none 0 0]
        have zA : w4.heap.size ≤ wz0.heap.size := hL.size
        replace hown := hown.alloc (.cells #[.int .i64 0, .slice none 0 0] 58)
        replace hL := lo_alloc hL (.cells #[.int .i64 0, .slice none 0 0] 58)
        generalize wz0.heap.size = gA at hA zA ⊢
        generalize wz0.alloc (.cells #[.int .i64 0, .slice none 0 0] 58) = wz1 at hA hown hL ⊢
        refine hK.out _ _ ?_ (fun hHeld13 => ?_)
        focus ((try dsimp only); (have a := (HF.out.lo hL).facts.1; have b := (HSt.out.lo hL).blk.facts.1 0; exact ⟨a 5, a 6, (HF.out.lo hL).lt, b, (HSt.out.lo hL).blk.lt⟩))
        clear hK K hHeld
        have hHeld := hHeld13
        clear hHeld13
        (try simp only [Act.put, List.setIfInBounds_toArray, List.set_cons_zero, List.set_cons_succ])
        refine wpAnyH_ready (rs := [14]) (by kernel_rfl) (by simp) ?_
        refine (AllReadyH.cons (o := _) (getop rfl) (fun K hK => ?_) AllReadyH.nil)
        go_simp
        have hnX := own_ne hown (g := wz1.heap.size) (Or.inr (Nat.le_refl _))
        have hX := Blk.new wz1 68 #[.int .i64 0, .int .i64 0, .int .i64 0, .int .i64 0]
        have zX : w4.heap.size ≤ wz1.heap.size := hL.size
        replace hA := hA.alloc (.cells #[.int .i64 0, .int .i64 0, .int .i64 0, .int .i64 0] 68)
        replace hown := hown.alloc (.cells #[.int .i64 0, .int .i64 0, .int .i64 0, .int .i64 0] 68)
        replace hL := lo_alloc hL (.cells #[.int .i64 0, .int .i64 0, .int .i64 0, .int .i64 0] 68)
        generalize wz1.heap.size = gX at hX zX hnX ⊢
        generalize wz1.alloc (.cells #[.int .i64 0, .int .i64 0, .int .i64 0, .int .i64 0] 68) = wz2 at hA hX hown hL ⊢
        refine hK.out _ _ ?_ (fun hHeld14 => ?_)
        focus ((try dsimp only); (have a := (HF.out.lo hL).facts.1; have b := (HSt.out.lo hL).blk.facts.1 0; exact ⟨a 5, a 6, (HF.out.lo hL).lt, b, (HSt.out.lo hL).blk.lt⟩))
        clear hK K hHeld
        have hHeld := hHeld14
        clear hHeld14
        (try simp only [Act.put, List.setIfInBounds_toArray, List.set_cons_zero, List.set_cons_succ])
        refine wpAnyH_ready (rs := [15]) (by kernel_rfl) (by simp) ?_
        refine (AllReadyH.cons (o := _) (getop rfl) (fun K hK => ?_) AllReadyH.nil)
        obtain ⟨cT, fT⟩ := hA.facts
        have lT := hA.lt
        go_simp
        clear cT fT lT
        replace hX := hX.far (p := ⟨gA, 0, none⟩) (by dsimp only; exact blk_ne hX hA (by decide)) (.int .i64 limit)
        replace hown := own_far hown (p := ⟨gA, 0, none⟩) (blk_ne_own hown hA (by decide)) (.int .i64 limit)
        replace hL := lo_set hL (p := ⟨gA, 0, none⟩) zA (.int .i64 limit)
        replace hA := hA.set_ 0 (.int .i64 limit)
        replace hX := hX.far (p := ⟨gA, 1, none⟩) (by dsimp only; exact blk_ne hX hA (by decide)) (.slice A3 (serveL l k quantum).length cap3)
        replace hown := own_far hown (p := ⟨gA, 1, none⟩) (blk_ne_own hown hA (by decide)) (.slice A3 (serveL l k quantum).length cap3)
        replace hL := lo_set hL (p := ⟨gA, 1, none⟩) zA (.slice A3 (serveL l k quantum).length cap3)
        replace hA := hA.set_ 1 (.slice A3 (serveL l k quantum).length cap3)
        replace hA : Blk ((wz2.setCell ⟨gA, 0, none⟩ (.int .i64 limit)).setCell ⟨gA, 1, none⟩ (.slice A3 (serveL l k quantum).length cap3)) gA 58 (#[.int .i64 limit, .slice A3 (serveL l k quantum).length cap3]) := by simpa [schedC, flowC] using hA
        generalize ((wz2.setCell ⟨gA, 0, none⟩ (.int .i64 limit)).setCell ⟨gA, 1, none⟩ (.slice A3 (serveL l k quantum).length cap3)) = wz3 at hA hX hown hL ⊢
        refine hK.out _ _ ?_ (fun hHeld15 => ?_)
        focus ((try dsimp only); (have a := (HF.out.lo hL).facts.1; have b := (HSt.out.lo hL).blk.facts.1 0; exact ⟨a 5, a 6, (HF.out.lo hL).lt, b, (HSt.out.lo hL).blk.lt⟩))
        clear hK K hHeld
        have hHeld := hHeld15
        clear hHeld15
        (try simp only [Act.put, List.setIfInBounds_toArray, List.set_cons_zero, List.set_cons_succ])
        refine wpAnyH_ready (rs := [16]) (by kernel_rfl) (by simp) ?_
        refine (AllReadyH.cons (o := _) (getop rfl) (fun K hK => ?_) AllReadyH.nil)
        obtain ⟨cT, fT⟩ := hX.facts
        have lT := hX.lt
        go_simp
        clear cT fT lT
        replace hA := hA.far (p := ⟨gX, 0, none⟩) (by dsimp only; exact blk_ne hA hX (by decide)) (.int .i64 (cutR l[k] quantum).id)
        replace hown := own_far hown (p := ⟨gX, 0, none⟩) hnX (.int .i64 (cutR l[k] quantum).id)
        replace hL := lo_set hL (p := ⟨gX, 0, none⟩) zX (.int .i64 (cutR l[k] quantum).id)
        replace hX := hX.set_ 0 (.int .i64 (cutR l[k] quantum).id)
        replace hA := hA.far (p := ⟨gX, 1, none⟩) (by dsimp only; exact blk_ne hA hX (by decide)) (.int .i64 (cutR l[k] quantum).rank)
        replace hown := own_far hown (p := ⟨gX, 1, none⟩) hnX (.int .i64 (cutR l[k] quantum).rank)
        replace hL := lo_set hL (p := ⟨gX, 1, none⟩) zX (.int .i64 (cutR l[k] quantum).rank)
        replace hX := hX.set_ 1 (.int .i64 (cutR l[k] quantum).rank)
        replace hA := hA.far (p := ⟨gX, 2, none⟩) (by dsimp only; exact blk_ne hA hX (by decide)) (.int .i64 (cutR l[k] quantum).left)
        replace hown := own_far hown (p := ⟨gX, 2, none⟩) hnX (.int .i64 (cutR l[k] quantum).left)
        replace hL := lo_set hL (p := ⟨gX, 2, none⟩) zX (.int .i64 (cutR l[k] quantum).left)
        replace hX := hX.set_ 2 (.int .i64 (cutR l[k] quantum).left)
        replace hA := hA.far (p := ⟨gX, 3, none⟩) (by dsimp only; exact blk_ne hA hX (by decide)) (.int .i64 (cutR l[k] quantum).passed)
        replace hown := own_far hown (p := ⟨gX, 3, none⟩) hnX (.int .i64 (cutR l[k] quantum).passed)
        replace hL := lo_set hL (p := ⟨gX, 3, none⟩) zX (.int .i64 (cutR l[k] quantum).passed)
        replace hX := hX.set_ 3 (.int .i64 (cutR l[k] quantum).passed)
        replace hX : Blk ((((wz3.setCell ⟨gX, 0, none⟩ (.int .i64 (cutR l[k] quantum).id)).setCell ⟨gX, 1, none⟩ (.int .i64 (cutR l[k] quantum).rank)).setCell ⟨gX, 2, none⟩ (.int .i64 (cutR l[k] quantum).left)).setCell ⟨gX, 3, none⟩ (.int .i64 (cutR l[k] quantum).passed)) gX 68 (#[.int .i64 (cutR l[k] quantum).id, .int .i64 (cutR l[k] quantum).rank, .int .i64 (cutR l[k] quantum).left, .int .i64 (cutR l[k] quantum).passed]) := by simpa [schedC, flowC] using hX
        generalize ((((wz3.setCell ⟨gX, 0, none⟩ (.int .i64 (cutR l[k] quantum).id)).setCell ⟨gX, 1, none⟩ (.int .i64 (cutR l[k] quantum).rank)).setCell ⟨gX, 2, none⟩ (.int .i64 (cutR l[k] quantum).left)).setCell ⟨gX, 3, none⟩ (.int .i64 (cutR l[k] quantum).passed)) = wz4 at hA hX hown hL ⊢
        refine hK.out _ _ ?_ (fun hHeld16 => ?_)
        focus ((try dsimp only); (have a := (HF.out.lo hL).facts.1; have b := (HSt.out.lo hL).blk.facts.1 0; exact ⟨a 5, a 6, (HF.out.lo hL).lt, b, (HSt.out.lo hL).blk.lt⟩))
        clear hK K hHeld
        have hHeld := hHeld16
        clear hHeld16
        (try simp only [Act.put, List.setIfInBounds_toArray, List.set_cons_zero, List.set_cons_succ])
        first
        | (refine wpAnyH_take (i := 17) (oi := _) (v := ?_) (getop rfl) (by kernel_rfl) (by kernel_rfl) (by kernel_rfl) (fun _ _ _ h => h) (Or.inl ⟨by rfl, ?_⟩) (by assumption) ?_; rotate_left; focus (intro w hSw; (try dsimp only at hSw); go_simp; (try with_reducible rfl); done))
        | (refine wpAnyH_take (i := 17) (oi := _) (v := undef) (getop rfl) (by kernel_rfl) (by kernel_rfl) (by kernel_rfl) (fun _ _ _ h => h) (Or.inr ⟨by rfl, rfl⟩) (by assumption) ?_)
        (try simp only [Act.put, List.setIfInBounds_toArray, List.set_cons_zero, List.set_cons_succ])
        refine wpAnyH_done (by kernel_rfl) ?_ _
        go_wp2_with fail
        go_meet
        exact ⟨gA, gX, k, hkl, A3, cap3, rfl, rfl, rfl, hk, hown.mono (Nat.zero_le _), hA, hX, zA, zX, hL⟩
      · go_simp
        have hnX := own_ne hown (g := wz0.heap.size) (Or.inr (Nat.le_refl _))
        have hX := Blk.new wz0 68 #[.int .i64 0, .int .i64 0, .int .i64 0, .int .i64 0]
        have zX : w4.heap.size ≤ wz0.heap.size := hL.size
        replace hown := hown.alloc (.cells #[.int .i64 0, .int .i64 0, .int .i64 0, .int .i64 0] 68)
        replace hL := lo_alloc hL (.cells #[.int .i64 0, .int .i64 0, .int .i64 0, .int .i64 0] 68)
        generalize wz0.heap.size = gX at hX zX hnX ⊢
        generalize wz0.alloc (.cells #[.int .i64 0, .int .i64 0, .int .i64 0, .int .i64 0] 68) = wz1 at hX hown hL ⊢
        refine hK.out _ _ ?_ (fun hHeld14 => ?_)
        focus ((try dsimp only); (have a := (HF.out.lo hL).facts.1; have b := (HSt.out.lo hL).blk.facts.1 0; exact ⟨a 5, a 6, (HF.out.lo hL).lt, b, (HSt.out.lo hL).blk.lt⟩))
        clear hK K hHeld
        have hHeld := hHeld14
        clear hHeld14
        (try simp only [Act.put, List.setIfInBounds_toArray, List.set_cons_zero, List.set_cons_succ])
        refine wpAnyH_ready (rs := [13]) (by kernel_rfl) (by simp) ?_
        refine (AllReadyH.cons (o := _) (getop rfl) (fun K hK => ?_) AllReadyH.nil)
        go_simp
        have hA := Blk.new wz1 58 #[.int .i64 0, .slice none 0 0]
        have zA : w4.heap.size ≤ wz1.heap.size := hL.size
        replace hX := hX.alloc (.cells #[.int .i64 0, .slice none 0 0] 58)
        replace hown := hown.alloc (.cells #[.int .i64 0, .slice none 0 0] 58)
        replace hL := lo_alloc hL (.cells #[.int .i64 0, .slice none 0 0] 58)
        generalize wz1.heap.size = gA at hA zA ⊢
        generalize wz1.alloc (.cells #[.int .i64 0, .slice none 0 0] 58) = wz2 at hX hA hown hL ⊢
        refine hK.out _ _ ?_ (fun hHeld13 => ?_)
        focus ((try dsimp only); (have a := (HF.out.lo hL).facts.1; have b := (HSt.out.lo hL).blk.facts.1 0; exact ⟨a 5, a 6, (HF.out.lo hL).lt, b, (HSt.out.lo hL).blk.lt⟩))
        clear hK K hHeld
        have hHeld := hHeld13
        clear hHeld13
        (try simp only [Act.put, List.setIfInBounds_toArray, List.set_cons_zero, List.set_cons_succ])
        refine wpAnyH_ready (rs := [15]) (by kernel_rfl) (by simp) ?_
        refine (AllReadyH.cons (o := _) (getop rfl) (fun K hK => ?_) AllReadyH.nil)
        obtain ⟨cT, fT⟩ := hA.facts
        have lT := hA.lt
        go_simp
        clear cT fT lT
        replace hX := hX.far (p := ⟨gA, 0, none⟩) (by dsimp only; exact blk_ne hX hA (by decide)) (.int .i64 limit)
        replace hown := own_far hown (p := ⟨gA, 0, none⟩) (blk_ne_own hown hA (by decide)) (.int .i64 limit)
        replace hL := lo_set hL (p := ⟨gA, 0, none⟩) zA (.int .i64 limit)
        replace hA := hA.set_ 0 (.int .i64 limit)
        replace hX := hX.far (p := ⟨gA, 1, none⟩) (by dsimp only; exact blk_ne hX hA (by decide)) (.slice A3 (serveL l k quantum).length cap3)
        replace hown := own_far hown (p := ⟨gA, 1, none⟩) (blk_ne_own hown hA (by decide)) (.slice A3 (serveL l k quantum).length cap3)
        replace hL := lo_set hL (p := ⟨gA, 1, none⟩) zA (.slice A3 (serveL l k quantum).length cap3)
        replace hA := hA.set_ 1 (.slice A3 (serveL l k quantum).length cap3)
        replace hA : Blk ((wz2.setCell ⟨gA, 0, none⟩ (.int .i64 limit)).setCell ⟨gA, 1, none⟩ (.slice A3 (serveL l k quantum).length cap3)) gA 58 (#[.int .i64 limit, .slice A3 (serveL l k quantum).length cap3]) := by simpa [schedC, flowC] using hA
        generalize ((wz2.setCell ⟨gA, 0, none⟩ (.int .i64 limit)).setCell ⟨gA, 1, none⟩ (.slice A3 (serveL l k quantum).length cap3)) = wz3 at hA hX hown hL ⊢
        refine hK.out _ _ ?_ (fun hHeld15 => ?_)
        focus ((try dsimp only); (have a := (HF.out.lo hL).facts.1; have b := (HSt.out.lo hL).blk.facts.1 0; exact ⟨a 5, a 6, (HF.out.lo hL).lt, b, (HSt.out.lo hL).blk.lt⟩))
        clear hK K hHeld
        have hHeld := hHeld15
        clear hHeld15
        (try simp only [Act.put, List.setIfInBounds_toArray, List.set_cons_zero, List.set_cons_succ])
        refine wpAnyH_ready (rs := [16]) (by kernel_rfl) (by simp) ?_
        refine (AllReadyH.cons (o := _) (getop rfl) (fun K hK => ?_) AllReadyH.nil)
        obtain ⟨cT, fT⟩ := hX.facts
        have lT := hX.lt
        go_simp
        clear cT fT lT
        replace hA := hA.far (p := ⟨gX, 0, none⟩) (by dsimp only; exact blk_ne hA hX (by decide)) (.int .i64 (cutR l[k] quantum).id)
        replace hown := own_far hown (p := ⟨gX, 0, none⟩) hnX (.int .i64 (cutR l[k] quantum).id)
        replace hL := lo_set hL (p := ⟨gX, 0, none⟩) zX (.int .i64 (cutR l[k] quantum).id)
        replace hX := hX.set_ 0 (.int .i64 (cutR l[k] quantum).id)
        replace hA := hA.far (p := ⟨gX, 1, none⟩) (by dsimp only; exact blk_ne hA hX (by decide)) (.int .i64 (cutR l[k] quantum).rank)
        replace hown := own_far hown (p := ⟨gX, 1, none⟩) hnX (.int .i64 (cutR l[k] quantum).rank)
        replace hL := lo_set hL (p := ⟨gX, 1, none⟩) zX (.int .i64 (cutR l[k] quantum).rank)
        replace hX := hX.set_ 1 (.int .i64 (cutR l[k] quantum).rank)
        replace hA := hA.far (p := ⟨gX, 2, none⟩) (by dsimp only; exact blk_ne hA hX (by decide)) (.int .i64 (cutR l[k] quantum).left)
        replace hown := own_far hown (p := ⟨gX, 2, none⟩) hnX (.int .i64 (cutR l[k] quantum).left)
        replace hL := lo_set hL (p := ⟨gX, 2, none⟩) zX (.int .i64 (cutR l[k] quantum).left)
        replace hX := hX.set_ 2 (.int .i64 (cutR l[k] quantum).left)
        replace hA := hA.far (p := ⟨gX, 3, none⟩) (by dsimp only; exact blk_ne hA hX (by decide)) (.int .i64 (cutR l[k] quantum).passed)
        replace hown := own_far hown (p := ⟨gX, 3, none⟩) hnX (.int .i64 (cutR l[k] quantum).passed)
        replace hL := lo_set hL (p := ⟨gX, 3, none⟩) zX (.int .i64 (cutR l[k] quantum).passed)
        replace hX := hX.set_ 3 (.int .i64 (cutR l[k] quantum).passed)
        replace hX : Blk ((((wz3.setCell ⟨gX, 0, none⟩ (.int .i64 (cutR l[k] quantum).id)).setCell ⟨gX, 1, none⟩ (.int .i64 (cutR l[k] quantum).rank)).setCell ⟨gX, 2, none⟩ (.int .i64 (cutR l[k] quantum).left)).setCell ⟨gX, 3, none⟩ (.int .i64 (cutR l[k] quantum).passed)) gX 68 (#[.int .i64 (cutR l[k] quantum).id, .int .i64 (cutR l[k] quantum).rank, .int .i64 (cutR l[k] quantum).left, .int .i64 (cutR l[k] quantum).passed]) := by simpa [schedC, flowC] using hX
        generalize ((((wz3.setCell ⟨gX, 0, none⟩ (.int .i64 (cutR l[k] quantum).id)).setCell ⟨gX, 1, none⟩ (.int .i64 (cutR l[k] quantum).rank)).setCell ⟨gX, 2, none⟩ (.int .i64 (cutR l[k] quantum).left)).setCell ⟨gX, 3, none⟩ (.int .i64 (cutR l[k] quantum).passed)) = wz4 at hA hX hown hL ⊢
        refine hK.out _ _ ?_ (fun hHeld16 => ?_)
        focus ((try dsimp only); (have a := (HF.out.lo hL).facts.1; have b := (HSt.out.lo hL).blk.facts.1 0; exact ⟨a 5, a 6, (HF.out.lo hL).lt, b, (HSt.out.lo hL).blk.lt⟩))
        clear hK K hHeld
        have hHeld := hHeld16
        clear hHeld16
        (try simp only [Act.put, List.setIfInBounds_toArray, List.set_cons_zero, List.set_cons_succ])
        first
        | (refine wpAnyH_take (i := 17) (oi := _) (v := ?_) (getop rfl) (by kernel_rfl) (by kernel_rfl) (by kernel_rfl) (fun _ _ _ h => h) (Or.inl ⟨by rfl, ?_⟩) (by assumption) ?_; rotate_left; focus (intro w hSw; (try dsimp only at hSw); go_simp; (try with_reducible rfl); done))
        | (refine wpAnyH_take (i := 17) (oi := _) (v := undef) (getop rfl) (by kernel_rfl) (by kernel_rfl) (by kernel_rfl) (fun _ _ _ h => h) (Or.inr ⟨by rfl, rfl⟩) (by assumption) ?_)
        (try simp only [Act.put, List.setIfInBounds_toArray, List.set_cons_zero, List.set_cons_succ])
        refine wpAnyH_done (by kernel_rfl) ?_ _
        go_wp2_with fail
        go_meet
        exact ⟨gA, gX, k, hkl, A3, cap3, rfl, rfl, rfl, hk, hown.mono (Nat.zero_le _), hA, hX, zA, zX, hL⟩
    · go_simp
      have hA := Blk.new wd 58 #[.int .i64 0, .slice none 0 0]
      have zA : w4.heap.size ≤ wd.heap.size := hL.size
      replace hL := lo_alloc hL (.cells #[.int .i64 0, .slice none 0 0] 58)
      generalize wd.heap.size = gA at hA zA ⊢
      generalize wd.alloc (.cells #[.int .i64 0, .slice none 0 0] 58) = wz0 at hA hL ⊢
      refine hK.out _ _ ?_ (fun hHeld13 => ?_)
      focus ((try dsimp only); (have a := (HF.out.lo hL).facts.1; have b := (HSt.out.lo hL).blk.facts.1 0; exact ⟨a 5, a 6, (HF.out.lo hL).lt, b, (HSt.out.lo hL).blk.lt⟩))
      clear hK K hHeld
      have hHeld := hHeld13
      clear hHeld13
      (try simp only [Act.put, List.setIfInBounds_toArray, List.set_cons_zero, List.set_cons_succ])
      refine wpAnyH_ready (rs := [8, 14]) (by kernel_rfl) (by simp) ?_
      refine (AllReadyH.cons (o := _) (getop rfl) (fun K hK => ?_) (AllReadyH.cons (o := _) (getop rfl) (fun K hK => ?_) AllReadyH.nil))
      · go_simp
        refine (HAS.out _ (agg_lo HRQ.out hL)).mono ?_
        rintro e wz1 ⟨⟨k, hk, hkl, base, u3, b1, b2, rfl, hown⟩, hb⟩
        obtain ⟨A3, cap3, rfl, _, _⟩ := own_shape hown
        replace hA := hA.lo hb
        replace hL := lo_trans hL hb
        clear hb
        refine hK.out _ _ ?_ (fun hHeld8 => ?_)
        focus ((try dsimp only); (have a := (HF.out.lo hL).facts.1; have b := (HSt.out.lo hL).blk.facts.1 0; exact ⟨a 5, a 6, (HF.out.lo hL).lt, b, (HSt.out.lo hL).blk.lt⟩))
        clear hK K hHeld
        have hHeld := hHeld8
        clear hHeld8
        (try simp only [Act.put, List.setIfInBounds_toArray, List.set_cons_zero, List.set_cons_succ])
        first
        | (refine wpAnyH_take (i := 9) (oi := _) (v := ?_) (getop rfl) (by kernel_rfl) (by kernel_rfl) (by kernel_rfl) (fun _ _ _ h => h) (Or.inl ⟨by rfl, ?_⟩) (by assumption) ?_; rotate_left; focus (intro w hSw; (try dsimp only at hSw); go_simp; (try with_reducible rfl); done))
        | (refine wpAnyH_take (i := 9) (oi := _) (v := undef) (getop rfl) (by kernel_rfl) (by kernel_rfl) (by kernel_rfl) (fun _ _ _ h => h) (Or.inr ⟨by rfl, rfl⟩) (by assumption) ?_)
        (try simp only [Act.put, List.setIfInBounds_toArray, List.set_cons_zero, List.set_cons_succ])
        first
        | (refine wpAnyH_take (i := 10) (oi := _) (v := ?_) (getop rfl) (by kernel_rfl) (by kernel_rfl) (by kernel_rfl) (fun _ _ _ h => h) (Or.inl ⟨by rfl, ?_⟩) (by assumption) ?_; rotate_left; focus (intro w hSw; (try dsimp only at hSw); go_simp; (try with_reducible rfl); done))
        | (refine wpAnyH_take (i := 10) (oi := _) (v := undef) (getop rfl) (by kernel_rfl) (by kernel_rfl) (by kernel_rfl) (fun _ _ _ h => h) (Or.inr ⟨by rfl, rfl⟩) (by assumption) ?_)
        (try simp only [Act.put, List.setIfInBounds_toArray, List.set_cons_zero, List.set_cons_succ])
        first
        | (refine wpAnyH_take (i := 11) (oi := _) (v := ?_) (getop rfl) (by kernel_rfl) (by kernel_rfl) (by kernel_rfl) (fun _ _ _ h => h) (Or.inl ⟨by rfl, ?_⟩) (by assumption) ?_; rotate_left; focus (intro w hSw; (try dsimp only at hSw); go_simp; (try with_reducible rfl); done))
        | (refine wpAnyH_take (i := 11) (oi := _) (v := undef) (getop rfl) (by kernel_rfl) (by kernel_rfl) (by kernel_rfl) (fun _ _ _ h => h) (Or.inr ⟨by rfl, rfl⟩) (by assumption) ?_)
        (try simp only [Act.put, List.setIfInBounds_toArray, List.set_cons_zero, List.set_cons_succ])
        first
        | (refine wpAnyH_take (i := 12) (oi := _) (v := ?_) (getop rfl) (by kernel_rfl) (by kernel_rfl) (by kernel_rfl) (fun _ _ _ h => h) (Or.inl ⟨by rfl, ?_⟩) (by assumption) ?_; rotate_left; focus (intro w hSw; (try dsimp only at hSw); go_simp; (try with_reducible rfl); done))
        | (refine wpAnyH_take (i := 12) (oi := _) (v := undef) (getop rfl) (by kernel_rfl) (by kernel_rfl) (by kernel_rfl) (fun _ _ _ h => h) (Or.inr ⟨by rfl, rfl⟩) (by assumption) ?_)
        (try simp only [Act.put, List.setIfInBounds_toArray, List.set_cons_zero, List.set_cons_succ])
        refine wpAnyH_ready (rs := [14]) (by kernel_rfl) (by simp) ?_
        refine (AllReadyH.cons (o := _) (getop rfl) (fun K hK => ?_) AllReadyH.nil)
        go_simp
        have hnX := own_ne hown (g := wz1.heap.size) (Or.inr (Nat.le_refl _))
        have hX := Blk.new wz1 68 #[.int .i64 0, .int .i64 0, .int .i64 0, .int .i64 0]
        have zX : w4.heap.size ≤ wz1.heap.size := hL.size
        replace hA := hA.alloc (.cells #[.int .i64 0, .int .i64 0, .int .i64 0, .int .i64 0] 68)
        replace hown := hown.alloc (.cells #[.int .i64 0, .int .i64 0, .int .i64 0, .int .i64 0] 68)
        replace hL := lo_alloc hL (.cells #[.int .i64 0, .int .i64 0, .int .i64 0, .int .i64 0] 68)
        generalize wz1.heap.size = gX at hX zX hnX ⊢
        generalize wz1.alloc (.cells #[.int .i64 0, .int .i64 0, .int .i64 0, .int .i64 0] 68) = wz2 at hA hX hown hL ⊢
        refine hK.out _ _ ?_ (fun hHeld14 => ?_)
        focus ((try dsimp only); (have a := (HF.out.lo hL).facts.1; have b := (HSt.out.lo hL).blk.facts.1 0; exact ⟨a 5, a 6, (HF.out.lo hL).lt, b, (HSt.out.lo hL).blk.lt⟩))
        clear hK K hHeld
        have hHeld := hHeld14
        clear hHeld14
        (try simp only [Act.put, List.setIfInBounds_toArray, List.set_cons_zero, List.set_cons_succ])
        refine wpAnyH_ready (rs := [15]) (by kernel_rfl) (by simp) ?_
        refine (AllReadyH.cons (o := _) (getop rfl) (fun K hK => ?_) AllReadyH.nil)
        obtain ⟨cT, fT⟩ := hA.facts
        have lT := hA.lt
        go_simp
        clear cT fT lT
        replace hX := hX.far (p := ⟨gA, 0, none⟩) (by dsimp only; exact blk_ne hX hA (by decide)) (.int .i64 limit)
        replace hown := own_far hown (p := ⟨gA, 0, none⟩) (blk_ne_own hown hA (by decide)) (.int .i64 limit)
        replace hL := lo_set hL (p := ⟨gA, 0, none⟩) zA (.int .i64 limit)
        replace hA := hA.set_ 0 (.int .i64 limit)
        replace hX := hX.far (p := ⟨gA, 1, none⟩) (by dsimp only; exact blk_ne hX hA (by decide)) (.slice A3 (serveL l k quantum).length cap3)
        replace hown := own_far hown (p := ⟨gA, 1, none⟩) (blk_ne_own hown hA (by decide)) (.slice A3 (serveL l k quantum).length cap3)
        replace hL := lo_set hL (p := ⟨gA, 1, none⟩) zA (.slice A3 (serveL l k quantum).length cap3)
        replace hA := hA.set_ 1 (.slice A3 (serveL l k quantum).length cap3)
        replace hA : Blk ((wz2.setCell ⟨gA, 0, none⟩ (.int .i64 limit)).setCell ⟨gA, 1, none⟩ (.slice A3 (serveL l k quantum).length cap3)) gA 58 (#[.int .i64 limit, .slice A3 (serveL l k quantum).length cap3]) := by simpa [schedC, flowC] using hA
        generalize ((wz2.setCell ⟨gA, 0, none⟩ (.int .i64 limit)).setCell ⟨gA, 1, none⟩ (.slice A3 (serveL l k quantum).length cap3)) = wz3 at hA hX hown hL ⊢
        refine hK.out _ _ ?_ (fun hHeld15 => ?_)
        focus ((try dsimp only); (have a := (HF.out.lo hL).facts.1; have b := (HSt.out.lo hL).blk.facts.1 0; exact ⟨a 5, a 6, (HF.out.lo hL).lt, b, (HSt.out.lo hL).blk.lt⟩))
        clear hK K hHeld
        have hHeld := hHeld15
        clear hHeld15
        (try simp only [Act.put, List.setIfInBounds_toArray, List.set_cons_zero, List.set_cons_succ])
        refine wpAnyH_ready (rs := [16]) (by kernel_rfl) (by simp) ?_
        refine (AllReadyH.cons (o := _) (getop rfl) (fun K hK => ?_) AllReadyH.nil)
        obtain ⟨cT, fT⟩ := hX.facts
        have lT := hX.lt
        go_simp
        clear cT fT lT
        replace hA := hA.far (p := ⟨gX, 0, none⟩) (by dsimp only; exact blk_ne hA hX (by decide)) (.int .i64 (cutR l[k] quantum).id)
        replace hown := own_far hown (p := ⟨gX, 0, none⟩) hnX (.int .i64 (cutR l[k] quantum).id)
        replace hL := lo_set hL (p := ⟨gX, 0, none⟩) zX (.int .i64 (cutR l[k] quantum).id)
        replace hX := hX.set_ 0 (.int .i64 (cutR l[k] quantum).id)
        replace hA := hA.far (p := ⟨gX, 1, none⟩) (by dsimp only; exact blk_ne hA hX (by decide)) (.int .i64 (cutR l[k] quantum).rank)
        replace hown := own_far hown (p := ⟨gX, 1, none⟩) hnX (.int .i64 (cutR l[k] quantum).rank)
        replace hL := lo_set hL (p := ⟨gX, 1, none⟩) zX (.int .i64 (cutR l[k] quantum).rank)
        replace hX := hX.set_ 1 (.int .i64 (cutR l[k] quantum).rank)
        replace hA := hA.far (p := ⟨gX, 2, none⟩) (by dsimp only; exact blk_ne hA hX (by decide)) (.int .i64 (cutR l[k] quantum).left)
        replace hown := own_far hown (p := ⟨gX, 2, none⟩) hnX (.int .i64 (cutR l[k] quantum).left)
        replace hL := lo_set hL (p := ⟨gX, 2, none⟩) zX (.int .i64 (cutR l[k] quantum).left)
        replace hX := hX.set_ 2 (.int .i64 (cutR l[k] quantum).left)
        replace hA := hA.far (p := ⟨gX, 3, none⟩) (by dsimp only; exact blk_ne hA hX (by decide)) (.int .i64 (cutR l[k] quantum).passed)
        replace hown := own_far hown (p := ⟨gX, 3, none⟩) hnX (.int .i64 (cutR l[k] quantum).passed)
        replace hL := lo_set hL (p := ⟨gX, 3, none⟩) zX (.int .i64 (cutR l[k] quantum).passed)
        replace hX := hX.set_ 3 (.int .i64 (cutR l[k] quantum).passed)
        replace hX : Blk ((((wz3.setCell ⟨gX, 0, none⟩ (.int .i64 (cutR l[k] quantum).id)).setCell ⟨gX, 1, none⟩ (.int .i64 (cutR l[k] quantum).rank)).setCell ⟨gX, 2, none⟩ (.int .i64 (cutR l[k] quantum).left)).setCell ⟨gX, 3, none⟩ (.int .i64 (cutR l[k] quantum).passed)) gX 68 (#[.int .i64 (cutR l[k] quantum).id, .int .i64 (cutR l[k] quantum).rank, .int .i64 (cutR l[k] quantum).left, .int .i64 (cutR l[k] quantum).passed]) := by simpa [schedC, flowC] using hX
        generalize ((((wz3.setCell ⟨gX, 0, none⟩ (.int .i64 (cutR l[k] quantum).id)).setCell ⟨gX, 1, none⟩ (.int .i64 (cutR l[k] quantum).rank)).setCell ⟨gX, 2, none⟩ (.int .i64 (cutR l[k] quantum).left)).setCell ⟨gX, 3, none⟩ (.int .i64 (cutR l[k] quantum).passed)) = wz4 at hA hX hown hL ⊢
        refine hK.out _ _ ?_ (fun hHeld16 => ?_)
        focus ((try dsimp only); (have a := (HF.out.lo hL).facts.1; have b := (HSt.out.lo hL).blk.facts.1 0; exact ⟨a 5, a 6, (HF.out.lo hL).lt, b, (HSt.out.lo hL).blk.lt⟩))
        clear hK K hHeld
        have hHeld := hHeld16
        clear hHeld16
        (try simp only [Act.put, List.setIfInBounds_toArray, List.set_cons_zero, List.set_cons_succ])
        first
        | (refine wpAnyH_take (i := 17) (oi := _) (v := ?_) (getop rfl) (by kernel_rfl) (by kernel_rfl) (by kernel_rfl) (fun _ _ _ h => h) (Or.inl ⟨by rfl, ?_⟩) (by assumption) ?_; rotate_left; focus (intro w hSw; (try dsimp only at hSw); go_simp; (try with_reducible rfl); done))
        | (refine wpAnyH_take (i := 17) (oi := _) (v := undef) (getop rfl) (by kernel_rfl) (by kernel_rfl) (by kernel_rfl) (fun _ _ _ h => h) (Or.inr ⟨by rfl, rfl⟩) (by assumption) ?_)
        (try simp only [Act.put, List.setIfInBounds_toArray, List.set_cons_zero, List.set_cons_succ])
        refine wpAnyH_done (by kernel_rfl) ?_ _
        go_wp2_with fail
        go_meet
        exact ⟨gA, gX, k, hkl, A3, cap3, rfl, rfl, rfl, hk, hown.mono (Nat.zero_le _), hA, hX, zA, zX, hL⟩
      · go_simp
        have hX := Blk.new wz0 68 #[.int .i64 0, .int .i64 0, .int .i64 0, .int .i64 0]
        have zX : w4.heap.size ≤ wz0.heap.size := hL.size
        replace hA := hA.alloc (.cells #[.int .i64 0, .int .i64 0, .int .i64 0, .int .i64 0] 68)
        replace hL := lo_alloc hL (.cells #[.int .i64 0, .int .i64 0, .int .i64 0, .int .i64 0] 68)
        generalize wz0.heap.size = gX at hX zX ⊢
        generalize wz0.alloc (.cells #[.int .i64 0, .int .i64 0, .int .i64 0, .int .i64 0] 68) = wz1 at hA hX hL ⊢
        refine hK.out _ _ ?_ (fun hHeld14 => ?_)
        focus ((try dsimp only); (have a := (HF.out.lo hL).facts.1; have b := (HSt.out.lo hL).blk.facts.1 0; exact ⟨a 5, a 6, (HF.out.lo hL).lt, b, (HSt.out.lo hL).blk.lt⟩))
        clear hK K hHeld
        have hHeld := hHeld14
        clear hHeld14
        (try simp only [Act.put, List.setIfInBounds_toArray, List.set_cons_zero, List.set_cons_succ])
        refine wpAnyH_ready (rs := [8]) (by kernel_rfl) (by simp) ?_
        refine (AllReadyH.cons (o := _) (getop rfl) (fun K hK => ?_) AllReadyH.nil)
        go_simp
        refine (HAS.out _ (agg_lo HRQ.out hL)).mono ?_
        rintro e wz2 ⟨⟨k, hk, hkl, base, u3, b1, b2, rfl, hown⟩, hb⟩
        obtain ⟨A3, cap3, rfl, _, _⟩ := own_shape hown
        have hnX := own_ne hown (g := gX) (Or.inl (Nat.lt_of_lt_of_le hX.lt b1))
        replace hA := hA.lo hb
        replace hX := hX.lo hb
        replace hL := lo_trans hL hb
        clear hb
        refine hK.out _ _ ?_ (fun hHeld8 => ?_)
        focus ((try dsimp only); (have a := (HF.out.lo hL).facts.1; have b := (HSt.out.lo hL).blk.facts.1 0; exact ⟨a 5, a 6, (HF.out.lo hL).lt, b, (HSt.out.lo hL).blk.lt⟩))
        clear hK K hHeld
        have hHeld := hHeld8
        clear hHeld8
        (try simp only [Act.put, List.setIfInBounds_toArray, List.set_cons_zero, List.set_cons_succ])
        first
        | (refine wpAnyH_take (i := 9) (oi := _) (v := ?_) (getop rfl) (by kernel_rfl) (by kernel_rfl) (by kernel_rfl) (fun _ _ _ h => h) (Or.inl ⟨by rfl, ?_⟩) (by assumption) ?_; rotate_left; focus (intro w hSw; (try dsimp only at hSw); go_simp; (try with_reducible rfl); done))
        | (refine wpAnyH_take (i := 9) (oi := _) (v := undef) (getop rfl) (by kernel_rfl) (by kernel_rfl) (by kernel_rfl) (fun _ _ _ h => h) (Or.inr ⟨by rfl, rfl⟩) (by assumption) ?_)
        (try simp only [Act.put, List.setIfInBounds_toArray, List.set_cons_zero, List.set_cons_succ])
        first
        | (refine wpAnyH_take (i := 10) (oi := _) (v := ?_) (getop rfl) (by kernel_rfl) (by kernel_rfl) (by kernel_rfl) (fun _ _ _ h => h) (Or.inl ⟨by rfl, ?_⟩) (by assumption) ?_; rotate_left; focus (intro w hSw; (try dsimp only at hSw); go_simp; (try with_reducible rfl); done))
        | (refine wpAnyH_take (i := 10) (oi := _) (v := undef) (getop rfl) (by kernel_rfl) (by kernel_rfl) (by kernel_rfl) (fun _ _ _ h => h) (Or.inr ⟨by rfl, rfl⟩) (by assumption) ?_)
        (try simp only [Act.put, List.setIfInBounds_toArray, List.set_cons_zero, List.set_cons_succ])
        first
        | (refine wpAnyH_take (i := 11) (oi := _) (v := ?_) (getop rfl) (by kernel_rfl) (by kernel_rfl) (by kernel_rfl) (fun _ _ _ h => h) (Or.inl ⟨by rfl, ?_⟩) (by assumption) ?_; rotate_left; focus (intro w hSw; (try dsimp only at hSw); go_simp; (try with_reducible rfl); done))
        | (refine wpAnyH_take (i := 11) (oi := _) (v := undef) (getop rfl) (by kernel_rfl) (by kernel_rfl) (by kernel_rfl) (fun _ _ _ h => h) (Or.inr ⟨by rfl, rfl⟩) (by assumption) ?_)
        (try simp only [Act.put, List.setIfInBounds_toArray, List.set_cons_zero, List.set_cons_succ])
        first
        | (refine wpAnyH_take (i := 12) (oi := _) (v := ?_) (getop rfl) (by kernel_rfl) (by kernel_rfl) (by kernel_rfl) (fun _ _ _ h => h) (Or.inl ⟨by rfl, ?_⟩) (by assumption) ?_; rotate_left; focus (intro w hSw; (try dsimp only at hSw); go_simp; (try with_reducible rfl); done))
        | (refine wpAnyH_take (i := 12) (oi := _) (v := undef) (getop rfl) (by kernel_rfl) (by kernel_rfl) (by kernel_rfl) (fun _ _ _ h => h) (Or.inr ⟨by rfl, rfl⟩) (by assumption) ?_)
        (try simp only [Act.put, List.setIfInBounds_toArray, List.set_cons_zero, List.set_cons_succ])
        refine wpAnyH_ready (rs := [15]) (by kernel_rfl) (by simp) ?_
        refine (AllReadyH.cons (o := _) (getop rfl) (fun K hK => ?_) AllReadyH.nil)
        obtain ⟨cT, fT⟩ := hA.facts
        have lT := hA.lt
        go_simp
        clear cT fT lT
        replace hX := hX.far (p := ⟨gA, 0, none⟩) (by dsimp only; exact blk_ne hX hA (by decide)) (.int .i64 limit)
        replace hown := own_far hown (p := ⟨gA, 0, none⟩) (blk_ne_own hown hA (by decide)) (.int .i64 limit)
        replace hL := lo_set hL (p := ⟨gA, 0, none⟩) zA (.int .i64 limit)
        replace hA := hA.set_ 0 (.int .i64 limit)
        replace hX := hX.far (p := ⟨gA, 1, none⟩) (by dsimp only; exact blk_ne hX hA (by decide)) (.slice A3 (serveL l k quantum).length cap3)
        replace hown := own_far hown (p := ⟨gA, 1, none⟩) (blk_ne_own hown hA (by decide)) (.slice A3 (serveL l k quantum).length cap3)
        replace hL := lo_set hL (p := ⟨gA, 1, none⟩) zA (.slice A3 (serveL l k quantum).length cap3)
        replace hA := hA.set_ 1 (.slice A3 (serveL l k quantum).length cap3)
        replace hA : Blk ((wz2.setCell ⟨gA, 0, none⟩ (.int .i64 limit)).setCell ⟨gA, 1, none⟩ (.slice A3 (serveL l k quantum).length cap3)) gA 58 (#[.int .i64 limit, .slice A3 (serveL l k quantum).length cap3]) := by simpa [schedC, flowC] using hA
        generalize ((wz2.setCell ⟨gA, 0, none⟩ (.int .i64 limit)).setCell ⟨gA, 1, none⟩ (.slice A3 (serveL l k quantum).length cap3)) = wz3 at hA hX hown hL ⊢
        refine hK.out _ _ ?_ (fun hHeld15 => ?_)
        focus ((try dsimp only); (have a := (HF.out.lo hL).facts.1; have b := (HSt.out.lo hL).blk.facts.1 0; exact ⟨a 5, a 6, (HF.out.lo hL).lt, b, (HSt.out.lo hL).blk.lt⟩))
        clear hK K hHeld
        have hHeld := hHeld15
        clear hHeld15
        (try simp only [Act.put, List.setIfInBounds_toArray, List.set_cons_zero, List.set_cons_succ])
        refine wpAnyH_ready (rs := [16]) (by kernel_rfl) (by simp) ?_
        refine (AllReadyH.cons (o := _) (getop rfl) (fun K hK => ?_) AllReadyH.nil)
        obtain ⟨cT, fT⟩ := hX.facts
        have lT := hX.lt
        go_simp
        clear cT fT lT
        replace hA := hA.far (p := ⟨gX, 0, none⟩) (by dsimp only; exact blk_ne hA hX (by decide)) (.int .i64 (cutR l[k] quantum).id)
        replace hown := own_far hown (p := ⟨gX, 0, none⟩) hnX (.int .i64 (cutR l[k] quantum).id)
        replace hL := lo_set hL (p := ⟨gX, 0, none⟩) zX (.int .i64 (cutR l[k] quantum).id)
        replace hX := hX.set_ 0 (.int .i64 (cutR l[k] quantum).id)
        replace hA := hA.far (p := ⟨gX, 1, none⟩) (by dsimp only; exact blk_ne hA hX (by decide)) (.int .i64 (cutR l[k] quantum).rank)
        replace hown := own_far hown (p := ⟨gX, 1, none⟩) hnX (.int .i64 (cutR l[k] quantum).rank)
        replace hL := lo_set hL (p := ⟨gX, 1, none⟩) zX (.int .i64 (cutR l[k] quantum).rank)
        replace hX := hX.set_ 1 (.int .i64 (cutR l[k] quantum).rank)
        replace hA := hA.far (p := ⟨gX, 2, none⟩) (by dsimp only; exact blk_ne hA hX (by decide)) (.int .i64 (cutR l[k] quantum).left)
        replace hown := own_far hown (p := ⟨gX, 2, none⟩) hnX (.int .i64 (cutR l[k] quantum).left)
        replace hL := lo_set hL (p := ⟨gX, 2, none⟩) zX (.int .i64 (cutR l[k] quantum).left)
        replace hX := hX.set_ 2 (.int .i64 (cutR l[k] quantum).left)
        replace hA := hA.far (p := ⟨gX, 3, none⟩) (by dsimp only; exact blk_ne hA hX (by decide)) (.int .i64 (cutR l[k] quantum).passed)
        replace hown := own_far hown (p := ⟨gX, 3, none⟩) hnX (.int .i64 (cutR l[k] quantum).passed)
        replace hL := lo_set hL (p := ⟨gX, 3, none⟩) zX (.int .i64 (cutR l[k] quantum).passed)
        replace hX := hX.set_ 3 (.int .i64 (cutR l[k] quantum).passed)
        replace hX : Blk ((((wz3.setCell ⟨gX, 0, none⟩ (.int .i64 (cutR l[k] quantum).id)).setCell ⟨gX, 1, none⟩ (.int .i64 (cutR l[k] quantum).rank)).setCell ⟨gX, 2, none⟩ (.int .i64 (cutR l[k] quantum).left)).setCell ⟨gX, 3, none⟩ (.int .i64 (cutR l[k] quantum).passed)) gX 68 (#[.int .i64 (cutR l[k] quantum).id, .int .i64 (cutR l[k] quantum).rank, .int .i64 (cutR l[k] quantum).left, .int .i64 (cutR l[k] quantum).passed]) := by simpa [schedC, flowC] using hX
        generalize ((((wz3.setCell ⟨gX, 0, none⟩ (.int .i64 (cutR l[k] quantum).id)).setCell ⟨gX, 1, none⟩ (.int .i64 (cutR l[k] quantum).rank)).setCell ⟨gX, 2, none⟩ (.int .i64 (cutR l[k] quantum).left)).setCell ⟨gX, 3, none⟩ (.int .i64 (cutR l[k] quantum).passed)) = wz4 at hA hX hown hL ⊢
        refine hK.out _ _ ?_ (fun hHeld16 => ?_)
        focus ((try dsimp only); (have a := (HF.out.lo hL).facts.1; have b := (HSt.out.lo hL).blk.facts.1 0; exact ⟨a 5, a 6, (HF.out.lo hL).lt, b, (HSt.out.lo hL).blk.lt⟩))
        clear hK K hHeld
        have hHeld := hHeld16
        clear hHeld16
        (try simp only [Act.put, List.setIfInBounds_toArray, List.set_cons_zero, List.set_cons_succ])
        first
        | (refine wpAnyH_take (i := 17) (oi := _) (v := ?_) (getop rfl) (by kernel_rfl) (by kernel_rfl) (by kernel_rfl) (fun _ _ _ h => h) (Or.inl ⟨by rfl, ?_⟩) (by assumption) ?_; rotate_left; focus (intro w hSw; (try dsimp only at hSw); go_simp; (try with_reducible rfl); done))
        | (refine wpAnyH_take (i := 17) (oi := _) (v := undef) (getop rfl) (by kernel_rfl) (by kernel_rfl) (by kernel_rfl) (fun _ _ _ h => h) (Or.inr ⟨by rfl, rfl⟩) (by assumption) ?_)
        (try simp only [Act.put, List.setIfInBounds_toArray, List.set_cons_zero, List.set_cons_succ])
        refine wpAnyH_done (by kernel_rfl) ?_ _
        go_wp2_with fail
        go_meet
        exact ⟨gA, gX, k, hkl, A3, cap3, rfl, rfl, rfl, hk, hown.mono (Nat.zero_le _), hA, hX, zA, zX, hL⟩
    · go_simp
      have hX := Blk.new wd 68 #[.int .i64 0, .int .i64 0, .int .i64 0, .int .i64 0]
      have zX : w4.heap.size ≤ wd.heap.size := hL.size
      replace hL := lo_alloc hL (.cells #[.int .i64 0, .int .i64 0, .int .i64 0, .int .i64 0] 68)
      generalize wd.heap.size = gX at hX zX ⊢
      generalize wd.alloc (.cells #[.int .i64 0, .int .i64 0, .int .i64 0, .int .i64 0] 68) = wz0 at hX hL ⊢
      refine hK.out _ _ ?_ (fun hHeld14 => ?_)
      focus ((try dsimp only); (have a := (HF.out.lo hL).facts.1; have b := (HSt.out.lo hL).blk.facts.1 0; exact ⟨a 5, a 6, (HF.out.lo hL).lt, b, (HSt.out.lo hL).blk.lt⟩))
      clear hK K hHeld
      have hHeld := hHeld14
      clear hHeld14
      (try simp only [Act.put, List.setIfInBounds_toArray, List.set_cons_zero, List.set_cons_succ])
      refine wpAnyH_ready (rs := [8, 13]) (by kernel_rfl) (by simp) ?_
      refine (AllReadyH.cons (o := _) (getop rfl) (fun K hK => ?_) (AllReadyH.cons (o := _) (getop rfl) (fun K hK => ?_) AllReadyH.nil))
      · go_simp
        refine (HAS.out _ (agg_lo HRQ.out hL)).mono ?_
        rintro e wz1 ⟨⟨k, hk, hkl, base, u3, b1, b2, rfl, hown⟩, hb⟩
        obtain ⟨A3, cap3, rfl, _, _⟩ := own_shape hown
        have hnX := own_ne hown (g := gX) (Or.inl (Nat.lt_of_lt_of_le hX.lt b1))
        replace hX := hX.lo hb
        replace hL := lo_trans hL hb
        clear hb
        refine hK.out _ _ ?_ (fun hHeld8 => ?_)
        focus ((try dsimp only); (have a := (HF.out.lo hL).facts.1; have b := (HSt.out.lo hL).blk.facts.1 0; exact ⟨a 5, a 6, (HF.out.lo hL).lt, b, (HSt.out.lo hL).blk.lt⟩))
        clear hK K hHeld
        have hHeld := hHeld8
        clear hHeld8
        (try simp only [Act.put, List.setIfInBounds_toArray, List.set_cons_zero, List.set_cons_succ])
        first
        | (refine wpAnyH_take (i := 9) (oi := _) (v := ?_) (getop rfl) (by kernel_rfl) (by kernel_rfl) (by kernel_rfl) (fun _ _ _ h => h) (Or.inl ⟨by rfl, ?_⟩) (by assumption) ?_; rotate_left; focus (intro w hSw; (try dsimp only at hSw); go_simp; (try with_reducible rfl); done))
        | (refine wpAnyH_take (i := 9) (oi := _) (v := undef) (getop rfl) (by kernel_rfl) (by kernel_rfl) (by kernel_rfl) (fun _ _ _ h => h) (Or.inr ⟨by rfl, rfl⟩) (by assumption) ?_)
        (try simp only [Act.put, List.setIfInBounds_toArray, List.set_cons_zero, List.set_cons_succ])
        first
        | (refine wpAnyH_take (i := 10) (oi := _) (v := ?_) (getop rfl) (by kernel_rfl) (by kernel_rfl) (by kernel_rfl) (fun _ _ _ h => h) (Or.inl ⟨by rfl, ?_⟩) (by assumption) ?_; rotate_left; focus (intro w hSw; (try dsimp only at hSw); go_simp; (try with_reducible rfl); done))
        | (refine wpAnyH_take (i := 10) (oi := _) (v := undef) (getop rfl) (by kernel_rfl) (by kernel_rfl) (by kernel_rfl) (fun _ _ _ h => h) (Or.inr ⟨by rfl, rfl⟩) (by assumption) ?_)
        (try simp only [Act.put, List.setIfInBounds_toArray, List.set_cons_zero, List.set_cons_succ])
        first
        | (refine wpAnyH_take (i := 11) (oi := _) (v := ?_) (getop rfl) (by kernel_rfl) (by kernel_rfl) (by kernel_rfl) (fun _ _ _ h => h) (Or.inl ⟨by rfl, ?_⟩) (by assumption) ?_; rotate_left; focus (intro w hSw; (try dsimp only at hSw); go_simp; (try with_reducible rfl); done))
        | (refine wpAnyH_take (i := 11) (oi := _) (v := undef) (getop rfl) (by kernel_rfl) (by kernel_rfl) (by kernel_rfl) (fun _ _ _ h => h) (Or.inr ⟨by rfl, rfl⟩) (by assumption) ?_)
        (try simp only [Act.put, List.setIfInBounds_toArray, List.set_cons_zero, List.set_cons_succ])
        first
        | (refine wpAnyH_take (i := 12) (oi := _) (v := ?_) (getop rfl) (by kernel_rfl) (by kernel_rfl) (by kernel_rfl) (fun _ _ _ h => h) (Or.inl ⟨by rfl, ?_⟩) (by assumption) ?_; rotate_left; focus (intro w hSw; (try dsimp only at hSw); go_simp; (try with_reducible rfl); done))
        | (refine wpAnyH_take (i := 12) (oi := _) (v := undef) (getop rfl) (by kernel_rfl) (by kernel_rfl) (by kernel_rfl) (fun _ _ _ h => h) (Or.inr ⟨by rfl, rfl⟩) (by assumption) ?_)
        (try simp only [Act.put, List.setIfInBounds_toArray, List.set_cons_zero, List.set_cons_succ])
        refine wpAnyH_ready (rs := [13]) (by kernel_rfl) (by simp) ?_
        refine (AllReadyH.cons (o := _) (getop rfl) (fun K hK => ?_) AllReadyH.nil)
        go_simp
        have hA := Blk.new wz1 58 #[.int .i64 0, .slice none 0 0]
        have zA : w4.heap.size ≤ wz1.heap.size := hL.size
        replace hX := hX.alloc (.cells #[.int .i64 0, .slice none 0 0] 58)
        replace hown := hown.alloc (.cells #[.int .i64 0, .slice none 0 0] 58)
        replace hL := lo_alloc hL (.cells #[.int .i64 0, .slice none 0 0] 58)
        generalize wz1.heap.size = gA at hA zA ⊢
        generalize wz1.alloc (.cells #[.int .i64 0, .slice none 0 0] 58) = wz2 at hX hA hown hL ⊢
        refine hK.out _ _ ?_ (fun hHeld13 => ?_)
        focus ((try dsimp only); (have a := (HF.out.lo hL).facts.1; have b := (HSt.out.lo hL).blk.facts.1 0; exact ⟨a 5, a 6, (HF.out.lo hL).lt, b, (HSt.out.lo hL).blk.lt⟩))
        clear hK K hHeld
        have hHeld := hHeld13
        clear hHeld13
        (try simp only [Act.put, List.setIfInBounds_toArray, List.set_cons_zero, List.set_cons_succ])
        refine wpAnyH_ready (rs := [15]) (by kernel_rfl) (by simp) ?_
        refine (AllReadyH.cons (o := _) (getop rfl) (fun K hK => ?_) AllReadyH.nil)
        obtain ⟨cT, fT⟩ := hA.facts
        have lT := hA.lt
        go_simp
        clear cT fT lT
        replace hX := hX.far (p := ⟨gA, 0, none⟩) (by dsimp only; exact blk_ne hX hA (by decide)) (.int .i64 limit)
        replace hown := own_far hown (p := ⟨gA, 0, none⟩) (blk_ne_own hown hA (by decide)) (.int .i64 limit)
        replace hL := lo_set hL (p := ⟨gA, 0, none⟩) zA (.int .i64 limit)
        replace hA := hA.set_ 0 (.int .i64 limit)
        replace hX := hX.far (p := ⟨gA, 1, none⟩) (by dsimp only; exact blk_ne hX hA (by decide)) (.slice A3 (serveL l k quantum).length cap3)
        replace hown := own_far hown (p := ⟨gA, 1, none⟩) (blk_ne_own hown hA (by decide)) (.slice A3 (serveL l k quantum).length cap3)
        replace hL := lo_set hL (p := ⟨gA, 1, none⟩) zA (.slice A3 (serveL l k quantum).length cap3)
        replace hA := hA.set_ 1 (.slice A3 (serveL l k quantum).length cap3)
        replace hA : Blk ((wz2.setCell ⟨gA, 0, none⟩ (.int .i64 limit)).setCell ⟨gA, 1, none⟩ (.slice A3 (serveL l k quantum).length cap3)) gA 58 (#[.int .i64 limit, .slice A3 (serveL l k quantum).length cap3]) := by simpa [schedC, flowC] using hA
        generalize ((wz2.setCell ⟨gA, 0, none⟩ (.int .i64 limit)).setCell ⟨gA, 1, none⟩ (.slice A3 (serveL l k quantum).length cap3)) = wz3 at hA hX hown hL ⊢
        refine hK.out _ _ ?_ (fun hHeld15 => ?_)
        focus ((try dsimp only); (have a := (HF.out.lo hL).facts.1; have b := (HSt.out.lo hL).blk.facts.1 0; exact ⟨a 5, a 6, (HF.out.lo hL).lt, b, (HSt.out.lo hL).blk.lt⟩))
        clear hK K hHeld
        have hHeld := hHeld15
        clear hHeld15
        (try simp only [Act.put, List.setIfInBounds_toArray, List.set_cons_zero, List.set_cons_succ])
        refine wpAnyH_ready (rs := [16]) (by kernel_rfl) (by simp) ?_
        refine (AllReadyH.cons (o := _) (getop rfl) (fun K hK => ?_) AllReadyH.nil)
        obtain ⟨cT, fT⟩ := hX.facts
        have lT := hX.lt
        go_simp
        clear cT fT lT
        replace hA := hA.far (p := ⟨gX, 0, none⟩) (by dsimp only; exact blk_ne hA hX (by decide)) (.int .i64 (cutR l[k] quantum).id)
        replace hown := own_far hown (p := ⟨gX, 0, none⟩) hnX (.int .i64 (cutR l[k] quantum).id)
        replace hL := lo_set hL (p := ⟨gX, 0, none⟩) zX (.int .i64 (cutR l[k] quantum).id)
        replace hX := hX.set_ 0 (.int .i64 (cutR l[k] quantum).id)
        replace hA := hA.far (p := ⟨gX, 1, none⟩) (by dsimp only; exact blk_ne hA hX (by decide)) (.int .i64 (cutR l[k] quantum).rank)
        replace hown := own_far hown (p := ⟨gX, 1, none⟩) hnX (.int .i64 (cutR l[k] quantum).rank)
        replace hL := lo_set hL (p := ⟨gX, 1, none⟩) zX (.int .i64 (cutR l[k] quantum).rank)
        replace hX := hX.set_ 1 (.int .i64 (cutR l[k] quantum).rank)
        replace hA := hA.far (p := ⟨gX, 2, none⟩) (by dsimp only; exact blk_ne hA hX (by decide)) (.int .i64 (cutR l[k] quantum).left)
        replace hown := own_far hown (p := ⟨gX, 2, none⟩) hnX (.int .i64 (cutR l[k] quantum).left)
        replace hL := lo_set hL (p := ⟨gX, 2, none⟩) zX (.int .i64 (cutR l[k] quantum).left)
        replace hX := hX.set_ 2 (.int .i64 (cutR l[k] quantum).left)
        replace hA := hA.far (p := ⟨gX, 3, none⟩) (by dsimp only; exact blk_ne hA hX (by decide)) (.int .i64 (cutR l[k] quantum).passed)
        replace hown := own_far hown (p := ⟨gX, 3, none⟩) hnX (.int .i64 (cutR l[k] quantum).passed)
        replace hL := lo_set hL (p := ⟨gX, 3, none⟩) zX (.int .i64 (cutR l[k] quantum).passed)
        replace hX := hX.set_ 3 (.int .i64 (cutR l[k] quantum).passed)
        replace hX : Blk ((((wz3.setCell ⟨gX, 0, none⟩ (.int .i64 (cutR l[k] quantum).id)).setCell ⟨gX, 1, none⟩ (.int .i64 (cutR l[k] quantum).rank)).setCell ⟨gX, 2, none⟩ (.int .i64 (cutR l[k] quantum).left)).setCell ⟨gX, 3, none⟩ (.int .i64 (cutR l[k] quantum).passed)) gX 68 (#[.int .i64 (cutR l[k] quantum).id, .int .i64 (cutR l[k] quantum).rank, .int .i64 (cutR l[k] quantum).left, .int .i64 (cutR l[k] quantum).passed]) := by simpa [schedC, flowC] using hX
        generalize ((((wz3.setCell ⟨gX, 0, none⟩ (.int .i64 (cutR l[k] quantum).id)).setCell ⟨gX, 1, none⟩ (.int .i64 (cutR l[k] quantum).rank)).setCell ⟨gX, 2, none⟩ (.int .i64 (cutR l[k] quantum).left)).setCell ⟨gX, 3, none⟩ (.int .i64 (cutR l[k] quantum).passed)) = wz4 at hA hX hown hL ⊢
        refine hK.out _ _ ?_ (fun hHeld16 => ?_)
        focus ((try dsimp only); (have a := (HF.out.lo hL).facts.1; have b := (HSt.out.lo hL).blk.facts.1 0; exact ⟨a 5, a 6, (HF.out.lo hL).lt, b, (HSt.out.lo hL).blk.lt⟩))
        clear hK K hHeld
        have hHeld := hHeld16
        clear hHeld16
        (try simp only [Act.put, List.setIfInBounds_toArray, List.set_cons_zero, List.set_cons_succ])
        first
        | (refine wpAnyH_take (i := 17) (oi := _) (v := ?_) (getop rfl) (by kernel_rfl) (by kernel_rfl) (by kernel_rfl) (fun _ _ _ h => h) (Or.inl ⟨by rfl, ?_⟩) (by assumption) ?_; rotate_left; focus (intro w hSw; (try dsimp only at hSw); go_simp; (try with_reducible rfl); done))
        | (refine wpAnyH_take (i := 17) (oi := _) (v := undef) (getop rfl) (by kernel_rfl) (by kernel_rfl) (by kernel_rfl) (fun _ _ _ h => h) (Or.inr ⟨by rfl, rfl⟩) (by assumption) ?_)
        (try simp only [Act.put, List.setIfInBounds_toArray, List.set_cons_zero, List.set_cons_succ])
        refine wpAnyH_done (by kernel_rfl) ?_ _
        go_wp2_with fail
        go_meet
        exact ⟨gA, gX, k, hkl, A3, cap3, rfl, rfl, rfl, hk, hown.mono (Nat.zero_le _), hA, hX, zA, zX, hL⟩
      · go_simp
        have hA := Blk.new wz0 58 #[.int .i64 0, .slice none 0 0]
        have zA : w4.heap.size ≤ wz0.heap.size := hL.size
        replace hX := hX.alloc (.cells #[.int .i64 0, .slice none 0 0] 58)
        replace hL := lo_alloc hL (.cells #[.int .i64 0, .slice none 0 0] 58)
        generalize wz0.heap.size = gA at hA zA ⊢
        generalize wz0.alloc (.cells #[.int .i64 0, .slice none 0 0] 58) = wz1 at hX hA hL ⊢
        refine hK.out _ _ ?_ (fun hHeld13 => ?_)
        focus ((try dsimp only); (have a := (HF.out.lo hL).facts.1; have b := (HSt.out.lo hL).blk.facts.1 0; exact ⟨a 5, a 6, (HF.out.lo hL).lt, b, (HSt.out.lo hL).blk.lt⟩))
        clear hK K hHeld
        have hHeld := hHeld13
        clear hHeld13
        (try simp only [Act.put, List.setIfInBounds_toArray, List.set_cons_zero, List.set_cons_succ])
        refine wpAnyH_ready (rs := [8]) (by kernel_rfl) (by simp) ?_
        refine (AllReadyH.cons (o := _) (getop rfl) (fun K hK => ?_) AllReadyH.nil)
        go_simp
        refine (HAS.out _ (agg_lo HRQ.out hL)).mono ?_
        rintro e wz2 ⟨⟨k, hk, hkl, base, u3, b1, b2, rfl, hown⟩, hb⟩
        obtain ⟨A3, cap3, rfl, _, _⟩ := own_shape hown
        have hnX := own_ne hown (g := gX) (Or.inl (Nat.lt_of_lt_of_le hX.lt b1))
        replace hX := hX.lo hb
        replace hA := hA.lo hb
        replace hL := lo_trans hL hb
        clear hb
        refine hK.out _ _ ?_ (fun hHeld8 => ?_)
        focus ((try dsimp only); (have a := (HF.out.lo hL).facts.1; have b := (HSt.out.lo hL).blk.facts.1 0; exact ⟨a 5, a 6, (HF.out.lo hL).lt, b, (HSt.out.lo hL).blk.lt⟩))
        clear hK K hHeld
        have hHeld := hHeld8
        clear hHeld8
        (try simp only [Act.put, List.setIfInBounds_toArray, List.set_cons_zero, List.set_cons_succ])
        first
        | (refine wpAnyH_take (i := 9) (oi := _) (v := ?_) (getop rfl) (by kernel_rfl) (by kernel_rfl) (by kernel_rfl) (fun _ _ _ h => h) (Or.inl ⟨by rfl, ?_⟩) (by assumption) ?_; rotate_left; focus (intro w hSw; (try dsimp only at hSw); go_simp; (try with_reducible rfl); done))
        | (refine wpAnyH_take (i := 9) (oi := _) (v := undef) (getop rfl) (by kernel_rfl) (by kernel_rfl) (by kernel_rfl) (fun _ _ _ h => h) (Or.inr ⟨by rfl, rfl⟩) (by assumption) ?_)
        (try simp only [Act.put, List.setIfInBounds_toArray, List.set_cons_zero, List.set_cons_succ])
        first
        | (refine wpAnyH_take (i := 10) (oi := _) (v := ?_) (getop rfl) (by kernel_rfl) (by kernel_rfl) (by kernel_rfl) (fun _ _ _ h => h) (Or.inl ⟨by rfl, ?_⟩) (by assumption) ?_; rotate_left; focus (intro w hSw; (try dsimp only at hSw); go_simp; (try with_reducible rfl); done))
        | (refine wpAnyH_take (i := 10) (oi := _) (v := undef) (getop rfl) (by kernel_rfl) (by kernel_rfl) (by kernel_rfl) (fun _ _ _ h => h) (Or.inr ⟨by rfl, rfl⟩) (by assumption) ?_)
        (try simp only [Act.put, List.setIfInBounds_toArray, List.set_cons_zero, List.set_cons_succ])
        first
        | (refine wpAnyH_take (i := 11) (oi := _) (v := ?_) (getop rfl) (by kernel_rfl) (by kernel_rfl) (by kernel_rfl) (fun _ _ _ h => h) (Or.inl ⟨by rfl, ?_⟩) (by assumption) ?_; rotate_left; focus (intro w hSw; (try dsimp only at hSw); go_simp; (try with_reducible rfl); done))
        | (refine wpAnyH_take (i := 11) (oi := _) (v := undef) (getop rfl) (by kernel_rfl) (by kernel_rfl) (by kernel_rfl) (fun _ _ _ h => h) (Or.inr ⟨by rfl, rfl⟩) (by assumption) ?_)
        (try simp only [Act.put, List.setIfInBounds_toArray, List.set_cons_zero, List.set_cons_succ])
        first
        | (refine wpAnyH_take (i := 12) (oi := _) (v := ?_) (getop rfl) (by kernel_rfl) (by kernel_rfl) (by kernel_rfl) (fun _ _ _ h => h) (Or.inl ⟨by rfl, ?_⟩) (by assumption) ?_; rotate_left; focus (intro w hSw; (try dsimp only at hSw); go_simp; (try with_reducible rfl); done))
        | (refine wpAnyH_take (i := 12) (oi := _) (v := undef) (getop rfl) (by kernel_rfl) (by kernel_rfl) (by kernel_rfl) (fun _ _ _ h => h) (Or.inr ⟨by rfl, rfl⟩) (by assumption) ?_)
        (try simp only [Act.put, List.setIfInBounds_toArray, List.set_cons_zero, List.set_cons_succ])
        refine wpAnyH_ready (rs := [15]) (by kernel_rfl) (by simp) ?_
        refine (AllReadyH.cons (o := _) (getop rfl) (fun K hK => ?_) AllReadyH.nil)
        obtain ⟨cT, fT⟩ := hA.facts
        have lT := hA.lt
        go_simp
        clear cT fT lT
        replace hX := hX.far (p := ⟨gA, 0, none⟩) (by dsimp only; exact blk_ne hX hA (by decide)) (.int .i64 limit)
        replace hown := own_far hown (p := ⟨gA, 0, none⟩) (blk_ne_own hown hA (by decide)) (.int .i64 limit)
        replace hL := lo_set hL (p := ⟨gA, 0, none⟩) zA (.int .i64 limit)
        replace hA := hA.set_ 0 (.int .i64 limit)
        replace hX := hX.far (p := ⟨gA, 1, none⟩) (by dsimp only; exact blk_ne hX hA (by decide)) (.slice A3 (serveL l k quantum).length cap3)
        replace hown := own_far hown (p := ⟨gA, 1, none⟩) (blk_ne_own hown hA (by decide)) (.slice A3 (serveL l k quantum).length cap3)
        replace hL := lo_set hL (p := ⟨gA, 1, none⟩) zA (.slice A3 (serveL l k quantum).length cap3)
        replace hA := hA.set_ 1 (.slice A3 (serveL l k quantum).length cap3)
        replace hA : Blk ((wz2.setCell ⟨gA, 0, none⟩ (.int .i64 limit)).setCell ⟨gA, 1, none⟩ (.slice A3 (serveL l k quantum).length cap3)) gA 58 (#[.int .i64 limit, .slice A3 (serveL l k quantum).length cap3]) := by simpa [schedC, flowC] using hA
        generalize ((wz2.setCell ⟨gA, 0, none⟩ (.int .i64 limit)).setCell ⟨gA, 1, none⟩ (.slice A3 (serveL l k quantum).length cap3)) = wz3 at hA hX hown hL ⊢
        refine hK.out _ _ ?_ (fun hHeld15 => ?_)
        focus ((try dsimp only); (have a := (HF.out.lo hL).facts.1; have b := (HSt.out.lo hL).blk.facts.1 0; exact ⟨a 5, a 6, (HF.out.lo hL).lt, b, (HSt.out.lo hL).blk.lt⟩))
        clear hK K hHeld
        have hHeld := hHeld15
        clear hHeld15
        (try simp only [Act.put, List.setIfInBounds_toArray, List.set_cons_zero, List.set_cons_succ])
        refine wpAnyH_ready (rs := [16]) (by kernel_rfl) (by simp) ?_
        refine (AllReadyH.cons (o := _) (getop rfl) (fun K hK => ?_) AllReadyH.nil)
        obtain ⟨cT, fT⟩ := hX.facts
        have lT := hX.lt
        go_simp
        clear cT fT lT
        replace hA := hA.far (p := ⟨gX, 0, none⟩) (by dsimp only; exact blk_ne hA hX (by decide)) (.int .i64 (cutR l[k] quantum).id)
        replace hown := own_far hown (p := ⟨gX, 0, none⟩) hnX (.int .i64 (cutR l[k] quantum).id)
        replace hL := lo_set hL (p := ⟨gX, 0, none⟩) zX (.int .i64 (cutR l[k] quantum).id)
        replace hX := hX.set_ 0 (.int .i64 (cutR l[k] quantum).id)
        replace hA := hA.far (p := ⟨gX, 1, none⟩) (by dsimp only; exact blk_ne hA hX (by decide)) (.int .i64 (cutR l[k] quantum).rank)
        replace hown := own_far hown (p := ⟨gX, 1, none⟩) hnX (.int .i64 (cutR l[k] quantum).rank)
        replace hL := lo_set hL (p := ⟨gX, 1, none⟩) zX (.int .i64 (cutR l[k] quantum).rank)
        replace hX := hX.set_ 1 (.int .i64 (cutR l[k] quantum).rank)
        replace hA := hA.far (p := ⟨gX, 2, none⟩) (by dsimp only; exact blk_ne hA hX (by decide)) (.int .i64 (cutR l[k] quantum).left)
        replace hown := own_far hown (p := ⟨gX, 2, none⟩) hnX (.int .i64 (cutR l[k] quantum).left)
        replace hL := lo_set hL (p := ⟨gX, 2, none⟩) zX (.int .i64 (cutR l[k] quantum).left)
        replace hX := hX.set_ 2 (.int .i64 (cutR l[k] quantum).left)
        replace hA := hA.far (p := ⟨gX, 3, none⟩) (by dsimp only; exact blk_ne hA hX (by decide)) (.int .i64 (cutR l[k] quantum).passed)
        replace hown := own_far hown (p := ⟨gX, 3, none⟩) hnX (.int .i64 (cutR l[k] quantum).passed)
        replace hL := lo_set hL (p := ⟨gX, 3, none⟩) zX (.int .i64 (cutR l[k] quantum).passed)
        replace hX := hX.set_ 3 (.int .i64 (cutR l[k] quantum).passed)
        replace hX : Blk ((((wz3.setCell ⟨gX, 0, none⟩ (.int .i64 (cutR l[k] quantum).id)).setCell ⟨gX, 1, none⟩ (.int .i64 (cutR l[k] quantum).rank)).setCell ⟨gX, 2, none⟩ (.int .i64 (cutR l[k] quantum).left)).setCell ⟨gX, 3, none⟩ (.int .i64 (cutR l[k] quantum).passed)) gX 68 (#[.int .i64 (cutR l[k] quantum).id, .int .i64 (cutR l[k] quantum).rank, .int .i64 (cutR l[k] quantum).left, .int .i64 (cutR l[k] quantum).passed]) := by simpa [schedC, flowC] using hX
        generalize ((((wz3.setCell ⟨gX, 0, none⟩ (.int .i64 (cutR l[k] quantum).id)).setCell ⟨gX, 1, none⟩ (.int .i64 (cutR l[k] quantum).rank)).setCell ⟨gX, 2, none⟩ (.int .i64 (cutR l[k] quantum).left)).setCell ⟨gX, 3, none⟩ (.int .i64 (cutR l[k] quantum).passed)) = wz4 at hA hX hown hL ⊢
        refine hK.out _ _ ?_ (fun hHeld16 => ?_)
        focus ((try dsimp only); (have a := (HF.out.lo hL).facts.1; have b := (HSt.out.lo hL).blk.facts.1 0; exact ⟨a 5, a 6, (HF.out.lo hL).lt, b, (HSt.out.lo hL).blk.lt⟩))
        clear hK K hHeld
        have hHeld := hHeld16
        clear hHeld16
        (try simp only [Act.put, List.setIfInBounds_toArray, List.set_cons_zero, List.set_cons_succ])
        first
        | (refine wpAnyH_take (i := 17) (oi := _) (v := ?_) (getop rfl) (by kernel_rfl) (by kernel_rfl) (by kernel_rfl) (fun _ _ _ h => h) (Or.inl ⟨by rfl, ?_⟩) (by assumption) ?_; rotate_left; focus (intro w hSw; (try dsimp only at hSw); go_simp; (try with_reducible rfl); done))
        | (refine wpAnyH_take (i := 17) (oi := _) (v := undef) (getop rfl) (by kernel_rfl) (by kernel_rfl) (by kernel_rfl) (fun _ _ _ h => h) (Or.inr ⟨by rfl, rfl⟩) (by assumption) ?_)
        (try simp only [Act.put, List.setIfInBounds_toArray, List.set_cons_zero, List.set_cons_succ])
        refine wpAnyH_done (by kernel_rfl) ?_ _
        go_wp2_with fail
        go_meet
        exact ⟨gA, gX, k, hkl, A3, cap3, rfl, rfl, rfl, hk, hown.mono (Nat.zero_le _), hA, hX, zA, zX, hL⟩
  case rest =>
  clear HAS hL
  obtain ⟨gA, gX, k, hkl, A3, cap3, rfl, rfl, ht10, hk, hown, hA, hX, zA, zX, hL⟩ := hcut
  have HK := Lib.hid hk
  have hxr := HOK.out.2.2.1 l[k] (List.getElem_mem _)
  obtain ⟨x, hx⟩ : ∃ x, l[k] = x := ⟨_, rfl⟩
  obtain ⟨un, hun⟩ : ∃ un, min x.left quantum = un := ⟨_, rfl⟩
  obtain ⟨l2, hl2⟩ : ∃ l2, serveL l k quantum = l2 := ⟨_, rfl⟩
  rw [hx] at hX hxr ht10
  rw [hun] at ht10
  subst ht10
  replace hX : Blk wc gX 68 #[.int .i64 x.id, .int .i64 x.rank, .int .i64 (x.left - un), .int .i64 x.passed] := by rw [← hun]; exact hX
  rw [hl2] at hown hA
  have HKL : Hid (∃ h : k < l.length, l[k] = x ∧ min x.left quantum = un) := Lib.hid ⟨hkl, hx, hun⟩
  have HSL := Lib.hid hl2
  have hu1 : 1 ≤ un ∧ un ≤ quantum := by have := hxr.2.2.1; omega
  obtain ⟨ch, hch⟩ : ∃ ch, chargeL un wt = ch := ⟨_, rfl⟩
  have HTS : Hid (∀ w0, Calls Try.prog 18 #[.int .i64 time, .agg #[.int .i64 wt, .int .i64 st, .int .i64 fi, .int .i64 wk], .int .i64 un] w0 fun e w' => e = .returned (.tuple #[.int .i64 st, .agg #[.int .i64 wt, .int .i64 (st + ch), .int .i64 (st + ch), .int .i64 (wk + un)], .int .i64 0]) ∧ Below w0.heap.size w0 w') := Lib.hid fun w0 => by
    have := tserve_ok time wt st fi wk un w0 HTG.out ⟨by omega, by omega⟩ hwk hst
    rw [hch] at this
    exact this
  have HCH := Lib.hid hch
  have hww : IntKind.i64.wrap (work + un) = work + un := IntWalk.i64_in _ (by omega)
  clear hk hx hun hl2 hch hxr
  go_upto_region 8 with fail
  generalize wc = w5 at hown hA hX hL ⊢
  go_cut [11, 12, 13] (fun t11 t12 t13 wc => ∃ gT, t11 = .int .i64 st ∧ t12 = .pointer (some ⟨gT, 0, none⟩) ∧ t13 = .int .i64 0 ∧ wc.ownsRow 0 68 4 (.slice A3 l2.length cap3) l2.length (l2.flatMap cellsR) ∧ Blk wc gA 58 #[.int .i64 limit, .slice A3 l2.length cap3] ∧ Blk wc gX 68 #[.int .i64 x.id, .int .i64 x.rank, .int .i64 (x.left - un), .int .i64 x.passed] ∧ Blk wc gT 52 #[.int .i64 wt, .int .i64 (st + ch), .int .i64 (st + ch), .int .i64 (wk + un)] ∧ Below w4.heap.size w4 wc)
  case first =>
    clear HFC HOK HTG HP1 HRL HL0 HRR HK HKL HSL HCH
    refine wp_region_held_drew (S := (fun W => W.cell? ⟨s, 5, none⟩ = some (.int .i64 time) ∧ s < W.heap.size ∧ W.cell? ⟨g, 1, none⟩ = some (.int .i64 wt) ∧ W.cell? ⟨g, 2, none⟩ = some (.int .i64 st) ∧ W.cell? ⟨g, 3, none⟩ = some (.int .i64 fi) ∧ W.cell? ⟨g, 4, none⟩ = some (.int .i64 wk) ∧ g < W.heap.size)) (by kernel_rfl) ?_ (fun hHeld => ?_)
    focus ((try dsimp only); (have a := (HF.out.lo hL).facts.1; have b := (HSt.out.lo hL).blk.facts.1 5; exact ⟨b, (HSt.out.lo hL).blk.lt, a 1, a 2, a 3, a 4, (HF.out.lo hL).lt⟩))
    replace hA : Blk w5.drew _ _ _ := hA
    replace hX : Blk w5.drew _ _ _ := hX
    replace hown : w5.drew.ownsRow _ _ _ _ _ _ := hown
    replace hL := lo_drew hL
    generalize w5.drew = wd at hA hX hown hL hHeld ⊢
    first
    | (refine wpAnyH_take (i := 0) (oi := _) (v := ?_) (getop rfl) (by kernel_rfl) (by kernel_rfl) (by kernel_rfl) (fun _ _ _ h => h) (Or.inl ⟨by rfl, ?_⟩) (by assumption) ?_; rotate_left; focus (intro w hSw; (try dsimp only at hSw); go_simp; (try with_reducible rfl); done))
    | (refine wpAnyH_take (i := 0) (oi := _) (v := undef) (getop rfl) (by kernel_rfl) (by kernel_rfl) (by kernel_rfl) (fun _ _ _ h => h) (Or.inr ⟨by rfl, rfl⟩) (by assumption) ?_)
    (try simp only [Act.put, List.setIfInBounds_toArray, List.set_cons_zero, List.set_cons_succ])
    first
    | (refine wpAnyH_take (i := 4) (oi := _) (v := ?_) (getop rfl) (by kernel_rfl) (by kernel_rfl) (by kernel_rfl) (fun _ _ _ h => h) (Or.inl ⟨by rfl, ?_⟩) (by assumption) ?_; rotate_left; focus (intro w hSw; (try dsimp only at hSw); go_simp; (try with_reducible rfl); done))
    | (refine wpAnyH_take (i := 4) (oi := _) (v := undef) (getop rfl) (by kernel_rfl) (by kernel_rfl) (by kernel_rfl) (fun _ _ _ h => h) (Or.inr ⟨by rfl, rfl⟩) (by assumption) ?_)
    (try simp only [Act.put, List.setIfInBounds_toArray, List.set_cons_zero, List.set_cons_succ])
    first
    | (refine wpAnyH_take (i := 8) (oi := _) (v := ?_) (getop rfl) (by kernel_rfl) (by kernel_rfl) (by kernel_rfl) (fun _ _ _ h => h) (Or.inl ⟨by rfl, ?_⟩) (by assumption) ?_; rotate_left; focus (intro w hSw; (try dsimp only at hSw); go_simp; (try with_reducible rfl); done))
    | (refine wpAnyH_take (i := 8) (oi := _) (v := undef) (getop rfl) (by kernel_rfl) (by kernel_rfl) (by kernel_rfl) (fun _ _ _ h => h) (Or.inr ⟨by rfl, rfl⟩) (by assumption) ?_)
    (try simp only [Act.put, List.setIfInBounds_toArray, List.set_cons_zero, List.set_cons_succ])
    first
    | (refine wpAnyH_take (i := 1) (oi := _) (v := ?_) (getop rfl) (by kernel_rfl) (by kernel_rfl) (by kernel_rfl) (fun _ _ _ h => h) (Or.inl ⟨by rfl, ?_⟩) (by assumption) ?_; rotate_left; focus (intro w hSw; (try dsimp only at hSw); go_simp; (try with_reducible rfl); done))
    | (refine wpAnyH_take (i := 1) (oi := _) (v := undef) (getop rfl) (by kernel_rfl) (by kernel_rfl) (by kernel_rfl) (fun _ _ _ h => h) (Or.inr ⟨by rfl, rfl⟩) (by assumption) ?_)
    (try simp only [Act.put, List.setIfInBounds_toArray, List.set_cons_zero, List.set_cons_succ])
    first
    | (refine wpAnyH_take (i := 5) (oi := _) (v := ?_) (getop rfl) (by kernel_rfl) (by kernel_rfl) (by kernel_rfl) (fun _ _ _ h => h) (Or.inl ⟨by rfl, ?_⟩) (by assumption) ?_; rotate_left; focus (intro w hSw; (try dsimp only at hSw); go_simp; (try with_reducible rfl); done))
    | (refine wpAnyH_take (i := 5) (oi := _) (v := undef) (getop rfl) (by kernel_rfl) (by kernel_rfl) (by kernel_rfl) (fun _ _ _ h => h) (Or.inr ⟨by rfl, rfl⟩) (by assumption) ?_)
    (try simp only [Act.put, List.setIfInBounds_toArray, List.set_cons_zero, List.set_cons_succ])
    first
    | (refine wpAnyH_take (i := 2) (oi := _) (v := ?_) (getop rfl) (by kernel_rfl) (by kernel_rfl) (by kernel_rfl) (fun _ _ _ h => h) (Or.inl ⟨by rfl, ?_⟩) (by assumption) ?_; rotate_left; focus (intro w hSw; (try dsimp only at hSw); go_simp; (try with_reducible rfl); done))
    | (refine wpAnyH_take (i := 2) (oi := _) (v := undef) (getop rfl) (by kernel_rfl) (by kernel_rfl) (by kernel_rfl) (fun _ _ _ h => h) (Or.inr ⟨by rfl, rfl⟩) (by assumption) ?_)
    (try simp only [Act.put, List.setIfInBounds_toArray, List.set_cons_zero, List.set_cons_succ])
    first
    | (refine wpAnyH_take (i := 6) (oi := _) (v := ?_) (getop rfl) (by kernel_rfl) (by kernel_rfl) (by kernel_rfl) (fun _ _ _ h => h) (Or.inl ⟨by rfl, ?_⟩) (by assumption) ?_; rotate_left; focus (intro w hSw; (try dsimp only at hSw); go_simp; (try with_reducible rfl); done))
    | (refine wpAnyH_take (i := 6) (oi := _) (v := undef) (getop rfl) (by kernel_rfl) (by kernel_rfl) (by kernel_rfl) (fun _ _ _ h => h) (Or.inr ⟨by rfl, rfl⟩) (by assumption) ?_)
    (try simp only [Act.put, List.setIfInBounds_toArray, List.set_cons_zero, List.set_cons_succ])
    first
    | (refine wpAnyH_take (i := 3) (oi := _) (v := ?_) (getop rfl) (by kernel_rfl) (by kernel_rfl) (by kernel_rfl) (fun _ _ _ h => h) (Or.inl ⟨by rfl, ?_⟩) (by assumption) ?_; rotate_left; focus (intro w hSw; (try dsimp only at hSw); go_simp; (try with_reducible rfl); done))
    | (refine wpAnyH_take (i := 3) (oi := _) (v := undef) (getop rfl) (by kernel_rfl) (by kernel_rfl) (by kernel_rfl) (fun _ _ _ h => h) (Or.inr ⟨by rfl, rfl⟩) (by assumption) ?_)
    (try simp only [Act.put, List.setIfInBounds_toArray, List.set_cons_zero, List.set_cons_succ])
    first
    | (refine wpAnyH_take (i := 7) (oi := _) (v := ?_) (getop rfl) (by kernel_rfl) (by kernel_rfl) (by kernel_rfl) (fun _ _ _ h => h) (Or.inl ⟨by rfl, ?_⟩) (by assumption) ?_; rotate_left; focus (intro w hSw; (try dsimp only at hSw); go_simp; (try with_reducible rfl); done))
    | (refine wpAnyH_take (i := 7) (oi := _) (v := undef) (getop rfl) (by kernel_rfl) (by kernel_rfl) (by kernel_rfl) (fun _ _ _ h => h) (Or.inr ⟨by rfl, rfl⟩) (by assumption) ?_)
    (try simp only [Act.put, List.setIfInBounds_toArray, List.set_cons_zero, List.set_cons_succ])
    refine wpAnyH_ready (rs := [9, 14]) (by kernel_rfl) (by simp) ?_
    refine (AllReadyH.cons (o := _) (getop rfl) (fun K hK => ?_) (AllReadyH.cons (o := _) (getop rfl) (fun K hK => ?_) AllReadyH.nil))
    · go_simp
      refine (HTS.out _).mono ?_
      rintro e wz0 ⟨rfl, hb⟩
      replace hA := hA.lo hb
      replace hX := hX.lo hb
      replace hown := own_lo hown hb
      replace hL := lo_trans hL hb
      clear hb
      refine hK.out _ _ ?_ (fun hHeld9 => ?_)
      focus ((try dsimp only); (have a := (HF.out.lo hL).facts.1; have b := (HSt.out.lo hL).blk.facts.1 5; exact ⟨b, (HSt.out.lo hL).blk.lt, a 1, a 2, a 3, a 4, (HF.out.lo hL).lt⟩))
      clear hK K hHeld
      have hHeld := hHeld9
      clear hHeld9
      (try simp only [Act.put, List.setIfInBounds_toArray, List.set_cons_zero, List.set_cons_succ])
      first
      | (refine wpAnyH_take (i := 10) (oi := _) (v := ?_) (getop rfl) (by kernel_rfl) (by kernel_rfl) (by kernel_rfl) (fun _ _ _ h => h) (Or.inl ⟨by rfl, ?_⟩) (by assumption) ?_; rotate_left; focus (intro w hSw; (try dsimp only at hSw); go_simp; (try with_reducible rfl); done))
      | (refine wpAnyH_take (i := 10) (oi := _) (v := undef) (getop rfl) (by kernel_rfl) (by kernel_rfl) (by kernel_rfl) (fun _ _ _ h => h) (Or.inr ⟨by rfl, rfl⟩) (by assumption) ?_)
      (try simp only [Act.put, List.setIfInBounds_toArray, List.set_cons_zero, List.set_cons_succ])
      first
      | (refine wpAnyH_take (i := 11) (oi := _) (v := ?_) (getop rfl) (by kernel_rfl) (by kernel_rfl) (by kernel_rfl) (fun _ _ _ h => h) (Or.inl ⟨by rfl, ?_⟩) (by assumption) ?_; rotate_left; focus (intro w hSw; (try dsimp only at hSw); go_simp; (try with_reducible rfl); done))
      | (refine wpAnyH_take (i := 11) (oi := _) (v := undef) (getop rfl) (by kernel_rfl) (by kernel_rfl) (by kernel_rfl) (fun _ _ _ h => h) (Or.inr ⟨by rfl, rfl⟩) (by assumption) ?_)
      (try simp only [Act.put, List.setIfInBounds_toArray, List.set_cons_zero, List.set_cons_succ])
      first
      | (refine wpAnyH_take (i := 12) (oi := _) (v := ?_) (getop rfl) (by kernel_rfl) (by kernel_rfl) (by kernel_rfl) (fun _ _ _ h => h) (Or.inl ⟨by rfl, ?_⟩) (by assumption) ?_; rotate_left; focus (intro w hSw; (try dsimp only at hSw); go_simp; (try with_reducible rfl); done))
      | (refine wpAnyH_take (i := 12) (oi := _) (v := undef) (getop rfl) (by kernel_rfl) (by kernel_rfl) (by kernel_rfl) (fun _ _ _ h => h) (Or.inr ⟨by rfl, rfl⟩) (by assumption) ?_)
      (try simp only [Act.put, List.setIfInBounds_toArray, List.set_cons_zero, List.set_cons_succ])
      first
      | (refine wpAnyH_take (i := 13) (oi := _) (v := ?_) (getop rfl) (by kernel_rfl) (by kernel_rfl) (by kernel_rfl) (fun _ _ _ h => h) (Or.inl ⟨by rfl, ?_⟩) (by assumption) ?_; rotate_left; focus (intro w hSw; (try dsimp only at hSw); go_simp; (try with_reducible rfl); done))
      | (refine wpAnyH_take (i := 13) (oi := _) (v := undef) (getop rfl) (by kernel_rfl) (by kernel_rfl) (by kernel_rfl) (fun _ _ _ h => h) (Or.inr ⟨by rfl, rfl⟩) (by assumption) ?_)
      (try simp only [Act.put, List.setIfInBounds_toArray, List.set_cons_zero, List.set_cons_succ])
      refine wpAnyH_ready (rs := [14]) (by kernel_rfl) (by simp) ?_
      refine (AllReadyH.cons (o := _) (getop rfl) (fun K hK => ?_) AllReadyH.nil)
      go_simp
      have hT := Blk.new wz0 52 #[.int .i64 0, .int .i64 0, .int .i64 0, .int .i64 0]
      have zT : w4.heap.size ≤ wz0.heap.size := hL.size
      replace hA := hA.alloc (.cells #[.int .i64 0, .int .i64 0, .int .i64 0, .int .i64 0] 52)
      replace hX := hX.alloc (.cells #[.int .i64 0, .int .i64 0, .int .i64 0, .int .i64 0] 52)
      replace hown := hown.alloc (.cells #[.int .i64 0, .int .i64 0, .int .i64 0, .int .i64 0] 52)
      replace hL := lo_alloc hL (.cells #[.int .i64 0, .int .i64 0, .int .i64 0, .int .i64 0] 52)
      generalize wz0.heap.size = gT at hT zT ⊢
      generalize wz0.alloc (.cells #[.int .i64 0, .int .i64 0, .int .i64 0, .int .i64 0] 52) = wz1 at hA hX hT hown hL ⊢
      refine hK.out _ _ ?_ (fun hHeld14 => ?_)
      focus ((try dsimp only); (have a := (HF.out.lo hL).facts.1; have b := (HSt.out.lo hL).blk.facts.1 5; exact ⟨b, (HSt.out.lo hL).blk.lt, a 1, a 2, a 3, a 4, (HF.out.lo hL).lt⟩))
      clear hK K hHeld
      have hHeld := hHeld14
      clear hHeld14
      (try simp only [Act.put, List.setIfInBounds_toArray, List.set_cons_zero, List.set_cons_succ])
      first
      | (refine wpAnyH_take (i := 15) (oi := _) (v := ?_) (getop rfl) (by kernel_rfl) (by kernel_rfl) (by kernel_rfl) (fun _ _ _ h => h) (Or.inl ⟨by rfl, ?_⟩) (by assumption) ?_; rotate_left; focus (intro w hSw; (try dsimp only at hSw); go_simp; (try with_reducible rfl); done))
      | (refine wpAnyH_take (i := 15) (oi := _) (v := undef) (getop rfl) (by kernel_rfl) (by kernel_rfl) (by kernel_rfl) (fun _ _ _ h => h) (Or.inr ⟨by rfl, rfl⟩) (by assumption) ?_)
      (try simp only [Act.put, List.setIfInBounds_toArray, List.set_cons_zero, List.set_cons_succ])
      refine wpAnyH_ready (rs := [16]) (by kernel_rfl) (by simp) ?_
      refine (AllReadyH.cons (o := _) (getop rfl) (fun K hK => ?_) AllReadyH.nil)
      obtain ⟨cT, fT⟩ := hT.facts
      have lT := hT.lt
      go_simp
      clear cT fT lT
      replace hA := hA.far (p := ⟨gT, 0, none⟩) (by dsimp only; exact blk_ne hA hT (by decide)) (.int .i64 wt)
      replace hX := hX.far (p := ⟨gT, 0, none⟩) (by dsimp only; exact blk_ne hX hT (by decide)) (.int .i64 wt)
      replace hown := own_far hown (p := ⟨gT, 0, none⟩) (blk_ne_own hown hT (by decide)) (.int .i64 wt)
      replace hL := lo_set hL (p := ⟨gT, 0, none⟩) zT (.int .i64 wt)
      replace hT := hT.set_ 0 (.int .i64 wt)
      replace hA := hA.far (p := ⟨gT, 1, none⟩) (by dsimp only; exact blk_ne hA hT (by decide)) (.int .i64 (st + ch))
      replace hX := hX.far (p := ⟨gT, 1, none⟩) (by dsimp only; exact blk_ne hX hT (by decide)) (.int .i64 (st + ch))
      replace hown := own_far hown (p := ⟨gT, 1, none⟩) (blk_ne_own hown hT (by decide)) (.int .i64 (st + ch))
      replace hL := lo_set hL (p := ⟨gT, 1, none⟩) zT (.int .i64 (st + ch))
      replace hT := hT.set_ 1 (.int .i64 (st + ch))
      replace hA := hA.far (p := ⟨gT, 2, none⟩) (by dsimp only; exact blk_ne hA hT (by decide)) (.int .i64 (st + ch))
      replace hX := hX.far (p := ⟨gT, 2, none⟩) (by dsimp only; exact blk_ne hX hT (by decide)) (.int .i64 (st + ch))
      replace hown := own_far hown (p := ⟨gT, 2, none⟩) (blk_ne_own hown hT (by decide)) (.int .i64 (st + ch))
      replace hL := lo_set hL (p := ⟨gT, 2, none⟩) zT (.int .i64 (st + ch))
      replace hT := hT.set_ 2 (.int .i64 (st + ch))
      replace hA := hA.far (p := ⟨gT, 3, none⟩) (by dsimp only; exact blk_ne hA hT (by decide)) (.int .i64 (wk + un))
      replace hX := hX.far (p := ⟨gT, 3, none⟩) (by dsimp only; exact blk_ne hX hT (by decide)) (.int .i64 (wk + un))
      replace hown := own_far hown (p := ⟨gT, 3, none⟩) (blk_ne_own hown hT (by decide)) (.int .i64 (wk + un))
      replace hL := lo_set hL (p := ⟨gT, 3, none⟩) zT (.int .i64 (wk + un))
      replace hT := hT.set_ 3 (.int .i64 (wk + un))
      replace hT : Blk ((((wz1.setCell ⟨gT, 0, none⟩ (.int .i64 wt)).setCell ⟨gT, 1, none⟩ (.int .i64 (st + ch))).setCell ⟨gT, 2, none⟩ (.int .i64 (st + ch))).setCell ⟨gT, 3, none⟩ (.int .i64 (wk + un))) gT 52 (#[.int .i64 wt, .int .i64 (st + ch), .int .i64 (st + ch), .int .i64 (wk + un)]) := by simpa [schedC, flowC] using hT
      generalize ((((wz1.setCell ⟨gT, 0, none⟩ (.int .i64 wt)).setCell ⟨gT, 1, none⟩ (.int .i64 (st + ch))).setCell ⟨gT, 2, none⟩ (.int .i64 (st + ch))).setCell ⟨gT, 3, none⟩ (.int .i64 (wk + un))) = wz2 at hA hX hT hown hL ⊢
      refine hK.out _ _ ?_ (fun hHeld16 => ?_)
      focus ((try dsimp only); (have a := (HF.out.lo hL).facts.1; have b := (HSt.out.lo hL).blk.facts.1 5; exact ⟨b, (HSt.out.lo hL).blk.lt, a 1, a 2, a 3, a 4, (HF.out.lo hL).lt⟩))
      clear hK K hHeld
      have hHeld := hHeld16
      clear hHeld16
      (try simp only [Act.put, List.setIfInBounds_toArray, List.set_cons_zero, List.set_cons_succ])
      first
      | (refine wpAnyH_take (i := 17) (oi := _) (v := ?_) (getop rfl) (by kernel_rfl) (by kernel_rfl) (by kernel_rfl) (fun _ _ _ h => h) (Or.inl ⟨by rfl, ?_⟩) (by assumption) ?_; rotate_left; focus (intro w hSw; (try dsimp only at hSw); go_simp; (try with_reducible rfl); done))
      | (refine wpAnyH_take (i := 17) (oi := _) (v := undef) (getop rfl) (by kernel_rfl) (by kernel_rfl) (by kernel_rfl) (fun _ _ _ h => h) (Or.inr ⟨by rfl, rfl⟩) (by assumption) ?_)
      (try simp only [Act.put, List.setIfInBounds_toArray, List.set_cons_zero, List.set_cons_succ])
      refine wpAnyH_done (by kernel_rfl) ?_ _
      go_wp2_with fail
      go_meet
      exact ⟨gT, rfl, rfl, rfl, hown, hA, hX, hT, hL⟩
    · go_simp
      have hT := Blk.new wd 52 #[.int .i64 0, .int .i64 0, .int .i64 0, .int .i64 0]
      have zT : w4.heap.size ≤ wd.heap.size := hL.size
      replace hA := hA.alloc (.cells #[.int .i64 0, .int .i64 0, .int .i64 0, .int .i64 0] 52)
      replace hX := hX.alloc (.cells #[.int .i64 0, .int .i64 0, .int .i64 0, .int .i64 0] 52)
      replace hown := hown.alloc (.cells #[.int .i64 0, .int .i64 0, .int .i64 0, .int .i64 0] 52)
      replace hL := lo_alloc hL (.cells #[.int .i64 0, .int .i64 0, .int .i64 0, .int .i64 0] 52)
      generalize wd.heap.size = gT at hT zT ⊢
      generalize wd.alloc (.cells #[.int .i64 0, .int .i64 0, .int .i64 0, .int .i64 0] 52) = wz0 at hA hX hT hown hL ⊢
      refine hK.out _ _ ?_ (fun hHeld14 => ?_)
      focus ((try dsimp only); (have a := (HF.out.lo hL).facts.1; have b := (HSt.out.lo hL).blk.facts.1 5; exact ⟨b, (HSt.out.lo hL).blk.lt, a 1, a 2, a 3, a 4, (HF.out.lo hL).lt⟩))
      clear hK K hHeld
      have hHeld := hHeld14
      clear hHeld14
      (try simp only [Act.put, List.setIfInBounds_toArray, List.set_cons_zero, List.set_cons_succ])
      refine wpAnyH_ready (rs := [9]) (by kernel_rfl) (by simp) ?_
      refine (AllReadyH.cons (o := _) (getop rfl) (fun K hK => ?_) AllReadyH.nil)
      go_simp
      refine (HTS.out _).mono ?_
      rintro e wz1 ⟨rfl, hb⟩
      replace hA := hA.lo hb
      replace hX := hX.lo hb
      replace hT := hT.lo hb
      replace hown := own_lo hown hb
      replace hL := lo_trans hL hb
      clear hb
      refine hK.out _ _ ?_ (fun hHeld9 => ?_)
      focus ((try dsimp only); (have a := (HF.out.lo hL).facts.1; have b := (HSt.out.lo hL).blk.facts.1 5; exact ⟨b, (HSt.out.lo hL).blk.lt, a 1, a 2, a 3, a 4, (HF.out.lo hL).lt⟩))
      clear hK K hHeld
      have hHeld := hHeld9
      clear hHeld9
      (try simp only [Act.put, List.setIfInBounds_toArray, List.set_cons_zero, List.set_cons_succ])
      first
      | (refine wpAnyH_take (i := 10) (oi := _) (v := ?_) (getop rfl) (by kernel_rfl) (by kernel_rfl) (by kernel_rfl) (fun _ _ _ h => h) (Or.inl ⟨by rfl, ?_⟩) (by assumption) ?_; rotate_left; focus (intro w hSw; (try dsimp only at hSw); go_simp; (try with_reducible rfl); done))
      | (refine wpAnyH_take (i := 10) (oi := _) (v := undef) (getop rfl) (by kernel_rfl) (by kernel_rfl) (by kernel_rfl) (fun _ _ _ h => h) (Or.inr ⟨by rfl, rfl⟩) (by assumption) ?_)
      (try simp only [Act.put, List.setIfInBounds_toArray, List.set_cons_zero, List.set_cons_succ])
      first
      | (refine wpAnyH_take (i := 11) (oi := _) (v := ?_) (getop rfl) (by kernel_rfl) (by kernel_rfl) (by kernel_rfl) (fun _ _ _ h => h) (Or.inl ⟨by rfl, ?_⟩) (by assumption) ?_; rotate_left; focus (intro w hSw; (try dsimp only at hSw); go_simp; (try with_reducible rfl); done))
      | (refine wpAnyH_take (i := 11) (oi := _) (v := undef) (getop rfl) (by kernel_rfl) (by kernel_rfl) (by kernel_rfl) (fun _ _ _ h => h) (Or.inr ⟨by rfl, rfl⟩) (by assumption) ?_)
      (try simp only [Act.put, List.setIfInBounds_toArray, List.set_cons_zero, List.set_cons_succ])
      first
      | (refine wpAnyH_take (i := 12) (oi := _) (v := ?_) (getop rfl) (by kernel_rfl) (by kernel_rfl) (by kernel_rfl) (fun _ _ _ h => h) (Or.inl ⟨by rfl, ?_⟩) (by assumption) ?_; rotate_left; focus (intro w hSw; (try dsimp only at hSw); go_simp; (try with_reducible rfl); done))
      | (refine wpAnyH_take (i := 12) (oi := _) (v := undef) (getop rfl) (by kernel_rfl) (by kernel_rfl) (by kernel_rfl) (fun _ _ _ h => h) (Or.inr ⟨by rfl, rfl⟩) (by assumption) ?_)
      (try simp only [Act.put, List.setIfInBounds_toArray, List.set_cons_zero, List.set_cons_succ])
      first
      | (refine wpAnyH_take (i := 13) (oi := _) (v := ?_) (getop rfl) (by kernel_rfl) (by kernel_rfl) (by kernel_rfl) (fun _ _ _ h => h) (Or.inl ⟨by rfl, ?_⟩) (by assumption) ?_; rotate_left; focus (intro w hSw; (try dsimp only at hSw); go_simp; (try with_reducible rfl); done))
      | (refine wpAnyH_take (i := 13) (oi := _) (v := undef) (getop rfl) (by kernel_rfl) (by kernel_rfl) (by kernel_rfl) (fun _ _ _ h => h) (Or.inr ⟨by rfl, rfl⟩) (by assumption) ?_)
      (try simp only [Act.put, List.setIfInBounds_toArray, List.set_cons_zero, List.set_cons_succ])
      first
      | (refine wpAnyH_take (i := 15) (oi := _) (v := ?_) (getop rfl) (by kernel_rfl) (by kernel_rfl) (by kernel_rfl) (fun _ _ _ h => h) (Or.inl ⟨by rfl, ?_⟩) (by assumption) ?_; rotate_left; focus (intro w hSw; (try dsimp only at hSw); go_simp; (try with_reducible rfl); done))
      | (refine wpAnyH_take (i := 15) (oi := _) (v := undef) (getop rfl) (by kernel_rfl) (by kernel_rfl) (by kernel_rfl) (fun _ _ _ h => h) (Or.inr ⟨by rfl, rfl⟩) (by assumption) ?_)
      (try simp only [Act.put, List.setIfInBounds_toArray, List.set_cons_zero, List.set_cons_succ])
      refine wpAnyH_ready (rs := [16]) (by kernel_rfl) (by simp) ?_
      refine (AllReadyH.cons (o := _) (getop rfl) (fun K hK => ?_) AllReadyH.nil)
      obtain ⟨cT, fT⟩ := hT.facts
      have lT := hT.lt
      go_simp
      clear cT fT lT
      replace hA := hA.far (p := ⟨gT, 0, none⟩) (by dsimp only; exact blk_ne hA hT (by decide)) (.int .i64 wt)
      replace hX := hX.far (p := ⟨gT, 0, none⟩) (by dsimp only; exact blk_ne hX hT (by decide)) (.int .i64 wt)
      replace hown := own_far hown (p := ⟨gT, 0, none⟩) (blk_ne_own hown hT (by decide)) (.int .i64 wt)
      replace hL := lo_set hL (p := ⟨gT, 0, none⟩) zT (.int .i64 wt)
      replace hT := hT.set_ 0 (.int .i64 wt)
      replace hA := hA.far (p := ⟨gT, 1, none⟩) (by dsimp only; exact blk_ne hA hT (by decide)) (.int .i64 (st + ch))
      replace hX := hX.far (p := ⟨gT, 1, none⟩) (by dsimp only; exact blk_ne hX hT (by decide)) (.int .i64 (st + ch))
      replace hown := own_far hown (p := ⟨gT, 1, none⟩) (blk_ne_own hown hT (by decide)) (.int .i64 (st + ch))
      replace hL := lo_set hL (p := ⟨gT, 1, none⟩) zT (.int .i64 (st + ch))
      replace hT := hT.set_ 1 (.int .i64 (st + ch))
      replace hA := hA.far (p := ⟨gT, 2, none⟩) (by dsimp only; exact blk_ne hA hT (by decide)) (.int .i64 (st + ch))
      replace hX := hX.far (p := ⟨gT, 2, none⟩) (by dsimp only; exact blk_ne hX hT (by decide)) (.int .i64 (st + ch))
      replace hown := own_far hown (p := ⟨gT, 2, none⟩) (blk_ne_own hown hT (by decide)) (.int .i64 (st + ch))
      replace hL := lo_set hL (p := ⟨gT, 2, none⟩) zT (.int .i64 (st + ch))
      replace hT := hT.set_ 2 (.int .i64 (st + ch))
      replace hA := hA.far (p := ⟨gT, 3, none⟩) (by dsimp only; exact blk_ne hA hT (by decide)) (.int .i64 (wk + un))
      replace hX := hX.far (p := ⟨gT, 3, none⟩) (by dsimp only; exact blk_ne hX hT (by decide)) (.int .i64 (wk + un))
      replace hown := own_far hown (p := ⟨gT, 3, none⟩) (blk_ne_own hown hT (by decide)) (.int .i64 (wk + un))
      replace hL := lo_set hL (p := ⟨gT, 3, none⟩) zT (.int .i64 (wk + un))
      replace hT := hT.set_ 3 (.int .i64 (wk + un))
      replace hT : Blk ((((wz1.setCell ⟨gT, 0, none⟩ (.int .i64 wt)).setCell ⟨gT, 1, none⟩ (.int .i64 (st + ch))).setCell ⟨gT, 2, none⟩ (.int .i64 (st + ch))).setCell ⟨gT, 3, none⟩ (.int .i64 (wk + un))) gT 52 (#[.int .i64 wt, .int .i64 (st + ch), .int .i64 (st + ch), .int .i64 (wk + un)]) := by simpa [schedC, flowC] using hT
      generalize ((((wz1.setCell ⟨gT, 0, none⟩ (.int .i64 wt)).setCell ⟨gT, 1, none⟩ (.int .i64 (st + ch))).setCell ⟨gT, 2, none⟩ (.int .i64 (st + ch))).setCell ⟨gT, 3, none⟩ (.int .i64 (wk + un))) = wz2 at hA hX hT hown hL ⊢
      refine hK.out _ _ ?_ (fun hHeld16 => ?_)
      focus ((try dsimp only); (have a := (HF.out.lo hL).facts.1; have b := (HSt.out.lo hL).blk.facts.1 5; exact ⟨b, (HSt.out.lo hL).blk.lt, a 1, a 2, a 3, a 4, (HF.out.lo hL).lt⟩))
      clear hK K hHeld
      have hHeld := hHeld16
      clear hHeld16
      (try simp only [Act.put, List.setIfInBounds_toArray, List.set_cons_zero, List.set_cons_succ])
      first
      | (refine wpAnyH_take (i := 17) (oi := _) (v := ?_) (getop rfl) (by kernel_rfl) (by kernel_rfl) (by kernel_rfl) (fun _ _ _ h => h) (Or.inl ⟨by rfl, ?_⟩) (by assumption) ?_; rotate_left; focus (intro w hSw; (try dsimp only at hSw); go_simp; (try with_reducible rfl); done))
      | (refine wpAnyH_take (i := 17) (oi := _) (v := undef) (getop rfl) (by kernel_rfl) (by kernel_rfl) (by kernel_rfl) (fun _ _ _ h => h) (Or.inr ⟨by rfl, rfl⟩) (by assumption) ?_)
      (try simp only [Act.put, List.setIfInBounds_toArray, List.set_cons_zero, List.set_cons_succ])
      refine wpAnyH_done (by kernel_rfl) ?_ _
      go_wp2_with fail
      go_meet
      exact ⟨gT, rfl, rfl, rfl, hown, hA, hX, hT, hL⟩
  case rest =>
  clear hown hA hX hL HTS
  obtain ⟨gT, rfl, rfl, rfl, hown, hA, hX, hT, hL⟩ := hcut
  generalize wc = w6 at hown hA hX hT hL ⊢
  have hS := (HSt.out.lo hL).blk
  have hF := HF.out.lo hL
  have hR := HRR.out.1.lo hL
  have hr1 := own_lo HRR.out.2 hL
  have hKp := Kept.refl w6 s g
  replace HSt := Lib.hid (HSt.out.lo hL)
  have hB1 := ((HL0.out.mono hBw)).trans (hL.mono (Nat.le_trans hBw HL0.out.size))
  have HB := Lib.hid hB1
  have hBR : B ≤ w.heap.size := hBw
  have HPU : Hid (∀ w0, Its w0 A2 r1.length cap2 r1 → Calls Try.prog 20 #[.slice A2 r1.length cap2, .agg #[.int .i64 (st + ch), .int .i64 (c : Int)]] w0 (HPushPost w0 r1 (st + ch, (c : Int)))) := Lib.hid fun w0 h0 => hpush_ok A2 r1.length cap2 r1 (st + ch) c w0 h0 HP1.out.2 (by rw [HRL.out]; omega)
  clear hL hB1 HF HRR HL0 HRQ
  generalize w.heap.size = gR at hR hBR ⊢
  go_upto_region 11 with fail
  refine wp_region_held_drew (S := (fun W => W.cell? ⟨gA, 0, none⟩ = some (.int .i64 limit) ∧ W.cell? ⟨gA, 1, none⟩ = some (.slice A3 l2.length cap3) ∧ gA < W.heap.size ∧ W.cell? ⟨gT, 0, none⟩ = some (.int .i64 wt) ∧ W.cell? ⟨gT, 1, none⟩ = some (.int .i64 (st + ch)) ∧ W.cell? ⟨gT, 2, none⟩ = some (.int .i64 (st + ch)) ∧ W.cell? ⟨gT, 3, none⟩ = some (.int .i64 (wk + un)) ∧ gT < W.heap.size ∧ g < W.heap.size ∧ s < W.heap.size)) (by kernel_rfl) ?_ (fun hHeld => ?_)
  focus ((try dsimp only); (have a := hA.facts.1; have b := hT.facts.1; exact ⟨a 0, a 1, hA.lt, b 0, b 1, b 2, b 3, hT.lt, hF.lt, hS.lt⟩))
  replace hS : Blk w6.drew _ _ _ := hS
  replace hF : Blk w6.drew _ _ _ := hF
  replace hR : Blk w6.drew _ _ _ := hR
  replace hA : Blk w6.drew _ _ _ := hA
  replace hX : Blk w6.drew _ _ _ := hX
  replace hT : Blk w6.drew _ _ _ := hT
  replace hown : w6.drew.ownsRow _ _ _ _ _ _ := hown
  replace hr1 : w6.drew.ownsRow _ _ _ _ _ _ := hr1
  replace hKp := hKp.drew
  generalize w6.drew = wd at hS hF hR hA hX hT hown hr1 hKp hHeld ⊢
  first
  | (refine wpAnyH_take (i := 0) (oi := _) (v := ?_) (getop rfl) (by kernel_rfl) (by kernel_rfl) (by kernel_rfl) (fun _ _ _ h => h) (Or.inl ⟨by rfl, ?_⟩) (by assumption) ?_; rotate_left; focus (intro w hSw; (try dsimp only at hSw); go_simp; (try with_reducible rfl); done))
  | (refine wpAnyH_take (i := 0) (oi := _) (v := undef) (getop rfl) (by kernel_rfl) (by kernel_rfl) (by kernel_rfl) (fun _ _ _ h => h) (Or.inr ⟨by rfl, rfl⟩) (by assumption) ?_)
  (try simp only [Act.put, List.setIfInBounds_toArray, List.set_cons_zero, List.set_cons_succ])
  first
  | (refine wpAnyH_take (i := 1) (oi := _) (v := ?_) (getop rfl) (by kernel_rfl) (by kernel_rfl) (by kernel_rfl) (fun _ _ _ h => h) (Or.inl ⟨by rfl, ?_⟩) (by assumption) ?_; rotate_left; focus (intro w hSw; (try dsimp only at hSw); go_simp; (try with_reducible rfl); done))
  | (refine wpAnyH_take (i := 1) (oi := _) (v := undef) (getop rfl) (by kernel_rfl) (by kernel_rfl) (by kernel_rfl) (fun _ _ _ h => h) (Or.inr ⟨by rfl, rfl⟩) (by assumption) ?_)
  (try simp only [Act.put, List.setIfInBounds_toArray, List.set_cons_zero, List.set_cons_succ])
  first
  | (refine wpAnyH_take (i := 2) (oi := _) (v := ?_) (getop rfl) (by kernel_rfl) (by kernel_rfl) (by kernel_rfl) (fun _ _ _ h => h) (Or.inl ⟨by rfl, ?_⟩) (by assumption) ?_; rotate_left; focus (intro w hSw; (try dsimp only at hSw); go_simp; (try with_reducible rfl); done))
  | (refine wpAnyH_take (i := 2) (oi := _) (v := undef) (getop rfl) (by kernel_rfl) (by kernel_rfl) (by kernel_rfl) (fun _ _ _ h => h) (Or.inr ⟨by rfl, rfl⟩) (by assumption) ?_)
  (try simp only [Act.put, List.setIfInBounds_toArray, List.set_cons_zero, List.set_cons_succ])
  first
  | (refine wpAnyH_take (i := 3) (oi := _) (v := ?_) (getop rfl) (by kernel_rfl) (by kernel_rfl) (by kernel_rfl) (fun _ _ _ h => h) (Or.inl ⟨by rfl, ?_⟩) (by assumption) ?_; rotate_left; focus (intro w hSw; (try dsimp only at hSw); go_simp; (try with_reducible rfl); done))
  | (refine wpAnyH_take (i := 3) (oi := _) (v := undef) (getop rfl) (by kernel_rfl) (by kernel_rfl) (by kernel_rfl) (fun _ _ _ h => h) (Or.inr ⟨by rfl, rfl⟩) (by assumption) ?_)
  (try simp only [Act.put, List.setIfInBounds_toArray, List.set_cons_zero, List.set_cons_succ])
  first
  | (refine wpAnyH_take (i := 4) (oi := _) (v := ?_) (getop rfl) (by kernel_rfl) (by kernel_rfl) (by kernel_rfl) (fun _ _ _ h => h) (Or.inl ⟨by rfl, ?_⟩) (by assumption) ?_; rotate_left; focus (intro w hSw; (try dsimp only at hSw); go_simp; (try with_reducible rfl); done))
  | (refine wpAnyH_take (i := 4) (oi := _) (v := undef) (getop rfl) (by kernel_rfl) (by kernel_rfl) (by kernel_rfl) (fun _ _ _ h => h) (Or.inr ⟨by rfl, rfl⟩) (by assumption) ?_)
  (try simp only [Act.put, List.setIfInBounds_toArray, List.set_cons_zero, List.set_cons_succ])
  first
  | (refine wpAnyH_take (i := 5) (oi := _) (v := ?_) (getop rfl) (by kernel_rfl) (by kernel_rfl) (by kernel_rfl) (fun _ _ _ h => h) (Or.inl ⟨by rfl, ?_⟩) (by assumption) ?_; rotate_left; focus (intro w hSw; (try dsimp only at hSw); go_simp; (try with_reducible rfl); done))
  | (refine wpAnyH_take (i := 5) (oi := _) (v := undef) (getop rfl) (by kernel_rfl) (by kernel_rfl) (by kernel_rfl) (fun _ _ _ h => h) (Or.inr ⟨by rfl, rfl⟩) (by assumption) ?_)
  (try simp only [Act.put, List.setIfInBounds_toArray, List.set_cons_zero, List.set_cons_succ])
  first
  | (refine wpAnyH_take (i := 6) (oi := _) (v := ?_) (getop rfl) (by kernel_rfl) (by kernel_rfl) (by kernel_rfl) (fun _ _ _ h => h) (Or.inl ⟨by rfl, ?_⟩) (by assumption) ?_; rotate_left; focus (intro w hSw; (try dsimp only at hSw); go_simp; (try with_reducible rfl); done))
  | (refine wpAnyH_take (i := 6) (oi := _) (v := undef) (getop rfl) (by kernel_rfl) (by kernel_rfl) (by kernel_rfl) (fun _ _ _ h => h) (Or.inr ⟨by rfl, rfl⟩) (by assumption) ?_)
  (try simp only [Act.put, List.setIfInBounds_toArray, List.set_cons_zero, List.set_cons_succ])
  first
  | (refine wpAnyH_take (i := 7) (oi := _) (v := ?_) (getop rfl) (by kernel_rfl) (by kernel_rfl) (by kernel_rfl) (fun _ _ _ h => h) (Or.inl ⟨by rfl, ?_⟩) (by assumption) ?_; rotate_left; focus (intro w hSw; (try dsimp only at hSw); go_simp; (try with_reducible rfl); done))
  | (refine wpAnyH_take (i := 7) (oi := _) (v := undef) (getop rfl) (by kernel_rfl) (by kernel_rfl) (by kernel_rfl) (fun _ _ _ h => h) (Or.inr ⟨by rfl, rfl⟩) (by assumption) ?_)
  (try simp only [Act.put, List.setIfInBounds_toArray, List.set_cons_zero, List.set_cons_succ])
  refine wpAnyH_ready (rs := [8]) (by kernel_rfl) (by simp) ?_
  refine (AllReadyH.cons (o := _) (getop rfl) (fun K hK => ?_) AllReadyH.nil)
  obtain ⟨cT, fT⟩ := hF.facts
  have lT := hF.lt
  unfold flowC at cT
  go_simp
  clear cT fT lT
  replace hS := hS.far (p := ⟨g, 5, none⟩) (by dsimp only; exact blk_ne hS hF (by decide)) (.int .i64 limit)
  replace hR := hR.far (p := ⟨g, 5, none⟩) (by dsimp only; exact blk_ne hR hF (by decide)) (.int .i64 limit)
  replace hA := hA.far (p := ⟨g, 5, none⟩) (by dsimp only; exact blk_ne hA hF (by decide)) (.int .i64 limit)
  replace hX := hX.far (p := ⟨g, 5, none⟩) (by dsimp only; exact blk_ne hX hF (by decide)) (.int .i64 limit)
  replace hT := hT.far (p := ⟨g, 5, none⟩) (by dsimp only; exact blk_ne hT hF (by decide)) (.int .i64 limit)
  replace hown := own_far hown (p := ⟨g, 5, none⟩) (blk_ne_own hown hF (by decide)) (.int .i64 limit)
  replace hr1 := own_far hr1 (p := ⟨g, 5, none⟩) (blk_ne_own hr1 hF (by decide)) (.int .i64 limit)
  replace hF := hF.set_ 5 (.int .i64 limit)
  replace hKp := hKp.set (p := ⟨g, 5, none⟩) (Or.inr rfl) (.int .i64 limit)
  replace hS := hS.far (p := ⟨g, 6, none⟩) (by dsimp only; exact blk_ne hS hF (by decide)) (.slice A3 l2.length cap3)
  replace hR := hR.far (p := ⟨g, 6, none⟩) (by dsimp only; exact blk_ne hR hF (by decide)) (.slice A3 l2.length cap3)
  replace hA := hA.far (p := ⟨g, 6, none⟩) (by dsimp only; exact blk_ne hA hF (by decide)) (.slice A3 l2.length cap3)
  replace hX := hX.far (p := ⟨g, 6, none⟩) (by dsimp only; exact blk_ne hX hF (by decide)) (.slice A3 l2.length cap3)
  replace hT := hT.far (p := ⟨g, 6, none⟩) (by dsimp only; exact blk_ne hT hF (by decide)) (.slice A3 l2.length cap3)
  replace hown := own_far hown (p := ⟨g, 6, none⟩) (blk_ne_own hown hF (by decide)) (.slice A3 l2.length cap3)
  replace hr1 := own_far hr1 (p := ⟨g, 6, none⟩) (blk_ne_own hr1 hF (by decide)) (.slice A3 l2.length cap3)
  replace hF := hF.set_ 6 (.slice A3 l2.length cap3)
  replace hKp := hKp.set (p := ⟨g, 6, none⟩) (Or.inr rfl) (.slice A3 l2.length cap3)
  replace hF : Blk ((wd.setCell ⟨g, 5, none⟩ (.int .i64 limit)).setCell ⟨g, 6, none⟩ (.slice A3 l2.length cap3)) g 62 (flowC c ⟨wt, st, fi, wk⟩ limit (.slice A3 l2.length cap3)) := by simpa [schedC, flowC] using hF
  generalize ((wd.setCell ⟨g, 5, none⟩ (.int .i64 limit)).setCell ⟨g, 6, none⟩ (.slice A3 l2.length cap3)) = wz0 at hS hF hR hA hX hT hown hr1 hKp ⊢
  refine hK.out _ _ ?_ (fun hHeld8 => ?_)
  focus ((try dsimp only); (have a := hA.facts.1; have b := hT.facts.1; exact ⟨a 0, a 1, hA.lt, b 0, b 1, b 2, b 3, hT.lt, hF.lt, hS.lt⟩))
  clear hK K hHeld
  have hHeld := hHeld8
  clear hHeld8
  (try simp only [Act.put, List.setIfInBounds_toArray, List.set_cons_zero, List.set_cons_succ])
  first
  | (refine wpAnyH_take (i := 9) (oi := _) (v := ?_) (getop rfl) (by kernel_rfl) (by kernel_rfl) (by kernel_rfl) (fun _ _ _ h => h) (Or.inl ⟨by rfl, ?_⟩) (by assumption) ?_; rotate_left; focus (intro w hSw; (try dsimp only at hSw); go_simp; (try with_reducible rfl); done))
  | (refine wpAnyH_take (i := 9) (oi := _) (v := undef) (getop rfl) (by kernel_rfl) (by kernel_rfl) (by kernel_rfl) (fun _ _ _ h => h) (Or.inr ⟨by rfl, rfl⟩) (by assumption) ?_)
  (try simp only [Act.put, List.setIfInBounds_toArray, List.set_cons_zero, List.set_cons_succ])
  first
  | (refine wpAnyH_take (i := 10) (oi := _) (v := ?_) (getop rfl) (by kernel_rfl) (by kernel_rfl) (by kernel_rfl) (fun _ _ _ h => h) (Or.inl ⟨by rfl, ?_⟩) (by assumption) ?_; rotate_left; focus (intro w hSw; (try dsimp only at hSw); go_simp; (try with_reducible rfl); done))
  | (refine wpAnyH_take (i := 10) (oi := _) (v := undef) (getop rfl) (by kernel_rfl) (by kernel_rfl) (by kernel_rfl) (fun _ _ _ h => h) (Or.inr ⟨by rfl, rfl⟩) (by assumption) ?_)
  (try simp only [Act.put, List.setIfInBounds_toArray, List.set_cons_zero, List.set_cons_succ])
  refine wpAnyH_ready (rs := [11]) (by kernel_rfl) (by simp) ?_
  refine (AllReadyH.cons (o := _) (getop rfl) (fun K hK => ?_) AllReadyH.nil)
  obtain ⟨cT, fT⟩ := hF.facts
  have lT := hF.lt
  unfold flowC at cT
  go_simp
  clear cT fT lT
  replace hS := hS.far (p := ⟨g, 1, none⟩) (by dsimp only; exact blk_ne hS hF (by decide)) (.int .i64 wt)
  replace hR := hR.far (p := ⟨g, 1, none⟩) (by dsimp only; exact blk_ne hR hF (by decide)) (.int .i64 wt)
  replace hA := hA.far (p := ⟨g, 1, none⟩) (by dsimp only; exact blk_ne hA hF (by decide)) (.int .i64 wt)
  replace hX := hX.far (p := ⟨g, 1, none⟩) (by dsimp only; exact blk_ne hX hF (by decide)) (.int .i64 wt)
  replace hT := hT.far (p := ⟨g, 1, none⟩) (by dsimp only; exact blk_ne hT hF (by decide)) (.int .i64 wt)
  replace hown := own_far hown (p := ⟨g, 1, none⟩) (blk_ne_own hown hF (by decide)) (.int .i64 wt)
  replace hr1 := own_far hr1 (p := ⟨g, 1, none⟩) (blk_ne_own hr1 hF (by decide)) (.int .i64 wt)
  replace hF := hF.set_ 1 (.int .i64 wt)
  replace hKp := hKp.set (p := ⟨g, 1, none⟩) (Or.inr rfl) (.int .i64 wt)
  replace hS := hS.far (p := ⟨g, 2, none⟩) (by dsimp only; exact blk_ne hS hF (by decide)) (.int .i64 (st + ch))
  replace hR := hR.far (p := ⟨g, 2, none⟩) (by dsimp only; exact blk_ne hR hF (by decide)) (.int .i64 (st + ch))
  replace hA := hA.far (p := ⟨g, 2, none⟩) (by dsimp only; exact blk_ne hA hF (by decide)) (.int .i64 (st + ch))
  replace hX := hX.far (p := ⟨g, 2, none⟩) (by dsimp only; exact blk_ne hX hF (by decide)) (.int .i64 (st + ch))
  replace hT := hT.far (p := ⟨g, 2, none⟩) (by dsimp only; exact blk_ne hT hF (by decide)) (.int .i64 (st + ch))
  replace hown := own_far hown (p := ⟨g, 2, none⟩) (blk_ne_own hown hF (by decide)) (.int .i64 (st + ch))
  replace hr1 := own_far hr1 (p := ⟨g, 2, none⟩) (blk_ne_own hr1 hF (by decide)) (.int .i64 (st + ch))
  replace hF := hF.set_ 2 (.int .i64 (st + ch))
  replace hKp := hKp.set (p := ⟨g, 2, none⟩) (Or.inr rfl) (.int .i64 (st + ch))
  replace hS := hS.far (p := ⟨g, 3, none⟩) (by dsimp only; exact blk_ne hS hF (by decide)) (.int .i64 (st + ch))
  replace hR := hR.far (p := ⟨g, 3, none⟩) (by dsimp only; exact blk_ne hR hF (by decide)) (.int .i64 (st + ch))
  replace hA := hA.far (p := ⟨g, 3, none⟩) (by dsimp only; exact blk_ne hA hF (by decide)) (.int .i64 (st + ch))
  replace hX := hX.far (p := ⟨g, 3, none⟩) (by dsimp only; exact blk_ne hX hF (by decide)) (.int .i64 (st + ch))
  replace hT := hT.far (p := ⟨g, 3, none⟩) (by dsimp only; exact blk_ne hT hF (by decide)) (.int .i64 (st + ch))
  replace hown := own_far hown (p := ⟨g, 3, none⟩) (blk_ne_own hown hF (by decide)) (.int .i64 (st + ch))
  replace hr1 := own_far hr1 (p := ⟨g, 3, none⟩) (blk_ne_own hr1 hF (by decide)) (.int .i64 (st + ch))
  replace hF := hF.set_ 3 (.int .i64 (st + ch))
  replace hKp := hKp.set (p := ⟨g, 3, none⟩) (Or.inr rfl) (.int .i64 (st + ch))
  replace hS := hS.far (p := ⟨g, 4, none⟩) (by dsimp only; exact blk_ne hS hF (by decide)) (.int .i64 (wk + un))
  replace hR := hR.far (p := ⟨g, 4, none⟩) (by dsimp only; exact blk_ne hR hF (by decide)) (.int .i64 (wk + un))
  replace hA := hA.far (p := ⟨g, 4, none⟩) (by dsimp only; exact blk_ne hA hF (by decide)) (.int .i64 (wk + un))
  replace hX := hX.far (p := ⟨g, 4, none⟩) (by dsimp only; exact blk_ne hX hF (by decide)) (.int .i64 (wk + un))
  replace hT := hT.far (p := ⟨g, 4, none⟩) (by dsimp only; exact blk_ne hT hF (by decide)) (.int .i64 (wk + un))
  replace hown := own_far hown (p := ⟨g, 4, none⟩) (blk_ne_own hown hF (by decide)) (.int .i64 (wk + un))
  replace hr1 := own_far hr1 (p := ⟨g, 4, none⟩) (blk_ne_own hr1 hF (by decide)) (.int .i64 (wk + un))
  replace hF := hF.set_ 4 (.int .i64 (wk + un))
  replace hKp := hKp.set (p := ⟨g, 4, none⟩) (Or.inr rfl) (.int .i64 (wk + un))
  replace hF : Blk ((((wz0.setCell ⟨g, 1, none⟩ (.int .i64 wt)).setCell ⟨g, 2, none⟩ (.int .i64 (st + ch))).setCell ⟨g, 3, none⟩ (.int .i64 (st + ch))).setCell ⟨g, 4, none⟩ (.int .i64 (wk + un))) g 62 (flowC c ⟨wt, st + ch, st + ch, wk + un⟩ limit (.slice A3 l2.length cap3)) := by simpa [schedC, flowC] using hF
  generalize ((((wz0.setCell ⟨g, 1, none⟩ (.int .i64 wt)).setCell ⟨g, 2, none⟩ (.int .i64 (st + ch))).setCell ⟨g, 3, none⟩ (.int .i64 (st + ch))).setCell ⟨g, 4, none⟩ (.int .i64 (wk + un))) = wz1 at hS hF hR hA hX hT hown hr1 hKp ⊢
  refine hK.out _ _ ?_ (fun hHeld11 => ?_)
  focus ((try dsimp only); (have a := hA.facts.1; have b := hT.facts.1; exact ⟨a 0, a 1, hA.lt, b 0, b 1, b 2, b 3, hT.lt, hF.lt, hS.lt⟩))
  clear hK K hHeld
  have hHeld := hHeld11
  clear hHeld11
  (try simp only [Act.put, List.setIfInBounds_toArray, List.set_cons_zero, List.set_cons_succ])
  first
  | (refine wpAnyH_take (i := 12) (oi := _) (v := ?_) (getop rfl) (by kernel_rfl) (by kernel_rfl) (by kernel_rfl) (fun _ _ _ h => h) (Or.inl ⟨by rfl, ?_⟩) (by assumption) ?_; rotate_left; focus (intro w hSw; (try dsimp only at hSw); go_simp; (try with_reducible rfl); done))
  | (refine wpAnyH_take (i := 12) (oi := _) (v := undef) (getop rfl) (by kernel_rfl) (by kernel_rfl) (by kernel_rfl) (fun _ _ _ h => h) (Or.inr ⟨by rfl, rfl⟩) (by assumption) ?_)
  (try simp only [Act.put, List.setIfInBounds_toArray, List.set_cons_zero, List.set_cons_succ])
  first
  | (refine wpAnyH_take (i := 13) (oi := _) (v := ?_) (getop rfl) (by kernel_rfl) (by kernel_rfl) (by kernel_rfl) (fun _ _ _ h => h) (Or.inl ⟨by rfl, ?_⟩) (by assumption) ?_; rotate_left; focus (intro w hSw; (try dsimp only at hSw); go_simp; (try with_reducible rfl); done))
  | (refine wpAnyH_take (i := 13) (oi := _) (v := undef) (getop rfl) (by kernel_rfl) (by kernel_rfl) (by kernel_rfl) (fun _ _ _ h => h) (Or.inr ⟨by rfl, rfl⟩) (by assumption) ?_)
  (try simp only [Act.put, List.setIfInBounds_toArray, List.set_cons_zero, List.set_cons_succ])
  refine wpAnyH_ready (rs := [14]) (by kernel_rfl) (by simp) ?_
  refine (AllReadyH.cons (o := _) (getop rfl) (fun K hK => ?_) AllReadyH.nil)
  obtain ⟨cT, fT⟩ := hS.facts
  have lT := hS.lt
  unfold schedC at cT
  go_simp
  clear cT fT lT
  replace hF := hF.far (p := ⟨s, 5, none⟩) (by dsimp only; exact blk_ne hF hS (by decide)) (.int .i64 st)
  replace hR := hR.far (p := ⟨s, 5, none⟩) (by dsimp only; exact blk_ne hR hS (by decide)) (.int .i64 st)
  replace hA := hA.far (p := ⟨s, 5, none⟩) (by dsimp only; exact blk_ne hA hS (by decide)) (.int .i64 st)
  replace hX := hX.far (p := ⟨s, 5, none⟩) (by dsimp only; exact blk_ne hX hS (by decide)) (.int .i64 st)
  replace hT := hT.far (p := ⟨s, 5, none⟩) (by dsimp only; exact blk_ne hT hS (by decide)) (.int .i64 st)
  replace hown := own_far hown (p := ⟨s, 5, none⟩) (blk_ne_own hown hS (by decide)) (.int .i64 st)
  replace hr1 := own_far hr1 (p := ⟨s, 5, none⟩) (blk_ne_own hr1 hS (by decide)) (.int .i64 st)
  replace hS := hS.set_ 5 (.int .i64 st)
  replace hKp := hKp.set (p := ⟨s, 5, none⟩) (Or.inl rfl) (.int .i64 st)
  replace hS : Blk (wz1.setCell ⟨s, 5, none⟩ (.int .i64 st)) s 50 (schedC ⟨quantum, limit, st, work, fl, ((p1, (c : Int)) :: t)⟩ uo mo (.slice Ar (t.length + 1) capr)) := by simpa [schedC, flowC] using hS
  generalize (wz1.setCell ⟨s, 5, none⟩ (.int .i64 st)) = wz2 at hS hF hR hA hX hT hown hr1 hKp ⊢
  refine hK.out _ _ ?_ (fun hHeld14 => ?_)
  focus ((try dsimp only); (have a := hA.facts.1; have b := hT.facts.1; exact ⟨a 0, a 1, hA.lt, b 0, b 1, b 2, b 3, hT.lt, hF.lt, hS.lt⟩))
  clear hK K hHeld
  have hHeld := hHeld14
  clear hHeld14
  (try simp only [Act.put, List.setIfInBounds_toArray, List.set_cons_zero, List.set_cons_succ])
  refine wpAnyH_done (by kernel_rfl) ?_ _
  obtain ⟨cS, fS⟩ := hS.facts
  unfold schedC at cS
  have lS := hS.lt
  clear hHeld
  go_upto_region 14 with fail
  clear cS fS lS
  replace hF := hF.far (p := ⟨s, 6, none⟩) (by dsimp only; exact blk_ne hF hS (by decide)) (.int .i64 (work + un))
  replace hR := hR.far (p := ⟨s, 6, none⟩) (by dsimp only; exact blk_ne hR hS (by decide)) (.int .i64 (work + un))
  replace hA := hA.far (p := ⟨s, 6, none⟩) (by dsimp only; exact blk_ne hA hS (by decide)) (.int .i64 (work + un))
  replace hX := hX.far (p := ⟨s, 6, none⟩) (by dsimp only; exact blk_ne hX hS (by decide)) (.int .i64 (work + un))
  replace hT := hT.far (p := ⟨s, 6, none⟩) (by dsimp only; exact blk_ne hT hS (by decide)) (.int .i64 (work + un))
  replace hown := own_far hown (p := ⟨s, 6, none⟩) (blk_ne_own hown hS (by decide)) (.int .i64 (work + un))
  replace hr1 := own_far hr1 (p := ⟨s, 6, none⟩) (blk_ne_own hr1 hS (by decide)) (.int .i64 (work + un))
  replace hKp := hKp.set (p := ⟨s, 6, none⟩) (Or.inl rfl) (.int .i64 (work + un))
  replace hS := hS.set_ 6 (.int .i64 (work + un))
  replace hF := hF.far (p := ⟨s, 4, none⟩) (by dsimp only; exact blk_ne hF hS (by decide)) (.slice A2 r1.length cap2)
  replace hR := hR.far (p := ⟨s, 4, none⟩) (by dsimp only; exact blk_ne hR hS (by decide)) (.slice A2 r1.length cap2)
  replace hA := hA.far (p := ⟨s, 4, none⟩) (by dsimp only; exact blk_ne hA hS (by decide)) (.slice A2 r1.length cap2)
  replace hX := hX.far (p := ⟨s, 4, none⟩) (by dsimp only; exact blk_ne hX hS (by decide)) (.slice A2 r1.length cap2)
  replace hT := hT.far (p := ⟨s, 4, none⟩) (by dsimp only; exact blk_ne hT hS (by decide)) (.slice A2 r1.length cap2)
  replace hown := own_far hown (p := ⟨s, 4, none⟩) (blk_ne_own hown hS (by decide)) (.slice A2 r1.length cap2)
  replace hr1 := own_far hr1 (p := ⟨s, 4, none⟩) (blk_ne_own hr1 hS (by decide)) (.slice A2 r1.length cap2)
  replace hKp := hKp.set (p := ⟨s, 4, none⟩) (Or.inl rfl) (.slice A2 r1.length cap2)
  replace hS := hS.set_ 4 (.slice A2 r1.length cap2)
  replace hS : Blk ((wz2.setCell ⟨s, 6, none⟩ (.int .i64 (work + un))).setCell ⟨s, 4, none⟩ (.slice A2 r1.length cap2)) s 50 (schedC ⟨quantum, limit, st, (work + un), fl, r1⟩ uo mo (.slice A2 r1.length cap2)) := by simpa [schedC] using hS
  generalize ((wz2.setCell ⟨s, 6, none⟩ (.int .i64 (work + un))).setCell ⟨s, 4, none⟩ (.slice A2 r1.length cap2)) = w7 at hS hF hR hA hX hT hown hr1 hKp ⊢
  obtain ⟨cF, fF⟩ := hF.facts
  unfold flowC at cF
  have lF := hF.lt
  have HBZ := Lib.hid (busy_any g A3 l2.length cap3 w7 (cF 6) lF)
  go_wp2_with fail
  refine HBZ.out.mono ?_
  rintro e w7' ⟨rfl, rfl⟩
  clear cF fF lF
  by_cases hz : l2.length = 0
  · have hz' : ¬ 0 < l2.length := by omega
    rw [decide_eq_false hz']
    have HZ : Hid (l2 = []) := Lib.hid (List.eq_nil_of_length_eq_zero hz)
    clear hz hz'
    go_upto_region 16 with fail
    have hSt2 := HSt.out.next hc (by rw [HGE.out]; exact hKp) st (work + un) ⟨⟨wt, st + ch, st + ch, wk + un⟩, l2⟩ r1 (.slice A2 r1.length cap2) hS (hr1.mono (Nat.zero_le _)) (by rw [HGE.out]; exact ⟨.slice A3 l2.length cap3, hF, hown⟩)
    have hB2 := HB.out.trans (hKp.below HSt.out.bs (by have := HSt.out.bg g (by rw [← HGE.out]; exact List.getElem_mem _); exact this) (Nat.le_trans hBw HB.out.size))
    have HNX : Hid (ServeNext ⟨quantum, limit, time, work, fl, ((p1, (c : Int)) :: t)⟩ c t ⟨quantum, limit, st, work + un, fl.set c ⟨⟨wt, st + ch, st + ch, wk + un⟩, l2⟩, r1⟩ x un) := Lib.hid ⟨⟨⟨wt, st, fi, wk⟩, l⟩, k, HFC.out, HK.out, HKL.out.1, HKL.out.2.1, HKL.out.2.2, .inr ⟨by rw [HSL.out]; exact HZ.out, r1, HP1.out.1, HP1.out.2, by rw [HSL.out, HCH.out]⟩⟩
    clear hKp hS hA hT hown hr1
    refine wp_region_held_drew (S := (fun W => W.cell? ⟨g, 0, none⟩ = some (.int .i64 c) ∧ g < W.heap.size ∧ W.cell? ⟨gX, 0, none⟩ = some (.int .i64 x.id) ∧ W.cell? ⟨gX, 2, none⟩ = some (.int .i64 (x.left - un)) ∧ gX < W.heap.size ∧ gR < W.heap.size)) (by kernel_rfl) ?_ (fun hHeld => ?_)
    focus ((try dsimp only); (have a := hX.facts.1; have b := hF.facts.1 0; exact ⟨b, hF.lt, a 0, a 2, hX.lt, hR.lt⟩))
    replace hF : Blk w7.drew _ _ _ := hF
    replace hX : Blk w7.drew _ _ _ := hX
    replace hR : Blk w7.drew _ _ _ := hR
    replace hSt2 := hSt2.drew
    replace hB2 := hB2.drew
    generalize w7.drew = wd at hF hX hR hSt2 hB2 hHeld ⊢
    first
    | (refine wpAnyH_take (i := 0) (oi := _) (v := ?_) (getop rfl) (by kernel_rfl) (by kernel_rfl) (by kernel_rfl) (fun _ _ _ h => h) (Or.inl ⟨by rfl, ?_⟩) (by assumption) ?_; rotate_left; focus (intro w hSw; (try dsimp only at hSw); go_simp; (try with_reducible rfl); done))
    | (refine wpAnyH_take (i := 0) (oi := _) (v := undef) (getop rfl) (by kernel_rfl) (by kernel_rfl) (by kernel_rfl) (fun _ _ _ h => h) (Or.inr ⟨by rfl, rfl⟩) (by assumption) ?_)
    (try simp only [Act.put, List.setIfInBounds_toArray, List.set_cons_zero, List.set_cons_succ])
    first
    | (refine wpAnyH_take (i := 4) (oi := _) (v := ?_) (getop rfl) (by kernel_rfl) (by kernel_rfl) (by kernel_rfl) (fun _ _ _ h => h) (Or.inl ⟨by rfl, ?_⟩) (by assumption) ?_; rotate_left; focus (intro w hSw; (try dsimp only at hSw); go_simp; (try with_reducible rfl); done))
    | (refine wpAnyH_take (i := 4) (oi := _) (v := undef) (getop rfl) (by kernel_rfl) (by kernel_rfl) (by kernel_rfl) (fun _ _ _ h => h) (Or.inr ⟨by rfl, rfl⟩) (by assumption) ?_)
    (try simp only [Act.put, List.setIfInBounds_toArray, List.set_cons_zero, List.set_cons_succ])
    first
    | (refine wpAnyH_take (i := 6) (oi := _) (v := ?_) (getop rfl) (by kernel_rfl) (by kernel_rfl) (by kernel_rfl) (fun _ _ _ h => h) (Or.inl ⟨by rfl, ?_⟩) (by assumption) ?_; rotate_left; focus (intro w hSw; (try dsimp only at hSw); go_simp; (try with_reducible rfl); done))
    | (refine wpAnyH_take (i := 6) (oi := _) (v := undef) (getop rfl) (by kernel_rfl) (by kernel_rfl) (by kernel_rfl) (fun _ _ _ h => h) (Or.inr ⟨by rfl, rfl⟩) (by assumption) ?_)
    (try simp only [Act.put, List.setIfInBounds_toArray, List.set_cons_zero, List.set_cons_succ])
    first
    | (refine wpAnyH_take (i := 7) (oi := _) (v := ?_) (getop rfl) (by kernel_rfl) (by kernel_rfl) (by kernel_rfl) (fun _ _ _ h => h) (Or.inl ⟨by rfl, ?_⟩) (by assumption) ?_; rotate_left; focus (intro w hSw; (try dsimp only at hSw); go_simp; (try with_reducible rfl); done))
    | (refine wpAnyH_take (i := 7) (oi := _) (v := undef) (getop rfl) (by kernel_rfl) (by kernel_rfl) (by kernel_rfl) (fun _ _ _ h => h) (Or.inr ⟨by rfl, rfl⟩) (by assumption) ?_)
    (try simp only [Act.put, List.setIfInBounds_toArray, List.set_cons_zero, List.set_cons_succ])
    first
    | (refine wpAnyH_take (i := 1) (oi := _) (v := ?_) (getop rfl) (by kernel_rfl) (by kernel_rfl) (by kernel_rfl) (fun _ _ _ h => h) (Or.inl ⟨by rfl, ?_⟩) (by assumption) ?_; rotate_left; focus (intro w hSw; (try dsimp only at hSw); go_simp; (try with_reducible rfl); done))
    | (refine wpAnyH_take (i := 1) (oi := _) (v := undef) (getop rfl) (by kernel_rfl) (by kernel_rfl) (by kernel_rfl) (fun _ _ _ h => h) (Or.inr ⟨by rfl, rfl⟩) (by assumption) ?_)
    (try simp only [Act.put, List.setIfInBounds_toArray, List.set_cons_zero, List.set_cons_succ])
    first
    | (refine wpAnyH_take (i := 5) (oi := _) (v := ?_) (getop rfl) (by kernel_rfl) (by kernel_rfl) (by kernel_rfl) (fun _ _ _ h => h) (Or.inl ⟨by rfl, ?_⟩) (by assumption) ?_; rotate_left; focus (intro w hSw; (try dsimp only at hSw); go_simp; (try with_reducible rfl); done))
    | (refine wpAnyH_take (i := 5) (oi := _) (v := undef) (getop rfl) (by kernel_rfl) (by kernel_rfl) (by kernel_rfl) (fun _ _ _ h => h) (Or.inr ⟨by rfl, rfl⟩) (by assumption) ?_)
    (try simp only [Act.put, List.setIfInBounds_toArray, List.set_cons_zero, List.set_cons_succ])
    first
    | (refine wpAnyH_take (i := 8) (oi := _) (v := ?_) (getop rfl) (by kernel_rfl) (by kernel_rfl) (by kernel_rfl) (fun _ _ _ h => h) (Or.inl ⟨by rfl, ?_⟩) (by assumption) ?_; rotate_left; focus (intro w hSw; (try dsimp only at hSw); go_simp; (try with_reducible rfl); done))
    | (refine wpAnyH_take (i := 8) (oi := _) (v := undef) (getop rfl) (by kernel_rfl) (by kernel_rfl) (by kernel_rfl) (fun _ _ _ h => h) (Or.inr ⟨by rfl, rfl⟩) (by assumption) ?_)
    (try simp only [Act.put, List.setIfInBounds_toArray, List.set_cons_zero, List.set_cons_succ])
    first
    | (refine wpAnyH_take (i := 2) (oi := _) (v := ?_) (getop rfl) (by kernel_rfl) (by kernel_rfl) (by kernel_rfl) (fun _ _ _ h => h) (Or.inl ⟨by rfl, ?_⟩) (by assumption) ?_; rotate_left; focus (intro w hSw; (try dsimp only at hSw); go_simp; (try with_reducible rfl); done))
    | (refine wpAnyH_take (i := 2) (oi := _) (v := undef) (getop rfl) (by kernel_rfl) (by kernel_rfl) (by kernel_rfl) (fun _ _ _ h => h) (Or.inr ⟨by rfl, rfl⟩) (by assumption) ?_)
    (try simp only [Act.put, List.setIfInBounds_toArray, List.set_cons_zero, List.set_cons_succ])
    first
    | (refine wpAnyH_take (i := 3) (oi := _) (v := ?_) (getop rfl) (by kernel_rfl) (by kernel_rfl) (by kernel_rfl) (fun _ _ _ h => h) (Or.inl ⟨by rfl, ?_⟩) (by assumption) ?_; rotate_left; focus (intro w hSw; (try dsimp only at hSw); go_simp; (try with_reducible rfl); done))
    | (refine wpAnyH_take (i := 3) (oi := _) (v := undef) (getop rfl) (by kernel_rfl) (by kernel_rfl) (by kernel_rfl) (fun _ _ _ h => h) (Or.inr ⟨by rfl, rfl⟩) (by assumption) ?_)
    (try simp only [Act.put, List.setIfInBounds_toArray, List.set_cons_zero, List.set_cons_succ])
    first
    | (refine wpAnyH_take (i := 9) (oi := _) (v := ?_) (getop rfl) (by kernel_rfl) (by kernel_rfl) (by kernel_rfl) (fun _ _ _ h => h) (Or.inl ⟨by rfl, ?_⟩) (by assumption) ?_; rotate_left; focus (intro w hSw; (try dsimp only at hSw); go_simp; (try with_reducible rfl); done))
    | (refine wpAnyH_take (i := 9) (oi := _) (v := undef) (getop rfl) (by kernel_rfl) (by kernel_rfl) (by kernel_rfl) (fun _ _ _ h => h) (Or.inr ⟨by rfl, rfl⟩) (by assumption) ?_)
    (try simp only [Act.put, List.setIfInBounds_toArray, List.set_cons_zero, List.set_cons_succ])
    refine wpAnyH_ready (rs := [10]) (by kernel_rfl) (by simp) ?_
    refine (AllReadyH.cons (o := _) (getop rfl) (fun K hK => ?_) AllReadyH.nil)
    obtain ⟨cT, fT⟩ := hR.facts
    have lT := hR.lt
    go_simp
    clear cT fT lT
    replace hF := hF.far (p := ⟨gR, 0, none⟩) (by dsimp only; exact blk_ne hF hR (by decide)) (.int .i64 c)
    replace hX := hX.far (p := ⟨gR, 0, none⟩) (by dsimp only; exact blk_ne hX hR (by decide)) (.int .i64 c)
    replace hSt2 := hSt2.far hR (by decide) (by decide) (by decide) (by decide) (by decide) 0 (.int .i64 c)
    replace hB2 := hB2.setCell (p := ⟨gR, 0, none⟩) hBR (.int .i64 c)
    replace hR := hR.set_ 0 (.int .i64 c)
    replace hF := hF.far (p := ⟨gR, 1, none⟩) (by dsimp only; exact blk_ne hF hR (by decide)) (.int .i64 x.id)
    replace hX := hX.far (p := ⟨gR, 1, none⟩) (by dsimp only; exact blk_ne hX hR (by decide)) (.int .i64 x.id)
    replace hSt2 := hSt2.far hR (by decide) (by decide) (by decide) (by decide) (by decide) 1 (.int .i64 x.id)
    replace hB2 := hB2.setCell (p := ⟨gR, 1, none⟩) hBR (.int .i64 x.id)
    replace hR := hR.set_ 1 (.int .i64 x.id)
    replace hF := hF.far (p := ⟨gR, 2, none⟩) (by dsimp only; exact blk_ne hF hR (by decide)) (.int .i64 un)
    replace hX := hX.far (p := ⟨gR, 2, none⟩) (by dsimp only; exact blk_ne hX hR (by decide)) (.int .i64 un)
    replace hSt2 := hSt2.far hR (by decide) (by decide) (by decide) (by decide) (by decide) 2 (.int .i64 un)
    replace hB2 := hB2.setCell (p := ⟨gR, 2, none⟩) hBR (.int .i64 un)
    replace hR := hR.set_ 2 (.int .i64 un)
    replace hF := hF.far (p := ⟨gR, 3, none⟩) (by dsimp only; exact blk_ne hF hR (by decide)) (.int .i64 (x.left - un))
    replace hX := hX.far (p := ⟨gR, 3, none⟩) (by dsimp only; exact blk_ne hX hR (by decide)) (.int .i64 (x.left - un))
    replace hSt2 := hSt2.far hR (by decide) (by decide) (by decide) (by decide) (by decide) 3 (.int .i64 (x.left - un))
    replace hB2 := hB2.setCell (p := ⟨gR, 3, none⟩) hBR (.int .i64 (x.left - un))
    replace hR := hR.set_ 3 (.int .i64 (x.left - un))
    replace hR : Blk ((((wd.setCell ⟨gR, 0, none⟩ (.int .i64 c)).setCell ⟨gR, 1, none⟩ (.int .i64 x.id)).setCell ⟨gR, 2, none⟩ (.int .i64 un)).setCell ⟨gR, 3, none⟩ (.int .i64 (x.left - un))) gR 32 (#[.int .i64 c, .int .i64 x.id, .int .i64 un, .int .i64 (x.left - un)]) := by simpa [schedC, flowC] using hR
    generalize ((((wd.setCell ⟨gR, 0, none⟩ (.int .i64 c)).setCell ⟨gR, 1, none⟩ (.int .i64 x.id)).setCell ⟨gR, 2, none⟩ (.int .i64 un)).setCell ⟨gR, 3, none⟩ (.int .i64 (x.left - un))) = wz0 at hF hX hR  hSt2 hB2 ⊢
    refine hK.out _ _ ?_ (fun hHeld10 => ?_)
    focus ((try dsimp only); (have a := hX.facts.1; have b := hF.facts.1 0; exact ⟨b, hF.lt, a 0, a 2, hX.lt, hR.lt⟩))
    clear hK K hHeld
    have hHeld := hHeld10
    clear hHeld10
    (try simp only [Act.put, List.setIfInBounds_toArray, List.set_cons_zero, List.set_cons_succ])
    first
    | (refine wpAnyH_take (i := 11) (oi := _) (v := ?_) (getop rfl) (by kernel_rfl) (by kernel_rfl) (by kernel_rfl) (fun _ _ _ h => h) (Or.inl ⟨by rfl, ?_⟩) (by assumption) ?_; rotate_left; focus (intro w hSw; (try dsimp only at hSw); go_simp; (try with_reducible rfl); done))
    | (refine wpAnyH_take (i := 11) (oi := _) (v := undef) (getop rfl) (by kernel_rfl) (by kernel_rfl) (by kernel_rfl) (fun _ _ _ h => h) (Or.inr ⟨by rfl, rfl⟩) (by assumption) ?_)
    (try simp only [Act.put, List.setIfInBounds_toArray, List.set_cons_zero, List.set_cons_succ])
    refine wpAnyH_done (by kernel_rfl) ?_ _
    obtain ⟨cR, fR⟩ := hR.facts
    go_wp2_with fail
    exact bodyPost_ret (v := .tuple #[.agg #[.int .i64 c, .int .i64 x.id, .int .i64 un, .int .i64 (x.left - un)], .bool true]) (by simp [results, Try.results8, go_sem, cR] <;> rfl) rfl ⟨x, un, rfl, .slice A2 r1.length cap2, _, HNX.out, hSt2, hB2⟩
  · have hz' : 0 < l2.length := by omega
    rw [decide_eq_true hz']
    have hne : l2 ≠ [] := fun e => hz (by rw [e]; rfl)
    clear hz hz'
    go_upto_region 15 with fail
    refine wp_region_held_drew (S := (fun W => W.cell? ⟨gT, 1, none⟩ = some (.int .i64 (st + ch)) ∧ gT < W.heap.size ∧ W.cell? ⟨g, 0, none⟩ = some (.int .i64 c) ∧ g < W.heap.size ∧ s < W.heap.size)) (by kernel_rfl) ?_ (fun hHeld => ?_)
    focus ((try dsimp only); (have a := hT.facts.1 1; have b := hF.facts.1 0; exact ⟨a, hT.lt, b, hF.lt, hS.lt⟩))
    replace hS : Blk w7.drew _ _ _ := hS
    replace hF : Blk w7.drew _ _ _ := hF
    replace hR : Blk w7.drew _ _ _ := hR
    replace hA : Blk w7.drew _ _ _ := hA
    replace hX : Blk w7.drew _ _ _ := hX
    replace hT : Blk w7.drew _ _ _ := hT
    replace hown : w7.drew.ownsRow _ _ _ _ _ _ := hown
    replace hr1 : w7.drew.ownsRow _ _ _ _ _ _ := hr1
    replace hKp := hKp.drew
    generalize w7.drew = wd at hS hF hR hA hX hT hown hr1 hKp hHeld ⊢
    first
    | (refine wpAnyH_take (i := 0) (oi := _) (v := ?_) (getop rfl) (by kernel_rfl) (by kernel_rfl) (by kernel_rfl) (fun _ _ _ h => h) (Or.inl ⟨by rfl, ?_⟩) (by assumption) ?_; rotate_left; focus (intro w hSw; (try dsimp only at hSw); go_simp; (try with_reducible rfl); done))
    | (refine wpAnyH_take (i := 0) (oi := _) (v := undef) (getop rfl) (by kernel_rfl) (by kernel_rfl) (by kernel_rfl) (fun _ _ _ h => h) (Or.inr ⟨by rfl, rfl⟩) (by assumption) ?_)
    (try simp only [Act.put, List.setIfInBounds_toArray, List.set_cons_zero, List.set_cons_succ])
    first
    | (refine wpAnyH_take (i := 1) (oi := _) (v := ?_) (getop rfl) (by kernel_rfl) (by kernel_rfl) (by kernel_rfl) (fun _ _ _ h => h) (Or.inl ⟨by rfl, ?_⟩) (by assumption) ?_; rotate_left; focus (intro w hSw; (try dsimp only at hSw); go_simp; (try with_reducible rfl); done))
    | (refine wpAnyH_take (i := 1) (oi := _) (v := undef) (getop rfl) (by kernel_rfl) (by kernel_rfl) (by kernel_rfl) (fun _ _ _ h => h) (Or.inr ⟨by rfl, rfl⟩) (by assumption) ?_)
    (try simp only [Act.put, List.setIfInBounds_toArray, List.set_cons_zero, List.set_cons_succ])
    first
    | (refine wpAnyH_take (i := 2) (oi := _) (v := ?_) (getop rfl) (by kernel_rfl) (by kernel_rfl) (by kernel_rfl) (fun _ _ _ h => h) (Or.inl ⟨by rfl, ?_⟩) (by assumption) ?_; rotate_left; focus (intro w hSw; (try dsimp only at hSw); go_simp; (try with_reducible rfl); done))
    | (refine wpAnyH_take (i := 2) (oi := _) (v := undef) (getop rfl) (by kernel_rfl) (by kernel_rfl) (by kernel_rfl) (fun _ _ _ h => h) (Or.inr ⟨by rfl, rfl⟩) (by assumption) ?_)
    (try simp only [Act.put, List.setIfInBounds_toArray, List.set_cons_zero, List.set_cons_succ])
    first
    | (refine wpAnyH_take (i := 4) (oi := _) (v := ?_) (getop rfl) (by kernel_rfl) (by kernel_rfl) (by kernel_rfl) (fun _ _ _ h => h) (Or.inl ⟨by rfl, ?_⟩) (by assumption) ?_; rotate_left; focus (intro w hSw; (try dsimp only at hSw); go_simp; (try with_reducible rfl); done))
    | (refine wpAnyH_take (i := 4) (oi := _) (v := undef) (getop rfl) (by kernel_rfl) (by kernel_rfl) (by kernel_rfl) (fun _ _ _ h => h) (Or.inr ⟨by rfl, rfl⟩) (by assumption) ?_)
    (try simp only [Act.put, List.setIfInBounds_toArray, List.set_cons_zero, List.set_cons_succ])
    first
    | (refine wpAnyH_take (i := 3) (oi := _) (v := ?_) (getop rfl) (by kernel_rfl) (by kernel_rfl) (by kernel_rfl) (fun _ _ _ h => h) (Or.inl ⟨by rfl, ?_⟩) (by assumption) ?_; rotate_left; focus (intro w hSw; (try dsimp only at hSw); go_simp; (try with_reducible rfl); done))
    | (refine wpAnyH_take (i := 3) (oi := _) (v := undef) (getop rfl) (by kernel_rfl) (by kernel_rfl) (by kernel_rfl) (fun _ _ _ h => h) (Or.inr ⟨by rfl, rfl⟩) (by assumption) ?_)
    (try simp only [Act.put, List.setIfInBounds_toArray, List.set_cons_zero, List.set_cons_succ])
    first
    | (refine wpAnyH_take (i := 5) (oi := _) (v := ?_) (getop rfl) (by kernel_rfl) (by kernel_rfl) (by kernel_rfl) (fun _ _ _ h => h) (Or.inl ⟨by rfl, ?_⟩) (by assumption) ?_; rotate_left; focus (intro w hSw; (try dsimp only at hSw); go_simp; (try with_reducible rfl); done))
    | (refine wpAnyH_take (i := 5) (oi := _) (v := undef) (getop rfl) (by kernel_rfl) (by kernel_rfl) (by kernel_rfl) (fun _ _ _ h => h) (Or.inr ⟨by rfl, rfl⟩) (by assumption) ?_)
    (try simp only [Act.put, List.setIfInBounds_toArray, List.set_cons_zero, List.set_cons_succ])
    first
    | (refine wpAnyH_take (i := 6) (oi := _) (v := ?_) (getop rfl) (by kernel_rfl) (by kernel_rfl) (by kernel_rfl) (fun _ _ _ h => h) (Or.inl ⟨by rfl, ?_⟩) (by assumption) ?_; rotate_left; focus (intro w hSw; (try dsimp only at hSw); go_simp; (try with_reducible rfl); done))
    | (refine wpAnyH_take (i := 6) (oi := _) (v := undef) (getop rfl) (by kernel_rfl) (by kernel_rfl) (by kernel_rfl) (fun _ _ _ h => h) (Or.inr ⟨by rfl, rfl⟩) (by assumption) ?_)
    (try simp only [Act.put, List.setIfInBounds_toArray, List.set_cons_zero, List.set_cons_succ])
    first
    | (refine wpAnyH_take (i := 7) (oi := _) (v := ?_) (getop rfl) (by kernel_rfl) (by kernel_rfl) (by kernel_rfl) (fun _ _ _ h => h) (Or.inl ⟨by rfl, ?_⟩) (by assumption) ?_; rotate_left; focus (intro w hSw; (try dsimp only at hSw); go_simp; (try with_reducible rfl); done))
    | (refine wpAnyH_take (i := 7) (oi := _) (v := undef) (getop rfl) (by kernel_rfl) (by kernel_rfl) (by kernel_rfl) (fun _ _ _ h => h) (Or.inr ⟨by rfl, rfl⟩) (by assumption) ?_)
    (try simp only [Act.put, List.setIfInBounds_toArray, List.set_cons_zero, List.set_cons_succ])
    first
    | (refine wpAnyH_take (i := 8) (oi := _) (v := ?_) (getop rfl) (by kernel_rfl) (by kernel_rfl) (by kernel_rfl) (fun _ _ _ h => h) (Or.inl ⟨by rfl, ?_⟩) (by assumption) ?_; rotate_left; focus (intro w hSw; (try dsimp only at hSw); go_simp; (try with_reducible rfl); done))
    | (refine wpAnyH_take (i := 8) (oi := _) (v := undef) (getop rfl) (by kernel_rfl) (by kernel_rfl) (by kernel_rfl) (fun _ _ _ h => h) (Or.inr ⟨by rfl, rfl⟩) (by assumption) ?_)
    (try simp only [Act.put, List.setIfInBounds_toArray, List.set_cons_zero, List.set_cons_succ])
    refine wpAnyH_ready (rs := [9]) (by kernel_rfl) (by simp) ?_
    refine (AllReadyH.cons (o := _) (getop rfl) (fun K hK => ?_) AllReadyH.nil)
    go_simp
    refine (HPU.out _ (own_its_at hr1)).mono ?_
    rintro e wz0 ⟨r2, base2, u4, hper2, hok2, _, _, rfl, hr2, hb⟩
    obtain ⟨A4, cap4, rfl, _, _⟩ := own_shape hr2
    replace hS := hS.lo hb
    replace hF := hF.lo hb
    replace hR := hR.lo hb
    replace hA := hA.lo hb
    replace hX := hX.lo hb
    replace hT := hT.lo hb
    replace hown := own_lo hown hb
    replace hKp := hKp.lo hb
    clear hb hr1
    have hr1 := hr2
    clear hr2
    refine hK.out _ _ ?_ (fun hHeld9 => ?_)
    focus ((try dsimp only); (have a := hT.facts.1 1; have b := hF.facts.1 0; exact ⟨a, hT.lt, b, hF.lt, hS.lt⟩))
    clear hK K hHeld
    have hHeld := hHeld9
    clear hHeld9
    (try simp only [Act.put, List.setIfInBounds_toArray, List.set_cons_zero, List.set_cons_succ])
    first
    | (refine wpAnyH_take (i := 10) (oi := _) (v := ?_) (getop rfl) (by kernel_rfl) (by kernel_rfl) (by kernel_rfl) (fun _ _ _ h => h) (Or.inl ⟨by rfl, ?_⟩) (by assumption) ?_; rotate_left; focus (intro w hSw; (try dsimp only at hSw); go_simp; (try with_reducible rfl); done))
    | (refine wpAnyH_take (i := 10) (oi := _) (v := undef) (getop rfl) (by kernel_rfl) (by kernel_rfl) (by kernel_rfl) (fun _ _ _ h => h) (Or.inr ⟨by rfl, rfl⟩) (by assumption) ?_)
    (try simp only [Act.put, List.setIfInBounds_toArray, List.set_cons_zero, List.set_cons_succ])
    first
    | (refine wpAnyH_take (i := 11) (oi := _) (v := ?_) (getop rfl) (by kernel_rfl) (by kernel_rfl) (by kernel_rfl) (fun _ _ _ h => h) (Or.inl ⟨by rfl, ?_⟩) (by assumption) ?_; rotate_left; focus (intro w hSw; (try dsimp only at hSw); go_simp; (try with_reducible rfl); done))
    | (refine wpAnyH_take (i := 11) (oi := _) (v := undef) (getop rfl) (by kernel_rfl) (by kernel_rfl) (by kernel_rfl) (fun _ _ _ h => h) (Or.inr ⟨by rfl, rfl⟩) (by assumption) ?_)
    (try simp only [Act.put, List.setIfInBounds_toArray, List.set_cons_zero, List.set_cons_succ])
    refine wpAnyH_ready (rs := [12]) (by kernel_rfl) (by simp) ?_
    refine (AllReadyH.cons (o := _) (getop rfl) (fun K hK => ?_) AllReadyH.nil)
    obtain ⟨cT, fT⟩ := hS.facts
    have lT := hS.lt
    unfold schedC at cT
    go_simp
    clear cT fT lT
    replace hF := hF.far (p := ⟨s, 4, none⟩) (by dsimp only; exact blk_ne hF hS (by decide)) (.slice A4 r2.length cap4)
    replace hR := hR.far (p := ⟨s, 4, none⟩) (by dsimp only; exact blk_ne hR hS (by decide)) (.slice A4 r2.length cap4)
    replace hA := hA.far (p := ⟨s, 4, none⟩) (by dsimp only; exact blk_ne hA hS (by decide)) (.slice A4 r2.length cap4)
    replace hX := hX.far (p := ⟨s, 4, none⟩) (by dsimp only; exact blk_ne hX hS (by decide)) (.slice A4 r2.length cap4)
    replace hT := hT.far (p := ⟨s, 4, none⟩) (by dsimp only; exact blk_ne hT hS (by decide)) (.slice A4 r2.length cap4)
    replace hown := own_far hown (p := ⟨s, 4, none⟩) (blk_ne_own hown hS (by decide)) (.slice A4 r2.length cap4)
    replace hr1 := own_far hr1 (p := ⟨s, 4, none⟩) (blk_ne_own hr1 hS (by decide)) (.slice A4 r2.length cap4)
    replace hS := hS.set_ 4 (.slice A4 r2.length cap4)
    replace hKp := hKp.set (p := ⟨s, 4, none⟩) (Or.inl rfl) (.slice A4 r2.length cap4)
    replace hS : Blk (wz0.setCell ⟨s, 4, none⟩ (.slice A4 r2.length cap4)) s 50 (schedC ⟨quantum, limit, st, (work + un), fl, r2⟩ uo mo (.slice A4 r2.length cap4)) := by simpa [schedC, flowC] using hS
    generalize (wz0.setCell ⟨s, 4, none⟩ (.slice A4 r2.length cap4)) = wz1 at hS hF hR hA hX hT hown hr1 hKp ⊢
    refine hK.out _ _ ?_ (fun hHeld12 => ?_)
    focus ((try dsimp only); (have a := hT.facts.1 1; have b := hF.facts.1 0; exact ⟨a, hT.lt, b, hF.lt, hS.lt⟩))
    clear hK K hHeld
    have hHeld := hHeld12
    clear hHeld12
    (try simp only [Act.put, List.setIfInBounds_toArray, List.set_cons_zero, List.set_cons_succ])
    refine wpAnyH_done (by kernel_rfl) ?_ _
    clear hHeld
    go_upto_region 16 with fail
    have hSt2 := HSt.out.next hc (by rw [HGE.out]; exact hKp) st (work + un) ⟨⟨wt, st + ch, st + ch, wk + un⟩, l2⟩ r2 (.slice A4 r2.length cap4) hS (hr1.mono (Nat.zero_le _)) (by rw [HGE.out]; exact ⟨.slice A3 l2.length cap3, hF, hown⟩)
    have hB2 := HB.out.trans (hKp.below HSt.out.bs (by have := HSt.out.bg g (by rw [← HGE.out]; exact List.getElem_mem _); exact this) (Nat.le_trans hBw HB.out.size))
    have HNX : Hid (ServeNext ⟨quantum, limit, time, work, fl, ((p1, (c : Int)) :: t)⟩ c t ⟨quantum, limit, st, work + un, fl.set c ⟨⟨wt, st + ch, st + ch, wk + un⟩, l2⟩, r2⟩ x un) := Lib.hid ⟨⟨⟨wt, st, fi, wk⟩, l⟩, k, HFC.out, HK.out, HKL.out.1, HKL.out.2.1, HKL.out.2.2, .inl ⟨by rw [HSL.out]; exact hne, r2, (by show r2.Perm (t ++ [(st + chargeL un wt, (c : Int))]); rw [HCH.out]; exact hper2.trans (HP1.out.1.append_right _)), hok2, by rw [HSL.out, HCH.out]⟩⟩
    clear hKp hS hA hT hown hr1
    refine wp_region_held_drew (S := (fun W => W.cell? ⟨g, 0, none⟩ = some (.int .i64 c) ∧ g < W.heap.size ∧ W.cell? ⟨gX, 0, none⟩ = some (.int .i64 x.id) ∧ W.cell? ⟨gX, 2, none⟩ = some (.int .i64 (x.left - un)) ∧ gX < W.heap.size ∧ gR < W.heap.size)) (by kernel_rfl) ?_ (fun hHeld => ?_)
    focus ((try dsimp only); (have a := hX.facts.1; have b := hF.facts.1 0; exact ⟨b, hF.lt, a 0, a 2, hX.lt, hR.lt⟩))
    replace hF : Blk wz1.drew _ _ _ := hF
    replace hX : Blk wz1.drew _ _ _ := hX
    replace hR : Blk wz1.drew _ _ _ := hR
    replace hSt2 := hSt2.drew
    replace hB2 := hB2.drew
    generalize wz1.drew = wd at hF hX hR hSt2 hB2 hHeld ⊢
    first
    | (refine wpAnyH_take (i := 0) (oi := _) (v := ?_) (getop rfl) (by kernel_rfl) (by kernel_rfl) (by kernel_rfl) (fun _ _ _ h => h) (Or.inl ⟨by rfl, ?_⟩) (by assumption) ?_; rotate_left; focus (intro w hSw; (try dsimp only at hSw); go_simp; (try with_reducible rfl); done))
    | (refine wpAnyH_take (i := 0) (oi := _) (v := undef) (getop rfl) (by kernel_rfl) (by kernel_rfl) (by kernel_rfl) (fun _ _ _ h => h) (Or.inr ⟨by rfl, rfl⟩) (by assumption) ?_)
    (try simp only [Act.put, List.setIfInBounds_toArray, List.set_cons_zero, List.set_cons_succ])
    first
    | (refine wpAnyH_take (i := 4) (oi := _) (v := ?_) (getop rfl) (by kernel_rfl) (by kernel_rfl) (by kernel_rfl) (fun _ _ _ h => h) (Or.inl ⟨by rfl, ?_⟩) (by assumption) ?_; rotate_left; focus (intro w hSw; (try dsimp only at hSw); go_simp; (try with_reducible rfl); done))
    | (refine wpAnyH_take (i := 4) (oi := _) (v := undef) (getop rfl) (by kernel_rfl) (by kernel_rfl) (by kernel_rfl) (fun _ _ _ h => h) (Or.inr ⟨by rfl, rfl⟩) (by assumption) ?_)
    (try simp only [Act.put, List.setIfInBounds_toArray, List.set_cons_zero, List.set_cons_succ])
    first
    | (refine wpAnyH_take (i := 6) (oi := _) (v := ?_) (getop rfl) (by kernel_rfl) (by kernel_rfl) (by kernel_rfl) (fun _ _ _ h => h) (Or.inl ⟨by rfl, ?_⟩) (by assumption) ?_; rotate_left; focus (intro w hSw; (try dsimp only at hSw); go_simp; (try with_reducible rfl); done))
    | (refine wpAnyH_take (i := 6) (oi := _) (v := undef) (getop rfl) (by kernel_rfl) (by kernel_rfl) (by kernel_rfl) (fun _ _ _ h => h) (Or.inr ⟨by rfl, rfl⟩) (by assumption) ?_)
    (try simp only [Act.put, List.setIfInBounds_toArray, List.set_cons_zero, List.set_cons_succ])
    first
    | (refine wpAnyH_take (i := 7) (oi := _) (v := ?_) (getop rfl) (by kernel_rfl) (by kernel_rfl) (by kernel_rfl) (fun _ _ _ h => h) (Or.inl ⟨by rfl, ?_⟩) (by assumption) ?_; rotate_left; focus (intro w hSw; (try dsimp only at hSw); go_simp; (try with_reducible rfl); done))
    | (refine wpAnyH_take (i := 7) (oi := _) (v := undef) (getop rfl) (by kernel_rfl) (by kernel_rfl) (by kernel_rfl) (fun _ _ _ h => h) (Or.inr ⟨by rfl, rfl⟩) (by assumption) ?_)
    (try simp only [Act.put, List.setIfInBounds_toArray, List.set_cons_zero, List.set_cons_succ])
    first
    | (refine wpAnyH_take (i := 1) (oi := _) (v := ?_) (getop rfl) (by kernel_rfl) (by kernel_rfl) (by kernel_rfl) (fun _ _ _ h => h) (Or.inl ⟨by rfl, ?_⟩) (by assumption) ?_; rotate_left; focus (intro w hSw; (try dsimp only at hSw); go_simp; (try with_reducible rfl); done))
    | (refine wpAnyH_take (i := 1) (oi := _) (v := undef) (getop rfl) (by kernel_rfl) (by kernel_rfl) (by kernel_rfl) (fun _ _ _ h => h) (Or.inr ⟨by rfl, rfl⟩) (by assumption) ?_)
    (try simp only [Act.put, List.setIfInBounds_toArray, List.set_cons_zero, List.set_cons_succ])
    first
    | (refine wpAnyH_take (i := 5) (oi := _) (v := ?_) (getop rfl) (by kernel_rfl) (by kernel_rfl) (by kernel_rfl) (fun _ _ _ h => h) (Or.inl ⟨by rfl, ?_⟩) (by assumption) ?_; rotate_left; focus (intro w hSw; (try dsimp only at hSw); go_simp; (try with_reducible rfl); done))
    | (refine wpAnyH_take (i := 5) (oi := _) (v := undef) (getop rfl) (by kernel_rfl) (by kernel_rfl) (by kernel_rfl) (fun _ _ _ h => h) (Or.inr ⟨by rfl, rfl⟩) (by assumption) ?_)
    (try simp only [Act.put, List.setIfInBounds_toArray, List.set_cons_zero, List.set_cons_succ])
    first
    | (refine wpAnyH_take (i := 8) (oi := _) (v := ?_) (getop rfl) (by kernel_rfl) (by kernel_rfl) (by kernel_rfl) (fun _ _ _ h => h) (Or.inl ⟨by rfl, ?_⟩) (by assumption) ?_; rotate_left; focus (intro w hSw; (try dsimp only at hSw); go_simp; (try with_reducible rfl); done))
    | (refine wpAnyH_take (i := 8) (oi := _) (v := undef) (getop rfl) (by kernel_rfl) (by kernel_rfl) (by kernel_rfl) (fun _ _ _ h => h) (Or.inr ⟨by rfl, rfl⟩) (by assumption) ?_)
    (try simp only [Act.put, List.setIfInBounds_toArray, List.set_cons_zero, List.set_cons_succ])
    first
    | (refine wpAnyH_take (i := 2) (oi := _) (v := ?_) (getop rfl) (by kernel_rfl) (by kernel_rfl) (by kernel_rfl) (fun _ _ _ h => h) (Or.inl ⟨by rfl, ?_⟩) (by assumption) ?_; rotate_left; focus (intro w hSw; (try dsimp only at hSw); go_simp; (try with_reducible rfl); done))
    | (refine wpAnyH_take (i := 2) (oi := _) (v := undef) (getop rfl) (by kernel_rfl) (by kernel_rfl) (by kernel_rfl) (fun _ _ _ h => h) (Or.inr ⟨by rfl, rfl⟩) (by assumption) ?_)
    (try simp only [Act.put, List.setIfInBounds_toArray, List.set_cons_zero, List.set_cons_succ])
    first
    | (refine wpAnyH_take (i := 3) (oi := _) (v := ?_) (getop rfl) (by kernel_rfl) (by kernel_rfl) (by kernel_rfl) (fun _ _ _ h => h) (Or.inl ⟨by rfl, ?_⟩) (by assumption) ?_; rotate_left; focus (intro w hSw; (try dsimp only at hSw); go_simp; (try with_reducible rfl); done))
    | (refine wpAnyH_take (i := 3) (oi := _) (v := undef) (getop rfl) (by kernel_rfl) (by kernel_rfl) (by kernel_rfl) (fun _ _ _ h => h) (Or.inr ⟨by rfl, rfl⟩) (by assumption) ?_)
    (try simp only [Act.put, List.setIfInBounds_toArray, List.set_cons_zero, List.set_cons_succ])
    first
    | (refine wpAnyH_take (i := 9) (oi := _) (v := ?_) (getop rfl) (by kernel_rfl) (by kernel_rfl) (by kernel_rfl) (fun _ _ _ h => h) (Or.inl ⟨by rfl, ?_⟩) (by assumption) ?_; rotate_left; focus (intro w hSw; (try dsimp only at hSw); go_simp; (try with_reducible rfl); done))
    | (refine wpAnyH_take (i := 9) (oi := _) (v := undef) (getop rfl) (by kernel_rfl) (by kernel_rfl) (by kernel_rfl) (fun _ _ _ h => h) (Or.inr ⟨by rfl, rfl⟩) (by assumption) ?_)
    (try simp only [Act.put, List.setIfInBounds_toArray, List.set_cons_zero, List.set_cons_succ])
    refine wpAnyH_ready (rs := [10]) (by kernel_rfl) (by simp) ?_
    refine (AllReadyH.cons (o := _) (getop rfl) (fun K hK => ?_) AllReadyH.nil)
    obtain ⟨cT, fT⟩ := hR.facts
    have lT := hR.lt
    go_simp
    clear cT fT lT
    replace hF := hF.far (p := ⟨gR, 0, none⟩) (by dsimp only; exact blk_ne hF hR (by decide)) (.int .i64 c)
    replace hX := hX.far (p := ⟨gR, 0, none⟩) (by dsimp only; exact blk_ne hX hR (by decide)) (.int .i64 c)
    replace hSt2 := hSt2.far hR (by decide) (by decide) (by decide) (by decide) (by decide) 0 (.int .i64 c)
    replace hB2 := hB2.setCell (p := ⟨gR, 0, none⟩) hBR (.int .i64 c)
    replace hR := hR.set_ 0 (.int .i64 c)
    replace hF := hF.far (p := ⟨gR, 1, none⟩) (by dsimp only; exact blk_ne hF hR (by decide)) (.int .i64 x.id)
    replace hX := hX.far (p := ⟨gR, 1, none⟩) (by dsimp only; exact blk_ne hX hR (by decide)) (.int .i64 x.id)
    replace hSt2 := hSt2.far hR (by decide) (by decide) (by decide) (by decide) (by decide) 1 (.int .i64 x.id)
    replace hB2 := hB2.setCell (p := ⟨gR, 1, none⟩) hBR (.int .i64 x.id)
    replace hR := hR.set_ 1 (.int .i64 x.id)
    replace hF := hF.far (p := ⟨gR, 2, none⟩) (by dsimp only; exact blk_ne hF hR (by decide)) (.int .i64 un)
    replace hX := hX.far (p := ⟨gR, 2, none⟩) (by dsimp only; exact blk_ne hX hR (by decide)) (.int .i64 un)
    replace hSt2 := hSt2.far hR (by decide) (by decide) (by decide) (by decide) (by decide) 2 (.int .i64 un)
    replace hB2 := hB2.setCell (p := ⟨gR, 2, none⟩) hBR (.int .i64 un)
    replace hR := hR.set_ 2 (.int .i64 un)
    replace hF := hF.far (p := ⟨gR, 3, none⟩) (by dsimp only; exact blk_ne hF hR (by decide)) (.int .i64 (x.left - un))
    replace hX := hX.far (p := ⟨gR, 3, none⟩) (by dsimp only; exact blk_ne hX hR (by decide)) (.int .i64 (x.left - un))
    replace hSt2 := hSt2.far hR (by decide) (by decide) (by decide) (by decide) (by decide) 3 (.int .i64 (x.left - un))
    replace hB2 := hB2.setCell (p := ⟨gR, 3, none⟩) hBR (.int .i64 (x.left - un))
    replace hR := hR.set_ 3 (.int .i64 (x.left - un))
    replace hR : Blk ((((wd.setCell ⟨gR, 0, none⟩ (.int .i64 c)).setCell ⟨gR, 1, none⟩ (.int .i64 x.id)).setCell ⟨gR, 2, none⟩ (.int .i64 un)).setCell ⟨gR, 3, none⟩ (.int .i64 (x.left - un))) gR 32 (#[.int .i64 c, .int .i64 x.id, .int .i64 un, .int .i64 (x.left - un)]) := by simpa [schedC, flowC] using hR
    generalize ((((wd.setCell ⟨gR, 0, none⟩ (.int .i64 c)).setCell ⟨gR, 1, none⟩ (.int .i64 x.id)).setCell ⟨gR, 2, none⟩ (.int .i64 un)).setCell ⟨gR, 3, none⟩ (.int .i64 (x.left - un))) = wz0 at hF hX hR  hSt2 hB2 ⊢
    refine hK.out _ _ ?_ (fun hHeld10 => ?_)
    focus ((try dsimp only); (have a := hX.facts.1; have b := hF.facts.1 0; exact ⟨b, hF.lt, a 0, a 2, hX.lt, hR.lt⟩))
    clear hK K hHeld
    have hHeld := hHeld10
    clear hHeld10
    (try simp only [Act.put, List.setIfInBounds_toArray, List.set_cons_zero, List.set_cons_succ])
    first
    | (refine wpAnyH_take (i := 11) (oi := _) (v := ?_) (getop rfl) (by kernel_rfl) (by kernel_rfl) (by kernel_rfl) (fun _ _ _ h => h) (Or.inl ⟨by rfl, ?_⟩) (by assumption) ?_; rotate_left; focus (intro w hSw; (try dsimp only at hSw); go_simp; (try with_reducible rfl); done))
    | (refine wpAnyH_take (i := 11) (oi := _) (v := undef) (getop rfl) (by kernel_rfl) (by kernel_rfl) (by kernel_rfl) (fun _ _ _ h => h) (Or.inr ⟨by rfl, rfl⟩) (by assumption) ?_)
    (try simp only [Act.put, List.setIfInBounds_toArray, List.set_cons_zero, List.set_cons_succ])
    refine wpAnyH_done (by kernel_rfl) ?_ _
    obtain ⟨cR, fR⟩ := hR.facts
    go_wp2_with fail
    exact bodyPost_ret (v := .tuple #[.agg #[.int .i64 c, .int .i64 x.id, .int .i64 un, .int .i64 (x.left - un)], .bool true]) (by simp [results, Try.results8, go_sem, cR] <;> rfl) rfl ⟨x, un, rfl, .slice A4 r2.length cap4, _, HNX.out, hSt2, hB2⟩
end Go.Proofs.Ytfpagiojdgdbeaa
