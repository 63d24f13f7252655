import Derived.Test.YtfpagiojdgdbeaaSched
namespace Go.Proofs.Ytfpagiojdgdbeaa
open Go.RowKit
attribute [local go_sem ↓] Go.wp_at_zero Go.wp_at_succ

theorem St.drew {B : Nat} {w : World} {s : Nat} {σ : Sc} {gs : List Nat} {uo : Value} {mo : Nat} {ur : Value} (h : St B w s σ gs uo mo ur) : St B w.drew s σ gs uo mo ur := h.lo (lo_drew (lo_refl w))
theorem map_ne {w : World} {mo x : Nat} {gs : List Nat} {t : TypeId} {cs : Array Value} (hm : mapAt w mo gs) (h : Blk w x t cs) : x ≠ mo := by
  rintro rfl
  obtain ⟨es, clock, hm, _⟩ := hm
  unfold Blk at h
  rw [hm] at h
  cases h
theorem blk_map {w w' : World} {mo x : Nat} {gs : List Nat} {t : TypeId} {cs : Array Value} (h : Blk w x t cs) (hm : mapAt w mo gs) (hg : w.grownBy w' (some mo)) : Blk w' x t cs :=
  h.grown hg (fun e => by injection e with e; exact map_ne hm h e)
theorem own_map {w w' : World} {mo base size n : Nat} {e : TypeId} {v : Value} {xs : List Value} {gs : List Nat} (h : w.ownsRow base e size v n xs) (hm : mapAt w mo gs) (hg : w.grownBy w' (some mo)) : w'.ownsRow base e size v n xs := by
  refine h.kept hg ?_
  rcases h.2 with ⟨rfl, _⟩ | ⟨x, cap, cur, rfl, _, hh, _⟩
  · exact .inl rfl
  · refine .inr fun e => ?_
    injection e with e
    subst e
    obtain ⟨es, clock, hm, _⟩ := hm
    rw [hm] at hh
    cases hh
theorem flow_map {w w' : World} {mo g c : Nat} {lim : Int} {f : Fl} {gs : List Nat} (h : FlowAt w g c lim f) (hm : mapAt w mo gs) (hg : w.grownBy w' (some mo)) : FlowAt w' g c lim f := by
  obtain ⟨u, h1, h2⟩ := h
  exact ⟨u, blk_map h1 hm hg, own_map h2 hm hg⟩
theorem blk_ne_own {w : World} {base size n x : Nat} {e t : TypeId} {v : Value} {xs : List Value} {cs : Array Value} (h : w.ownsRow base e size v n xs) (hb : Blk w x t cs) (hte : t ≠ e) : some x ≠ v.ownBlock := by
  rcases h.2 with ⟨rfl, _⟩ | ⟨y, cap, cur, rfl, _, hh, _⟩
  · intro h; cases h
  · intro he
    injection he with he
    simp only at he
    subst he
    unfold Blk at hb
    rw [hh] at hb
    injection hb with hb
    injection hb with _ hb
    exact hte hb.symm
theorem own_ne_own {w : World} {base size n base' size' n' : Nat} {e e' : TypeId} {v v' : Value} {xs xs' : List Value} (h : w.ownsRow base e size v n xs) (h' : w.ownsRow base' e' size' v' n' xs') (hte : e' ≠ e) : v'.ownBlock = none ∨ v'.ownBlock ≠ v.ownBlock := by
  rcases h'.2 with ⟨rfl, _⟩ | ⟨y, cap, cur, rfl, _, hh, _⟩
  · exact .inl rfl
  · exact .inr (blk_ne_own (cs := cur) h hh hte)
theorem map_kept {w w' : World} {base size n mo : Nat} {e : TypeId} {v : Value} {xs : List Value} {gs : List Nat} (hm : mapAt w mo gs) (h : w.ownsRow base e size v n xs) (hg : w.grownBy w' v.ownBlock) : mapAt w' mo gs := by
  refine hm.lo (hg.block mo hm.lt ?_)
  rcases h.2 with ⟨rfl, _⟩ | ⟨y, cap, cur, rfl, _, hh, _⟩
  · intro h; cases h
  · intro he
    injection he with he
    simp only at he
    subst he
    obtain ⟨es, clock, hm, _⟩ := hm
    rw [hm] at hh
    cases hh
theorem info3 : (Try.prog.info? 3).map (fun i => (i.zero, i.size, i.bytes)) = some (some (.int .i64 0), 1, 8) := by kernel_rfl
theorem ord_succ (n : Nat) : ordC n ++ [.int .i64 (n : Nat)] = ordC (n + 1) := by simp [ordC, List.range_succ]
theorem join_state {B : Nat} {w0 w1 : World} {s : Nat} {σ : Sc} {gs : List Nat} {uo : Value} {mo : Nat} {ur : Value} {g3 c3 gF : Nat} {wt : Int}
    (hS : Blk w1 s 50 (schedC σ uo mo ur)) (hO : w1.ownsRow B 3 1 (.slice (some ⟨g3, 0, none⟩) (gs.length + 1) c3) (gs.length + 1) (ordC gs.length ++ (#[.int .i64 (gs.length : Nat)] : Array Value).toList))
    (hgr : (w0.alloc (.cells #[.int .i64 (gs.length : Nat)] 3)).grownBy w1 uo.ownBlock) (hO0 : (w0.alloc (.cells #[.int .i64 (gs.length : Nat)] 3)).ownsRow B 3 1 uo gs.length (ordC gs.length))
    (hF : Blk w0 gF 62 #[.int .i64 (gs.length : Nat), .int .i64 wt, .int .i64 0, .int .i64 0, .int .i64 0, .int .i64 σ.limit, .slice none 0 0]) (hR : w0.ownsRow 0 64 2 ur σ.ready.length (σ.ready.flatMap cellsI)) (hm : mapAt w0 mo (gs ++ [gF])) (hfl : ∀ c (h : c < gs.length) (h2 : c < σ.fl.length), FlowAt w0 gs[c] c σ.limit σ.fl[c])
    (hbs : B ≤ s) (hbm : B ≤ mo) (hbg : ∀ g ∈ gs, B ≤ g) (hlen : σ.fl.length = gs.length) (zF : B ≤ gF) :
    St B (w1.setCell ⟨s, 2, none⟩ (.slice (some ⟨g3, 0, none⟩) (gs.length + 1) c3)) s ⟨σ.quantum, σ.limit, σ.time, σ.work, σ.fl ++ [⟨⟨wt, 0, 0, 0⟩, []⟩], σ.ready⟩ (gs ++ [gF]) (.slice (some ⟨g3, 0, none⟩) (gs.length + 1) c3) mo ur := by
  have hlt : gs.length = (gs ++ [gF]).length - 1 := by simp
  have hl1 : (gs ++ [gF]).length = gs.length + 1 := by simp
  -- a block of another type, a row of another type: as they were
  have kb : ∀ {x : Nat} {t : TypeId} {cs : Array Value}, Blk w0 x t cs → t ≠ 3 → x ≠ s → Blk (w1.setCell ⟨s, 2, none⟩ (.slice (some ⟨g3, 0, none⟩) (gs.length + 1) c3)) x t cs := fun h ht hx =>
    ((h.alloc _).grown hgr (blk_ne_own hO0 (h.alloc _) ht)).far hx _
  have kr : ∀ {base size n : Nat} {e : TypeId} {v : Value} {xs : List Value}, w0.ownsRow base e size v n xs → e ≠ 3 → e ≠ 50 → (w1.setCell ⟨s, 2, none⟩ (.slice (some ⟨g3, 0, none⟩) (gs.length + 1) c3)).ownsRow base e size v n xs := fun h he he2 => by
    have h1 := (h.alloc (.cells #[.int .i64 (gs.length : Nat)] 3)).kept hgr (own_ne_own hO0 (h.alloc _) he)
    exact own_far h1 (blk_ne_own h1 hS (Ne.symm he2)) _
  have kf : ∀ {g c : Nat} {f : Fl}, FlowAt w0 g c σ.limit f → FlowAt (w1.setCell ⟨s, 2, none⟩ (.slice (some ⟨g3, 0, none⟩) (gs.length + 1) c3)) g c σ.limit f := fun ⟨u, h1, h2⟩ => by
    refine ⟨u, kb h1 (by decide) ?_, kr h2 (by decide) (by decide)⟩
    rintro rfl
    have := (((h1.alloc (.cells #[.int .i64 (gs.length : Nat)] 3)).grown hgr (blk_ne_own hO0 (h1.alloc _) (by decide))).inj hS).1
    exact absurd this (by decide)
  have hm0 : mapAt (w0.alloc (.cells #[.int .i64 (gs.length : Nat)] 3)) mo (gs ++ [gF]) := hm.lo (heap_alloc_old w0 _ hm.lt)
  have hm1 := map_kept hm0 hO0 hgr
  refine ⟨?_, ?_, kr hR (by decide) (by decide), hm1.lo ?_, hbs, hbm, ?_, by simp [hlen], fun c h1 h2 => ?_⟩
  · have := hS.set_ 2 (.slice (some ⟨g3, 0, none⟩) (gs.length + 1) c3)
    simpa [schedC] using this
  · rw [hl1]
    have h := own_far hO (p := ⟨s, 2, none⟩) (blk_ne_own hO hS (by decide)) (.slice (some ⟨g3, 0, none⟩) (gs.length + 1) c3)
    rw [← ord_succ]
    exact h
  · exact heap_setCell_other w1 _ mo _ (fun e => map_ne hm1 hS e.symm)
  · intro g hg
    rcases List.mem_append.1 hg with hg | hg
    · exact hbg g hg
    · rw [List.mem_singleton.1 hg]; exact zF
  · by_cases hc : c < gs.length
    · have e1 : (gs ++ [gF])[c]'h1 = gs[c] := List.getElem_append_left hc
      have h3 : c < σ.fl.length := by omega
      have e2 : (σ.fl ++ [⟨⟨wt, 0, 0, 0⟩, []⟩])[c]'h2 = σ.fl[c] := List.getElem_append_left h3
      show FlowAt _ ((gs ++ [gF])[c]'h1) c σ.limit ((σ.fl ++ [⟨⟨wt, 0, 0, 0⟩, []⟩])[c]'h2)
      rw [e1, e2]
      exact kf (hfl c hc h3)
    · have hce : c = gs.length := by omega
      subst hce
      have e1 : (gs ++ [gF])[gs.length]'h1 = gF := by simp
      have e2 : (σ.fl ++ [⟨⟨wt, 0, 0, 0⟩, []⟩])[gs.length]'h2 = ⟨⟨wt, 0, 0, 0⟩, []⟩ := by
        rw [List.getElem_append_right (by omega)]
        simp [hlen]
      show FlowAt _ ((gs ++ [gF])[gs.length]'h1) gs.length σ.limit ((σ.fl ++ [⟨⟨wt, 0, 0, 0⟩, []⟩])[gs.length]'h2)
      rw [e1, e2]
      exact kf ⟨.slice none 0 0, hF, World.ownsRow_nil _ _ _ _⟩
theorem fnew_ok (B : Nat) (q lim : Int) (w : World) (hB : B ≤ w.heap.size) (hq : 1 ≤ q ∧ q ≤ 1000) (hl : 1 ≤ lim ∧ lim ≤ 1000) :
    Calls Try.prog 5 #[.int .i64 q, .int .i64 lim] w fun e w' => (∃ s mo, e = .returned (.tuple #[.pointer (some ⟨s, 0, none⟩), .int .i64 0]) ∧ St B w' s ⟨q, lim, 0, 0, [], []⟩ [] (.slice none 0 0) mo (.slice none 0 0)) ∧ Below w.heap.size w w' := by
  have H1 : Hid (∀ w0, Calls Try.prog 13 #[.int .i64 q, .int .i64 1, .int .i64 1000] w0 (BoolSame w0 true)) := Lib.hid fun w0 => by have := in_fair q 1 1000 w0; rw [inB_yes hq] at this; exact this
  have H2 : Hid (∀ w0, Calls Try.prog 13 #[.int .i64 lim, .int .i64 1, .int .i64 1000] w0 (BoolSame w0 true)) := Lib.hid fun w0 => by have := in_fair lim 1 1000 w0; rw [inB_yes hl] at this; exact this
  clear hq hl
  have hL := Lib.hid (lo_alloc (lo_alloc (lo_refl w) (.map #[] 0)) (.cells #[.int .i64 q, .int .i64 lim, .slice none 0 0, .map (some w.heap.size), .slice none 0 0, .int .i64 0, .int .i64 0] 50))
  have hm : mapAt ((w.alloc (.map #[] 0)).alloc (.cells #[.int .i64 q, .int .i64 lim, .slice none 0 0, .map (some w.heap.size), .slice none 0 0, .int .i64 0, .int .i64 0] 50)) w.heap.size [] :=
    ⟨#[], 0, (heap_alloc_old _ _ (by simp)).trans (heap_alloc_new w _), rfl⟩
  have hS := Blk.new (w.alloc (.map #[] 0)) 50 #[.int .i64 q, .int .i64 lim, .slice none 0 0, .map (some w.heap.size), .slice none 0 0, .int .i64 0, .int .i64 0]
  simp only [World.size_alloc] at hS
  have HS := Lib.hid (And.intro hm hS)
  clear hm hS
  have hmm := fun w0 => run_makeMap (P := Try.prog) 45 w0
  go_enter Try.func5, Try.ntmps5
  go_wp2_with fail
  refine (H1.out _).mono ?_
  rintro e w1 ⟨rfl, rfl⟩
  go_wp2_with fail
  refine (H2.out _).mono ?_
  rintro e w1 ⟨rfl, rfl⟩
  go_wp2_with fail
  exact bodyPost_ret (v := .tuple #[.pointer (some ⟨w.heap.size + 1, 0, none⟩), .int .i64 0]) (by simp [results, Try.results5, go_sem]) rfl ⟨⟨w.heap.size + 1, w.heap.size, rfl, ⟨HS.out.2, World.ownsRow_nil _ _ _ _, World.ownsRow_nil _ _ _ _, HS.out.1, by omega, hB, by simp, rfl, fun c h => by simp at h⟩⟩, hL.out⟩
def JoinPost (B : Nat) (w : World) (s : Nat) (σ : Sc) (gs : List Nat) (mo : Nat) (ur : Value) (wt : Int) (e : Ending) (w' : World) : Prop :=
  ∃ g uo', e = .returned (.int .i64 0) ∧ St B w' s ⟨σ.quantum, σ.limit, σ.time, σ.work, σ.fl ++ [⟨⟨wt, 0, 0, 0⟩, []⟩], σ.ready⟩ (gs ++ [g]) uo' mo ur ∧ Below B w w'
set_option maxRecDepth 100000 in
set_option maxHeartbeats 3200000 in
theorem join_ok (B : Nat) (w : World) (s : Nat) (σ : Sc) (gs : List Nat) (uo : Value) (mo : Nat) (ur : Value) (wt : Int) (h : St B w s σ gs uo mo ur) (hBw : B ≤ w.heap.size) (hlim : 1 ≤ σ.limit ∧ σ.limit ≤ 1000) (hw : 1 ≤ wt ∧ wt ≤ 16) (hn : gs.length ≤ 7) :
    Calls Try.prog 6 #[.pointer (some ⟨s, 0, none⟩), .int .i64 (gs.length : Nat), .int .i64 wt] w (JoinPost B w s σ gs mo ur wt) := by
  have H1 := Lib.hid fun w0 => tnew_ok wt w0 hw
  have H2 := Lib.hid fun w0 => anew_ok σ.limit w0 hlim
  have H3 : Hid (∀ w0, Calls Try.prog 13 #[.int .i64 (gs.length : Nat), .int .i64 0, .int .i64 2147483647] w0 (BoolSame w0 true)) := Lib.hid fun w0 => by have := in_fair (gs.length : Nat) 0 2147483647 w0; rw [inB_yes (by omega)] at this; exact this
  have hSt := h
  have hB := Below.refl B w
  have hS0 := hSt.blk.lt
  have hn8 : ¬ (8 : Int) ≤ (gs.length : Int) := by omega
  clear h hlim hw
  go_enter Try.func6, Try.ntmps6
  go_wp2_with fail
  refine (H1.out _).mono ?_
  rintro e w1 ⟨rfl, hb⟩
  replace hSt := hSt.lo (lo_alloc hb (.cells #[.int .i64 wt, .int .i64 0, .int .i64 0, .int .i64 0] 52))
  replace hB := (hB.trans (hb.mono hBw)).alloc (Nat.le_trans hBw hb.size) (.cells #[.int .i64 wt, .int .i64 0, .int .i64 0, .int .i64 0] 52)
  have hT := Blk.new w1 52 #[.int .i64 wt, .int .i64 0, .int .i64 0, .int .i64 0]
  have zT : s < w1.heap.size := Nat.lt_of_lt_of_le hS0 hb.size
  clear hb
  go_wp2_with fail
  refine (H3.out _).mono ?_
  rintro e w1x ⟨rfl, rfl⟩
  generalize w1.heap.size = gT at hT zT ⊢
  generalize w1.alloc (.cells #[.int .i64 wt, .int .i64 0, .int .i64 0, .int .i64 0] 52) = w1y at hSt hB hT ⊢
  have hlk := lookup_miss hSt.map gs.length (Nat.le_refl _)
  have hln := len_map hSt.map
  obtain ⟨cS, fS⟩ := hSt.blk.facts
  unfold schedC at cS
  go_wp2_with fail
  refine (H2.out _).mono ?_
  rintro e w2 ⟨rfl, hb⟩
  clear cS fS hlk hln
  replace hSt := hSt.lo (lo_alloc hb (.cells #[.int .i64 σ.limit, .slice none 0 0] 58))
  replace hT := (hT.lo hb).alloc (.cells #[.int .i64 σ.limit, .slice none 0 0] 58)
  have zy := Nat.le_trans hBw hB.size
  replace hB := (hB.trans (hb.mono zy)).alloc (Nat.le_trans zy hb.size) (.cells #[.int .i64 σ.limit, .slice none 0 0] 58)
  have hQ := Blk.new w2 58 #[.int .i64 σ.limit, .slice none 0 0]
  clear hb zy
  go_upto_region 13 with fail
  generalize w2.heap.size = gQ at hQ ⊢
  generalize w2.alloc (.cells #[.int .i64 σ.limit, .slice none 0 0] 58) = w2 at hSt hB hT hQ ⊢
  refine wp_region_held_drew (S := (fun W => W.cell? ⟨s, 3, none⟩ = some (.map (some mo)) ∧ s < W.heap.size ∧ W.cell? ⟨gT, 0, none⟩ = some (.int .i64 wt) ∧ W.cell? ⟨gT, 1, none⟩ = some (.int .i64 0) ∧ W.cell? ⟨gT, 2, none⟩ = some (.int .i64 0) ∧ W.cell? ⟨gT, 3, none⟩ = some (.int .i64 0) ∧ gT < W.heap.size ∧ W.cell? ⟨gQ, 0, none⟩ = some (.int .i64 σ.limit) ∧ W.cell? ⟨gQ, 1, none⟩ = some (.slice none 0 0) ∧ gQ < W.heap.size)) (by kernel_rfl) ?_ (fun hHeld => ?_)
  focus ((try dsimp only); (first | (have a := hSt.blk.facts.1 3; have r := hT.facts.1; have q := hQ.facts.1; exact ⟨a, hSt.blk.lt, r 0, r 1, r 2, r 3, hT.lt, q 0, q 1, hQ.lt⟩) | (have a := hS3.facts.1 3; have r := hT.facts.1; have q := hQ.facts.1; exact ⟨a, hS3.lt, r 0, r 1, r 2, r 3, hT.lt, q 0, q 1, hQ.lt⟩)))
  replace hSt : St B w2.drew s σ gs uo mo ur := hSt.drew
  replace hT : Blk w2.drew _ _ _ := hT
  replace hQ : Blk w2.drew _ _ _ := hQ
  replace hB := hB.drew
  generalize w2.drew = wd at hSt hT hQ hB hHeld ⊢
  first
  | (refine wpAnyH_take (i := 0) (oi := _) (v := ?_) (getop rfl) (by kernel_rfl) (by kernel_rfl) (by kernel_rfl) (fun _ _ _ h => h) (Or.inl ⟨by rfl, ?_⟩) (by assumption) ?_; rotate_left; focus (intro w hSw; (try dsimp only at hSw); go_simp; (try with_reducible rfl); done))
  | (refine wpAnyH_take (i := 0) (oi := _) (v := undef) (getop rfl) (by kernel_rfl) (by kernel_rfl) (by kernel_rfl) (fun _ _ _ h => h) (Or.inr ⟨by rfl, rfl⟩) (by assumption) ?_)
  (try simp only [Act.put, List.setIfInBounds_toArray, List.set_cons_zero, List.set_cons_succ])
  first
  | (refine wpAnyH_take (i := 4) (oi := _) (v := ?_) (getop rfl) (by kernel_rfl) (by kernel_rfl) (by kernel_rfl) (fun _ _ _ h => h) (Or.inl ⟨by rfl, ?_⟩) (by assumption) ?_; rotate_left; focus (intro w hSw; (try dsimp only at hSw); go_simp; (try with_reducible rfl); done))
  | (refine wpAnyH_take (i := 4) (oi := _) (v := undef) (getop rfl) (by kernel_rfl) (by kernel_rfl) (by kernel_rfl) (fun _ _ _ h => h) (Or.inr ⟨by rfl, rfl⟩) (by assumption) ?_)
  (try simp only [Act.put, List.setIfInBounds_toArray, List.set_cons_zero, List.set_cons_succ])
  first
  | (refine wpAnyH_take (i := 5) (oi := _) (v := ?_) (getop rfl) (by kernel_rfl) (by kernel_rfl) (by kernel_rfl) (fun _ _ _ h => h) (Or.inl ⟨by rfl, ?_⟩) (by assumption) ?_; rotate_left; focus (intro w hSw; (try dsimp only at hSw); go_simp; (try with_reducible rfl); done))
  | (refine wpAnyH_take (i := 5) (oi := _) (v := undef) (getop rfl) (by kernel_rfl) (by kernel_rfl) (by kernel_rfl) (fun _ _ _ h => h) (Or.inr ⟨by rfl, rfl⟩) (by assumption) ?_)
  (try simp only [Act.put, List.setIfInBounds_toArray, List.set_cons_zero, List.set_cons_succ])
  first
  | (refine wpAnyH_take (i := 6) (oi := _) (v := ?_) (getop rfl) (by kernel_rfl) (by kernel_rfl) (by kernel_rfl) (fun _ _ _ h => h) (Or.inl ⟨by rfl, ?_⟩) (by assumption) ?_; rotate_left; focus (intro w hSw; (try dsimp only at hSw); go_simp; (try with_reducible rfl); done))
  | (refine wpAnyH_take (i := 6) (oi := _) (v := undef) (getop rfl) (by kernel_rfl) (by kernel_rfl) (by kernel_rfl) (fun _ _ _ h => h) (Or.inr ⟨by rfl, rfl⟩) (by assumption) ?_)
  (try simp only [Act.put, List.setIfInBounds_toArray, List.set_cons_zero, List.set_cons_succ])
  first
  | (refine wpAnyH_take (i := 7) (oi := _) (v := ?_) (getop rfl) (by kernel_rfl) (by kernel_rfl) (by kernel_rfl) (fun _ _ _ h => h) (Or.inl ⟨by rfl, ?_⟩) (by assumption) ?_; rotate_left; focus (intro w hSw; (try dsimp only at hSw); go_simp; (try with_reducible rfl); done))
  | (refine wpAnyH_take (i := 7) (oi := _) (v := undef) (getop rfl) (by kernel_rfl) (by kernel_rfl) (by kernel_rfl) (fun _ _ _ h => h) (Or.inr ⟨by rfl, rfl⟩) (by assumption) ?_)
  (try simp only [Act.put, List.setIfInBounds_toArray, List.set_cons_zero, List.set_cons_succ])
  first
  | (refine wpAnyH_take (i := 1) (oi := _) (v := ?_) (getop rfl) (by kernel_rfl) (by kernel_rfl) (by kernel_rfl) (fun _ _ _ h => h) (Or.inl ⟨by rfl, ?_⟩) (by assumption) ?_; rotate_left; focus (intro w hSw; (try dsimp only at hSw); go_simp; (try with_reducible rfl); done))
  | (refine wpAnyH_take (i := 1) (oi := _) (v := undef) (getop rfl) (by kernel_rfl) (by kernel_rfl) (by kernel_rfl) (fun _ _ _ h => h) (Or.inr ⟨by rfl, rfl⟩) (by assumption) ?_)
  (try simp only [Act.put, List.setIfInBounds_toArray, List.set_cons_zero, List.set_cons_succ])
  first
  | (refine wpAnyH_take (i := 8) (oi := _) (v := ?_) (getop rfl) (by kernel_rfl) (by kernel_rfl) (by kernel_rfl) (fun _ _ _ h => h) (Or.inl ⟨by rfl, ?_⟩) (by assumption) ?_; rotate_left; focus (intro w hSw; (try dsimp only at hSw); go_simp; (try with_reducible rfl); done))
  | (refine wpAnyH_take (i := 8) (oi := _) (v := undef) (getop rfl) (by kernel_rfl) (by kernel_rfl) (by kernel_rfl) (fun _ _ _ h => h) (Or.inr ⟨by rfl, rfl⟩) (by assumption) ?_)
  (try simp only [Act.put, List.setIfInBounds_toArray, List.set_cons_zero, List.set_cons_succ])
  first
  | (refine wpAnyH_take (i := 2) (oi := _) (v := ?_) (getop rfl) (by kernel_rfl) (by kernel_rfl) (by kernel_rfl) (fun _ _ _ h => h) (Or.inl ⟨by rfl, ?_⟩) (by assumption) ?_; rotate_left; focus (intro w hSw; (try dsimp only at hSw); go_simp; (try with_reducible rfl); done))
  | (refine wpAnyH_take (i := 2) (oi := _) (v := undef) (getop rfl) (by kernel_rfl) (by kernel_rfl) (by kernel_rfl) (fun _ _ _ h => h) (Or.inr ⟨by rfl, rfl⟩) (by assumption) ?_)
  (try simp only [Act.put, List.setIfInBounds_toArray, List.set_cons_zero, List.set_cons_succ])
  first
  | (refine wpAnyH_take (i := 3) (oi := _) (v := ?_) (getop rfl) (by kernel_rfl) (by kernel_rfl) (by kernel_rfl) (fun _ _ _ h => h) (Or.inl ⟨by rfl, ?_⟩) (by assumption) ?_; rotate_left; focus (intro w hSw; (try dsimp only at hSw); go_simp; (try with_reducible rfl); done))
  | (refine wpAnyH_take (i := 3) (oi := _) (v := undef) (getop rfl) (by kernel_rfl) (by kernel_rfl) (by kernel_rfl) (fun _ _ _ h => h) (Or.inr ⟨by rfl, rfl⟩) (by assumption) ?_)
  (try simp only [Act.put, List.setIfInBounds_toArray, List.set_cons_zero, List.set_cons_succ])
  refine wpAnyH_ready (rs := [9]) (by kernel_rfl) (by simp) ?_
  refine (AllReadyH.cons (o := _) (getop rfl) (fun K hK => ?_) AllReadyH.nil)
  go_simp
  have hF := Blk.new wd 62 #[.int .i64 (gs.length : Nat), .int .i64 wt, .int .i64 0, .int .i64 0, .int .i64 0, .int .i64 σ.limit, .slice none 0 0]
  replace hSt := hSt.lo (lo_alloc (lo_refl wd) (.cells #[.int .i64 (gs.length : Nat), .int .i64 wt, .int .i64 0, .int .i64 0, .int .i64 0, .int .i64 σ.limit, .slice none 0 0] 62))
  replace hT := hT.alloc (.cells #[.int .i64 (gs.length : Nat), .int .i64 wt, .int .i64 0, .int .i64 0, .int .i64 0, .int .i64 σ.limit, .slice none 0 0] 62)
  replace hQ := hQ.alloc (.cells #[.int .i64 (gs.length : Nat), .int .i64 wt, .int .i64 0, .int .i64 0, .int .i64 0, .int .i64 σ.limit, .slice none 0 0] 62)
  have zF : B ≤ wd.heap.size := Nat.le_trans hBw hB.size
  replace hB := hB.alloc zF (.cells #[.int .i64 (gs.length : Nat), .int .i64 wt, .int .i64 0, .int .i64 0, .int .i64 0, .int .i64 σ.limit, .slice none 0 0] 62)
  generalize wd.heap.size = gF at hF zF ⊢
  generalize wd.alloc (.cells #[.int .i64 (gs.length : Nat), .int .i64 wt, .int .i64 0, .int .i64 0, .int .i64 0, .int .i64 σ.limit, .slice none 0 0] 62) = wz0 at hF hSt hT hQ hB ⊢
  refine hK.out _ _ ?_ (fun hHeld9 => ?_)
  focus ((try dsimp only); (first | (have a := hSt.blk.facts.1 3; have r := hT.facts.1; have q := hQ.facts.1; exact ⟨a, hSt.blk.lt, r 0, r 1, r 2, r 3, hT.lt, q 0, q 1, hQ.lt⟩) | (have a := hS3.facts.1 3; have r := hT.facts.1; have q := hQ.facts.1; exact ⟨a, hS3.lt, r 0, r 1, r 2, r 3, hT.lt, q 0, q 1, hQ.lt⟩)))
  clear hK K hHeld
  have hHeld := hHeld9
  clear hHeld9
  (try simp only [Act.put, List.setIfInBounds_toArray, List.set_cons_zero, List.set_cons_succ])
  refine wpAnyH_ready (rs := [10]) (by kernel_rfl) (by simp) ?_
  refine (AllReadyH.cons (o := _) (getop rfl) (fun K hK => ?_) AllReadyH.nil)
  obtain ⟨wz1, hrun, hmap, hgr⟩ := update_new hSt.map gF
  go_simp
  have HM := hSt.map
  replace hF := blk_map hF HM hgr
  replace hT := blk_map hT HM hgr
  replace hQ := blk_map hQ HM hgr
  have hS3 := blk_map hSt.blk HM hgr
  have hO3 := own_map hSt.ord HM hgr
  have hR3 := own_map hSt.rdy HM hgr
  have hfl : ∀ c (h : c < gs.length) (h2 : c < σ.fl.length), FlowAt wz1 gs[c] c σ.limit σ.fl[c] := fun c h h2 => flow_map (hSt.fl c h h2) HM hgr
  replace hB := hB.grown hgr (Nat.le_trans hBw hB.size) (fun k hk => by injection hk with hk; have := hSt.bm; omega)
  have hbs := hSt.bs
  have hbm := hSt.bm
  have hbg := hSt.bg
  have hlen := hSt.len
  clear hrun hgr HM hSt
  refine hK.out _ _ ?_ (fun hHeld10 => ?_)
  focus ((try dsimp only); (first | (have a := hSt.blk.facts.1 3; have r := hT.facts.1; have q := hQ.facts.1; exact ⟨a, hSt.blk.lt, r 0, r 1, r 2, r 3, hT.lt, q 0, q 1, hQ.lt⟩) | (have a := hS3.facts.1 3; have r := hT.facts.1; have q := hQ.facts.1; exact ⟨a, hS3.lt, r 0, r 1, r 2, r 3, hT.lt, q 0, q 1, hQ.lt⟩)))
  clear hK K hHeld
  have hHeld := hHeld10
  clear hHeld10
  (try simp only [Act.put, List.setIfInBounds_toArray, List.set_cons_zero, List.set_cons_succ])
  refine wpAnyH_done (by kernel_rfl) ?_ _
  clear hT hQ hHeld
  obtain ⟨cS, fS⟩ := hS3.facts
  unfold schedC at cS
  have lS := hS3.lt
  obtain ⟨i0, hi, hz0, hz1, hz2⟩ := info_parts info3
  have hXn := Blk.new wz1 3 #[.int .i64 (gs.length : Nat)]
  have hSn := hS3.alloc (.cells #[.int .i64 (gs.length : Nat)] 3)
  have hOn := hO3.alloc (.cells #[.int .i64 (gs.length : Nat)] 3)
  have hnS := blk_ne_own hOn hSn (by decide)
  have hb3 : B ≤ (wz1.alloc (.cells #[.int .i64 (gs.length : Nat)] 3)).heap.size := by have := Nat.le_trans hBw hB.size; simp; omega
  have HKK := Lib.hid (And.intro hF (And.intro hR3 (And.intro hmap (And.intro hfl (And.intro hB hO3)))))
  clear hF hR3 hmap hfl hB hO3
  go_wp2_with (at_builtin; refine wpList_append_lies _ rfl (.tmp 62) (.tmp 64) 46 rfl B 3 i0 _ 1 8 Try.underlying46 hi hz0 hz1 hz2 rfl (by decide) _ _ _ rfl hOn ⟨wz1.heap.size, 0, none⟩ 1 1 (#[.int .i64 (gs.length : Nat)] : Array Value).toList rfl rfl (hXn.at rfl) (by intro u hu; simp at hu; subst hu; rfl) (by decide) (by unfold maxLen; omega) (by omega) hb3 _ rfl ?_; intro g3 c3 wn hwn hgr hat hlt3; have hSw := hSn.grown hgr hnS; have HW := Lib.hid (And.intro hwn (And.intro hgr hSw)); have HON := Lib.hid (And.intro hOn hnS); clear hwn hgr hat cS fS hSn hOn hXn hnS hS3; obtain ⟨cS, fS⟩ := hSw.facts; unfold schedC at cS; have lS := hSw.lt)
  go_ret
  obtain ⟨hF, hR3, hmap, hfl, hB, hO3⟩ := HKK.out
  obtain ⟨hwn, hgr, hSw⟩ := HW.out
  obtain ⟨hOn, hnS⟩ := HON.out
  refine ⟨gF, .slice (some ⟨g3, 0, none⟩) (gs.length + 1) c3, rfl, ?_, ?_⟩
  · exact join_state hSw hwn hgr hOn hF hR3 hmap hfl hbs hbm hbg hlen zF
  · exact ((hB.alloc (Nat.le_trans hBw hB.size) _).grown hgr (Nat.le_trans hBw (Nat.le_trans hB.size (by simp))) (fun k hk => (hOn.lt k hk).1)).setCell hbs _
end Go.Proofs.Ytfpagiojdgdbeaa
