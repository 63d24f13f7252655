import Derived.Test.YtfpagiojdgdbeaaAwake
import Derived.Test.YtfpagiojdgdbeaaServe
namespace Go.Proofs.Ytfpagiojdgdbeaa
open Go.RowKit
attribute [local go_sem ↓] Go.wp_at_zero Go.wp_at_succ

theorem serve_gd {B N : Nat} {w : World} {s : Nat} {σ : Sc} {gs : List Nat} {uo : Value} {mo : Nat} {ur : Value} (h : St B w s σ gs uo mo ur) (hBw : B ≤ w.heap.size) (hg : Gd gs.length N σ) (hN : N ≤ 100000) (hn : gs.length ≤ 8) :
    (σ.ready = [] ∧ Calls Try.prog 8 #[.pointer (some ⟨s, 0, none⟩)] w fun e w' => e = .returned (.tuple #[.agg #[.int .i64 0, .int .i64 0, .int .i64 0, .int .i64 0], .bool false]) ∧ St B w' s σ gs uo mo ur ∧ Below B w w') ∨
    (∃ p1 c t, σ.ready = (p1, ((c : Nat) : Int)) :: t ∧ Calls Try.prog 8 #[.pointer (some ⟨s, 0, none⟩)] w (ServePost B w s σ gs uo mo c t)) := by
  obtain ⟨quantum, limit, time, work, fl, ready⟩ := σ
  cases ready with
  | nil => exact .inl ⟨rfl, serve_none B w s quantum limit time work fl gs uo mo ur h hBw⟩
  | cons p t =>
    obtain ⟨c, f, hf, hfl, hp⟩ := hg.rdy.from_ p (List.mem_cons_self ..)
    subst hp
    have hcl := (List.getElem?_eq_some_iff.1 hf).1
    have hfe := (List.getElem?_eq_some_iff.1 hf).2
    obtain ⟨⟨wt, st, fi, wk⟩, l⟩ := f
    have hF := hg.fl _ (List.mem_of_getElem? hf)
    have s2 := hF.s2
    have f2 := hF.f2
    have k2 := hF.k2
    have w2 := hg.k2
    have hlen := hg.len
    have hrl := hg.rdy.len
    have q2 := hg.q2
    simp only [List.length_cons] at s2 f2 k2 w2 hlen hrl q2
    refine .inr ⟨st, c, t, rfl, serve_ok B w s quantum limit time work fl st t gs uo mo ur c (by simp only at hcl; omega) hcl wt st fi wk l hfe h hBw hF.q hfl ⟨⟨hF.w1, hF.w2⟩, ⟨hF.k1, by simp only; omega⟩, ⟨hF.s1, by simp only; omega⟩, ⟨hF.f1, by simp only; omega⟩⟩ (by omega) (by omega) ⟨hg.k1, by omega⟩ ⟨hg.q1, by omega⟩ hg.rdy.heap (by omega)⟩
/-- Connections that just came. -/
def Fresh (fl : List Fl) : Prop := ∀ f ∈ fl, (1 ≤ f.tg.weight ∧ f.tg.weight ≤ 16) ∧ f.tg.start = 0 ∧ f.tg.finish = 0 ∧ f.tg.work = 0 ∧ f.l = []
theorem Fresh.snoc {fl : List Fl} (h : Fresh fl) {wt : Int} (hw : 1 ≤ wt ∧ wt ≤ 16) : Fresh (fl ++ [⟨⟨wt, 0, 0, 0⟩, []⟩]) := fun f hf => by
  rcases List.mem_append.1 hf with hf | hf
  · exact h f hf
  · rw [List.mem_singleton.1 hf]; exact ⟨hw, rfl, rfl, rfl, rfl⟩
theorem Fresh.good {fl : List Fl} (h : Fresh fl) {n : Nat} {q lim : Int} (hq : 1 ≤ q ∧ q ≤ 4) (hl : 1 ≤ lim ∧ lim ≤ 4) (hn : fl.length = n) (h0 : 0 < n) : Gd n 0 ⟨q, lim, 0, 0, fl, []⟩ ∧ Idle ⟨q, lim, 0, 0, fl, []⟩ := by
  refine ⟨⟨hq.1, hq.2, hl.1, hl.2, Int.le_refl _, by simp, Int.le_refl _, by simp, hn, fun f hf => ?_, ⟨fun k hk _ => absurd hk (Nat.not_lt_zero _), by simp, fun p hp => absurd hp List.not_mem_nil, fun c f hf hfl => absurd (h f (List.mem_of_getElem? hf)).2.2.2.2 hfl⟩, fun f hf hfl => absurd (h f hf).2.2.2.2 hfl⟩, ?_⟩
  · obtain ⟨h1, h2, h3, h4, h5⟩ := h f hf
    refine ⟨h1.1, h1.2, by omega, by omega, by omega, by omega, by omega, by omega, ?_, fun x hx => by rw [h5] at hx; cases hx⟩
    rw [h5]
    exact ⟨by simp only; omega, by simp, fun x hx => (by cases hx), List.Pairwise.nil⟩
  · have hf := List.getElem?_eq_getElem (l := fl) (i := 0) (by omega)
    obtain ⟨h1, h2, h3, h4, h5⟩ := h fl[0] (List.getElem_mem _)
    exact ⟨fl[0], hf, h5, h3⟩
def QL (q lim : Int) (σ : Sc) : Prop := σ.quantum = q ∧ σ.limit = lim
theorem QL.adm {q lim : Int} {σ σ' : Sc} {c : Nat} {x : Rq} (h : QL q lim σ) (hn : AdmitNext σ c x σ') : QL q lim σ' := by
  obtain ⟨f, _, ⟨_, rfl⟩ | ⟨_, r', _, _, rfl⟩⟩ := hn
  · exact h
  · exact h
theorem QL.serve {q lim : Int} {σ σ' : Sc} {c : Nat} {t : List (Int × Int)} {x : Rq} {un : Int} (h : QL q lim σ) (hn : ServeNext σ c t σ' x un) : QL q lim σ' := by
  obtain ⟨g, k, _, _, _, _, _, ⟨_, r', _, _, rfl⟩ | ⟨_, r', _, _, rfl⟩⟩ := hn
  · exact h
  · exact h
theorem shut_idle (n N : Nat) (q lim : Int) : Shut1 n N (fun σ => Gd n N σ ∧ Idle σ ∧ QL q lim σ) :=
  ⟨fun _ h => h.1, fun σ σ' c x f h hc hcn hf hp hx hn => ⟨h.1.adm hn (fun g hg => by rw [hf] at hg; obtain rfl := Option.some.inj hg; exact hp) hx, h.2.1.adm (by omega) hn, h.2.2.adm hn⟩⟩
theorem shut_prog (n N : Nat) (q lim cost v0 : Int) (T : Nat) (m : Nat → Nat) : Shut1 n N (fun σ => Gd n N σ ∧ Prog cost v0 T m σ ∧ QL q lim σ) :=
  ⟨fun _ h => h.1, fun σ σ' c x f h hc hcn hf hp hx hn => ⟨h.1.adm hn (fun g hg => by rw [hf] at hg; obtain rfl := Option.some.inj hg; exact hp) hx, h.2.1.adm h.1 hn, h.2.2.adm hn⟩⟩
theorem first_push {cost : Int} (h : 1 ≤ cost ∧ cost ≤ 4) : canPush [] ⟨1, 7, cost, 0⟩ := ⟨⟨by simp, by simp, ⟨h.1, by simp only; omega⟩, by simp⟩, fun y hy => absurd hy List.not_mem_nil, by simp⟩
theorem prog_ready {n N : Nat} {cost v0 : Int} {T : Nat} {m : Nat → Nat} {σ : Sc} (h : Prog cost v0 T m σ) (hg : Gd n N σ) : σ.ready ≠ [] := by
  obtain ⟨f, x, rest, hf, hl, _⟩ := h.own
  have := hg.rdy.tom 0 f hf (by rw [hl]; simp)
  intro e
  rw [e] at this
  cases this
/-- The first request is served ahead of the last slice that the statement grants. -/
theorem prog_bound {n N : Nat} {q lim cost v0 : Int} {T : Nat} {m : Nat → Nat} {σ : Sc} (h : Prog cost v0 T m σ) (hg : Gd n N σ) (hq : QL q lim σ) (hn : 2 ≤ n ∧ n ≤ 4) (hm : ∀ j, n ≤ j → m j = 0) :
    ((T + m 1 + m 2 + m 3 : Nat) : Int) < (cost + lim) * (1 + ((n : Int) - 1) * (16 * q + 1)) := by
  obtain ⟨f, x, rest, hf, hl, h1, h2, h3, h4, h5, h6, h7⟩ := h.own
  obtain ⟨rfl, rfl⟩ := hq
  have q1 := hg.q1
  have q2 := hg.q2
  have hlen := hg.len
  have ho : ∀ j, 0 < j → j < n → (m j : Int) ≤ 16 * (σ.quantum * T) := fun j j0 jn => (h.oth j σ.fl[j] j0 (List.getElem?_eq_getElem (by omega))).2.2
  have o1 := ho 1 (by omega)
  have o2 := ho 2 (by omega)
  have o3 := ho 3 (by omega)
  have z2 := hm 2
  have z3 := hm 3
  have hT : (T : Int) ≤ cost + σ.limit - 1 := by omega
  have hqs : σ.quantum = 1 ∨ σ.quantum = 2 ∨ σ.quantum = 3 ∨ σ.quantum = 4 := by omega
  have hns : n = 2 ∨ n = 3 ∨ n = 4 := by omega
  clear hm ho hlen hg h hf hl h7
  generalize σ.quantum = qq at *
  generalize σ.limit = ll at *
  rcases hqs with rfl | rfl | rfl | rfl <;> rcases hns with rfl | rfl | rfl <;> simp at o1 o2 o3 z2 z3 ⊢ <;> omega
theorem upd_sum {n c : Nat} {m : Nat → Nat} (hc : 0 < c) (hcn : c < n) (hn : n ≤ 4) : upd m c 1 + upd m c 2 + upd m c 3 = m 1 + m 2 + m 3 + 1 := by
  have : c = 1 ∨ c = 2 ∨ c = 3 := by omega
  rcases this with rfl | rfl | rfl <;> simp [upd] <;> omega
set_option maxRecDepth 100000 in
set_option maxHeartbeats 6400000 in
theorem ends_walk (s0 s1 s2 : Int) (a1 : Option Addr) (len1 cap1 : Nat) (xs1 : List Int) (a2 : Option Addr) (len2 cap2 : Nat) (xs2 : List Int) (w : World) (w00 : (Lit.int .u8 s0).wf = true) (w01 : (Lit.int .u8 s1).wf = true) (w02 : (Lit.int .u8 s2).wf = true) (w1 : IntRow .u8 w a1 len1 cap1 xs1) (w2 : IntRow .u8 w a2 len2 cap2 xs2)
    (hlen1 : 2 ≤ len1 ∧ len1 ≤ 4) (hlen2 : len2 ≤ 200) :
    Calls Try.prog 3 #[.agg #[.int .u8 s0, .int .u8 s1, .int .u8 s2], .slice a1 len1 cap1, .slice a2 len2 cap2] w fun e w' => e = .returned (.bool true) ∧ Below w.heap.size w w' := by
  have HA := Lib.hid awake_any
  have HX1 : Hid (∀ W, Below w.heap.size w W → IntRow .u8 W a1 len1 cap1 xs1) := Lib.hid fun W hb => int_lo w1 hb
  have HX2 : Hid (∀ W, Below w.heap.size w W → IntRow .u8 W a2 len2 cap2 xs2) := Lib.hid fun W hb => int_lo w2 hb
  have hxl := w1.1
  have b0 := bounds_u8 w00
  have b1 := bounds_u8 w01
  have b2 := bounds_u8 w02
  obtain ⟨m0, hm0⟩ : ∃ m, s0.tmod 4 = m := ⟨_, rfl⟩
  obtain ⟨m1, hm1⟩ : ∃ m, s1.tmod 4 = m := ⟨_, rfl⟩
  obtain ⟨m2, hm2⟩ : ∃ m, s2.tmod 4 = m := ⟨_, rfl⟩
  have m0b : 0 ≤ m0 ∧ m0 ≤ 3 := by rw [← hm0, Int.tmod_eq_emod_of_nonneg b0.1]; omega
  have m1b : 0 ≤ m1 ∧ m1 ≤ 3 := by rw [← hm1, Int.tmod_eq_emod_of_nonneg b1.1]; omega
  have m2b : 0 ≤ m2 ∧ m2 ≤ 3 := by rw [← hm2, Int.tmod_eq_emod_of_nonneg b2.1]; omega
  have h1a : IntKind.i64.wrap m0 = m0 := IntWalk.i64_in _ (by omega)
  have h1b : IntKind.i64.wrap (1 + m0) = 1 + m0 := IntWalk.i64_in _ (by omega)
  have h2a : IntKind.i64.wrap m1 = m1 := IntWalk.i64_in _ (by omega)
  have h2b : IntKind.i64.wrap (1 + m1) = 1 + m1 := IntWalk.i64_in _ (by omega)
  have h3a : IntKind.i64.wrap m2 = m2 := IntWalk.i64_in _ (by omega)
  have h3b : IntKind.i64.wrap (1 + m2) = 1 + m2 := IntWalk.i64_in _ (by omega)
  have hN := Blk.new w 22 #[.int .u8 s0, .int .u8 s1, .int .u8 s2]
  have hL := lo_alloc (lo_refl w) (.cells #[.int .u8 s0, .int .u8 s1, .int .u8 s2] 22)
  clear w1 w2 w00 w01 w02 b0 b1 b2
  have e1 : ¬ (len1 : Int) < 2 := by omega
  have e2 : ¬ (4 : Int) < (len1 : Int) := by omega
  have e3 : ¬ (200 : Int) < (len2 : Int) := by omega
  go_enter Try.func3, Try.ntmps3
  go_upto_region 3 with fail
  generalize w.alloc (.cells #[.int .u8 s0, .int .u8 s1, .int .u8 s2] 22) = w0 at hN hL ⊢
  refine wp_region_held_drew (S := (fun W => W.cell? ⟨w.heap.size, 0, none⟩ = some (.int .u8 s0) ∧ W.cell? ⟨w.heap.size, 1, none⟩ = some (.int .u8 s1) ∧ W.cell? ⟨w.heap.size, 2, none⟩ = some (.int .u8 s2) ∧ w.heap.size < W.heap.size)) (by kernel_rfl) ?_ (fun hHeld => ?_)
  focus ((try dsimp only); (have r := hN.facts.1; exact ⟨r 0, r 1, r 2, hN.lt⟩))
  replace hN : Blk w0.drew _ _ _ := hN
  replace hL := lo_drew hL
  generalize w0.drew = wd at hN hL hHeld ⊢
  first
  | (refine wpAnyH_take (i := 0) (oi := _) (v := ?_) (getop rfl) (by kernel_rfl) (by kernel_rfl) (by kernel_rfl) (fun _ _ _ h => h) (Or.inl ⟨by rfl, ?_⟩) (by assumption) ?_; rotate_left; focus (intro w hSw; (try dsimp only at hSw); go_simp; (try with_reducible rfl); done))
  | (refine wpAnyH_take (i := 0) (oi := _) (v := undef) (getop rfl) (by kernel_rfl) (by kernel_rfl) (by kernel_rfl) (fun _ _ _ h => h) (Or.inr ⟨by rfl, rfl⟩) (by assumption) ?_)
  (try simp only [Act.put, List.setIfInBounds_toArray, List.set_cons_zero, List.set_cons_succ])
  first
  | (refine wpAnyH_take (i := 5) (oi := _) (v := ?_) (getop rfl) (by kernel_rfl) (by kernel_rfl) (by kernel_rfl) (fun _ _ _ h => h) (Or.inl ⟨by rfl, ?_⟩) (by assumption) ?_; rotate_left; focus (intro w hSw; (try dsimp only at hSw); go_simp; (try with_reducible rfl); done))
  | (refine wpAnyH_take (i := 5) (oi := _) (v := undef) (getop rfl) (by kernel_rfl) (by kernel_rfl) (by kernel_rfl) (fun _ _ _ h => h) (Or.inr ⟨by rfl, rfl⟩) (by assumption) ?_)
  (try simp only [Act.put, List.setIfInBounds_toArray, List.set_cons_zero, List.set_cons_succ])
  first
  | (refine wpAnyH_take (i := 10) (oi := _) (v := ?_) (getop rfl) (by kernel_rfl) (by kernel_rfl) (by kernel_rfl) (fun _ _ _ h => h) (Or.inl ⟨by rfl, ?_⟩) (by assumption) ?_; rotate_left; focus (intro w hSw; (try dsimp only at hSw); go_simp; (try with_reducible rfl); done))
  | (refine wpAnyH_take (i := 10) (oi := _) (v := undef) (getop rfl) (by kernel_rfl) (by kernel_rfl) (by kernel_rfl) (fun _ _ _ h => h) (Or.inr ⟨by rfl, rfl⟩) (by assumption) ?_)
  (try simp only [Act.put, List.setIfInBounds_toArray, List.set_cons_zero, List.set_cons_succ])
  first
  | (refine wpAnyH_take (i := 1) (oi := _) (v := ?_) (getop rfl) (by kernel_rfl) (by kernel_rfl) (by kernel_rfl) (fun _ _ _ h => h) (Or.inl ⟨by rfl, ?_⟩) (by assumption) ?_; rotate_left; focus (intro w hSw; (try dsimp only at hSw); go_simp; (try with_reducible rfl); done))
  | (refine wpAnyH_take (i := 1) (oi := _) (v := undef) (getop rfl) (by kernel_rfl) (by kernel_rfl) (by kernel_rfl) (fun _ _ _ h => h) (Or.inr ⟨by rfl, rfl⟩) (by assumption) ?_)
  (try simp only [Act.put, List.setIfInBounds_toArray, List.set_cons_zero, List.set_cons_succ])
  first
  | (refine wpAnyH_take (i := 6) (oi := _) (v := ?_) (getop rfl) (by kernel_rfl) (by kernel_rfl) (by kernel_rfl) (fun _ _ _ h => h) (Or.inl ⟨by rfl, ?_⟩) (by assumption) ?_; rotate_left; focus (intro w hSw; (try dsimp only at hSw); go_simp; (try with_reducible rfl); done))
  | (refine wpAnyH_take (i := 6) (oi := _) (v := undef) (getop rfl) (by kernel_rfl) (by kernel_rfl) (by kernel_rfl) (fun _ _ _ h => h) (Or.inr ⟨by rfl, rfl⟩) (by assumption) ?_)
  (try simp only [Act.put, List.setIfInBounds_toArray, List.set_cons_zero, List.set_cons_succ])
  first
  | (refine wpAnyH_take (i := 11) (oi := _) (v := ?_) (getop rfl) (by kernel_rfl) (by kernel_rfl) (by kernel_rfl) (fun _ _ _ h => h) (Or.inl ⟨by rfl, ?_⟩) (by assumption) ?_; rotate_left; focus (intro w hSw; (try dsimp only at hSw); go_simp; (try with_reducible rfl); done))
  | (refine wpAnyH_take (i := 11) (oi := _) (v := undef) (getop rfl) (by kernel_rfl) (by kernel_rfl) (by kernel_rfl) (fun _ _ _ h => h) (Or.inr ⟨by rfl, rfl⟩) (by assumption) ?_)
  (try simp only [Act.put, List.setIfInBounds_toArray, List.set_cons_zero, List.set_cons_succ])
  first
  | (refine wpAnyH_take (i := 2) (oi := _) (v := ?_) (getop rfl) (by kernel_rfl) (by kernel_rfl) (by kernel_rfl) (fun _ _ _ h => h) (Or.inl ⟨by rfl, ?_⟩) (by assumption) ?_; rotate_left; focus (intro w hSw; (try dsimp only at hSw); go_simp; (try with_reducible rfl); done))
  | (refine wpAnyH_take (i := 2) (oi := _) (v := undef) (getop rfl) (by kernel_rfl) (by kernel_rfl) (by kernel_rfl) (fun _ _ _ h => h) (Or.inr ⟨by rfl, rfl⟩) (by assumption) ?_)
  (try simp only [Act.put, List.setIfInBounds_toArray, List.set_cons_zero, List.set_cons_succ])
  first
  | (refine wpAnyH_take (i := 7) (oi := _) (v := ?_) (getop rfl) (by kernel_rfl) (by kernel_rfl) (by kernel_rfl) (fun _ _ _ h => h) (Or.inl ⟨by rfl, ?_⟩) (by assumption) ?_; rotate_left; focus (intro w hSw; (try dsimp only at hSw); go_simp; (try with_reducible rfl); done))
  | (refine wpAnyH_take (i := 7) (oi := _) (v := undef) (getop rfl) (by kernel_rfl) (by kernel_rfl) (by kernel_rfl) (fun _ _ _ h => h) (Or.inr ⟨by rfl, rfl⟩) (by assumption) ?_)
  (try simp only [Act.put, List.setIfInBounds_toArray, List.set_cons_zero, List.set_cons_succ])
  first
  | (refine wpAnyH_take (i := 12) (oi := _) (v := ?_) (getop rfl) (by kernel_rfl) (by kernel_rfl) (by kernel_rfl) (fun _ _ _ h => h) (Or.inl ⟨by rfl, ?_⟩) (by assumption) ?_; rotate_left; focus (intro w hSw; (try dsimp only at hSw); go_simp; (try with_reducible rfl); done))
  | (refine wpAnyH_take (i := 12) (oi := _) (v := undef) (getop rfl) (by kernel_rfl) (by kernel_rfl) (by kernel_rfl) (fun _ _ _ h => h) (Or.inr ⟨by rfl, rfl⟩) (by assumption) ?_)
  (try simp only [Act.put, List.setIfInBounds_toArray, List.set_cons_zero, List.set_cons_succ])
  first
  | (refine wpAnyH_take (i := 3) (oi := _) (v := ?_) (getop rfl) (by kernel_rfl) (by kernel_rfl) (by kernel_rfl) (fun _ _ _ h => h) (Or.inl ⟨by rfl, ?_⟩) (by assumption) ?_; rotate_left; focus (intro w hSw; (try dsimp only at hSw); go_simp; (try with_reducible rfl); done))
  | (refine wpAnyH_take (i := 3) (oi := _) (v := undef) (getop rfl) (by kernel_rfl) (by kernel_rfl) (by kernel_rfl) (fun _ _ _ h => h) (Or.inr ⟨by rfl, rfl⟩) (by assumption) ?_)
  (try simp only [Act.put, List.setIfInBounds_toArray, List.set_cons_zero, List.set_cons_succ])
  first
  | (refine wpAnyH_take (i := 8) (oi := _) (v := ?_) (getop rfl) (by kernel_rfl) (by kernel_rfl) (by kernel_rfl) (fun _ _ _ h => h) (Or.inl ⟨by rfl, ?_⟩) (by assumption) ?_; rotate_left; focus (intro w hSw; (try dsimp only at hSw); go_simp; (try with_reducible rfl); done))
  | (refine wpAnyH_take (i := 8) (oi := _) (v := undef) (getop rfl) (by kernel_rfl) (by kernel_rfl) (by kernel_rfl) (fun _ _ _ h => h) (Or.inr ⟨by rfl, rfl⟩) (by assumption) ?_)
  (try simp only [Act.put, List.setIfInBounds_toArray, List.set_cons_zero, List.set_cons_succ])
  first
  | (refine wpAnyH_take (i := 13) (oi := _) (v := ?_) (getop rfl) (by kernel_rfl) (by kernel_rfl) (by kernel_rfl) (fun _ _ _ h => h) (Or.inl ⟨by rfl, ?_⟩) (by assumption) ?_; rotate_left; focus (intro w hSw; (try dsimp only at hSw); go_simp; (try with_reducible rfl); done))
  | (refine wpAnyH_take (i := 13) (oi := _) (v := undef) (getop rfl) (by kernel_rfl) (by kernel_rfl) (by kernel_rfl) (fun _ _ _ h => h) (Or.inr ⟨by rfl, rfl⟩) (by assumption) ?_)
  (try simp only [Act.put, List.setIfInBounds_toArray, List.set_cons_zero, List.set_cons_succ])
  first
  | (refine wpAnyH_take (i := 4) (oi := _) (v := ?_) (getop rfl) (by kernel_rfl) (by kernel_rfl) (by kernel_rfl) (fun _ _ _ h => h) (Or.inl ⟨by rfl, ?_⟩) (by assumption) ?_; rotate_left; focus (intro w hSw; (try dsimp only at hSw); go_simp; (try with_reducible rfl); done))
  | (refine wpAnyH_take (i := 4) (oi := _) (v := undef) (getop rfl) (by kernel_rfl) (by kernel_rfl) (by kernel_rfl) (fun _ _ _ h => h) (Or.inr ⟨by rfl, rfl⟩) (by assumption) ?_)
  (try simp only [Act.put, List.setIfInBounds_toArray, List.set_cons_zero, List.set_cons_succ])
  first
  | (refine wpAnyH_take (i := 9) (oi := _) (v := ?_) (getop rfl) (by kernel_rfl) (by kernel_rfl) (by kernel_rfl) (fun _ _ _ h => h) (Or.inl ⟨by rfl, ?_⟩) (by assumption) ?_; rotate_left; focus (intro w hSw; (try dsimp only at hSw); go_simp; (try with_reducible rfl); done))
  | (refine wpAnyH_take (i := 9) (oi := _) (v := undef) (getop rfl) (by kernel_rfl) (by kernel_rfl) (by kernel_rfl) (fun _ _ _ h => h) (Or.inr ⟨by rfl, rfl⟩) (by assumption) ?_)
  (try simp only [Act.put, List.setIfInBounds_toArray, List.set_cons_zero, List.set_cons_succ])
  first
  | (refine wpAnyH_take (i := 14) (oi := _) (v := ?_) (getop rfl) (by kernel_rfl) (by kernel_rfl) (by kernel_rfl) (fun _ _ _ h => h) (Or.inl ⟨by rfl, ?_⟩) (by assumption) ?_; rotate_left; focus (intro w hSw; (try dsimp only at hSw); go_simp; (try with_reducible rfl); done))
  | (refine wpAnyH_take (i := 14) (oi := _) (v := undef) (getop rfl) (by kernel_rfl) (by kernel_rfl) (by kernel_rfl) (fun _ _ _ h => h) (Or.inr ⟨by rfl, rfl⟩) (by assumption) ?_)
  (try simp only [Act.put, List.setIfInBounds_toArray, List.set_cons_zero, List.set_cons_succ])
  first
  | (refine wpAnyH_take (i := 15) (oi := _) (v := ?_) (getop rfl) (by kernel_rfl) (by kernel_rfl) (by kernel_rfl) (fun _ _ _ h => h) (Or.inl ⟨by rfl, ?_⟩) (by assumption) ?_; rotate_left; focus (intro w hSw; (try dsimp only at hSw); go_simp; (try with_reducible rfl); done))
  | (refine wpAnyH_take (i := 15) (oi := _) (v := undef) (getop rfl) (by kernel_rfl) (by kernel_rfl) (by kernel_rfl) (fun _ _ _ h => h) (Or.inr ⟨by rfl, rfl⟩) (by assumption) ?_)
  (try simp only [Act.put, List.setIfInBounds_toArray, List.set_cons_zero, List.set_cons_succ])
  first
  | (refine wpAnyH_take (i := 16) (oi := _) (v := ?_) (getop rfl) (by kernel_rfl) (by kernel_rfl) (by kernel_rfl) (fun _ _ _ h => h) (Or.inl ⟨by rfl, ?_⟩) (by assumption) ?_; rotate_left; focus (intro w hSw; (try dsimp only at hSw); go_simp; (try with_reducible rfl); done))
  | (refine wpAnyH_take (i := 16) (oi := _) (v := undef) (getop rfl) (by kernel_rfl) (by kernel_rfl) (by kernel_rfl) (fun _ _ _ h => h) (Or.inr ⟨by rfl, rfl⟩) (by assumption) ?_)
  (try simp only [Act.put, List.setIfInBounds_toArray, List.set_cons_zero, List.set_cons_succ])
  first
  | (refine wpAnyH_take (i := 17) (oi := _) (v := ?_) (getop rfl) (by kernel_rfl) (by kernel_rfl) (by kernel_rfl) (fun _ _ _ h => h) (Or.inl ⟨by rfl, ?_⟩) (by assumption) ?_; rotate_left; focus (intro w hSw; (try dsimp only at hSw); go_simp; (try with_reducible rfl); done))
  | (refine wpAnyH_take (i := 17) (oi := _) (v := undef) (getop rfl) (by kernel_rfl) (by kernel_rfl) (by kernel_rfl) (fun _ _ _ h => h) (Or.inr ⟨by rfl, rfl⟩) (by assumption) ?_)
  (try simp only [Act.put, List.setIfInBounds_toArray, List.set_cons_zero, List.set_cons_succ])
  refine wpAnyH_done (by kernel_rfl) ?_ _
  clear hHeld hN h1a h1b h2a h2b h3a h3b
  have hq0 : 1 ≤ 1 + m1 ∧ 1 + m1 ≤ 4 := by omega
  obtain ⟨cost, hcost⟩ : ∃ cost, 1 + m0 = cost := ⟨_, rfl⟩
  obtain ⟨q, hq⟩ : ∃ q, 1 + m1 = q := ⟨_, rfl⟩
  obtain ⟨lim, hlim⟩ : ∃ lim, 1 + m2 = lim := ⟨_, rfl⟩
  rw [hcost, hq, hlim]
  have c1 : 1 ≤ cost ∧ cost ≤ 4 := by omega
  have q1 : 1 ≤ q ∧ q ≤ 4 := by omega
  have l1 : 1 ≤ lim ∧ lim ≤ 4 := by omega
  clear hcost hq hlim hq0
  clear m0b m1b m2b hm0 hm1 hm2
  have HL := Lib.hid hL
  have HN5 := Lib.hid (fnew_ok w.heap.size q lim wd hL.size (by omega) (by omega))
  clear hL
  go_wp2_with fail
  refine HN5.out.mono ?_
  rintro e w1 ⟨⟨s, mo, rfl, hSt⟩, hb⟩
  have HB := Lib.hid (lo_trans HL.out hb)
  have HS := Lib.hid hSt
  clear hb hSt HL HN5
  go_wp2_with fail
  go_loopw [12] (fun y wr => ∃ (gs : List Nat) (fl : List Fl) (uo : Value), gs.length ≤ len1 ∧ y = .int .i64 (gs.length : Nat) ∧ Hid (Fresh fl) ∧ Hid (St w.heap.size wr s ⟨q, lim, 0, 0, fl, []⟩ gs uo mo (.slice none 0 0)) ∧ Hid (Below w.heap.size w wr)) (fun y _ => len1 - (intOf y).toNat)
  case atStart => exact ⟨[], [], .slice none 0 0, by simp, rfl, Lib.hid fun f hf => (by cases hf), HS, HB⟩
  case round =>
  clear HS HB
  obtain ⟨gs, fl, uo, hgl, rfl, HFR, HS, HB⟩ := hrel
  by_cases hil : gs.length < len1
  · have hil' : (gs.length : Int) < (len1 : Int) := by omega
    obtain ⟨b, off, rfl, hlt, hc⟩ := (HX1.out _ HB.out).2.2.2.2.1 gs.length xs1[gs.length] (List.getElem?_eq_getElem (by omega))
    have hwf := (HX1.out _ HB.out).2.2.2.2.2 xs1[gs.length] (List.getElem_mem _)
    generalize xs1[gs.length] = z at hc hwf
    have h0 := bounds_u8 hwf
    obtain ⟨zm, hzm⟩ : ∃ zm, z.tmod 16 = zm := ⟨_, rfl⟩
    have hz9 : 0 ≤ zm ∧ zm ≤ 15 := by
      rw [← hzm, Int.tmod_eq_emod_of_nonneg h0.1]
      omega
    have hw2 : IntKind.i64.wrap zm = zm := IntWalk.i64_in _ (by omega)
    have hw3 : IntKind.i64.wrap (1 + zm) = 1 + zm := IntWalk.i64_in _ (by omega)
    have HJ := Lib.hid (join_ok w.heap.size wr s ⟨q, lim, 0, 0, fl, []⟩ gs uo mo (.slice none 0 0) (1 + zm) HS.out HB.out.size (by simp only; omega) (by omega) (by omega))
    clear hwf h0
    go_wp2_with fail
    refine HJ.out.mono ?_
    rintro e w2 ⟨g, uo2, rfl, hS2, hb⟩
    have HR := Lib.hid (And.intro hS2 (HB.out.trans hb))
    clear hS2 hb HJ hc hlt
    go_wp2_with fail
    go_roundw
    case rel => exact ⟨gs ++ [g], fl ++ [⟨⟨1 + zm, 0, 0, 0⟩, []⟩], uo2, by simp; omega, by simp, Lib.hid (HFR.out.snoc (by omega)), Lib.hid HR.out.1, Lib.hid HR.out.2⟩
    case measure => simp [intOf]; omega
  · have hil' : ¬ (gs.length : Int) < (len1 : Int) := by omega
    have hgl2 : gs.length = len1 := by omega
    subst hgl2
    obtain ⟨hg0, hi0⟩ := HFR.out.good (n := gs.length) (q := q) (lim := lim) q1 l1 HS.out.len (by omega)
    have HF1 := Lib.hid (fed_ok w.heap.size 0 (fun σ => Gd gs.length 0 σ ∧ Idle σ ∧ QL q lim σ) wr s ⟨q, lim, 0, 0, fl, []⟩ gs uo mo (.slice none 0 0) 1 a2 len2 cap2 xs2 HS.out HB.out.size (shut_idle gs.length 0 q lim) ⟨hg0, hi0, rfl, rfl⟩ (by omega) (by omega) (by omega) (fun W hb => HX2.out W (HB.out.trans hb)))
    clear hg0 hi0
    go_wp2_with fail
    refine HF1.out.mono ?_
    rintro e w2 ⟨id, σ, ur, rfl, d1, d2, hI, hS2, hb⟩
    have HI := Lib.hid hI
    have HB2 := Lib.hid (HB.out.trans hb)
    have HS2 := Lib.hid hS2
    clear hI hS2 hb HF1 HS HB HFR
    go_wp2_with fail
    go_loopw [14] (fun y wr => ∃ (i : Nat) (σ : Sc) (ur : Value), i ≤ 7 ∧ y = .int .i64 i ∧ Hid (Gd gs.length i σ ∧ Idle σ ∧ QL q lim σ) ∧ Hid (St w.heap.size wr s σ gs uo mo ur) ∧ Hid (Below w.heap.size w wr)) (fun y _ => 7 - (intOf y).toNat)
    case atStart => exact ⟨0, σ, ur, by omega, rfl, HI, HS2, HB2⟩
    case round =>
    clear HI HS2 HB2
    obtain ⟨i, σ, ur, hi, rfl, HI, HS2, HB2⟩ := hrel
    by_cases hi7 : i < 7
    · have hi7' : (i : Int) < 7 := by omega
      rcases serve_gd HS2.out HB2.out.size HI.out.1 (by omega) (by omega) with ⟨hr0, hsv⟩ | ⟨p1, c, t, hr0, hsv⟩
      · have HSV := Lib.hid hsv
        clear hsv hr0
        go_wp2_with fail
        refine HSV.out.mono ?_
        rintro e w3 ⟨rfl, hS3, hb⟩
        have HR := Lib.hid (And.intro hS3 (HB2.out.trans hb))
        clear hS3 hb HSV
        go_wp2_with fail
        go_roundw
        case rel => exact ⟨i + 1, σ, ur, by omega, by go_num, Lib.hid ⟨HI.out.1.mono (by omega), HI.out.2⟩, Lib.hid HR.out.1, Lib.hid HR.out.2⟩
        case measure => simp [intOf]; omega
      · have HSV := Lib.hid hsv
        have HR0 := Lib.hid hr0
        clear hsv hr0
        go_wp2_with fail
        refine HSV.out.mono ?_
        rintro e w3 ⟨x, un, rfl, ur3, σ3, hnx, hS3, hb⟩
        have HR := Lib.hid (And.intro hS3 (And.intro (HB2.out.trans hb) (And.intro (HI.out.1.serve HR0.out hnx) (And.intro (HI.out.2.1.serve HI.out.1 HR0.out hnx) (HI.out.2.2.serve hnx)))))
        clear hS3 hb HSV hnx
        go_wp2_with fail
        go_roundw
        case rel => exact ⟨i + 1, σ3, ur3, by omega, by go_num, Lib.hid HR.out.2.2, Lib.hid HR.out.1, Lib.hid HR.out.2.1⟩
        case measure => simp [intOf]; omega
    · have hi7' : ¬ (i : Int) < 7 := by omega
      obtain rfl : i = 7 := by omega
      obtain ⟨f0, hf0, hf0l, hf0f⟩ := HI.out.2.1
      obtain ⟨f0', hf0', hadm⟩ := admit_gd HS2.out HB2.out.size HI.out.1 (by omega) (by omega) 0 (by omega) 1 7 cost (by omega)
      rw [hf0] at hf0'
      obtain rfl := Option.some.inj hf0'
      rw [hf0l] at hadm
      have HAD := Lib.hid hadm
      have HF0 := Lib.hid (And.intro hf0 hf0l)
      clear hadm hf0 hf0l hf0f
      go_wp2_with fail
      refine HAD.out.mono ?_
      rintro e w3 hpost
      rcases hpost with ⟨hnp, _⟩ | ⟨hcp, rfl, ur3, σ3, hnx, hS3, hb⟩
      · exact absurd (first_push c1) hnp
      obtain ⟨v0, hv0⟩ : ∃ v0, σ.time = v0 := ⟨_, rfl⟩
      have hG3 := HI.out.1.adm hnx (fun g hg => by rw [HF0.out.1] at hg; obtain rfl := Option.some.inj hg; rw [HF0.out.2]; exact first_push c1) (by simp only; omega)
      have hP3 := prog_start HI.out.1 HI.out.2.1 c1.1 hnx
      rw [hv0] at hP3
      have HI3 := Lib.hid (And.intro hG3 (And.intro hP3 (HI.out.2.2.adm hnx)))
      have HS3 := Lib.hid hS3
      have HB3 := Lib.hid (HB2.out.trans hb)
      clear hv0 hG3 hP3 hS3 hb hnx hcp HAD HI HS2 HB2 HF0
      have hP : 0 ≤ ((gs.length : Int) - 1) * (16 * q + 1) ∧ ((gs.length : Int) - 1) * (16 * q + 1) ≤ 195 := by
        have : (gs.length : Int) = 2 ∨ (gs.length : Int) = 3 ∨ (gs.length : Int) = 4 := by omega
        rcases this with h | h | h <;> rw [h] <;> omega
      have k1 : IntKind.i64.wrap ((gs.length : Int) - 1) = (gs.length : Int) - 1 := IntWalk.i64_in _ (by omega)
      have k2 : IntKind.i64.wrap (16 * q) = 16 * q := IntWalk.i64_in _ (by omega)
      have k3 : IntKind.i64.wrap (16 * q + 1) = 16 * q + 1 := IntWalk.i64_in _ (by omega)
      have k4 : IntKind.i64.wrap (((gs.length : Int) - 1) * (16 * q + 1)) = ((gs.length : Int) - 1) * (16 * q + 1) := IntWalk.i64_in _ (by omega)
      have k5 : IntKind.i64.wrap (1 + ((gs.length : Int) - 1) * (16 * q + 1)) = 1 + ((gs.length : Int) - 1) * (16 * q + 1) := IntWalk.i64_in _ (by omega)
      have k6 : IntKind.i64.wrap (cost + lim) = cost + lim := IntWalk.i64_in _ (by omega)
      have hMb : (cost + lim) * (1 + ((gs.length : Int) - 1) * (16 * q + 1)) ≤ 8 * 196 := Int.mul_le_mul (by omega) (by omega) (by omega) (by omega)
      have hM0 : 0 ≤ (cost + lim) * (1 + ((gs.length : Int) - 1) * (16 * q + 1)) := Int.mul_nonneg (by omega) (by omega)
      have k7 : IntKind.i64.wrap ((cost + lim) * (1 + ((gs.length : Int) - 1) * (16 * q + 1))) = (cost + lim) * (1 + ((gs.length : Int) - 1) * (16 * q + 1)) := IntWalk.i64_in _ (by omega)
      obtain ⟨M, hM⟩ : ∃ M, (cost + lim) * (1 + ((gs.length : Int) - 1) * (16 * q + 1)) = M := ⟨_, rfl⟩
      replace k7 := k7.trans hM
      rw [hM] at hMb hM0
      have HM := Lib.hid hM
      clear hM hP
      go_upto_region 22 with fail
      clear k1 k2 k3 k4 k5 k6 k7
      go_loopw [13, 16, 17, 18, 19] (fun x y z _ _ wr => ∃ (id own i : Nat) (σ : Sc) (ur : Value) (T : Nat) (m : Nat → Nat), x = .int .i64 id ∧ y = .int .i64 own ∧ z = .int .i64 i ∧ 1 ≤ id ∧ id ≤ 2147483647 ∧ own ≤ 3 + 2 * i ∧ i = T + m 1 + m 2 + m 3 ∧ Hid (∀ j, gs.length ≤ j → m j = 0) ∧ Hid (Gd gs.length (7 + i) σ ∧ Prog cost v0 T m σ ∧ QL q lim σ) ∧ Hid (St w.heap.size wr s σ gs uo mo ur) ∧ Hid (Below w.heap.size w wr)) (fun _ _ z _ _ _ => M.toNat - (intOf z).toNat)
      case atStart => exact ⟨id, 3, 0, σ3, ur3, 0, fun _ => 0, rfl, rfl, rfl, d1, d2, by omega, rfl, Lib.hid fun _ _ => rfl, HI3, HS3, HB3⟩
      case round =>
      clear HI3 HS3 HB3 d1 d2
      obtain ⟨id, own, i, σ, ur, T, m, rfl, rfl, rfl, d1, d2, ho, hiT, HMJ, HI, HS, HB⟩ := hrel
      have hlt : (i : Int) < M := by
        have := prog_bound HI.out.2.1 HI.out.1 HI.out.2.2 (by omega) HMJ.out
        rw [HM.out] at this
        omega
      have HIT := Lib.hid hiT
      clear hiT
      have HF2 := Lib.hid (fed_ok w.heap.size (7 + i) (fun σ => Gd gs.length (7 + i) σ ∧ Prog cost v0 T m σ ∧ QL q lim σ) wr s σ gs uo mo ur id a2 len2 cap2 xs2 HS.out HB.out.size (shut_prog gs.length (7 + i) q lim cost v0 T m) HI.out (by omega) (by omega) ⟨d1, d2⟩ (fun W hb => HX2.out W (HB.out.trans hb)))
      go_wp2_with fail
      refine HF2.out.mono ?_
      rintro e w4 ⟨id2, σ2, ur2, rfl, d1', d2', hI2, hS4, hb4⟩
      have HI2 := Lib.hid hI2
      have HS4 := Lib.hid hS4
      have HB4 := Lib.hid (HB.out.trans hb4)
      clear hI2 hS4 hb4 HF2 HI HS HB d1 d2
      have hw5 : IntKind.i64.wrap (1 + (id2 : Int) % 5) = 1 + (id2 : Int) % 5 := IntWalk.i64_in _ (by omega)
      have hw6 : IntKind.i64.wrap ((own : Int) + 2) = (own : Int) + 2 := IntWalk.i64_in _ (by omega)
      obtain ⟨f0, hf0, hadm⟩ := admit_gd HS4.out HB4.out.size HI2.out.1 (by omega) (by omega) 0 (by omega) (own : Int) ((id2 : Int) % 7) (1 + (id2 : Int) % 5) (by omega)
      have HAD := Lib.hid hadm
      have HF0 := Lib.hid hf0
      clear hadm hf0
      go_wp2_with fail
      refine HAD.out.mono ?_
      rintro e w5 hpost
      rcases hpost with ⟨hnp, ⟨nn, hnn, rfl⟩, hS5, hb5⟩ | ⟨hcp, rfl, ur5, σ5, hnx5, hS5, hb5⟩
      · have HS5 := Lib.hid hS5
        have HB5 := Lib.hid (HB4.out.trans hb5)
        have HI5 := HI2
        clear hS5 hb5 hnp HAD HF0 HS4 HB4
        rcases serve_gd HS5.out HB5.out.size HI5.out.1 (by omega) (by omega) with ⟨hr0, _⟩ | ⟨p1, c, t, hr0, hsv⟩
        · exact absurd hr0 (prog_ready HI5.out.2.1 HI5.out.1)
        have HSV := Lib.hid hsv
        have HR0 := Lib.hid hr0
        clear hsv hr0
        go_wp2_with fail
        refine HSV.out.mono ?_
        rintro e w6 ⟨x, un, rfl, ur6, σ6, hnx, hS6, hb6⟩
        have HB6 := Lib.hid (HB5.out.trans hb6)
        have HS6 := Lib.hid hS6
        have hg6 := HI5.out.1.serve HR0.out hnx
        have hq6 := HI5.out.2.2.serve hnx
        have hps := HI5.out.2.1.serve HI5.out.1 HR0.out hnx
        obtain ⟨xid, xr, xl, xp⟩ := x
        obtain ⟨d, hd⟩ : ∃ d, xl - un = d := ⟨_, rfl⟩
        simp only [hd] at hps ⊢
        clear hnx hS6 hb6 HSV HS5 HB5 HR0 hd
        have hX := Blk.new w6 32 #[.int .i64 (c : Int), .int .i64 xid, .int .i64 un, .int .i64 d]
        have HSX := Lib.hid (HS6.out.lo (lo_alloc (lo_refl w6) (.cells #[.int .i64 (c : Int), .int .i64 xid, .int .i64 un, .int .i64 d] 32)))
        have HBX := Lib.hid (HB6.out.alloc HB6.out.size (.cells #[.int .i64 (c : Int), .int .i64 xid, .int .i64 un, .int .i64 d] 32))
        rcases hps with ⟨rfl, rfl, rfl⟩ | ⟨hnot, T2, m2, hP6, hT2⟩
        · obtain ⟨cX, fX⟩ := hX.facts
          clear hg6 hq6 HS6 HB6 hX
          go_wp2_with fail
          refine (HA.out _).mono ?_
          rintro e w7 ⟨rfl, hb7⟩
          have hM := Lib.hid (HBX.out.trans (hb7.mono HBX.out.size))
          clear hb7
          go_wp2_with fail
          go_ret
          exact ⟨rfl, hM.out⟩
        · have HI6 := Lib.hid (And.intro hg6 (And.intro hP6 hq6))
          have HNO := Lib.hid hnot
          have HT2 := Lib.hid hT2
          clear hg6 hP6 hq6 hnot hT2 HS6 HB6
          obtain ⟨cX, fX⟩ := hX.facts
          go_upto_region 30 with fail
          generalize w6.heap.size = gX at cX fX ⊢
          generalize w6.alloc (.cells #[.int .i64 (c : Int), .int .i64 xid, .int .i64 un, .int .i64 d] 32) = w8 at cX fX HSX HBX ⊢
          go_cut [146] (fun u wc => u = .bool false ∧ wc = w8)
          case first =>
            by_cases hc0 : c = 0
            · by_cases hx1 : xid = 1
              · have hd0 : ¬ d = 0 := fun e => HNO.out ⟨hc0, hx1, e⟩
                subst hc0 hx1
                go_wp2_with fail
                go_meet
                exact ⟨by simp <;> omega, rfl⟩
              · subst hc0
                go_wp2_with fail
                go_meet
                exact ⟨by simp <;> omega, rfl⟩
            · have hc0' : ¬ (c : Int) = 0 := by omega
              go_wp2_with fail
              go_meet
              exact ⟨by simp <;> omega, rfl⟩
          case rest =>
          obtain ⟨rfl, rfl⟩ := hcut
          clear cX fX
          go_wp2_with fail
          go_roundw
          case rel =>
            have hiT := HIT.out
            have hsum : i + 1 = T2 + m2 1 + m2 2 + m2 3 ∧ ∀ j, gs.length ≤ j → m2 j = 0 := by
              rcases HT2.out with ⟨_, rfl, rfl⟩ | ⟨h0, hcn, rfl, rfl⟩
              · exact ⟨by omega, HMJ.out⟩
              · refine ⟨by have := upd_sum (m := m) h0 hcn (by omega); omega, fun j hj => ?_⟩
                have : upd m c j = m j := if_neg (by omega)
                rw [this]
                exact HMJ.out j hj
            exact ⟨id2, own, i + 1, σ6, ur6, T2, m2, rfl, by go_num, by go_num, d1', d2', by omega, hsum.1, Lib.hid hsum.2, HI6, HSX, HBX⟩
          case measure => simp [intOf]; omega
      · have HI5 : Hid (Gd gs.length (7 + i) σ5 ∧ Prog cost v0 T m σ5 ∧ QL q lim σ5) := Lib.hid ⟨HI2.out.1.adm hnx5 (fun g hg => by rw [HF0.out] at hg; obtain rfl := Option.some.inj hg; exact hcp) (by simp only; omega), HI2.out.2.1.adm HI2.out.1 hnx5, HI2.out.2.2.adm hnx5⟩
        have HS5 := Lib.hid hS5
        have HB5 := Lib.hid (HB4.out.trans hb5)
        clear hS5 hb5 hcp hnx5 HAD HF0 HS4 HB4
        rcases serve_gd HS5.out HB5.out.size HI5.out.1 (by omega) (by omega) with ⟨hr0, _⟩ | ⟨p1, c, t, hr0, hsv⟩
        · exact absurd hr0 (prog_ready HI5.out.2.1 HI5.out.1)
        have HSV := Lib.hid hsv
        have HR0 := Lib.hid hr0
        clear hsv hr0
        go_wp2_with fail
        refine HSV.out.mono ?_
        rintro e w6 ⟨x, un, rfl, ur6, σ6, hnx, hS6, hb6⟩
        have HB6 := Lib.hid (HB5.out.trans hb6)
        have HS6 := Lib.hid hS6
        have hg6 := HI5.out.1.serve HR0.out hnx
        have hq6 := HI5.out.2.2.serve hnx
        have hps := HI5.out.2.1.serve HI5.out.1 HR0.out hnx
        obtain ⟨xid, xr, xl, xp⟩ := x
        obtain ⟨d, hd⟩ : ∃ d, xl - un = d := ⟨_, rfl⟩
        simp only [hd] at hps ⊢
        clear hnx hS6 hb6 HSV HS5 HB5 HR0 hd
        have hX := Blk.new w6 32 #[.int .i64 (c : Int), .int .i64 xid, .int .i64 un, .int .i64 d]
        have HSX := Lib.hid (HS6.out.lo (lo_alloc (lo_refl w6) (.cells #[.int .i64 (c : Int), .int .i64 xid, .int .i64 un, .int .i64 d] 32)))
        have HBX := Lib.hid (HB6.out.alloc HB6.out.size (.cells #[.int .i64 (c : Int), .int .i64 xid, .int .i64 un, .int .i64 d] 32))
        rcases hps with ⟨rfl, rfl, rfl⟩ | ⟨hnot, T2, m2, hP6, hT2⟩
        · obtain ⟨cX, fX⟩ := hX.facts
          clear hg6 hq6 HS6 HB6 hX
          go_wp2_with fail
          refine (HA.out _).mono ?_
          rintro e w7 ⟨rfl, hb7⟩
          have hM := Lib.hid (HBX.out.trans (hb7.mono HBX.out.size))
          clear hb7
          go_wp2_with fail
          go_ret
          exact ⟨rfl, hM.out⟩
        · have HI6 := Lib.hid (And.intro hg6 (And.intro hP6 hq6))
          have HNO := Lib.hid hnot
          have HT2 := Lib.hid hT2
          clear hg6 hP6 hq6 hnot hT2 HS6 HB6
          obtain ⟨cX, fX⟩ := hX.facts
          go_upto_region 30 with fail
          generalize w6.heap.size = gX at cX fX ⊢
          generalize w6.alloc (.cells #[.int .i64 (c : Int), .int .i64 xid, .int .i64 un, .int .i64 d] 32) = w8 at cX fX HSX HBX ⊢
          go_cut [146] (fun u wc => u = .bool false ∧ wc = w8)
          case first =>
            by_cases hc0 : c = 0
            · by_cases hx1 : xid = 1
              · have hd0 : ¬ d = 0 := fun e => HNO.out ⟨hc0, hx1, e⟩
                subst hc0 hx1
                go_wp2_with fail
                go_meet
                exact ⟨by simp <;> omega, rfl⟩
              · subst hc0
                go_wp2_with fail
                go_meet
                exact ⟨by simp <;> omega, rfl⟩
            · have hc0' : ¬ (c : Int) = 0 := by omega
              go_wp2_with fail
              go_meet
              exact ⟨by simp <;> omega, rfl⟩
          case rest =>
          obtain ⟨rfl, rfl⟩ := hcut
          clear cX fX
          go_wp2_with fail
          go_roundw
          case rel =>
            have hiT := HIT.out
            have hsum : i + 1 = T2 + m2 1 + m2 2 + m2 3 ∧ ∀ j, gs.length ≤ j → m2 j = 0 := by
              rcases HT2.out with ⟨_, rfl, rfl⟩ | ⟨h0, hcn, rfl, rfl⟩
              · exact ⟨by omega, HMJ.out⟩
              · refine ⟨by have := upd_sum (m := m) h0 hcn (by omega); omega, fun j hj => ?_⟩
                have : upd m c j = m j := if_neg (by omega)
                rw [this]
                exact HMJ.out j hj
            exact ⟨id2, own + 2, i + 1, σ6, ur6, T2, m2, rfl, by go_num, by go_num, d1', d2', by omega, hsum.1, Lib.hid hsum.2, HI6, HSX, HBX⟩
          case measure => simp [intOf]; omega
end Go.Proofs.Ytfpagiojdgdbeaa
