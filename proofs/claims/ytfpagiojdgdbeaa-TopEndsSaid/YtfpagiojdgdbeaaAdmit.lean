import Derived.Deep.Onto
import Derived.Test.YtfpagiojdgdbeaaJoin
import Derived.Test.YtfpagiojdgdbeaaUntil
namespace Go.Proofs.Ytfpagiojdgdbeaa
open Go.RowKit
attribute [local go_sem ↓] Go.wp_at_zero Go.wp_at_succ

theorem own_its_at {w : World} {base n cap : Nat} {A : Option Addr} {l : List (Int × Int)} (h : w.ownsRow base 64 2 (.slice A n cap) n (l.flatMap cellsI)) : Its w A n cap l := agg_own cellsI_len (by decide) h fun _ _ => trivial
theorem own_rqs_at {w : World} {base n cap : Nat} {A : Option Addr} {l : List Rq} (h : w.ownsRow base 68 4 (.slice A n cap) n (l.flatMap cellsR)) : Rqs w A n cap l := agg_own cellsR_len (by decide) h fun _ _ => trivial
/-- What a request that is let in makes of a scheduler. -/
def AdmitNext (σ : Sc) (c : Nat) (x : Rq) (σ' : Sc) : Prop := ∃ f, σ.fl[c]? = some f ∧
  ((f.l ≠ [] ∧ σ' = ⟨σ.quantum, σ.limit, σ.time, σ.work, σ.fl.set c ⟨f.tg, f.l ++ [x]⟩, σ.ready⟩) ∨
   (f.l = [] ∧ ∃ r', r'.Perm (σ.ready ++ [(max f.tg.finish σ.time, (c : Int))]) ∧ heapOk r' ∧ σ' = ⟨σ.quantum, σ.limit, σ.time, σ.work, σ.fl.set c ⟨⟨f.tg.weight, max f.tg.finish σ.time, f.tg.finish, f.tg.work⟩, f.l ++ [x]⟩, r'⟩))
def AdmitPost (B : Nat) (w : World) (s : Nat) (σ : Sc) (gs : List Nat) (uo : Value) (mo : Nat) (ur : Value) (c : Nat) (lc : List Rq) (x : Rq) (e : Ending) (w' : World) : Prop :=
  (¬ canPush lc x ∧ (∃ n, n ≠ 0 ∧ e = .returned (.int .i64 n)) ∧ St B w' s σ gs uo mo ur ∧ Below B w w') ∨
  (canPush lc x ∧ e = .returned (.int .i64 0) ∧ ∃ ur' σ', AdmitNext σ c x σ' ∧ St B w' s σ' gs uo mo ur' ∧ Below B w w')
set_option maxRecDepth 100000 in
set_option maxHeartbeats 6400000 in
theorem admit_ok (B : Nat) (w : World) (s : Nat) (quantum limit time work : Int) (fl : List Fl) (ready : List (Int × Int)) (gs : List Nat) (uo : Value) (mo : Nat) (ur : Value) (c : Nat) (hc : c < gs.length) (hcl : c < fl.length)
    (wt st fi wk : Int) (l : List Rq) (hfe : fl[c] = ⟨⟨wt, st, fi, wk⟩, l⟩) (id rank cost : Int) (h : St B w s ⟨quantum, limit, time, work, fl, ready⟩ gs uo mo ur) (hBw : B ≤ w.heap.size) (hok : ∀ f ∈ fl, okQ limit f.l) (hn : gs.length ≤ 8)
    (htg : (Tg.mk wt st fi wk).ok) (htime : 0 ≤ time ∧ time ≤ 2305843009213693952) (hwork : 0 ≤ work ∧ work ≤ 1000000) (hback : backL fl ≤ 1000000) (hcost : cost ≤ 1000) (hheap : heapOk ready) (hrl : ready.length ≤ 40) :
    Calls Try.prog 9 #[.pointer (some ⟨s, 0, none⟩), .int .i64 c, .int .i64 id, .int .i64 rank, .int .i64 cost] w (AdmitPost B w s ⟨quantum, limit, time, work, fl, ready⟩ gs uo mo ur c l ⟨id, rank, cost, 0⟩) := by
  obtain ⟨Ar, capr, rfl, _⟩ := own_its h.rdy
  obtain ⟨u, hF, hrow⟩ := h.fl c hc hcl
  obtain ⟨g, hge⟩ : ∃ g, gs[c] = g := ⟨_, rfl⟩
  have hlk := lookup_hit h.map c hc
  have HFC : Hid (fl[c]? = some ⟨⟨wt, st, fi, wk⟩, l⟩) := Lib.hid (by rw [List.getElem?_eq_getElem hcl, hfe])
  have hokl : okQ limit l := by have := hok fl[c] (List.getElem_mem _); rw [hfe] at this; exact this
  rw [hge] at hlk
  rw [hge] at hF
  simp only [hfe] at hF hrow
  obtain ⟨A, cap, rfl, hrq⟩ := own_rqs hrow
  have HGE := Lib.hid hge
  have HRQ := Lib.hid hrq
  have HPS := Lib.hid (push_ok limit A l.length cap l id rank cost w hrq hokl)
  have HBK : Hid (∀ w0, St B w0 s ⟨quantum, limit, time, work, fl, ready⟩ gs uo mo (.slice Ar ready.length capr) → Calls Try.prog 22 #[.pointer (some ⟨s, 0, none⟩)] w0 (IntPost w0 (backL fl))) := Lib.hid fun w0 h0 => backlog_ok B w0 s _ gs uo mo _ h0 hok hn (by omega)
  have HWK := Lib.hid fun w0 => wake_ok time wt st fi wk w0 htg htime
  have HPU := Lib.hid fun w0 (h0 : Its w0 Ar ready.length capr ready) => hpush_ok Ar ready.length capr ready (max fi time) c w0 h0 hheap (by omega)
  have hb0 := (back_le hok).1
  generalize backL fl = bk at HBK hback hb0
  have hw1 : IntKind.i64.wrap (1099511627776 - work) = 1099511627776 - work := IntWalk.i64_in _ (by omega)
  have hw2 : IntKind.i64.wrap (1099511627776 - work - bk) = 1099511627776 - work - bk := IntWalk.i64_in _ (by omega)
  have hgs : g ≠ s := fun e => by
    rw [e] at hF
    exact absurd (hF.inj h.blk).1 (by decide)
  have hSt := h
  have hB := Below.refl B w
  clear h hge hfe hokl hrq hrow htg htime hok hheap
  obtain ⟨cS, fS⟩ := hSt.blk.facts
  unfold schedC at cS
  obtain ⟨cF, fF⟩ := hF.facts
  unfold flowC at cF
  have lF := hF.lt
  have lS := hSt.blk.lt
  go_enter Try.func9, Try.ntmps9
  go_wp2_with fail
  refine HPS.out.mono ?_
  rintro e w1 ⟨hcase, hb⟩
  clear cS fS cF fF lF lS hlk HRQ
  rcases hcase with ⟨hnp, v, cc, rfl, hc0, A', n', cap', rfl⟩ | ⟨hcp, base, u, h1, h2, rfl, hown⟩
  · have HR := Lib.hid (And.intro hnp (And.intro (hSt.lo (lo_alloc hb (.cells #[.int .i64 limit, .slice A' n' cap'] 58))) ((hB.trans (hb.mono hBw)).alloc (Nat.le_trans hBw hb.size) (.cells #[.int .i64 limit, .slice A' n' cap'] 58))))
    clear hnp hSt hF hb hB
    go_wp2_with fail
    go_ret
    exact .inl ⟨HR.out.1, ⟨cc, hc0, rfl⟩, HR.out.2.1, HR.out.2.2⟩
  · have HC := Lib.hid hcp
    rw [List.length_append, List.length_singleton] at hown
    obtain ⟨gr, cr, rfl, _, _⟩ := hown.form (by omega)
    have hgQ1 : g < w1.heap.size := Nat.lt_of_lt_of_le hF.lt hb.size
    have hgQ2 : s < w1.heap.size := Nat.lt_of_lt_of_le hSt.blk.lt hb.size
    replace hSt := hSt.lo (lo_alloc hb (.cells #[.int .i64 limit, .slice (some ⟨gr, 0, none⟩) (l.length + 1) cr] 58))
    replace hF := (hF.lo hb).alloc (.cells #[.int .i64 limit, .slice (some ⟨gr, 0, none⟩) (l.length + 1) cr] 58)
    replace hB := (hB.trans (hb.mono hBw)).alloc (Nat.le_trans hBw hb.size) (.cells #[.int .i64 limit, .slice (some ⟨gr, 0, none⟩) (l.length + 1) cr] 58)
    replace hown := hown.alloc (.cells #[.int .i64 limit, .slice (some ⟨gr, 0, none⟩) (l.length + 1) cr] 58)
    have hQ := Blk.new w1 58 #[.int .i64 limit, .slice (some ⟨gr, 0, none⟩) (l.length + 1) cr]
    clear hcp hb h1 h2
    go_upto_region 9 with fail
    have HNE : Hid (g ≠ s ∧ w1.heap.size ≠ s ∧ w1.heap.size ≠ g) := Lib.hid ⟨hgs, by omega, by omega⟩
    clear hgQ1 hgQ2
    generalize w1.heap.size = gQ at hQ HNE ⊢
    generalize w1.alloc (.cells #[.int .i64 limit, .slice (some ⟨gr, 0, none⟩) (l.length + 1) cr] 58) = w2 at hSt hF hB hown hQ ⊢
    refine wp_region_held_drew (S := (fun W => W.cell? ⟨s, 6, none⟩ = some (.int .i64 work) ∧ s < W.heap.size)) (by kernel_rfl) ?_ (fun hHeld => ?_)
    focus ((try dsimp only); (have a := hSt.blk.facts.1 6; exact ⟨a, hSt.blk.lt⟩))
    replace hSt := hSt.drew
    replace hQ : Blk w2.drew _ _ _ := hQ
    replace hown : w2.drew.ownsRow _ _ _ _ _ _ := hown
    replace hB := hB.drew
    replace hF : Blk w2.drew _ _ _ := hF
    generalize w2.drew = wd at hSt hF hQ hown hB hHeld ⊢
    first
    | (refine wpAnyH_take (i := 0) (oi := _) (v := ?_) (getop rfl) (by kernel_rfl) (by kernel_rfl) (by kernel_rfl) (fun _ _ _ h => h) (Or.inl ⟨by rfl, ?_⟩) (by assumption) ?_; rotate_left; focus (intro w hSw; (try dsimp only at hSw); go_simp; (try with_reducible rfl); done))
    | (refine wpAnyH_take (i := 0) (oi := _) (v := undef) (getop rfl) (by kernel_rfl) (by kernel_rfl) (by kernel_rfl) (fun _ _ _ h => h) (Or.inr ⟨by rfl, rfl⟩) (by assumption) ?_)
    (try simp only [Act.put, List.setIfInBounds_toArray, List.set_cons_zero, List.set_cons_succ])
    first
    | (refine wpAnyH_take (i := 1) (oi := _) (v := ?_) (getop rfl) (by kernel_rfl) (by kernel_rfl) (by kernel_rfl) (fun _ _ _ h => h) (Or.inl ⟨by rfl, ?_⟩) (by assumption) ?_; rotate_left; focus (intro w hSw; (try dsimp only at hSw); go_simp; (try with_reducible rfl); done))
    | (refine wpAnyH_take (i := 1) (oi := _) (v := undef) (getop rfl) (by kernel_rfl) (by kernel_rfl) (by kernel_rfl) (fun _ _ _ h => h) (Or.inr ⟨by rfl, rfl⟩) (by assumption) ?_)
    (try simp only [Act.put, List.setIfInBounds_toArray, List.set_cons_zero, List.set_cons_succ])
    first
    | (refine wpAnyH_take (i := 6) (oi := _) (v := ?_) (getop rfl) (by kernel_rfl) (by kernel_rfl) (by kernel_rfl) (fun _ _ _ h => h) (Or.inl ⟨by rfl, ?_⟩) (by assumption) ?_; rotate_left; focus (intro w hSw; (try dsimp only at hSw); go_simp; (try with_reducible rfl); done))
    | (refine wpAnyH_take (i := 6) (oi := _) (v := undef) (getop rfl) (by kernel_rfl) (by kernel_rfl) (by kernel_rfl) (fun _ _ _ h => h) (Or.inr ⟨by rfl, rfl⟩) (by assumption) ?_)
    (try simp only [Act.put, List.setIfInBounds_toArray, List.set_cons_zero, List.set_cons_succ])
    first
    | (refine wpAnyH_take (i := 2) (oi := _) (v := ?_) (getop rfl) (by kernel_rfl) (by kernel_rfl) (by kernel_rfl) (fun _ _ _ h => h) (Or.inl ⟨by rfl, ?_⟩) (by assumption) ?_; rotate_left; focus (intro w hSw; (try dsimp only at hSw); go_simp; (try with_reducible rfl); done))
    | (refine wpAnyH_take (i := 2) (oi := _) (v := undef) (getop rfl) (by kernel_rfl) (by kernel_rfl) (by kernel_rfl) (fun _ _ _ h => h) (Or.inr ⟨by rfl, rfl⟩) (by assumption) ?_)
    (try simp only [Act.put, List.setIfInBounds_toArray, List.set_cons_zero, List.set_cons_succ])
    first
    | (refine wpAnyH_take (i := 3) (oi := _) (v := ?_) (getop rfl) (by kernel_rfl) (by kernel_rfl) (by kernel_rfl) (fun _ _ _ h => h) (Or.inl ⟨by rfl, ?_⟩) (by assumption) ?_; rotate_left; focus (intro w hSw; (try dsimp only at hSw); go_simp; (try with_reducible rfl); done))
    | (refine wpAnyH_take (i := 3) (oi := _) (v := undef) (getop rfl) (by kernel_rfl) (by kernel_rfl) (by kernel_rfl) (fun _ _ _ h => h) (Or.inr ⟨by rfl, rfl⟩) (by assumption) ?_)
    (try simp only [Act.put, List.setIfInBounds_toArray, List.set_cons_zero, List.set_cons_succ])
    first
    | (refine wpAnyH_take (i := 4) (oi := _) (v := ?_) (getop rfl) (by kernel_rfl) (by kernel_rfl) (by kernel_rfl) (fun _ _ _ h => h) (Or.inl ⟨by rfl, ?_⟩) (by assumption) ?_; rotate_left; focus (intro w hSw; (try dsimp only at hSw); go_simp; (try with_reducible rfl); done))
    | (refine wpAnyH_take (i := 4) (oi := _) (v := undef) (getop rfl) (by kernel_rfl) (by kernel_rfl) (by kernel_rfl) (fun _ _ _ h => h) (Or.inr ⟨by rfl, rfl⟩) (by assumption) ?_)
    (try simp only [Act.put, List.setIfInBounds_toArray, List.set_cons_zero, List.set_cons_succ])
    first
    | (refine wpAnyH_take (i := 5) (oi := _) (v := ?_) (getop rfl) (by kernel_rfl) (by kernel_rfl) (by kernel_rfl) (fun _ _ _ h => h) (Or.inl ⟨by rfl, ?_⟩) (by assumption) ?_; rotate_left; focus (intro w hSw; (try dsimp only at hSw); go_simp; (try with_reducible rfl); done))
    | (refine wpAnyH_take (i := 5) (oi := _) (v := undef) (getop rfl) (by kernel_rfl) (by kernel_rfl) (by kernel_rfl) (fun _ _ _ h => h) (Or.inr ⟨by rfl, rfl⟩) (by assumption) ?_)
    (try simp only [Act.put, List.setIfInBounds_toArray, List.set_cons_zero, List.set_cons_succ])
    refine wpAnyH_ready (rs := [7]) (by kernel_rfl) (by simp) ?_
    refine (AllReadyH.cons (o := _) (getop rfl) (fun K hK => ?_) AllReadyH.nil)
    go_simp
    refine (HBK.out _ hSt).mono ?_
    rintro e wz0 ⟨rfl, hb⟩
    replace hSt := hSt.lo hb
    replace hF := hF.lo hb
    replace hQ := hQ.lo hb
    replace hown := own_lo hown hb
    replace hB := hB.trans (hb.mono (Nat.le_trans hBw hB.size))
    clear hb
    refine hK.out _ _ ?_ (fun hHeld7 => ?_)
    focus ((try dsimp only); (have a := hSt.blk.facts.1 6; exact ⟨a, hSt.blk.lt⟩))
    clear hK K hHeld
    have hHeld := hHeld7
    clear hHeld7
    (try simp only [Act.put, List.setIfInBounds_toArray, List.set_cons_zero, List.set_cons_succ])
    first
    | (refine wpAnyH_take (i := 8) (oi := _) (v := ?_) (getop rfl) (by kernel_rfl) (by kernel_rfl) (by kernel_rfl) (fun _ _ _ h => h) (Or.inl ⟨by rfl, ?_⟩) (by assumption) ?_; rotate_left; focus (intro w hSw; (try dsimp only at hSw); go_simp; (try with_reducible rfl); done))
    | (refine wpAnyH_take (i := 8) (oi := _) (v := undef) (getop rfl) (by kernel_rfl) (by kernel_rfl) (by kernel_rfl) (fun _ _ _ h => h) (Or.inr ⟨by rfl, rfl⟩) (by assumption) ?_)
    (try simp only [Act.put, List.setIfInBounds_toArray, List.set_cons_zero, List.set_cons_succ])
    first
    | (refine wpAnyH_take (i := 9) (oi := _) (v := ?_) (getop rfl) (by kernel_rfl) (by kernel_rfl) (by kernel_rfl) (fun _ _ _ h => h) (Or.inl ⟨by rfl, ?_⟩) (by assumption) ?_; rotate_left; focus (intro w hSw; (try dsimp only at hSw); go_simp; (try with_reducible rfl); done))
    | (refine wpAnyH_take (i := 9) (oi := _) (v := undef) (getop rfl) (by kernel_rfl) (by kernel_rfl) (by kernel_rfl) (fun _ _ _ h => h) (Or.inr ⟨by rfl, rfl⟩) (by assumption) ?_)
    (try simp only [Act.put, List.setIfInBounds_toArray, List.set_cons_zero, List.set_cons_succ])
    refine wpAnyH_done (by kernel_rfl) ?_ _
    have hg1 : ¬ 1099511627776 - work - bk < cost := by omega
    have hS := hSt.blk
    have hrdy := hSt.rdy
    have hKp := Kept.refl wz0 s g
    have HSt := Lib.hid hSt
    have HB := Lib.hid hB
    clear hSt hB hHeld
    obtain ⟨cF, fF⟩ := hF.facts
    unfold flowC at cF
    have lF := hF.lt
    have HBZ := Lib.hid (busy_any g A l.length cap wz0 (cF 6) lF)
    go_wp2_with fail
    refine HBZ.out.mono ?_
    rintro e w5 ⟨rfl, rfl⟩
    by_cases hz : l.length = 0
    · have hz' : ¬ 0 < l.length := by omega
      rw [decide_eq_false hz']
      have HL0 : Hid (l = []) := Lib.hid (List.eq_nil_of_length_eq_zero hz)
      clear hz hz'
      go_upto_region 12 with fail
      clear cF fF lF
      generalize wz0 = wz at hS hF hQ hown hrdy hKp HSt HB ⊢
      refine wp_region_until (S := (fun W => W.cell? ⟨g, 1, none⟩ = some (.int .i64 wt) ∧ W.cell? ⟨g, 2, none⟩ = some (.int .i64 st) ∧ W.cell? ⟨g, 3, none⟩ = some (.int .i64 fi) ∧ W.cell? ⟨g, 4, none⟩ = some (.int .i64 wk))) (S2 := (fun W => W.cell? ⟨s, 5, none⟩ = some (.int .i64 time) ∧ s < W.heap.size ∧ g < W.heap.size)) 9 (by kernel_rfl) ?_
      replace hS : Blk wz.drew _ _ _ := hS
      replace hF : Blk wz.drew _ _ _ := hF
      replace hQ : Blk wz.drew _ _ _ := hQ
      replace hown : wz.drew.ownsRow _ _ _ _ _ _ := hown
      replace hrdy : wz.drew.ownsRow _ _ _ _ _ _ := hrdy
      replace hKp := hKp.drew
      generalize wz.drew = wd at hS hF hQ hown hrdy hKp ⊢
      have hG : (fun W => W.cell? ⟨s, 5, none⟩ = some (.int .i64 time) ∧ s < W.heap.size ∧ g < W.heap.size) wd ∧ (fun W => W.cell? ⟨g, 1, none⟩ = some (.int .i64 wt) ∧ W.cell? ⟨g, 2, none⟩ = some (.int .i64 st) ∧ W.cell? ⟨g, 3, none⟩ = some (.int .i64 fi) ∧ W.cell? ⟨g, 4, none⟩ = some (.int .i64 wk)) wd := by have a := hS.facts.1; have b := hF.facts.1; exact ⟨⟨a 5, hS.lt, hF.lt⟩, b 1, b 2, b 3, b 4⟩
      dsimp only at hG
      (refine until_take2 (i := 0) (oi := _) (v := ?_) (getop rfl) (by decide) (by kernel_rfl) (by kernel_rfl) (by kernel_rfl) (fun _ _ _ h => h) (Or.inl ⟨by rfl, ?_⟩) ⟨hG.1, Or.inr hG.2⟩ ?_; rotate_left; focus (intro w hSw; (try dsimp only at hSw); go_simp; (try with_reducible rfl); done))
      (try simp only [Act.put, List.setIfInBounds_toArray, List.set_cons_zero, List.set_cons_succ])
      (refine until_take2 (i := 1) (oi := _) (v := ?_) (getop rfl) (by decide) (by kernel_rfl) (by kernel_rfl) (by kernel_rfl) (fun _ _ _ h => h) (Or.inl ⟨by rfl, ?_⟩) ⟨hG.1, Or.inr hG.2⟩ ?_; rotate_left; focus (intro w hSw; (try dsimp only at hSw); go_simp; (try with_reducible rfl); done))
      (try simp only [Act.put, List.setIfInBounds_toArray, List.set_cons_zero, List.set_cons_succ])
      (refine until_take2 (i := 2) (oi := _) (v := ?_) (getop rfl) (by decide) (by kernel_rfl) (by kernel_rfl) (by kernel_rfl) (fun _ _ _ h => h) (Or.inl ⟨by rfl, ?_⟩) ⟨hG.1, Or.inr hG.2⟩ ?_; rotate_left; focus (intro w hSw; (try dsimp only at hSw); go_simp; (try with_reducible rfl); done))
      (try simp only [Act.put, List.setIfInBounds_toArray, List.set_cons_zero, List.set_cons_succ])
      (refine until_take2 (i := 3) (oi := _) (v := ?_) (getop rfl) (by decide) (by kernel_rfl) (by kernel_rfl) (by kernel_rfl) (fun _ _ _ h => h) (Or.inl ⟨by rfl, ?_⟩) ⟨hG.1, Or.inr hG.2⟩ ?_; rotate_left; focus (intro w hSw; (try dsimp only at hSw); go_simp; (try with_reducible rfl); done))
      (try simp only [Act.put, List.setIfInBounds_toArray, List.set_cons_zero, List.set_cons_succ])
      (refine until_take2 (i := 4) (oi := _) (v := ?_) (getop rfl) (by decide) (by kernel_rfl) (by kernel_rfl) (by kernel_rfl) (fun _ _ _ h => h) (Or.inl ⟨by rfl, ?_⟩) ⟨hG.1, Or.inr hG.2⟩ ?_; rotate_left; focus (intro w hSw; (try dsimp only at hSw); go_simp; (try with_reducible rfl); done))
      (try simp only [Act.put, List.setIfInBounds_toArray, List.set_cons_zero, List.set_cons_succ])
      (refine until_take2 (i := 5) (oi := _) (v := ?_) (getop rfl) (by decide) (by kernel_rfl) (by kernel_rfl) (by kernel_rfl) (fun _ _ _ h => h) (Or.inl ⟨by rfl, ?_⟩) ⟨hG.1, Or.inr hG.2⟩ ?_; rotate_left; focus (intro w hSw; (try dsimp only at hSw); go_simp; (try with_reducible rfl); done))
      (try simp only [Act.put, List.setIfInBounds_toArray, List.set_cons_zero, List.set_cons_succ])
      (refine until_take2 (i := 6) (oi := _) (v := ?_) (getop rfl) (by decide) (by kernel_rfl) (by kernel_rfl) (by kernel_rfl) (fun _ _ _ h => h) (Or.inl ⟨by rfl, ?_⟩) ⟨hG.1, Or.inr hG.2⟩ ?_; rotate_left; focus (intro w hSw; (try dsimp only at hSw); go_simp; (try with_reducible rfl); done))
      (try simp only [Act.put, List.setIfInBounds_toArray, List.set_cons_zero, List.set_cons_succ])
      (refine until_take2 (i := 7) (oi := _) (v := ?_) (getop rfl) (by decide) (by kernel_rfl) (by kernel_rfl) (by kernel_rfl) (fun _ _ _ h => h) (Or.inl ⟨by rfl, ?_⟩) ⟨hG.1, Or.inr hG.2⟩ ?_; rotate_left; focus (intro w hSw; (try dsimp only at hSw); go_simp; (try with_reducible rfl); done))
      (try simp only [Act.put, List.setIfInBounds_toArray, List.set_cons_zero, List.set_cons_succ])
      (refine until_take (i := 8) (oi := _) (op := _) (v := ?_) (getop rfl) (getop rfl) (by kernel_rfl) (by decide) (by kernel_rfl) (by kernel_rfl) (by kernel_rfl) (by kernel_rfl) (fun _ _ _ h => h) (Or.inl ⟨by rfl, ?_⟩) hG ?_; rotate_left; focus (intro w hSw; (try dsimp only at hSw); go_simp; (try with_reducible rfl); done))
      (try simp only [Act.put, List.setIfInBounds_toArray, List.set_cons_zero, List.set_cons_succ])
      clear hG
      refine until_step (i := 9) (o := _) (by kernel_rfl) (getop rfl) (by kernel_rfl) (fun K hK => ?_)
      go_simp
      refine (HWK.out _).mono ?_
      rintro e wq ⟨rfl, hb⟩
      replace hS := hS.lo hb
      replace hF := hF.lo hb
      replace hQ := hQ.lo hb
      replace hown := own_lo hown hb
      replace hrdy := own_lo hrdy hb
      replace hKp := hKp.lo hb
      clear hb
      refine hK.out _ _ (by have a := hS.facts.1 5; exact ⟨a, hS.lt, hF.lt⟩) ?_
      clear hK K
      (try simp only [Act.put, List.setIfInBounds_toArray, List.set_cons_zero, List.set_cons_succ])
      (refine until_take2 (i := 10) (oi := _) (v := ?_) (getop rfl) (by decide) (by kernel_rfl) (by kernel_rfl) (by kernel_rfl) (fun _ _ _ h => h) (Or.inl ⟨by rfl, ?_⟩) ⟨(by have a := hS.facts.1 5; exact ⟨a, hS.lt, hF.lt⟩), Or.inl (by kernel_rfl)⟩ ?_; rotate_left; focus (intro w hSw; (try dsimp only at hSw); go_simp; (try with_reducible rfl); done))
      (try simp only [Act.put, List.setIfInBounds_toArray, List.set_cons_zero, List.set_cons_succ])
      (refine until_take2 (i := 11) (oi := _) (v := ?_) (getop rfl) (by decide) (by kernel_rfl) (by kernel_rfl) (by kernel_rfl) (fun _ _ _ h => h) (Or.inl ⟨by rfl, ?_⟩) ⟨(by have a := hS.facts.1 5; exact ⟨a, hS.lt, hF.lt⟩), Or.inl (by kernel_rfl)⟩ ?_; rotate_left; focus (intro w hSw; (try dsimp only at hSw); go_simp; (try with_reducible rfl); done))
      (try simp only [Act.put, List.setIfInBounds_toArray, List.set_cons_zero, List.set_cons_succ])
      refine until_step (i := 12) (o := _) (by kernel_rfl) (getop rfl) (by kernel_rfl) (fun K hK => ?_)
      obtain ⟨cT, fT⟩ := hF.facts
      have lT := hF.lt
      unfold flowC at cT
      go_simp
      clear cT fT lT
      replace hS := hS.far (p := ⟨g, 1, none⟩) (by dsimp only; exact (Ne.symm HNE.out.1)) (.int .i64 wt)
      replace hQ := hQ.far (p := ⟨g, 1, none⟩) (by dsimp only; exact HNE.out.2.2) (.int .i64 wt)
      replace hown := own_far hown (p := ⟨g, 1, none⟩) (blk_ne_own hown hF (by decide)) (.int .i64 wt)
      replace hrdy := own_far hrdy (p := ⟨g, 1, none⟩) (blk_ne_own hrdy hF (by decide)) (.int .i64 wt)
      replace hF := hF.set_ 1 (.int .i64 wt)
      replace hKp := hKp.set (p := ⟨g, 1, none⟩) (Or.inr rfl) (.int .i64 wt)
      replace hS := hS.far (p := ⟨g, 2, none⟩) (by dsimp only; exact (Ne.symm HNE.out.1)) (.int .i64 (max fi time))
      replace hQ := hQ.far (p := ⟨g, 2, none⟩) (by dsimp only; exact HNE.out.2.2) (.int .i64 (max fi time))
      replace hown := own_far hown (p := ⟨g, 2, none⟩) (blk_ne_own hown hF (by decide)) (.int .i64 (max fi time))
      replace hrdy := own_far hrdy (p := ⟨g, 2, none⟩) (blk_ne_own hrdy hF (by decide)) (.int .i64 (max fi time))
      replace hF := hF.set_ 2 (.int .i64 (max fi time))
      replace hKp := hKp.set (p := ⟨g, 2, none⟩) (Or.inr rfl) (.int .i64 (max fi time))
      replace hS := hS.far (p := ⟨g, 3, none⟩) (by dsimp only; exact (Ne.symm HNE.out.1)) (.int .i64 fi)
      replace hQ := hQ.far (p := ⟨g, 3, none⟩) (by dsimp only; exact HNE.out.2.2) (.int .i64 fi)
      replace hown := own_far hown (p := ⟨g, 3, none⟩) (blk_ne_own hown hF (by decide)) (.int .i64 fi)
      replace hrdy := own_far hrdy (p := ⟨g, 3, none⟩) (blk_ne_own hrdy hF (by decide)) (.int .i64 fi)
      replace hF := hF.set_ 3 (.int .i64 fi)
      replace hKp := hKp.set (p := ⟨g, 3, none⟩) (Or.inr rfl) (.int .i64 fi)
      replace hS := hS.far (p := ⟨g, 4, none⟩) (by dsimp only; exact (Ne.symm HNE.out.1)) (.int .i64 wk)
      replace hQ := hQ.far (p := ⟨g, 4, none⟩) (by dsimp only; exact HNE.out.2.2) (.int .i64 wk)
      replace hown := own_far hown (p := ⟨g, 4, none⟩) (blk_ne_own hown hF (by decide)) (.int .i64 wk)
      replace hrdy := own_far hrdy (p := ⟨g, 4, none⟩) (blk_ne_own hrdy hF (by decide)) (.int .i64 wk)
      replace hF := hF.set_ 4 (.int .i64 wk)
      replace hKp := hKp.set (p := ⟨g, 4, none⟩) (Or.inr rfl) (.int .i64 wk)
      replace hF : Blk ((((wq.setCell ⟨g, 1, none⟩ (.int .i64 wt)).setCell ⟨g, 2, none⟩ (.int .i64 (max fi time))).setCell ⟨g, 3, none⟩ (.int .i64 fi)).setCell ⟨g, 4, none⟩ (.int .i64 wk)) g 62 (flowC c ⟨wt, max fi time, fi, wk⟩ limit (.slice A l.length cap)) := by simpa [schedC, flowC] using hF
      generalize ((((wq.setCell ⟨g, 1, none⟩ (.int .i64 wt)).setCell ⟨g, 2, none⟩ (.int .i64 (max fi time))).setCell ⟨g, 3, none⟩ (.int .i64 fi)).setCell ⟨g, 4, none⟩ (.int .i64 wk)) = wr at hS hF hQ hown hrdy hKp ⊢
      refine hK.out _ _ (by have a := hS.facts.1 5; exact ⟨a, hS.lt, hF.lt⟩) ?_
      clear hK K
      (try simp only [Act.put, List.setIfInBounds_toArray, List.set_cons_zero, List.set_cons_succ])
      refine until_done (by kernel_rfl) ?_ _
      go_upto_region 13 with fail
      refine wp_region_until (S := (fun W => W.cell? ⟨s, 4, none⟩ = some (.slice Ar ready.length capr))) (S2 := (fun W => W.cell? ⟨g, 2, none⟩ = some (.int .i64 (max fi time)) ∧ s < W.heap.size ∧ g < W.heap.size)) 12 (by kernel_rfl) ?_
      replace hS : Blk wr.drew _ _ _ := hS
      replace hF : Blk wr.drew _ _ _ := hF
      replace hQ : Blk wr.drew _ _ _ := hQ
      replace hown : wr.drew.ownsRow _ _ _ _ _ _ := hown
      replace hrdy : wr.drew.ownsRow _ _ _ _ _ _ := hrdy
      replace hKp := hKp.drew
      generalize wr.drew = we at hS hF hQ hown hrdy hKp ⊢
      have hG : (fun W => W.cell? ⟨g, 2, none⟩ = some (.int .i64 (max fi time)) ∧ s < W.heap.size ∧ g < W.heap.size) we ∧ (fun W => W.cell? ⟨s, 4, none⟩ = some (.slice Ar ready.length capr)) we := by have a := hS.facts.1; have b := hF.facts.1; exact ⟨⟨b 2, hS.lt, hF.lt⟩, a 4⟩
      dsimp only at hG
      (refine until_take2 (i := 0) (oi := _) (v := ?_) (getop rfl) (by decide) (by kernel_rfl) (by kernel_rfl) (by kernel_rfl) (fun _ _ _ h => h) (Or.inl ⟨by rfl, ?_⟩) ⟨hG.1, Or.inr hG.2⟩ ?_; rotate_left; focus (intro w hSw; (try dsimp only at hSw); go_simp; (try with_reducible rfl); done))
      (try simp only [Act.put, List.setIfInBounds_toArray, List.set_cons_zero, List.set_cons_succ])
      (refine until_take2 (i := 1) (oi := _) (v := ?_) (getop rfl) (by decide) (by kernel_rfl) (by kernel_rfl) (by kernel_rfl) (fun _ _ _ h => h) (Or.inl ⟨by rfl, ?_⟩) ⟨hG.1, Or.inr hG.2⟩ ?_; rotate_left; focus (intro w hSw; (try dsimp only at hSw); go_simp; (try with_reducible rfl); done))
      (try simp only [Act.put, List.setIfInBounds_toArray, List.set_cons_zero, List.set_cons_succ])
      (refine until_take2 (i := 2) (oi := _) (v := ?_) (getop rfl) (by decide) (by kernel_rfl) (by kernel_rfl) (by kernel_rfl) (fun _ _ _ h => h) (Or.inl ⟨by rfl, ?_⟩) ⟨hG.1, Or.inr hG.2⟩ ?_; rotate_left; focus (intro w hSw; (try dsimp only at hSw); go_simp; (try with_reducible rfl); done))
      (try simp only [Act.put, List.setIfInBounds_toArray, List.set_cons_zero, List.set_cons_succ])
      (refine until_take2 (i := 3) (oi := _) (v := ?_) (getop rfl) (by decide) (by kernel_rfl) (by kernel_rfl) (by kernel_rfl) (fun _ _ _ h => h) (Or.inl ⟨by rfl, ?_⟩) ⟨hG.1, Or.inr hG.2⟩ ?_; rotate_left; focus (intro w hSw; (try dsimp only at hSw); go_simp; (try with_reducible rfl); done))
      (try simp only [Act.put, List.setIfInBounds_toArray, List.set_cons_zero, List.set_cons_succ])
      (refine until_take (i := 4) (oi := _) (op := _) (v := ?_) (getop rfl) (getop rfl) (by kernel_rfl) (by decide) (by kernel_rfl) (by kernel_rfl) (by kernel_rfl) (by kernel_rfl) (fun _ _ _ h => h) (Or.inl ⟨by rfl, ?_⟩) hG ?_; rotate_left; focus (intro w hSw; (try dsimp only at hSw); go_simp; (try with_reducible rfl); done))
      (try simp only [Act.put, List.setIfInBounds_toArray, List.set_cons_zero, List.set_cons_succ])
      (refine until_take2 (i := 5) (oi := _) (v := ?_) (getop rfl) (by decide) (by kernel_rfl) (by kernel_rfl) (by kernel_rfl) (fun _ _ _ h => h) (Or.inl ⟨by rfl, ?_⟩) ⟨hG.1, Or.inr hG.2⟩ ?_; rotate_left; focus (intro w hSw; (try dsimp only at hSw); go_simp; (try with_reducible rfl); done))
      (try simp only [Act.put, List.setIfInBounds_toArray, List.set_cons_zero, List.set_cons_succ])
      (refine until_take2 (i := 6) (oi := _) (v := ?_) (getop rfl) (by decide) (by kernel_rfl) (by kernel_rfl) (by kernel_rfl) (fun _ _ _ h => h) (Or.inl ⟨by rfl, ?_⟩) ⟨hG.1, Or.inr hG.2⟩ ?_; rotate_left; focus (intro w hSw; (try dsimp only at hSw); go_simp; (try with_reducible rfl); done))
      (try simp only [Act.put, List.setIfInBounds_toArray, List.set_cons_zero, List.set_cons_succ])
      (refine until_take2 (i := 7) (oi := _) (v := ?_) (getop rfl) (by decide) (by kernel_rfl) (by kernel_rfl) (by kernel_rfl) (fun _ _ _ h => h) (Or.inl ⟨by rfl, ?_⟩) ⟨hG.1, Or.inr hG.2⟩ ?_; rotate_left; focus (intro w hSw; (try dsimp only at hSw); go_simp; (try with_reducible rfl); done))
      (try simp only [Act.put, List.setIfInBounds_toArray, List.set_cons_zero, List.set_cons_succ])
      (refine until_take2 (i := 8) (oi := _) (v := ?_) (getop rfl) (by decide) (by kernel_rfl) (by kernel_rfl) (by kernel_rfl) (fun _ _ _ h => h) (Or.inl ⟨by rfl, ?_⟩) ⟨hG.1, Or.inr hG.2⟩ ?_; rotate_left; focus (intro w hSw; (try dsimp only at hSw); go_simp; (try with_reducible rfl); done))
      (try simp only [Act.put, List.setIfInBounds_toArray, List.set_cons_zero, List.set_cons_succ])
      (refine until_take2 (i := 9) (oi := _) (v := ?_) (getop rfl) (by decide) (by kernel_rfl) (by kernel_rfl) (by kernel_rfl) (fun _ _ _ h => h) (Or.inl ⟨by rfl, ?_⟩) ⟨hG.1, Or.inr hG.2⟩ ?_; rotate_left; focus (intro w hSw; (try dsimp only at hSw); go_simp; (try with_reducible rfl); done))
      (try simp only [Act.put, List.setIfInBounds_toArray, List.set_cons_zero, List.set_cons_succ])
      (refine until_take2 (i := 10) (oi := _) (v := ?_) (getop rfl) (by decide) (by kernel_rfl) (by kernel_rfl) (by kernel_rfl) (fun _ _ _ h => h) (Or.inl ⟨by rfl, ?_⟩) ⟨hG.1, Or.inr hG.2⟩ ?_; rotate_left; focus (intro w hSw; (try dsimp only at hSw); go_simp; (try with_reducible rfl); done))
      (try simp only [Act.put, List.setIfInBounds_toArray, List.set_cons_zero, List.set_cons_succ])
      (refine until_take2 (i := 11) (oi := _) (v := ?_) (getop rfl) (by decide) (by kernel_rfl) (by kernel_rfl) (by kernel_rfl) (fun _ _ _ h => h) (Or.inl ⟨by rfl, ?_⟩) ⟨hG.1, Or.inr hG.2⟩ ?_; rotate_left; focus (intro w hSw; (try dsimp only at hSw); go_simp; (try with_reducible rfl); done))
      (try simp only [Act.put, List.setIfInBounds_toArray, List.set_cons_zero, List.set_cons_succ])
      clear hG
      refine until_step (i := 12) (o := _) (by kernel_rfl) (getop rfl) (by kernel_rfl) (fun K hK => ?_)
      go_simp
      refine (HPU.out _ (own_its_at hrdy)).mono ?_
      rintro e wg ⟨r2, base2, u2, hper, hok2, b1, b2, rfl, hown2, hb⟩
      obtain ⟨g2, c2, rfl, _, _⟩ := hown2.form (by rw [hper.length_eq]; simp)
      replace hS := hS.lo hb
      replace hF := hF.lo hb
      replace hQ := hQ.lo hb
      replace hown := own_lo hown hb
      replace hKp := hKp.lo hb
      clear hb hrdy
      have hrdy := hown2
      clear hown2
      refine hK.out _ _ (by have b := hF.facts.1 2; exact ⟨b, hS.lt, hF.lt⟩) ?_
      clear hK K
      (try simp only [Act.put, List.setIfInBounds_toArray, List.set_cons_zero, List.set_cons_succ])
      (refine until_take2 (i := 13) (oi := _) (v := ?_) (getop rfl) (by decide) (by kernel_rfl) (by kernel_rfl) (by kernel_rfl) (fun _ _ _ h => h) (Or.inl ⟨by rfl, ?_⟩) ⟨(by have b := hF.facts.1 2; exact ⟨b, hS.lt, hF.lt⟩), Or.inl (by kernel_rfl)⟩ ?_; rotate_left; focus (intro w hSw; (try dsimp only at hSw); go_simp; (try with_reducible rfl); done))
      (try simp only [Act.put, List.setIfInBounds_toArray, List.set_cons_zero, List.set_cons_succ])
      (refine until_take2 (i := 14) (oi := _) (v := ?_) (getop rfl) (by decide) (by kernel_rfl) (by kernel_rfl) (by kernel_rfl) (fun _ _ _ h => h) (Or.inl ⟨by rfl, ?_⟩) ⟨(by have b := hF.facts.1 2; exact ⟨b, hS.lt, hF.lt⟩), Or.inl (by kernel_rfl)⟩ ?_; rotate_left; focus (intro w hSw; (try dsimp only at hSw); go_simp; (try with_reducible rfl); done))
      (try simp only [Act.put, List.setIfInBounds_toArray, List.set_cons_zero, List.set_cons_succ])
      refine until_step (i := 15) (o := _) (by kernel_rfl) (getop rfl) (by kernel_rfl) (fun K hK => ?_)
      obtain ⟨cT, fT⟩ := hS.facts
      have lT := hS.lt
      unfold schedC at cT
      go_simp
      clear cT fT lT
      replace hF := hF.far (p := ⟨s, 4, none⟩) (by dsimp only; exact HNE.out.1) (.slice (some ⟨g2, 0, none⟩) r2.length c2)
      replace hQ := hQ.far (p := ⟨s, 4, none⟩) (by dsimp only; exact HNE.out.2.1) (.slice (some ⟨g2, 0, none⟩) r2.length c2)
      replace hown := own_far hown (p := ⟨s, 4, none⟩) (blk_ne_own hown hS (by decide)) (.slice (some ⟨g2, 0, none⟩) r2.length c2)
      replace hrdy := own_far hrdy (p := ⟨s, 4, none⟩) (blk_ne_own hrdy hS (by decide)) (.slice (some ⟨g2, 0, none⟩) r2.length c2)
      replace hS := hS.set_ 4 (.slice (some ⟨g2, 0, none⟩) r2.length c2)
      replace hKp := hKp.set (p := ⟨s, 4, none⟩) (Or.inl rfl) (.slice (some ⟨g2, 0, none⟩) r2.length c2)
      replace hS : Blk (wg.setCell ⟨s, 4, none⟩ (.slice (some ⟨g2, 0, none⟩) r2.length c2)) s 50 (schedC ⟨quantum, limit, time, work, fl, r2⟩ uo mo (.slice (some ⟨g2, 0, none⟩) r2.length c2)) := by simpa [schedC, flowC] using hS
      generalize (wg.setCell ⟨s, 4, none⟩ (.slice (some ⟨g2, 0, none⟩) r2.length c2)) = wh at hS hF hQ hown hrdy hKp ⊢
      refine hK.out _ _ (by have b := hF.facts.1 2; exact ⟨b, hS.lt, hF.lt⟩) ?_
      clear hK K
      (try simp only [Act.put, List.setIfInBounds_toArray, List.set_cons_zero, List.set_cons_succ])
      refine until_done (by kernel_rfl) ?_ _
      go_upto_region 14 with fail
      obtain ⟨cF, fF⟩ := hF.facts
      obtain ⟨cQ, fQ⟩ := hQ.facts
      unfold flowC at cF
      have lF := hF.lt
      go_wp2_with fail
      go_ret
      replace hS := (hS.far (p := ⟨g, 5, none⟩) (by dsimp only; exact Ne.symm HNE.out.1) (.int .i64 limit)).far (p := ⟨g, 6, none⟩) (by dsimp only; exact Ne.symm HNE.out.1) (.slice (some ⟨gr, 0, none⟩) (l.length + 1) cr)
      replace hown := own_far hown (p := ⟨g, 5, none⟩) (blk_ne_own hown hF (by decide)) (.int .i64 limit)
      replace hrdy := own_far hrdy (p := ⟨g, 5, none⟩) (blk_ne_own hrdy hF (by decide)) (.int .i64 limit)
      replace hF := hF.set_ 5 (.int .i64 limit)
      replace hown := own_far hown (p := ⟨g, 6, none⟩) (blk_ne_own hown hF (by decide)) (.slice (some ⟨gr, 0, none⟩) (l.length + 1) cr)
      replace hrdy := own_far hrdy (p := ⟨g, 6, none⟩) (blk_ne_own hrdy hF (by decide)) (.slice (some ⟨gr, 0, none⟩) (l.length + 1) cr)
      replace hF := hF.set_ 6 (.slice (some ⟨gr, 0, none⟩) (l.length + 1) cr)
      replace hKp := (hKp.set (p := ⟨g, 5, none⟩) (Or.inr rfl) (.int .i64 limit)).set (p := ⟨g, 6, none⟩) (Or.inr rfl) (.slice (some ⟨gr, 0, none⟩) (l.length + 1) cr)
      have hF2 : FlowAt ((wh.setCell ⟨g, 5, none⟩ (.int .i64 limit)).setCell ⟨g, 6, none⟩ (.slice (some ⟨gr, 0, none⟩) (l.length + 1) cr)) g c limit ⟨⟨wt, max fi time, fi, wk⟩, l ++ [⟨id, rank, cost, 0⟩]⟩ := ⟨.slice (some ⟨gr, 0, none⟩) (l.length + 1) cr, by simpa [flowC] using hF, by rw [List.length_append]; exact hown.mono (Nat.zero_le _)⟩
      have hSt2 := HSt.out.next hc (by rw [HGE.out]; exact hKp) time work ⟨⟨wt, max fi time, fi, wk⟩, l ++ [⟨id, rank, cost, 0⟩]⟩ r2 (.slice (some ⟨g2, 0, none⟩) r2.length c2) hS (hrdy.mono (Nat.zero_le _)) (by rw [HGE.out]; exact hF2)
      exact .inr ⟨HC.out, rfl, .slice (some ⟨g2, 0, none⟩) r2.length c2, _, ⟨⟨⟨wt, st, fi, wk⟩, l⟩, HFC.out, .inr ⟨HL0.out, r2, hper, hok2, rfl⟩⟩, hSt2, HB.out.trans (hKp.below HSt.out.bs (by have := HSt.out.bg g (by rw [← HGE.out]; exact List.getElem_mem _); exact this) (Nat.le_trans hBw HB.out.size))⟩
    · have hz' : 0 < l.length := by omega
      rw [decide_eq_true hz']
      have hne : l ≠ [] := fun e => hz (by rw [e]; rfl)
      go_upto_region 14 with fail
      clear cF fF lF
      obtain ⟨cF, fF⟩ := hF.facts
      obtain ⟨cQ, fQ⟩ := hQ.facts
      unfold flowC at cF
      have lF := hF.lt
      go_wp2_with fail
      go_ret
      replace hS := (hS.far (p := ⟨g, 5, none⟩) (by dsimp only; exact Ne.symm HNE.out.1) (.int .i64 limit)).far (p := ⟨g, 6, none⟩) (by dsimp only; exact Ne.symm HNE.out.1) (.slice (some ⟨gr, 0, none⟩) (l.length + 1) cr)
      replace hown := own_far hown (p := ⟨g, 5, none⟩) (blk_ne_own hown hF (by decide)) (.int .i64 limit)
      replace hrdy := own_far hrdy (p := ⟨g, 5, none⟩) (blk_ne_own hrdy hF (by decide)) (.int .i64 limit)
      replace hF := hF.set_ 5 (.int .i64 limit)
      replace hown := own_far hown (p := ⟨g, 6, none⟩) (blk_ne_own hown hF (by decide)) (.slice (some ⟨gr, 0, none⟩) (l.length + 1) cr)
      replace hrdy := own_far hrdy (p := ⟨g, 6, none⟩) (blk_ne_own hrdy hF (by decide)) (.slice (some ⟨gr, 0, none⟩) (l.length + 1) cr)
      replace hF := hF.set_ 6 (.slice (some ⟨gr, 0, none⟩) (l.length + 1) cr)
      replace hKp := (hKp.set (p := ⟨g, 5, none⟩) (Or.inr rfl) (.int .i64 limit)).set (p := ⟨g, 6, none⟩) (Or.inr rfl) (.slice (some ⟨gr, 0, none⟩) (l.length + 1) cr)
      have hF2 : FlowAt ((wz0.setCell ⟨g, 5, none⟩ (.int .i64 limit)).setCell ⟨g, 6, none⟩ (.slice (some ⟨gr, 0, none⟩) (l.length + 1) cr)) g c limit ⟨⟨wt, st, fi, wk⟩, l ++ [⟨id, rank, cost, 0⟩]⟩ := ⟨.slice (some ⟨gr, 0, none⟩) (l.length + 1) cr, by simpa [flowC] using hF, by rw [List.length_append]; exact hown.mono (Nat.zero_le _)⟩
      have hSt2 := HSt.out.next hc (by rw [HGE.out]; exact hKp) time work ⟨⟨wt, st, fi, wk⟩, l ++ [⟨id, rank, cost, 0⟩]⟩ ready (.slice Ar ready.length capr) hS (hrdy.mono (Nat.zero_le _)) (by rw [HGE.out]; exact hF2)
      exact .inr ⟨HC.out, rfl, .slice Ar ready.length capr, _, ⟨⟨⟨wt, st, fi, wk⟩, l⟩, HFC.out, .inl ⟨hne, rfl⟩⟩, hSt2, HB.out.trans (hKp.below HSt.out.bs (by have := HSt.out.bg g (by rw [← HGE.out]; exact List.getElem_mem _); exact this) (Nat.le_trans hBw HB.out.size))⟩
end Go.Proofs.Ytfpagiojdgdbeaa
