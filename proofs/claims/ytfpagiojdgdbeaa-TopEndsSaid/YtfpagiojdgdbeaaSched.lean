import Derived.Test.YtfpagiojdgdbeaaMap
namespace Go.Proofs.Ytfpagiojdgdbeaa
open Go.RowKit
attribute [local go_sem ↓] Go.wp_at_zero Go.wp_at_succ

/-- A flow: its tag, and what waits. -/
structure Fl where
  tg : Tg
  l : List Rq
/-- A scheduler. -/
structure Sc where
  quantum : Int
  limit : Int
  time : Int
  work : Int
  fl : List Fl
  ready : List (Int × Int)
def flowC (c : Nat) (t : Tg) (lim : Int) (u : Value) : Array Value := #[.int .i64 c, .int .i64 t.weight, .int .i64 t.start, .int .i64 t.finish, .int .i64 t.work, .int .i64 lim, u]
def FlowAt (w : World) (g c : Nat) (lim : Int) (f : Fl) : Prop := ∃ u, Blk w g 62 (flowC c f.tg lim u) ∧ w.ownsRow 0 68 4 u f.l.length (f.l.flatMap cellsR)
def ordC (n : Nat) : List Value := (List.range n).map fun c : Nat => .int .i64 (c : Int)
def schedC (σ : Sc) (uo : Value) (mo : Nat) (ur : Value) : Array Value := #[.int .i64 σ.quantum, .int .i64 σ.limit, uo, .map (some mo), ur, .int .i64 σ.time, .int .i64 σ.work]
/-- A scheduler in memory. -/
structure St (B : Nat) (w : World) (s : Nat) (σ : Sc) (gs : List Nat) (uo : Value) (mo : Nat) (ur : Value) : Prop where
  blk : Blk w s 50 (schedC σ uo mo ur)
  ord : w.ownsRow B 3 1 uo gs.length (ordC gs.length)
  rdy : w.ownsRow 0 64 2 ur σ.ready.length (σ.ready.flatMap cellsI)
  map : mapAt w mo gs
  bs : B ≤ s
  bm : B ≤ mo
  bg : ∀ g ∈ gs, B ≤ g
  len : σ.fl.length = gs.length
  fl : ∀ c (h : c < gs.length) (h2 : c < σ.fl.length), FlowAt w gs[c] c σ.limit σ.fl[c]
theorem FlowAt.lo {w w' : World} {g c : Nat} {lim : Int} {f : Fl} (h : FlowAt w g c lim f) (hb : Below w.heap.size w w') : FlowAt w' g c lim f := by
  obtain ⟨u, h1, h2⟩ := h
  exact ⟨u, h1.lo hb, own_lo h2 hb⟩
theorem St.lo {B : Nat} {w w' : World} {s : Nat} {σ : Sc} {gs : List Nat} {uo : Value} {mo : Nat} {ur : Value} (h : St B w s σ gs uo mo ur) (hb : Below w.heap.size w w') : St B w' s σ gs uo mo ur :=
  ⟨h.blk.lo hb, own_lo h.ord hb, own_lo h.rdy hb, h.map.lo (hb.block mo h.map.lt), h.bs, h.bm, h.bg, h.len, fun c h1 h2 => (h.fl c h1 h2).lo hb⟩
/-- All but the blocks s and g is as it was. -/
structure Kept (w w' : World) (s g : Nat) : Prop where
  os : w'.os = w.os
  tape : w'.tape = w.tape
  output : w'.output = w.output
  size : w.heap.size ≤ w'.heap.size
  block : ∀ k, k < w.heap.size → k ≠ s → k ≠ g → w'.heap[k]? = w.heap[k]?
theorem Kept.refl (w : World) (s g : Nat) : Kept w w s g := ⟨rfl, rfl, rfl, Nat.le_refl _, fun _ _ _ _ => rfl⟩
theorem Kept.lo {a b c : World} {s g : Nat} (h : Kept a b s g) (hb : Below b.heap.size b c) : Kept a c s g :=
  ⟨hb.os.trans h.os, hb.tape.trans h.tape, hb.output.trans h.output, Nat.le_trans h.size hb.size, fun k hk h1 h2 => (hb.block k (Nat.lt_of_lt_of_le hk h.size)).trans (h.block k hk h1 h2)⟩
theorem Kept.set {a b : World} {s g : Nat} (h : Kept a b s g) {p : Addr} (hp : p.block = s ∨ p.block = g) (u : Value) : Kept a (b.setCell p u) s g :=
  ⟨h.os, h.tape, h.output, by simpa using h.size, fun k hk h1 h2 => (heap_setCell_other b p k u (by rcases hp with hp | hp <;> omega)).trans (h.block k hk h1 h2)⟩
theorem Kept.drew {a b : World} {s g : Nat} (h : Kept a b s g) : Kept a b.drew s g := ⟨h.os, h.tape, h.output, h.size, h.block⟩
theorem Kept.alloc {a b : World} {s g : Nat} (h : Kept a b s g) (o : Obj) : Kept a (b.alloc o) s g := h.lo (lo_alloc (lo_refl b) o)
theorem Kept.below {a b : World} {s g B : Nat} (h : Kept a b s g) (hs : B ≤ s) (hg : B ≤ g) (hB : B ≤ a.heap.size) : Below B a b :=
  ⟨h.os, h.tape, h.output, h.size, fun k hk => h.block k (by omega) (by omega) (by omega)⟩
theorem Blk.kept {a b : World} {s g x : Nat} {t : TypeId} {cs : Array Value} (h : Blk a x t cs) (hk : Kept a b s g) (h1 : x ≠ s) (h2 : x ≠ g) : Blk b x t cs := (hk.block x h.lt h1 h2).trans h
/-- A row of elements of another type than the two blocks. -/
theorem own_kept {a b : World} {s g base size n : Nat} {e : TypeId} {v : Value} {xs : List Value} {c1 c2 : Array Value} (h : a.ownsRow base e size v n xs) (hk : Kept a b s g) (hs : Blk a s 50 c1) (hg : Blk a g 62 c2) (h50 : e ≠ 50) (h62 : e ≠ 62) : b.ownsRow base e size v n xs := by
  refine ⟨h.1, ?_⟩
  rcases h.2 with h2 | ⟨x, cap, cur, hv, hg', hh, r⟩
  · exact .inl h2
  · refine .inr ⟨x, cap, cur, hv, hg', ?_, r⟩
    have hlt : x < a.heap.size := (Array.getElem?_eq_some_iff.1 hh).1
    rw [hk.block x hlt ?_ ?_]
    · exact hh
    · rintro rfl
      unfold Blk at hs
      rw [hh] at hs
      injection hs with hs
      injection hs with _ hs
      exact h50 hs
    · rintro rfl
      unfold Blk at hg
      rw [hh] at hg
      injection hg with hg
      injection hg with _ hg
      exact h62 hg
theorem Blk.inj {w : World} {g : Nat} {t t' : TypeId} {a b : Array Value} (h : Blk w g t a) (k : Blk w g t' b) : t = t' ∧ a = b := by
  unfold Blk at h k
  rw [h] at k
  injection k with k
  injection k with k1 k2
  exact ⟨k2, k1⟩
/-- The scheduler, one of whose flows has turned. -/
theorem St.next {B : Nat} {w w' : World} {s : Nat} {σ : Sc} {gs : List Nat} {uo : Value} {mo : Nat} {ur : Value} (h : St B w s σ gs uo mo ur) {c : Nat} (hc : c < gs.length) (hk : Kept w w' s gs[c])
    (time work : Int) (f : Fl) (ready : List (Int × Int)) (ur' : Value) (hS : Blk w' s 50 (schedC ⟨σ.quantum, σ.limit, time, work, σ.fl, ready⟩ uo mo ur')) (hr : w'.ownsRow 0 64 2 ur' ready.length (ready.flatMap cellsI)) (hF : FlowAt w' gs[c] c σ.limit f) :
    St B w' s ⟨σ.quantum, σ.limit, time, work, σ.fl.set c f, ready⟩ gs uo mo ur' := by
  obtain ⟨u0, hg0, hr0⟩ := h.fl c hc (by rw [h.len]; exact hc)
  refine ⟨hS, own_kept h.ord hk h.blk hg0 (by decide) (by decide), hr, h.map.lo ?_, h.bs, h.bm, h.bg, by simp [h.len], fun d hd hd2 => ?_⟩
  · refine hk.block mo h.map.lt ?_ ?_
    · rintro rfl
      obtain ⟨es, clock, hm, _⟩ := h.map
      have := h.blk
      unfold Blk at this
      rw [hm] at this
      cases this
    · rintro e
      obtain ⟨es, clock, hm, _⟩ := h.map
      unfold Blk at hg0
      rw [← e, hm] at hg0
      cases hg0
  · by_cases hdc : d = c
    · subst hdc
      simpa using hF
    · have hd3 : d < σ.fl.length := by simpa using hd2
      have he : (σ.fl.set c f)[d]'hd2 = σ.fl[d] := by rw [List.getElem_set_ne (by omega)]
      obtain ⟨u, hb, hr⟩ := h.fl d hd hd3
      have h1 : gs[d] ≠ s := fun e => by
        rw [e] at hb
        have := (hb.inj h.blk).1
        exact absurd this (by decide)
      have h2 : gs[d] ≠ gs[c] := fun e => by
        rw [e] at hb
        have := (hb.inj hg0).2
        have h0 := congrArg (fun a : Array Value => a[0]?) this
        simp [flowC] at h0
        exact hdc (by omega)
      show FlowAt w' gs[d] d σ.limit ((σ.fl.set c f)[d]'hd2)
      rw [he]
      exact ⟨u, hb.kept hk h1 h2, own_kept hr hk h.blk hg0 (by decide) (by decide)⟩
/-- How much work there is. -/
def backL (l : List Fl) : Int := (l.map fun f => leftL f.l).sum
theorem back_snoc (l : List Fl) (f : Fl) : backL (l ++ [f]) = backL l + leftL f.l := by simp [backL]
theorem back_take {l : List Fl} {k : Nat} (h : k < l.length) : backL (l.take (k + 1)) = backL (l.take k) + leftL l[k].l := by
  rw [← List.take_append_getElem h, back_snoc]
theorem back_le {l : List Fl} {lim : Int} (h : ∀ f ∈ l, okQ lim f.l) : 0 ≤ backL l ∧ backL l ≤ l.length * 17592186044416 := by
  induction l with
  | nil => exact ⟨Int.le_refl _, by simp [backL]⟩
  | cons x t ih =>
    have h1 := ih fun y hy => h y (List.mem_cons_of_mem _ hy)
    have h2 := h x (List.mem_cons_self ..)
    have h3 := left_le h2.2.2.1
    have h4 := h2.2.1
    have e : backL (x :: t) = leftL x.l + backL t := rfl
    rw [e, List.length_cons]
    omega
theorem ord_get {n k : Nat} (h : k < n) : (ordC n)[k]? = some (.int .i64 k) := by simp [ordC, h]
set_option maxRecDepth 100000 in
set_option maxHeartbeats 1600000 in
theorem backlog_ok (B : Nat) (w : World) (s : Nat) (σ : Sc) (gs : List Nat) (uo : Value) (mo : Nat) (ur : Value) (h : St B w s σ gs uo mo ur) (hok : ∀ f ∈ σ.fl, okQ σ.limit f.l) (hn : gs.length ≤ 8) (hn0 : 0 < gs.length) :
    Calls Try.prog 22 #[.pointer (some ⟨s, 0, none⟩)] w (IntPost w (backL σ.fl)) := by
  obtain ⟨go, co, rfl, _, hgl⟩ := h.ord.form hn0
  have HS := Lib.hid h
  have HO := Lib.hid hok
  have hlen := h.len
  have hL := lo_refl w
  have hS := h.blk
  clear h hok
  obtain ⟨cS, fS⟩ := hS.facts
  unfold schedC at cS
  go_enter Try.func22, Try.ntmps22
  go_upto_region 5 with fail
  clear cS fS
  go_loopw [3, 5, 13] (fun z _ y wr => ∃ k : Nat, k ≤ gs.length ∧ y = .int .i64 k ∧ z = .int .i64 (backL (σ.fl.take k)) ∧ Below w.heap.size w wr) (fun _ _ y _ => gs.length - (intOf y).toNat)
  case atStart => exact ⟨0, by omega, rfl, rfl, hL⟩
  case round =>
  clear hL
  obtain ⟨k, hk, rfl, rfl, hL⟩ := hrel
  by_cases hkl : k < gs.length
  · have hkl' : (k : Int) < (gs.length : Int) := by omega
    have hT := HS.out.lo hL
    have co := (hT.ord.cellAt k (by omega)).trans (ord_get hkl)
    have lo := (hT.ord.lt go rfl).2
    have hlk := lookup_hit hT.map k hkl
    obtain ⟨u, hF, hrow⟩ := hT.fl k hkl (by omega)
    obtain ⟨A, cap, rfl, hrq⟩ := own_rqs hrow
    have hst := back_take (l := σ.fl) (k := k) (by omega)
    have hbd := back_le (l := σ.fl.take k) fun x hx => HO.out x (List.mem_of_mem_take hx)
    have hq := HO.out σ.fl[k] (List.getElem_mem _)
    have hl9 := left_le hq.2.2.1
    have hq16 := hq.2.1
    rw [List.length_take] at hbd
    obtain ⟨cS, fS⟩ := hT.blk.facts
    obtain ⟨cF, fF⟩ := hF.facts
    unfold schedC at cS
    unfold flowC at cF
    have HC : Hid (∀ w0, Rqs w0 A (σ.fl[k]).l.length cap (σ.fl[k]).l → Calls Try.prog 39 #[.agg #[.int .i64 σ.limit, .slice A (σ.fl[k]).l.length cap]] w0 (IntPost w0 (leftL (σ.fl[k]).l))) := Lib.hid fun w0 h0 => left_ok σ.limit A _ cap _ w0 h0 hq
    have lg := hF.lt
    have HRQ := Lib.hid hrq
    clear hrow hrq hT hF hq
    generalize gs[k] = g at hlk cF fF lg
    generalize σ.fl[k] = f at cF HC HRQ hst hl9 hq16
    obtain ⟨⟨f1, f2, f3, f4⟩, l⟩ := f
    dsimp only at cF HC HRQ hst hl9 hq16
    generalize backL (σ.fl.take k) = sm at hst hbd ⊢
    generalize leftL l = lf at hst hl9 HC
    have hw : IntKind.i64.wrap (sm + lf) = sm + lf := IntWalk.i64_in _ (by omega)
    have HST := Lib.hid hst
    clear hst hbd hl9
    go_wp2_with fail
    refine (HC.out _ HRQ.out).mono ?_
    rintro e w2 ⟨rfl, hb⟩
    replace hL := lo_trans hL hb
    clear hb cS fS cF fF hlk co lo lg
    go_wp2_with fail
    go_roundw
    case rel => exact ⟨k + 1, by omega, by go_num, by rw [HST.out], hL⟩
    case measure => simp [intOf]; omega
  · have hkl' : ¬ (k : Int) < (gs.length : Int) := by omega
    have hM := Lib.hid hL
    have hke : σ.fl.take k = σ.fl := List.take_of_length_le (by omega)
    rw [hke]
    clear hL hke
    go_wp2_with fail
    go_ret
    exact ⟨rfl, hM.out⟩
end Go.Proofs.Ytfpagiojdgdbeaa
