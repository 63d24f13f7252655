import Derived.Test.YtfpagiojdgdbeaaServeDef
namespace Go.Proofs.Ytfpagiojdgdbeaa
open Go.RowKit
attribute [local go_sem ↓] Go.wp_at_zero Go.wp_at_succ

/-- The ready flows stand in the heap, each once. -/
structure Rdy (fl : List Fl) (ready : List (Int × Int)) : Prop where
  heap : heapOk ready
  nodup : (ready.map Prod.snd).Nodup
  from_ : ∀ p ∈ ready, ∃ c f, fl[c]? = some f ∧ f.l ≠ [] ∧ p = (f.tg.start, ((c : Nat) : Int))
  tom : ∀ (c : Nat) f, fl[c]? = some f → f.l ≠ [] → (f.tg.start, (c : Int)) ∈ ready
theorem ids_le : ∀ (n : Nat) (l : List Int), l.Nodup → (∀ x ∈ l, 0 ≤ x ∧ x < n) → l.length ≤ n
  | 0, l, _, h => by
    cases l with
    | nil => exact Nat.le_refl _
    | cons x t => have := h x (List.mem_cons_self ..); omega
  | n + 1, l, hd, h => by
    have h1 := ids_le n (l.erase n) (hd.erase _) fun x hx => by
      have h2 := h x (List.mem_of_mem_erase hx)
      have h3 : x ≠ n := fun e => by
        rw [e] at hx
        exact (List.Nodup.not_mem_erase hd) hx
      omega
    have h4 := List.length_erase_le (a := (n : Int)) (l := l)
    have h5 : l.length ≤ (l.erase (n : Int)).length + 1 := by
      rw [List.length_erase]
      split <;> omega
    omega
theorem Rdy.len {fl : List Fl} {ready : List (Int × Int)} (h : Rdy fl ready) : ready.length ≤ fl.length := by
  have := ids_le fl.length (ready.map Prod.snd) h.nodup fun x hx => by
    obtain ⟨p, hp, rfl⟩ := List.mem_map.1 hx
    obtain ⟨c, f, hf, _, rfl⟩ := h.from_ p hp
    have := (List.getElem?_eq_some_iff.1 hf).1
    simp only
    omega
  simpa using this
theorem get_set {fl : List Fl} {c d : Nat} {f g : Fl} (h : (fl.set c g)[d]? = some f) : (d = c ∧ f = g ∧ c < fl.length) ∨ (d ≠ c ∧ fl[d]? = some f) := by
  by_cases e : d = c
  · subst e
    have hl := (List.getElem?_eq_some_iff.1 h).1
    rw [List.length_set] at hl
    rw [List.getElem?_set_self hl] at h
    exact .inl ⟨rfl, (Option.some.inj h).symm, hl⟩
  · rw [List.getElem?_set_ne (Ne.symm e)] at h
    exact .inr ⟨e, h⟩
/-- A flow that had work has it still. -/
theorem Rdy.more {fl : List Fl} {ready : List (Int × Int)} (h : Rdy fl ready) {c : Nat} {f g : Fl} (hf : fl[c]? = some f) (hb : f.l ≠ []) (hg : g.l ≠ []) (hs : g.tg.start = f.tg.start) : Rdy (fl.set c g) ready := by
  have hc := (List.getElem?_eq_some_iff.1 hf).1
  refine ⟨h.heap, h.nodup, fun p hp => ?_, fun d x hx hxl => ?_⟩
  · obtain ⟨d, x, hx, hxl, rfl⟩ := h.from_ p hp
    by_cases e : d = c
    · subst e
      rw [hf] at hx
      obtain rfl := Option.some.inj hx
      exact ⟨d, g, List.getElem?_set_self hc, hg, by rw [hs]⟩
    · exact ⟨d, x, by rw [List.getElem?_set_ne (Ne.symm e)]; exact hx, hxl, rfl⟩
  · rcases get_set hx with ⟨rfl, rfl, _⟩ | ⟨_, hx⟩
    · rw [hs]; exact h.tom d f hf hb
    · exact h.tom d x hx hxl
/-- A flow that had no work has some now. -/
theorem Rdy.wake {fl : List Fl} {ready r' : List (Int × Int)} (h : Rdy fl ready) {c : Nat} {f g : Fl} (hf : fl[c]? = some f) (hb : f.l = []) (hg : g.l ≠ []) (hp : r'.Perm (ready ++ [(g.tg.start, (c : Int))])) (hh : heapOk r') : Rdy (fl.set c g) r' := by
  have hc := (List.getElem?_eq_some_iff.1 hf).1
  have hnot : (c : Int) ∉ ready.map Prod.snd := fun hx => by
    obtain ⟨p, hp, he⟩ := List.mem_map.1 hx
    obtain ⟨d, x, hx2, hxl, rfl⟩ := h.from_ p hp
    simp only at he
    have : d = c := by omega
    subst this
    rw [hf] at hx2
    obtain rfl := Option.some.inj hx2
    exact hxl hb
  refine ⟨hh, ?_, fun p hpr => ?_, fun d x hx hxl => ?_⟩
  · rw [(hp.map Prod.snd).nodup_iff, List.map_append, List.nodup_append]
    refine ⟨h.nodup, by simp, fun a ha b hb2 => ?_⟩
    simp at hb2
    subst hb2
    intro e
    subst e
    exact hnot ha
  · rcases List.mem_append.1 (hp.mem_iff.1 hpr) with hpr | hpr
    · obtain ⟨d, x, hx, hxl, rfl⟩ := h.from_ p hpr
      have e : d ≠ c := fun e => by
        subst e
        rw [hf] at hx
        obtain rfl := Option.some.inj hx
        exact hxl hb
      exact ⟨d, x, by rw [List.getElem?_set_ne (Ne.symm e)]; exact hx, hxl, rfl⟩
    · rw [List.mem_singleton.1 hpr]
      exact ⟨c, g, List.getElem?_set_self hc, hg, rfl⟩
  · refine hp.mem_iff.2 (List.mem_append.2 ?_)
    rcases get_set hx with ⟨rfl, rfl, _⟩ | ⟨_, hx⟩
    · exact .inr (by simp)
    · exact .inl (h.tom d x hx hxl)
/-- The first one is served. -/
theorem Rdy.serve {fl : List Fl} {t r' : List (Int × Int)} {p1 : Int} {c : Nat} {f g : Fl} (h : Rdy fl ((p1, (c : Int)) :: t)) (hf : fl[c]? = some f)
    (hr : (g.l ≠ [] ∧ r'.Perm (t ++ [(g.tg.start, (c : Int))])) ∨ (g.l = [] ∧ r'.Perm t)) (hh : heapOk r') : Rdy (fl.set c g) r' := by
  have hc := (List.getElem?_eq_some_iff.1 hf).1
  have hnd := h.nodup
  rw [List.map_cons, List.nodup_cons] at hnd
  have hne : ∀ p ∈ t, p.2 ≠ c := fun p hp e => hnd.1 (by show (c : Int) ∈ _; rw [← e]; exact List.mem_map_of_mem hp)
  have hfr : ∀ p ∈ t, ∃ d x, (fl.set c g)[d]? = some x ∧ x.l ≠ [] ∧ p = (x.tg.start, ((d : Nat) : Int)) := fun p hp => by
    obtain ⟨d, x, hx, hxl, rfl⟩ := h.from_ p (List.mem_cons_of_mem _ hp)
    have e : d ≠ c := fun e => hne _ hp (by simp [e])
    exact ⟨d, x, by rw [List.getElem?_set_ne (Ne.symm e)]; exact hx, hxl, rfl⟩
  have hto : ∀ (d : Nat) x, d ≠ c → fl[d]? = some x → x.l ≠ [] → (x.tg.start, (d : Int)) ∈ t := fun d x e hx hxl => by
    rcases List.mem_cons.1 (h.tom d x hx hxl) with h1 | h1
    · exact absurd (by have := congrArg Prod.snd h1; simp only at this; omega) e
    · exact h1
  rcases hr with ⟨hg, hp⟩ | ⟨hg, hp⟩
  · refine ⟨hh, ?_, fun p hpr => ?_, fun d x hx hxl => ?_⟩
    · rw [(hp.map Prod.snd).nodup_iff, List.map_append, List.nodup_append]
      refine ⟨hnd.2, by simp, fun a ha b hb2 => ?_⟩
      simp at hb2
      subst hb2
      obtain ⟨p, hp, rfl⟩ := List.mem_map.1 ha
      exact hne p hp
    · rcases List.mem_append.1 (hp.mem_iff.1 hpr) with hpr | hpr
      · exact hfr p hpr
      · rw [List.mem_singleton.1 hpr]
        exact ⟨c, g, List.getElem?_set_self hc, hg, rfl⟩
    · refine hp.mem_iff.2 (List.mem_append.2 ?_)
      rcases get_set hx with ⟨rfl, rfl, _⟩ | ⟨e, hx⟩
      · exact .inr (by simp)
      · exact .inl (hto d x e hx hxl)
  · refine ⟨hh, ?_, fun p hpr => hfr p (hp.mem_iff.1 hpr), fun d x hx hxl => hp.mem_iff.2 ?_⟩
    · rw [(hp.map Prod.snd).nodup_iff]; exact hnd.2
    · rcases get_set hx with ⟨rfl, rfl, _⟩ | ⟨e, hx⟩
      · exact absurd hg hxl
      · exact hto d x e hx hxl
/-- A flow that may be, behind at most N slices. -/
structure FlOk (lim : Int) (N : Nat) (f : Fl) : Prop where
  w1 : 1 ≤ f.tg.weight
  w2 : f.tg.weight ≤ 16
  s1 : 0 ≤ f.tg.start
  s2 : f.tg.start ≤ N * 2882880
  f1 : 0 ≤ f.tg.finish
  f2 : f.tg.finish ≤ N * 2882880
  k1 : 0 ≤ f.tg.work
  k2 : f.tg.work ≤ N * 4
  q : okQ lim f.l
  l9 : ∀ x ∈ f.l, x.left ≤ 9
/-- A scheduler that may be. -/
structure Gd (n N : Nat) (σ : Sc) : Prop where
  q1 : 1 ≤ σ.quantum
  q2 : σ.quantum ≤ 4
  l1 : 1 ≤ σ.limit
  l2 : σ.limit ≤ 4
  t1 : 0 ≤ σ.time
  t2 : σ.time ≤ N * 2882880
  k1 : 0 ≤ σ.work
  k2 : σ.work ≤ N * 4
  len : σ.fl.length = n
  fl : ∀ f ∈ σ.fl, FlOk σ.limit N f
  rdy : Rdy σ.fl σ.ready
  late : ∀ f ∈ σ.fl, f.l ≠ [] → σ.time ≤ f.tg.start
theorem FlOk.mono {lim : Int} {N M : Nat} {f : Fl} (h : FlOk lim N f) (hm : N ≤ M) : FlOk lim M f :=
  ⟨h.w1, h.w2, h.s1, by have := h.s2; omega, h.f1, by have := h.f2; omega, h.k1, by have := h.k2; omega, h.q, h.l9⟩
theorem Gd.mono {n N M : Nat} {σ : Sc} (h : Gd n N σ) (hm : N ≤ M) : Gd n M σ :=
  ⟨h.q1, h.q2, h.l1, h.l2, h.t1, by have := h.t2; omega, h.k1, by have := h.k2; omega, h.len, fun f hf => (h.fl f hf).mono hm, h.rdy, h.late⟩
theorem mem_set {fl : List Fl} {c : Nat} {f g : Fl} (h : f ∈ fl.set c g) : f = g ∨ f ∈ fl := by
  rcases List.mem_or_eq_of_mem_set h with h | h
  · exact .inr h
  · exact .inl h
theorem Gd.adm {n N : Nat} {σ σ' : Sc} {c : Nat} {x : Rq} (h : Gd n N σ) (hn : AdmitNext σ c x σ') (hp : ∀ f, σ.fl[c]? = some f → canPush f.l x) (hx : x.left ≤ 9) : Gd n N σ' := by
  obtain ⟨f, hf, hcs⟩ := hn
  have hfm := List.mem_of_getElem? hf
  have hF := h.fl f hfm
  have hpf := hp f hf
  have hq := push_okQ hF.q hpf
  have hl9 : ∀ y ∈ f.l ++ [x], y.left ≤ 9 := fun y hy => by
    rcases List.mem_append.1 hy with hy | hy
    · exact hF.l9 y hy
    · rw [List.mem_singleton.1 hy]; exact hx
  rcases hcs with ⟨hne, rfl⟩ | ⟨he, r', hr, hh, rfl⟩
  · have hF2 : FlOk σ.limit N ⟨f.tg, f.l ++ [x]⟩ := ⟨hF.w1, hF.w2, hF.s1, hF.s2, hF.f1, hF.f2, hF.k1, hF.k2, hq, hl9⟩
    refine ⟨h.q1, h.q2, h.l1, h.l2, h.t1, h.t2, h.k1, h.k2, by simp [h.len], fun y hy => ?_, h.rdy.more hf hne (by simp) rfl, fun y hy hyl => ?_⟩
    · rcases mem_set hy with rfl | hy
      · exact hF2
      · exact h.fl y hy
    · rcases mem_set hy with rfl | hy
      · exact h.late f hfm hne
      · exact h.late y hy hyl
  · have t1 := h.t1
    have t2 := h.t2
    have f2 := hF.f2
    have hF2 : FlOk σ.limit N ⟨⟨f.tg.weight, max f.tg.finish σ.time, f.tg.finish, f.tg.work⟩, f.l ++ [x]⟩ := ⟨hF.w1, hF.w2, by show 0 ≤ max f.tg.finish σ.time; omega, by show max f.tg.finish σ.time ≤ _; omega, hF.f1, hF.f2, hF.k1, hF.k2, hq, hl9⟩
    refine ⟨h.q1, h.q2, h.l1, h.l2, h.t1, h.t2, h.k1, h.k2, by simp [h.len], fun y hy => ?_, h.rdy.wake hf he (by simp) hr hh, fun y hy hyl => ?_⟩
    · rcases mem_set hy with rfl | hy
      · exact hF2
      · exact h.fl y hy
    · rcases mem_set hy with rfl | hy
      · show σ.time ≤ max f.tg.finish σ.time
        omega
      · exact h.late y hy hyl
theorem bump_right {x : Rq} (h : x.right) : (bump x).right := by
  obtain ⟨h1, h2, h3, h4, h5⟩ := h
  refine ⟨h1, h2, h3, ?_⟩
  show 0 ≤ (if 2000 < x.passed + 1 then (2000 : Int) else x.passed + 1) ∧ (if 2000 < x.passed + 1 then (2000 : Int) else x.passed + 1) ≤ 2000
  split <;> omega
theorem bump_pair {l : List Rq} {k : Nat} (h : l.Pairwise fun x y => x.id ≠ y.id) : (bumpL l k).Pairwise fun x y => x.id ≠ y.id := by
  rw [List.pairwise_iff_getElem] at h ⊢
  intro i j hi hj hij
  have hi' : i < l.length := by simpa using hi
  have hj' : j < l.length := by simpa using hj
  rw [bump_get l k i hi', bump_get l k j hj']
  have := h i j hi' hj' hij
  split <;> split <;> exact this
theorem bump_mem {l : List Rq} {k : Nat} {y : Rq} (h : y ∈ bumpL l k) : ∃ x ∈ l, y = x ∨ y = bump x := by
  obtain ⟨i, hi, rfl⟩ := List.getElem_of_mem h
  have hi' : i < l.length := by simpa using hi
  refine ⟨l[i], List.getElem_mem _, ?_⟩
  rw [bump_get l k i hi']
  split
  · exact .inr rfl
  · exact .inl rfl
theorem set_pair {l : List Rq} {k : Nat} {y : Rq} (hk : k < l.length) (hy : y.id = l[k].id) (h : l.Pairwise fun x y => x.id ≠ y.id) : (l.set k y).Pairwise fun x y => x.id ≠ y.id := by
  rw [List.pairwise_iff_getElem] at h ⊢
  intro i j hi hj hij
  rw [List.length_set] at hi hj
  have hn := h i j hi hj hij
  rw [List.getElem_set, List.getElem_set]
  split
  · rename_i e1
    subst e1
    split
    · omega
    · rw [hy]; exact hn
  · split
    · rename_i e2
      subst e2
      rw [hy]; exact hn
    · exact hn
/-- Behind a slice a queue may be as well. -/
theorem serve_okQ {lim q : Int} {l : List Rq} {k : Nat} (h : okQ lim l) (hk : k < l.length) (hq : 1 ≤ q) (h9 : ∀ x ∈ l, x.left ≤ 9) : okQ lim (serveL l k q) ∧ ∀ x ∈ serveL l k q, x.left ≤ 9 := by
  obtain ⟨x, hx⟩ : ∃ x, l[k] = x := ⟨_, rfl⟩
  have hxm : x ∈ l := hx ▸ List.getElem_mem _
  have hxr := h.2.2.1 x hxm
  have hx9 := h9 x hxm
  have hc9 : (cutR x q).left ≤ 9 := by
    show x.left - min x.left q ≤ 9
    have := hxr.2.2.1
    omega
  have hbl : ∀ y ∈ bumpL l k, y.right ∧ y.left ≤ 9 := fun y hy => by
    obtain ⟨z, hz, rfl | rfl⟩ := bump_mem hy
    · exact ⟨h.2.2.1 _ hz, h9 _ hz⟩
    · exact ⟨bump_right (h.2.2.1 z hz), (h9 z hz : z.left ≤ 9)⟩
  have hbk : (bumpL l k)[k]'(by simpa using hk) = x := by rw [bump_get l k k hk, if_neg (by omega), hx]
  have hpr := set_pair (l := bumpL l k) (k := k) (y := cutR x q) (by simpa using hk) (by rw [hbk]; rfl) (bump_pair h.2.2.2)
  unfold serveL
  rw [dif_pos hk, hx]
  split
  · rename_i hz
    have hsub : ∀ y ∈ ((bumpL l k).set k (cutR x q)).eraseIdx k, y ∈ bumpL l k := fun y hy => by
      rw [List.eraseIdx_set_eq] at hy
      exact List.mem_of_mem_eraseIdx hy
    refine ⟨⟨h.1, ?_, fun y hy => (hbl y (hsub y hy)).1, hpr.sublist (List.eraseIdx_sublist _ _)⟩, fun y hy => (hbl y (hsub y hy)).2⟩
    have := List.length_eraseIdx_le ((bumpL l k).set k (cutR x q)) k
    have h16 := h.2.1
    simp at this
    omega
  · rename_i hz
    have hcr : (cutR x q).right := by
      obtain ⟨r1, r2, r3, r4⟩ := hxr
      refine ⟨r1, r2, ?_, r4⟩
      show 1 ≤ x.left - min x.left q ∧ x.left - min x.left q ≤ 1099511627776
      have hz' : ¬ x.left - min x.left q = 0 := hz
      omega
    refine ⟨⟨h.1, by have := h.2.1; simpa using this, fun y hy => ?_, hpr⟩, fun y hy => ?_⟩
    · rcases List.mem_or_eq_of_mem_set hy with hy | rfl
      · exact (hbl y hy).1
      · exact hcr
    · rcases List.mem_or_eq_of_mem_set hy with hy | rfl
      · exact (hbl y hy).2
      · exact hc9
end Go.Proofs.Ytfpagiojdgdbeaa
