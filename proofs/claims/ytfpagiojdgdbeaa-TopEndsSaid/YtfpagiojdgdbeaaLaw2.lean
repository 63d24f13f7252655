import Derived.Test.YtfpagiojdgdbeaaLaw
namespace Go.Proofs.Ytfpagiojdgdbeaa
open Go.RowKit
attribute [local go_sem ↓] Go.wp_at_zero Go.wp_at_succ

theorem Gd.serve {n N : Nat} {σ σ' : Sc} {c : Nat} {p1 : Int} {t : List (Int × Int)} {x : Rq} {un : Int} (h : Gd n N σ) (hr : σ.ready = (p1, (c : Int)) :: t) (hn : ServeNext σ c t σ' x un) : Gd n (N + 1) σ' := by
  obtain ⟨f, k, hf, hk, hkl, hx, hun, hcs⟩ := hn
  have hfm := List.mem_of_getElem? hf
  have hF := h.fl f hfm
  have hxr := hF.q.2.2.1 f.l[k] (List.getElem_mem _)
  rw [hx] at hxr
  have q1 := h.q1
  have q2 := h.q2
  have hu : 1 ≤ un ∧ un ≤ 4 := by have := hxr.2.2.1; omega
  obtain ⟨c1, c2⟩ := charge_le (c := un) hF.w1 hF.w2 (by omega)
  obtain ⟨ho, h9⟩ := serve_okQ hF.q hkl q1 hF.l9
  have hrdy := h.rdy
  rw [hr] at hrdy
  have hp1 : p1 = f.tg.start := by
    obtain ⟨d, y, hy, _, he⟩ := hrdy.from_ (p1, (c : Int)) (List.mem_cons_self ..)
    have h1 := congrArg Prod.fst he
    have h2 := congrArg Prod.snd he
    simp only at h1 h2
    have : d = c := by omega
    subst this
    rw [hf] at hy
    obtain rfl := Option.some.inj hy
    exact h1
  have hfb : f.l ≠ [] := by intro e; rw [e] at hkl; simp at hkl
  have hmin : ∀ y ∈ σ.fl, y.l ≠ [] → f.tg.start ≤ y.tg.start := fun y hy hyl => by
    obtain ⟨d, hd, rfl⟩ := List.getElem_of_mem hy
    have hm := hrdy.tom d σ.fl[d] (List.getElem?_eq_getElem hd) hyl
    obtain ⟨j, hj, he⟩ := List.getElem_of_mem hm
    have := heap_min hrdy.heap j hj
    rw [he] at this
    simp only [List.getElem_cons_zero, lessP] at this
    omega
  have s1 := hF.s1
  have s2 := hF.s2
  have hFm : FlOk σ.limit (N + 1) ⟨⟨f.tg.weight, f.tg.start + chargeL un f.tg.weight, f.tg.start + chargeL un f.tg.weight, f.tg.work + un⟩, serveL f.l k σ.quantum⟩ := by
    have k1 := hF.k1
    have k2 := hF.k2
    refine ⟨hF.w1, hF.w2, ?_, ?_, ?_, ?_, ?_, ?_, ho, h9⟩ <;> (simp only; omega)
  have key : ∀ r', ((serveL f.l k σ.quantum ≠ [] ∧ r'.Perm (t ++ [(f.tg.start + chargeL un f.tg.weight, (c : Int))])) ∨ (serveL f.l k σ.quantum = [] ∧ r'.Perm t)) → heapOk r' →
      Gd n (N + 1) ⟨σ.quantum, σ.limit, f.tg.start, σ.work + un, σ.fl.set c ⟨⟨f.tg.weight, f.tg.start + chargeL un f.tg.weight, f.tg.start + chargeL un f.tg.weight, f.tg.work + un⟩, serveL f.l k σ.quantum⟩, r'⟩ := fun r' hr' hh => by
    have k1 := h.k1
    have k2 := h.k2
    refine ⟨h.q1, h.q2, h.l1, h.l2, s1, by simp only; omega, by simp only; omega, by simp only; omega, by simp [h.len], fun y hy => ?_, hrdy.serve hf hr' hh, fun y hy hyl => ?_⟩
    · rcases mem_set hy with rfl | hy
      · exact hFm
      · exact (h.fl y hy).mono (by omega)
    · rcases mem_set hy with rfl | hy
      · show f.tg.start ≤ f.tg.start + chargeL un f.tg.weight
        omega
      · exact hmin y hy hyl
  rcases hcs with ⟨hne, r', hp, hh, rfl⟩ | ⟨he, r', hp, hh, rfl⟩
  · exact key r' (.inl ⟨hne, hp⟩) hh
  · exact key r' (.inr ⟨he, hp⟩) hh
/-- The first flow has no request, and never had. -/
def Idle (σ : Sc) : Prop := ∃ f, σ.fl[0]? = some f ∧ f.l = [] ∧ f.tg.finish = 0
theorem Idle.adm {σ σ' : Sc} {c : Nat} {x : Rq} (h : Idle σ) (hc : c ≠ 0) (hn : AdmitNext σ c x σ') : Idle σ' := by
  obtain ⟨f, hf, h1, h2⟩ := h
  obtain ⟨g, hg, ⟨_, rfl⟩ | ⟨_, r', _, _, rfl⟩⟩ := hn
  · exact ⟨f, by rw [List.getElem?_set_ne hc]; exact hf, h1, h2⟩
  · exact ⟨f, by rw [List.getElem?_set_ne hc]; exact hf, h1, h2⟩
theorem Idle.serve {n N : Nat} {σ σ' : Sc} {c : Nat} {p1 : Int} {t : List (Int × Int)} {x : Rq} {un : Int} (h : Idle σ) (hg : Gd n N σ) (hr : σ.ready = (p1, (c : Int)) :: t) (hn : ServeNext σ c t σ' x un) : Idle σ' := by
  obtain ⟨f, hf, h1, h2⟩ := h
  have hc : c ≠ 0 := by
    rintro rfl
    have hrdy := hg.rdy
    rw [hr] at hrdy
    obtain ⟨d, y, hy, hyl, he⟩ := hrdy.from_ (p1, ((0 : Nat) : Int)) (List.mem_cons_self ..)
    have h2 := congrArg Prod.snd he
    simp only at h2
    have : d = 0 := by omega
    subst this
    rw [hf] at hy
    obtain rfl := Option.some.inj hy
    exact hyl h1
  obtain ⟨g, k, hg2, _, _, _, _, ⟨_, r', _, _, rfl⟩ | ⟨_, r', _, _, rfl⟩⟩ := hn
  · exact ⟨f, by rw [List.getElem?_set_ne hc]; exact hf, h1, h2⟩
  · exact ⟨f, by rw [List.getElem?_set_ne hc]; exact hf, h1, h2⟩
/-- How far the first request is, behind T slices of its flow and m j of each other one; v0: the time when it came. -/
structure Prog (cost v0 : Int) (T : Nat) (m : Nat → Nat) (σ : Sc) : Prop where
  own : ∃ f x rest, σ.fl[0]? = some f ∧ f.l = x :: rest ∧ x.id = 1 ∧ 1 ≤ x.left ∧ x.left ≤ cost ∧ 0 ≤ x.passed ∧ x.passed ≤ σ.limit ∧ (T : Int) ≤ x.passed + (cost - x.left) ∧ f.tg.start ≤ v0 + T * (σ.quantum * 720720)
  time : v0 ≤ σ.time
  oth : ∀ (j : Nat) f, 0 < j → σ.fl[j]? = some f → (f.l ≠ [] → v0 + m j * 45045 ≤ f.tg.start) ∧ (m j = 0 ∨ v0 + m j * 45045 ≤ f.tg.finish) ∧ (m j : Int) ≤ 16 * (σ.quantum * T)
theorem Prog.adm {n N : Nat} {cost v0 : Int} {T : Nat} {m : Nat → Nat} {σ σ' : Sc} {c : Nat} {y : Rq} (h : Prog cost v0 T m σ) (hg : Gd n N σ) (hn : AdmitNext σ c y σ') : Prog cost v0 T m σ' := by
  obtain ⟨f, x, rest, hf, hl, h1, h2, h3, h4, h5, h6, h7⟩ := h.own
  obtain ⟨g, hgf, hcs⟩ := hn
  have htm := h.time
  rcases hcs with ⟨hne, rfl⟩ | ⟨he, r', _, _, rfl⟩
  · refine ⟨?_, htm, fun j z hj hz => ?_⟩
    · by_cases hc : c = 0
      · subst hc
        rw [hf] at hgf
        obtain rfl := Option.some.inj hgf
        have h0 := (List.getElem?_eq_some_iff.1 hf).1
        exact ⟨_, x, rest ++ [y], List.getElem?_set_self h0, by simp [hl], h1, h2, h3, h4, h5, h6, h7⟩
      · exact ⟨f, x, rest, by rw [List.getElem?_set_ne hc]; exact hf, hl, h1, h2, h3, h4, h5, h6, h7⟩
    · rcases get_set hz with ⟨rfl, rfl, _⟩ | ⟨_, hz⟩
      · have := h.oth j g hj hgf
        exact ⟨fun _ => this.1 hne, this.2⟩
      · exact h.oth j z hj hz
  · refine ⟨?_, htm, fun j z hj hz => ?_⟩
    · by_cases hc : c = 0
      · subst hc
        rw [hf] at hgf
        obtain rfl := Option.some.inj hgf
        rw [hl] at he
        cases he
      · exact ⟨f, x, rest, by rw [List.getElem?_set_ne hc]; exact hf, hl, h1, h2, h3, h4, h5, h6, h7⟩
    · rcases get_set hz with ⟨rfl, rfl, _⟩ | ⟨_, hz⟩
      · have ho := h.oth j g hj hgf
        refine ⟨fun _ => ?_, ho.2⟩
        show v0 + m j * 45045 ≤ max g.tg.finish σ.time
        rcases ho.2.1 with h0 | h0
        · rw [h0]; omega
        · omega
      · exact h.oth j z hj hz
/-- The first request comes. -/
theorem prog_start {n N : Nat} {σ σ' : Sc} {cost : Int} (hg : Gd n N σ) (hi : Idle σ) (hc : 1 ≤ cost) (hn : AdmitNext σ 0 ⟨1, 7, cost, 0⟩ σ') : Prog cost σ.time 0 (fun _ => 0) σ' := by
  obtain ⟨f, hf, h1, h2⟩ := hi
  obtain ⟨g, hgf, hcs⟩ := hn
  rw [hf] at hgf
  obtain rfl := Option.some.inj hgf
  have h0 := (List.getElem?_eq_some_iff.1 hf).1
  have l1 := hg.l1
  have t1 := hg.t1
  rcases hcs with ⟨hne, _⟩ | ⟨_, r', _, _, rfl⟩
  · exact absurd h1 hne
  · refine ⟨⟨_, ⟨1, 7, cost, 0⟩, [], List.getElem?_set_self h0, by simp [h1], rfl, hc, Int.le_refl _, Int.le_refl _, by simp only; omega, by simp only; omega, ?_⟩, Int.le_refl _, fun j z hj hz => ?_⟩
    · show max f.tg.finish σ.time ≤ _
      rw [h2]
      omega
    · rcases get_set hz with ⟨rfl, _, _⟩ | ⟨_, hz⟩
      · omega
      · refine ⟨fun hzl => ?_, .inl rfl, by simp⟩
        have := hg.late z (List.mem_of_getElem? hz) hzl
        simpa using this
def upd (m : Nat → Nat) (c : Nat) : Nat → Nat := fun j => if j = c then m j + 1 else m j
theorem mul3 {a b c : Int} (h : a ≤ b) (hc : 0 ≤ c) : c * a ≤ c * b := Int.mul_le_mul_of_nonneg_left h hc
/-- A slice: either the first request is served wholly, or it goes on. -/
theorem Prog.serve {n N : Nat} {cost v0 : Int} {T : Nat} {m : Nat → Nat} {σ σ' : Sc} {c : Nat} {p1 : Int} {t : List (Int × Int)} {x : Rq} {un : Int} (h : Prog cost v0 T m σ) (hg : Gd n N σ) (hr : σ.ready = (p1, (c : Int)) :: t) (hn : ServeNext σ c t σ' x un) :
    (c = 0 ∧ x.id = 1 ∧ x.left - un = 0) ∨ (¬ (c = 0 ∧ x.id = 1 ∧ x.left - un = 0) ∧ ∃ T' m', Prog cost v0 T' m' σ' ∧ ((c = 0 ∧ T' = T + 1 ∧ m' = m) ∨ (0 < c ∧ c < n ∧ T' = T ∧ m' = upd m c))) := by
  have hg' := hg.serve hr hn
  obtain ⟨f0, y, rest, hf0, hl0, h1, h2, h3, h4, h5, h6, h7⟩ := h.own
  have hno := hn
  obtain ⟨f, k, hf, hk, hkl, hx, hun, hcs⟩ := hn
  have hfm := List.mem_of_getElem? hf
  have hF := hg.fl f hfm
  have hxr := hF.q.2.2.1 f.l[k] (List.getElem_mem _)
  rw [hx] at hxr
  have q1 := hg.q1
  have q2 := hg.q2
  have l2' := hg.l2
  have hu : 1 ≤ un ∧ un ≤ σ.quantum := by have := hxr.2.2.1; omega
  obtain ⟨c1, c2⟩ := charge_le (c := un) hF.w1 hF.w2 (by omega)
  have hrdy := hg.rdy
  rw [hr] at hrdy
  have hfb : f.l ≠ [] := by intro e; rw [e] at hkl; simp at hkl
  have hcl := (List.getElem?_eq_some_iff.1 hf).1
  have htm := h.time
  have hlate := hg.late f hfm hfb
  have hp1 : p1 = f.tg.start := by
    obtain ⟨d, y, hy, _, he⟩ := hrdy.from_ (p1, (c : Int)) (List.mem_cons_self ..)
    have h1 := congrArg Prod.fst he
    have h2 := congrArg Prod.snd he
    simp only at h1 h2
    have : d = c := by omega
    subst this
    rw [hf] at hy
    obtain rfl := Option.some.inj hy
    exact h1
  have hσ : ∃ r', σ' = ⟨σ.quantum, σ.limit, f.tg.start, σ.work + un, σ.fl.set c ⟨⟨f.tg.weight, f.tg.start + chargeL un f.tg.weight, f.tg.start + chargeL un f.tg.weight, f.tg.work + un⟩, serveL f.l k σ.quantum⟩, r'⟩ := by
    rcases hcs with ⟨_, r', _, _, e⟩ | ⟨_, r', _, _, e⟩
    · exact ⟨r', e⟩
    · exact ⟨r', e⟩
  obtain ⟨r', rfl⟩ := hσ
  by_cases hc : c = 0
  · subst hc
    rw [hf0] at hf
    obtain rfl := Option.some.inj hf
    by_cases hfin : x.id = 1 ∧ x.left - un = 0
    · exact .inl ⟨rfl, hfin.1, hfin.2⟩
    · refine .inr ⟨fun e => hfin e.2, T + 1, m, ⟨?_, by simp only; omega, fun j z hj hz => ?_⟩, .inl ⟨rfl, rfl, rfl⟩⟩
      · -- the head behind the slice
        have hy0 : f0.l[0]'(by omega) = y := by simp [hl0]
        have hyr := hF.q.2.2.1 y (by rw [hl0]; exact List.mem_cons_self ..)
        have hst : f0.tg.start + chargeL un f0.tg.weight ≤ v0 + ((T + 1 : Nat) : Int) * (σ.quantum * 720720) := by
          have e1 : un * 720720 ≤ σ.quantum * 720720 := by omega
          have e2 : ((T + 1 : Nat) : Int) * (σ.quantum * 720720) = T * (σ.quantum * 720720) + σ.quantum * 720720 := by rw [Int.natCast_add, Int.add_mul]; simp
          omega
        by_cases hk0 : k = 0
        · subst hk0
          have hxy : x = y := by rw [← hx, hy0]
          subst hxy
          have hne : ¬ x.left - un = 0 := fun e => hfin ⟨h1, e⟩
          have hcut : (cutR (f0.l[0]'hkl) σ.quantum) = ⟨x.id, x.rank, x.left - un, x.passed⟩ := by rw [hx]; unfold cutR; rw [hun]
          have hsl : serveL f0.l 0 σ.quantum = ⟨x.id, x.rank, x.left - un, x.passed⟩ :: rest := by
            unfold serveL
            rw [dif_pos hkl, hcut, if_neg hne, bump_zero, hl0, List.set_cons_zero]
          have hle : un ≤ x.left := by omega
          exact ⟨_, _, rest, List.getElem?_set_self hcl, hsl, h1, by simp only; omega, by simp only; omega, h4, h5, by simp only; omega, hst⟩
        · have hpass : ¬ σ.limit ≤ y.passed := fun e => by
            have := hk.2
            rw [hy0] at this
            exact hk0 (this e)
          have hbp : bump y = ⟨y.id, y.rank, y.left, y.passed + 1⟩ := by unfold bump; rw [if_neg (by omega)]
          have hhead : ∃ rest', serveL f0.l k σ.quantum = bump y :: rest' := by
            obtain ⟨k', rfl⟩ : ∃ k', k = k' + 1 := ⟨k - 1, by omega⟩
            have hb0 : ∃ b, bumpL f0.l (k' + 1) = bump y :: b := by
              have hlen : 0 < (bumpL f0.l (k' + 1)).length := by rw [bump_len]; omega
              obtain ⟨a, b, hab⟩ := List.exists_cons_of_length_pos hlen
              refine ⟨b, ?_⟩
              have hg0 := bump_get f0.l (k' + 1) 0 (by omega)
              rw [if_pos (by omega), hy0] at hg0
              simp only [hab, List.getElem_cons_zero] at hg0
              rw [hab, hg0]
            obtain ⟨b, hb⟩ := hb0
            unfold serveL
            rw [dif_pos hkl, hb]
            split
            · exact ⟨_, by rw [List.set_cons_succ, List.eraseIdx_cons_succ]⟩
            · exact ⟨_, by rw [List.set_cons_succ]⟩
          obtain ⟨rest', hsl⟩ := hhead
          rw [hbp] at hsl
          exact ⟨_, _, rest', List.getElem?_set_self hcl, hsl, h1, h2, h3, by simp only; omega, by simp only; omega, by simp only; omega, hst⟩
      · rcases get_set hz with ⟨rfl, _, _⟩ | ⟨_, hz⟩
        · omega
        · obtain ⟨o1, o2, o3⟩ := h.oth j z hj hz
          refine ⟨o1, o2, ?_⟩
          show (m j : Int) ≤ 16 * (σ.quantum * ((T + 1 : Nat) : Int))
          have : σ.quantum * ((T + 1 : Nat) : Int) = σ.quantum * T + σ.quantum := by rw [Int.natCast_add, Int.mul_add]; simp
          omega
  · refine .inr ⟨fun e => hc e.1, T, upd m c, ⟨⟨f0, y, rest, by rw [List.getElem?_set_ne hc]; exact hf0, hl0, h1, h2, h3, h4, h5, h6, h7⟩, by simp only; omega, fun j z hj hz => ?_⟩, .inr ⟨by omega, by rw [← hg.len]; exact hcl, rfl, rfl⟩⟩
    rcases get_set hz with ⟨rfl, rfl, _⟩ | ⟨hjc, hz⟩
    · obtain ⟨o1, o2, o3⟩ := h.oth j f hj hf
      have o1' := o1 hfb
      -- the served one is before the first one
      have hm0 := hrdy.tom 0 f0 hf0 (by rw [hl0]; simp)
      obtain ⟨i, hi, he⟩ := List.getElem_of_mem hm0
      have hmin := heap_min hrdy.heap i hi
      rw [he] at hmin
      simp only [List.getElem_cons_zero, lessP] at hmin
      have hlt : f.tg.start < f0.tg.start := by omega
      have e1 : (T : Int) * (σ.quantum * 720720) = (σ.quantum * T) * 720720 := by rw [← Int.mul_assoc, Int.mul_comm (T : Int) σ.quantum]
      have hu1 : upd m j j = m j + 1 := if_pos rfl
      rw [hu1]
      generalize σ.quantum * (T : Int) = z at *
      refine ⟨fun _ => ?_, .inr ?_, ?_⟩
      · simp only; omega
      · simp only; omega
      · show ((m j + 1 : Nat) : Int) ≤ 16 * z
        omega
    · have := h.oth j z hj hz
      have hu1 : upd m c j = m j := if_neg hjc
      rw [hu1]
      exact this
end Go.Proofs.Ytfpagiojdgdbeaa
