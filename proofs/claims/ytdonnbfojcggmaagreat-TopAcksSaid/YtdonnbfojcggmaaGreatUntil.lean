import Derived.Deep.RegionHeld
namespace Go.Proofs.YtdonnbfojcggmaaGreat

/-! A region some of whose loads all come up ahead of operation p: the cells' condition S is asked for till p comes up, and no longer; S2 is asked for all along. -/
section
variable {P : Program} {ops : Array Oper} {Q : Exit → Act → World → Prop} {md : Region.Mode} {S S2 : World → Prop} {p : Nat}

def Good (S S2 : World → Prop) (p : Nat) (seen : Array Bool) (w : World) : Prop := S2 w ∧ (seen.getD p false = true ∨ S w)
/-- Whatever order is picked from here on; S behind each operation as long as p has not come up. -/
def UntilP (P : Program) (md : Region.Mode) (ops : Array Oper) (Q : Exit → Act → World → Prop) (S S2 : World → Prop) (p : Nat) : Nat → Array Bool → Act → World → Prop
  | 0, seen, a, w => Region.ready md ops seen = [] ∧ Q .normal a w
  | n + 1, seen, a, w => (Region.ready md ops seen = [] → Q .normal a w) ∧
      ∀ i ∈ Region.ready md ops seen, wpOp P ops Q i (fun a' w' => Good S S2 p (seen.setIfInBounds i true) w' ∧ UntilP P md ops Q S S2 p n (seen.setIfInBounds i true) a' w') a w
theorem until_any : ∀ (n : Nat) (seen : Array Bool) (a : Act) (w : World), UntilP P md ops Q S S2 p n seen a w → wpAny P md ops Q n seen a w
  | 0, _, _, _, h => h
  | n + 1, _, _, _, h => ⟨h.1, fun i hi => wpOp_mono (fun a' w' h' => until_any n _ a' w' h'.2) (h.2 i hi)⟩
theorem seen_other {seen : Array Bool} {i j : Nat} (d : Bool) (h : i ≠ j) : (seen.setIfInBounds i true).getD j d = seen.getD j d := getD_set_ne d h
/-- p waits for i, which has not come up: so p does not come up now. -/
theorem until_wait {seen : Array Bool} {i : Nat} {op : Oper} (hop : ops[p]? = some op) (hw : ∃ e ∈ op.after, Region.binds md e = true ∧ e.on = i) (hi : i ∈ Region.ready md ops seen) : p ∉ Region.ready md ops seen := by
  intro hp
  obtain ⟨_, o, ho, hall⟩ := mem_ready.1 hp
  rw [hop] at ho
  injection ho with ho
  subst ho
  obtain ⟨e, he, hb, rfl⟩ := hw
  have h1 := hall e he hb
  have h0 := (mem_ready.1 hi).1
  rcases Nat.lt_or_ge e.on seen.size with h' | h'
  · simp [h'] at h0 h1; rw [h0] at h1; cases h1
  · simp [Array.getElem?_eq_none h'] at h1
/-- An operation for which p waits may be taken first. -/
theorem until_first {i : Nat} {oi op : Oper} {v : Value} (hi : ops[i]? = some oi) (hop : ops[p]? = some op) (hpw : ∃ e ∈ op.after, Region.binds md e = true ∧ e.on = i) (hip : i ≠ p)
    (hsel : ∀ (j : Nat) (o : Oper) cs b, ops[j]? = some o → o.op ≠ .select cs b) (hQ : ∀ c a w, Q (.panic c) (a.put oi.dst v) w → Q (.panic c) a w) :
    ∀ (n : Nat) (seen : Array Bool) (a : Act) (w : World),
      (∀ j oj, ops[j]? = some oj → j ≠ i → seen.getD j true = false → (∀ e ∈ oj.after, Region.binds md e = true → e.on ≠ i) → oi.apart ops oj = true) →
      i ∈ Region.ready md ops seen → seen.getD p false = false → YieldsIf P ops (fun w => S2 w ∧ S w) oi v a → S2 w ∧ S w →
      UntilP P md ops Q S S2 p n (seen.setIfInBounds i true) (a.put oi.dst v) w → UntilP P md ops Q S S2 p (n + 1) seen a w
  | 0, seen, a, w, _, hr, _, hy, hS, H => by
    refine ⟨fun h => (by rw [h] at hr; cases hr), fun j hj => ?_⟩
    by_cases hji : j = i
    · subst hji
      exact hy.wpOp hi hS ⟨⟨hS.1, .inr hS.2⟩, H⟩
    · have := ready_mono hj hji
      rw [H.1] at this
      cases this
  | n + 1, seen, a, w, hfree, hr, hps, hy, hS, H => by
    refine ⟨fun h => (by rw [h] at hr; cases hr), fun j hj => ?_⟩
    by_cases hji : j = i
    · subst hji
      exact hy.wpOp hi hS ⟨⟨hS.1, .inr hS.2⟩, H⟩
    · have hjp : j ≠ p := fun e => until_wait hop hpw hr (e ▸ hj)
      have h1 := H.2 j (ready_mono hj hji)
      obtain ⟨hjun, oj, hoj, hall⟩ := mem_ready.1 hj
      have hnot : ∀ e ∈ oj.after, Region.binds md e = true → e.on ≠ i := fun e he hb heq => by
        have h2 := hall e he hb
        have h0 := (mem_ready.1 hr).1
        rw [heq] at h2
        rcases Nat.lt_or_ge i seen.size with h' | h'
        · simp [h'] at h0 h2; rw [h0] at h2; cases h2
        · simp [Array.getElem?_eq_none h'] at h2
      have h2 := wpOp_putIf hoj (hfree j oj hoj hji hjun hnot) (fun cs b => hsel i oi cs b hi) (fun cs b => hsel j oj cs b hoj) hQ hy h1
      have hps' : (seen.setIfInBounds j true).getD p false = false := by rw [seen_other false hjp]; exact hps
      refine wpOp_mono (fun a' w' h3 => ?_) h2
      obtain ⟨hy', hs', hU⟩ := h3
      have hS' : S2 w' ∧ S w' := by
        refine ⟨hs'.1, ?_⟩
        rcases hs'.2 with hs' | hs'
        · rw [seen_other false hjp, seen_other false hip, hps] at hs'; cases hs'
        · exact hs'
      refine ⟨⟨hS'.1, .inr hS'.2⟩, until_first hi hop hpw hip hsel hQ n (seen.setIfInBounds j true) a' w' ?_ (ready_mono hr (Ne.symm hji)) hps' hy' hS' ?_⟩
      · intro k ok hk hki hun hno
        refine hfree k ok hk hki ?_ hno
        by_cases hjk : j = k
        · subst hjk; exact hjun
        · rw [seen_other true hjk] at hun; exact hun
      · rw [Array.setIfInBounds_comm _ _ hji]
        exact hU
/-- An operation that looks at nothing but what S2 says. -/
theorem until_first2 {i : Nat} {oi : Oper} {v : Value} (hi : ops[i]? = some oi) (hip : i ≠ p)
    (hsel : ∀ (j : Nat) (o : Oper) cs b, ops[j]? = some o → o.op ≠ .select cs b) (hQ : ∀ c a w, Q (.panic c) (a.put oi.dst v) w → Q (.panic c) a w) :
    ∀ (n : Nat) (seen : Array Bool) (a : Act) (w : World),
      (∀ j oj, ops[j]? = some oj → j ≠ i → seen.getD j true = false → (∀ e ∈ oj.after, Region.binds md e = true → e.on ≠ i) → oi.apart ops oj = true) →
      i ∈ Region.ready md ops seen → YieldsIf P ops S2 oi v a → Good S S2 p seen w →
      UntilP P md ops Q S S2 p n (seen.setIfInBounds i true) (a.put oi.dst v) w → UntilP P md ops Q S S2 p (n + 1) seen a w
  | 0, seen, a, w, _, hr, hy, hS, H => by
    refine ⟨fun h => (by rw [h] at hr; cases hr), fun j hj => ?_⟩
    by_cases hji : j = i
    · subst hji
      exact hy.wpOp hi hS.1 ⟨⟨hS.1, by rw [seen_other false hip]; exact hS.2⟩, H⟩
    · have := ready_mono hj hji
      rw [H.1] at this
      cases this
  | n + 1, seen, a, w, hfree, hr, hy, hS, H => by
    refine ⟨fun h => (by rw [h] at hr; cases hr), fun j hj => ?_⟩
    by_cases hji : j = i
    · subst hji
      exact hy.wpOp hi hS.1 ⟨⟨hS.1, by rw [seen_other false hip]; exact hS.2⟩, H⟩
    · have h1 := H.2 j (ready_mono hj hji)
      obtain ⟨hjun, oj, hoj, hall⟩ := mem_ready.1 hj
      have hnot : ∀ e ∈ oj.after, Region.binds md e = true → e.on ≠ i := fun e he hb heq => by
        have h2 := hall e he hb
        have h0 := (mem_ready.1 hr).1
        rw [heq] at h2
        rcases Nat.lt_or_ge i seen.size with h' | h'
        · simp [h'] at h0 h2; rw [h0] at h2; cases h2
        · simp [Array.getElem?_eq_none h'] at h2
      have h2 := wpOp_putIf hoj (hfree j oj hoj hji hjun hnot) (fun cs b => hsel i oi cs b hi) (fun cs b => hsel j oj cs b hoj) hQ hy h1
      refine wpOp_mono (fun a' w' h3 => ?_) h2
      obtain ⟨hy', hs', hU⟩ := h3
      have hs2 : Good S S2 p (seen.setIfInBounds j true) w' := by
        refine ⟨hs'.1, ?_⟩
        have := hs'.2
        rw [Array.setIfInBounds_comm _ _ (Ne.symm hji), seen_other false hip] at this
        exact this
      refine ⟨hs2, until_first2 hi hip hsel hQ n (seen.setIfInBounds j true) a' w' ?_ (ready_mono hr (Ne.symm hji)) hy' hs2 ?_⟩
      · intro k ok hk hki hun hno
        refine hfree k ok hk hki ?_ hno
        by_cases hjk : j = k
        · subst hjk; exact hjun
        · rw [seen_other true hjk] at hun; exact hun
      · rw [Array.setIfInBounds_comm _ _ hji]
        exact hU
/-- .. as the walk uses it: the side conditions by reckoning. -/
theorem until_take {i : Nat} {oi op : Oper} {v : Value} {n : Nat} {seen : Array Bool} {a : Act} {w : World} (hi : ops[i]? = some oi) (hop : ops[p]? = some op)
    (hpw : (op.after.any fun e => Region.binds md e && e.on == i) = true) (hip : i ≠ p) (hs : Region.noSelect ops = true) (hf : Region.free md ops seen i = true)
    (hr : (Region.ready md ops seen).contains i = true) (hps : seen.getD p false = false) (hQ : ∀ c a w, Q (.panic c) (a.put oi.dst v) w → Q (.panic c) a w)
    (hy : YieldsIf P ops (fun w => S2 w ∧ S w) oi v a) (hS : S2 w ∧ S w) (h : UntilP P md ops Q S S2 p n (seen.setIfInBounds i true) (a.put oi.dst v) w) : UntilP P md ops Q S S2 p (n + 1) seen a w := by
  refine until_first hi hop ?_ hip (Region.noSelect_spec hs) hQ n seen a w (Region.free_spec hi hf) (by simpa using hr) hps hy hS h
  obtain ⟨e, he, hb⟩ := Array.any_eq_true'.1 hpw
  simp only [Bool.and_eq_true, beq_iff_eq] at hb
  exact ⟨e, he, hb.1, hb.2⟩
theorem until_take2 {i : Nat} {oi : Oper} {v : Value} {n : Nat} {seen : Array Bool} {a : Act} {w : World} (hi : ops[i]? = some oi)
    (hip : i ≠ p) (hs : Region.noSelect ops = true) (hf : Region.free md ops seen i = true)
    (hr : (Region.ready md ops seen).contains i = true) (hQ : ∀ c a w, Q (.panic c) (a.put oi.dst v) w → Q (.panic c) a w)
    (hy : YieldsIf P ops S2 oi v a) (hS : Good S S2 p seen w) (h : UntilP P md ops Q S S2 p n (seen.setIfInBounds i true) (a.put oi.dst v) w) : UntilP P md ops Q S S2 p (n + 1) seen a w := by
  exact until_first2 hi hip (Region.noSelect_spec hs) hQ n seen a w (Region.free_spec hi hf) (by simpa using hr) hy hS h
/-- One operation alone may come up, p or one behind it. -/
theorem until_step {i : Nat} {o : Oper} {n : Nat} {seen : Array Bool} {a : Act} {w : World} (hr : Region.ready md ops seen = [i]) (ho : ops[i]? = some o) (hp : (seen.setIfInBounds i true).getD p false = true)
    (h : ∀ K : Act → World → Prop, Shut (∀ a w, S2 w → UntilP P md ops Q S S2 p n (seen.setIfInBounds i true) a w → K a w) → if Region.wanted o (yielded ops a.tmps) = true then Oper.wp P o a w K Q else K (a.put o.dst undef) w) : UntilP P md ops Q S S2 p (n + 1) seen a w := by
  refine ⟨fun h0 => (by rw [hr] at h0; cases h0), fun j hj => ?_⟩
  rw [hr] at hj
  obtain rfl : j = i := by simpa using hj
  exact wpOp_step ho fun K hK => h K fun a w h2 hU => hK a w ⟨⟨h2, .inl hp⟩, hU⟩
theorem until_done {seen : Array Bool} {a : Act} {w : World} (hr : Region.ready md ops seen = []) (h : Q .normal a w) : ∀ n, UntilP P md ops Q S S2 p n seen a w
  | 0 => ⟨hr, h⟩
  | _ + 1 => ⟨fun _ => h, by rw [hr]; simp⟩
theorem wp_region_until (p : Nat) {id : Nat} {a : Act} {w : World} (hm : P.follows .mixedOrders = true) (h : UntilP P .any ops Q S S2 p ops.size (Array.replicate ops.size false) a w.drew) : (Code.region id ops true).wp P Q a w :=
  wp_region_any hm (until_any _ _ _ _ h)
end
end Go.Proofs.YtdonnbfojcggmaaGreat
