import Derived.Test.YthjciimodemfpaaPairs
namespace Go.Proofs.Ythjciimodemfpaa
open Go.RowKit
/-- The first k numbers of x, the rest of v. -/
def mixL (v x : Vs) : Nat → Vs
  | 0 => v
  | 1 => ⟨x.table, v.push, v.streams, v.window, v.frame, v.list⟩
  | 2 => ⟨x.table, x.push, v.streams, v.window, v.frame, v.list⟩
  | 3 => ⟨x.table, x.push, x.streams, v.window, v.frame, v.list⟩
  | 4 => ⟨x.table, x.push, x.streams, x.window, v.frame, v.list⟩
  | 5 => ⟨x.table, x.push, x.streams, x.window, x.frame, v.list⟩
  | _ => x
theorem go_append (a b : List (Int × Int)) (v : Vs) : goL (a ++ b) v = if (goL a v).2 = 0 then goL b (goL a v).1 else goL a v := by
  induction a generalizing v with
  | nil => rfl
  | cons p t ih =>
    rw [List.cons_append, go_cons, go_cons]
    by_cases h : faultL p.1 p.2 = 0
    · rw [if_pos h, if_pos h]; exact ih _
    · rw [if_neg h, if_neg h, if_neg h]
theorem go_part {id a b : Int} {o s : Vs} (hg : goodN id b) (h1 : a = b → s = o) (h2 : a ≠ b → setL o id b = s) : goL (partL id a b) o = (s, 0) := by
  unfold partL
  by_cases h : a = b
  · rw [if_pos h, h1 h]; rfl
  · rw [if_neg h, go_cons]
    show (if faultL id b = 0 then goL [] (setL o id b) else _) = _
    rw [if_pos hg.2.2, h2 h]; rfl
theorem up_go {v x : Vs} (hx : x.ok) : ∀ k, k ≤ 6 → goL (upL v x k) v = (mixL v x k, 0) := by
  intro k
  induction k with
  | zero => intro _; rfl
  | succ k ih =>
    intro hk
    show goL (upL v x k ++ partL ((k : Int) + 1) (fldL v k) (fldL x k)) v = _
    rw [go_append, ih (by omega), if_pos rfl]
    obtain ⟨g1, g2, g3, g4, g5, g6⟩ := hx
    cases v
    cases x
    have hk6 : k = 0 ∨ k = 1 ∨ k = 2 ∨ k = 3 ∨ k = 4 ∨ k = 5 := by omega
    rcases hk6 with rfl | rfl | rfl | rfl | rfl | rfl
    · exact go_part g1 (fun h => by simp [mixL, fldL] at h ⊢; omega) (fun h => by simp [mixL, fldL, set_1])
    · exact go_part g2 (fun h => by simp [mixL, fldL] at h ⊢; omega) (fun h => by simp [mixL, fldL, set_2])
    · exact go_part g3 (fun h => by simp [mixL, fldL] at h ⊢; omega) (fun h => by simp [mixL, fldL, set_3])
    · exact go_part g4 (fun h => by simp [mixL, fldL] at h ⊢; omega) (fun h => by simp [mixL, fldL, set_4])
    · exact go_part g5 (fun h => by simp [mixL, fldL] at h ⊢; omega) (fun h => by simp [mixL, fldL, set_5])
    · exact go_part g6 (fun h => by simp [mixL, fldL] at h ⊢; omega) (fun h => by simp [mixL, fldL, set_6])
theorem pairs_apply {v x : Vs} (hv : v.ok) (hx : x.ok) : applyL v (pairsL v x) = (x, 0) := by
  unfold applyL pairsL
  rw [if_pos hv, if_pos ⟨hv, hx⟩, up_go hx 6 (by omega)]
  rfl
theorem pairs_self (v : Vs) : pairsL v v = [] := pairs_none (Or.inl rfl)
theorem set_ok {v : Vs} {id n : Int} (hv : v.ok) (h0 : 0 ≤ n) (h1 : n ≤ 4294967295) (hf : faultL id n = 0) : (setL v id n).ok := by
  by_cases hk : 1 ≤ id ∧ id ≤ 6
  · obtain ⟨g1, g2, g3, g4, g5, g6⟩ := hv
    have hid : id = 1 ∨ id = 2 ∨ id = 3 ∨ id = 4 ∨ id = 5 ∨ id = 6 := by omega
    have hg : goodN id n := ⟨h0, h1, hf⟩
    rcases hid with rfl | rfl | rfl | rfl | rfl | rfl
    · rw [set_1]; exact ⟨hg, g2, g3, g4, g5, g6⟩
    · rw [set_2]; exact ⟨g1, hg, g3, g4, g5, g6⟩
    · rw [set_3]; exact ⟨g1, g2, hg, g4, g5, g6⟩
    · rw [set_4]; exact ⟨g1, g2, g3, hg, g5, g6⟩
    · rw [set_5]; exact ⟨g1, g2, g3, g4, hg, g6⟩
    · rw [set_6]; exact ⟨g1, g2, g3, g4, g5, hg⟩
  · rw [set_other _ _ hk]; exact hv
theorem go_ok : ∀ (l : List (Int × Int)) (v : Vs), v.ok → (∀ p ∈ l, wfP p) → (goL l v).1.ok
  | [], v, hv, _ => hv
  | p :: t, v, hv, hl => by
    rw [go_cons]
    have hp := bounds_u32 (hl p (List.mem_cons_self ..)).2
    by_cases h : faultL p.1 p.2 = 0
    · rw [if_pos h]
      exact go_ok t _ (set_ok hv hp.1 hp.2 h) (fun q hq => hl q (List.mem_cons_of_mem _ hq))
    · rw [if_neg h]; exact hv
theorem apply_ok {l : List (Int × Int)} {v : Vs} (hv : v.ok) (hl : ∀ p ∈ l, wfP p) : (applyL v l).1.ok := by
  unfold applyL finL
  rw [if_pos hv]
  split
  · exact go_ok l v hv hl
  · exact hv
/-- Settings of one by one: what is behind the k-th one. -/
def backI (l : List (Int × Int)) (R : Vs × Int) (k : Nat) (o : Vs) (e : Int) : Prop := (e = 0 ∧ goL (l.drop k) o = R) ∨ (e ≠ 0 ∧ R = (o, e))
theorem step_one {o : Vs} (p : Int × Int) (ho : o.ok) : applyL o [p] = if faultL p.1 p.2 = 0 then (setL o p.1 p.2, 0) else (o, faultL p.1 p.2) := by
  unfold applyL
  rw [if_pos ho, go_cons]
  by_cases h : faultL p.1 p.2 = 0
  · rw [if_pos h, if_pos h]; rfl
  · rw [if_neg h, if_neg h, fin_bad _ _ h]
theorem back_next {l : List (Int × Int)} {R : Vs × Int} {k : Nat} {o : Vs} (h : k < l.length) (hl : ∀ p ∈ l, wfP p) (ho : o.ok) (hi : backI l R k o 0) : (applyL o [l[k]]).1.ok ∧ backI l R (k + 1) (applyL o [l[k]]).1 (applyL o [l[k]]).2 := by
  have hR : goL (l.drop k) o = R := by rcases hi with hi | hi; exact hi.2; exact absurd rfl hi.1
  rw [drop_go l k o h] at hR
  have hp := bounds_u32 (hl l[k] (List.getElem_mem _)).2
  rw [step_one _ ho]
  by_cases hf : faultL l[k].1 l[k].2 = 0
  · rw [if_pos hf] at hR ⊢
    exact ⟨set_ok ho hp.1 hp.2 hf, Or.inl ⟨rfl, hR⟩⟩
  · rw [if_neg hf] at hR ⊢
    exact ⟨ho, Or.inr ⟨hf, hR.symm⟩⟩
theorem back_done {l : List (Int × Int)} {R : Vs × Int} {k : Nat} {o : Vs} {e : Int} (hk : l.length ≤ k ∨ e ≠ 0) (hi : backI l R k o e) : R = (o, e) := by
  rcases hi with ⟨rfl, hi⟩ | ⟨_, hi⟩
  · rcases hk with hk | hk
    · rw [List.drop_eq_nil_of_le hk] at hi; exact hi.symm
    · exact absurd rfl hk
  · exact hi
end Go.Proofs.Ythjciimodemfpaa
