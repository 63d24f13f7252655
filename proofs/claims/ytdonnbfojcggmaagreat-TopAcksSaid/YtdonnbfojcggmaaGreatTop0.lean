import Derived.ArgAppend
import Derived.Test.YtdonnbfojcggmaaGreatRange
import Derived.Test.YtdonnbfojcggmaaGreatCDrain
import Derived.Test.YtdonnbfojcggmaaGreatTick
namespace Go.Proofs.YtdonnbfojcggmaaGreat
open Go.RowKit
attribute [local go_sem ↓] Go.wp_at_zero Go.wp_at_succ

/-- Integers in a slice of the law's own, wherever in its block it begins. -/
def IntsAt (w : World) (B g : Nat) (A : Option Addr) (n cap : Nat) (xs : List Int) : Prop :=
  ∃ off cur, A = some ⟨g, off, none⟩ ∧ B ≤ g ∧ Blk w g 3 cur ∧ off + cap ≤ cur.size ∧ xs.length = n ∧ n ≤ cap ∧ cap ≤ maxLen ∧ ∀ i x, xs[i]? = some x → cur[off + i]? = some (.int .i64 x)
theorem IntsAt.one {w : World} {B g : Nat} {x : Int} (h : Blk w g 3 #[.int .i64 x]) (hB : B ≤ g) : IntsAt w B g (some ⟨g, 0, none⟩) 1 1 [x] :=
  ⟨0, _, rfl, hB, h, Nat.le_refl _, rfl, Nat.le_refl _, by unfold maxLen; omega, fun i y hy => by
    cases i with
    | zero => simp at hy; subst hy; rfl
    | succ i => simp at hy⟩
section
variable {w w' : World} {B g : Nat} {A : Option Addr} {n cap : Nat} {xs : List Int}
theorem IntsAt.lo (h : IntsAt w B g A n cap xs) (hb : Below w.heap.size w w') : IntsAt w' B g A n cap xs := by
  obtain ⟨off, cur, h1, h2, h3, h4⟩ := h
  exact ⟨off, cur, h1, h2, h3.lo hb, h4⟩
theorem IntsAt.alloc (h : IntsAt w B g A n cap xs) (o : Obj) : IntsAt (w.alloc o) B g A n cap xs := h.lo (lo_alloc (lo_refl w) o)
theorem IntsAt.kept {g' : Nat} (h : IntsAt w B g A n cap xs) (hk : Kept w w' g') (hne : g ≠ g') : IntsAt w' B g A n cap xs := by
  obtain ⟨off, cur, h1, h2, h3, h4⟩ := h
  exact ⟨off, cur, h1, h2, h3.kept hk hne, h4⟩
theorem IntsAt.ne {x : Nat} {t : TypeId} {cs : Array Value} (h : IntsAt w B g A n cap xs) (hb : Blk w x t cs) (ht : t ≠ 3) : g ≠ x := by
  obtain ⟨off, cur, h1, h2, h3, h4⟩ := h
  exact fun e => ht ((hb.inj (e ▸ h3)).1)
theorem IntsAt.lt (h : IntsAt w B g A n cap xs) : g < w.heap.size := by
  obtain ⟨off, cur, h1, h2, h3, h4⟩ := h
  exact h3.lt
theorem IntsAt.ge (h : IntsAt w B g A n cap xs) : B ≤ g := by
  obtain ⟨off, cur, h1, h2, h3, h4⟩ := h
  exact h2
theorem IntsAt.len (h : IntsAt w B g A n cap xs) : xs.length = n := by
  obtain ⟨off, cur, h1, h2, h3, h4, h5, h6⟩ := h
  exact h5
theorem IntsAt.get (h : IntsAt w B g A n cap xs) : ∃ off, A = some ⟨g, off, none⟩ ∧ ∀ i x, xs[i]? = some x → w.cell? ⟨g, off + i, none⟩ = some (.int .i64 x) := by
  obtain ⟨off, cur, h1, h2, h3, h4, h5, h6, h7, h8⟩ := h
  exact ⟨off, h1, fun i x hx => by rw [h3.facts.1]; exact h8 i x hx⟩
theorem IntsAt.tail {x : Int} {off : Nat} (h : IntsAt w B g (some ⟨g, off, none⟩) (n + 1) cap (x :: xs)) : IntsAt w B g (if cap = 1 then some ⟨g, off, none⟩ else some ⟨g, off + 1, none⟩) n (cap - 1) xs := by
  obtain ⟨off', cur, h1, h2, h3, h4, h5, h6, h7, h8⟩ := h
  injection h1 with h1
  injection h1 with _ h1 _
  subst h1
  have hl : xs.length = n := by simpa using h5
  split
  · have hn : n = 0 := by omega
    have hx : xs = [] := List.eq_nil_of_length_eq_zero (by omega)
    subst hx hn
    exact ⟨off, cur, rfl, h2, h3, by omega, rfl, by omega, by omega, fun i y hy => by simp at hy⟩
  · refine ⟨off + 1, cur, rfl, h2, h3, by omega, hl, by omega, by omega, fun i y hy => ?_⟩
    have := h8 (i + 1) y (by simpa using hy)
    rwa [show off + (i + 1) = off + 1 + i by omega] at this
end
set_option maxRecDepth 100000 in
set_option maxHeartbeats 1600000 in
/-- append(s, x), s a slice of the law's own integers. -/
theorem wp_append_int {w : World} {ops : Array Oper} {rest : List Oper} {o : Oper} {a : Act} {Q : Exit → Act → World → Prop} (hgd : o.guard = none) (s x : Operand)
    (ho : o.op = .call { callee := .builtin .append, args := #[s, x], argTypes := #[39, 39] }) {i : TypeInfo} (hi : Tryz.prog.info? 3 = some i) (hz : i.zero = some (.int .i64 0)) (hsize : i.size = 1) (hby : i.bytes = 8)
    {B g : Nat} {A : Option Addr} {n cap : Nat} {xs : List Int} (v : Int) (hs : a.eval s = .slice A n cap) (hI : IntsAt w B g A n cap xs) (hx : a.eval x = .slice (some ⟨w.heap.size, 0, none⟩) 1 1) (hn : n ≤ 1000) (hB : B ≤ w.heap.size)
    (h : ∀ A' cap' g' w', IntsAt w' B g' A' (n + 1) cap' (xs ++ [v]) → Kept w w' g → (g' = g ∨ w.heap.size ≤ g') → wpList Tryz.prog ops Q rest (a.put o.dst (.slice A' (n + 1) cap')) w') : wpList Tryz.prog ops Q (o :: rest) a (w.alloc (.cells #[.int .i64 v] 3)) := by
  obtain ⟨off, cur, rfl, h2, h3, h4, h5, h6, h7, h8⟩ := hI
  have h3a := h3.alloc (.cells #[.int .i64 v] 3)
  have hN := Blk.new w 3 #[.int .i64 v]
  by_cases hr : n + 1 ≤ cap
  · refine wpList_plain hgd fun K hK => ?_
    have hrun := run_append_room_cells (P := Tryz.prog) (w.alloc (.cells #[.int .i64 v] 3)) 39 o.type 3 i Tryz.underlying39 hi g off n cap ⟨w.heap.size, 0, none⟩ 1 1 [.int .i64 v] (by rw [hsize]; rfl) (hN.at rfl) (by intro u hu; simp at hu; subst hu; rfl) hr
      (fun j hj => by rw [h3a.facts.1, Array.getElem?_eq_getElem (by simp at hj; rw [hsize]; omega)]; rfl) (fun j hj => h3a.facts.2 _)
    rw [hsize] at hrun
    have hset := h3a.set_ (off + n) (.int .i64 v)
    unfold Oper.wp execOp
    simp only [ho, resolve, invoke, builtin, Sem.run_bind, Sem.run_pure, Result.andThen_ok, List.map_toArray, List.map_cons, List.map_nil, hs, hx, hrun]
    refine hK _ _ (h _ _ g _ ⟨off, cur.setIfInBounds (off + n) (.int .i64 v), rfl, h2, ?_, ?_, ?_, hr, h7, ?_⟩ ?_ (.inl rfl))
    · rw [Nat.mul_one]; exact hset
    · simpa using h4
    · simp [h5]
    · intro j y hy
      rcases Nat.lt_or_ge j n with hj | hj
      · rw [List.getElem?_append_left (by omega)] at hy
        rw [Array.getElem?_setIfInBounds_ne (by omega)]
        exact h8 j y hy
      · have hjn : j = n := by
          have := (List.getElem?_eq_some_iff.1 hy).1
          simp [h5] at this
          omega
        subst hjn
        rw [List.getElem?_append_right (by omega), h5] at hy
        simp at hy
        subst hy
        have hsz : off + j < cur.size := by omega
        simp [hsz]
    · rw [Nat.mul_one]
      exact ((Kept.refl w g).alloc _).set (off + n) _
  · have hcap : cap = n := by omega
    subst hcap
    refine wp_append_full hgd s x 39 ho 3 i (.int .i64 0) 1 8 Tryz.underlying39 hi hz hsize hby rfl ⟨g, off, none⟩ cap cap (xs.map (Value.int .i64)) hs (by simp [h5]) (fun j u hu => ?_) ⟨w.heap.size, 0, none⟩ 1 1 [.int .i64 v] hx rfl (hN.at rfl) (by omega) (by omega) (by decide) ?_
    · rw [add_none, h3a.facts.1]
      rw [List.getElem?_map] at hu
      cases hq : xs[j]? with
      | none => rw [hq] at hu; cases hu
      | some y =>
        rw [hq] at hu
        injection hu with hu
        subst hu
        exact h8 j y hq
    · intro v' w' hown hb
      obtain ⟨A', cap', rfl, hle, hnz⟩ := own_shape hown
      obtain ⟨a', rfl⟩ := nat_pos_some hnz (by omega)
      obtain ⟨b, cur', rfl, hbb, hT, hc1, hcm, hcs, htk⟩ := own_blk hown
      refine h _ _ b w' ⟨0, cur', rfl, by simp at hbb; omega, hT, by omega, by simp [h5], hc1, hcm, fun j y hy => ?_⟩ (((Kept.refl w g).alloc _).lo hb) (.inr (by simp at hbb; omega))
      have hj : j < cap + 1 := by
        have := (List.getElem?_eq_some_iff.1 hy).1
        simpa [h5] using this
      have h9 : (cur'.toList.take ((cap + 1) * 1))[j]? = (xs.map (Value.int .i64) ++ [Value.int .i64 v])[j]? := by rw [htk]
      rw [List.getElem?_take, if_pos (by omega), Array.getElem?_toList] at h9
      rw [Nat.zero_add, h9, show xs.map (Value.int .i64) ++ [Value.int .i64 v] = (xs ++ [v]).map (Value.int .i64) by simp, List.getElem?_map, hy]
      rfl
theorem late_app {l : List It} {now n : Int} (A : Option Addr) (c : Nat) (h : lateB l now = false) : lateB (l ++ [⟨A, c, n, false, now⟩]) now = false := by
  cases l with
  | nil => simp [lateB]
  | cons x l => exact h
theorem late_tail {y : It} {l : List It} {now : Int} (hp : (y :: l).Pairwise fun a b => a.t ≤ b.t) (h : lateB (y :: l) now = false) : lateB l now = false := by
  cases l with
  | nil => rfl
  | cons x l =>
    have h1 := (List.pairwise_cons.1 hp).1 x (List.mem_cons_self)
    simp only [lateB, decide_eq_false_iff_not] at h ⊢
    omega
theorem info3 : (Tryz.prog.info? 3).map (fun i => (i.zero, i.size, i.bytes)) = some (some (.int .i64 0), 1, 8) := by kernel_rfl
end Go.Proofs.YtdonnbfojcggmaaGreat
