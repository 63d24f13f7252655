import Derived.Test.YtdonnbfojcggmaaGreatPay0
namespace Go.Proofs.YtdonnbfojcggmaaGreat
open Go.RowKit
attribute [local go_sem ↓] Go.wp_at_zero Go.wp_at_succ

/-- What is kept: all but one block. -/
structure Kept (w w' : World) (g : Nat) : Prop where
  os : w'.os = w.os
  tape : w'.tape = w.tape
  output : w'.output = w.output
  size : w.heap.size ≤ w'.heap.size
  block : ∀ k, k < w.heap.size → k ≠ g → w'.heap[k]? = w.heap[k]?
theorem Kept.refl (w : World) (g : Nat) : Kept w w g := ⟨rfl, rfl, rfl, Nat.le_refl _, fun _ _ _ => rfl⟩
theorem Kept.trans {a b c : World} {g : Nat} (h : Kept a b g) (k : Kept b c g) : Kept a c g :=
  ⟨k.os.trans h.os, k.tape.trans h.tape, k.output.trans h.output, Nat.le_trans h.size k.size, fun i hi hg => (k.block i (Nat.lt_of_lt_of_le hi h.size) hg).trans (h.block i hi hg)⟩
theorem Kept.of_lo {w w' : World} (g : Nat) (h : Below w.heap.size w w') : Kept w w' g := ⟨h.os, h.tape, h.output, h.size, fun k hk _ => h.block k hk⟩
theorem Kept.lo {a b c : World} {g : Nat} (h : Kept a b g) (k : Below b.heap.size b c) : Kept a c g := h.trans (.of_lo g k)
theorem Kept.set {a b : World} {g : Nat} (h : Kept a b g) (i : Nat) (u : Value) : Kept a (b.setCell ⟨g, i, none⟩ u) g := by
  refine h.trans ⟨rfl, rfl, rfl, by simp, fun k _ hk => heap_setCell_other b ⟨g, i, none⟩ k u (fun e => hk (by simpa using e))⟩
theorem Kept.alloc {a b : World} {g : Nat} (h : Kept a b g) (o : Obj) : Kept a (b.alloc o) g := h.lo (lo_alloc (lo_refl b) o)
theorem Kept.drew {a b : World} {g : Nat} (h : Kept a b g) : Kept a b.drew g := h.lo (lo_drew (lo_refl b))
theorem Kept.drewN {a b : World} {g : Nat} (h : Kept a b g) (n : Nat) : Kept a (b.drewN n) g := h.lo (lo_drewN (lo_refl b) n)
theorem Kept.to_lo {a b : World} {g : Nat} (h : Kept a b g) (hg : a.heap.size ≤ g) : Below a.heap.size a b := ⟨h.os, h.tape, h.output, h.size, fun k hk => h.block k hk (by omega)⟩
theorem Blk.kept {w w' : World} {x g : Nat} {t : TypeId} {cs : Array Value} (h : Blk w x t cs) (hk : Kept w w' g) (hne : x ≠ g) : Blk w' x t cs := (hk.block x h.lt hne).trans h
theorem Blk.inj {w : World} {x : Nat} {t t' : TypeId} {cs cs' : Array Value} (h : Blk w x t cs) (h' : Blk w x t' cs') : t = t' ∧ cs = cs' := by
  have := Eq.trans (Eq.symm h) h'
  injection this with this
  injection this with h1 h2 _
  exact ⟨h2, h1⟩
theorem blk_ne {w : World} {x g : Nat} {t t' : TypeId} {cs cs' : Array Value} (h : Blk w x t cs) (h' : Blk w g t' cs') (ht : t ≠ t') : x ≠ g := by
  rintro rfl
  exact ht (h.inj h').1
/-- A row of structs, each of cells C x, in a block of elements e. -/
def Row {α : Type} (e nf : Nat) (C : α → List Value) (w : World) (A : Option Addr) (n cap : Nat) (l : List α) : Prop :=
  AggRow nf C (fun _ => True) w A n cap l ∧ ∀ p, A = some p → ∃ cs, Blk w p.block e cs
section
variable {b off : Nat} {α : Type} {e nf : Nat} {C : α → List Value} {w w' : World} {A : Option Addr} {n cap : Nat} {l : List α}
theorem Row.len (h : Row e nf C w A n cap l) : l.length = n := h.1.1
theorem Row.le (h : Row e nf C w A n cap l) : n ≤ cap := h.1.2.1
theorem Row.capm (h : Row e nf C w A n cap l) : cap ≤ maxLen := h.1.2.2.1
theorem Row.noneAt (h : Row e nf C w A n cap l) (ha : A = none) : n = 0 ∧ cap = 0 := h.1.2.2.2.1 ha
theorem Row.nil : Row e nf C w none 0 0 ([] : List α) := ⟨⟨rfl, Nat.le_refl _, Nat.zero_le _, fun _ => ⟨rfl, rfl⟩, fun i x hx => by simp at hx, fun _ _ => trivial⟩, fun p h => by cases h⟩
theorem Row.ne {g : Nat} {t : TypeId} {cs : Array Value} (h : Row e nf C w A n cap l) (hg : Blk w g t cs) (hte : t ≠ e) : ∀ p, A = some p → p.block ≠ g := by
  intro p hp he
  obtain ⟨cs', hb⟩ := h.2 p hp
  subst he
  exact hte (hg.inj hb).1
theorem Row.same (h : Row e nf C w A n cap l) (hh : ∀ p, A = some p → w'.heap[p.block]? = w.heap[p.block]?) (hs : w.heap.size ≤ w'.heap.size) : Row e nf C w' A n cap l := by
  obtain ⟨⟨h1, h2, h3, h4, h5, h6⟩, h7⟩ := h
  refine ⟨⟨h1, h2, h3, h4, fun i x hx => ?_, h6⟩, fun p hp => ?_⟩
  · obtain ⟨b, off, ha, hlt, hc⟩ := h5 i x hx
    refine ⟨b, off, ha, Nat.lt_of_lt_of_le hlt hs, fun j u hu => ?_⟩
    have := hh _ ha
    dsimp only at this
    have h := hc j u hu
    simp only [World.cell?, this] at h ⊢
    exact h
  · obtain ⟨cs, hb⟩ := h7 p hp
    exact ⟨cs, (hh p hp).trans hb⟩
theorem Row.lo (h : Row e nf C w A n cap l) (hb : Below w.heap.size w w') : Row e nf C w' A n cap l :=
  h.same (fun p hp => by obtain ⟨cs, hc⟩ := h.2 p hp; exact hb.block _ hc.lt) hb.size
theorem Row.kept {g : Nat} {t : TypeId} {cs : Array Value} (h : Row e nf C w A n cap l) (hk : Kept w w' g) (hg : Blk w g t cs) (hte : t ≠ e) : Row e nf C w' A n cap l :=
  h.same (fun p hp => by obtain ⟨cs, hc⟩ := h.2 p hp; exact hk.block _ hc.lt (h.ne hg hte p hp)) hk.size
theorem Row.grown {base e' size m : Nat} {v : Value} {xs : List Value} (h : Row e nf C w A n cap l) (ho : w.ownsRow base e' size v m xs) (hg : w.grownBy w' v.ownBlock) (hne : e' ≠ e) : Row e nf C w' A n cap l :=
  h.same (fun p hp => by obtain ⟨cs, hc⟩ := h.2 p hp; exact hg.block _ hc.lt (blk_ne_own ho hc hne.symm)) hg.size
/-- The cells of one element, where the row is at an address. -/
theorem Row.at (h : Row e nf C w A n cap l) {i : Nat} {x : α} (hx : l[i]? = some x) : ∃ b off, A = some ⟨b, off, .none⟩ ∧ b < w.heap.size ∧ ∀ j u, (C x)[j]? = some u → w.cell? ⟨b, off + i * nf + j, .none⟩ = some u := h.1.2.2.2.2.1 i x hx
/-- A row without its first elements. -/
theorem Row.drop (h : Row e nf C w (some ⟨b, off, .none⟩) n cap l) (k : Nat) (hk : k ≤ n) : Row e nf C w (some ⟨b, off + k * nf, .none⟩) (n - k) (cap - k) (l.drop k) := by
  obtain ⟨⟨h1, h2, h3, h4, h5, h6⟩, h7⟩ := h
  refine ⟨⟨by simp [h1], by omega, by omega, (fun h => by cases h), fun i x hx => ?_, fun _ _ => trivial⟩, fun p hp => ?_⟩
  · rw [List.getElem?_drop] at hx
    obtain ⟨b', off', ha, hlt, hc⟩ := h5 _ x hx
    injection ha with ha
    injection ha with e1 e2 e3
    subst e1 e2
    refine ⟨_, _, rfl, hlt, fun j u hu => ?_⟩
    have := hc j u hu
    rw [Nat.add_mul] at this
    rw [show off + k * nf + i * nf + j = off + (k * nf + i * nf) + j by omega]
    exact this
  · injection hp with hp
    subst hp
    obtain ⟨cs, hb⟩ := h7 ⟨b, off, .none⟩ rfl
    exact ⟨cs, hb⟩
/-- The row's cells laid flat. -/
theorem Row.flat (h : Row e nf C w (some ⟨b, off, .none⟩) n cap l) (hC : ∀ x, (C x).length = nf) (hpos : 0 < nf) : ∀ j u, (l.flatMap C)[j]? = some u → w.cell? ⟨b, off + j, .none⟩ = some u := by
  intro j u hu
  have hj : j < (l.flatMap C).length := (List.getElem?_eq_some_iff.1 hu).1
  rw [flatMap_len hC] at hj
  have hi : j / nf < l.length := by rw [Nat.div_lt_iff_lt_mul hpos]; exact hj
  have hm : j % nf < nf := Nat.mod_lt _ hpos
  have hjj : j / nf * nf + j % nf = j := by rw [Nat.mul_comm]; exact Nat.div_add_mod j nf
  obtain ⟨b', off', ha, _, hc⟩ := h.at (List.getElem?_eq_getElem hi)
  injection ha with ha
  injection ha with e1 e2 _
  subst e1 e2
  have := hc (j % nf) u (by rw [← flatMap_get hC l (j / nf) (j % nf) _ (List.getElem?_eq_getElem hi) hm, hjj]; exact hu)
  rw [show off + j / nf * nf + j % nf = off + j by omega] at this
  exact this
end
theorem row_own {α : Type} {e nf : Nat} {C : α → List Value} {w : World} {base n : Nat} {A : Option Addr} {cap : Nat} {l : List α} (hC : ∀ x, (C x).length = nf) (hpos : 0 < nf) (h : w.ownsRow base e nf (.slice A n cap) n (l.flatMap C)) : Row e nf C w A n cap l := by
  refine ⟨agg_own hC hpos h (fun _ _ => trivial), fun p hp => ?_⟩
  subst hp
  rcases h.2 with ⟨he, _⟩ | ⟨y, cap, cur, he, _, hh, _⟩
  · cases he
  · injection he with he
    injection he with he
    subst he
    exact ⟨cur, hh⟩
theorem own_mono {w : World} {base base' : Nat} {e : TypeId} {size n : Nat} {v : Value} {xs : List Value} (h : w.ownsRow base e size v n xs) (hb : base' ≤ base) : w.ownsRow base' e size v n xs := by
  obtain ⟨h1, h2⟩ := h
  refine ⟨h1, ?_⟩
  rcases h2 with h2 | ⟨g, cap, cur, hv, hg, r⟩
  · exact .inl h2
  · exact .inr ⟨g, cap, cur, hv, Nat.le_trans hb hg, r⟩
theorem own_low {w : World} {base : Nat} {e : TypeId} {size : Nat} {v : Value} {n : Nat} {xs : List Value} (h : w.ownsRow base e size v n xs) {p : Addr} (hp : p.block < base) (u : Value) : (w.setCell p u).ownsRow base e size v n xs := own_far h (own_ne h (.inl hp)) u
theorem row_one {α : Type} {e nf : Nat} {C : α → List Value} {w : World} {g : Nat} {cs : Array Value} (h : Blk w g e cs) (l : List α) (n : Nat) (hn : l.length = n) (hl : cs.toList = l.flatMap C) (hC : ∀ x, (C x).length = nf) (hm : n ≤ maxLen) : Row e nf C w (some ⟨g, 0, none⟩) n n l := by
  refine ⟨⟨hn, Nat.le_refl _, hm, (fun h => by cases h), fun i x hx => ⟨g, 0, rfl, h.lt, fun j u hu => ?_⟩, fun _ _ => trivial⟩, fun p hp => ?_⟩
  · have hj : j < nf := by
      have := (List.getElem?_eq_some_iff.1 hu).1
      rw [hC] at this
      exact this
    have h1 := h.at hl (i * nf + j) u (by rw [flatMap_get hC l i j x hx hj]; exact hu)
    rw [add_none] at h1
    rw [show 0 + i * nf + j = 0 + (i * nf + j) by omega]
    exact h1
  · injection hp with hp
    subst hp
    exact ⟨cs, h⟩
/-- A row of the call's own, told by its elements. -/
def RowPost {α : Type} (e nf : Nat) (C : α → List Value) (w : World) (l : List α) (x : Ending) (w' : World) : Prop :=
  ∃ v, x = .returned v ∧ w'.ownsRow w.heap.size e nf v l.length (l.flatMap C) ∧ Below w.heap.size w w'
/-! Settings under way: what was sent, and when. -/
structure It where
  A : Option Addr
  cap : Nat
  v : Int
  two : Bool
  t : Int
def It.l (x : It) : List (Int × Int) := if x.two then [(3, x.v), (6, 1024)] else [(3, x.v)]
def It.n (x : It) : Nat := x.l.length
def cellsI (x : It) : List Value := [.slice x.A x.n x.cap, .int .i64 x.t]
theorem cellsI_len (x : It) : (cellsI x).length = 2 := rfl
def cellsS (s : ByteArray) : List Value := [.string s]
theorem cellsS_len (s : ByteArray) : (cellsS s).length = 1 := rfl
def cellsB (n : Int) : List Value := [.int .u8 n]
theorem cellsB_len (n : Int) : (cellsB n).length = 1 := rfl
theorem flat_map1 {α : Type} (f : α → Value) : ∀ (l : List α), l.flatMap (fun x => [f x]) = l.map f
  | [] => rfl
  | x :: l => by simp [flat_map1 f l]
theorem flat_B (l : List Int) : l.flatMap cellsB = l.map (Value.int .u8) := flat_map1 _ l
theorem flat_S (l : List ByteArray) : l.flatMap cellsS = l.map Value.string := flat_map1 _ l
abbrev RowP (w : World) (A : Option Addr) (n cap : Nat) (l : List (Int × Int)) : Prop := Row 104 2 cellsP w A n cap l
abbrev RowI (w : World) (A : Option Addr) (n cap : Nat) (l : List It) : Prop := Row 116 2 cellsI w A n cap l
abbrev RowS (w : World) (A : Option Addr) (n cap : Nat) (l : List ByteArray) : Prop := Row 9 1 cellsS w A n cap l
abbrev RowB (w : World) (A : Option Addr) (n cap : Nat) (l : List Int) : Prop := Row 5 1 cellsB w A n cap l
theorem RowP.prs {w : World} {A : Option Addr} {n cap : Nat} {l : List (Int × Int)} (h : RowP w A n cap l) (hg : ∀ x ∈ l, goodP x) : Prs w A n cap l := ⟨h.1.1, h.1.2.1, h.1.2.2.1, h.1.2.2.2.1, h.1.2.2.2.2.1, hg⟩
theorem It.good (x : It) (h : 0 ≤ x.v ∧ x.v ≤ 4294967295) : ∀ p ∈ x.l, goodP p := by
  intro p hp
  unfold It.l at hp
  split at hp
  · simp at hp
    rcases hp with rfl | rfl
    · exact ⟨.inl rfl, h⟩
    · exact ⟨.inr rfl, by decide⟩
  · simp at hp
    subst hp
    exact ⟨.inl rfl, h⟩
theorem It.n_le (x : It) : x.n ≤ 2 := by unfold It.n It.l; split <;> simp
theorem It.n_pos (x : It) : 1 ≤ x.n := by unfold It.n It.l; split <;> simp
end Go.Proofs.YtdonnbfojcggmaaGreat
