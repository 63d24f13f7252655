import Derived.Test.YtcgnoaaejaofiaaAwake
namespace Go.Proofs.Ytcgnoaaejaofiaa
open Go.RowKit
attribute [local go_sem ↓] Go.wp_at_zero Go.wp_at_succ

section
variable {w w' : World} {g k : Nat} {t : TypeId} {cs : Array Value}
theorem put9 {x0 x1 x2 x3 x4 x5 x6 x7 x8 : Value} (h : Blk w g t #[x0, x1, x2, x3, x4, x5, x6, x7, x8]) (a b c d e f i j l : Value) :
    Blk (((((((((w.setCell ⟨g, 0, none⟩ a).setCell ⟨g, 1, none⟩ b).setCell ⟨g, 2, none⟩ c).setCell ⟨g, 3, none⟩ d).setCell ⟨g, 4, none⟩ e).setCell ⟨g, 5, none⟩ f).setCell ⟨g, 6, none⟩ i).setCell ⟨g, 7, none⟩ j).setCell ⟨g, 8, none⟩ l) g t #[a, b, c, d, e, f, i, j, l] := by
  simpa using ((((((((h.set_ 0 a).set_ 1 b).set_ 2 c).set_ 3 d).set_ 4 e).set_ 5 f).set_ 6 i).set_ 7 j).set_ 8 l
theorem far9 (h : Blk w g t cs) (hk : g ≠ k) (a b c d e f i j l : Value) :
    Blk (((((((((w.setCell ⟨k, 0, none⟩ a).setCell ⟨k, 1, none⟩ b).setCell ⟨k, 2, none⟩ c).setCell ⟨k, 3, none⟩ d).setCell ⟨k, 4, none⟩ e).setCell ⟨k, 5, none⟩ f).setCell ⟨k, 6, none⟩ i).setCell ⟨k, 7, none⟩ j).setCell ⟨k, 8, none⟩ l) g t cs :=
  ((((((((h.far (p := ⟨k, 0, none⟩) hk a).far (p := ⟨k, 1, none⟩) hk b).far (p := ⟨k, 2, none⟩) hk c).far (p := ⟨k, 3, none⟩) hk d).far (p := ⟨k, 4, none⟩) hk e).far (p := ⟨k, 5, none⟩) hk f).far (p := ⟨k, 6, none⟩) hk i).far (p := ⟨k, 7, none⟩) hk j).far (p := ⟨k, 8, none⟩) hk l
theorem lo9 (h : Below w.heap.size w w') (hk : w.heap.size ≤ k) (a b c d e f i j l : Value) :
    Below w.heap.size w (((((((((w'.setCell ⟨k, 0, none⟩ a).setCell ⟨k, 1, none⟩ b).setCell ⟨k, 2, none⟩ c).setCell ⟨k, 3, none⟩ d).setCell ⟨k, 4, none⟩ e).setCell ⟨k, 5, none⟩ f).setCell ⟨k, 6, none⟩ i).setCell ⟨k, 7, none⟩ j).setCell ⟨k, 8, none⟩ l) :=
  lo_set (lo_set (lo_set (lo_set (lo_set (lo_set (lo_set (lo_set (lo_set h hk a) hk b) hk c) hk d) hk e) hk f) hk i) hk j) hk l
end
theorem small_prod {a b A B : Int} (h1 : 0 ≤ a) (h2 : a ≤ A) (h3 : 0 ≤ b) (h4 : b ≤ B) : 0 ≤ a * b ∧ a * b ≤ A * B :=
  ⟨Int.mul_nonneg h1 h3, Int.mul_le_mul h2 h4 h3 (by omega)⟩
theorem bounds_i64 {x : Int} (h : (Lit.int .i64 x).wf = true) : -9223372036854775808 ≤ x ∧ x ≤ 9223372036854775807 := by
  simp [Lit.wf, IntKind.min, IntKind.max, IntKind.signed, IntKind.bits] at h
  omega
theorem bounds_u8 {x : Int} (h : (Lit.int .u8 x).wf = true) : 0 ≤ x ∧ x ≤ 255 := by
  simp [Lit.wf, IntKind.min, IntKind.max, IntKind.signed, IntKind.bits] at h
  omega
/-- What the law's copies of its arguments are: a look's block and a bucket's. -/
def Copies (w : World) (x : Lk) (b : Bk) (gx gb : Nat) (wr : World) : Prop :=
  Blk wr gx 29 #[.int .i64 x.opn, .int .i64 x.told, .int .i64 x.agreed, .bool x.away, .int .i64 x.cost, .int .i64 x.backlog, .int .i64 x.cap, .int .i64 x.tick, .int .i64 x.second] ∧ Blk wr gb 26 #[.int .i64 b.burst, .int .i64 b.rate, .int .i64 b.per, .int .i64 b.level, .int .i64 b.now] ∧ w.heap.size ≤ gx ∧ w.heap.size ≤ gb ∧ gx ≠ gb ∧ Below w.heap.size w wr
theorem copies_a (w w1 : World) (x : Lk) (b : Bk) (h : Below w.heap.size w w1) : Copies w x b w1.heap.size (w1.heap.size + 1) ((w1.alloc (.cells #[.int .i64 x.opn, .int .i64 x.told, .int .i64 x.agreed, .bool x.away, .int .i64 x.cost, .int .i64 x.backlog, .int .i64 x.cap, .int .i64 x.tick, .int .i64 x.second] 29)).alloc (.cells #[.int .i64 b.burst, .int .i64 b.rate, .int .i64 b.per, .int .i64 b.level, .int .i64 b.now] 26)).drew := by
  have hX := (Blk.new w1 29 #[.int .i64 x.opn, .int .i64 x.told, .int .i64 x.agreed, .bool x.away, .int .i64 x.cost, .int .i64 x.backlog, .int .i64 x.cap, .int .i64 x.tick, .int .i64 x.second]).alloc (.cells #[.int .i64 b.burst, .int .i64 b.rate, .int .i64 b.per, .int .i64 b.level, .int .i64 b.now] 26)
  have hB := Blk.new (w1.alloc (.cells #[.int .i64 x.opn, .int .i64 x.told, .int .i64 x.agreed, .bool x.away, .int .i64 x.cost, .int .i64 x.backlog, .int .i64 x.cap, .int .i64 x.tick, .int .i64 x.second] 29)) 26 #[.int .i64 b.burst, .int .i64 b.rate, .int .i64 b.per, .int .i64 b.level, .int .i64 b.now]
  simp only [World.size_alloc] at hB
  have hs := h.size
  exact ⟨hX, hB, hs, by omega, by omega, lo_drew (lo_alloc (lo_alloc h _) _)⟩
theorem copies_b (w w1 : World) (x : Lk) (b : Bk) (h : Below w.heap.size w w1) : Copies w x b (w1.heap.size + 1) w1.heap.size ((w1.alloc (.cells #[.int .i64 b.burst, .int .i64 b.rate, .int .i64 b.per, .int .i64 b.level, .int .i64 b.now] 26)).alloc (.cells #[.int .i64 x.opn, .int .i64 x.told, .int .i64 x.agreed, .bool x.away, .int .i64 x.cost, .int .i64 x.backlog, .int .i64 x.cap, .int .i64 x.tick, .int .i64 x.second] 29)).drew := by
  have hB := (Blk.new w1 26 #[.int .i64 b.burst, .int .i64 b.rate, .int .i64 b.per, .int .i64 b.level, .int .i64 b.now]).alloc (.cells #[.int .i64 x.opn, .int .i64 x.told, .int .i64 x.agreed, .bool x.away, .int .i64 x.cost, .int .i64 x.backlog, .int .i64 x.cap, .int .i64 x.tick, .int .i64 x.second] 29)
  have hX := Blk.new (w1.alloc (.cells #[.int .i64 b.burst, .int .i64 b.rate, .int .i64 b.per, .int .i64 b.level, .int .i64 b.now] 26)) 29 #[.int .i64 x.opn, .int .i64 x.told, .int .i64 x.agreed, .bool x.away, .int .i64 x.cost, .int .i64 x.backlog, .int .i64 x.cap, .int .i64 x.tick, .int .i64 x.second]
  simp only [World.size_alloc] at hX
  have hs := h.size
  exact ⟨hX, hB, by omega, hs, by omega, lo_drew (lo_alloc (lo_alloc h _) _)⟩
end Go.Proofs.Ytcgnoaaejaofiaa
