import Derived.Test.YtdonnbfojcggmaaGreatTop0
import Derived.Test.YtdonnbfojcggmaaGreatUntil
namespace Go.Proofs.YtdonnbfojcggmaaGreat
open Go.RowKit
attribute [local go_sem ↓] Go.wp_at_zero Go.wp_at_succ

section
variable {P : Program} {ops : Array Oper} {Q : Exit → Act → World → Prop} {md : Region.Mode} {S S2 : World → Prop} {p : Nat}
/-- An operation that has to come now, ahead of p: S and S2 are shown behind it. -/
theorem until_eff {i : Nat} {o : Oper} {n : Nat} {seen : Array Bool} {a : Act} {w : World} (hr : Region.ready md ops seen = [i]) (ho : ops[i]? = some o)
    (h : ∀ K : Act → World → Prop, Shut (∀ a w, (S2 w ∧ S w) → UntilP P md ops Q S S2 p n (seen.setIfInBounds i true) a w → K a w) → if Region.wanted o (yielded ops a.tmps) = true then Oper.wp P o a w K Q else K (a.put o.dst undef) w) : UntilP P md ops Q S S2 p (n + 1) seen a w := by
  refine ⟨fun h0 => (by rw [hr] at h0; cases h0), fun j hj => ?_⟩
  rw [hr] at hj
  obtain rfl : j = i := by simpa using hj
  exact wpOp_step ho fun K hK => h K fun a w h2 hU => hK a w ⟨⟨h2.1, .inr h2.2⟩, hU⟩
end
/-- append onto a full slice, at one operation. -/
theorem oper_append_full {P : Program} {w : World} {o : Oper} {a : Act} {K : Act → World → Prop} {Q : Exit → Act → World → Prop} (s x : Operand) (t : TypeId)
    (ho : o.op = .call { callee := .builtin .append, args := #[s, x], argTypes := #[t, t] })
    (e : TypeId) (i : TypeInfo) (z : Value) (size bytes : Nat) (ht : P.underlying t = some (.slice e)) (hi : P.info? e = some i) (hz : i.zero = some z) (hsize : i.size = size) (hby : i.bytes = bytes) (hzs : z.cells.size = size)
    (b : Addr) (n sc : Nat) (olds : List Value) (hs : a.eval s = .slice (some b) n sc) (hlo : olds.length = n * size) (holds : ∀ j u, olds[j]? = some u → w.cell? (b.add j) = some u)
    (ad : Addr) (m c : Nat) (news : List Value) (hx : a.eval x = .slice (some ad) m c) (hl : news.length = m * size) (hnews : ∀ j u, news[j]? = some u → w.cell? (ad.add j) = some u)
    (hg : sc < n + m) (hn : n + m ≤ 1000000000) (hb : bytes ≤ 1000)
    (h : ∀ v' w', w'.ownsRow w.heap.size e size v' (n + m) (olds ++ news) → Below w.heap.size w w' → K (a.put o.dst v') w') : o.wp P a w K Q := by
  subst hsize hby
  have hmul := Nat.mul_le_mul hn hb
  have hr := run_append_grow (P := P) w t o.type e i z ht hi hz b n sc olds hlo holds ad m c news hl hnews hg (by omega) (growslice_fits hg (by omega))
  have hlen : (olds ++ news).length = (n + m) * i.size := by rw [List.length_append, hlo, hl, Nat.add_mul]
  have hge := grownCap_ge w (n + m) sc e
  have hcm : grownCap w (n + m) sc e ≤ maxLen := grownCap_le_maxLen w (n + m) sc e (by unfold maxLen; omega)
  have hown : (w.drew.alloc (.cells (olds.toArray ++ news.toArray ++ Builtin.zeroCells z.cells (grownCap w (n + m) sc e - (n + m))) e)).ownsRow w.heap.size e i.size
        (.slice (some ⟨w.heap.size, 0, none⟩) (n + m) (grownCap w (n + m) sc e)) (n + m) (olds ++ news) := by
    refine ⟨hlen, .inr ⟨w.heap.size, _, _, rfl, Nat.le_refl _, heap_alloc_new w.drew _, hge, hcm, ?_, ?_⟩⟩
    · simp only [Array.size_append, List.size_toArray, size_zeroCells, hzs, hlo, hl, ← Nat.add_mul]
      congr 1
      omega
    · simp only [Array.toList_append, List.append_assoc]
      rw [← List.append_assoc, ← hlen]
      exact List.take_left
  unfold Oper.wp execOp
  simp only [ho, resolve, invoke, builtin, Sem.run_bind, Sem.run_pure, Result.andThen_ok, List.map_toArray, List.map_cons, List.map_nil, hs, hx, hr]
  exact h _ _ hown (lo_alloc (lo_drew (lo_refl w)) _)
/-- What holds between two steps: the law's numbers and the connection's say the same. -/
structure Inv (w0 : World) (gC gk g1 g2 : Nat) (k : Nat) (l : List It) (sA A1 A2 oA : Option Addr) (sc c1 c2 on oc : Nat) (ol : List ByteArray) (held told made gone code now : Int) (dead : Bool) (W : World) : Prop where
  con : Blk W gC 49 #[.int .i64 24, .string ⟨#[]⟩, .bool false, .int .i64 0, .string ⟨#[]⟩, .bool false, .int .i64 4096, .slice none 0 0, .int .i64 4096, .int .i64 4096, .slice none 0 0, .int .i64 4096, .int .i64 4096, .int .i64 4096, .int .i64 1, .int .i64 4294967295, .int .i64 65535, .int .i64 16384, .int .i64 4294967295, .slice sA l.length sc, .int .i64 held, .int .i64 told, .int .i64 0, .slice none 0 0, .slice none 0 0, .slice none 0 0, .int .i64 65535, .int .i64 65535, .slice oA on oc, .int .i64 made, .int .i64 gone, .bool true, .bool false, .bool dead, .int .u32 code, .int .i64 now, .int .i64 30]
  ack : Blk W gk 126 #[.int .u8 0, .int .u8 0, .int .u8 0, .int .u8 4, .int .u8 1, .int .u8 0, .int .u8 0, .int .u8 0, .int .u8 0]
  its : ItsOk W sA l.length sc l
  out : OutOk W oA on oc ol made gone
  few : made ≤ 60 + 30 * k
  lim : IntsAt W w0.heap.size g1 A1 l.length c1 (l.map It.v)
  sin : IntsAt W w0.heap.size g2 A2 l.length c2 (l.map It.t)
  ne : g1 ≠ g2
  cod : (code = 0 ∧ dead = false) ∨ (code = 1 ∧ dead = true) ∨ (code = 4 ∧ dead = true)
  now5 : 5 ≤ now
  nowk : now ≤ 5 + 20 * k
  old : ∀ x ∈ l, x.t ≤ now
  wait : code = 0 → lateB l now = false
  low : Below w0.heap.size w0 W
  geC : w0.heap.size ≤ gC
theorem Inv.lo {w0 : World} {gC gk g1 g2 k : Nat} {l : List It} {sA A1 A2 oA : Option Addr} {sc c1 c2 on oc : Nat} {ol : List ByteArray} {held told made gone code now : Int} {dead : Bool} {W W' : World} (h : Inv w0 gC gk g1 g2 k l sA A1 A2 oA sc c1 c2 on oc ol held told made gone code now dead W) (hb : Below W.heap.size W W') : Inv w0 gC gk g1 g2 k l sA A1 A2 oA sc c1 c2 on oc ol held told made gone code now dead W' :=
  ⟨h.con.lo hb, h.ack.lo hb, h.its.lo hb, h.out.lo hb, h.few, h.lim.lo hb, h.sin.lo hb, h.ne, h.cod, h.now5, h.nowk, h.old, h.wait, lo_trans h.low hb, h.geC⟩
end Go.Proofs.YtdonnbfojcggmaaGreat
