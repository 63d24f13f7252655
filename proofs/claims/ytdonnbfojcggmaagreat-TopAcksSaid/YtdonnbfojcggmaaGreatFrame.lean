import Derived.Test.YtdonnbfojcggmaaGreatPayG
namespace Go.Proofs.YtdonnbfojcggmaaGreat
open Go.RowKit
attribute [local go_sem ↓] Go.wp_at_zero Go.wp_at_succ

/-- append onto a slice that is full: the row grows into a new block. -/
theorem wp_append_full {P : Program} {w : World} {ops : Array Oper} {rest : List Oper} {o : Oper} {a : Act} {Q : Exit → Act → World → Prop} (hgd : o.guard = none) (s x : Operand) (t : TypeId)
    (ho : o.op = .call { callee := .builtin .append, args := #[s, x], argTypes := #[t, t] })
    (e : TypeId) (i : TypeInfo) (z : Value) (size bytes : Nat) (ht : P.underlying t = some (.slice e)) (hi : P.info? e = some i) (hz : i.zero = some z) (hsize : i.size = size) (hby : i.bytes = bytes) (hzs : z.cells.size = size)
    (b : Addr) (n sc : Nat) (olds : List Value) (hs : a.eval s = .slice (some b) n sc) (hlo : olds.length = n * size) (holds : ∀ j u, olds[j]? = some u → w.cell? (b.add j) = some u)
    (ad : Addr) (m c : Nat) (news : List Value) (hx : a.eval x = .slice (some ad) m c) (hl : news.length = m * size) (hnews : ∀ j u, news[j]? = some u → w.cell? (ad.add j) = some u)
    (hg : sc < n + m) (hn : n + m ≤ 1000000000) (hb : bytes ≤ 1000)
    (h : ∀ v' w', w'.ownsRow w.heap.size e size v' (n + m) (olds ++ news) → Below w.heap.size w w' → wpList P ops Q rest (a.put o.dst v') w') : wpList P ops Q (o :: rest) a w := by
  subst hsize hby
  refine wpList_plain hgd fun K hK => ?_
  have hmul := Nat.mul_le_mul hn hb
  have hr := run_append_grow (P := P) w t o.type e i z ht hi hz b n sc olds hlo holds ad m c news hl hnews hg (by omega) (growslice_fits hg (by omega))
  have hlen : (olds ++ news).length = (n + m) * i.size := by rw [List.length_append, hlo, hl, Nat.add_mul]
  have hge := grownCap_ge w (n + m) sc e
  have hcm : grownCap w (n + m) sc e ≤ maxLen := grownCap_le_maxLen w (n + m) sc e (by unfold maxLen; omega)
  have hown : (w.drew.alloc (.cells (olds.toArray ++ news.toArray ++ Builtin.zeroCells z.cells (grownCap w (n + m) sc e - (n + m))) e)).ownsRow w.heap.size e i.size
        (.slice (some ⟨w.heap.size, 0, none⟩) (n + m) (grownCap w (n + m) sc e)) (n + m) (olds ++ news) := by
    refine ⟨hlen, .inr ⟨w.heap.size, _, _, rfl, Nat.le_refl _, heap_alloc_new w.drew _, hge, hcm, ?_, ?_⟩⟩
    · simp only [Array.size_append, List.size_toArray, size_zeroCells, hzs, hlo, hl, ← Nat.add_mul]
      congr 1
      omega
    · simp only [Array.toList_append, List.append_assoc]
      rw [← List.append_assoc, ← hlen]
      exact List.take_left
  unfold Oper.wp execOp
  simp only [ho, resolve, invoke, builtin, Sem.run_bind, Sem.run_pure, Result.andThen_ok, List.map_toArray, List.map_cons, List.map_nil, hs, hx, hr]
  exact hK _ _ (h _ _ hown (lo_alloc (lo_drew (lo_refl w)) _))
/-- append of nothing. -/
theorem wp_append_none {P : Program} {w : World} {ops : Array Oper} {rest : List Oper} {o : Oper} {a : Act} {Q : Exit → Act → World → Prop} (hgd : o.guard = none) (s x : Operand) (t : TypeId)
    (ho : o.op = .call { callee := .builtin .append, args := #[s, x], argTypes := #[t, t] })
    (e : TypeId) (i : TypeInfo) (ht : P.underlying t = some (.slice e)) (hi : P.info? e = some i) (b : Option Addr) (n sc : Nat) (hs : a.eval s = .slice b n sc) (hle : n ≤ sc) (A : Option Addr) (c : Nat) (hx : a.eval x = .slice A 0 c)
    (h : wpList P ops Q rest (a.put o.dst (.slice b n sc)) w) : wpList P ops Q (o :: rest) a w := by
  refine wpList_plain hgd fun K hK => ?_
  have hr : (Builtin.append_ #[t, t] o.type #[.slice b n sc, .slice A 0 c]).run P w = .ok (.slice b n sc) w := by
    cases A <;> cases b <;> simp [Builtin.append_, run_underlying ht, sizeOf, typeInfo, hi, Builtin.lenOf, Builtin.firstCells, hle, storeCells, loadCells, loadCellsFrom]
  unfold Oper.wp
  simp [execOp, ho, resolve, invoke, builtin, hs, hx, hr, Result.andThen]
  exact hK _ _ h
/-- Bytes behind one another. -/
abbrev Bytes (w : World) (A : Option Addr) (n cap : Nat) (bs : List Int) : Prop := AggRow 1 cellsB (fun _ => True) w A n cap bs
theorem own_bytes {w : World} {base e n cap : Nat} {A : Option Addr} {bs : List Int} (h : w.ownsRow base e 1 (.slice A n cap) n (bs.map (Value.int .u8))) : Bytes w A n cap bs :=
  agg_own cellsB_len (by decide) (by rw [flat_B]; exact h) fun _ _ => trivial
/-- A frame's bytes: so many. -/
def PutPost (w : World) (m : Nat) (e : Ending) (w' : World) : Prop := ∃ A c, ∃ bs : List Int, e = .returned (.tuple #[.slice A m c, .int .i64 0]) ∧ Bytes w' A m c bs ∧ Below w.heap.size w w'
theorem own_at {w : World} {base : Nat} {e : TypeId} {n cap : Nat} {A : Addr} {xs : List Value} (h : w.ownsRow base e 1 (.slice (some A) n cap) n xs) : ∀ j u, xs[j]? = some u → w.cell? (A.add j) = some u := by
  rcases h.2 with ⟨he, _⟩ | ⟨g, cap', cur, he, _⟩
  · cases he
  · injection he with e1
    injection e1 with e1
    subst e1
    exact h.cells (g := g) rfl
theorem nat_pos_some {A : Option Addr} {n : Nat} (h : A = none → n = 0) (hn : 0 < n) : ∃ a, A = some a := by
  cases A with
  | none => have := h rfl; omega
  | some a => exact ⟨a, rfl⟩
set_option maxRecDepth 100000 in
set_option maxHeartbeats 1600000 in
theorem check_h (fl : Int) (A : Option Addr) (n cap : Nat) (l : List (Int × Int)) (w : World) (hl : Prs w A n cap l) (hn : n ≤ 8) (h : (fl = 0 ∨ fl = 1) ∧ (0 < n → fl = 0)) : Calls Tryz.prog 22 #[.agg #[.int .u8 4, .int .u8 fl, .int .i64 0, .string ⟨#[]⟩, .int .i64 0, .int .i64 0, .bool false, .int .u8 0, .int .u32 0, .int .i64 0, .int .i64 0, .slice A n cap]] w (IntPost w 0) := by
  have H1 : Hid (∀ w0, Calls Tryz.prog 42 #[.int .i64 0] w0 (BoolSame w0 true)) := Lib.hid fun w0 => in_frame 0 w0 (by decide)
  have H2 : Hid (∀ w0, Calls Tryz.prog 43 #[.agg #[.int .u8 4, .int .u8 fl, .int .i64 0, .string ⟨#[]⟩, .int .i64 0, .int .i64 0, .bool false, .int .u8 0, .int .u32 0, .int .i64 0, .int .i64 0, .slice A n cap]] w0 (BoolPost w0 false)) := Lib.hid fun w0 => extra_h fl A n cap h w0
  obtain ⟨m, hm, H3⟩ : ∃ m : Nat, m ≤ 48 ∧ Hid (∀ w0, Prs w0 A n cap l → Calls Tryz.prog 23 #[.agg #[.int .u8 4, .int .u8 fl, .int .i64 0, .string ⟨#[]⟩, .int .i64 0, .int .i64 0, .bool false, .int .u8 0, .int .u32 0, .int .i64 0, .int .i64 0, .slice A n cap]] w0 (BytesPost w0 m)) := ⟨6 * n, by omega, Lib.hid (fun w0 h0 => payload_h fl A n cap l w0 h0 hn)⟩
  have hx : ¬ (16384 : Int) < (m : Int) := by omega
  have hA := Blk.new w 58 #[.int .u8 4, .int .u8 fl, .int .i64 0, .string ⟨#[]⟩, .int .i64 0, .int .i64 0, .bool false, .int .u8 0, .int .u32 0, .int .i64 0, .int .i64 0, .slice A n cap]
  have hL := lo_alloc (lo_refl w) (.cells #[.int .u8 4, .int .u8 fl, .int .i64 0, .string ⟨#[]⟩, .int .i64 0, .int .i64 0, .bool false, .int .u8 0, .int .u32 0, .int .i64 0, .int .i64 0, .slice A n cap] 58)
  have HL := Lib.hid hl
  clear hl h hn
  obtain ⟨cA, fA⟩ := hA.facts
  go_enter Tryz.func22, Tryz.ntmps22
  go_wp2_with fail
  refine (H1.out _).mono ?_
  rintro e w1 ⟨rfl, rfl⟩
  go_wp2_with fail
  refine (H1.out _).mono ?_
  rintro e w1 ⟨rfl, rfl⟩
  go_wp2_with fail
  refine (H1.out _).mono ?_
  rintro e w1 ⟨rfl, rfl⟩
  go_wp2_with fail
  refine (H1.out _).mono ?_
  rintro e w1 ⟨rfl, rfl⟩
  go_wp2_with fail
  refine (H2.out _).mono ?_
  rintro e w1 ⟨rfl, hb⟩
  clear cA fA
  replace hA := hA.lo hb
  replace hL := lo_trans hL hb
  clear hb
  obtain ⟨cA, fA⟩ := hA.facts
  go_wp2_with fail
  refine (H3.out _ (agg_lo HL.out hL)).mono ?_
  rintro e w2 ⟨u, bs, hbl, rfl, hown, hb⟩
  obtain ⟨A2, cap2, rfl, _, _⟩ := own_shape hown
  replace hL := lo_trans hL hb
  clear cA fA hA hb hown hbl
  go_wp2_with fail
  go_ret
  exact ⟨rfl, hL⟩
set_option maxRecDepth 100000 in
set_option maxHeartbeats 1600000 in
theorem check_g (code : Int) (w : World) (hc : code = 1 ∨ code = 4) : Calls Tryz.prog 22 #[.agg #[.int .u8 7, .int .u8 0, .int .i64 0, .string ⟨#[]⟩, .int .i64 0, .int .i64 0, .bool false, .int .u8 0, .int .u32 code, .int .i64 0, .int .i64 0, .slice none 0 0]] w (IntPost w 0) := by
  have H1 : Hid (∀ w0, Calls Tryz.prog 42 #[.int .i64 0] w0 (BoolSame w0 true)) := Lib.hid fun w0 => in_frame 0 w0 (by decide)
  have H2 : Hid (∀ w0, Calls Tryz.prog 43 #[.agg #[.int .u8 7, .int .u8 0, .int .i64 0, .string ⟨#[]⟩, .int .i64 0, .int .i64 0, .bool false, .int .u8 0, .int .u32 code, .int .i64 0, .int .i64 0, .slice none 0 0]] w0 (BoolPost w0 false)) := Lib.hid fun w0 => extra_g code hc w0
  obtain ⟨m, hm, H3⟩ : ∃ m : Nat, m ≤ 48 ∧ Hid (∀ w0, Calls Tryz.prog 23 #[.agg #[.int .u8 7, .int .u8 0, .int .i64 0, .string ⟨#[]⟩, .int .i64 0, .int .i64 0, .bool false, .int .u8 0, .int .u32 code, .int .i64 0, .int .i64 0, .slice none 0 0]] w0 (BytesPost w0 m)) := ⟨8, by omega, Lib.hid (fun w0 => payload_g code hc w0)⟩
  have hx : ¬ (16384 : Int) < (m : Int) := by omega
  have hA := Blk.new w 58 #[.int .u8 7, .int .u8 0, .int .i64 0, .string ⟨#[]⟩, .int .i64 0, .int .i64 0, .bool false, .int .u8 0, .int .u32 code, .int .i64 0, .int .i64 0, .slice none 0 0]
  have hL := lo_alloc (lo_refl w) (.cells #[.int .u8 7, .int .u8 0, .int .i64 0, .string ⟨#[]⟩, .int .i64 0, .int .i64 0, .bool false, .int .u8 0, .int .u32 code, .int .i64 0, .int .i64 0, .slice none 0 0] 58)
  clear hc
  obtain ⟨cA, fA⟩ := hA.facts
  go_enter Tryz.func22, Tryz.ntmps22
  go_wp2_with fail
  refine (H1.out _).mono ?_
  rintro e w1 ⟨rfl, rfl⟩
  go_wp2_with fail
  refine (H1.out _).mono ?_
  rintro e w1 ⟨rfl, rfl⟩
  go_wp2_with fail
  refine (H1.out _).mono ?_
  rintro e w1 ⟨rfl, rfl⟩
  go_wp2_with fail
  refine (H1.out _).mono ?_
  rintro e w1 ⟨rfl, rfl⟩
  go_wp2_with fail
  refine (H2.out _).mono ?_
  rintro e w1 ⟨rfl, hb⟩
  clear cA fA
  replace hA := hA.lo hb
  replace hL := lo_trans hL hb
  clear hb
  obtain ⟨cA, fA⟩ := hA.facts
  go_wp2_with fail
  refine (H3.out _ ).mono ?_
  rintro e w2 ⟨u, bs, hbl, rfl, hown, hb⟩
  obtain ⟨A2, cap2, rfl, _, _⟩ := own_shape hown
  replace hL := lo_trans hL hb
  clear cA fA hA hb hown hbl
  go_wp2_with fail
  go_ret
  exact ⟨rfl, hL⟩
set_option maxRecDepth 100000 in
set_option maxHeartbeats 1600000 in
theorem put_h (fl : Int) (A : Option Addr) (n cap : Nat) (l : List (Int × Int)) (w : World) (hl : Prs w A n cap l) (hn : n ≤ 8) (h : (fl = 0 ∨ fl = 1) ∧ (0 < n → fl = 0)) (hp : 0 < n) : Calls Tryz.prog 6 #[.agg #[.int .u8 4, .int .u8 fl, .int .i64 0, .string ⟨#[]⟩, .int .i64 0, .int .i64 0, .bool false, .int .u8 0, .int .u32 0, .int .i64 0, .int .i64 0, .slice A n cap]] w (PutPost w (9 + 6 * n)) := by
  have H1 : Hid (∀ w0, Prs w0 A n cap l → Calls Tryz.prog 22 #[.agg #[.int .u8 4, .int .u8 fl, .int .i64 0, .string ⟨#[]⟩, .int .i64 0, .int .i64 0, .bool false, .int .u8 0, .int .u32 0, .int .i64 0, .int .i64 0, .slice A n cap]] w0 (IntPost w0 0)) := Lib.hid (fun w0 h0 => check_h fl A n cap l w0 h0 hn h)
  obtain ⟨m, hm0, hm, hmm, H3⟩ : ∃ m : Nat, 0 < m ∧ m ≤ 48 ∧ 6 * n = m ∧ Hid (∀ w0, Prs w0 A n cap l → Calls Tryz.prog 23 #[.agg #[.int .u8 4, .int .u8 fl, .int .i64 0, .string ⟨#[]⟩, .int .i64 0, .int .i64 0, .bool false, .int .u8 0, .int .u32 0, .int .i64 0, .int .i64 0, .slice A n cap]] w0 (BytesPost w0 m)) := ⟨6 * n, by omega, by omega, rfl, Lib.hid (fun w0 h0 => payload_h fl A n cap l w0 h0 hn)⟩
  have H4 : Hid (∀ w0, Calls Tryz.prog 24 #[.agg #[.int .i64 m, .int .u8 4, .int .u8 fl, .int .i64 0]] w0 (HeadPost w0 fun bs => (m : Int) = 0 → bs = [0, 0, 0, 4, fl, 0, 0, 0, 0])) := Lib.hid fun w0 => head_any m 4 fl (by omega) w0
  obtain ⟨i0, hi, hz0, hz1, hz2⟩ := info_parts info5
  have hA := Blk.new w 58 #[.int .u8 4, .int .u8 fl, .int .i64 0, .string ⟨#[]⟩, .int .i64 0, .int .i64 0, .bool false, .int .u8 0, .int .u32 0, .int .i64 0, .int .i64 0, .slice A n cap]
  have hL := lo_alloc (lo_refl w) (.cells #[.int .u8 4, .int .u8 fl, .int .i64 0, .string ⟨#[]⟩, .int .i64 0, .int .i64 0, .bool false, .int .u8 0, .int .u32 0, .int .i64 0, .int .i64 0, .slice A n cap] 58)
  have HL := Lib.hid hl
  clear hl h hn
  rw [hmm]
  clear hmm
  obtain ⟨cA, fA⟩ := hA.facts
  go_enter Tryz.func6, Tryz.ntmps6
  go_wp2_with fail
  refine (H1.out _ (agg_lo HL.out hL)).mono ?_
  rintro e w1 ⟨rfl, hb⟩
  clear cA fA
  replace hA := hA.lo hb
  replace hL := lo_trans hL hb
  clear hb
  obtain ⟨cA, fA⟩ := hA.facts
  go_wp2_with fail
  refine (H3.out _ (agg_lo HL.out hL)).mono ?_
  rintro e w2 ⟨u, bs, hbl, rfl, hown, hb⟩
  obtain ⟨A2, cap2, rfl, hle2, hnz⟩ := own_shape hown
  obtain ⟨a2, rfl⟩ := nat_pos_some hnz hm0
  clear cA fA
  replace hA := hA.lo hb
  replace hL := lo_trans hL hb
  clear hb H1 H3
  obtain ⟨cA, fA⟩ := hA.facts
  go_wp2_with fail
  refine (H4.out _).mono ?_
  rintro e w3 ⟨g, hs, hsl, _, hgl, rfl, hH, hb⟩
  replace hown := own_lo hown hb
  replace hL := lo_trans hL hb
  clear cA fA hA hb H4
  have hat := own_at hown
  have hol : (bs.map (Value.int .u8)).length = m * 1 := hown.1
  have hsl' : (hs.map (Value.int .u8)).length = 9 * 1 := by simp [hsl]
  have HAT := Lib.hid hat
  clear hat hown
  go_wp2_with (at_builtin; refine wp_append_full rfl _ _ 53 rfl 5 i0 _ 1 1 Tryz.underlying53 hi hz0 hz1 hz2 rfl ⟨g, 0, none⟩ 9 9 (hs.map (Value.int .u8)) rfl hsl' (hH.at rfl) a2 m cap2 (bs.map (Value.int .u8)) rfl hol HAT.out (by omega) (by omega) (by decide) ?_; intro v4 w4 hown4 hb4)
  obtain ⟨A4, cap4, rfl, _, _⟩ := own_shape hown4
  rw [← List.map_append] at hown4
  exact bodyPost_ret (v := .tuple #[.slice A4 (9 + m) cap4, .int .i64 0]) (by simp [results, Tryz.results6, go_sem]) rfl ⟨A4, cap4, _, rfl, own_bytes hown4, lo_trans hL hb4⟩
set_option maxRecDepth 100000 in
set_option maxHeartbeats 1600000 in
theorem put_g0 (code : Int) (m : Nat) (w : World) (hc : code = 1 ∨ code = 4) (hmm : 8 = m) : Calls Tryz.prog 6 #[.agg #[.int .u8 7, .int .u8 0, .int .i64 0, .string ⟨#[]⟩, .int .i64 0, .int .i64 0, .bool false, .int .u8 0, .int .u32 code, .int .i64 0, .int .i64 0, .slice none 0 0]] w (PutPost w (9 + m)) := by
  have H1 : Hid (∀ w0, Calls Tryz.prog 22 #[.agg #[.int .u8 7, .int .u8 0, .int .i64 0, .string ⟨#[]⟩, .int .i64 0, .int .i64 0, .bool false, .int .u8 0, .int .u32 code, .int .i64 0, .int .i64 0, .slice none 0 0]] w0 (IntPost w0 0)) := Lib.hid (fun w0 => check_g code w0 hc)
  obtain ⟨hm0, hm, H3⟩ : 0 < m ∧ m ≤ 48 ∧ Hid (∀ w0, Calls Tryz.prog 23 #[.agg #[.int .u8 7, .int .u8 0, .int .i64 0, .string ⟨#[]⟩, .int .i64 0, .int .i64 0, .bool false, .int .u8 0, .int .u32 code, .int .i64 0, .int .i64 0, .slice none 0 0]] w0 (BytesPost w0 m)) := ⟨by omega, by omega, Lib.hid fun w0 => by subst hmm; exact payload_g code hc w0⟩
  have H4 : Hid (∀ w0, Calls Tryz.prog 24 #[.agg #[.int .i64 m, .int .u8 7, .int .u8 0, .int .i64 0]] w0 (HeadPost w0 fun bs => (m : Int) = 0 → bs = [0, 0, 0, 7, 0, 0, 0, 0, 0])) := Lib.hid fun w0 => head_any m 7 0 (by omega) w0
  obtain ⟨i0, hi, hz0, hz1, hz2⟩ := info_parts info5
  have hA := Blk.new w 58 #[.int .u8 7, .int .u8 0, .int .i64 0, .string ⟨#[]⟩, .int .i64 0, .int .i64 0, .bool false, .int .u8 0, .int .u32 code, .int .i64 0, .int .i64 0, .slice none 0 0]
  have hL := lo_alloc (lo_refl w) (.cells #[.int .u8 7, .int .u8 0, .int .i64 0, .string ⟨#[]⟩, .int .i64 0, .int .i64 0, .bool false, .int .u8 0, .int .u32 code, .int .i64 0, .int .i64 0, .slice none 0 0] 58)
  clear hc
  clear hmm
  obtain ⟨cA, fA⟩ := hA.facts
  go_enter Tryz.func6, Tryz.ntmps6
  go_wp2_with fail
  refine (H1.out _ ).mono ?_
  rintro e w1 ⟨rfl, hb⟩
  clear cA fA
  replace hA := hA.lo hb
  replace hL := lo_trans hL hb
  clear hb
  obtain ⟨cA, fA⟩ := hA.facts
  go_wp2_with fail
  refine (H3.out _ ).mono ?_
  rintro e w2 ⟨u, bs, hbl, rfl, hown, hb⟩
  obtain ⟨A2, cap2, rfl, hle2, hnz⟩ := own_shape hown
  obtain ⟨a2, rfl⟩ := nat_pos_some hnz hm0
  clear cA fA
  replace hA := hA.lo hb
  replace hL := lo_trans hL hb
  clear hb H1 H3
  obtain ⟨cA, fA⟩ := hA.facts
  go_wp2_with fail
  refine (H4.out _).mono ?_
  rintro e w3 ⟨g, hs, hsl, _, hgl, rfl, hH, hb⟩
  replace hown := own_lo hown hb
  replace hL := lo_trans hL hb
  clear cA fA hA hb H4
  have hat := own_at hown
  have hol : (bs.map (Value.int .u8)).length = m * 1 := hown.1
  have hsl' : (hs.map (Value.int .u8)).length = 9 * 1 := by simp [hsl]
  have HAT := Lib.hid hat
  clear hat hown
  go_wp2_with (at_builtin; refine wp_append_full rfl _ _ 53 rfl 5 i0 _ 1 1 Tryz.underlying53 hi hz0 hz1 hz2 rfl ⟨g, 0, none⟩ 9 9 (hs.map (Value.int .u8)) rfl hsl' (hH.at rfl) a2 m cap2 (bs.map (Value.int .u8)) rfl hol HAT.out (by omega) (by omega) (by decide) ?_; intro v4 w4 hown4 hb4)
  obtain ⟨A4, cap4, rfl, _, _⟩ := own_shape hown4
  rw [← List.map_append] at hown4
  exact bodyPost_ret (v := .tuple #[.slice A4 (9 + m) cap4, .int .i64 0]) (by simp [results, Tryz.results6, go_sem]) rfl ⟨A4, cap4, _, rfl, own_bytes hown4, lo_trans hL hb4⟩
theorem put_g (code : Int) (w : World) (hc : code = 1 ∨ code = 4) : Calls Tryz.prog 6 #[.agg #[.int .u8 7, .int .u8 0, .int .i64 0, .string ⟨#[]⟩, .int .i64 0, .int .i64 0, .bool false, .int .u8 0, .int .u32 code, .int .i64 0, .int .i64 0, .slice none 0 0]] w (PutPost w 17) := put_g0 code 8 w hc rfl
set_option maxRecDepth 100000 in
set_option maxHeartbeats 1600000 in
theorem put_0 (fl : Int) (w : World) (h : fl = 0 ∨ fl = 1) : Calls Tryz.prog 6 #[.agg #[.int .u8 4, .int .u8 fl, .int .i64 0, .string ⟨#[]⟩, .int .i64 0, .int .i64 0, .bool false, .int .u8 0, .int .u32 0, .int .i64 0, .int .i64 0, .slice none 0 0]] w (HeadPost w fun bs => bs = [0, 0, 0, 4, fl, 0, 0, 0, 0]) := by
  have hp0 : ∀ w0, Prs w0 none 0 0 [] := fun w0 => ⟨rfl, Nat.le_refl _, Nat.zero_le _, fun _ => ⟨rfl, rfl⟩, fun i x hx => by simp at hx, fun x hx => by simp at hx⟩
  have H1 : Hid (∀ w0, Calls Tryz.prog 22 #[.agg #[.int .u8 4, .int .u8 fl, .int .i64 0, .string ⟨#[]⟩, .int .i64 0, .int .i64 0, .bool false, .int .u8 0, .int .u32 0, .int .i64 0, .int .i64 0, .slice none 0 0]] w0 (IntPost w0 0)) := Lib.hid fun w0 => check_h fl none 0 0 [] w0 (hp0 w0) (by decide) ⟨h, fun h => absurd h (by decide)⟩
  have H3 : Hid (∀ w0, Calls Tryz.prog 23 #[.agg #[.int .u8 4, .int .u8 fl, .int .i64 0, .string ⟨#[]⟩, .int .i64 0, .int .i64 0, .bool false, .int .u8 0, .int .u32 0, .int .i64 0, .int .i64 0, .slice none 0 0]] w0 (BytesPost w0 0)) := Lib.hid fun w0 => payload_h fl none 0 0 [] w0 (hp0 w0) (by decide)
  have H4 : Hid (∀ w0, Calls Tryz.prog 24 #[.agg #[.int .i64 0, .int .u8 4, .int .u8 fl, .int .i64 0]] w0 (HeadPost w0 fun bs => bs = [0, 0, 0, 4, fl, 0, 0, 0, 0])) := Lib.hid fun w0 => (head_any 0 4 fl (by decide) w0).mono fun e w' ⟨g, bs, h1, h2, h3⟩ => ⟨g, bs, h1, h2 rfl, h3⟩
  obtain ⟨i0, hi, hz0, hz1, hz2⟩ := info_parts info5
  have hA := Blk.new w 58 #[.int .u8 4, .int .u8 fl, .int .i64 0, .string ⟨#[]⟩, .int .i64 0, .int .i64 0, .bool false, .int .u8 0, .int .u32 0, .int .i64 0, .int .i64 0, .slice none 0 0]
  have hL := lo_alloc (lo_refl w) (.cells #[.int .u8 4, .int .u8 fl, .int .i64 0, .string ⟨#[]⟩, .int .i64 0, .int .i64 0, .bool false, .int .u8 0, .int .u32 0, .int .i64 0, .int .i64 0, .slice none 0 0] 58)
  clear h hp0
  obtain ⟨cA, fA⟩ := hA.facts
  go_enter Tryz.func6, Tryz.ntmps6
  go_wp2_with fail
  refine (H1.out _).mono ?_
  rintro e w1 ⟨rfl, hb⟩
  clear cA fA
  replace hA := hA.lo hb
  replace hL := lo_trans hL hb
  clear hb
  obtain ⟨cA, fA⟩ := hA.facts
  go_wp2_with fail
  refine (H3.out _).mono ?_
  rintro e w2 ⟨u, bs, hbl, rfl, hown, hb⟩
  obtain ⟨A2, cap2, rfl, hle2, hnz⟩ := own_shape hown
  clear cA fA
  replace hA := hA.lo hb
  replace hL := lo_trans hL hb
  clear hb H1 H3
  obtain ⟨cA, fA⟩ := hA.facts
  go_wp2_with fail
  refine (H4.out _).mono ?_
  rintro e w3 ⟨g, hs, hsl, hse, hgl, rfl, hH, hb⟩
  have hsz := hL.size
  replace hL := lo_trans hL hb
  clear cA fA hA hb H4 hown
  go_wp2_with (at_builtin; refine wp_append_none rfl _ _ 53 rfl 5 i0 Tryz.underlying53 hi (some ⟨g, 0, none⟩) 9 9 rfl (Nat.le_refl _) A2 cap2 rfl ?_)
  exact bodyPost_ret (v := .tuple #[.slice (some ⟨g, 0, none⟩) 9 9, .int .i64 0]) (by simp [results, Tryz.results6, go_sem]) rfl ⟨g, hs, hsl, hse, by omega, rfl, hH, hL⟩
end Go.Proofs.YtdonnbfojcggmaaGreat
