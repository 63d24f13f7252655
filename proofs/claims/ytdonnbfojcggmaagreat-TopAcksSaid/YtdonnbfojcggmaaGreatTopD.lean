import Derived.Test.YtdonnbfojcggmaaGreatTop1
namespace Go.Proofs.YtdonnbfojcggmaaGreat
open Go.RowKit
attribute [local go_sem ↓] Go.wp_at_zero Go.wp_at_succ

/-- What lies between two steps, told by the slots. -/
def Rel (w0 : World) (gC gk k : Nat) (ev lim sin hd tl nw cd : Value) (W : World) : Prop :=
  ∃ (g1 g2 : Nat) (l : List It) (sA A1 A2 oA : Option Addr) (sc c1 c2 on oc : Nat) (ol : List ByteArray) (held told made gone code now : Int) (dead : Bool),
    ev = .slice none 0 0 ∧ lim = .slice A1 l.length c1 ∧ sin = .slice A2 l.length c2 ∧ hd = .int .i64 held ∧ tl = .int .i64 told ∧ nw = .int .i64 now ∧ cd = .int .u32 code ∧ Hid (Inv w0 gC gk g1 g2 k l sA A1 A2 oA sc c1 c2 on oc ol held told made gone code now dead W)
/-- A guarded load that is wanted. -/
theorem load_wanted {P : Program} {ops : Array Oper} {rest : List Oper} {op : Oper} {a : Act} {w : World} {Q : Exit → Act → World → Prop} (hw : Region.wanted op (yielded ops a.tmps) = true) (ty : TypeId) (x : Operand) (ho : op.op = .load ty x)
    (b o : Nat) (hx : a.eval x = .pointer (some ⟨b, o, none⟩)) (cs : List Value) (d : TypeDesc) (hc : w.rangeAt b o cs)
    (hu : P.underlying ty = some d) (hd : d.isRow = true) (hi : (P.info? ty).map (·.size) = some cs.length)
    (h : wpList P ops Q rest (a.put op.dst (.agg cs.toArray)) w) : wpList P ops Q (op :: rest) a w :=
  wpList_step fun K hK => by
    rw [if_pos hw]
    exact wp_load_mid ty x ho b o hx cs d hc hu hd hi (hK _ _ h)
theorem IntsAt.cap_ {w : World} {B g : Nat} {A : Option Addr} {n cap : Nat} {xs : List Int} (h : IntsAt w B g A n cap xs) : n ≤ cap := by
  obtain ⟨off, cur, h1, h2, h3, h4, h5, h6, h7⟩ := h
  exact h6
theorem tick_on (sA : Option Addr) (sn sc : Nat) (held told : Int) (oA : Option Addr) (on oc : Nat) (made gone : Int) (now : Int) (l : List It) (t : Int) (w : World) (ht : now ≤ t) (ht2 : t ≤ 1099511627776) (hl : ItsOk w sA sn sc l) (hT : ∀ x ∈ l, x.t ≤ t) (hlate : lateB l t = false) (h0 : 0 ≤ t) : Calls Tryz.prog 9 #[.agg #[.int .i64 24, .string ⟨#[]⟩, .bool false, .int .i64 0, .string ⟨#[]⟩, .bool false, .int .i64 4096, .slice none 0 0, .int .i64 4096, .int .i64 4096, .slice none 0 0, .int .i64 4096, .int .i64 4096, .int .i64 4096, .int .i64 1, .int .i64 4294967295, .int .i64 65535, .int .i64 16384, .int .i64 4294967295, .slice sA sn sc, .int .i64 held, .int .i64 told, .int .i64 0, .slice none 0 0, .slice none 0 0, .slice none 0 0, .int .i64 65535, .int .i64 65535, .slice oA on oc, .int .i64 made, .int .i64 gone, .bool true, .bool false, .bool false, .int .u32 0, .int .i64 now, .int .i64 30], .int .i64 t] w (ValPost w (.tuple #[.agg #[.int .i64 24, .string ⟨#[]⟩, .bool false, .int .i64 0, .string ⟨#[]⟩, .bool false, .int .i64 4096, .slice none 0 0, .int .i64 4096, .int .i64 4096, .slice none 0 0, .int .i64 4096, .int .i64 4096, .int .i64 4096, .int .i64 1, .int .i64 4294967295, .int .i64 65535, .int .i64 16384, .int .i64 4294967295, .slice sA sn sc, .int .i64 held, .int .i64 told, .int .i64 0, .slice none 0 0, .slice none 0 0, .slice none 0 0, .int .i64 65535, .int .i64 65535, .slice oA on oc, .int .i64 made, .int .i64 gone, .bool true, .bool false, .bool false, .int .u32 0, .int .i64 t, .int .i64 30], .slice none 0 0])) := by
  by_cases h : now < t
  · exact tick_ok 24 sA sn sc held told oA on oc made gone true now [] l t w h ht2 hl hT hlate h0
  · obtain rfl : now = t := by omega
    exact tick_same 24 sA sn sc held told oA on oc made gone true false 0 now now w (by omega)
theorem tick_dead (sA : Option Addr) (sn sc : Nat) (held told : Int) (oA : Option Addr) (on oc : Nat) (made gone code : Int) (now : Int) (l : List It) (t : Int) (w : World) (ht : now ≤ t) (ht2 : t ≤ 1099511627776) (hl : ItsOk w sA sn sc l) (hT : ∀ x ∈ l, x.t ≤ t) (h0 : 0 ≤ t) : Calls Tryz.prog 9 #[.agg #[.int .i64 24, .string ⟨#[]⟩, .bool false, .int .i64 0, .string ⟨#[]⟩, .bool false, .int .i64 4096, .slice none 0 0, .int .i64 4096, .int .i64 4096, .slice none 0 0, .int .i64 4096, .int .i64 4096, .int .i64 4096, .int .i64 1, .int .i64 4294967295, .int .i64 65535, .int .i64 16384, .int .i64 4294967295, .slice sA sn sc, .int .i64 held, .int .i64 told, .int .i64 0, .slice none 0 0, .slice none 0 0, .slice none 0 0, .int .i64 65535, .int .i64 65535, .slice oA on oc, .int .i64 made, .int .i64 gone, .bool true, .bool false, .bool true, .int .u32 code, .int .i64 now, .int .i64 30], .int .i64 t] w (ValPost w (.tuple #[.agg #[.int .i64 24, .string ⟨#[]⟩, .bool false, .int .i64 0, .string ⟨#[]⟩, .bool false, .int .i64 4096, .slice none 0 0, .int .i64 4096, .int .i64 4096, .slice none 0 0, .int .i64 4096, .int .i64 4096, .int .i64 4096, .int .i64 1, .int .i64 4294967295, .int .i64 65535, .int .i64 16384, .int .i64 4294967295, .slice sA sn sc, .int .i64 held, .int .i64 told, .int .i64 0, .slice none 0 0, .slice none 0 0, .slice none 0 0, .int .i64 65535, .int .i64 65535, .slice oA on oc, .int .i64 made, .int .i64 gone, .bool true, .bool false, .bool true, .int .u32 code, .int .i64 t, .int .i64 30], .slice none 0 0])) := by
  by_cases h : now < t
  · cases hlate : lateB l t with
    | true => exact tick_dead_true 24 sA sn sc held told oA on oc made gone true code now [] l t w h ht2 hl hT hlate h0
    | false => exact tick_dead_false 24 sA sn sc held told oA on oc made gone true code now [] l t w h ht2 hl hT hlate h0
  · obtain rfl : now = t := by omega
    exact tick_same 24 sA sn sc held told oA on oc made gone true true code now now w (by omega)
theorem bytes_at (l : List Int) (j : Nat) (h : j < l.length) : (l.map (Value.int .u8))[j]? = some (.int .u8 (l.getD j 0)) := by
  rw [List.getElem?_map, List.getElem?_eq_getElem h, List.getD_eq_getElem?_getD, List.getElem?_eq_getElem h]
  rfl
/-! Parts of the law's own code. -/
def cR : Code → Code | .seq _ b => b | c => c
def cL : Code → Code | .seq a _ => a | c => c
def cB : Code → Code | .block _ c => c | c => c
def cLoop : Code → Code | .loop c => c | c => c
noncomputable def lawCode : Code := match Tryz.f3.body with | some c => c | none => .skip
noncomputable def roundCode : Code := cB (cL (cR (cLoop (cB (cR (cL (cR (cR (cR (cR (cR (cR (cR (cR (cR (cR lawCode))))))))))))))))
noncomputable def swCode : Code := cB (cR (cL (cR roundCode)))
noncomputable def tlCode : Code := cR (cR roundCode)
end Go.Proofs.YtdonnbfojcggmaaGreat
