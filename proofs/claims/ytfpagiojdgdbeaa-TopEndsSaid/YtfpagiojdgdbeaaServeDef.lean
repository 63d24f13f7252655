import Derived.Deep.Onto
import Derived.Test.YtfpagiojdgdbeaaAdmit
import Derived.Test.YtfpagiojdgdbeaaAServe
namespace Go.Proofs.Ytfpagiojdgdbeaa
open Go.RowKit
attribute [local go_sem ↓] Go.wp_at_zero Go.wp_at_succ

theorem blk_ne {w : World} {a b : Nat} {t t' : TypeId} {c c' : Array Value} (h : Blk w a t c) (h' : Blk w b t' c') (ht : t ≠ t') : a ≠ b := by
  rintro rfl
  exact ht (h.inj h').1
theorem St.far {B : Nat} {w : World} {s : Nat} {σ : Sc} {gs : List Nat} {uo : Value} {mo : Nat} {ur : Value} (h : St B w s σ gs uo mo ur) {x : Nat} {t : TypeId} {cs : Array Value} (hx : Blk w x t cs) (h1 : 50 ≠ t) (h2 : 62 ≠ t) (h3 : t ≠ 3) (h4 : t ≠ 64) (h5 : t ≠ 68) (j : Nat) (u : Value) : St B (w.setCell ⟨x, j, none⟩ u) s σ gs uo mo ur := by
  refine ⟨h.blk.far (blk_ne h.blk hx h1) _, own_far h.ord (blk_ne_own h.ord hx h3) _, own_far h.rdy (blk_ne_own h.rdy hx h4) _, h.map.lo (heap_setCell_other w _ mo _ (fun e => map_ne h.map hx e.symm)), h.bs, h.bm, h.bg, h.len, fun c k1 k2 => ?_⟩
  obtain ⟨v, hb, hr⟩ := h.fl c k1 k2
  exact ⟨v, hb.far (blk_ne hb hx h2) _, own_far hr (blk_ne_own hr hx h5) _⟩
/-- What a slice of work makes of a scheduler. -/
def ServeNext (σ : Sc) (c : Nat) (t : List (Int × Int)) (σ' : Sc) (x : Rq) (un : Int) : Prop := ∃ f k, σ.fl[c]? = some f ∧ NextOk σ.limit f.l k ∧ ∃ h : k < f.l.length, f.l[k] = x ∧ min x.left σ.quantum = un ∧
  ((serveL f.l k σ.quantum ≠ [] ∧ ∃ r', r'.Perm (t ++ [(f.tg.start + chargeL un f.tg.weight, (c : Int))]) ∧ heapOk r' ∧
      σ' = ⟨σ.quantum, σ.limit, f.tg.start, σ.work + un, σ.fl.set c ⟨⟨f.tg.weight, f.tg.start + chargeL un f.tg.weight, f.tg.start + chargeL un f.tg.weight, f.tg.work + un⟩, serveL f.l k σ.quantum⟩, r'⟩) ∨
   (serveL f.l k σ.quantum = [] ∧ ∃ r', r'.Perm t ∧ heapOk r' ∧
      σ' = ⟨σ.quantum, σ.limit, f.tg.start, σ.work + un, σ.fl.set c ⟨⟨f.tg.weight, f.tg.start + chargeL un f.tg.weight, f.tg.start + chargeL un f.tg.weight, f.tg.work + un⟩, serveL f.l k σ.quantum⟩, r'⟩))
def ServePost (B : Nat) (w : World) (s : Nat) (σ : Sc) (gs : List Nat) (uo : Value) (mo : Nat) (c : Nat) (t : List (Int × Int)) (e : Ending) (w' : World) : Prop :=
  ∃ x un, e = .returned (.tuple #[.agg #[.int .i64 c, .int .i64 x.id, .int .i64 un, .int .i64 (x.left - un)], .bool true]) ∧ ∃ ur' σ', ServeNext σ c t σ' x un ∧ St B w' s σ' gs uo mo ur' ∧ Below B w w'
end Go.Proofs.Ytfpagiojdgdbeaa
