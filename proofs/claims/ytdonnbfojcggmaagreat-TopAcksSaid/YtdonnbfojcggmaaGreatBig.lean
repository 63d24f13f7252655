import Derived.Deep.MidRow
import Derived.Laws.ResultCell
import Derived.Test.YtdonnbfojcggmaaGreatConn0
import Derived.Test.YtdonnbfojcggmaaGreatDrain
namespace Go.Proofs.YtdonnbfojcggmaaGreat
open Go.RowKit
attribute [local go_sem ↓] Go.wp_at_zero Go.wp_at_succ

/-! Whole structs in one step. -/
theorem blk_range {W : World} {g : Nat} {t : TypeId} {cs : Array Value} (h : Blk W g t cs) (l r : List Value) (hl : cs.toList = l ++ r) : W.rangeAt g 0 l := by
  intro j v hv
  rw [h.facts.1, Nat.zero_add, ← Array.getElem?_toList, hl, List.getElem?_append_left (List.getElem?_eq_some_iff.1 hv).1]
  exact hv
theorem load_big {W : World} {g : Nat} {t : TypeId} {cs : Array Value} (h : Blk W g t cs) (ty : TypeId) (l r : List Value) (d : TypeDesc) (hl : cs.toList = l ++ r) (hu : Tryz.prog.underlying ty = some d) (hd : d.isRow = true) (hi : (Tryz.prog.info? ty).map (·.size) = some l.length) :
    (Instr.loadAt ty (.pointer (some ⟨g, 0, none⟩))).run Tryz.prog W = .ok (.agg l.toArray) W := run_loadAt_mid W g 0 ty l d (blk_range h l r hl) hu hd hi
theorem store_big {W : World} {g : Nat} {t : TypeId} {cs : Array Value} (h : Blk W g t cs) (ty : TypeId) (cells : Array Value) (hs : cs.size = cells.size) (hi : (Tryz.prog.info? ty).map (·.size) = some cells.size) (h1 : cells.all (·.oneCell') = true) :
    (Instr.storeAt ty (.pointer (some ⟨g, 0, none⟩)) (.agg cells)).run Tryz.prog W = .ok () (W.setCells g 0 cells.toList) :=
  run_storeAt_mid W g 0 ty cells (fun j hj => ⟨by rw [h.facts.1, Nat.zero_add, Array.getElem?_eq_getElem (by omega)]; rfl, h.facts.2 _⟩) hi h1
theorem set_big {g : Nat} {t : TypeId} : ∀ (vs : List Value) (o : Nat) (w : World) (cur : Array Value), Blk w g t cur → ∃ cur', Blk (w.setCells g o vs) g t cur' ∧ cur'.size = cur.size ∧ (∀ i, i < o → cur'[i]? = cur[i]?) ∧ ∀ i, i < vs.length → o + i < cur.size → cur'[o + i]? = vs[i]?
  | [], o, w, cur, h => ⟨cur, h, rfl, fun _ _ => rfl, fun i hi => by simp at hi⟩
  | v :: vs, o, w, cur, h => by
    obtain ⟨cur', h1, h2, h3, h4⟩ := set_big vs (o + 1) _ _ (h.set_ o v)
    simp only [Array.size_setIfInBounds] at h2 h4
    refine ⟨cur', h1, h2, fun i hi => ?_, fun i hi hs => ?_⟩
    · rw [h3 i (by omega), Array.getElem?_setIfInBounds_ne (by omega)]
    · cases i with
      | zero =>
        rw [Nat.add_zero] at hs ⊢
        rw [h3 o (by omega)]
        simp [hs]
      | succ i =>
        simp only [List.length_cons] at hi
        have := h4 i (by omega) (by omega)
        rw [show o + (i + 1) = o + 1 + i by omega, this]
        simp
theorem Blk.setAll {w : World} {g : Nat} {t : TypeId} {cur : Array Value} (h : Blk w g t cur) (cells : Array Value) (hs : cur.size = cells.size) : Blk (w.setCells g 0 cells.toList) g t cells := by
  obtain ⟨cur', h1, h2, _, h4⟩ := set_big cells.toList 0 w cur h
  have : cur' = cells := by
    apply Array.ext_getElem?
    intro i
    rcases Nat.lt_or_ge i cells.size with hi | hi
    · have := h4 i (by simpa using hi) (by omega)
      rw [Nat.zero_add] at this
      simpa using this
    · rw [Array.getElem?_eq_none (by omega), Array.getElem?_eq_none hi]
  rwa [this] at h1
theorem Kept.setCells {a : World} {g : Nat} : ∀ (vs : List Value) (o : Nat) (b : World), Kept a b g → Kept a (b.setCells g o vs) g
  | [], _, _, h => h
  | v :: vs, o, b, h => Kept.setCells vs (o + 1) (b.setCell ⟨g, o, none⟩ v) (h.set o v)
theorem results_big {fn : Func} {p u : Tmp} {ty : TypeId} (h : fn.results = #[.cell p ty, .tmp u]) {tmps : Array Value} {W : World} {g : Nat} {t : TypeId} {cs : Array Value} {d : TypeDesc} (hp : tmps.getD p undef = .pointer (some ⟨g, 0, none⟩)) (hb : Blk W g t cs)
    (hu : Tryz.prog.underlying ty = some d) (hd : d.isRow = true) (hi : (Tryz.prog.info? ty).map (·.size) = some cs.size) : (results fn tmps).run Tryz.prog W = .ok (.tuple #[.agg cs, tmps.getD u undef]) W := by
  have hl := run_loadVar_mid (P := Tryz.prog) W g 0 ty cs.toList d (blk_range hb cs.toList [] (by simp)) hu hd (by simpa using hi)
  rw [results_cell_tmp h tmps, hp]
  simp [asAddr, hl, Result.andThen]
theorem size49 : (Tryz.prog.info? 49).map (·.size) = some 37 := by kernel_rfl
theorem size89 : (Tryz.prog.info? 89).map (·.size) = some 38 := by kernel_rfl
end Go.Proofs.YtdonnbfojcggmaaGreat
