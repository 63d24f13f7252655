import Derived.MapKept
import Derived.Test.YtfpagiojdgdbeaaTags
namespace Go.Proofs.Ytfpagiojdgdbeaa
open Go.RowKit
attribute [local go_sem ↓] Go.wp_at_zero Go.wp_at_succ

/-- The flows' map: what is at 0, 1, .. -/
def keysOf : Nat → List Nat → List (Value × Value)
  | _, [] => []
  | d, g :: t => (.int .i64 d, .pointer (some ⟨g, 0, none⟩)) :: keysOf (d + 1) t
def mapAt (w : World) (mo : Nat) (gs : List Nat) : Prop := ∃ es clock, w.heap[mo]? = some (.map es clock) ∧ es.toList.map (fun e => (e.key, e.val)) = keysOf 0 gs
theorem keys_len (d : Nat) (gs : List Nat) : (keysOf d gs).length = gs.length := by
  induction gs generalizing d with
  | nil => rfl
  | cons g t ih => rw [keysOf, List.length_cons, ih, List.length_cons]
theorem keys_snoc (d : Nat) (gs : List Nat) (g : Nat) : keysOf d (gs ++ [g]) = keysOf d gs ++ [(.int .i64 (d + gs.length : Nat), .pointer (some ⟨g, 0, none⟩))] := by
  induction gs generalizing d with
  | nil => rfl
  | cons x t ih =>
    rw [List.cons_append, keysOf, ih, keysOf, List.cons_append, List.length_cons, show d + 1 + t.length = d + (t.length + 1) by omega]
theorem find_hit (c : Nat) : ∀ (gs : List Nat) (es : List MapEntry) (d i : Nat), es.map (fun e => (e.key, e.val)) = keysOf d gs → d ≤ c → ∀ h : c - d < gs.length,
    Instr.findNow (.int .i64) (.int .i64 c) es i = some (some (i + (c - d), .pointer (some ⟨gs[c - d], 0, none⟩)))
  | [], _, _, _, _, _, h => by simp at h
  | g :: t, [], _, _, he, _, _ => by simp [keysOf] at he
  | g :: t, e :: es, d, i, he, hd, h => by
    simp only [List.map_cons, keysOf, List.cons.injEq, Prod.mk.injEq] at he
    obtain ⟨⟨hk, hv⟩, het⟩ := he
    rw [Instr.findNow, hk]
    by_cases hcd : c = d
    · subst hcd
      simp [Instr.sameNow, hv]
    · have h1 : (c : Int) ≠ (d : Int) := by omega
      have h2 : Instr.sameNow (.int .i64) (.int .i64 c) (.int .i64 d) = some false := by simp [Instr.sameNow, h1]
      rw [h2]
      simp only
      rw [find_hit c t es (d + 1) (i + 1) het (by omega) (by rw [List.length_cons] at h; omega)]
      have e1 : c - d = (c - (d + 1)) + 1 := by omega
      simp only [e1, List.getElem_cons_succ]
      rw [show i + 1 + (c - (d + 1)) = i + (c - (d + 1) + 1) by omega]
theorem find_miss (c : Nat) : ∀ (gs : List Nat) (es : List MapEntry) (d i : Nat), es.map (fun e => (e.key, e.val)) = keysOf d gs → d + gs.length ≤ c → Instr.findNow (.int .i64) (.int .i64 c) es i = some none
  | [], [], _, _, _, _ => rfl
  | [], e :: es, _, _, he, _ => by simp [keysOf] at he
  | g :: t, [], _, _, he, _ => by simp [keysOf] at he
  | g :: t, e :: es, d, i, he, hd => by
    simp only [List.map_cons, keysOf, List.cons.injEq, Prod.mk.injEq] at he
    obtain ⟨⟨hk, hv⟩, het⟩ := he
    rw [List.length_cons] at hd
    have h1 : (c : Int) ≠ (d : Int) := by omega
    have h2 : Instr.sameNow (.int .i64) (.int .i64 c) (.int .i64 d) = some false := by simp [Instr.sameNow, h1]
    rw [Instr.findNow, hk, h2]
    exact find_miss c t es (d + 1) (i + 1) het (by omega)
theorem get_map {w : World} {r : Nat} {es : Array MapEntry} {clock : Nat} (hb : w.heap[r]? = some (.map es clock)) : (getObj r).run Try.prog w = .ok (.map es clock) w := by
  simp [getObj, Sem.run, hb]
theorem set_map {w : World} {r : Nat} {es : Array MapEntry} {clock : Nat} (o' : Obj) (hb : w.heap[r]? = some (.map es clock)) : (setObj r o').run Try.prog w = .ok () { w with heap := w.heap.setIfInBounds r o' } := by
  simp [setObj, Sem.run, hb]
theorem check3 (b : Bool) (v : Int) (w : World) : (Instr.checkKey b 10000 3 (.int .i64 v)).run Try.prog w = .ok () w := by
  rw [show (10000 : Nat) = 9999 + 1 from rfl, Instr.checkKey]
  simp [run_underlying Try.underlying3]
theorem zero55 (w : World) : (zeroValue 55).run Try.prog w = .ok (.pointer none) w := by kernel_rfl
theorem lookup_hit {w : World} {mo : Nat} {gs : List Nat} (h : mapAt w mo gs) (c : Nat) (hc : c < gs.length) : (Instr.lookup 45 (.map (some mo)) (.int .i64 c) false).run Try.prog w = .ok (.pointer (some ⟨gs[c], 0, none⟩)) w := by
  obtain ⟨es, clock, hm, he⟩ := h
  have hf := find_hit c gs es.toList 0 0 he (Nat.zero_le _) hc
  simp only [Nat.sub_zero, Nat.zero_add] at hf
  simp [Instr.lookup, run_underlying Try.underlying45, get_map hm, check3, Instr.findKey, run_underlying Try.underlying3, hf]
theorem lookup_miss {w : World} {mo : Nat} {gs : List Nat} (h : mapAt w mo gs) (c : Nat) (hc : gs.length ≤ c) : (Instr.lookup 45 (.map (some mo)) (.int .i64 c) false).run Try.prog w = .ok (.pointer none) w := by
  obtain ⟨es, clock, hm, he⟩ := h
  have hf := find_miss c gs es.toList 0 0 he (by omega)
  simp [Instr.lookup, run_underlying Try.underlying45, get_map hm, check3, Instr.findKey, run_underlying Try.underlying3, hf, zero55]
theorem update_new {w : World} {mo : Nat} {gs : List Nat} (h : mapAt w mo gs) (g : Nat) : ∃ w', (Instr.mapUpdate 45 (.map (some mo)) (.int .i64 gs.length) (.pointer (some ⟨g, 0, none⟩))).run Try.prog w = .ok () w' ∧ mapAt w' mo (gs ++ [g]) ∧ w.grownBy w' (some mo) := by
  obtain ⟨es, clock, hm, he⟩ := h
  have hf := find_miss gs.length gs es.toList 0 0 he (by omega)
  have hlt : mo < w.heap.size := (Array.getElem?_eq_some_iff.1 hm).1
  refine ⟨{ w with heap := w.heap.setIfInBounds mo (.map (es.push { key := .int .i64 gs.length, val := .pointer (some ⟨g, 0, none⟩), born := clock }) (clock + 1)) }, ?_, ⟨es.push { key := .int .i64 gs.length, val := .pointer (some ⟨g, 0, none⟩), born := clock }, clock + 1, ?_, ?_⟩, ⟨rfl, rfl, rfl, by simp, fun k _ hk => ?_⟩⟩
  · simp [Instr.mapUpdate, run_underlying Try.underlying45, get_map hm, check3, Instr.findKey, run_underlying Try.underlying3, hf, set_map _ hm]
  · simp [hlt]
  · simp [he, keys_snoc]
  · have : mo ≠ k := fun e => hk (by rw [e])
    simp [Array.getElem?_setIfInBounds, this]
theorem len_map {w : World} {mo : Nat} {gs : List Nat} (h : mapAt w mo gs) (ty : TypeId) : (Builtin.len_ #[45] ty #[.map (some mo)]).run Try.prog w = .ok (.int .i64 gs.length) w := by
  obtain ⟨es, clock, hm, he⟩ := h
  have hs : es.size = gs.length := by
    have := congrArg List.length he
    simpa [keys_len] using this
  simp [Builtin.len_, get_map hm, hs]
  rfl
theorem mapAt.lo {w w' : World} {mo : Nat} {gs : List Nat} (h : mapAt w mo gs) (hb : w'.heap[mo]? = w.heap[mo]?) : mapAt w' mo gs := by
  obtain ⟨es, clock, hm, he⟩ := h
  exact ⟨es, clock, hb.trans hm, he⟩
theorem mapAt.lt {w : World} {mo : Nat} {gs : List Nat} (h : mapAt w mo gs) : mo < w.heap.size := by
  obtain ⟨es, clock, hm, he⟩ := h
  exact (Array.getElem?_eq_some_iff.1 hm).1
end Go.Proofs.Ytfpagiojdgdbeaa
