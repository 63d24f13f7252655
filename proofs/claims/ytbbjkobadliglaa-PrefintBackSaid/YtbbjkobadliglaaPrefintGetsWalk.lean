import Derived.Test.YtbbjkobadliglaaLaws
namespace Go.Proofs.Ytbbjkobadliglaa
open Go.RowKit

theorem nats_of {xs : List Int} (h : ∀ x ∈ xs, (Lit.int .u8 x).wf = true) : ∃ l : List Nat, xs = l.map Int.ofNat ∧ ∀ c ∈ l, c < 256 := by
  induction xs with
  | nil => exact ⟨[], rfl, fun c hc => by simp at hc⟩
  | cons x xs ih =>
    obtain ⟨l, rfl, hl⟩ := ih (fun y hy => h y (List.mem_cons_of_mem _ hy))
    have hx := bounds_u8 (h x List.mem_cons_self)
    refine ⟨x.toNat :: l, by simp; omega, fun c hc => ?_⟩
    rcases List.mem_cons.1 hc with rfl | hc
    · omega
    · exact hl c hc
def getR (l : List Nat) (b : Int) : Nat × Nat × Nat := if (b < 1 ∨ 8 < b) ∨ l.length = 0 then (0, 0, if b < 1 ∨ 8 < b then 2 else 3) else getL l b.toNat
/-- Get of a row of bytes that came in. -/
theorem get_row {w : World} {a : Option Addr} {len cap : Nat} {l : List Nat} (h : IntRow .u8 w a len cap (l.map Int.ofNat)) (hl : ∀ c ∈ l, c < 256) (hlen : len ≤ 1000) (b : Int) :
    Calls Try.prog 14 #[.slice a len cap, .int .i64 b] w (GetPost w (getR l b)) ∧ Calls Try.prog 15 #[.slice a len cap, .int .i64 b] w (GetPost w (getR l b)) := by
  have hll : l.length = len := by simpa using h.1
  by_cases hbad : (b < 1 ∨ 8 < b) ∨ len = 0
  · have e : getErr b = (if b < 1 ∨ 8 < b then (2 : Nat) else 3 : Nat) := by unfold getErr; split <;> rfl
    have hR : getR l b = (0, 0, if b < 1 ∨ 8 < b then 2 else 3) := if_pos (by omega)
    rw [hR]
    refine ⟨(get_bad a len cap b hbad w).mono ?_, (get_bad_ref a len cap b hbad w).mono ?_⟩
    all_goals
      rintro e w' ⟨rfl, rfl⟩
      exact ⟨by rw [e]; rfl, Below.refl _ _⟩
  · obtain ⟨k, rfl⟩ := Int.eq_ofNat_of_zero_le (show 0 ≤ b by omega)
    have hR : getR l k = getL l k := if_neg (by omega)
    rw [hR]
    obtain ⟨h1, h2, h3, h4, h5, h6⟩ := h
    match l, h1, h5, hl, hll with
    | [], h1, _, _, _ => simp at h1; omega
    | c :: t, h1, h5, hl, _ =>
      obtain ⟨b0, off, rfl, hb, h0⟩ := h5 0 _ rfl
      have ht : t.length + 1 = len := by simpa using h1
      subst ht
      have hcell : ∀ i (h : i < t.length), w.cell? ⟨b0, off + (i + 1), none⟩ = some (.int .u8 t[i]) := fun i hi => by
        obtain ⟨b1, off1, he, _, hc⟩ := h5 (i + 1) (Int.ofNat t[i]) (by simp [hi])
        simp only [Option.some.injEq, Addr.mk.injEq, and_true] at he
        obtain ⟨rfl, rfl⟩ := he
        exact hc
      refine ⟨get_any b0 off cap k c t w (by omega) (by omega) (hl c List.mem_cons_self) (fun x hx => hl x (List.mem_cons_of_mem _ hx)) (by omega) h0 hcell, get_ref b0 off cap k c t w (by omega) (by omega) (hl c List.mem_cons_self) (fun x hx => hl x (List.mem_cons_of_mem _ hx)) (by omega) h0 hcell⟩
theorem row_below {k : IntKind} {w w' : World} {a : Option Addr} {len cap : Nat} {xs : List Int} (h : IntRow k w a len cap xs) (hb : Below w.heap.size w w') : IntRow k w' a len cap xs := by
  obtain ⟨h1, h2, h3, h4, h5, h6⟩ := h
  refine ⟨h1, h2, h3, h4, fun i x hx => ?_, h6⟩
  obtain ⟨b, off, e, hlt, hc⟩ := h5 i x hx
  exact ⟨b, off, e, Nat.lt_of_lt_of_le hlt hb.size, (hb.cell (p := ⟨b, off + i, none⟩) hlt).trans hc⟩
set_option maxRecDepth 100000 in
set_option maxHeartbeats 1600000 in
theorem walk_PrefintGets (a0 : Option Addr) (len0 cap0 : Nat) (xs0 : List Int) (a1 : Int) (w : World) (w0 : IntRow .u8 w a0 len0 cap0 xs0) (_w1 : (Lit.int .i64 a1).wf = true) :
    Calls Try.prog 4 #[.slice a0 len0 cap0, .int .i64 a1] w fun e w' => e = .returned (.bool true) ∧ Below w.heap.size w w' := by
  by_cases hlen : 100 < len0
  · clear w0 _w1
    go_enter Try.func4, Try.ntmps4
    go_wp2_with fail
    refine (awake_any _).mono ?_
    rintro e w1 ⟨rfl, hb⟩
    go_wp2_with fail
    go_ret
    exact ⟨rfl, hb⟩
  · obtain ⟨l, rfl, hl⟩ := nats_of w0.2.2.2.2.2
    generalize hR : getR l a1 = R
    have H1 := Lib.hid fun (w' : World) (h : IntRow .u8 w' a0 len0 cap0 (l.map Int.ofNat)) => hR ▸ get_row h hl (by omega) a1
    have HW := Lib.hid w0
    clear w0 hl hR _w1
    go_enter Try.func4, Try.ntmps4
    go_wp2_with fail
    refine (H1.out _ HW.out).1.mono ?_
    rintro e w1 ⟨rfl, hb1⟩
    go_wp2_with fail
    refine (H1.out _ (row_below HW.out hb1)).2.mono ?_
    rintro e w2 ⟨rfl, hb2⟩
    go_wp2_with fail
    refine (awake_any _).mono ?_
    rintro e w3 ⟨rfl, hb3⟩
    go_wp2_with fail
    go_ret
    have h12 := hb1.trans (hb2.mono hb1.size)
    exact ⟨rfl, h12.trans (hb3.mono h12.size)⟩
end Go.Proofs.Ytbbjkobadliglaa
