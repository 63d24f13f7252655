import Derived.Test.YtfpagiojdgdbeaaLaw2
namespace Go.Proofs.Ytfpagiojdgdbeaa
open Go.RowKit
attribute [local go_sem ↓] Go.wp_at_zero Go.wp_at_succ

theorem bounds_u8 {x : Int} (h : (Lit.int .u8 x).wf = true) : 0 ≤ x ∧ x ≤ 255 := by
  simpa [Lit.wf, IntKind.min, IntKind.max, IntKind.signed, IntKind.bits] using h
theorem left9 {l : List Rq} (h : ∀ x ∈ l, x.left ≤ 9) : leftL l ≤ l.length * 9 := by
  induction l with
  | nil => exact Int.le_refl _
  | cons x t ih =>
    have h1 := ih fun y hy => h y (List.mem_cons_of_mem _ hy)
    have h2 := h x (List.mem_cons_self ..)
    rw [left_cons, List.length_cons]
    omega
theorem back9 {l : List Fl} (h : ∀ f ∈ l, f.l.length ≤ 16 ∧ ∀ x ∈ f.l, x.left ≤ 9) : backL l ≤ l.length * 144 := by
  induction l with
  | nil => exact Int.le_refl _
  | cons x t ih =>
    have h1 := ih fun y hy => h y (List.mem_cons_of_mem _ hy)
    have h2 := h x (List.mem_cons_self ..)
    have h3 := left9 h2.2
    have e : backL (x :: t) = leftL x.l + backL t := rfl
    rw [e, List.length_cons]
    have := h2.1
    omega
theorem admit_gd {B N : Nat} {w : World} {s : Nat} {σ : Sc} {gs : List Nat} {uo : Value} {mo : Nat} {ur : Value} (h : St B w s σ gs uo mo ur) (hBw : B ≤ w.heap.size) (hg : Gd gs.length N σ) (hN : N ≤ 100000) (hn : gs.length ≤ 8) (c : Nat) (hc : c < gs.length) (id rank cost : Int) (hcost : cost ≤ 1000) :
    ∃ f, σ.fl[c]? = some f ∧ Calls Try.prog 9 #[.pointer (some ⟨s, 0, none⟩), .int .i64 c, .int .i64 id, .int .i64 rank, .int .i64 cost] w (AdmitPost B w s σ gs uo mo ur c f.l ⟨id, rank, cost, 0⟩) := by
  obtain ⟨quantum, limit, time, work, fl, ready⟩ := σ
  have hcl : c < fl.length := by have := hg.len; simp only at this; omega
  obtain ⟨⟨⟨wt, st, fi, wk⟩, l⟩, hf⟩ : ∃ f, fl[c] = f := ⟨_, rfl⟩
  have hF := hg.fl fl[c] (List.getElem_mem _)
  rw [hf] at hF
  have s2 := hF.s2
  have f2 := hF.f2
  have k2 := hF.k2
  have t2 := hg.t2
  have w2 := hg.k2
  have hb := back9 (l := fl) fun f hf => ⟨(hg.fl f hf).q.2.1, (hg.fl f hf).l9⟩
  have hrl := hg.rdy.len
  have hlen := hg.len
  simp only at s2 f2 k2 t2 w2 hrl hlen
  refine ⟨_, by rw [List.getElem?_eq_getElem hcl, hf], admit_ok B w s quantum limit time work fl ready gs uo mo ur c hc hcl wt st fi wk l hf id rank cost h hBw (fun f hf => (hg.fl f hf).q) hn ⟨⟨hF.w1, hF.w2⟩, ⟨hF.k1, by simp only; omega⟩, ⟨hF.s1, by simp only; omega⟩, ⟨hF.f1, by simp only; omega⟩⟩ ⟨hg.t1, by omega⟩ ⟨hg.k1, by omega⟩ (by omega) hcost hg.rdy.heap (by omega)⟩
/-- What stays through requests of other flows. -/
structure Shut1 (n N : Nat) (I : Sc → Prop) : Prop where
  good : ∀ σ, I σ → Gd n N σ
  next : ∀ σ σ' c x f, I σ → 0 < c → c < n → σ.fl[c]? = some f → canPush f.l x → x.left ≤ 9 → AdmitNext σ c x σ' → I σ'
def FedPost (B : Nat) (w : World) (s : Nat) (gs : List Nat) (uo : Value) (mo : Nat) (I : Sc → Prop) (e : Ending) (w' : World) : Prop :=
  ∃ (id : Nat) (σ : Sc) (ur : Value), e = .returned (.int .i64 id) ∧ 1 ≤ id ∧ id ≤ 2147483647 ∧ I σ ∧ St B w' s σ gs uo mo ur ∧ Below B w w'
set_option maxRecDepth 100000 in
set_option maxHeartbeats 3200000 in
theorem fed_ok (B N : Nat) (I : Sc → Prop) (w : World) (s : Nat) (σ : Sc) (gs : List Nat) (uo : Value) (mo : Nat) (ur : Value) (id : Nat) (a : Option Addr) (len cap : Nat) (xs : List Int) (h : St B w s σ gs uo mo ur) (hBw : B ≤ w.heap.size) (hI : Shut1 gs.length N I) (hσ : I σ) (hN : N ≤ 100000) (hn : gs.length ≤ 8)
    (hid : 1 ≤ id ∧ id ≤ 2147483647) (hx : ∀ W, Below B w W → IntRow .u8 W a len cap xs) :
    Calls Try.prog 7 #[.pointer (some ⟨s, 0, none⟩), .int .i64 (gs.length : Nat), .int .i64 id, .slice a len cap] w (FedPost B w s gs uo mo I) := by
  have HI := Lib.hid hI
  have HX := Lib.hid hx
  have HS := Lib.hid h
  have HSI := Lib.hid hσ
  have hlen := (hx w (Below.refl _ _)).1
  clear h hI hx hσ
  go_enter Try.func7, Try.ntmps7
  go_wp2_with fail
  go_loopw [2, 9, 10, 11] (fun x y _ _ wr => ∃ (i : Nat) (id : Nat) (σ : Sc) (ur : Value), 1 ≤ i ∧ y = .int .i64 i ∧ x = .int .i64 id ∧ 1 ≤ id ∧ id ≤ 2147483647 ∧ Hid (I σ) ∧ Hid (St B wr s σ gs uo mo ur) ∧ Hid (Below B w wr)) (fun _ y _ _ _ => gs.length - (intOf y).toNat)
  case atStart => exact ⟨1, id, σ, ur, Nat.le_refl _, rfl, rfl, hid.1, hid.2, HSI, HS, Lib.hid (Below.refl _ _)⟩
  case round =>
  clear HS HSI hid
  obtain ⟨i, id, σ, ur, i1, rfl, rfl, d1, d2, HSI, HS, HB⟩ := hrel
  by_cases hil : i < gs.length
  · have hil' : (i : Int) < (gs.length : Int) := by omega
    go_wp2_with fail
    go_loopw [2, 10, 11] (fun x y _ wr => ∃ (k : Nat) (id : Nat) (σ : Sc) (ur : Value), k ≤ 16 ∧ y = .int .i64 k ∧ x = .int .i64 id ∧ 1 ≤ id ∧ id ≤ 2147483647 ∧ Hid (I σ) ∧ Hid (St B wr s σ gs uo mo ur) ∧ Hid (Below B w wr)) (fun _ y _ _ => 16 - (intOf y).toNat)
    case atStart => exact ⟨0, id, σ, ur, by omega, rfl, rfl, d1, d2, HSI, HS, HB⟩
    case round =>
    clear HSI HS HB d1 d2
    obtain ⟨k, id, σ, ur, k1, rfl, rfl, d1, d2, HSI, HS, HB⟩ := hrel
    by_cases hk : k < 16
    · have hk' : (k : Int) < 16 := by omega
      have hg := HI.out.good σ HSI.out
      have HA := Lib.hid fun (rank cost : Int) (hcost : cost ≤ 1000) => admit_gd HS.out (Nat.le_trans hBw HB.out.size) hg hN hn i hil (1 + (id : Int)) rank cost hcost
      have hw1 : IntKind.i64.wrap (1 + (id : Int)) = 1 + (id : Int) := IntWalk.i64_in _ (by omega)
      clear hg
      by_cases hdl : id < len
      · have hdl' : (id : Int) < (len : Int) := by omega
        obtain ⟨b, off, rfl, hlt, hc⟩ := (HX.out _ HB.out).2.2.2.2.1 id xs[id] (List.getElem?_eq_getElem (by omega))
        have hwf := (HX.out _ HB.out).2.2.2.2.2 xs[id] (List.getElem_mem _)
        generalize xs[id] = z at hc hwf
        have h0 := bounds_u8 hwf
        have hz9 : 0 ≤ z.tmod 9 ∧ z.tmod 9 ≤ 8 := by
          rw [Int.tmod_eq_emod_of_nonneg h0.1]
          omega
        have hw2 : IntKind.i64.wrap (z.tmod 9) = z.tmod 9 := IntWalk.i64_in _ (by omega)
        have hw3 : IntKind.i64.wrap (1 + z.tmod 9) = 1 + z.tmod 9 := IntWalk.i64_in _ (by omega)
        obtain ⟨f, hf, hadm⟩ := HA.out ((id : Int) % 8) (1 + z.tmod 9) (by omega)
        have HADM := Lib.hid hadm
        have hlw : b < wr.heap.size := hlt
        clear hadm hwf h0 hlt
        go_wp2_with fail
        refine HADM.out.mono ?_
        rintro e w2 hpost
        rcases hpost with ⟨hnp, ⟨nn, hnn, rfl⟩, hS2, hB2⟩ | ⟨hcp, rfl, ur2, σ2, hnx, hS2, hB2⟩
        · have HR := Lib.hid (And.intro hS2 (HB.out.trans hB2))
          clear hS2 hB2 hnp HA
          go_wp2_with fail
          go_roundw
          case rel => exact ⟨i + 1, id, σ, ur, by omega, by go_num, rfl, d1, d2, HSI, Lib.hid HR.out.1, Lib.hid HR.out.2⟩
          case measure => simp [intOf]; omega
        · have HR := Lib.hid (And.intro (HI.out.next σ σ2 i _ f HSI.out i1 hil hf hcp (by simp only; omega) hnx) (And.intro hS2 (HB.out.trans hB2)))
          have hid2 := hcp.1.1.2
          simp only at hid2
          clear hS2 hB2 hcp hnx HA
          go_wp2_with fail
          go_roundw
          case rel => exact ⟨k + 1, id + 1, σ2, ur2, by omega, by go_num, by go_num, by omega, by omega, Lib.hid HR.out.1, Lib.hid HR.out.2.1, Lib.hid HR.out.2.2⟩
          case measure => simp [intOf]; omega
      · have hdl' : ¬ (id : Int) < (len : Int) := by omega
        obtain ⟨f, hf, hadm⟩ := HA.out ((id : Int) % 8) 1 (by omega)
        have HADM := Lib.hid hadm
        clear hadm
        go_wp2_with fail
        refine HADM.out.mono ?_
        rintro e w2 hpost
        rcases hpost with ⟨hnp, ⟨nn, hnn, rfl⟩, hS2, hB2⟩ | ⟨hcp, rfl, ur2, σ2, hnx, hS2, hB2⟩
        · have HR := Lib.hid (And.intro hS2 (HB.out.trans hB2))
          clear hS2 hB2 hnp HA
          go_wp2_with fail
          go_roundw
          case rel => exact ⟨i + 1, id, σ, ur, by omega, by go_num, rfl, d1, d2, HSI, Lib.hid HR.out.1, Lib.hid HR.out.2⟩
          case measure => simp [intOf]; omega
        · have HR := Lib.hid (And.intro (HI.out.next σ σ2 i _ f HSI.out i1 hil hf hcp (by simp only; omega) hnx) (And.intro hS2 (HB.out.trans hB2)))
          have hid2 := hcp.1.1.2
          simp only at hid2
          clear hS2 hB2 hcp hnx HA
          go_wp2_with fail
          go_roundw
          case rel => exact ⟨k + 1, id + 1, σ2, ur2, by omega, by go_num, by go_num, by omega, by omega, Lib.hid HR.out.1, Lib.hid HR.out.2.1, Lib.hid HR.out.2.2⟩
          case measure => simp [intOf]; omega
    · have hk' : ¬ (k : Int) < 16 := by omega
      go_wp2_with fail
      go_roundw
      case rel => exact ⟨i + 1, id, σ, ur, by omega, by go_num, rfl, d1, d2, HSI, HS, HB⟩
      case measure => simp [intOf]; omega
  · have hil' : ¬ (i : Int) < (gs.length : Int) := by omega
    go_wp2_with fail
    go_ret
    exact ⟨id, σ, ur, rfl, d1, d2, HSI.out, HS.out, HB.out⟩
end Go.Proofs.Ytfpagiojdgdbeaa
