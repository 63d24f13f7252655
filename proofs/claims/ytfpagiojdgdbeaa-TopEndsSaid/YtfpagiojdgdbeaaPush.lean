import Derived.Test.YtfpagiojdgdbeaaNext
namespace Go.Proofs.Ytfpagiojdgdbeaa
open Go.RowKit
attribute [local go_sem ↓] Go.wp_at_zero Go.wp_at_succ

/-- Whom a queue serves next. -/
def NextOk (lim : Int) (l : List Rq) (at_ : Nat) : Prop := ∃ h : at_ < l.length, lim ≤ (l[0]'(by omega)).passed → at_ = 0
theorem old_first {lim : Int} {l : List Rq} {k : Nat} (hk : k < l.length) (hb : ∀ j (hj : j < l.length), j < k → decide (lim ≤ l[j].passed) = false) : NextOk lim l k := by
  refine ⟨hk, fun h => ?_⟩
  rcases Nat.eq_zero_or_pos k with h0 | h0
  · exact h0
  · have := hb 0 (by omega) h0
    simp at this
    omega
theorem old_none {lim : Int} {l : List Rq} {k : Nat} (hk : k < l.length) (hb : ∀ x ∈ l, decide (lim ≤ x.passed) = false) : NextOk lim l k := by
  refine ⟨hk, fun h => ?_⟩
  have := hb l[0] (List.getElem_mem _)
  simp at this
  omega
def NextPost (w : World) (lim : Int) (l : List Rq) (e : Ending) (w' : World) : Prop := (∃ k : Nat, NextOk lim l k ∧ e = .returned (.int .i64 k)) ∧ Below w.heap.size w w'
set_option maxRecDepth 100000 in
set_option maxHeartbeats 1600000 in
theorem next_ok (lim : Int) (A : Option Addr) (n cap : Nat) (l : List Rq) (w : World) (hl : Rqs w A n cap l) (hok : okQ lim l) (hn : 0 < n) : Calls Try.prog 31 #[.agg #[.int .i64 lim, .slice A n cap]] w (NextPost w lim l) := by
  have HL := Lib.hid hl
  have hln := hl.1
  have hln2 : n ≤ 16 := by rw [← hln]; exact hok.2.1
  have HO := Lib.hid hok
  have H1 : Hid (∀ w0, Rqs w0 A n cap l → Calls Try.prog 36 #[.agg #[.int .i64 lim, .slice A n cap]] w0 (IntPost w0 0)) := Lib.hid fun w0 h0 => check_ok lim A n cap l w0 h0 hok
  have hQ := Blk.new w 58 #[.int .i64 lim, .slice A n cap]
  have hL := lo_alloc (lo_refl w) (.cells #[.int .i64 lim, .slice A n cap] 58)
  clear hl hok
  obtain ⟨cQ, fQ⟩ := hQ.facts
  have H2 : Hid (∀ w0, Rqs w0 A n cap l → Blk w0 w.heap.size 58 #[.int .i64 lim, .slice A n cap] → Calls Try.prog 50 #[.slice A n cap, .func (.func 49) #[] #[.pointer (some ⟨w.heap.size, 0, none⟩)]] w0 (IntPost w0 (idxP (fun x => decide (lim ≤ x.passed)) l))) := Lib.hid fun w0 h0 hB =>
    index_any _ 49 #[.pointer (some ⟨w.heap.size, 0, none⟩)] enters_49 A n cap l w0 h0 fun W x _ hb => old_any x w.heap.size lim W ((hB.lo hb).facts.1 0) (hB.lo hb).lt
  have hcs := idx_cases (fun x => decide (lim ≤ x.passed)) l
  generalize idxP (fun x => decide (lim ≤ x.passed)) l = r at H2 hcs
  go_enter Try.func31, Try.ntmps31
  go_wp2_with fail
  refine (H1.out _ (agg_lo HL.out hL)).mono ?_
  rintro e w1 ⟨rfl, hb⟩
  clear cQ fQ
  replace hQ := hQ.lo hb
  replace hL := lo_trans hL hb
  clear hb H1
  obtain ⟨cQ, fQ⟩ := hQ.facts
  rcases hcs with ⟨rfl, hno⟩ | ⟨k, hk, rfl, hpk, hno⟩
  · have HN := Lib.hid hno
    clear hno
    go_wp2_with fail
    refine (H2.out _ (agg_lo HL.out hL) hQ).mono ?_
    rintro e w2 ⟨rfl, hb⟩
    clear cQ fQ
    replace hQ := hQ.lo hb
    replace hL := lo_trans hL hb
    clear hb H2
    obtain ⟨cQ, fQ⟩ := hQ.facts
    go_wp2_with fail
    refine (min_ok A n cap l _ (agg_lo HL.out hL) HO.out.2.2.1 hn (by omega)).mono ?_
    rintro e w3 ⟨⟨x, hx, rfl⟩, hb⟩
    clear cQ fQ
    replace hQ := (hQ.lo hb).alloc (.cells #[.int .i64 x.id, .int .i64 x.rank, .int .i64 x.left, .int .i64 x.passed] 68)
    have hX := Blk.new w3 68 #[.int .i64 x.id, .int .i64 x.rank, .int .i64 x.left, .int .i64 x.passed]
    replace hL := lo_alloc (lo_trans hL hb) (.cells #[.int .i64 x.id, .int .i64 x.rank, .int .i64 x.left, .int .i64 x.passed] 68)
    clear hb
    obtain ⟨cQ, fQ⟩ := hQ.facts
    obtain ⟨cX, fX⟩ := hX.facts
    obtain ⟨j, hj, hjx⟩ := List.getElem_of_mem hx
    have hpl := place_own HO.out.2.2.2 hj
    rw [hjx] at hpl
    have H4 : Hid (∀ w0, Rqs w0 A n cap l → Calls Try.prog 38 #[.agg #[.int .i64 lim, .slice A n cap], .int .i64 x.id] w0 (IntPost w0 j)) := Lib.hid fun w0 h0 => by
      have := place_any lim A n cap l x.id w0 h0
      rw [hpl] at this
      exact this
    clear hpl hjx hx
    go_wp2_with fail
    refine (H4.out _ (agg_lo HL.out hL)).mono ?_
    rintro e w4 ⟨rfl, hb⟩
    have hM := Lib.hid (lo_trans hL hb)
    clear hb cQ fQ cX fX
    go_wp2_with fail
    go_ret
    exact ⟨⟨j, old_none hj HN.out, rfl⟩, hM.out⟩
  · have HN := Lib.hid hno
    clear hno hpk
    go_wp2_with fail
    refine (H2.out _ (agg_lo HL.out hL) hQ).mono ?_
    rintro e w2 ⟨rfl, hb⟩
    have hM := Lib.hid (lo_trans hL hb)
    clear hb cQ fQ H2
    go_wp2_with fail
    go_ret
    exact ⟨⟨k, old_first hk HN.out, rfl⟩, hM.out⟩
/-- May a request be put in? -/
def canPush (l : List Rq) (x : Rq) : Prop := x.right ∧ (∀ y ∈ l, y.id ≠ x.id) ∧ l.length < 16
theorem push_okQ {lim : Int} {l : List Rq} {x : Rq} (h : okQ lim l) (hp : canPush l x) : okQ lim (l ++ [x]) := by
  refine ⟨h.1, by rw [List.length_append]; have := hp.2.2; simp; omega, fun y hy => ?_, ?_⟩
  · rcases List.mem_append.1 hy with hy | hy
    · exact h.2.2.1 y hy
    · rw [List.mem_singleton.1 hy]; exact hp.1
  · rw [List.pairwise_append]
    exact ⟨h.2.2.2, List.pairwise_singleton _ _, fun a ha b hb => by rw [List.mem_singleton.1 hb]; exact hp.2.1 a ha⟩
/-- What Push hands back. -/
def PushPost (w : World) (lim : Int) (l : List Rq) (x : Rq) (e : Ending) (w' : World) : Prop :=
  ((¬ canPush l x ∧ ∃ v c, e = .returned (.tuple #[.agg #[.int .i64 lim, v], .int .i64 c]) ∧ c ≠ 0 ∧ ∃ A n cap, v = .slice A n cap) ∨
   (canPush l x ∧ ∃ base u, w.heap.size ≤ base ∧ base ≤ w'.heap.size ∧ e = .returned (.tuple #[.agg #[.int .i64 lim, u], .int .i64 0]) ∧ w'.ownsRow base 68 4 u (l ++ [x]).length ((l ++ [x]).flatMap cellsR))) ∧ Below w.heap.size w w'
end Go.Proofs.Ytfpagiojdgdbeaa
