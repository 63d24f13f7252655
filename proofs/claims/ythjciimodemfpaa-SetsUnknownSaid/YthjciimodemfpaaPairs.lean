import Derived.Test.YthjciimodemfpaaRefApp
import Derived.ChangeKeysEq
import Derived.Laws.OwnMore
namespace Go.Proofs.Ythjciimodemfpaa
open Go.RowKit

theorem info3 : (Try.prog.info? 3).map (fun i => (i.zero, i.size, i.bytes)) = some (some (.int .i64 0), 1, 8) := by kernel_rfl
theorem info47 : (Try.prog.info? 47).map (fun i => (i.zero, i.size, i.bytes)) = some (some (.agg #[.int .u16 0, .int .u32 0]), 2, 8) := by kernel_rfl
theorem part3 (xs : Array Value) (i : Nat) (h : i < xs.size) (w : World) : (part 3 xs i).run Try.prog w = .ok xs[i] w := by
  obtain ⟨i0, hi, hz0, hz1, hz2⟩ := info_parts info3
  unfold part
  simp [isAgg, run_underlying Try.underlying3, h]
theorem eqi (d : Nat) (a b : Int) (w : World) : (Op.equalIn (d + 1) 3 (.int .i64 a) (.int .i64 b)).run Try.prog w = .ok (decide (a = b)) w := by
  simp [Op.equalIn, run_underlying Try.underlying3]
  try (by_cases h : a = b <;> simp [h])
set_option maxRecDepth 100000 in
theorem eq55 (v x : Vs) (w : World) : (Op.equalIn 10000 55 (.agg #[.int .i64 v.table, .int .i64 v.push, .int .i64 v.streams, .int .i64 v.window, .int .i64 v.frame, .int .i64 v.list]) (.agg #[.int .i64 x.table, .int .i64 x.push, .int .i64 x.streams, .int .i64 x.window, .int .i64 x.frame, .int .i64 x.list])).run Try.prog w = .ok (decide (v = x)) w := by
  obtain ⟨i0, hi, hz0, hz1, hz2⟩ := info_parts info3
  have hc : Try.prog.cellsOf 3 = 1 := by kernel_rfl
  rw [show (10000 : Nat) = 9999 + 1 from rfl, run_equalIn_array w 9999 _ _ Try.underlying55 hi, hc]
  have hr : List.range 6 = [0, 1, 2, 3, 4, 5] := by decide
  rw [hr]
  have e : decide (v = x) = (decide (v.table = x.table) && (decide (v.push = x.push) && (decide (v.streams = x.streams) && (decide (v.window = x.window) && (decide (v.frame = x.frame) && decide (v.list = x.list)))))) := by
    cases v; cases x; simp [Vs.mk.injEq]
  rw [e]
  simp only [Op.eqItems, Sem.run_bind]
  by_cases h0 : v.table = x.table <;> by_cases h1 : v.push = x.push <;> by_cases h2 : v.streams = x.streams <;> by_cases h3 : v.window = x.window <;> by_cases h4 : v.frame = x.frame <;> by_cases h5 : v.list = x.list <;> simp [part3, eqi 9998, h0, h1, h2, h3, h4, h5, Result.andThen]
attribute [local go_sem ↓] Go.wp_at_zero Go.wp_at_succ
def cellsP (x : Int × Int) : List Value := [Value.int .u16 x.1, Value.int .u32 x.2]
def wfP (x : Int × Int) : Prop := (Lit.int .u16 x.1).wf = true ∧ (Lit.int .u32 x.2).wf = true
theorem prs_blk {w : World} {g : Nat} {t : TypeId} {l : List (Int × Int)} (h : Blk w g t (l.flatMap cellsP).toArray) (hl : l.length ≤ maxLen) (hw : ∀ p ∈ l, wfP p) : Prs w (some ⟨g, 0, none⟩) l.length l.length l := by
  refine ⟨rfl, Nat.le_refl _, hl, (fun e => by cases e), fun i p hp => ⟨g, 0, rfl, h.lt, fun j u hu => ?_⟩, hw⟩
  have hj : j < 2 := (List.getElem?_eq_some_iff.1 hu).1
  rw [Nat.zero_add, h.facts.1, List.getElem?_toArray, flatMap_get (C := cellsP) (fun _ => rfl) l i j p hp hj]
  exact hu
/-- What differs between two numbers. -/
def partL (id a b : Int) : List (Int × Int) := if a = b then [] else [(id, b)]
def fldL (v : Vs) : Nat → Int
  | 0 => v.table
  | 1 => v.push
  | 2 => v.streams
  | 3 => v.window
  | 4 => v.frame
  | _ => v.list
/-- What differs in the first k numbers. -/
def upL (v x : Vs) : Nat → List (Int × Int)
  | 0 => []
  | k + 1 => upL v x k ++ partL ((k : Int) + 1) (fldL v k) (fldL x k)
theorem part_len (id a b : Int) : (partL id a b).length ≤ 1 := by unfold partL; split <;> simp
theorem up_len (v x : Vs) : ∀ k, (upL v x k).length ≤ k
  | 0 => Nat.le_refl _
  | k + 1 => by
    have h1 := up_len v x k
    have h2 := part_len ((k : Int) + 1) (fldL v k) (fldL x k)
    show (upL v x k ++ partL ((k : Int) + 1) (fldL v k) (fldL x k)).length ≤ k + 1
    rw [List.length_append]
    omega
theorem up_same (v : Vs) : ∀ k, upL v v k = []
  | 0 => rfl
  | k + 1 => by
    show upL v v k ++ partL ((k : Int) + 1) (fldL v k) (fldL v k) = []
    rw [up_same v k, partL, if_pos rfl]
    rfl
/-- What is between two values. -/
def pairsL (v x : Vs) : List (Int × Int) := if v.ok ∧ x.ok then upL v x 6 else []
def PairsPost (w : World) (r : List (Int × Int)) (e : Ending) (w' : World) : Prop := ∃ base u, w.heap.size ≤ base ∧ base ≤ w'.heap.size ∧ e = .returned u ∧ w'.ownsRow base 47 2 u r.length (r.flatMap cellsP) ∧ Below w.heap.size w w'
theorem pairs_none {v x : Vs} (h : v = x ∨ ¬ v.ok ∨ ¬ x.ok) : pairsL v x = [] := by
  unfold pairsL
  split
  · rename_i hh
    rcases h with rfl | h | h
    · exact up_same v 6
    · exact absurd hh.1 h
    · exact absurd hh.2 h
  · rfl
theorem up_eq0 {v x : Vs} (h : fldL v 0 = fldL x 0) : upL v x 1 = upL v x 0 := by
  show upL v x 0 ++ partL ((0 : Nat) + 1) (fldL v 0) (fldL x 0) = _
  rw [partL, if_pos h, List.append_nil]
theorem up_ne0 {v x : Vs} (h : ¬ fldL v 0 = fldL x 0) : upL v x 1 = upL v x 0 ++ [(1, fldL x 0)] := by
  show upL v x 0 ++ partL ((0 : Nat) + 1) (fldL v 0) (fldL x 0) = _
  rw [partL, if_neg h]
  rfl
theorem up_eq1 {v x : Vs} (h : fldL v 1 = fldL x 1) : upL v x 2 = upL v x 1 := by
  show upL v x 1 ++ partL ((1 : Nat) + 1) (fldL v 1) (fldL x 1) = _
  rw [partL, if_pos h, List.append_nil]
theorem up_ne1 {v x : Vs} (h : ¬ fldL v 1 = fldL x 1) : upL v x 2 = upL v x 1 ++ [(2, fldL x 1)] := by
  show upL v x 1 ++ partL ((1 : Nat) + 1) (fldL v 1) (fldL x 1) = _
  rw [partL, if_neg h]
  rfl
theorem up_eq2 {v x : Vs} (h : fldL v 2 = fldL x 2) : upL v x 3 = upL v x 2 := by
  show upL v x 2 ++ partL ((2 : Nat) + 1) (fldL v 2) (fldL x 2) = _
  rw [partL, if_pos h, List.append_nil]
theorem up_ne2 {v x : Vs} (h : ¬ fldL v 2 = fldL x 2) : upL v x 3 = upL v x 2 ++ [(3, fldL x 2)] := by
  show upL v x 2 ++ partL ((2 : Nat) + 1) (fldL v 2) (fldL x 2) = _
  rw [partL, if_neg h]
  rfl
theorem up_eq3 {v x : Vs} (h : fldL v 3 = fldL x 3) : upL v x 4 = upL v x 3 := by
  show upL v x 3 ++ partL ((3 : Nat) + 1) (fldL v 3) (fldL x 3) = _
  rw [partL, if_pos h, List.append_nil]
theorem up_ne3 {v x : Vs} (h : ¬ fldL v 3 = fldL x 3) : upL v x 4 = upL v x 3 ++ [(4, fldL x 3)] := by
  show upL v x 3 ++ partL ((3 : Nat) + 1) (fldL v 3) (fldL x 3) = _
  rw [partL, if_neg h]
  rfl
theorem up_eq4 {v x : Vs} (h : fldL v 4 = fldL x 4) : upL v x 5 = upL v x 4 := by
  show upL v x 4 ++ partL ((4 : Nat) + 1) (fldL v 4) (fldL x 4) = _
  rw [partL, if_pos h, List.append_nil]
theorem up_ne4 {v x : Vs} (h : ¬ fldL v 4 = fldL x 4) : upL v x 5 = upL v x 4 ++ [(5, fldL x 4)] := by
  show upL v x 4 ++ partL ((4 : Nat) + 1) (fldL v 4) (fldL x 4) = _
  rw [partL, if_neg h]
  rfl
theorem up_eq5 {v x : Vs} (h : fldL v 5 = fldL x 5) : upL v x 6 = upL v x 5 := by
  show upL v x 5 ++ partL ((5 : Nat) + 1) (fldL v 5) (fldL x 5) = _
  rw [partL, if_pos h, List.append_nil]
theorem up_ne5 {v x : Vs} (h : ¬ fldL v 5 = fldL x 5) : upL v x 6 = upL v x 5 ++ [(6, fldL x 5)] := by
  show upL v x 5 ++ partL ((5 : Nat) + 1) (fldL v 5) (fldL x 5) = _
  rw [partL, if_neg h]
  rfl
set_option maxRecDepth 100000 in
set_option maxHeartbeats 6400000 in
theorem pairs_any (v0 v1 v2 v3 v4 v5 x0 x1 x2 x3 x4 x5 : Int) (w : World) : Calls Try.prog 15 #[.agg #[.int .i64 v0, .int .i64 v1, .int .i64 v2, .int .i64 v3, .int .i64 v4, .int .i64 v5], .agg #[.int .i64 x0, .int .i64 x1, .int .i64 x2, .int .i64 x3, .int .i64 x4, .int .i64 x5]] w (PairsPost w (pairsL (Vs.mk v0 v1 v2 v3 v4 v5) (Vs.mk x0 x1 x2 x3 x4 x5))) := by
  have hV := (Blk.new w 26 #[.int .i64 v0, .int .i64 v1, .int .i64 v2, .int .i64 v3, .int .i64 v4, .int .i64 v5]).alloc (.cells #[.int .i64 x0, .int .i64 x1, .int .i64 x2, .int .i64 x3, .int .i64 x4, .int .i64 x5] 26)
  have hW := Blk.new (w.alloc (.cells #[.int .i64 v0, .int .i64 v1, .int .i64 v2, .int .i64 v3, .int .i64 v4, .int .i64 v5] 26)) 26 #[.int .i64 x0, .int .i64 x1, .int .i64 x2, .int .i64 x3, .int .i64 x4, .int .i64 x5]
  have hL := lo_alloc (lo_alloc (lo_refl w) (.cells #[.int .i64 v0, .int .i64 v1, .int .i64 v2, .int .i64 v3, .int .i64 v4, .int .i64 v5] 26)) (.cells #[.int .i64 x0, .int .i64 x1, .int .i64 x2, .int .i64 x3, .int .i64 x4, .int .i64 x5] 26)
  simp only [World.size_alloc] at hW
  have HC1 : Hid (∀ w1, Calls Try.prog 10 #[.agg #[.int .i64 v0, .int .i64 v1, .int .i64 v2, .int .i64 v3, .int .i64 v4, .int .i64 v5]] w1 (IntPost w1 (Vs.mk v0 v1 v2 v3 v4 v5).err)) := check_any (Vs.mk v0 v1 v2 v3 v4 v5)
  have HC2 : Hid (∀ w1, Calls Try.prog 10 #[.agg #[.int .i64 x0, .int .i64 x1, .int .i64 x2, .int .i64 x3, .int .i64 x4, .int .i64 x5]] w1 (IntPost w1 (Vs.mk x0 x1 x2 x3 x4 x5).err)) := check_any (Vs.mk x0 x1 x2 x3 x4 x5)
  have Hrow_v : Hid (∀ w1, Calls Try.prog 23 #[.agg #[.int .i64 v0, .int .i64 v1, .int .i64 v2, .int .i64 v3, .int .i64 v4, .int .i64 v5]] w1 (RowPost w1 (Vs.mk v0 v1 v2 v3 v4 v5))) := row_any (Vs.mk v0 v1 v2 v3 v4 v5)
  have Hrow_x : Hid (∀ w1, Calls Try.prog 23 #[.agg #[.int .i64 x0, .int .i64 x1, .int .i64 x2, .int .i64 x3, .int .i64 x4, .int .i64 x5]] w1 (RowPost w1 (Vs.mk x0 x1 x2 x3 x4 x5))) := row_any (Vs.mk x0 x1 x2 x3 x4 x5)
  go_enter Try.func15, Try.ntmps15
  go_upto_region 1 with fail
  go_cut [5, 6] (fun u t wc => ∃ g5 g6, u = .pointer (some ⟨g5, 0, none⟩) ∧ t = .pointer (some ⟨g6, 0, none⟩) ∧ Blk wc g5 55 #[.int .i64 v0, .int .i64 v1, .int .i64 v2, .int .i64 v3, .int .i64 v4, .int .i64 v5] ∧ Blk wc g6 55 #[.int .i64 x0, .int .i64 x1, .int .i64 x2, .int .i64 x3, .int .i64 x4, .int .i64 x5] ∧ Blk wc w.heap.size 26 #[.int .i64 v0, .int .i64 v1, .int .i64 v2, .int .i64 v3, .int .i64 v4, .int .i64 v5] ∧ Blk wc (w.heap.size + 1) 26 #[.int .i64 x0, .int .i64 x1, .int .i64 x2, .int .i64 x3, .int .i64 x4, .int .i64 x5] ∧ w.heap.size + 1 < g5 ∧ w.heap.size + 1 < g6 ∧ Below w.heap.size w wc)
  case first =>
    clear HC1 HC2
    generalize (w.alloc (.cells #[.int .i64 v0, .int .i64 v1, .int .i64 v2, .int .i64 v3, .int .i64 v4, .int .i64 v5] 26)).alloc (.cells #[.int .i64 x0, .int .i64 x1, .int .i64 x2, .int .i64 x3, .int .i64 x4, .int .i64 x5] 26) = w0 at hV hW hL ⊢
    refine wp_region_held_drew (S := (fun W => W.cell? ⟨w.heap.size, 0, none⟩ = some (.int .i64 v0) ∧ W.cell? ⟨w.heap.size, 1, none⟩ = some (.int .i64 v1) ∧ W.cell? ⟨w.heap.size, 2, none⟩ = some (.int .i64 v2) ∧ W.cell? ⟨w.heap.size, 3, none⟩ = some (.int .i64 v3) ∧ W.cell? ⟨w.heap.size, 4, none⟩ = some (.int .i64 v4) ∧ W.cell? ⟨w.heap.size, 5, none⟩ = some (.int .i64 v5) ∧ w.heap.size < W.heap.size ∧ W.cell? ⟨w.heap.size + 1, 0, none⟩ = some (.int .i64 x0) ∧ W.cell? ⟨w.heap.size + 1, 1, none⟩ = some (.int .i64 x1) ∧ W.cell? ⟨w.heap.size + 1, 2, none⟩ = some (.int .i64 x2) ∧ W.cell? ⟨w.heap.size + 1, 3, none⟩ = some (.int .i64 x3) ∧ W.cell? ⟨w.heap.size + 1, 4, none⟩ = some (.int .i64 x4) ∧ W.cell? ⟨w.heap.size + 1, 5, none⟩ = some (.int .i64 x5) ∧ w.heap.size + 1 < W.heap.size)) (by kernel_rfl) ?_ (fun hHeld => ?_)
    focus ((try dsimp only); (have q := hV.facts.1; have r := hW.facts.1; exact ⟨q 0, q 1, q 2, q 3, q 4, q 5, hV.lt, r 0, r 1, r 2, r 3, r 4, r 5, hW.lt⟩))
    first
    | (refine wpAnyH_take (i := 0) (oi := _) (v := ?_) (getop rfl) (by kernel_rfl) (by kernel_rfl) (by kernel_rfl) (fun _ _ _ h => h) (Or.inl ⟨by rfl, ?_⟩) (by assumption) ?_; rotate_left; focus (intro w hSw; (try dsimp only at hSw); go_simp; (try with_reducible rfl); done))
    (try simp only [Act.put, List.setIfInBounds_toArray, List.set_cons_zero, List.set_cons_succ])
    first
    | (refine wpAnyH_take (i := 2) (oi := _) (v := ?_) (getop rfl) (by kernel_rfl) (by kernel_rfl) (by kernel_rfl) (fun _ _ _ h => h) (Or.inl ⟨by rfl, ?_⟩) (by assumption) ?_; rotate_left; focus (intro w hSw; (try dsimp only at hSw); go_simp; (try with_reducible rfl); done))
    (try simp only [Act.put, List.setIfInBounds_toArray, List.set_cons_zero, List.set_cons_succ])
    have hV : Blk w0.drew _ _ _ := hV
    have hW : Blk w0.drew _ _ _ := hW
    have hL := lo_drew hL
    generalize w0.drew = wd at hV hW hL hHeld ⊢
    refine wpAnyH_ready (rs := [1, 4, 5]) (by kernel_rfl) (by simp) ?_
    refine (AllReadyH.cons (o := _) (getop rfl) (fun K hK => ?_) (AllReadyH.cons (o := _) (getop rfl) (fun K hK => ?_) (AllReadyH.cons (o := _) (getop rfl) (fun K hK => ?_) AllReadyH.nil)))
    · go_simp
      refine (Hrow_v.out _).mono ?_
      rintro e wa0 ⟨rfl, hb⟩
      replace hV := hV.lo hb
      replace hW := hW.lo hb
      replace hL := lo_trans hL hb
      clear hb
      refine hK.out _ _ ?_ (fun hHeld1 => ?_)
      focus ((try dsimp only); (have q := hV.facts.1; have r := hW.facts.1; exact ⟨q 0, q 1, q 2, q 3, q 4, q 5, hV.lt, r 0, r 1, r 2, r 3, r 4, r 5, hW.lt⟩))
      clear hK K hHeld
      have hHeld := hHeld1
      clear hHeld1
      (try simp only [Act.put, List.setIfInBounds_toArray, List.set_cons_zero, List.set_cons_succ])
      refine wpAnyH_ready (rs := [3, 4, 5]) (by kernel_rfl) (by simp) ?_
      refine (AllReadyH.cons (o := _) (getop rfl) (fun K hK => ?_) (AllReadyH.cons (o := _) (getop rfl) (fun K hK => ?_) (AllReadyH.cons (o := _) (getop rfl) (fun K hK => ?_) AllReadyH.nil)))
      · go_simp
        refine (Hrow_x.out _).mono ?_
        rintro e wa1 ⟨rfl, hb⟩
        replace hV := hV.lo hb
        replace hW := hW.lo hb
        replace hL := lo_trans hL hb
        clear hb
        refine hK.out _ _ ?_ (fun hHeld3 => ?_)
        focus ((try dsimp only); (have q := hV.facts.1; have r := hW.facts.1; exact ⟨q 0, q 1, q 2, q 3, q 4, q 5, hV.lt, r 0, r 1, r 2, r 3, r 4, r 5, hW.lt⟩))
        clear hK K hHeld
        have hHeld := hHeld3
        clear hHeld3
        (try simp only [Act.put, List.setIfInBounds_toArray, List.set_cons_zero, List.set_cons_succ])
        refine wpAnyH_ready (rs := [4, 5]) (by kernel_rfl) (by simp) ?_
        refine (AllReadyH.cons (o := _) (getop rfl) (fun K hK => ?_) (AllReadyH.cons (o := _) (getop rfl) (fun K hK => ?_) AllReadyH.nil))
        · go_simp
          have h5 := Blk.new wa1 55 #[.int .i64 0, .int .i64 0, .int .i64 0, .int .i64 0, .int .i64 0, .int .i64 0]
          have q5 : w.heap.size + 1 < wa1.heap.size := hW.lt
          replace hV := hV.alloc (.cells #[.int .i64 0, .int .i64 0, .int .i64 0, .int .i64 0, .int .i64 0, .int .i64 0] 55)
          replace hW := hW.alloc (.cells #[.int .i64 0, .int .i64 0, .int .i64 0, .int .i64 0, .int .i64 0, .int .i64 0] 55)
          replace hL := lo_alloc hL (.cells #[.int .i64 0, .int .i64 0, .int .i64 0, .int .i64 0, .int .i64 0, .int .i64 0] 55)
          generalize wa1.heap.size = g5 at h5 q5 ⊢
          generalize wa1.alloc (.cells #[.int .i64 0, .int .i64 0, .int .i64 0, .int .i64 0, .int .i64 0, .int .i64 0] 55) = wa2 at hV hW h5 hL ⊢
          refine hK.out _ _ ?_ (fun hHeld4 => ?_)
          focus ((try dsimp only); (have q := hV.facts.1; have r := hW.facts.1; exact ⟨q 0, q 1, q 2, q 3, q 4, q 5, hV.lt, r 0, r 1, r 2, r 3, r 4, r 5, hW.lt⟩))
          clear hK K hHeld
          have hHeld := hHeld4
          clear hHeld4
          (try simp only [Act.put, List.setIfInBounds_toArray, List.set_cons_zero, List.set_cons_succ])
          refine wpAnyH_ready (rs := [5]) (by kernel_rfl) (by simp) ?_
          refine (AllReadyH.cons (o := _) (getop rfl) (fun K hK => ?_) AllReadyH.nil)
          go_simp
          have h6 := Blk.new wa2 55 #[.int .i64 0, .int .i64 0, .int .i64 0, .int .i64 0, .int .i64 0, .int .i64 0]
          have q6 : w.heap.size + 1 < wa2.heap.size := hW.lt
          have q56 : g5 < wa2.heap.size := h5.lt
          replace hV := hV.alloc (.cells #[.int .i64 0, .int .i64 0, .int .i64 0, .int .i64 0, .int .i64 0, .int .i64 0] 55)
          replace hW := hW.alloc (.cells #[.int .i64 0, .int .i64 0, .int .i64 0, .int .i64 0, .int .i64 0, .int .i64 0] 55)
          replace h5 := h5.alloc (.cells #[.int .i64 0, .int .i64 0, .int .i64 0, .int .i64 0, .int .i64 0, .int .i64 0] 55)
          replace hL := lo_alloc hL (.cells #[.int .i64 0, .int .i64 0, .int .i64 0, .int .i64 0, .int .i64 0, .int .i64 0] 55)
          generalize wa2.heap.size = g6 at h6 q6 q56 ⊢
          generalize wa2.alloc (.cells #[.int .i64 0, .int .i64 0, .int .i64 0, .int .i64 0, .int .i64 0, .int .i64 0] 55) = wa3 at hV hW h5 h6 hL ⊢
          refine hK.out _ _ ?_ (fun hHeld5 => ?_)
          focus ((try dsimp only); (have q := hV.facts.1; have r := hW.facts.1; exact ⟨q 0, q 1, q 2, q 3, q 4, q 5, hV.lt, r 0, r 1, r 2, r 3, r 4, r 5, hW.lt⟩))
          clear hK K hHeld
          have hHeld := hHeld5
          clear hHeld5
          (try simp only [Act.put, List.setIfInBounds_toArray, List.set_cons_zero, List.set_cons_succ])
          refine wpAnyH_ready (rs := [6]) (by kernel_rfl) (by simp) ?_
          refine (AllReadyH.cons (o := _) (getop rfl) (fun K hK => ?_) AllReadyH.nil)
          obtain ⟨c5, f5⟩ := h5.facts
          have l5 := h5.lt
          go_simp
          clear c5 f5 l5
          replace hV := hV.far (p := ⟨g5, 0, none⟩) (by dsimp only; omega) (.int .i64 v0)
          replace hW := hW.far (p := ⟨g5, 0, none⟩) (by dsimp only; omega) (.int .i64 v0)
          replace h6 := h6.far (p := ⟨g5, 0, none⟩) (by dsimp only; omega) (.int .i64 v0)
          replace h5 := h5.set_ 0 (.int .i64 v0)
          replace hL := lo_set hL (p := ⟨g5, 0, none⟩) (by dsimp only; omega) (.int .i64 v0)
          replace hV := hV.far (p := ⟨g5, 1, none⟩) (by dsimp only; omega) (.int .i64 v1)
          replace hW := hW.far (p := ⟨g5, 1, none⟩) (by dsimp only; omega) (.int .i64 v1)
          replace h6 := h6.far (p := ⟨g5, 1, none⟩) (by dsimp only; omega) (.int .i64 v1)
          replace h5 := h5.set_ 1 (.int .i64 v1)
          replace hL := lo_set hL (p := ⟨g5, 1, none⟩) (by dsimp only; omega) (.int .i64 v1)
          replace hV := hV.far (p := ⟨g5, 2, none⟩) (by dsimp only; omega) (.int .i64 v2)
          replace hW := hW.far (p := ⟨g5, 2, none⟩) (by dsimp only; omega) (.int .i64 v2)
          replace h6 := h6.far (p := ⟨g5, 2, none⟩) (by dsimp only; omega) (.int .i64 v2)
          replace h5 := h5.set_ 2 (.int .i64 v2)
          replace hL := lo_set hL (p := ⟨g5, 2, none⟩) (by dsimp only; omega) (.int .i64 v2)
          replace hV := hV.far (p := ⟨g5, 3, none⟩) (by dsimp only; omega) (.int .i64 v3)
          replace hW := hW.far (p := ⟨g5, 3, none⟩) (by dsimp only; omega) (.int .i64 v3)
          replace h6 := h6.far (p := ⟨g5, 3, none⟩) (by dsimp only; omega) (.int .i64 v3)
          replace h5 := h5.set_ 3 (.int .i64 v3)
          replace hL := lo_set hL (p := ⟨g5, 3, none⟩) (by dsimp only; omega) (.int .i64 v3)
          replace hV := hV.far (p := ⟨g5, 4, none⟩) (by dsimp only; omega) (.int .i64 v4)
          replace hW := hW.far (p := ⟨g5, 4, none⟩) (by dsimp only; omega) (.int .i64 v4)
          replace h6 := h6.far (p := ⟨g5, 4, none⟩) (by dsimp only; omega) (.int .i64 v4)
          replace h5 := h5.set_ 4 (.int .i64 v4)
          replace hL := lo_set hL (p := ⟨g5, 4, none⟩) (by dsimp only; omega) (.int .i64 v4)
          replace hV := hV.far (p := ⟨g5, 5, none⟩) (by dsimp only; omega) (.int .i64 v5)
          replace hW := hW.far (p := ⟨g5, 5, none⟩) (by dsimp only; omega) (.int .i64 v5)
          replace h6 := h6.far (p := ⟨g5, 5, none⟩) (by dsimp only; omega) (.int .i64 v5)
          replace h5 := h5.set_ 5 (.int .i64 v5)
          replace hL := lo_set hL (p := ⟨g5, 5, none⟩) (by dsimp only; omega) (.int .i64 v5)
          replace h5 : Blk ((((((wa3.setCell ⟨g5, 0, none⟩ (.int .i64 v0)).setCell ⟨g5, 1, none⟩ (.int .i64 v1)).setCell ⟨g5, 2, none⟩ (.int .i64 v2)).setCell ⟨g5, 3, none⟩ (.int .i64 v3)).setCell ⟨g5, 4, none⟩ (.int .i64 v4)).setCell ⟨g5, 5, none⟩ (.int .i64 v5)) g5 55 #[.int .i64 v0, .int .i64 v1, .int .i64 v2, .int .i64 v3, .int .i64 v4, .int .i64 v5] := by simpa using h5
          generalize ((((((wa3.setCell ⟨g5, 0, none⟩ (.int .i64 v0)).setCell ⟨g5, 1, none⟩ (.int .i64 v1)).setCell ⟨g5, 2, none⟩ (.int .i64 v2)).setCell ⟨g5, 3, none⟩ (.int .i64 v3)).setCell ⟨g5, 4, none⟩ (.int .i64 v4)).setCell ⟨g5, 5, none⟩ (.int .i64 v5)) = wa4 at hV hW h5 h6 hL ⊢
          refine hK.out _ _ ?_ (fun hHeld6 => ?_)
          focus ((try dsimp only); (have q := hV.facts.1; have r := hW.facts.1; exact ⟨q 0, q 1, q 2, q 3, q 4, q 5, hV.lt, r 0, r 1, r 2, r 3, r 4, r 5, hW.lt⟩))
          clear hK K hHeld
          have hHeld := hHeld6
          clear hHeld6
          (try simp only [Act.put, List.setIfInBounds_toArray, List.set_cons_zero, List.set_cons_succ])
          refine wpAnyH_ready (rs := [7]) (by kernel_rfl) (by simp) ?_
          refine (AllReadyH.cons (o := _) (getop rfl) (fun K hK => ?_) AllReadyH.nil)
          obtain ⟨c6, f6⟩ := h6.facts
          have l6 := h6.lt
          go_simp
          clear c6 f6 l6
          replace hV := hV.far (p := ⟨g6, 0, none⟩) (by dsimp only; omega) (.int .i64 x0)
          replace hW := hW.far (p := ⟨g6, 0, none⟩) (by dsimp only; omega) (.int .i64 x0)
          replace h5 := h5.far (p := ⟨g6, 0, none⟩) (by dsimp only; omega) (.int .i64 x0)
          replace h6 := h6.set_ 0 (.int .i64 x0)
          replace hL := lo_set hL (p := ⟨g6, 0, none⟩) (by dsimp only; omega) (.int .i64 x0)
          replace hV := hV.far (p := ⟨g6, 1, none⟩) (by dsimp only; omega) (.int .i64 x1)
          replace hW := hW.far (p := ⟨g6, 1, none⟩) (by dsimp only; omega) (.int .i64 x1)
          replace h5 := h5.far (p := ⟨g6, 1, none⟩) (by dsimp only; omega) (.int .i64 x1)
          replace h6 := h6.set_ 1 (.int .i64 x1)
          replace hL := lo_set hL (p := ⟨g6, 1, none⟩) (by dsimp only; omega) (.int .i64 x1)
          replace hV := hV.far (p := ⟨g6, 2, none⟩) (by dsimp only; omega) (.int .i64 x2)
          replace hW := hW.far (p := ⟨g6, 2, none⟩) (by dsimp only; omega) (.int .i64 x2)
          replace h5 := h5.far (p := ⟨g6, 2, none⟩) (by dsimp only; omega) (.int .i64 x2)
          replace h6 := h6.set_ 2 (.int .i64 x2)
          replace hL := lo_set hL (p := ⟨g6, 2, none⟩) (by dsimp only; omega) (.int .i64 x2)
          replace hV := hV.far (p := ⟨g6, 3, none⟩) (by dsimp only; omega) (.int .i64 x3)
          replace hW := hW.far (p := ⟨g6, 3, none⟩) (by dsimp only; omega) (.int .i64 x3)
          replace h5 := h5.far (p := ⟨g6, 3, none⟩) (by dsimp only; omega) (.int .i64 x3)
          replace h6 := h6.set_ 3 (.int .i64 x3)
          replace hL := lo_set hL (p := ⟨g6, 3, none⟩) (by dsimp only; omega) (.int .i64 x3)
          replace hV := hV.far (p := ⟨g6, 4, none⟩) (by dsimp only; omega) (.int .i64 x4)
          replace hW := hW.far (p := ⟨g6, 4, none⟩) (by dsimp only; omega) (.int .i64 x4)
          replace h5 := h5.far (p := ⟨g6, 4, none⟩) (by dsimp only; omega) (.int .i64 x4)
          replace h6 := h6.set_ 4 (.int .i64 x4)
          replace hL := lo_set hL (p := ⟨g6, 4, none⟩) (by dsimp only; omega) (.int .i64 x4)
          replace hV := hV.far (p := ⟨g6, 5, none⟩) (by dsimp only; omega) (.int .i64 x5)
          replace hW := hW.far (p := ⟨g6, 5, none⟩) (by dsimp only; omega) (.int .i64 x5)
          replace h5 := h5.far (p := ⟨g6, 5, none⟩) (by dsimp only; omega) (.int .i64 x5)
          replace h6 := h6.set_ 5 (.int .i64 x5)
          replace hL := lo_set hL (p := ⟨g6, 5, none⟩) (by dsimp only; omega) (.int .i64 x5)
          replace h6 : Blk ((((((wa4.setCell ⟨g6, 0, none⟩ (.int .i64 x0)).setCell ⟨g6, 1, none⟩ (.int .i64 x1)).setCell ⟨g6, 2, none⟩ (.int .i64 x2)).setCell ⟨g6, 3, none⟩ (.int .i64 x3)).setCell ⟨g6, 4, none⟩ (.int .i64 x4)).setCell ⟨g6, 5, none⟩ (.int .i64 x5)) g6 55 #[.int .i64 x0, .int .i64 x1, .int .i64 x2, .int .i64 x3, .int .i64 x4, .int .i64 x5] := by simpa using h6
          generalize ((((((wa4.setCell ⟨g6, 0, none⟩ (.int .i64 x0)).setCell ⟨g6, 1, none⟩ (.int .i64 x1)).setCell ⟨g6, 2, none⟩ (.int .i64 x2)).setCell ⟨g6, 3, none⟩ (.int .i64 x3)).setCell ⟨g6, 4, none⟩ (.int .i64 x4)).setCell ⟨g6, 5, none⟩ (.int .i64 x5)) = wa5 at hV hW h5 h6 hL ⊢
          refine hK.out _ _ ?_ (fun hHeld7 => ?_)
          focus ((try dsimp only); (have q := hV.facts.1; have r := hW.facts.1; exact ⟨q 0, q 1, q 2, q 3, q 4, q 5, hV.lt, r 0, r 1, r 2, r 3, r 4, r 5, hW.lt⟩))
          clear hK K hHeld
          have hHeld := hHeld7
          clear hHeld7
          (try simp only [Act.put, List.setIfInBounds_toArray, List.set_cons_zero, List.set_cons_succ])
          refine wpAnyH_done (by kernel_rfl) ?_ _
          go_wp2_with fail
          go_meet
          exact ⟨g5, g6, rfl, rfl, h5, h6, hV, hW, by omega, by omega, hL⟩
        · go_simp
          have h6 := Blk.new wa1 55 #[.int .i64 0, .int .i64 0, .int .i64 0, .int .i64 0, .int .i64 0, .int .i64 0]
          have q6 : w.heap.size + 1 < wa1.heap.size := hW.lt
          replace hV := hV.alloc (.cells #[.int .i64 0, .int .i64 0, .int .i64 0, .int .i64 0, .int .i64 0, .int .i64 0] 55)
          replace hW := hW.alloc (.cells #[.int .i64 0, .int .i64 0, .int .i64 0, .int .i64 0, .int .i64 0, .int .i64 0] 55)
          replace hL := lo_alloc hL (.cells #[.int .i64 0, .int .i64 0, .int .i64 0, .int .i64 0, .int .i64 0, .int .i64 0] 55)
          generalize wa1.heap.size = g6 at h6 q6 ⊢
          generalize wa1.alloc (.cells #[.int .i64 0, .int .i64 0, .int .i64 0, .int .i64 0, .int .i64 0, .int .i64 0] 55) = wa2 at hV hW h6 hL ⊢
          refine hK.out _ _ ?_ (fun hHeld5 => ?_)
          focus ((try dsimp only); (have q := hV.facts.1; have r := hW.facts.1; exact ⟨q 0, q 1, q 2, q 3, q 4, q 5, hV.lt, r 0, r 1, r 2, r 3, r 4, r 5, hW.lt⟩))
          clear hK K hHeld
          have hHeld := hHeld5
          clear hHeld5
          (try simp only [Act.put, List.setIfInBounds_toArray, List.set_cons_zero, List.set_cons_succ])
          refine wpAnyH_ready (rs := [4]) (by kernel_rfl) (by simp) ?_
          refine (AllReadyH.cons (o := _) (getop rfl) (fun K hK => ?_) AllReadyH.nil)
          go_simp
          have h5 := Blk.new wa2 55 #[.int .i64 0, .int .i64 0, .int .i64 0, .int .i64 0, .int .i64 0, .int .i64 0]
          have q5 : w.heap.size + 1 < wa2.heap.size := hW.lt
          have q65 : g6 < wa2.heap.size := h6.lt
          replace hV := hV.alloc (.cells #[.int .i64 0, .int .i64 0, .int .i64 0, .int .i64 0, .int .i64 0, .int .i64 0] 55)
          replace hW := hW.alloc (.cells #[.int .i64 0, .int .i64 0, .int .i64 0, .int .i64 0, .int .i64 0, .int .i64 0] 55)
          replace h6 := h6.alloc (.cells #[.int .i64 0, .int .i64 0, .int .i64 0, .int .i64 0, .int .i64 0, .int .i64 0] 55)
          replace hL := lo_alloc hL (.cells #[.int .i64 0, .int .i64 0, .int .i64 0, .int .i64 0, .int .i64 0, .int .i64 0] 55)
          generalize wa2.heap.size = g5 at h5 q5 q65 ⊢
          generalize wa2.alloc (.cells #[.int .i64 0, .int .i64 0, .int .i64 0, .int .i64 0, .int .i64 0, .int .i64 0] 55) = wa3 at hV hW h6 h5 hL ⊢
          refine hK.out _ _ ?_ (fun hHeld4 => ?_)
          focus ((try dsimp only); (have q := hV.facts.1; have r := hW.facts.1; exact ⟨q 0, q 1, q 2, q 3, q 4, q 5, hV.lt, r 0, r 1, r 2, r 3, r 4, r 5, hW.lt⟩))
          clear hK K hHeld
          have hHeld := hHeld4
          clear hHeld4
          (try simp only [Act.put, List.setIfInBounds_toArray, List.set_cons_zero, List.set_cons_succ])
          refine wpAnyH_ready (rs := [6]) (by kernel_rfl) (by simp) ?_
          refine (AllReadyH.cons (o := _) (getop rfl) (fun K hK => ?_) AllReadyH.nil)
          obtain ⟨c5, f5⟩ := h5.facts
          have l5 := h5.lt
          go_simp
          clear c5 f5 l5
          replace hV := hV.far (p := ⟨g5, 0, none⟩) (by dsimp only; omega) (.int .i64 v0)
          replace hW := hW.far (p := ⟨g5, 0, none⟩) (by dsimp only; omega) (.int .i64 v0)
          replace h6 := h6.far (p := ⟨g5, 0, none⟩) (by dsimp only; omega) (.int .i64 v0)
          replace h5 := h5.set_ 0 (.int .i64 v0)
          replace hL := lo_set hL (p := ⟨g5, 0, none⟩) (by dsimp only; omega) (.int .i64 v0)
          replace hV := hV.far (p := ⟨g5, 1, none⟩) (by dsimp only; omega) (.int .i64 v1)
          replace hW := hW.far (p := ⟨g5, 1, none⟩) (by dsimp only; omega) (.int .i64 v1)
          replace h6 := h6.far (p := ⟨g5, 1, none⟩) (by dsimp only; omega) (.int .i64 v1)
          replace h5 := h5.set_ 1 (.int .i64 v1)
          replace hL := lo_set hL (p := ⟨g5, 1, none⟩) (by dsimp only; omega) (.int .i64 v1)
          replace hV := hV.far (p := ⟨g5, 2, none⟩) (by dsimp only; omega) (.int .i64 v2)
          replace hW := hW.far (p := ⟨g5, 2, none⟩) (by dsimp only; omega) (.int .i64 v2)
          replace h6 := h6.far (p := ⟨g5, 2, none⟩) (by dsimp only; omega) (.int .i64 v2)
          replace h5 := h5.set_ 2 (.int .i64 v2)
          replace hL := lo_set hL (p := ⟨g5, 2, none⟩) (by dsimp only; omega) (.int .i64 v2)
          replace hV := hV.far (p := ⟨g5, 3, none⟩) (by dsimp only; omega) (.int .i64 v3)
          replace hW := hW.far (p := ⟨g5, 3, none⟩) (by dsimp only; omega) (.int .i64 v3)
          replace h6 := h6.far (p := ⟨g5, 3, none⟩) (by dsimp only; omega) (.int .i64 v3)
          replace h5 := h5.set_ 3 (.int .i64 v3)
          replace hL := lo_set hL (p := ⟨g5, 3, none⟩) (by dsimp only; omega) (.int .i64 v3)
          replace hV := hV.far (p := ⟨g5, 4, none⟩) (by dsimp only; omega) (.int .i64 v4)
          replace hW := hW.far (p := ⟨g5, 4, none⟩) (by dsimp only; omega) (.int .i64 v4)
          replace h6 := h6.far (p := ⟨g5, 4, none⟩) (by dsimp only; omega) (.int .i64 v4)
          replace h5 := h5.set_ 4 (.int .i64 v4)
          replace hL := lo_set hL (p := ⟨g5, 4, none⟩) (by dsimp only; omega) (.int .i64 v4)
          replace hV := hV.far (p := ⟨g5, 5, none⟩) (by dsimp only; omega) (.int .i64 v5)
          replace hW := hW.far (p := ⟨g5, 5, none⟩) (by dsimp only; omega) (.int .i64 v5)
          replace h6 := h6.far (p := ⟨g5, 5, none⟩) (by dsimp only; omega) (.int .i64 v5)
          replace h5 := h5.set_ 5 (.int .i64 v5)
          replace hL := lo_set hL (p := ⟨g5, 5, none⟩) (by dsimp only; omega) (.int .i64 v5)
          replace h5 : Blk ((((((wa3.setCell ⟨g5, 0, none⟩ (.int .i64 v0)).setCell ⟨g5, 1, none⟩ (.int .i64 v1)).setCell ⟨g5, 2, none⟩ (.int .i64 v2)).setCell ⟨g5, 3, none⟩ (.int .i64 v3)).setCell ⟨g5, 4, none⟩ (.int .i64 v4)).setCell ⟨g5, 5, none⟩ (.int .i64 v5)) g5 55 #[.int .i64 v0, .int .i64 v1, .int .i64 v2, .int .i64 v3, .int .i64 v4, .int .i64 v5] := by simpa using h5
          generalize ((((((wa3.setCell ⟨g5, 0, none⟩ (.int .i64 v0)).setCell ⟨g5, 1, none⟩ (.int .i64 v1)).setCell ⟨g5, 2, none⟩ (.int .i64 v2)).setCell ⟨g5, 3, none⟩ (.int .i64 v3)).setCell ⟨g5, 4, none⟩ (.int .i64 v4)).setCell ⟨g5, 5, none⟩ (.int .i64 v5)) = wa4 at hV hW h6 h5 hL ⊢
          refine hK.out _ _ ?_ (fun hHeld6 => ?_)
          focus ((try dsimp only); (have q := hV.facts.1; have r := hW.facts.1; exact ⟨q 0, q 1, q 2, q 3, q 4, q 5, hV.lt, r 0, r 1, r 2, r 3, r 4, r 5, hW.lt⟩))
          clear hK K hHeld
          have hHeld := hHeld6
          clear hHeld6
          (try simp only [Act.put, List.setIfInBounds_toArray, List.set_cons_zero, List.set_cons_succ])
          refine wpAnyH_ready (rs := [7]) (by kernel_rfl) (by simp) ?_
          refine (AllReadyH.cons (o := _) (getop rfl) (fun K hK => ?_) AllReadyH.nil)
          obtain ⟨c6, f6⟩ := h6.facts
          have l6 := h6.lt
          go_simp
          clear c6 f6 l6
          replace hV := hV.far (p := ⟨g6, 0, none⟩) (by dsimp only; omega) (.int .i64 x0)
          replace hW := hW.far (p := ⟨g6, 0, none⟩) (by dsimp only; omega) (.int .i64 x0)
          replace h5 := h5.far (p := ⟨g6, 0, none⟩) (by dsimp only; omega) (.int .i64 x0)
          replace h6 := h6.set_ 0 (.int .i64 x0)
          replace hL := lo_set hL (p := ⟨g6, 0, none⟩) (by dsimp only; omega) (.int .i64 x0)
          replace hV := hV.far (p := ⟨g6, 1, none⟩) (by dsimp only; omega) (.int .i64 x1)
          replace hW := hW.far (p := ⟨g6, 1, none⟩) (by dsimp only; omega) (.int .i64 x1)
          replace h5 := h5.far (p := ⟨g6, 1, none⟩) (by dsimp only; omega) (.int .i64 x1)
          replace h6 := h6.set_ 1 (.int .i64 x1)
          replace hL := lo_set hL (p := ⟨g6, 1, none⟩) (by dsimp only; omega) (.int .i64 x1)
          replace hV := hV.far (p := ⟨g6, 2, none⟩) (by dsimp only; omega) (.int .i64 x2)
          replace hW := hW.far (p := ⟨g6, 2, none⟩) (by dsimp only; omega) (.int .i64 x2)
          replace h5 := h5.far (p := ⟨g6, 2, none⟩) (by dsimp only; omega) (.int .i64 x2)
          replace h6 := h6.set_ 2 (.int .i64 x2)
          replace hL := lo_set hL (p := ⟨g6, 2, none⟩) (by dsimp only; omega) (.int .i64 x2)
          replace hV := hV.far (p := ⟨g6, 3, none⟩) (by dsimp only; omega) (.int .i64 x3)
          replace hW := hW.far (p := ⟨g6, 3, none⟩) (by dsimp only; omega) (.int .i64 x3)
          replace h5 := h5.far (p := ⟨g6, 3, none⟩) (by dsimp only; omega) (.int .i64 x3)
          replace h6 := h6.set_ 3 (.int .i64 x3)
          replace hL := lo_set hL (p := ⟨g6, 3, none⟩) (by dsimp only; omega) (.int .i64 x3)
          replace hV := hV.far (p := ⟨g6, 4, none⟩) (by dsimp only; omega) (.int .i64 x4)
          replace hW := hW.far (p := ⟨g6, 4, none⟩) (by dsimp only; omega) (.int .i64 x4)
          replace h5 := h5.far (p := ⟨g6, 4, none⟩) (by dsimp only; omega) (.int .i64 x4)
          replace h6 := h6.set_ 4 (.int .i64 x4)
          replace hL := lo_set hL (p := ⟨g6, 4, none⟩) (by dsimp only; omega) (.int .i64 x4)
          replace hV := hV.far (p := ⟨g6, 5, none⟩) (by dsimp only; omega) (.int .i64 x5)
          replace hW := hW.far (p := ⟨g6, 5, none⟩) (by dsimp only; omega) (.int .i64 x5)
          replace h5 := h5.far (p := ⟨g6, 5, none⟩) (by dsimp only; omega) (.int .i64 x5)
          replace h6 := h6.set_ 5 (.int .i64 x5)
          replace hL := lo_set hL (p := ⟨g6, 5, none⟩) (by dsimp only; omega) (.int .i64 x5)
          replace h6 : Blk ((((((wa4.setCell ⟨g6, 0, none⟩ (.int .i64 x0)).setCell ⟨g6, 1, none⟩ (.int .i64 x1)).setCell ⟨g6, 2, none⟩ (.int .i64 x2)).setCell ⟨g6, 3, none⟩ (.int .i64 x3)).setCell ⟨g6, 4, none⟩ (.int .i64 x4)).setCell ⟨g6, 5, none⟩ (.int .i64 x5)) g6 55 #[.int .i64 x0, .int .i64 x1, .int .i64 x2, .int .i64 x3, .int .i64 x4, .int .i64 x5] := by simpa using h6
          generalize ((((((wa4.setCell ⟨g6, 0, none⟩ (.int .i64 x0)).setCell ⟨g6, 1, none⟩ (.int .i64 x1)).setCell ⟨g6, 2, none⟩ (.int .i64 x2)).setCell ⟨g6, 3, none⟩ (.int .i64 x3)).setCell ⟨g6, 4, none⟩ (.int .i64 x4)).setCell ⟨g6, 5, none⟩ (.int .i64 x5)) = wa5 at hV hW h6 h5 hL ⊢
          refine hK.out _ _ ?_ (fun hHeld7 => ?_)
          focus ((try dsimp only); (have q := hV.facts.1; have r := hW.facts.1; exact ⟨q 0, q 1, q 2, q 3, q 4, q 5, hV.lt, r 0, r 1, r 2, r 3, r 4, r 5, hW.lt⟩))
          clear hK K hHeld
          have hHeld := hHeld7
          clear hHeld7
          (try simp only [Act.put, List.setIfInBounds_toArray, List.set_cons_zero, List.set_cons_succ])
          refine wpAnyH_done (by kernel_rfl) ?_ _
          go_wp2_with fail
          go_meet
          exact ⟨g5, g6, rfl, rfl, h5, h6, hV, hW, by omega, by omega, hL⟩
      · go_simp
        have h5 := Blk.new wa0 55 #[.int .i64 0, .int .i64 0, .int .i64 0, .int .i64 0, .int .i64 0, .int .i64 0]
        have q5 : w.heap.size + 1 < wa0.heap.size := hW.lt
        replace hV := hV.alloc (.cells #[.int .i64 0, .int .i64 0, .int .i64 0, .int .i64 0, .int .i64 0, .int .i64 0] 55)
        replace hW := hW.alloc (.cells #[.int .i64 0, .int .i64 0, .int .i64 0, .int .i64 0, .int .i64 0, .int .i64 0] 55)
        replace hL := lo_alloc hL (.cells #[.int .i64 0, .int .i64 0, .int .i64 0, .int .i64 0, .int .i64 0, .int .i64 0] 55)
        generalize wa0.heap.size = g5 at h5 q5 ⊢
        generalize wa0.alloc (.cells #[.int .i64 0, .int .i64 0, .int .i64 0, .int .i64 0, .int .i64 0, .int .i64 0] 55) = wa1 at hV hW h5 hL ⊢
        refine hK.out _ _ ?_ (fun hHeld4 => ?_)
        focus ((try dsimp only); (have q := hV.facts.1; have r := hW.facts.1; exact ⟨q 0, q 1, q 2, q 3, q 4, q 5, hV.lt, r 0, r 1, r 2, r 3, r 4, r 5, hW.lt⟩))
        clear hK K hHeld
        have hHeld := hHeld4
        clear hHeld4
        (try simp only [Act.put, List.setIfInBounds_toArray, List.set_cons_zero, List.set_cons_succ])
        refine wpAnyH_ready (rs := [3, 5]) (by kernel_rfl) (by simp) ?_
        refine (AllReadyH.cons (o := _) (getop rfl) (fun K hK => ?_) (AllReadyH.cons (o := _) (getop rfl) (fun K hK => ?_) AllReadyH.nil))
        · go_simp
          refine (Hrow_x.out _).mono ?_
          rintro e wa2 ⟨rfl, hb⟩
          replace hV := hV.lo hb
          replace hW := hW.lo hb
          replace h5 := h5.lo hb
          replace hL := lo_trans hL hb
          clear hb
          refine hK.out _ _ ?_ (fun hHeld3 => ?_)
          focus ((try dsimp only); (have q := hV.facts.1; have r := hW.facts.1; exact ⟨q 0, q 1, q 2, q 3, q 4, q 5, hV.lt, r 0, r 1, r 2, r 3, r 4, r 5, hW.lt⟩))
          clear hK K hHeld
          have hHeld := hHeld3
          clear hHeld3
          (try simp only [Act.put, List.setIfInBounds_toArray, List.set_cons_zero, List.set_cons_succ])
          refine wpAnyH_ready (rs := [5]) (by kernel_rfl) (by simp) ?_
          refine (AllReadyH.cons (o := _) (getop rfl) (fun K hK => ?_) AllReadyH.nil)
          go_simp
          have h6 := Blk.new wa2 55 #[.int .i64 0, .int .i64 0, .int .i64 0, .int .i64 0, .int .i64 0, .int .i64 0]
          have q6 : w.heap.size + 1 < wa2.heap.size := hW.lt
          have q56 : g5 < wa2.heap.size := h5.lt
          replace hV := hV.alloc (.cells #[.int .i64 0, .int .i64 0, .int .i64 0, .int .i64 0, .int .i64 0, .int .i64 0] 55)
          replace hW := hW.alloc (.cells #[.int .i64 0, .int .i64 0, .int .i64 0, .int .i64 0, .int .i64 0, .int .i64 0] 55)
          replace h5 := h5.alloc (.cells #[.int .i64 0, .int .i64 0, .int .i64 0, .int .i64 0, .int .i64 0, .int .i64 0] 55)
          replace hL := lo_alloc hL (.cells #[.int .i64 0, .int .i64 0, .int .i64 0, .int .i64 0, .int .i64 0, .int .i64 0] 55)
          generalize wa2.heap.size = g6 at h6 q6 q56 ⊢
          generalize wa2.alloc (.cells #[.int .i64 0, .int .i64 0, .int .i64 0, .int .i64 0, .int .i64 0, .int .i64 0] 55) = wa3 at hV hW h5 h6 hL ⊢
          refine hK.out _ _ ?_ (fun hHeld5 => ?_)
          focus ((try dsimp only); (have q := hV.facts.1; have r := hW.facts.1; exact ⟨q 0, q 1, q 2, q 3, q 4, q 5, hV.lt, r 0, r 1, r 2, r 3, r 4, r 5, hW.lt⟩))
          clear hK K hHeld
          have hHeld := hHeld5
          clear hHeld5
          (try simp only [Act.put, List.setIfInBounds_toArray, List.set_cons_zero, List.set_cons_succ])
          refine wpAnyH_ready (rs := [6]) (by kernel_rfl) (by simp) ?_
          refine (AllReadyH.cons (o := _) (getop rfl) (fun K hK => ?_) AllReadyH.nil)
          obtain ⟨c5, f5⟩ := h5.facts
          have l5 := h5.lt
          go_simp
          clear c5 f5 l5
          replace hV := hV.far (p := ⟨g5, 0, none⟩) (by dsimp only; omega) (.int .i64 v0)
          replace hW := hW.far (p := ⟨g5, 0, none⟩) (by dsimp only; omega) (.int .i64 v0)
          replace h6 := h6.far (p := ⟨g5, 0, none⟩) (by dsimp only; omega) (.int .i64 v0)
          replace h5 := h5.set_ 0 (.int .i64 v0)
          replace hL := lo_set hL (p := ⟨g5, 0, none⟩) (by dsimp only; omega) (.int .i64 v0)
          replace hV := hV.far (p := ⟨g5, 1, none⟩) (by dsimp only; omega) (.int .i64 v1)
          replace hW := hW.far (p := ⟨g5, 1, none⟩) (by dsimp only; omega) (.int .i64 v1)
          replace h6 := h6.far (p := ⟨g5, 1, none⟩) (by dsimp only; omega) (.int .i64 v1)
          replace h5 := h5.set_ 1 (.int .i64 v1)
          replace hL := lo_set hL (p := ⟨g5, 1, none⟩) (by dsimp only; omega) (.int .i64 v1)
          replace hV := hV.far (p := ⟨g5, 2, none⟩) (by dsimp only; omega) (.int .i64 v2)
          replace hW := hW.far (p := ⟨g5, 2, none⟩) (by dsimp only; omega) (.int .i64 v2)
          replace h6 := h6.far (p := ⟨g5, 2, none⟩) (by dsimp only; omega) (.int .i64 v2)
          replace h5 := h5.set_ 2 (.int .i64 v2)
          replace hL := lo_set hL (p := ⟨g5, 2, none⟩) (by dsimp only; omega) (.int .i64 v2)
          replace hV := hV.far (p := ⟨g5, 3, none⟩) (by dsimp only; omega) (.int .i64 v3)
          replace hW := hW.far (p := ⟨g5, 3, none⟩) (by dsimp only; omega) (.int .i64 v3)
          replace h6 := h6.far (p := ⟨g5, 3, none⟩) (by dsimp only; omega) (.int .i64 v3)
          replace h5 := h5.set_ 3 (.int .i64 v3)
          replace hL := lo_set hL (p := ⟨g5, 3, none⟩) (by dsimp only; omega) (.int .i64 v3)
          replace hV := hV.far (p := ⟨g5, 4, none⟩) (by dsimp only; omega) (.int .i64 v4)
          replace hW := hW.far (p := ⟨g5, 4, none⟩) (by dsimp only; omega) (.int .i64 v4)
          replace h6 := h6.far (p := ⟨g5, 4, none⟩) (by dsimp only; omega) (.int .i64 v4)
          replace h5 := h5.set_ 4 (.int .i64 v4)
          replace hL := lo_set hL (p := ⟨g5, 4, none⟩) (by dsimp only; omega) (.int .i64 v4)
          replace hV := hV.far (p := ⟨g5, 5, none⟩) (by dsimp only; omega) (.int .i64 v5)
          replace hW := hW.far (p := ⟨g5, 5, none⟩) (by dsimp only; omega) (.int .i64 v5)
          replace h6 := h6.far (p := ⟨g5, 5, none⟩) (by dsimp only; omega) (.int .i64 v5)
          replace h5 := h5.set_ 5 (.int .i64 v5)
          replace hL := lo_set hL (p := ⟨g5, 5, none⟩) (by dsimp only; omega) (.int .i64 v5)
          replace h5 : Blk ((((((wa3.setCell ⟨g5, 0, none⟩ (.int .i64 v0)).setCell ⟨g5, 1, none⟩ (.int .i64 v1)).setCell ⟨g5, 2, none⟩ (.int .i64 v2)).setCell ⟨g5, 3, none⟩ (.int .i64 v3)).setCell ⟨g5, 4, none⟩ (.int .i64 v4)).setCell ⟨g5, 5, none⟩ (.int .i64 v5)) g5 55 #[.int .i64 v0, .int .i64 v1, .int .i64 v2, .int .i64 v3, .int .i64 v4, .int .i64 v5] := by simpa using h5
          generalize ((((((wa3.setCell ⟨g5, 0, none⟩ (.int .i64 v0)).setCell ⟨g5, 1, none⟩ (.int .i64 v1)).setCell ⟨g5, 2, none⟩ (.int .i64 v2)).setCell ⟨g5, 3, none⟩ (.int .i64 v3)).setCell ⟨g5, 4, none⟩ (.int .i64 v4)).setCell ⟨g5, 5, none⟩ (.int .i64 v5)) = wa4 at hV hW h5 h6 hL ⊢
          refine hK.out _ _ ?_ (fun hHeld6 => ?_)
          focus ((try dsimp only); (have q := hV.facts.1; have r := hW.facts.1; exact ⟨q 0, q 1, q 2, q 3, q 4, q 5, hV.lt, r 0, r 1, r 2, r 3, r 4, r 5, hW.lt⟩))
          clear hK K hHeld
          have hHeld := hHeld6
          clear hHeld6
          (try simp only [Act.put, List.setIfInBounds_toArray, List.set_cons_zero, List.set_cons_succ])
          refine wpAnyH_ready (rs := [7]) (by kernel_rfl) (by simp) ?_
          refine (AllReadyH.cons (o := _) (getop rfl) (fun K hK => ?_) AllReadyH.nil)
          obtain ⟨c6, f6⟩ := h6.facts
          have l6 := h6.lt
          go_simp
          clear c6 f6 l6
          replace hV := hV.far (p := ⟨g6, 0, none⟩) (by dsimp only; omega) (.int .i64 x0)
          replace hW := hW.far (p := ⟨g6, 0, none⟩) (by dsimp only; omega) (.int .i64 x0)
          replace h5 := h5.far (p := ⟨g6, 0, none⟩) (by dsimp only; omega) (.int .i64 x0)
          replace h6 := h6.set_ 0 (.int .i64 x0)
          replace hL := lo_set hL (p := ⟨g6, 0, none⟩) (by dsimp only; omega) (.int .i64 x0)
          replace hV := hV.far (p := ⟨g6, 1, none⟩) (by dsimp only; omega) (.int .i64 x1)
          replace hW := hW.far (p := ⟨g6, 1, none⟩) (by dsimp only; omega) (.int .i64 x1)
          replace h5 := h5.far (p := ⟨g6, 1, none⟩) (by dsimp only; omega) (.int .i64 x1)
          replace h6 := h6.set_ 1 (.int .i64 x1)
          replace hL := lo_set hL (p := ⟨g6, 1, none⟩) (by dsimp only; omega) (.int .i64 x1)
          replace hV := hV.far (p := ⟨g6, 2, none⟩) (by dsimp only; omega) (.int .i64 x2)
          replace hW := hW.far (p := ⟨g6, 2, none⟩) (by dsimp only; omega) (.int .i64 x2)
          replace h5 := h5.far (p := ⟨g6, 2, none⟩) (by dsimp only; omega) (.int .i64 x2)
          replace h6 := h6.set_ 2 (.int .i64 x2)
          replace hL := lo_set hL (p := ⟨g6, 2, none⟩) (by dsimp only; omega) (.int .i64 x2)
          replace hV := hV.far (p := ⟨g6, 3, none⟩) (by dsimp only; omega) (.int .i64 x3)
          replace hW := hW.far (p := ⟨g6, 3, none⟩) (by dsimp only; omega) (.int .i64 x3)
          replace h5 := h5.far (p := ⟨g6, 3, none⟩) (by dsimp only; omega) (.int .i64 x3)
          replace h6 := h6.set_ 3 (.int .i64 x3)
          replace hL := lo_set hL (p := ⟨g6, 3, none⟩) (by dsimp only; omega) (.int .i64 x3)
          replace hV := hV.far (p := ⟨g6, 4, none⟩) (by dsimp only; omega) (.int .i64 x4)
          replace hW := hW.far (p := ⟨g6, 4, none⟩) (by dsimp only; omega) (.int .i64 x4)
          replace h5 := h5.far (p := ⟨g6, 4, none⟩) (by dsimp only; omega) (.int .i64 x4)
          replace h6 := h6.set_ 4 (.int .i64 x4)
          replace hL := lo_set hL (p := ⟨g6, 4, none⟩) (by dsimp only; omega) (.int .i64 x4)
          replace hV := hV.far (p := ⟨g6, 5, none⟩) (by dsimp only; omega) (.int .i64 x5)
          replace hW := hW.far (p := ⟨g6, 5, none⟩) (by dsimp only; omega) (.int .i64 x5)
          replace h5 := h5.far (p := ⟨g6, 5, none⟩) (by dsimp only; omega) (.int .i64 x5)
          replace h6 := h6.set_ 5 (.int .i64 x5)
          replace hL := lo_set hL (p := ⟨g6, 5, none⟩) (by dsimp only; omega) (.int .i64 x5)
          replace h6 : Blk ((((((wa4.setCell ⟨g6, 0, none⟩ (.int .i64 x0)).setCell ⟨g6, 1, none⟩ (.int .i64 x1)).setCell ⟨g6, 2, none⟩ (.int .i64 x2)).setCell ⟨g6, 3, none⟩ (.int .i64 x3)).setCell ⟨g6, 4, none⟩ (.int .i64 x4)).setCell ⟨g6, 5, none⟩ (.int .i64 x5)) g6 55 #[.int .i64 x0, .int .i64 x1, .int .i64 x2, .int .i64 x3, .int .i64 x4, .int .i64 x5] := by simpa using h6
          generalize ((((((wa4.setCell ⟨g6, 0, none⟩ (.int .i64 x0)).setCell ⟨g6, 1, none⟩ (.int .i64 x1)).setCell ⟨g6, 2, none⟩ (.int .i64 x2)).setCell ⟨g6, 3, none⟩ (.int .i64 x3)).setCell ⟨g6, 4, none⟩ (.int .i64 x4)).setCell ⟨g6, 5, none⟩ (.int .i64 x5)) = wa5 at hV hW h5 h6 hL ⊢
          refine hK.out _ _ ?_ (fun hHeld7 => ?_)
          focus ((try dsimp only); (have q := hV.facts.1; have r := hW.facts.1; exact ⟨q 0, q 1, q 2, q 3, q 4, q 5, hV.lt, r 0, r 1, r 2, r 3, r 4, r 5, hW.lt⟩))
          clear hK K hHeld
          have hHeld := hHeld7
          clear hHeld7
          (try simp only [Act.put, List.setIfInBounds_toArray, List.set_cons_zero, List.set_cons_succ])
          refine wpAnyH_done (by kernel_rfl) ?_ _
          go_wp2_with fail
          go_meet
          exact ⟨g5, g6, rfl, rfl, h5, h6, hV, hW, by omega, by omega, hL⟩
        · go_simp
          have h6 := Blk.new wa1 55 #[.int .i64 0, .int .i64 0, .int .i64 0, .int .i64 0, .int .i64 0, .int .i64 0]
          have q6 : w.heap.size + 1 < wa1.heap.size := hW.lt
          have q56 : g5 < wa1.heap.size := h5.lt
          replace hV := hV.alloc (.cells #[.int .i64 0, .int .i64 0, .int .i64 0, .int .i64 0, .int .i64 0, .int .i64 0] 55)
          replace hW := hW.alloc (.cells #[.int .i64 0, .int .i64 0, .int .i64 0, .int .i64 0, .int .i64 0, .int .i64 0] 55)
          replace h5 := h5.alloc (.cells #[.int .i64 0, .int .i64 0, .int .i64 0, .int .i64 0, .int .i64 0, .int .i64 0] 55)
          replace hL := lo_alloc hL (.cells #[.int .i64 0, .int .i64 0, .int .i64 0, .int .i64 0, .int .i64 0, .int .i64 0] 55)
          generalize wa1.heap.size = g6 at h6 q6 q56 ⊢
          generalize wa1.alloc (.cells #[.int .i64 0, .int .i64 0, .int .i64 0, .int .i64 0, .int .i64 0, .int .i64 0] 55) = wa2 at hV hW h5 h6 hL ⊢
          refine hK.out _ _ ?_ (fun hHeld5 => ?_)
          focus ((try dsimp only); (have q := hV.facts.1; have r := hW.facts.1; exact ⟨q 0, q 1, q 2, q 3, q 4, q 5, hV.lt, r 0, r 1, r 2, r 3, r 4, r 5, hW.lt⟩))
          clear hK K hHeld
          have hHeld := hHeld5
          clear hHeld5
          (try simp only [Act.put, List.setIfInBounds_toArray, List.set_cons_zero, List.set_cons_succ])
          refine wpAnyH_ready (rs := [3]) (by kernel_rfl) (by simp) ?_
          refine (AllReadyH.cons (o := _) (getop rfl) (fun K hK => ?_) AllReadyH.nil)
          go_simp
          refine (Hrow_x.out _).mono ?_
          rintro e wa3 ⟨rfl, hb⟩
          replace hV := hV.lo hb
          replace hW := hW.lo hb
          replace h5 := h5.lo hb
          replace h6 := h6.lo hb
          replace hL := lo_trans hL hb
          clear hb
          refine hK.out _ _ ?_ (fun hHeld3 => ?_)
          focus ((try dsimp only); (have q := hV.facts.1; have r := hW.facts.1; exact ⟨q 0, q 1, q 2, q 3, q 4, q 5, hV.lt, r 0, r 1, r 2, r 3, r 4, r 5, hW.lt⟩))
          clear hK K hHeld
          have hHeld := hHeld3
          clear hHeld3
          (try simp only [Act.put, List.setIfInBounds_toArray, List.set_cons_zero, List.set_cons_succ])
          refine wpAnyH_ready (rs := [6]) (by kernel_rfl) (by simp) ?_
          refine (AllReadyH.cons (o := _) (getop rfl) (fun K hK => ?_) AllReadyH.nil)
          obtain ⟨c5, f5⟩ := h5.facts
          have l5 := h5.lt
          go_simp
          clear c5 f5 l5
          replace hV := hV.far (p := ⟨g5, 0, none⟩) (by dsimp only; omega) (.int .i64 v0)
          replace hW := hW.far (p := ⟨g5, 0, none⟩) (by dsimp only; omega) (.int .i64 v0)
          replace h6 := h6.far (p := ⟨g5, 0, none⟩) (by dsimp only; omega) (.int .i64 v0)
          replace h5 := h5.set_ 0 (.int .i64 v0)
          replace hL := lo_set hL (p := ⟨g5, 0, none⟩) (by dsimp only; omega) (.int .i64 v0)
          replace hV := hV.far (p := ⟨g5, 1, none⟩) (by dsimp only; omega) (.int .i64 v1)
          replace hW := hW.far (p := ⟨g5, 1, none⟩) (by dsimp only; omega) (.int .i64 v1)
          replace h6 := h6.far (p := ⟨g5, 1, none⟩) (by dsimp only; omega) (.int .i64 v1)
          replace h5 := h5.set_ 1 (.int .i64 v1)
          replace hL := lo_set hL (p := ⟨g5, 1, none⟩) (by dsimp only; omega) (.int .i64 v1)
          replace hV := hV.far (p := ⟨g5, 2, none⟩) (by dsimp only; omega) (.int .i64 v2)
          replace hW := hW.far (p := ⟨g5, 2, none⟩) (by dsimp only; omega) (.int .i64 v2)
          replace h6 := h6.far (p := ⟨g5, 2, none⟩) (by dsimp only; omega) (.int .i64 v2)
          replace h5 := h5.set_ 2 (.int .i64 v2)
          replace hL := lo_set hL (p := ⟨g5, 2, none⟩) (by dsimp only; omega) (.int .i64 v2)
          replace hV := hV.far (p := ⟨g5, 3, none⟩) (by dsimp only; omega) (.int .i64 v3)
          replace hW := hW.far (p := ⟨g5, 3, none⟩) (by dsimp only; omega) (.int .i64 v3)
          replace h6 := h6.far (p := ⟨g5, 3, none⟩) (by dsimp only; omega) (.int .i64 v3)
          replace h5 := h5.set_ 3 (.int .i64 v3)
          replace hL := lo_set hL (p := ⟨g5, 3, none⟩) (by dsimp only; omega) (.int .i64 v3)
          replace hV := hV.far (p := ⟨g5, 4, none⟩) (by dsimp only; omega) (.int .i64 v4)
          replace hW := hW.far (p := ⟨g5, 4, none⟩) (by dsimp only; omega) (.int .i64 v4)
          replace h6 := h6.far (p := ⟨g5, 4, none⟩) (by dsimp only; omega) (.int .i64 v4)
          replace h5 := h5.set_ 4 (.int .i64 v4)
          replace hL := lo_set hL (p := ⟨g5, 4, none⟩) (by dsimp only; omega) (.int .i64 v4)
          replace hV := hV.far (p := ⟨g5, 5, none⟩) (by dsimp only; omega) (.int .i64 v5)
          replace hW := hW.far (p := ⟨g5, 5, none⟩) (by dsimp only; omega) (.int .i64 v5)
          replace h6 := h6.far (p := ⟨g5, 5, none⟩) (by dsimp only; omega) (.int .i64 v5)
          replace h5 := h5.set_ 5 (.int .i64 v5)
          replace hL := lo_set hL (p := ⟨g5, 5, none⟩) (by dsimp only; omega) (.int .i64 v5)
          replace h5 : Blk ((((((wa3.setCell ⟨g5, 0, none⟩ (.int .i64 v0)).setCell ⟨g5, 1, none⟩ (.int .i64 v1)).setCell ⟨g5, 2, none⟩ (.int .i64 v2)).setCell ⟨g5, 3, none⟩ (.int .i64 v3)).setCell ⟨g5, 4, none⟩ (.int .i64 v4)).setCell ⟨g5, 5, none⟩ (.int .i64 v5)) g5 55 #[.int .i64 v0, .int .i64 v1, .int .i64 v2, .int .i64 v3, .int .i64 v4, .int .i64 v5] := by simpa using h5
          generalize ((((((wa3.setCell ⟨g5, 0, none⟩ (.int .i64 v0)).setCell ⟨g5, 1, none⟩ (.int .i64 v1)).setCell ⟨g5, 2, none⟩ (.int .i64 v2)).setCell ⟨g5, 3, none⟩ (.int .i64 v3)).setCell ⟨g5, 4, none⟩ (.int .i64 v4)).setCell ⟨g5, 5, none⟩ (.int .i64 v5)) = wa4 at hV hW h5 h6 hL ⊢
          refine hK.out _ _ ?_ (fun hHeld6 => ?_)
          focus ((try dsimp only); (have q := hV.facts.1; have r := hW.facts.1; exact ⟨q 0, q 1, q 2, q 3, q 4, q 5, hV.lt, r 0, r 1, r 2, r 3, r 4, r 5, hW.lt⟩))
          clear hK K hHeld
          have hHeld := hHeld6
          clear hHeld6
          (try simp only [Act.put, List.setIfInBounds_toArray, List.set_cons_zero, List.set_cons_succ])
          refine wpAnyH_ready (rs := [7]) (by kernel_rfl) (by simp) ?_
          refine (AllReadyH.cons (o := _) (getop rfl) (fun K hK => ?_) AllReadyH.nil)
          obtain ⟨c6, f6⟩ := h6.facts
          have l6 := h6.lt
          go_simp
          clear c6 f6 l6
          replace hV := hV.far (p := ⟨g6, 0, none⟩) (by dsimp only; omega) (.int .i64 x0)
          replace hW := hW.far (p := ⟨g6, 0, none⟩) (by dsimp only; omega) (.int .i64 x0)
          replace h5 := h5.far (p := ⟨g6, 0, none⟩) (by dsimp only; omega) (.int .i64 x0)
          replace h6 := h6.set_ 0 (.int .i64 x0)
          replace hL := lo_set hL (p := ⟨g6, 0, none⟩) (by dsimp only; omega) (.int .i64 x0)
          replace hV := hV.far (p := ⟨g6, 1, none⟩) (by dsimp only; omega) (.int .i64 x1)
          replace hW := hW.far (p := ⟨g6, 1, none⟩) (by dsimp only; omega) (.int .i64 x1)
          replace h5 := h5.far (p := ⟨g6, 1, none⟩) (by dsimp only; omega) (.int .i64 x1)
          replace h6 := h6.set_ 1 (.int .i64 x1)
          replace hL := lo_set hL (p := ⟨g6, 1, none⟩) (by dsimp only; omega) (.int .i64 x1)
          replace hV := hV.far (p := ⟨g6, 2, none⟩) (by dsimp only; omega) (.int .i64 x2)
          replace hW := hW.far (p := ⟨g6, 2, none⟩) (by dsimp only; omega) (.int .i64 x2)
          replace h5 := h5.far (p := ⟨g6, 2, none⟩) (by dsimp only; omega) (.int .i64 x2)
          replace h6 := h6.set_ 2 (.int .i64 x2)
          replace hL := lo_set hL (p := ⟨g6, 2, none⟩) (by dsimp only; omega) (.int .i64 x2)
          replace hV := hV.far (p := ⟨g6, 3, none⟩) (by dsimp only; omega) (.int .i64 x3)
          replace hW := hW.far (p := ⟨g6, 3, none⟩) (by dsimp only; omega) (.int .i64 x3)
          replace h5 := h5.far (p := ⟨g6, 3, none⟩) (by dsimp only; omega) (.int .i64 x3)
          replace h6 := h6.set_ 3 (.int .i64 x3)
          replace hL := lo_set hL (p := ⟨g6, 3, none⟩) (by dsimp only; omega) (.int .i64 x3)
          replace hV := hV.far (p := ⟨g6, 4, none⟩) (by dsimp only; omega) (.int .i64 x4)
          replace hW := hW.far (p := ⟨g6, 4, none⟩) (by dsimp only; omega) (.int .i64 x4)
          replace h5 := h5.far (p := ⟨g6, 4, none⟩) (by dsimp only; omega) (.int .i64 x4)
          replace h6 := h6.set_ 4 (.int .i64 x4)
          replace hL := lo_set hL (p := ⟨g6, 4, none⟩) (by dsimp only; omega) (.int .i64 x4)
          replace hV := hV.far (p := ⟨g6, 5, none⟩) (by dsimp only; omega) (.int .i64 x5)
          replace hW := hW.far (p := ⟨g6, 5, none⟩) (by dsimp only; omega) (.int .i64 x5)
          replace h5 := h5.far (p := ⟨g6, 5, none⟩) (by dsimp only; omega) (.int .i64 x5)
          replace h6 := h6.set_ 5 (.int .i64 x5)
          replace hL := lo_set hL (p := ⟨g6, 5, none⟩) (by dsimp only; omega) (.int .i64 x5)
          replace h6 : Blk ((((((wa4.setCell ⟨g6, 0, none⟩ (.int .i64 x0)).setCell ⟨g6, 1, none⟩ (.int .i64 x1)).setCell ⟨g6, 2, none⟩ (.int .i64 x2)).setCell ⟨g6, 3, none⟩ (.int .i64 x3)).setCell ⟨g6, 4, none⟩ (.int .i64 x4)).setCell ⟨g6, 5, none⟩ (.int .i64 x5)) g6 55 #[.int .i64 x0, .int .i64 x1, .int .i64 x2, .int .i64 x3, .int .i64 x4, .int .i64 x5] := by simpa using h6
          generalize ((((((wa4.setCell ⟨g6, 0, none⟩ (.int .i64 x0)).setCell ⟨g6, 1, none⟩ (.int .i64 x1)).setCell ⟨g6, 2, none⟩ (.int .i64 x2)).setCell ⟨g6, 3, none⟩ (.int .i64 x3)).setCell ⟨g6, 4, none⟩ (.int .i64 x4)).setCell ⟨g6, 5, none⟩ (.int .i64 x5)) = wa5 at hV hW h5 h6 hL ⊢
          refine hK.out _ _ ?_ (fun hHeld7 => ?_)
          focus ((try dsimp only); (have q := hV.facts.1; have r := hW.facts.1; exact ⟨q 0, q 1, q 2, q 3, q 4, q 5, hV.lt, r 0, r 1, r 2, r 3, r 4, r 5, hW.lt⟩))
          clear hK K hHeld
          have hHeld := hHeld7
          clear hHeld7
          (try simp only [Act.put, List.setIfInBounds_toArray, List.set_cons_zero, List.set_cons_succ])
          refine wpAnyH_done (by kernel_rfl) ?_ _
          go_wp2_with fail
          go_meet
          exact ⟨g5, g6, rfl, rfl, h5, h6, hV, hW, by omega, by omega, hL⟩
      · go_simp
        have h6 := Blk.new wa0 55 #[.int .i64 0, .int .i64 0, .int .i64 0, .int .i64 0, .int .i64 0, .int .i64 0]
        have q6 : w.heap.size + 1 < wa0.heap.size := hW.lt
        replace hV := hV.alloc (.cells #[.int .i64 0, .int .i64 0, .int .i64 0, .int .i64 0, .int .i64 0, .int .i64 0] 55)
        replace hW := hW.alloc (.cells #[.int .i64 0, .int .i64 0, .int .i64 0, .int .i64 0, .int .i64 0, .int .i64 0] 55)
        replace hL := lo_alloc hL (.cells #[.int .i64 0, .int .i64 0, .int .i64 0, .int .i64 0, .int .i64 0, .int .i64 0] 55)
        generalize wa0.heap.size = g6 at h6 q6 ⊢
        generalize wa0.alloc (.cells #[.int .i64 0, .int .i64 0, .int .i64 0, .int .i64 0, .int .i64 0, .int .i64 0] 55) = wa1 at hV hW h6 hL ⊢
        refine hK.out _ _ ?_ (fun hHeld5 => ?_)
        focus ((try dsimp only); (have q := hV.facts.1; have r := hW.facts.1; exact ⟨q 0, q 1, q 2, q 3, q 4, q 5, hV.lt, r 0, r 1, r 2, r 3, r 4, r 5, hW.lt⟩))
        clear hK K hHeld
        have hHeld := hHeld5
        clear hHeld5
        (try simp only [Act.put, List.setIfInBounds_toArray, List.set_cons_zero, List.set_cons_succ])
        refine wpAnyH_ready (rs := [3, 4]) (by kernel_rfl) (by simp) ?_
        refine (AllReadyH.cons (o := _) (getop rfl) (fun K hK => ?_) (AllReadyH.cons (o := _) (getop rfl) (fun K hK => ?_) AllReadyH.nil))
        · go_simp
          refine (Hrow_x.out _).mono ?_
          rintro e wa2 ⟨rfl, hb⟩
          replace hV := hV.lo hb
          replace hW := hW.lo hb
          replace h6 := h6.lo hb
          replace hL := lo_trans hL hb
          clear hb
          refine hK.out _ _ ?_ (fun hHeld3 => ?_)
          focus ((try dsimp only); (have q := hV.facts.1; have r := hW.facts.1; exact ⟨q 0, q 1, q 2, q 3, q 4, q 5, hV.lt, r 0, r 1, r 2, r 3, r 4, r 5, hW.lt⟩))
          clear hK K hHeld
          have hHeld := hHeld3
          clear hHeld3
          (try simp only [Act.put, List.setIfInBounds_toArray, List.set_cons_zero, List.set_cons_succ])
          refine wpAnyH_ready (rs := [4]) (by kernel_rfl) (by simp) ?_
          refine (AllReadyH.cons (o := _) (getop rfl) (fun K hK => ?_) AllReadyH.nil)
          go_simp
          have h5 := Blk.new wa2 55 #[.int .i64 0, .int .i64 0, .int .i64 0, .int .i64 0, .int .i64 0, .int .i64 0]
          have q5 : w.heap.size + 1 < wa2.heap.size := hW.lt
          have q65 : g6 < wa2.heap.size := h6.lt
          replace hV := hV.alloc (.cells #[.int .i64 0, .int .i64 0, .int .i64 0, .int .i64 0, .int .i64 0, .int .i64 0] 55)
          replace hW := hW.alloc (.cells #[.int .i64 0, .int .i64 0, .int .i64 0, .int .i64 0, .int .i64 0, .int .i64 0] 55)
          replace h6 := h6.alloc (.cells #[.int .i64 0, .int .i64 0, .int .i64 0, .int .i64 0, .int .i64 0, .int .i64 0] 55)
          replace hL := lo_alloc hL (.cells #[.int .i64 0, .int .i64 0, .int .i64 0, .int .i64 0, .int .i64 0, .int .i64 0] 55)
          generalize wa2.heap.size = g5 at h5 q5 q65 ⊢
          generalize wa2.alloc (.cells #[.int .i64 0, .int .i64 0, .int .i64 0, .int .i64 0, .int .i64 0, .int .i64 0] 55) = wa3 at hV hW h6 h5 hL ⊢
          refine hK.out _ _ ?_ (fun hHeld4 => ?_)
          focus ((try dsimp only); (have q := hV.facts.1; have r := hW.facts.1; exact ⟨q 0, q 1, q 2, q 3, q 4, q 5, hV.lt, r 0, r 1, r 2, r 3, r 4, r 5, hW.lt⟩))
          clear hK K hHeld
          have hHeld := hHeld4
          clear hHeld4
          (try simp only [Act.put, List.setIfInBounds_toArray, List.set_cons_zero, List.set_cons_succ])
          refine wpAnyH_ready (rs := [6]) (by kernel_rfl) (by simp) ?_
          refine (AllReadyH.cons (o := _) (getop rfl) (fun K hK => ?_) AllReadyH.nil)
          obtain ⟨c5, f5⟩ := h5.facts
          have l5 := h5.lt
          go_simp
          clear c5 f5 l5
          replace hV := hV.far (p := ⟨g5, 0, none⟩) (by dsimp only; omega) (.int .i64 v0)
          replace hW := hW.far (p := ⟨g5, 0, none⟩) (by dsimp only; omega) (.int .i64 v0)
          replace h6 := h6.far (p := ⟨g5, 0, none⟩) (by dsimp only; omega) (.int .i64 v0)
          replace h5 := h5.set_ 0 (.int .i64 v0)
          replace hL := lo_set hL (p := ⟨g5, 0, none⟩) (by dsimp only; omega) (.int .i64 v0)
          replace hV := hV.far (p := ⟨g5, 1, none⟩) (by dsimp only; omega) (.int .i64 v1)
          replace hW := hW.far (p := ⟨g5, 1, none⟩) (by dsimp only; omega) (.int .i64 v1)
          replace h6 := h6.far (p := ⟨g5, 1, none⟩) (by dsimp only; omega) (.int .i64 v1)
          replace h5 := h5.set_ 1 (.int .i64 v1)
          replace hL := lo_set hL (p := ⟨g5, 1, none⟩) (by dsimp only; omega) (.int .i64 v1)
          replace hV := hV.far (p := ⟨g5, 2, none⟩) (by dsimp only; omega) (.int .i64 v2)
          replace hW := hW.far (p := ⟨g5, 2, none⟩) (by dsimp only; omega) (.int .i64 v2)
          replace h6 := h6.far (p := ⟨g5, 2, none⟩) (by dsimp only; omega) (.int .i64 v2)
          replace h5 := h5.set_ 2 (.int .i64 v2)
          replace hL := lo_set hL (p := ⟨g5, 2, none⟩) (by dsimp only; omega) (.int .i64 v2)
          replace hV := hV.far (p := ⟨g5, 3, none⟩) (by dsimp only; omega) (.int .i64 v3)
          replace hW := hW.far (p := ⟨g5, 3, none⟩) (by dsimp only; omega) (.int .i64 v3)
          replace h6 := h6.far (p := ⟨g5, 3, none⟩) (by dsimp only; omega) (.int .i64 v3)
          replace h5 := h5.set_ 3 (.int .i64 v3)
          replace hL := lo_set hL (p := ⟨g5, 3, none⟩) (by dsimp only; omega) (.int .i64 v3)
          replace hV := hV.far (p := ⟨g5, 4, none⟩) (by dsimp only; omega) (.int .i64 v4)
          replace hW := hW.far (p := ⟨g5, 4, none⟩) (by dsimp only; omega) (.int .i64 v4)
          replace h6 := h6.far (p := ⟨g5, 4, none⟩) (by dsimp only; omega) (.int .i64 v4)
          replace h5 := h5.set_ 4 (.int .i64 v4)
          replace hL := lo_set hL (p := ⟨g5, 4, none⟩) (by dsimp only; omega) (.int .i64 v4)
          replace hV := hV.far (p := ⟨g5, 5, none⟩) (by dsimp only; omega) (.int .i64 v5)
          replace hW := hW.far (p := ⟨g5, 5, none⟩) (by dsimp only; omega) (.int .i64 v5)
          replace h6 := h6.far (p := ⟨g5, 5, none⟩) (by dsimp only; omega) (.int .i64 v5)
          replace h5 := h5.set_ 5 (.int .i64 v5)
          replace hL := lo_set hL (p := ⟨g5, 5, none⟩) (by dsimp only; omega) (.int .i64 v5)
          replace h5 : Blk ((((((wa3.setCell ⟨g5, 0, none⟩ (.int .i64 v0)).setCell ⟨g5, 1, none⟩ (.int .i64 v1)).setCell ⟨g5, 2, none⟩ (.int .i64 v2)).setCell ⟨g5, 3, none⟩ (.int .i64 v3)).setCell ⟨g5, 4, none⟩ (.int .i64 v4)).setCell ⟨g5, 5, none⟩ (.int .i64 v5)) g5 55 #[.int .i64 v0, .int .i64 v1, .int .i64 v2, .int .i64 v3, .int .i64 v4, .int .i64 v5] := by simpa using h5
          generalize ((((((wa3.setCell ⟨g5, 0, none⟩ (.int .i64 v0)).setCell ⟨g5, 1, none⟩ (.int .i64 v1)).setCell ⟨g5, 2, none⟩ (.int .i64 v2)).setCell ⟨g5, 3, none⟩ (.int .i64 v3)).setCell ⟨g5, 4, none⟩ (.int .i64 v4)).setCell ⟨g5, 5, none⟩ (.int .i64 v5)) = wa4 at hV hW h6 h5 hL ⊢
          refine hK.out _ _ ?_ (fun hHeld6 => ?_)
          focus ((try dsimp only); (have q := hV.facts.1; have r := hW.facts.1; exact ⟨q 0, q 1, q 2, q 3, q 4, q 5, hV.lt, r 0, r 1, r 2, r 3, r 4, r 5, hW.lt⟩))
          clear hK K hHeld
          have hHeld := hHeld6
          clear hHeld6
          (try simp only [Act.put, List.setIfInBounds_toArray, List.set_cons_zero, List.set_cons_succ])
          refine wpAnyH_ready (rs := [7]) (by kernel_rfl) (by simp) ?_
          refine (AllReadyH.cons (o := _) (getop rfl) (fun K hK => ?_) AllReadyH.nil)
          obtain ⟨c6, f6⟩ := h6.facts
          have l6 := h6.lt
          go_simp
          clear c6 f6 l6
          replace hV := hV.far (p := ⟨g6, 0, none⟩) (by dsimp only; omega) (.int .i64 x0)
          replace hW := hW.far (p := ⟨g6, 0, none⟩) (by dsimp only; omega) (.int .i64 x0)
          replace h5 := h5.far (p := ⟨g6, 0, none⟩) (by dsimp only; omega) (.int .i64 x0)
          replace h6 := h6.set_ 0 (.int .i64 x0)
          replace hL := lo_set hL (p := ⟨g6, 0, none⟩) (by dsimp only; omega) (.int .i64 x0)
          replace hV := hV.far (p := ⟨g6, 1, none⟩) (by dsimp only; omega) (.int .i64 x1)
          replace hW := hW.far (p := ⟨g6, 1, none⟩) (by dsimp only; omega) (.int .i64 x1)
          replace h5 := h5.far (p := ⟨g6, 1, none⟩) (by dsimp only; omega) (.int .i64 x1)
          replace h6 := h6.set_ 1 (.int .i64 x1)
          replace hL := lo_set hL (p := ⟨g6, 1, none⟩) (by dsimp only; omega) (.int .i64 x1)
          replace hV := hV.far (p := ⟨g6, 2, none⟩) (by dsimp only; omega) (.int .i64 x2)
          replace hW := hW.far (p := ⟨g6, 2, none⟩) (by dsimp only; omega) (.int .i64 x2)
          replace h5 := h5.far (p := ⟨g6, 2, none⟩) (by dsimp only; omega) (.int .i64 x2)
          replace h6 := h6.set_ 2 (.int .i64 x2)
          replace hL := lo_set hL (p := ⟨g6, 2, none⟩) (by dsimp only; omega) (.int .i64 x2)
          replace hV := hV.far (p := ⟨g6, 3, none⟩) (by dsimp only; omega) (.int .i64 x3)
          replace hW := hW.far (p := ⟨g6, 3, none⟩) (by dsimp only; omega) (.int .i64 x3)
          replace h5 := h5.far (p := ⟨g6, 3, none⟩) (by dsimp only; omega) (.int .i64 x3)
          replace h6 := h6.set_ 3 (.int .i64 x3)
          replace hL := lo_set hL (p := ⟨g6, 3, none⟩) (by dsimp only; omega) (.int .i64 x3)
          replace hV := hV.far (p := ⟨g6, 4, none⟩) (by dsimp only; omega) (.int .i64 x4)
          replace hW := hW.far (p := ⟨g6, 4, none⟩) (by dsimp only; omega) (.int .i64 x4)
          replace h5 := h5.far (p := ⟨g6, 4, none⟩) (by dsimp only; omega) (.int .i64 x4)
          replace h6 := h6.set_ 4 (.int .i64 x4)
          replace hL := lo_set hL (p := ⟨g6, 4, none⟩) (by dsimp only; omega) (.int .i64 x4)
          replace hV := hV.far (p := ⟨g6, 5, none⟩) (by dsimp only; omega) (.int .i64 x5)
          replace hW := hW.far (p := ⟨g6, 5, none⟩) (by dsimp only; omega) (.int .i64 x5)
          replace h5 := h5.far (p := ⟨g6, 5, none⟩) (by dsimp only; omega) (.int .i64 x5)
          replace h6 := h6.set_ 5 (.int .i64 x5)
          replace hL := lo_set hL (p := ⟨g6, 5, none⟩) (by dsimp only; omega) (.int .i64 x5)
          replace h6 : Blk ((((((wa4.setCell ⟨g6, 0, none⟩ (.int .i64 x0)).setCell ⟨g6, 1, none⟩ (.int .i64 x1)).setCell ⟨g6, 2, none⟩ (.int .i64 x2)).setCell ⟨g6, 3, none⟩ (.int .i64 x3)).setCell ⟨g6, 4, none⟩ (.int .i64 x4)).setCell ⟨g6, 5, none⟩ (.int .i64 x5)) g6 55 #[.int .i64 x0, .int .i64 x1, .int .i64 x2, .int .i64 x3, .int .i64 x4, .int .i64 x5] := by simpa using h6
          generalize ((((((wa4.setCell ⟨g6, 0, none⟩ (.int .i64 x0)).setCell ⟨g6, 1, none⟩ (.int .i64 x1)).setCell ⟨g6, 2, none⟩ (.int .i64 x2)).setCell ⟨g6, 3, none⟩ (.int .i64 x3)).setCell ⟨g6, 4, none⟩ (.int .i64 x4)).setCell ⟨g6, 5, none⟩ (.int .i64 x5)) = wa5 at hV hW h6 h5 hL ⊢
          refine hK.out _ _ ?_ (fun hHeld7 => ?_)
          focus ((try dsimp only); (have q := hV.facts.1; have r := hW.facts.1; exact ⟨q 0, q 1, q 2, q 3, q 4, q 5, hV.lt, r 0, r 1, r 2, r 3, r 4, r 5, hW.lt⟩))
          clear hK K hHeld
          have hHeld := hHeld7
          clear hHeld7
          (try simp only [Act.put, List.setIfInBounds_toArray, List.set_cons_zero, List.set_cons_succ])
          refine wpAnyH_done (by kernel_rfl) ?_ _
          go_wp2_with fail
          go_meet
          exact ⟨g5, g6, rfl, rfl, h5, h6, hV, hW, by omega, by omega, hL⟩
        · go_simp
          have h5 := Blk.new wa1 55 #[.int .i64 0, .int .i64 0, .int .i64 0, .int .i64 0, .int .i64 0, .int .i64 0]
          have q5 : w.heap.size + 1 < wa1.heap.size := hW.lt
          have q65 : g6 < wa1.heap.size := h6.lt
          replace hV := hV.alloc (.cells #[.int .i64 0, .int .i64 0, .int .i64 0, .int .i64 0, .int .i64 0, .int .i64 0] 55)
          replace hW := hW.alloc (.cells #[.int .i64 0, .int .i64 0, .int .i64 0, .int .i64 0, .int .i64 0, .int .i64 0] 55)
          replace h6 := h6.alloc (.cells #[.int .i64 0, .int .i64 0, .int .i64 0, .int .i64 0, .int .i64 0, .int .i64 0] 55)
          replace hL := lo_alloc hL (.cells #[.int .i64 0, .int .i64 0, .int .i64 0, .int .i64 0, .int .i64 0, .int .i64 0] 55)
          generalize wa1.heap.size = g5 at h5 q5 q65 ⊢
          generalize wa1.alloc (.cells #[.int .i64 0, .int .i64 0, .int .i64 0, .int .i64 0, .int .i64 0, .int .i64 0] 55) = wa2 at hV hW h6 h5 hL ⊢
          refine hK.out _ _ ?_ (fun hHeld4 => ?_)
          focus ((try dsimp only); (have q := hV.facts.1; have r := hW.facts.1; exact ⟨q 0, q 1, q 2, q 3, q 4, q 5, hV.lt, r 0, r 1, r 2, r 3, r 4, r 5, hW.lt⟩))
          clear hK K hHeld
          have hHeld := hHeld4
          clear hHeld4
          (try simp only [Act.put, List.setIfInBounds_toArray, List.set_cons_zero, List.set_cons_succ])
          refine wpAnyH_ready (rs := [3]) (by kernel_rfl) (by simp) ?_
          refine (AllReadyH.cons (o := _) (getop rfl) (fun K hK => ?_) AllReadyH.nil)
          go_simp
          refine (Hrow_x.out _).mono ?_
          rintro e wa3 ⟨rfl, hb⟩
          replace hV := hV.lo hb
          replace hW := hW.lo hb
          replace h6 := h6.lo hb
          replace h5 := h5.lo hb
          replace hL := lo_trans hL hb
          clear hb
          refine hK.out _ _ ?_ (fun hHeld3 => ?_)
          focus ((try dsimp only); (have q := hV.facts.1; have r := hW.facts.1; exact ⟨q 0, q 1, q 2, q 3, q 4, q 5, hV.lt, r 0, r 1, r 2, r 3, r 4, r 5, hW.lt⟩))
          clear hK K hHeld
          have hHeld := hHeld3
          clear hHeld3
          (try simp only [Act.put, List.setIfInBounds_toArray, List.set_cons_zero, List.set_cons_succ])
          refine wpAnyH_ready (rs := [6]) (by kernel_rfl) (by simp) ?_
          refine (AllReadyH.cons (o := _) (getop rfl) (fun K hK => ?_) AllReadyH.nil)
          obtain ⟨c5, f5⟩ := h5.facts
          have l5 := h5.lt
          go_simp
          clear c5 f5 l5
          replace hV := hV.far (p := ⟨g5, 0, none⟩) (by dsimp only; omega) (.int .i64 v0)
          replace hW := hW.far (p := ⟨g5, 0, none⟩) (by dsimp only; omega) (.int .i64 v0)
          replace h6 := h6.far (p := ⟨g5, 0, none⟩) (by dsimp only; omega) (.int .i64 v0)
          replace h5 := h5.set_ 0 (.int .i64 v0)
          replace hL := lo_set hL (p := ⟨g5, 0, none⟩) (by dsimp only; omega) (.int .i64 v0)
          replace hV := hV.far (p := ⟨g5, 1, none⟩) (by dsimp only; omega) (.int .i64 v1)
          replace hW := hW.far (p := ⟨g5, 1, none⟩) (by dsimp only; omega) (.int .i64 v1)
          replace h6 := h6.far (p := ⟨g5, 1, none⟩) (by dsimp only; omega) (.int .i64 v1)
          replace h5 := h5.set_ 1 (.int .i64 v1)
          replace hL := lo_set hL (p := ⟨g5, 1, none⟩) (by dsimp only; omega) (.int .i64 v1)
          replace hV := hV.far (p := ⟨g5, 2, none⟩) (by dsimp only; omega) (.int .i64 v2)
          replace hW := hW.far (p := ⟨g5, 2, none⟩) (by dsimp only; omega) (.int .i64 v2)
          replace h6 := h6.far (p := ⟨g5, 2, none⟩) (by dsimp only; omega) (.int .i64 v2)
          replace h5 := h5.set_ 2 (.int .i64 v2)
          replace hL := lo_set hL (p := ⟨g5, 2, none⟩) (by dsimp only; omega) (.int .i64 v2)
          replace hV := hV.far (p := ⟨g5, 3, none⟩) (by dsimp only; omega) (.int .i64 v3)
          replace hW := hW.far (p := ⟨g5, 3, none⟩) (by dsimp only; omega) (.int .i64 v3)
          replace h6 := h6.far (p := ⟨g5, 3, none⟩) (by dsimp only; omega) (.int .i64 v3)
          replace h5 := h5.set_ 3 (.int .i64 v3)
          replace hL := lo_set hL (p := ⟨g5, 3, none⟩) (by dsimp only; omega) (.int .i64 v3)
          replace hV := hV.far (p := ⟨g5, 4, none⟩) (by dsimp only; omega) (.int .i64 v4)
          replace hW := hW.far (p := ⟨g5, 4, none⟩) (by dsimp only; omega) (.int .i64 v4)
          replace h6 := h6.far (p := ⟨g5, 4, none⟩) (by dsimp only; omega) (.int .i64 v4)
          replace h5 := h5.set_ 4 (.int .i64 v4)
          replace hL := lo_set hL (p := ⟨g5, 4, none⟩) (by dsimp only; omega) (.int .i64 v4)
          replace hV := hV.far (p := ⟨g5, 5, none⟩) (by dsimp only; omega) (.int .i64 v5)
          replace hW := hW.far (p := ⟨g5, 5, none⟩) (by dsimp only; omega) (.int .i64 v5)
          replace h6 := h6.far (p := ⟨g5, 5, none⟩) (by dsimp only; omega) (.int .i64 v5)
          replace h5 := h5.set_ 5 (.int .i64 v5)
          replace hL := lo_set hL (p := ⟨g5, 5, none⟩) (by dsimp only; omega) (.int .i64 v5)
          replace h5 : Blk ((((((wa3.setCell ⟨g5, 0, none⟩ (.int .i64 v0)).setCell ⟨g5, 1, none⟩ (.int .i64 v1)).setCell ⟨g5, 2, none⟩ (.int .i64 v2)).setCell ⟨g5, 3, none⟩ (.int .i64 v3)).setCell ⟨g5, 4, none⟩ (.int .i64 v4)).setCell ⟨g5, 5, none⟩ (.int .i64 v5)) g5 55 #[.int .i64 v0, .int .i64 v1, .int .i64 v2, .int .i64 v3, .int .i64 v4, .int .i64 v5] := by simpa using h5
          generalize ((((((wa3.setCell ⟨g5, 0, none⟩ (.int .i64 v0)).setCell ⟨g5, 1, none⟩ (.int .i64 v1)).setCell ⟨g5, 2, none⟩ (.int .i64 v2)).setCell ⟨g5, 3, none⟩ (.int .i64 v3)).setCell ⟨g5, 4, none⟩ (.int .i64 v4)).setCell ⟨g5, 5, none⟩ (.int .i64 v5)) = wa4 at hV hW h6 h5 hL ⊢
          refine hK.out _ _ ?_ (fun hHeld6 => ?_)
          focus ((try dsimp only); (have q := hV.facts.1; have r := hW.facts.1; exact ⟨q 0, q 1, q 2, q 3, q 4, q 5, hV.lt, r 0, r 1, r 2, r 3, r 4, r 5, hW.lt⟩))
          clear hK K hHeld
          have hHeld := hHeld6
          clear hHeld6
          (try simp only [Act.put, List.setIfInBounds_toArray, List.set_cons_zero, List.set_cons_succ])
          refine wpAnyH_ready (rs := [7]) (by kernel_rfl) (by simp) ?_
          refine (AllReadyH.cons (o := _) (getop rfl) (fun K hK => ?_) AllReadyH.nil)
          obtain ⟨c6, f6⟩ := h6.facts
          have l6 := h6.lt
          go_simp
          clear c6 f6 l6
          replace hV := hV.far (p := ⟨g6, 0, none⟩) (by dsimp only; omega) (.int .i64 x0)
          replace hW := hW.far (p := ⟨g6, 0, none⟩) (by dsimp only; omega) (.int .i64 x0)
          replace h5 := h5.far (p := ⟨g6, 0, none⟩) (by dsimp only; omega) (.int .i64 x0)
          replace h6 := h6.set_ 0 (.int .i64 x0)
          replace hL := lo_set hL (p := ⟨g6, 0, none⟩) (by dsimp only; omega) (.int .i64 x0)
          replace hV := hV.far (p := ⟨g6, 1, none⟩) (by dsimp only; omega) (.int .i64 x1)
          replace hW := hW.far (p := ⟨g6, 1, none⟩) (by dsimp only; omega) (.int .i64 x1)
          replace h5 := h5.far (p := ⟨g6, 1, none⟩) (by dsimp only; omega) (.int .i64 x1)
          replace h6 := h6.set_ 1 (.int .i64 x1)
          replace hL := lo_set hL (p := ⟨g6, 1, none⟩) (by dsimp only; omega) (.int .i64 x1)
          replace hV := hV.far (p := ⟨g6, 2, none⟩) (by dsimp only; omega) (.int .i64 x2)
          replace hW := hW.far (p := ⟨g6, 2, none⟩) (by dsimp only; omega) (.int .i64 x2)
          replace h5 := h5.far (p := ⟨g6, 2, none⟩) (by dsimp only; omega) (.int .i64 x2)
          replace h6 := h6.set_ 2 (.int .i64 x2)
          replace hL := lo_set hL (p := ⟨g6, 2, none⟩) (by dsimp only; omega) (.int .i64 x2)
          replace hV := hV.far (p := ⟨g6, 3, none⟩) (by dsimp only; omega) (.int .i64 x3)
          replace hW := hW.far (p := ⟨g6, 3, none⟩) (by dsimp only; omega) (.int .i64 x3)
          replace h5 := h5.far (p := ⟨g6, 3, none⟩) (by dsimp only; omega) (.int .i64 x3)
          replace h6 := h6.set_ 3 (.int .i64 x3)
          replace hL := lo_set hL (p := ⟨g6, 3, none⟩) (by dsimp only; omega) (.int .i64 x3)
          replace hV := hV.far (p := ⟨g6, 4, none⟩) (by dsimp only; omega) (.int .i64 x4)
          replace hW := hW.far (p := ⟨g6, 4, none⟩) (by dsimp only; omega) (.int .i64 x4)
          replace h5 := h5.far (p := ⟨g6, 4, none⟩) (by dsimp only; omega) (.int .i64 x4)
          replace h6 := h6.set_ 4 (.int .i64 x4)
          replace hL := lo_set hL (p := ⟨g6, 4, none⟩) (by dsimp only; omega) (.int .i64 x4)
          replace hV := hV.far (p := ⟨g6, 5, none⟩) (by dsimp only; omega) (.int .i64 x5)
          replace hW := hW.far (p := ⟨g6, 5, none⟩) (by dsimp only; omega) (.int .i64 x5)
          replace h5 := h5.far (p := ⟨g6, 5, none⟩) (by dsimp only; omega) (.int .i64 x5)
          replace h6 := h6.set_ 5 (.int .i64 x5)
          replace hL := lo_set hL (p := ⟨g6, 5, none⟩) (by dsimp only; omega) (.int .i64 x5)
          replace h6 : Blk ((((((wa4.setCell ⟨g6, 0, none⟩ (.int .i64 x0)).setCell ⟨g6, 1, none⟩ (.int .i64 x1)).setCell ⟨g6, 2, none⟩ (.int .i64 x2)).setCell ⟨g6, 3, none⟩ (.int .i64 x3)).setCell ⟨g6, 4, none⟩ (.int .i64 x4)).setCell ⟨g6, 5, none⟩ (.int .i64 x5)) g6 55 #[.int .i64 x0, .int .i64 x1, .int .i64 x2, .int .i64 x3, .int .i64 x4, .int .i64 x5] := by simpa using h6
          generalize ((((((wa4.setCell ⟨g6, 0, none⟩ (.int .i64 x0)).setCell ⟨g6, 1, none⟩ (.int .i64 x1)).setCell ⟨g6, 2, none⟩ (.int .i64 x2)).setCell ⟨g6, 3, none⟩ (.int .i64 x3)).setCell ⟨g6, 4, none⟩ (.int .i64 x4)).setCell ⟨g6, 5, none⟩ (.int .i64 x5)) = wa5 at hV hW h6 h5 hL ⊢
          refine hK.out _ _ ?_ (fun hHeld7 => ?_)
          focus ((try dsimp only); (have q := hV.facts.1; have r := hW.facts.1; exact ⟨q 0, q 1, q 2, q 3, q 4, q 5, hV.lt, r 0, r 1, r 2, r 3, r 4, r 5, hW.lt⟩))
          clear hK K hHeld
          have hHeld := hHeld7
          clear hHeld7
          (try simp only [Act.put, List.setIfInBounds_toArray, List.set_cons_zero, List.set_cons_succ])
          refine wpAnyH_done (by kernel_rfl) ?_ _
          go_wp2_with fail
          go_meet
          exact ⟨g5, g6, rfl, rfl, h5, h6, hV, hW, by omega, by omega, hL⟩
    · go_simp
      have h5 := Blk.new wd 55 #[.int .i64 0, .int .i64 0, .int .i64 0, .int .i64 0, .int .i64 0, .int .i64 0]
      have q5 : w.heap.size + 1 < wd.heap.size := hW.lt
      replace hV := hV.alloc (.cells #[.int .i64 0, .int .i64 0, .int .i64 0, .int .i64 0, .int .i64 0, .int .i64 0] 55)
      replace hW := hW.alloc (.cells #[.int .i64 0, .int .i64 0, .int .i64 0, .int .i64 0, .int .i64 0, .int .i64 0] 55)
      replace hL := lo_alloc hL (.cells #[.int .i64 0, .int .i64 0, .int .i64 0, .int .i64 0, .int .i64 0, .int .i64 0] 55)
      generalize wd.heap.size = g5 at h5 q5 ⊢
      generalize wd.alloc (.cells #[.int .i64 0, .int .i64 0, .int .i64 0, .int .i64 0, .int .i64 0, .int .i64 0] 55) = wa0 at hV hW h5 hL ⊢
      refine hK.out _ _ ?_ (fun hHeld4 => ?_)
      focus ((try dsimp only); (have q := hV.facts.1; have r := hW.facts.1; exact ⟨q 0, q 1, q 2, q 3, q 4, q 5, hV.lt, r 0, r 1, r 2, r 3, r 4, r 5, hW.lt⟩))
      clear hK K hHeld
      have hHeld := hHeld4
      clear hHeld4
      (try simp only [Act.put, List.setIfInBounds_toArray, List.set_cons_zero, List.set_cons_succ])
      refine wpAnyH_ready (rs := [1, 5]) (by kernel_rfl) (by simp) ?_
      refine (AllReadyH.cons (o := _) (getop rfl) (fun K hK => ?_) (AllReadyH.cons (o := _) (getop rfl) (fun K hK => ?_) AllReadyH.nil))
      · go_simp
        refine (Hrow_v.out _).mono ?_
        rintro e wa1 ⟨rfl, hb⟩
        replace hV := hV.lo hb
        replace hW := hW.lo hb
        replace h5 := h5.lo hb
        replace hL := lo_trans hL hb
        clear hb
        refine hK.out _ _ ?_ (fun hHeld1 => ?_)
        focus ((try dsimp only); (have q := hV.facts.1; have r := hW.facts.1; exact ⟨q 0, q 1, q 2, q 3, q 4, q 5, hV.lt, r 0, r 1, r 2, r 3, r 4, r 5, hW.lt⟩))
        clear hK K hHeld
        have hHeld := hHeld1
        clear hHeld1
        (try simp only [Act.put, List.setIfInBounds_toArray, List.set_cons_zero, List.set_cons_succ])
        refine wpAnyH_ready (rs := [3, 5]) (by kernel_rfl) (by simp) ?_
        refine (AllReadyH.cons (o := _) (getop rfl) (fun K hK => ?_) (AllReadyH.cons (o := _) (getop rfl) (fun K hK => ?_) AllReadyH.nil))
        · go_simp
          refine (Hrow_x.out _).mono ?_
          rintro e wa2 ⟨rfl, hb⟩
          replace hV := hV.lo hb
          replace hW := hW.lo hb
          replace h5 := h5.lo hb
          replace hL := lo_trans hL hb
          clear hb
          refine hK.out _ _ ?_ (fun hHeld3 => ?_)
          focus ((try dsimp only); (have q := hV.facts.1; have r := hW.facts.1; exact ⟨q 0, q 1, q 2, q 3, q 4, q 5, hV.lt, r 0, r 1, r 2, r 3, r 4, r 5, hW.lt⟩))
          clear hK K hHeld
          have hHeld := hHeld3
          clear hHeld3
          (try simp only [Act.put, List.setIfInBounds_toArray, List.set_cons_zero, List.set_cons_succ])
          refine wpAnyH_ready (rs := [5]) (by kernel_rfl) (by simp) ?_
          refine (AllReadyH.cons (o := _) (getop rfl) (fun K hK => ?_) AllReadyH.nil)
          go_simp
          have h6 := Blk.new wa2 55 #[.int .i64 0, .int .i64 0, .int .i64 0, .int .i64 0, .int .i64 0, .int .i64 0]
          have q6 : w.heap.size + 1 < wa2.heap.size := hW.lt
          have q56 : g5 < wa2.heap.size := h5.lt
          replace hV := hV.alloc (.cells #[.int .i64 0, .int .i64 0, .int .i64 0, .int .i64 0, .int .i64 0, .int .i64 0] 55)
          replace hW := hW.alloc (.cells #[.int .i64 0, .int .i64 0, .int .i64 0, .int .i64 0, .int .i64 0, .int .i64 0] 55)
          replace h5 := h5.alloc (.cells #[.int .i64 0, .int .i64 0, .int .i64 0, .int .i64 0, .int .i64 0, .int .i64 0] 55)
          replace hL := lo_alloc hL (.cells #[.int .i64 0, .int .i64 0, .int .i64 0, .int .i64 0, .int .i64 0, .int .i64 0] 55)
          generalize wa2.heap.size = g6 at h6 q6 q56 ⊢
          generalize wa2.alloc (.cells #[.int .i64 0, .int .i64 0, .int .i64 0, .int .i64 0, .int .i64 0, .int .i64 0] 55) = wa3 at hV hW h5 h6 hL ⊢
          refine hK.out _ _ ?_ (fun hHeld5 => ?_)
          focus ((try dsimp only); (have q := hV.facts.1; have r := hW.facts.1; exact ⟨q 0, q 1, q 2, q 3, q 4, q 5, hV.lt, r 0, r 1, r 2, r 3, r 4, r 5, hW.lt⟩))
          clear hK K hHeld
          have hHeld := hHeld5
          clear hHeld5
          (try simp only [Act.put, List.setIfInBounds_toArray, List.set_cons_zero, List.set_cons_succ])
          refine wpAnyH_ready (rs := [6]) (by kernel_rfl) (by simp) ?_
          refine (AllReadyH.cons (o := _) (getop rfl) (fun K hK => ?_) AllReadyH.nil)
          obtain ⟨c5, f5⟩ := h5.facts
          have l5 := h5.lt
          go_simp
          clear c5 f5 l5
          replace hV := hV.far (p := ⟨g5, 0, none⟩) (by dsimp only; omega) (.int .i64 v0)
          replace hW := hW.far (p := ⟨g5, 0, none⟩) (by dsimp only; omega) (.int .i64 v0)
          replace h6 := h6.far (p := ⟨g5, 0, none⟩) (by dsimp only; omega) (.int .i64 v0)
          replace h5 := h5.set_ 0 (.int .i64 v0)
          replace hL := lo_set hL (p := ⟨g5, 0, none⟩) (by dsimp only; omega) (.int .i64 v0)
          replace hV := hV.far (p := ⟨g5, 1, none⟩) (by dsimp only; omega) (.int .i64 v1)
          replace hW := hW.far (p := ⟨g5, 1, none⟩) (by dsimp only; omega) (.int .i64 v1)
          replace h6 := h6.far (p := ⟨g5, 1, none⟩) (by dsimp only; omega) (.int .i64 v1)
          replace h5 := h5.set_ 1 (.int .i64 v1)
          replace hL := lo_set hL (p := ⟨g5, 1, none⟩) (by dsimp only; omega) (.int .i64 v1)
          replace hV := hV.far (p := ⟨g5, 2, none⟩) (by dsimp only; omega) (.int .i64 v2)
          replace hW := hW.far (p := ⟨g5, 2, none⟩) (by dsimp only; omega) (.int .i64 v2)
          replace h6 := h6.far (p := ⟨g5, 2, none⟩) (by dsimp only; omega) (.int .i64 v2)
          replace h5 := h5.set_ 2 (.int .i64 v2)
          replace hL := lo_set hL (p := ⟨g5, 2, none⟩) (by dsimp only; omega) (.int .i64 v2)
          replace hV := hV.far (p := ⟨g5, 3, none⟩) (by dsimp only; omega) (.int .i64 v3)
          replace hW := hW.far (p := ⟨g5, 3, none⟩) (by dsimp only; omega) (.int .i64 v3)
          replace h6 := h6.far (p := ⟨g5, 3, none⟩) (by dsimp only; omega) (.int .i64 v3)
          replace h5 := h5.set_ 3 (.int .i64 v3)
          replace hL := lo_set hL (p := ⟨g5, 3, none⟩) (by dsimp only; omega) (.int .i64 v3)
          replace hV := hV.far (p := ⟨g5, 4, none⟩) (by dsimp only; omega) (.int .i64 v4)
          replace hW := hW.far (p := ⟨g5, 4, none⟩) (by dsimp only; omega) (.int .i64 v4)
          replace h6 := h6.far (p := ⟨g5, 4, none⟩) (by dsimp only; omega) (.int .i64 v4)
          replace h5 := h5.set_ 4 (.int .i64 v4)
          replace hL := lo_set hL (p := ⟨g5, 4, none⟩) (by dsimp only; omega) (.int .i64 v4)
          replace hV := hV.far (p := ⟨g5, 5, none⟩) (by dsimp only; omega) (.int .i64 v5)
          replace hW := hW.far (p := ⟨g5, 5, none⟩) (by dsimp only; omega) (.int .i64 v5)
          replace h6 := h6.far (p := ⟨g5, 5, none⟩) (by dsimp only; omega) (.int .i64 v5)
          replace h5 := h5.set_ 5 (.int .i64 v5)
          replace hL := lo_set hL (p := ⟨g5, 5, none⟩) (by dsimp only; omega) (.int .i64 v5)
          replace h5 : Blk ((((((wa3.setCell ⟨g5, 0, none⟩ (.int .i64 v0)).setCell ⟨g5, 1, none⟩ (.int .i64 v1)).setCell ⟨g5, 2, none⟩ (.int .i64 v2)).setCell ⟨g5, 3, none⟩ (.int .i64 v3)).setCell ⟨g5, 4, none⟩ (.int .i64 v4)).setCell ⟨g5, 5, none⟩ (.int .i64 v5)) g5 55 #[.int .i64 v0, .int .i64 v1, .int .i64 v2, .int .i64 v3, .int .i64 v4, .int .i64 v5] := by simpa using h5
          generalize ((((((wa3.setCell ⟨g5, 0, none⟩ (.int .i64 v0)).setCell ⟨g5, 1, none⟩ (.int .i64 v1)).setCell ⟨g5, 2, none⟩ (.int .i64 v2)).setCell ⟨g5, 3, none⟩ (.int .i64 v3)).setCell ⟨g5, 4, none⟩ (.int .i64 v4)).setCell ⟨g5, 5, none⟩ (.int .i64 v5)) = wa4 at hV hW h5 h6 hL ⊢
          refine hK.out _ _ ?_ (fun hHeld6 => ?_)
          focus ((try dsimp only); (have q := hV.facts.1; have r := hW.facts.1; exact ⟨q 0, q 1, q 2, q 3, q 4, q 5, hV.lt, r 0, r 1, r 2, r 3, r 4, r 5, hW.lt⟩))
          clear hK K hHeld
          have hHeld := hHeld6
          clear hHeld6
          (try simp only [Act.put, List.setIfInBounds_toArray, List.set_cons_zero, List.set_cons_succ])
          refine wpAnyH_ready (rs := [7]) (by kernel_rfl) (by simp) ?_
          refine (AllReadyH.cons (o := _) (getop rfl) (fun K hK => ?_) AllReadyH.nil)
          obtain ⟨c6, f6⟩ := h6.facts
          have l6 := h6.lt
          go_simp
          clear c6 f6 l6
          replace hV := hV.far (p := ⟨g6, 0, none⟩) (by dsimp only; omega) (.int .i64 x0)
          replace hW := hW.far (p := ⟨g6, 0, none⟩) (by dsimp only; omega) (.int .i64 x0)
          replace h5 := h5.far (p := ⟨g6, 0, none⟩) (by dsimp only; omega) (.int .i64 x0)
          replace h6 := h6.set_ 0 (.int .i64 x0)
          replace hL := lo_set hL (p := ⟨g6, 0, none⟩) (by dsimp only; omega) (.int .i64 x0)
          replace hV := hV.far (p := ⟨g6, 1, none⟩) (by dsimp only; omega) (.int .i64 x1)
          replace hW := hW.far (p := ⟨g6, 1, none⟩) (by dsimp only; omega) (.int .i64 x1)
          replace h5 := h5.far (p := ⟨g6, 1, none⟩) (by dsimp only; omega) (.int .i64 x1)
          replace h6 := h6.set_ 1 (.int .i64 x1)
          replace hL := lo_set hL (p := ⟨g6, 1, none⟩) (by dsimp only; omega) (.int .i64 x1)
          replace hV := hV.far (p := ⟨g6, 2, none⟩) (by dsimp only; omega) (.int .i64 x2)
          replace hW := hW.far (p := ⟨g6, 2, none⟩) (by dsimp only; omega) (.int .i64 x2)
          replace h5 := h5.far (p := ⟨g6, 2, none⟩) (by dsimp only; omega) (.int .i64 x2)
          replace h6 := h6.set_ 2 (.int .i64 x2)
          replace hL := lo_set hL (p := ⟨g6, 2, none⟩) (by dsimp only; omega) (.int .i64 x2)
          replace hV := hV.far (p := ⟨g6, 3, none⟩) (by dsimp only; omega) (.int .i64 x3)
          replace hW := hW.far (p := ⟨g6, 3, none⟩) (by dsimp only; omega) (.int .i64 x3)
          replace h5 := h5.far (p := ⟨g6, 3, none⟩) (by dsimp only; omega) (.int .i64 x3)
          replace h6 := h6.set_ 3 (.int .i64 x3)
          replace hL := lo_set hL (p := ⟨g6, 3, none⟩) (by dsimp only; omega) (.int .i64 x3)
          replace hV := hV.far (p := ⟨g6, 4, none⟩) (by dsimp only; omega) (.int .i64 x4)
          replace hW := hW.far (p := ⟨g6, 4, none⟩) (by dsimp only; omega) (.int .i64 x4)
          replace h5 := h5.far (p := ⟨g6, 4, none⟩) (by dsimp only; omega) (.int .i64 x4)
          replace h6 := h6.set_ 4 (.int .i64 x4)
          replace hL := lo_set hL (p := ⟨g6, 4, none⟩) (by dsimp only; omega) (.int .i64 x4)
          replace hV := hV.far (p := ⟨g6, 5, none⟩) (by dsimp only; omega) (.int .i64 x5)
          replace hW := hW.far (p := ⟨g6, 5, none⟩) (by dsimp only; omega) (.int .i64 x5)
          replace h5 := h5.far (p := ⟨g6, 5, none⟩) (by dsimp only; omega) (.int .i64 x5)
          replace h6 := h6.set_ 5 (.int .i64 x5)
          replace hL := lo_set hL (p := ⟨g6, 5, none⟩) (by dsimp only; omega) (.int .i64 x5)
          replace h6 : Blk ((((((wa4.setCell ⟨g6, 0, none⟩ (.int .i64 x0)).setCell ⟨g6, 1, none⟩ (.int .i64 x1)).setCell ⟨g6, 2, none⟩ (.int .i64 x2)).setCell ⟨g6, 3, none⟩ (.int .i64 x3)).setCell ⟨g6, 4, none⟩ (.int .i64 x4)).setCell ⟨g6, 5, none⟩ (.int .i64 x5)) g6 55 #[.int .i64 x0, .int .i64 x1, .int .i64 x2, .int .i64 x3, .int .i64 x4, .int .i64 x5] := by simpa using h6
          generalize ((((((wa4.setCell ⟨g6, 0, none⟩ (.int .i64 x0)).setCell ⟨g6, 1, none⟩ (.int .i64 x1)).setCell ⟨g6, 2, none⟩ (.int .i64 x2)).setCell ⟨g6, 3, none⟩ (.int .i64 x3)).setCell ⟨g6, 4, none⟩ (.int .i64 x4)).setCell ⟨g6, 5, none⟩ (.int .i64 x5)) = wa5 at hV hW h5 h6 hL ⊢
          refine hK.out _ _ ?_ (fun hHeld7 => ?_)
          focus ((try dsimp only); (have q := hV.facts.1; have r := hW.facts.1; exact ⟨q 0, q 1, q 2, q 3, q 4, q 5, hV.lt, r 0, r 1, r 2, r 3, r 4, r 5, hW.lt⟩))
          clear hK K hHeld
          have hHeld := hHeld7
          clear hHeld7
          (try simp only [Act.put, List.setIfInBounds_toArray, List.set_cons_zero, List.set_cons_succ])
          refine wpAnyH_done (by kernel_rfl) ?_ _
          go_wp2_with fail
          go_meet
          exact ⟨g5, g6, rfl, rfl, h5, h6, hV, hW, by omega, by omega, hL⟩
        · go_simp
          have h6 := Blk.new wa1 55 #[.int .i64 0, .int .i64 0, .int .i64 0, .int .i64 0, .int .i64 0, .int .i64 0]
          have q6 : w.heap.size + 1 < wa1.heap.size := hW.lt
          have q56 : g5 < wa1.heap.size := h5.lt
          replace hV := hV.alloc (.cells #[.int .i64 0, .int .i64 0, .int .i64 0, .int .i64 0, .int .i64 0, .int .i64 0] 55)
          replace hW := hW.alloc (.cells #[.int .i64 0, .int .i64 0, .int .i64 0, .int .i64 0, .int .i64 0, .int .i64 0] 55)
          replace h5 := h5.alloc (.cells #[.int .i64 0, .int .i64 0, .int .i64 0, .int .i64 0, .int .i64 0, .int .i64 0] 55)
          replace hL := lo_alloc hL (.cells #[.int .i64 0, .int .i64 0, .int .i64 0, .int .i64 0, .int .i64 0, .int .i64 0] 55)
          generalize wa1.heap.size = g6 at h6 q6 q56 ⊢
          generalize wa1.alloc (.cells #[.int .i64 0, .int .i64 0, .int .i64 0, .int .i64 0, .int .i64 0, .int .i64 0] 55) = wa2 at hV hW h5 h6 hL ⊢
          refine hK.out _ _ ?_ (fun hHeld5 => ?_)
          focus ((try dsimp only); (have q := hV.facts.1; have r := hW.facts.1; exact ⟨q 0, q 1, q 2, q 3, q 4, q 5, hV.lt, r 0, r 1, r 2, r 3, r 4, r 5, hW.lt⟩))
          clear hK K hHeld
          have hHeld := hHeld5
          clear hHeld5
          (try simp only [Act.put, List.setIfInBounds_toArray, List.set_cons_zero, List.set_cons_succ])
          refine wpAnyH_ready (rs := [3]) (by kernel_rfl) (by simp) ?_
          refine (AllReadyH.cons (o := _) (getop rfl) (fun K hK => ?_) AllReadyH.nil)
          go_simp
          refine (Hrow_x.out _).mono ?_
          rintro e wa3 ⟨rfl, hb⟩
          replace hV := hV.lo hb
          replace hW := hW.lo hb
          replace h5 := h5.lo hb
          replace h6 := h6.lo hb
          replace hL := lo_trans hL hb
          clear hb
          refine hK.out _ _ ?_ (fun hHeld3 => ?_)
          focus ((try dsimp only); (have q := hV.facts.1; have r := hW.facts.1; exact ⟨q 0, q 1, q 2, q 3, q 4, q 5, hV.lt, r 0, r 1, r 2, r 3, r 4, r 5, hW.lt⟩))
          clear hK K hHeld
          have hHeld := hHeld3
          clear hHeld3
          (try simp only [Act.put, List.setIfInBounds_toArray, List.set_cons_zero, List.set_cons_succ])
          refine wpAnyH_ready (rs := [6]) (by kernel_rfl) (by simp) ?_
          refine (AllReadyH.cons (o := _) (getop rfl) (fun K hK => ?_) AllReadyH.nil)
          obtain ⟨c5, f5⟩ := h5.facts
          have l5 := h5.lt
          go_simp
          clear c5 f5 l5
          replace hV := hV.far (p := ⟨g5, 0, none⟩) (by dsimp only; omega) (.int .i64 v0)
          replace hW := hW.far (p := ⟨g5, 0, none⟩) (by dsimp only; omega) (.int .i64 v0)
          replace h6 := h6.far (p := ⟨g5, 0, none⟩) (by dsimp only; omega) (.int .i64 v0)
          replace h5 := h5.set_ 0 (.int .i64 v0)
          replace hL := lo_set hL (p := ⟨g5, 0, none⟩) (by dsimp only; omega) (.int .i64 v0)
          replace hV := hV.far (p := ⟨g5, 1, none⟩) (by dsimp only; omega) (.int .i64 v1)
          replace hW := hW.far (p := ⟨g5, 1, none⟩) (by dsimp only; omega) (.int .i64 v1)
          replace h6 := h6.far (p := ⟨g5, 1, none⟩) (by dsimp only; omega) (.int .i64 v1)
          replace h5 := h5.set_ 1 (.int .i64 v1)
          replace hL := lo_set hL (p := ⟨g5, 1, none⟩) (by dsimp only; omega) (.int .i64 v1)
          replace hV := hV.far (p := ⟨g5, 2, none⟩) (by dsimp only; omega) (.int .i64 v2)
          replace hW := hW.far (p := ⟨g5, 2, none⟩) (by dsimp only; omega) (.int .i64 v2)
          replace h6 := h6.far (p := ⟨g5, 2, none⟩) (by dsimp only; omega) (.int .i64 v2)
          replace h5 := h5.set_ 2 (.int .i64 v2)
          replace hL := lo_set hL (p := ⟨g5, 2, none⟩) (by dsimp only; omega) (.int .i64 v2)
          replace hV := hV.far (p := ⟨g5, 3, none⟩) (by dsimp only; omega) (.int .i64 v3)
          replace hW := hW.far (p := ⟨g5, 3, none⟩) (by dsimp only; omega) (.int .i64 v3)
          replace h6 := h6.far (p := ⟨g5, 3, none⟩) (by dsimp only; omega) (.int .i64 v3)
          replace h5 := h5.set_ 3 (.int .i64 v3)
          replace hL := lo_set hL (p := ⟨g5, 3, none⟩) (by dsimp only; omega) (.int .i64 v3)
          replace hV := hV.far (p := ⟨g5, 4, none⟩) (by dsimp only; omega) (.int .i64 v4)
          replace hW := hW.far (p := ⟨g5, 4, none⟩) (by dsimp only; omega) (.int .i64 v4)
          replace h6 := h6.far (p := ⟨g5, 4, none⟩) (by dsimp only; omega) (.int .i64 v4)
          replace h5 := h5.set_ 4 (.int .i64 v4)
          replace hL := lo_set hL (p := ⟨g5, 4, none⟩) (by dsimp only; omega) (.int .i64 v4)
          replace hV := hV.far (p := ⟨g5, 5, none⟩) (by dsimp only; omega) (.int .i64 v5)
          replace hW := hW.far (p := ⟨g5, 5, none⟩) (by dsimp only; omega) (.int .i64 v5)
          replace h6 := h6.far (p := ⟨g5, 5, none⟩) (by dsimp only; omega) (.int .i64 v5)
          replace h5 := h5.set_ 5 (.int .i64 v5)
          replace hL := lo_set hL (p := ⟨g5, 5, none⟩) (by dsimp only; omega) (.int .i64 v5)
          replace h5 : Blk ((((((wa3.setCell ⟨g5, 0, none⟩ (.int .i64 v0)).setCell ⟨g5, 1, none⟩ (.int .i64 v1)).setCell ⟨g5, 2, none⟩ (.int .i64 v2)).setCell ⟨g5, 3, none⟩ (.int .i64 v3)).setCell ⟨g5, 4, none⟩ (.int .i64 v4)).setCell ⟨g5, 5, none⟩ (.int .i64 v5)) g5 55 #[.int .i64 v0, .int .i64 v1, .int .i64 v2, .int .i64 v3, .int .i64 v4, .int .i64 v5] := by simpa using h5
          generalize ((((((wa3.setCell ⟨g5, 0, none⟩ (.int .i64 v0)).setCell ⟨g5, 1, none⟩ (.int .i64 v1)).setCell ⟨g5, 2, none⟩ (.int .i64 v2)).setCell ⟨g5, 3, none⟩ (.int .i64 v3)).setCell ⟨g5, 4, none⟩ (.int .i64 v4)).setCell ⟨g5, 5, none⟩ (.int .i64 v5)) = wa4 at hV hW h5 h6 hL ⊢
          refine hK.out _ _ ?_ (fun hHeld6 => ?_)
          focus ((try dsimp only); (have q := hV.facts.1; have r := hW.facts.1; exact ⟨q 0, q 1, q 2, q 3, q 4, q 5, hV.lt, r 0, r 1, r 2, r 3, r 4, r 5, hW.lt⟩))
          clear hK K hHeld
          have hHeld := hHeld6
          clear hHeld6
          (try simp only [Act.put, List.setIfInBounds_toArray, List.set_cons_zero, List.set_cons_succ])
          refine wpAnyH_ready (rs := [7]) (by kernel_rfl) (by simp) ?_
          refine (AllReadyH.cons (o := _) (getop rfl) (fun K hK => ?_) AllReadyH.nil)
          obtain ⟨c6, f6⟩ := h6.facts
          have l6 := h6.lt
          go_simp
          clear c6 f6 l6
          replace hV := hV.far (p := ⟨g6, 0, none⟩) (by dsimp only; omega) (.int .i64 x0)
          replace hW := hW.far (p := ⟨g6, 0, none⟩) (by dsimp only; omega) (.int .i64 x0)
          replace h5 := h5.far (p := ⟨g6, 0, none⟩) (by dsimp only; omega) (.int .i64 x0)
          replace h6 := h6.set_ 0 (.int .i64 x0)
          replace hL := lo_set hL (p := ⟨g6, 0, none⟩) (by dsimp only; omega) (.int .i64 x0)
          replace hV := hV.far (p := ⟨g6, 1, none⟩) (by dsimp only; omega) (.int .i64 x1)
          replace hW := hW.far (p := ⟨g6, 1, none⟩) (by dsimp only; omega) (.int .i64 x1)
          replace h5 := h5.far (p := ⟨g6, 1, none⟩) (by dsimp only; omega) (.int .i64 x1)
          replace h6 := h6.set_ 1 (.int .i64 x1)
          replace hL := lo_set hL (p := ⟨g6, 1, none⟩) (by dsimp only; omega) (.int .i64 x1)
          replace hV := hV.far (p := ⟨g6, 2, none⟩) (by dsimp only; omega) (.int .i64 x2)
          replace hW := hW.far (p := ⟨g6, 2, none⟩) (by dsimp only; omega) (.int .i64 x2)
          replace h5 := h5.far (p := ⟨g6, 2, none⟩) (by dsimp only; omega) (.int .i64 x2)
          replace h6 := h6.set_ 2 (.int .i64 x2)
          replace hL := lo_set hL (p := ⟨g6, 2, none⟩) (by dsimp only; omega) (.int .i64 x2)
          replace hV := hV.far (p := ⟨g6, 3, none⟩) (by dsimp only; omega) (.int .i64 x3)
          replace hW := hW.far (p := ⟨g6, 3, none⟩) (by dsimp only; omega) (.int .i64 x3)
          replace h5 := h5.far (p := ⟨g6, 3, none⟩) (by dsimp only; omega) (.int .i64 x3)
          replace h6 := h6.set_ 3 (.int .i64 x3)
          replace hL := lo_set hL (p := ⟨g6, 3, none⟩) (by dsimp only; omega) (.int .i64 x3)
          replace hV := hV.far (p := ⟨g6, 4, none⟩) (by dsimp only; omega) (.int .i64 x4)
          replace hW := hW.far (p := ⟨g6, 4, none⟩) (by dsimp only; omega) (.int .i64 x4)
          replace h5 := h5.far (p := ⟨g6, 4, none⟩) (by dsimp only; omega) (.int .i64 x4)
          replace h6 := h6.set_ 4 (.int .i64 x4)
          replace hL := lo_set hL (p := ⟨g6, 4, none⟩) (by dsimp only; omega) (.int .i64 x4)
          replace hV := hV.far (p := ⟨g6, 5, none⟩) (by dsimp only; omega) (.int .i64 x5)
          replace hW := hW.far (p := ⟨g6, 5, none⟩) (by dsimp only; omega) (.int .i64 x5)
          replace h5 := h5.far (p := ⟨g6, 5, none⟩) (by dsimp only; omega) (.int .i64 x5)
          replace h6 := h6.set_ 5 (.int .i64 x5)
          replace hL := lo_set hL (p := ⟨g6, 5, none⟩) (by dsimp only; omega) (.int .i64 x5)
          replace h6 : Blk ((((((wa4.setCell ⟨g6, 0, none⟩ (.int .i64 x0)).setCell ⟨g6, 1, none⟩ (.int .i64 x1)).setCell ⟨g6, 2, none⟩ (.int .i64 x2)).setCell ⟨g6, 3, none⟩ (.int .i64 x3)).setCell ⟨g6, 4, none⟩ (.int .i64 x4)).setCell ⟨g6, 5, none⟩ (.int .i64 x5)) g6 55 #[.int .i64 x0, .int .i64 x1, .int .i64 x2, .int .i64 x3, .int .i64 x4, .int .i64 x5] := by simpa using h6
          generalize ((((((wa4.setCell ⟨g6, 0, none⟩ (.int .i64 x0)).setCell ⟨g6, 1, none⟩ (.int .i64 x1)).setCell ⟨g6, 2, none⟩ (.int .i64 x2)).setCell ⟨g6, 3, none⟩ (.int .i64 x3)).setCell ⟨g6, 4, none⟩ (.int .i64 x4)).setCell ⟨g6, 5, none⟩ (.int .i64 x5)) = wa5 at hV hW h5 h6 hL ⊢
          refine hK.out _ _ ?_ (fun hHeld7 => ?_)
          focus ((try dsimp only); (have q := hV.facts.1; have r := hW.facts.1; exact ⟨q 0, q 1, q 2, q 3, q 4, q 5, hV.lt, r 0, r 1, r 2, r 3, r 4, r 5, hW.lt⟩))
          clear hK K hHeld
          have hHeld := hHeld7
          clear hHeld7
          (try simp only [Act.put, List.setIfInBounds_toArray, List.set_cons_zero, List.set_cons_succ])
          refine wpAnyH_done (by kernel_rfl) ?_ _
          go_wp2_with fail
          go_meet
          exact ⟨g5, g6, rfl, rfl, h5, h6, hV, hW, by omega, by omega, hL⟩
      · go_simp
        have h6 := Blk.new wa0 55 #[.int .i64 0, .int .i64 0, .int .i64 0, .int .i64 0, .int .i64 0, .int .i64 0]
        have q6 : w.heap.size + 1 < wa0.heap.size := hW.lt
        have q56 : g5 < wa0.heap.size := h5.lt
        replace hV := hV.alloc (.cells #[.int .i64 0, .int .i64 0, .int .i64 0, .int .i64 0, .int .i64 0, .int .i64 0] 55)
        replace hW := hW.alloc (.cells #[.int .i64 0, .int .i64 0, .int .i64 0, .int .i64 0, .int .i64 0, .int .i64 0] 55)
        replace h5 := h5.alloc (.cells #[.int .i64 0, .int .i64 0, .int .i64 0, .int .i64 0, .int .i64 0, .int .i64 0] 55)
        replace hL := lo_alloc hL (.cells #[.int .i64 0, .int .i64 0, .int .i64 0, .int .i64 0, .int .i64 0, .int .i64 0] 55)
        generalize wa0.heap.size = g6 at h6 q6 q56 ⊢
        generalize wa0.alloc (.cells #[.int .i64 0, .int .i64 0, .int .i64 0, .int .i64 0, .int .i64 0, .int .i64 0] 55) = wa1 at hV hW h5 h6 hL ⊢
        refine hK.out _ _ ?_ (fun hHeld5 => ?_)
        focus ((try dsimp only); (have q := hV.facts.1; have r := hW.facts.1; exact ⟨q 0, q 1, q 2, q 3, q 4, q 5, hV.lt, r 0, r 1, r 2, r 3, r 4, r 5, hW.lt⟩))
        clear hK K hHeld
        have hHeld := hHeld5
        clear hHeld5
        (try simp only [Act.put, List.setIfInBounds_toArray, List.set_cons_zero, List.set_cons_succ])
        refine wpAnyH_ready (rs := [1]) (by kernel_rfl) (by simp) ?_
        refine (AllReadyH.cons (o := _) (getop rfl) (fun K hK => ?_) AllReadyH.nil)
        go_simp
        refine (Hrow_v.out _).mono ?_
        rintro e wa2 ⟨rfl, hb⟩
        replace hV := hV.lo hb
        replace hW := hW.lo hb
        replace h5 := h5.lo hb
        replace h6 := h6.lo hb
        replace hL := lo_trans hL hb
        clear hb
        refine hK.out _ _ ?_ (fun hHeld1 => ?_)
        focus ((try dsimp only); (have q := hV.facts.1; have r := hW.facts.1; exact ⟨q 0, q 1, q 2, q 3, q 4, q 5, hV.lt, r 0, r 1, r 2, r 3, r 4, r 5, hW.lt⟩))
        clear hK K hHeld
        have hHeld := hHeld1
        clear hHeld1
        (try simp only [Act.put, List.setIfInBounds_toArray, List.set_cons_zero, List.set_cons_succ])
        refine wpAnyH_ready (rs := [3]) (by kernel_rfl) (by simp) ?_
        refine (AllReadyH.cons (o := _) (getop rfl) (fun K hK => ?_) AllReadyH.nil)
        go_simp
        refine (Hrow_x.out _).mono ?_
        rintro e wa3 ⟨rfl, hb⟩
        replace hV := hV.lo hb
        replace hW := hW.lo hb
        replace h5 := h5.lo hb
        replace h6 := h6.lo hb
        replace hL := lo_trans hL hb
        clear hb
        refine hK.out _ _ ?_ (fun hHeld3 => ?_)
        focus ((try dsimp only); (have q := hV.facts.1; have r := hW.facts.1; exact ⟨q 0, q 1, q 2, q 3, q 4, q 5, hV.lt, r 0, r 1, r 2, r 3, r 4, r 5, hW.lt⟩))
        clear hK K hHeld
        have hHeld := hHeld3
        clear hHeld3
        (try simp only [Act.put, List.setIfInBounds_toArray, List.set_cons_zero, List.set_cons_succ])
        refine wpAnyH_ready (rs := [6]) (by kernel_rfl) (by simp) ?_
        refine (AllReadyH.cons (o := _) (getop rfl) (fun K hK => ?_) AllReadyH.nil)
        obtain ⟨c5, f5⟩ := h5.facts
        have l5 := h5.lt
        go_simp
        clear c5 f5 l5
        replace hV := hV.far (p := ⟨g5, 0, none⟩) (by dsimp only; omega) (.int .i64 v0)
        replace hW := hW.far (p := ⟨g5, 0, none⟩) (by dsimp only; omega) (.int .i64 v0)
        replace h6 := h6.far (p := ⟨g5, 0, none⟩) (by dsimp only; omega) (.int .i64 v0)
        replace h5 := h5.set_ 0 (.int .i64 v0)
        replace hL := lo_set hL (p := ⟨g5, 0, none⟩) (by dsimp only; omega) (.int .i64 v0)
        replace hV := hV.far (p := ⟨g5, 1, none⟩) (by dsimp only; omega) (.int .i64 v1)
        replace hW := hW.far (p := ⟨g5, 1, none⟩) (by dsimp only; omega) (.int .i64 v1)
        replace h6 := h6.far (p := ⟨g5, 1, none⟩) (by dsimp only; omega) (.int .i64 v1)
        replace h5 := h5.set_ 1 (.int .i64 v1)
        replace hL := lo_set hL (p := ⟨g5, 1, none⟩) (by dsimp only; omega) (.int .i64 v1)
        replace hV := hV.far (p := ⟨g5, 2, none⟩) (by dsimp only; omega) (.int .i64 v2)
        replace hW := hW.far (p := ⟨g5, 2, none⟩) (by dsimp only; omega) (.int .i64 v2)
        replace h6 := h6.far (p := ⟨g5, 2, none⟩) (by dsimp only; omega) (.int .i64 v2)
        replace h5 := h5.set_ 2 (.int .i64 v2)
        replace hL := lo_set hL (p := ⟨g5, 2, none⟩) (by dsimp only; omega) (.int .i64 v2)
        replace hV := hV.far (p := ⟨g5, 3, none⟩) (by dsimp only; omega) (.int .i64 v3)
        replace hW := hW.far (p := ⟨g5, 3, none⟩) (by dsimp only; omega) (.int .i64 v3)
        replace h6 := h6.far (p := ⟨g5, 3, none⟩) (by dsimp only; omega) (.int .i64 v3)
        replace h5 := h5.set_ 3 (.int .i64 v3)
        replace hL := lo_set hL (p := ⟨g5, 3, none⟩) (by dsimp only; omega) (.int .i64 v3)
        replace hV := hV.far (p := ⟨g5, 4, none⟩) (by dsimp only; omega) (.int .i64 v4)
        replace hW := hW.far (p := ⟨g5, 4, none⟩) (by dsimp only; omega) (.int .i64 v4)
        replace h6 := h6.far (p := ⟨g5, 4, none⟩) (by dsimp only; omega) (.int .i64 v4)
        replace h5 := h5.set_ 4 (.int .i64 v4)
        replace hL := lo_set hL (p := ⟨g5, 4, none⟩) (by dsimp only; omega) (.int .i64 v4)
        replace hV := hV.far (p := ⟨g5, 5, none⟩) (by dsimp only; omega) (.int .i64 v5)
        replace hW := hW.far (p := ⟨g5, 5, none⟩) (by dsimp only; omega) (.int .i64 v5)
        replace h6 := h6.far (p := ⟨g5, 5, none⟩) (by dsimp only; omega) (.int .i64 v5)
        replace h5 := h5.set_ 5 (.int .i64 v5)
        replace hL := lo_set hL (p := ⟨g5, 5, none⟩) (by dsimp only; omega) (.int .i64 v5)
        replace h5 : Blk ((((((wa3.setCell ⟨g5, 0, none⟩ (.int .i64 v0)).setCell ⟨g5, 1, none⟩ (.int .i64 v1)).setCell ⟨g5, 2, none⟩ (.int .i64 v2)).setCell ⟨g5, 3, none⟩ (.int .i64 v3)).setCell ⟨g5, 4, none⟩ (.int .i64 v4)).setCell ⟨g5, 5, none⟩ (.int .i64 v5)) g5 55 #[.int .i64 v0, .int .i64 v1, .int .i64 v2, .int .i64 v3, .int .i64 v4, .int .i64 v5] := by simpa using h5
        generalize ((((((wa3.setCell ⟨g5, 0, none⟩ (.int .i64 v0)).setCell ⟨g5, 1, none⟩ (.int .i64 v1)).setCell ⟨g5, 2, none⟩ (.int .i64 v2)).setCell ⟨g5, 3, none⟩ (.int .i64 v3)).setCell ⟨g5, 4, none⟩ (.int .i64 v4)).setCell ⟨g5, 5, none⟩ (.int .i64 v5)) = wa4 at hV hW h5 h6 hL ⊢
        refine hK.out _ _ ?_ (fun hHeld6 => ?_)
        focus ((try dsimp only); (have q := hV.facts.1; have r := hW.facts.1; exact ⟨q 0, q 1, q 2, q 3, q 4, q 5, hV.lt, r 0, r 1, r 2, r 3, r 4, r 5, hW.lt⟩))
        clear hK K hHeld
        have hHeld := hHeld6
        clear hHeld6
        (try simp only [Act.put, List.setIfInBounds_toArray, List.set_cons_zero, List.set_cons_succ])
        refine wpAnyH_ready (rs := [7]) (by kernel_rfl) (by simp) ?_
        refine (AllReadyH.cons (o := _) (getop rfl) (fun K hK => ?_) AllReadyH.nil)
        obtain ⟨c6, f6⟩ := h6.facts
        have l6 := h6.lt
        go_simp
        clear c6 f6 l6
        replace hV := hV.far (p := ⟨g6, 0, none⟩) (by dsimp only; omega) (.int .i64 x0)
        replace hW := hW.far (p := ⟨g6, 0, none⟩) (by dsimp only; omega) (.int .i64 x0)
        replace h5 := h5.far (p := ⟨g6, 0, none⟩) (by dsimp only; omega) (.int .i64 x0)
        replace h6 := h6.set_ 0 (.int .i64 x0)
        replace hL := lo_set hL (p := ⟨g6, 0, none⟩) (by dsimp only; omega) (.int .i64 x0)
        replace hV := hV.far (p := ⟨g6, 1, none⟩) (by dsimp only; omega) (.int .i64 x1)
        replace hW := hW.far (p := ⟨g6, 1, none⟩) (by dsimp only; omega) (.int .i64 x1)
        replace h5 := h5.far (p := ⟨g6, 1, none⟩) (by dsimp only; omega) (.int .i64 x1)
        replace h6 := h6.set_ 1 (.int .i64 x1)
        replace hL := lo_set hL (p := ⟨g6, 1, none⟩) (by dsimp only; omega) (.int .i64 x1)
        replace hV := hV.far (p := ⟨g6, 2, none⟩) (by dsimp only; omega) (.int .i64 x2)
        replace hW := hW.far (p := ⟨g6, 2, none⟩) (by dsimp only; omega) (.int .i64 x2)
        replace h5 := h5.far (p := ⟨g6, 2, none⟩) (by dsimp only; omega) (.int .i64 x2)
        replace h6 := h6.set_ 2 (.int .i64 x2)
        replace hL := lo_set hL (p := ⟨g6, 2, none⟩) (by dsimp only; omega) (.int .i64 x2)
        replace hV := hV.far (p := ⟨g6, 3, none⟩) (by dsimp only; omega) (.int .i64 x3)
        replace hW := hW.far (p := ⟨g6, 3, none⟩) (by dsimp only; omega) (.int .i64 x3)
        replace h5 := h5.far (p := ⟨g6, 3, none⟩) (by dsimp only; omega) (.int .i64 x3)
        replace h6 := h6.set_ 3 (.int .i64 x3)
        replace hL := lo_set hL (p := ⟨g6, 3, none⟩) (by dsimp only; omega) (.int .i64 x3)
        replace hV := hV.far (p := ⟨g6, 4, none⟩) (by dsimp only; omega) (.int .i64 x4)
        replace hW := hW.far (p := ⟨g6, 4, none⟩) (by dsimp only; omega) (.int .i64 x4)
        replace h5 := h5.far (p := ⟨g6, 4, none⟩) (by dsimp only; omega) (.int .i64 x4)
        replace h6 := h6.set_ 4 (.int .i64 x4)
        replace hL := lo_set hL (p := ⟨g6, 4, none⟩) (by dsimp only; omega) (.int .i64 x4)
        replace hV := hV.far (p := ⟨g6, 5, none⟩) (by dsimp only; omega) (.int .i64 x5)
        replace hW := hW.far (p := ⟨g6, 5, none⟩) (by dsimp only; omega) (.int .i64 x5)
        replace h5 := h5.far (p := ⟨g6, 5, none⟩) (by dsimp only; omega) (.int .i64 x5)
        replace h6 := h6.set_ 5 (.int .i64 x5)
        replace hL := lo_set hL (p := ⟨g6, 5, none⟩) (by dsimp only; omega) (.int .i64 x5)
        replace h6 : Blk ((((((wa4.setCell ⟨g6, 0, none⟩ (.int .i64 x0)).setCell ⟨g6, 1, none⟩ (.int .i64 x1)).setCell ⟨g6, 2, none⟩ (.int .i64 x2)).setCell ⟨g6, 3, none⟩ (.int .i64 x3)).setCell ⟨g6, 4, none⟩ (.int .i64 x4)).setCell ⟨g6, 5, none⟩ (.int .i64 x5)) g6 55 #[.int .i64 x0, .int .i64 x1, .int .i64 x2, .int .i64 x3, .int .i64 x4, .int .i64 x5] := by simpa using h6
        generalize ((((((wa4.setCell ⟨g6, 0, none⟩ (.int .i64 x0)).setCell ⟨g6, 1, none⟩ (.int .i64 x1)).setCell ⟨g6, 2, none⟩ (.int .i64 x2)).setCell ⟨g6, 3, none⟩ (.int .i64 x3)).setCell ⟨g6, 4, none⟩ (.int .i64 x4)).setCell ⟨g6, 5, none⟩ (.int .i64 x5)) = wa5 at hV hW h5 h6 hL ⊢
        refine hK.out _ _ ?_ (fun hHeld7 => ?_)
        focus ((try dsimp only); (have q := hV.facts.1; have r := hW.facts.1; exact ⟨q 0, q 1, q 2, q 3, q 4, q 5, hV.lt, r 0, r 1, r 2, r 3, r 4, r 5, hW.lt⟩))
        clear hK K hHeld
        have hHeld := hHeld7
        clear hHeld7
        (try simp only [Act.put, List.setIfInBounds_toArray, List.set_cons_zero, List.set_cons_succ])
        refine wpAnyH_done (by kernel_rfl) ?_ _
        go_wp2_with fail
        go_meet
        exact ⟨g5, g6, rfl, rfl, h5, h6, hV, hW, by omega, by omega, hL⟩
    · go_simp
      have h6 := Blk.new wd 55 #[.int .i64 0, .int .i64 0, .int .i64 0, .int .i64 0, .int .i64 0, .int .i64 0]
      have q6 : w.heap.size + 1 < wd.heap.size := hW.lt
      replace hV := hV.alloc (.cells #[.int .i64 0, .int .i64 0, .int .i64 0, .int .i64 0, .int .i64 0, .int .i64 0] 55)
      replace hW := hW.alloc (.cells #[.int .i64 0, .int .i64 0, .int .i64 0, .int .i64 0, .int .i64 0, .int .i64 0] 55)
      replace hL := lo_alloc hL (.cells #[.int .i64 0, .int .i64 0, .int .i64 0, .int .i64 0, .int .i64 0, .int .i64 0] 55)
      generalize wd.heap.size = g6 at h6 q6 ⊢
      generalize wd.alloc (.cells #[.int .i64 0, .int .i64 0, .int .i64 0, .int .i64 0, .int .i64 0, .int .i64 0] 55) = wa0 at hV hW h6 hL ⊢
      refine hK.out _ _ ?_ (fun hHeld5 => ?_)
      focus ((try dsimp only); (have q := hV.facts.1; have r := hW.facts.1; exact ⟨q 0, q 1, q 2, q 3, q 4, q 5, hV.lt, r 0, r 1, r 2, r 3, r 4, r 5, hW.lt⟩))
      clear hK K hHeld
      have hHeld := hHeld5
      clear hHeld5
      (try simp only [Act.put, List.setIfInBounds_toArray, List.set_cons_zero, List.set_cons_succ])
      refine wpAnyH_ready (rs := [1, 4]) (by kernel_rfl) (by simp) ?_
      refine (AllReadyH.cons (o := _) (getop rfl) (fun K hK => ?_) (AllReadyH.cons (o := _) (getop rfl) (fun K hK => ?_) AllReadyH.nil))
      · go_simp
        refine (Hrow_v.out _).mono ?_
        rintro e wa1 ⟨rfl, hb⟩
        replace hV := hV.lo hb
        replace hW := hW.lo hb
        replace h6 := h6.lo hb
        replace hL := lo_trans hL hb
        clear hb
        refine hK.out _ _ ?_ (fun hHeld1 => ?_)
        focus ((try dsimp only); (have q := hV.facts.1; have r := hW.facts.1; exact ⟨q 0, q 1, q 2, q 3, q 4, q 5, hV.lt, r 0, r 1, r 2, r 3, r 4, r 5, hW.lt⟩))
        clear hK K hHeld
        have hHeld := hHeld1
        clear hHeld1
        (try simp only [Act.put, List.setIfInBounds_toArray, List.set_cons_zero, List.set_cons_succ])
        refine wpAnyH_ready (rs := [3, 4]) (by kernel_rfl) (by simp) ?_
        refine (AllReadyH.cons (o := _) (getop rfl) (fun K hK => ?_) (AllReadyH.cons (o := _) (getop rfl) (fun K hK => ?_) AllReadyH.nil))
        · go_simp
          refine (Hrow_x.out _).mono ?_
          rintro e wa2 ⟨rfl, hb⟩
          replace hV := hV.lo hb
          replace hW := hW.lo hb
          replace h6 := h6.lo hb
          replace hL := lo_trans hL hb
          clear hb
          refine hK.out _ _ ?_ (fun hHeld3 => ?_)
          focus ((try dsimp only); (have q := hV.facts.1; have r := hW.facts.1; exact ⟨q 0, q 1, q 2, q 3, q 4, q 5, hV.lt, r 0, r 1, r 2, r 3, r 4, r 5, hW.lt⟩))
          clear hK K hHeld
          have hHeld := hHeld3
          clear hHeld3
          (try simp only [Act.put, List.setIfInBounds_toArray, List.set_cons_zero, List.set_cons_succ])
          refine wpAnyH_ready (rs := [4]) (by kernel_rfl) (by simp) ?_
          refine (AllReadyH.cons (o := _) (getop rfl) (fun K hK => ?_) AllReadyH.nil)
          go_simp
          have h5 := Blk.new wa2 55 #[.int .i64 0, .int .i64 0, .int .i64 0, .int .i64 0, .int .i64 0, .int .i64 0]
          have q5 : w.heap.size + 1 < wa2.heap.size := hW.lt
          have q65 : g6 < wa2.heap.size := h6.lt
          replace hV := hV.alloc (.cells #[.int .i64 0, .int .i64 0, .int .i64 0, .int .i64 0, .int .i64 0, .int .i64 0] 55)
          replace hW := hW.alloc (.cells #[.int .i64 0, .int .i64 0, .int .i64 0, .int .i64 0, .int .i64 0, .int .i64 0] 55)
          replace h6 := h6.alloc (.cells #[.int .i64 0, .int .i64 0, .int .i64 0, .int .i64 0, .int .i64 0, .int .i64 0] 55)
          replace hL := lo_alloc hL (.cells #[.int .i64 0, .int .i64 0, .int .i64 0, .int .i64 0, .int .i64 0, .int .i64 0] 55)
          generalize wa2.heap.size = g5 at h5 q5 q65 ⊢
          generalize wa2.alloc (.cells #[.int .i64 0, .int .i64 0, .int .i64 0, .int .i64 0, .int .i64 0, .int .i64 0] 55) = wa3 at hV hW h6 h5 hL ⊢
          refine hK.out _ _ ?_ (fun hHeld4 => ?_)
          focus ((try dsimp only); (have q := hV.facts.1; have r := hW.facts.1; exact ⟨q 0, q 1, q 2, q 3, q 4, q 5, hV.lt, r 0, r 1, r 2, r 3, r 4, r 5, hW.lt⟩))
          clear hK K hHeld
          have hHeld := hHeld4
          clear hHeld4
          (try simp only [Act.put, List.setIfInBounds_toArray, List.set_cons_zero, List.set_cons_succ])
          refine wpAnyH_ready (rs := [6]) (by kernel_rfl) (by simp) ?_
          refine (AllReadyH.cons (o := _) (getop rfl) (fun K hK => ?_) AllReadyH.nil)
          obtain ⟨c5, f5⟩ := h5.facts
          have l5 := h5.lt
          go_simp
          clear c5 f5 l5
          replace hV := hV.far (p := ⟨g5, 0, none⟩) (by dsimp only; omega) (.int .i64 v0)
          replace hW := hW.far (p := ⟨g5, 0, none⟩) (by dsimp only; omega) (.int .i64 v0)
          replace h6 := h6.far (p := ⟨g5, 0, none⟩) (by dsimp only; omega) (.int .i64 v0)
          replace h5 := h5.set_ 0 (.int .i64 v0)
          replace hL := lo_set hL (p := ⟨g5, 0, none⟩) (by dsimp only; omega) (.int .i64 v0)
          replace hV := hV.far (p := ⟨g5, 1, none⟩) (by dsimp only; omega) (.int .i64 v1)
          replace hW := hW.far (p := ⟨g5, 1, none⟩) (by dsimp only; omega) (.int .i64 v1)
          replace h6 := h6.far (p := ⟨g5, 1, none⟩) (by dsimp only; omega) (.int .i64 v1)
          replace h5 := h5.set_ 1 (.int .i64 v1)
          replace hL := lo_set hL (p := ⟨g5, 1, none⟩) (by dsimp only; omega) (.int .i64 v1)
          replace hV := hV.far (p := ⟨g5, 2, none⟩) (by dsimp only; omega) (.int .i64 v2)
          replace hW := hW.far (p := ⟨g5, 2, none⟩) (by dsimp only; omega) (.int .i64 v2)
          replace h6 := h6.far (p := ⟨g5, 2, none⟩) (by dsimp only; omega) (.int .i64 v2)
          replace h5 := h5.set_ 2 (.int .i64 v2)
          replace hL := lo_set hL (p := ⟨g5, 2, none⟩) (by dsimp only; omega) (.int .i64 v2)
          replace hV := hV.far (p := ⟨g5, 3, none⟩) (by dsimp only; omega) (.int .i64 v3)
          replace hW := hW.far (p := ⟨g5, 3, none⟩) (by dsimp only; omega) (.int .i64 v3)
          replace h6 := h6.far (p := ⟨g5, 3, none⟩) (by dsimp only; omega) (.int .i64 v3)
          replace h5 := h5.set_ 3 (.int .i64 v3)
          replace hL := lo_set hL (p := ⟨g5, 3, none⟩) (by dsimp only; omega) (.int .i64 v3)
          replace hV := hV.far (p := ⟨g5, 4, none⟩) (by dsimp only; omega) (.int .i64 v4)
          replace hW := hW.far (p := ⟨g5, 4, none⟩) (by dsimp only; omega) (.int .i64 v4)
          replace h6 := h6.far (p := ⟨g5, 4, none⟩) (by dsimp only; omega) (.int .i64 v4)
          replace h5 := h5.set_ 4 (.int .i64 v4)
          replace hL := lo_set hL (p := ⟨g5, 4, none⟩) (by dsimp only; omega) (.int .i64 v4)
          replace hV := hV.far (p := ⟨g5, 5, none⟩) (by dsimp only; omega) (.int .i64 v5)
          replace hW := hW.far (p := ⟨g5, 5, none⟩) (by dsimp only; omega) (.int .i64 v5)
          replace h6 := h6.far (p := ⟨g5, 5, none⟩) (by dsimp only; omega) (.int .i64 v5)
          replace h5 := h5.set_ 5 (.int .i64 v5)
          replace hL := lo_set hL (p := ⟨g5, 5, none⟩) (by dsimp only; omega) (.int .i64 v5)
          replace h5 : Blk ((((((wa3.setCell ⟨g5, 0, none⟩ (.int .i64 v0)).setCell ⟨g5, 1, none⟩ (.int .i64 v1)).setCell ⟨g5, 2, none⟩ (.int .i64 v2)).setCell ⟨g5, 3, none⟩ (.int .i64 v3)).setCell ⟨g5, 4, none⟩ (.int .i64 v4)).setCell ⟨g5, 5, none⟩ (.int .i64 v5)) g5 55 #[.int .i64 v0, .int .i64 v1, .int .i64 v2, .int .i64 v3, .int .i64 v4, .int .i64 v5] := by simpa using h5
          generalize ((((((wa3.setCell ⟨g5, 0, none⟩ (.int .i64 v0)).setCell ⟨g5, 1, none⟩ (.int .i64 v1)).setCell ⟨g5, 2, none⟩ (.int .i64 v2)).setCell ⟨g5, 3, none⟩ (.int .i64 v3)).setCell ⟨g5, 4, none⟩ (.int .i64 v4)).setCell ⟨g5, 5, none⟩ (.int .i64 v5)) = wa4 at hV hW h6 h5 hL ⊢
          refine hK.out _ _ ?_ (fun hHeld6 => ?_)
          focus ((try dsimp only); (have q := hV.facts.1; have r := hW.facts.1; exact ⟨q 0, q 1, q 2, q 3, q 4, q 5, hV.lt, r 0, r 1, r 2, r 3, r 4, r 5, hW.lt⟩))
          clear hK K hHeld
          have hHeld := hHeld6
          clear hHeld6
          (try simp only [Act.put, List.setIfInBounds_toArray, List.set_cons_zero, List.set_cons_succ])
          refine wpAnyH_ready (rs := [7]) (by kernel_rfl) (by simp) ?_
          refine (AllReadyH.cons (o := _) (getop rfl) (fun K hK => ?_) AllReadyH.nil)
          obtain ⟨c6, f6⟩ := h6.facts
          have l6 := h6.lt
          go_simp
          clear c6 f6 l6
          replace hV := hV.far (p := ⟨g6, 0, none⟩) (by dsimp only; omega) (.int .i64 x0)
          replace hW := hW.far (p := ⟨g6, 0, none⟩) (by dsimp only; omega) (.int .i64 x0)
          replace h5 := h5.far (p := ⟨g6, 0, none⟩) (by dsimp only; omega) (.int .i64 x0)
          replace h6 := h6.set_ 0 (.int .i64 x0)
          replace hL := lo_set hL (p := ⟨g6, 0, none⟩) (by dsimp only; omega) (.int .i64 x0)
          replace hV := hV.far (p := ⟨g6, 1, none⟩) (by dsimp only; omega) (.int .i64 x1)
          replace hW := hW.far (p := ⟨g6, 1, none⟩) (by dsimp only; omega) (.int .i64 x1)
          replace h5 := h5.far (p := ⟨g6, 1, none⟩) (by dsimp only; omega) (.int .i64 x1)
          replace h6 := h6.set_ 1 (.int .i64 x1)
          replace hL := lo_set hL (p := ⟨g6, 1, none⟩) (by dsimp only; omega) (.int .i64 x1)
          replace hV := hV.far (p := ⟨g6, 2, none⟩) (by dsimp only; omega) (.int .i64 x2)
          replace hW := hW.far (p := ⟨g6, 2, none⟩) (by dsimp only; omega) (.int .i64 x2)
          replace h5 := h5.far (p := ⟨g6, 2, none⟩) (by dsimp only; omega) (.int .i64 x2)
          replace h6 := h6.set_ 2 (.int .i64 x2)
          replace hL := lo_set hL (p := ⟨g6, 2, none⟩) (by dsimp only; omega) (.int .i64 x2)
          replace hV := hV.far (p := ⟨g6, 3, none⟩) (by dsimp only; omega) (.int .i64 x3)
          replace hW := hW.far (p := ⟨g6, 3, none⟩) (by dsimp only; omega) (.int .i64 x3)
          replace h5 := h5.far (p := ⟨g6, 3, none⟩) (by dsimp only; omega) (.int .i64 x3)
          replace h6 := h6.set_ 3 (.int .i64 x3)
          replace hL := lo_set hL (p := ⟨g6, 3, none⟩) (by dsimp only; omega) (.int .i64 x3)
          replace hV := hV.far (p := ⟨g6, 4, none⟩) (by dsimp only; omega) (.int .i64 x4)
          replace hW := hW.far (p := ⟨g6, 4, none⟩) (by dsimp only; omega) (.int .i64 x4)
          replace h5 := h5.far (p := ⟨g6, 4, none⟩) (by dsimp only; omega) (.int .i64 x4)
          replace h6 := h6.set_ 4 (.int .i64 x4)
          replace hL := lo_set hL (p := ⟨g6, 4, none⟩) (by dsimp only; omega) (.int .i64 x4)
          replace hV := hV.far (p := ⟨g6, 5, none⟩) (by dsimp only; omega) (.int .i64 x5)
          replace hW := hW.far (p := ⟨g6, 5, none⟩) (by dsimp only; omega) (.int .i64 x5)
          replace h5 := h5.far (p := ⟨g6, 5, none⟩) (by dsimp only; omega) (.int .i64 x5)
          replace h6 := h6.set_ 5 (.int .i64 x5)
          replace hL := lo_set hL (p := ⟨g6, 5, none⟩) (by dsimp only; omega) (.int .i64 x5)
          replace h6 : Blk ((((((wa4.setCell ⟨g6, 0, none⟩ (.int .i64 x0)).setCell ⟨g6, 1, none⟩ (.int .i64 x1)).setCell ⟨g6, 2, none⟩ (.int .i64 x2)).setCell ⟨g6, 3, none⟩ (.int .i64 x3)).setCell ⟨g6, 4, none⟩ (.int .i64 x4)).setCell ⟨g6, 5, none⟩ (.int .i64 x5)) g6 55 #[.int .i64 x0, .int .i64 x1, .int .i64 x2, .int .i64 x3, .int .i64 x4, .int .i64 x5] := by simpa using h6
          generalize ((((((wa4.setCell ⟨g6, 0, none⟩ (.int .i64 x0)).setCell ⟨g6, 1, none⟩ (.int .i64 x1)).setCell ⟨g6, 2, none⟩ (.int .i64 x2)).setCell ⟨g6, 3, none⟩ (.int .i64 x3)).setCell ⟨g6, 4, none⟩ (.int .i64 x4)).setCell ⟨g6, 5, none⟩ (.int .i64 x5)) = wa5 at hV hW h6 h5 hL ⊢
          refine hK.out _ _ ?_ (fun hHeld7 => ?_)
          focus ((try dsimp only); (have q := hV.facts.1; have r := hW.facts.1; exact ⟨q 0, q 1, q 2, q 3, q 4, q 5, hV.lt, r 0, r 1, r 2, r 3, r 4, r 5, hW.lt⟩))
          clear hK K hHeld
          have hHeld := hHeld7
          clear hHeld7
          (try simp only [Act.put, List.setIfInBounds_toArray, List.set_cons_zero, List.set_cons_succ])
          refine wpAnyH_done (by kernel_rfl) ?_ _
          go_wp2_with fail
          go_meet
          exact ⟨g5, g6, rfl, rfl, h5, h6, hV, hW, by omega, by omega, hL⟩
        · go_simp
          have h5 := Blk.new wa1 55 #[.int .i64 0, .int .i64 0, .int .i64 0, .int .i64 0, .int .i64 0, .int .i64 0]
          have q5 : w.heap.size + 1 < wa1.heap.size := hW.lt
          have q65 : g6 < wa1.heap.size := h6.lt
          replace hV := hV.alloc (.cells #[.int .i64 0, .int .i64 0, .int .i64 0, .int .i64 0, .int .i64 0, .int .i64 0] 55)
          replace hW := hW.alloc (.cells #[.int .i64 0, .int .i64 0, .int .i64 0, .int .i64 0, .int .i64 0, .int .i64 0] 55)
          replace h6 := h6.alloc (.cells #[.int .i64 0, .int .i64 0, .int .i64 0, .int .i64 0, .int .i64 0, .int .i64 0] 55)
          replace hL := lo_alloc hL (.cells #[.int .i64 0, .int .i64 0, .int .i64 0, .int .i64 0, .int .i64 0, .int .i64 0] 55)
          generalize wa1.heap.size = g5 at h5 q5 q65 ⊢
          generalize wa1.alloc (.cells #[.int .i64 0, .int .i64 0, .int .i64 0, .int .i64 0, .int .i64 0, .int .i64 0] 55) = wa2 at hV hW h6 h5 hL ⊢
          refine hK.out _ _ ?_ (fun hHeld4 => ?_)
          focus ((try dsimp only); (have q := hV.facts.1; have r := hW.facts.1; exact ⟨q 0, q 1, q 2, q 3, q 4, q 5, hV.lt, r 0, r 1, r 2, r 3, r 4, r 5, hW.lt⟩))
          clear hK K hHeld
          have hHeld := hHeld4
          clear hHeld4
          (try simp only [Act.put, List.setIfInBounds_toArray, List.set_cons_zero, List.set_cons_succ])
          refine wpAnyH_ready (rs := [3]) (by kernel_rfl) (by simp) ?_
          refine (AllReadyH.cons (o := _) (getop rfl) (fun K hK => ?_) AllReadyH.nil)
          go_simp
          refine (Hrow_x.out _).mono ?_
          rintro e wa3 ⟨rfl, hb⟩
          replace hV := hV.lo hb
          replace hW := hW.lo hb
          replace h6 := h6.lo hb
          replace h5 := h5.lo hb
          replace hL := lo_trans hL hb
          clear hb
          refine hK.out _ _ ?_ (fun hHeld3 => ?_)
          focus ((try dsimp only); (have q := hV.facts.1; have r := hW.facts.1; exact ⟨q 0, q 1, q 2, q 3, q 4, q 5, hV.lt, r 0, r 1, r 2, r 3, r 4, r 5, hW.lt⟩))
          clear hK K hHeld
          have hHeld := hHeld3
          clear hHeld3
          (try simp only [Act.put, List.setIfInBounds_toArray, List.set_cons_zero, List.set_cons_succ])
          refine wpAnyH_ready (rs := [6]) (by kernel_rfl) (by simp) ?_
          refine (AllReadyH.cons (o := _) (getop rfl) (fun K hK => ?_) AllReadyH.nil)
          obtain ⟨c5, f5⟩ := h5.facts
          have l5 := h5.lt
          go_simp
          clear c5 f5 l5
          replace hV := hV.far (p := ⟨g5, 0, none⟩) (by dsimp only; omega) (.int .i64 v0)
          replace hW := hW.far (p := ⟨g5, 0, none⟩) (by dsimp only; omega) (.int .i64 v0)
          replace h6 := h6.far (p := ⟨g5, 0, none⟩) (by dsimp only; omega) (.int .i64 v0)
          replace h5 := h5.set_ 0 (.int .i64 v0)
          replace hL := lo_set hL (p := ⟨g5, 0, none⟩) (by dsimp only; omega) (.int .i64 v0)
          replace hV := hV.far (p := ⟨g5, 1, none⟩) (by dsimp only; omega) (.int .i64 v1)
          replace hW := hW.far (p := ⟨g5, 1, none⟩) (by dsimp only; omega) (.int .i64 v1)
          replace h6 := h6.far (p := ⟨g5, 1, none⟩) (by dsimp only; omega) (.int .i64 v1)
          replace h5 := h5.set_ 1 (.int .i64 v1)
          replace hL := lo_set hL (p := ⟨g5, 1, none⟩) (by dsimp only; omega) (.int .i64 v1)
          replace hV := hV.far (p := ⟨g5, 2, none⟩) (by dsimp only; omega) (.int .i64 v2)
          replace hW := hW.far (p := ⟨g5, 2, none⟩) (by dsimp only; omega) (.int .i64 v2)
          replace h6 := h6.far (p := ⟨g5, 2, none⟩) (by dsimp only; omega) (.int .i64 v2)
          replace h5 := h5.set_ 2 (.int .i64 v2)
          replace hL := lo_set hL (p := ⟨g5, 2, none⟩) (by dsimp only; omega) (.int .i64 v2)
          replace hV := hV.far (p := ⟨g5, 3, none⟩) (by dsimp only; omega) (.int .i64 v3)
          replace hW := hW.far (p := ⟨g5, 3, none⟩) (by dsimp only; omega) (.int .i64 v3)
          replace h6 := h6.far (p := ⟨g5, 3, none⟩) (by dsimp only; omega) (.int .i64 v3)
          replace h5 := h5.set_ 3 (.int .i64 v3)
          replace hL := lo_set hL (p := ⟨g5, 3, none⟩) (by dsimp only; omega) (.int .i64 v3)
          replace hV := hV.far (p := ⟨g5, 4, none⟩) (by dsimp only; omega) (.int .i64 v4)
          replace hW := hW.far (p := ⟨g5, 4, none⟩) (by dsimp only; omega) (.int .i64 v4)
          replace h6 := h6.far (p := ⟨g5, 4, none⟩) (by dsimp only; omega) (.int .i64 v4)
          replace h5 := h5.set_ 4 (.int .i64 v4)
          replace hL := lo_set hL (p := ⟨g5, 4, none⟩) (by dsimp only; omega) (.int .i64 v4)
          replace hV := hV.far (p := ⟨g5, 5, none⟩) (by dsimp only; omega) (.int .i64 v5)
          replace hW := hW.far (p := ⟨g5, 5, none⟩) (by dsimp only; omega) (.int .i64 v5)
          replace h6 := h6.far (p := ⟨g5, 5, none⟩) (by dsimp only; omega) (.int .i64 v5)
          replace h5 := h5.set_ 5 (.int .i64 v5)
          replace hL := lo_set hL (p := ⟨g5, 5, none⟩) (by dsimp only; omega) (.int .i64 v5)
          replace h5 : Blk ((((((wa3.setCell ⟨g5, 0, none⟩ (.int .i64 v0)).setCell ⟨g5, 1, none⟩ (.int .i64 v1)).setCell ⟨g5, 2, none⟩ (.int .i64 v2)).setCell ⟨g5, 3, none⟩ (.int .i64 v3)).setCell ⟨g5, 4, none⟩ (.int .i64 v4)).setCell ⟨g5, 5, none⟩ (.int .i64 v5)) g5 55 #[.int .i64 v0, .int .i64 v1, .int .i64 v2, .int .i64 v3, .int .i64 v4, .int .i64 v5] := by simpa using h5
          generalize ((((((wa3.setCell ⟨g5, 0, none⟩ (.int .i64 v0)).setCell ⟨g5, 1, none⟩ (.int .i64 v1)).setCell ⟨g5, 2, none⟩ (.int .i64 v2)).setCell ⟨g5, 3, none⟩ (.int .i64 v3)).setCell ⟨g5, 4, none⟩ (.int .i64 v4)).setCell ⟨g5, 5, none⟩ (.int .i64 v5)) = wa4 at hV hW h6 h5 hL ⊢
          refine hK.out _ _ ?_ (fun hHeld6 => ?_)
          focus ((try dsimp only); (have q := hV.facts.1; have r := hW.facts.1; exact ⟨q 0, q 1, q 2, q 3, q 4, q 5, hV.lt, r 0, r 1, r 2, r 3, r 4, r 5, hW.lt⟩))
          clear hK K hHeld
          have hHeld := hHeld6
          clear hHeld6
          (try simp only [Act.put, List.setIfInBounds_toArray, List.set_cons_zero, List.set_cons_succ])
          refine wpAnyH_ready (rs := [7]) (by kernel_rfl) (by simp) ?_
          refine (AllReadyH.cons (o := _) (getop rfl) (fun K hK => ?_) AllReadyH.nil)
          obtain ⟨c6, f6⟩ := h6.facts
          have l6 := h6.lt
          go_simp
          clear c6 f6 l6
          replace hV := hV.far (p := ⟨g6, 0, none⟩) (by dsimp only; omega) (.int .i64 x0)
          replace hW := hW.far (p := ⟨g6, 0, none⟩) (by dsimp only; omega) (.int .i64 x0)
          replace h5 := h5.far (p := ⟨g6, 0, none⟩) (by dsimp only; omega) (.int .i64 x0)
          replace h6 := h6.set_ 0 (.int .i64 x0)
          replace hL := lo_set hL (p := ⟨g6, 0, none⟩) (by dsimp only; omega) (.int .i64 x0)
          replace hV := hV.far (p := ⟨g6, 1, none⟩) (by dsimp only; omega) (.int .i64 x1)
          replace hW := hW.far (p := ⟨g6, 1, none⟩) (by dsimp only; omega) (.int .i64 x1)
          replace h5 := h5.far (p := ⟨g6, 1, none⟩) (by dsimp only; omega) (.int .i64 x1)
          replace h6 := h6.set_ 1 (.int .i64 x1)
          replace hL := lo_set hL (p := ⟨g6, 1, none⟩) (by dsimp only; omega) (.int .i64 x1)
          replace hV := hV.far (p := ⟨g6, 2, none⟩) (by dsimp only; omega) (.int .i64 x2)
          replace hW := hW.far (p := ⟨g6, 2, none⟩) (by dsimp only; omega) (.int .i64 x2)
          replace h5 := h5.far (p := ⟨g6, 2, none⟩) (by dsimp only; omega) (.int .i64 x2)
          replace h6 := h6.set_ 2 (.int .i64 x2)
          replace hL := lo_set hL (p := ⟨g6, 2, none⟩) (by dsimp only; omega) (.int .i64 x2)
          replace hV := hV.far (p := ⟨g6, 3, none⟩) (by dsimp only; omega) (.int .i64 x3)
          replace hW := hW.far (p := ⟨g6, 3, none⟩) (by dsimp only; omega) (.int .i64 x3)
          replace h5 := h5.far (p := ⟨g6, 3, none⟩) (by dsimp only; omega) (.int .i64 x3)
          replace h6 := h6.set_ 3 (.int .i64 x3)
          replace hL := lo_set hL (p := ⟨g6, 3, none⟩) (by dsimp only; omega) (.int .i64 x3)
          replace hV := hV.far (p := ⟨g6, 4, none⟩) (by dsimp only; omega) (.int .i64 x4)
          replace hW := hW.far (p := ⟨g6, 4, none⟩) (by dsimp only; omega) (.int .i64 x4)
          replace h5 := h5.far (p := ⟨g6, 4, none⟩) (by dsimp only; omega) (.int .i64 x4)
          replace h6 := h6.set_ 4 (.int .i64 x4)
          replace hL := lo_set hL (p := ⟨g6, 4, none⟩) (by dsimp only; omega) (.int .i64 x4)
          replace hV := hV.far (p := ⟨g6, 5, none⟩) (by dsimp only; omega) (.int .i64 x5)
          replace hW := hW.far (p := ⟨g6, 5, none⟩) (by dsimp only; omega) (.int .i64 x5)
          replace h5 := h5.far (p := ⟨g6, 5, none⟩) (by dsimp only; omega) (.int .i64 x5)
          replace h6 := h6.set_ 5 (.int .i64 x5)
          replace hL := lo_set hL (p := ⟨g6, 5, none⟩) (by dsimp only; omega) (.int .i64 x5)
          replace h6 : Blk ((((((wa4.setCell ⟨g6, 0, none⟩ (.int .i64 x0)).setCell ⟨g6, 1, none⟩ (.int .i64 x1)).setCell ⟨g6, 2, none⟩ (.int .i64 x2)).setCell ⟨g6, 3, none⟩ (.int .i64 x3)).setCell ⟨g6, 4, none⟩ (.int .i64 x4)).setCell ⟨g6, 5, none⟩ (.int .i64 x5)) g6 55 #[.int .i64 x0, .int .i64 x1, .int .i64 x2, .int .i64 x3, .int .i64 x4, .int .i64 x5] := by simpa using h6
          generalize ((((((wa4.setCell ⟨g6, 0, none⟩ (.int .i64 x0)).setCell ⟨g6, 1, none⟩ (.int .i64 x1)).setCell ⟨g6, 2, none⟩ (.int .i64 x2)).setCell ⟨g6, 3, none⟩ (.int .i64 x3)).setCell ⟨g6, 4, none⟩ (.int .i64 x4)).setCell ⟨g6, 5, none⟩ (.int .i64 x5)) = wa5 at hV hW h6 h5 hL ⊢
          refine hK.out _ _ ?_ (fun hHeld7 => ?_)
          focus ((try dsimp only); (have q := hV.facts.1; have r := hW.facts.1; exact ⟨q 0, q 1, q 2, q 3, q 4, q 5, hV.lt, r 0, r 1, r 2, r 3, r 4, r 5, hW.lt⟩))
          clear hK K hHeld
          have hHeld := hHeld7
          clear hHeld7
          (try simp only [Act.put, List.setIfInBounds_toArray, List.set_cons_zero, List.set_cons_succ])
          refine wpAnyH_done (by kernel_rfl) ?_ _
          go_wp2_with fail
          go_meet
          exact ⟨g5, g6, rfl, rfl, h5, h6, hV, hW, by omega, by omega, hL⟩
      · go_simp
        have h5 := Blk.new wa0 55 #[.int .i64 0, .int .i64 0, .int .i64 0, .int .i64 0, .int .i64 0, .int .i64 0]
        have q5 : w.heap.size + 1 < wa0.heap.size := hW.lt
        have q65 : g6 < wa0.heap.size := h6.lt
        replace hV := hV.alloc (.cells #[.int .i64 0, .int .i64 0, .int .i64 0, .int .i64 0, .int .i64 0, .int .i64 0] 55)
        replace hW := hW.alloc (.cells #[.int .i64 0, .int .i64 0, .int .i64 0, .int .i64 0, .int .i64 0, .int .i64 0] 55)
        replace h6 := h6.alloc (.cells #[.int .i64 0, .int .i64 0, .int .i64 0, .int .i64 0, .int .i64 0, .int .i64 0] 55)
        replace hL := lo_alloc hL (.cells #[.int .i64 0, .int .i64 0, .int .i64 0, .int .i64 0, .int .i64 0, .int .i64 0] 55)
        generalize wa0.heap.size = g5 at h5 q5 q65 ⊢
        generalize wa0.alloc (.cells #[.int .i64 0, .int .i64 0, .int .i64 0, .int .i64 0, .int .i64 0, .int .i64 0] 55) = wa1 at hV hW h6 h5 hL ⊢
        refine hK.out _ _ ?_ (fun hHeld4 => ?_)
        focus ((try dsimp only); (have q := hV.facts.1; have r := hW.facts.1; exact ⟨q 0, q 1, q 2, q 3, q 4, q 5, hV.lt, r 0, r 1, r 2, r 3, r 4, r 5, hW.lt⟩))
        clear hK K hHeld
        have hHeld := hHeld4
        clear hHeld4
        (try simp only [Act.put, List.setIfInBounds_toArray, List.set_cons_zero, List.set_cons_succ])
        refine wpAnyH_ready (rs := [1]) (by kernel_rfl) (by simp) ?_
        refine (AllReadyH.cons (o := _) (getop rfl) (fun K hK => ?_) AllReadyH.nil)
        go_simp
        refine (Hrow_v.out _).mono ?_
        rintro e wa2 ⟨rfl, hb⟩
        replace hV := hV.lo hb
        replace hW := hW.lo hb
        replace h6 := h6.lo hb
        replace h5 := h5.lo hb
        replace hL := lo_trans hL hb
        clear hb
        refine hK.out _ _ ?_ (fun hHeld1 => ?_)
        focus ((try dsimp only); (have q := hV.facts.1; have r := hW.facts.1; exact ⟨q 0, q 1, q 2, q 3, q 4, q 5, hV.lt, r 0, r 1, r 2, r 3, r 4, r 5, hW.lt⟩))
        clear hK K hHeld
        have hHeld := hHeld1
        clear hHeld1
        (try simp only [Act.put, List.setIfInBounds_toArray, List.set_cons_zero, List.set_cons_succ])
        refine wpAnyH_ready (rs := [3]) (by kernel_rfl) (by simp) ?_
        refine (AllReadyH.cons (o := _) (getop rfl) (fun K hK => ?_) AllReadyH.nil)
        go_simp
        refine (Hrow_x.out _).mono ?_
        rintro e wa3 ⟨rfl, hb⟩
        replace hV := hV.lo hb
        replace hW := hW.lo hb
        replace h6 := h6.lo hb
        replace h5 := h5.lo hb
        replace hL := lo_trans hL hb
        clear hb
        refine hK.out _ _ ?_ (fun hHeld3 => ?_)
        focus ((try dsimp only); (have q := hV.facts.1; have r := hW.facts.1; exact ⟨q 0, q 1, q 2, q 3, q 4, q 5, hV.lt, r 0, r 1, r 2, r 3, r 4, r 5, hW.lt⟩))
        clear hK K hHeld
        have hHeld := hHeld3
        clear hHeld3
        (try simp only [Act.put, List.setIfInBounds_toArray, List.set_cons_zero, List.set_cons_succ])
        refine wpAnyH_ready (rs := [6]) (by kernel_rfl) (by simp) ?_
        refine (AllReadyH.cons (o := _) (getop rfl) (fun K hK => ?_) AllReadyH.nil)
        obtain ⟨c5, f5⟩ := h5.facts
        have l5 := h5.lt
        go_simp
        clear c5 f5 l5
        replace hV := hV.far (p := ⟨g5, 0, none⟩) (by dsimp only; omega) (.int .i64 v0)
        replace hW := hW.far (p := ⟨g5, 0, none⟩) (by dsimp only; omega) (.int .i64 v0)
        replace h6 := h6.far (p := ⟨g5, 0, none⟩) (by dsimp only; omega) (.int .i64 v0)
        replace h5 := h5.set_ 0 (.int .i64 v0)
        replace hL := lo_set hL (p := ⟨g5, 0, none⟩) (by dsimp only; omega) (.int .i64 v0)
        replace hV := hV.far (p := ⟨g5, 1, none⟩) (by dsimp only; omega) (.int .i64 v1)
        replace hW := hW.far (p := ⟨g5, 1, none⟩) (by dsimp only; omega) (.int .i64 v1)
        replace h6 := h6.far (p := ⟨g5, 1, none⟩) (by dsimp only; omega) (.int .i64 v1)
        replace h5 := h5.set_ 1 (.int .i64 v1)
        replace hL := lo_set hL (p := ⟨g5, 1, none⟩) (by dsimp only; omega) (.int .i64 v1)
        replace hV := hV.far (p := ⟨g5, 2, none⟩) (by dsimp only; omega) (.int .i64 v2)
        replace hW := hW.far (p := ⟨g5, 2, none⟩) (by dsimp only; omega) (.int .i64 v2)
        replace h6 := h6.far (p := ⟨g5, 2, none⟩) (by dsimp only; omega) (.int .i64 v2)
        replace h5 := h5.set_ 2 (.int .i64 v2)
        replace hL := lo_set hL (p := ⟨g5, 2, none⟩) (by dsimp only; omega) (.int .i64 v2)
        replace hV := hV.far (p := ⟨g5, 3, none⟩) (by dsimp only; omega) (.int .i64 v3)
        replace hW := hW.far (p := ⟨g5, 3, none⟩) (by dsimp only; omega) (.int .i64 v3)
        replace h6 := h6.far (p := ⟨g5, 3, none⟩) (by dsimp only; omega) (.int .i64 v3)
        replace h5 := h5.set_ 3 (.int .i64 v3)
        replace hL := lo_set hL (p := ⟨g5, 3, none⟩) (by dsimp only; omega) (.int .i64 v3)
        replace hV := hV.far (p := ⟨g5, 4, none⟩) (by dsimp only; omega) (.int .i64 v4)
        replace hW := hW.far (p := ⟨g5, 4, none⟩) (by dsimp only; omega) (.int .i64 v4)
        replace h6 := h6.far (p := ⟨g5, 4, none⟩) (by dsimp only; omega) (.int .i64 v4)
        replace h5 := h5.set_ 4 (.int .i64 v4)
        replace hL := lo_set hL (p := ⟨g5, 4, none⟩) (by dsimp only; omega) (.int .i64 v4)
        replace hV := hV.far (p := ⟨g5, 5, none⟩) (by dsimp only; omega) (.int .i64 v5)
        replace hW := hW.far (p := ⟨g5, 5, none⟩) (by dsimp only; omega) (.int .i64 v5)
        replace h6 := h6.far (p := ⟨g5, 5, none⟩) (by dsimp only; omega) (.int .i64 v5)
        replace h5 := h5.set_ 5 (.int .i64 v5)
        replace hL := lo_set hL (p := ⟨g5, 5, none⟩) (by dsimp only; omega) (.int .i64 v5)
        replace h5 : Blk ((((((wa3.setCell ⟨g5, 0, none⟩ (.int .i64 v0)).setCell ⟨g5, 1, none⟩ (.int .i64 v1)).setCell ⟨g5, 2, none⟩ (.int .i64 v2)).setCell ⟨g5, 3, none⟩ (.int .i64 v3)).setCell ⟨g5, 4, none⟩ (.int .i64 v4)).setCell ⟨g5, 5, none⟩ (.int .i64 v5)) g5 55 #[.int .i64 v0, .int .i64 v1, .int .i64 v2, .int .i64 v3, .int .i64 v4, .int .i64 v5] := by simpa using h5
        generalize ((((((wa3.setCell ⟨g5, 0, none⟩ (.int .i64 v0)).setCell ⟨g5, 1, none⟩ (.int .i64 v1)).setCell ⟨g5, 2, none⟩ (.int .i64 v2)).setCell ⟨g5, 3, none⟩ (.int .i64 v3)).setCell ⟨g5, 4, none⟩ (.int .i64 v4)).setCell ⟨g5, 5, none⟩ (.int .i64 v5)) = wa4 at hV hW h6 h5 hL ⊢
        refine hK.out _ _ ?_ (fun hHeld6 => ?_)
        focus ((try dsimp only); (have q := hV.facts.1; have r := hW.facts.1; exact ⟨q 0, q 1, q 2, q 3, q 4, q 5, hV.lt, r 0, r 1, r 2, r 3, r 4, r 5, hW.lt⟩))
        clear hK K hHeld
        have hHeld := hHeld6
        clear hHeld6
        (try simp only [Act.put, List.setIfInBounds_toArray, List.set_cons_zero, List.set_cons_succ])
        refine wpAnyH_ready (rs := [7]) (by kernel_rfl) (by simp) ?_
        refine (AllReadyH.cons (o := _) (getop rfl) (fun K hK => ?_) AllReadyH.nil)
        obtain ⟨c6, f6⟩ := h6.facts
        have l6 := h6.lt
        go_simp
        clear c6 f6 l6
        replace hV := hV.far (p := ⟨g6, 0, none⟩) (by dsimp only; omega) (.int .i64 x0)
        replace hW := hW.far (p := ⟨g6, 0, none⟩) (by dsimp only; omega) (.int .i64 x0)
        replace h5 := h5.far (p := ⟨g6, 0, none⟩) (by dsimp only; omega) (.int .i64 x0)
        replace h6 := h6.set_ 0 (.int .i64 x0)
        replace hL := lo_set hL (p := ⟨g6, 0, none⟩) (by dsimp only; omega) (.int .i64 x0)
        replace hV := hV.far (p := ⟨g6, 1, none⟩) (by dsimp only; omega) (.int .i64 x1)
        replace hW := hW.far (p := ⟨g6, 1, none⟩) (by dsimp only; omega) (.int .i64 x1)
        replace h5 := h5.far (p := ⟨g6, 1, none⟩) (by dsimp only; omega) (.int .i64 x1)
        replace h6 := h6.set_ 1 (.int .i64 x1)
        replace hL := lo_set hL (p := ⟨g6, 1, none⟩) (by dsimp only; omega) (.int .i64 x1)
        replace hV := hV.far (p := ⟨g6, 2, none⟩) (by dsimp only; omega) (.int .i64 x2)
        replace hW := hW.far (p := ⟨g6, 2, none⟩) (by dsimp only; omega) (.int .i64 x2)
        replace h5 := h5.far (p := ⟨g6, 2, none⟩) (by dsimp only; omega) (.int .i64 x2)
        replace h6 := h6.set_ 2 (.int .i64 x2)
        replace hL := lo_set hL (p := ⟨g6, 2, none⟩) (by dsimp only; omega) (.int .i64 x2)
        replace hV := hV.far (p := ⟨g6, 3, none⟩) (by dsimp only; omega) (.int .i64 x3)
        replace hW := hW.far (p := ⟨g6, 3, none⟩) (by dsimp only; omega) (.int .i64 x3)
        replace h5 := h5.far (p := ⟨g6, 3, none⟩) (by dsimp only; omega) (.int .i64 x3)
        replace h6 := h6.set_ 3 (.int .i64 x3)
        replace hL := lo_set hL (p := ⟨g6, 3, none⟩) (by dsimp only; omega) (.int .i64 x3)
        replace hV := hV.far (p := ⟨g6, 4, none⟩) (by dsimp only; omega) (.int .i64 x4)
        replace hW := hW.far (p := ⟨g6, 4, none⟩) (by dsimp only; omega) (.int .i64 x4)
        replace h5 := h5.far (p := ⟨g6, 4, none⟩) (by dsimp only; omega) (.int .i64 x4)
        replace h6 := h6.set_ 4 (.int .i64 x4)
        replace hL := lo_set hL (p := ⟨g6, 4, none⟩) (by dsimp only; omega) (.int .i64 x4)
        replace hV := hV.far (p := ⟨g6, 5, none⟩) (by dsimp only; omega) (.int .i64 x5)
        replace hW := hW.far (p := ⟨g6, 5, none⟩) (by dsimp only; omega) (.int .i64 x5)
        replace h5 := h5.far (p := ⟨g6, 5, none⟩) (by dsimp only; omega) (.int .i64 x5)
        replace h6 := h6.set_ 5 (.int .i64 x5)
        replace hL := lo_set hL (p := ⟨g6, 5, none⟩) (by dsimp only; omega) (.int .i64 x5)
        replace h6 : Blk ((((((wa4.setCell ⟨g6, 0, none⟩ (.int .i64 x0)).setCell ⟨g6, 1, none⟩ (.int .i64 x1)).setCell ⟨g6, 2, none⟩ (.int .i64 x2)).setCell ⟨g6, 3, none⟩ (.int .i64 x3)).setCell ⟨g6, 4, none⟩ (.int .i64 x4)).setCell ⟨g6, 5, none⟩ (.int .i64 x5)) g6 55 #[.int .i64 x0, .int .i64 x1, .int .i64 x2, .int .i64 x3, .int .i64 x4, .int .i64 x5] := by simpa using h6
        generalize ((((((wa4.setCell ⟨g6, 0, none⟩ (.int .i64 x0)).setCell ⟨g6, 1, none⟩ (.int .i64 x1)).setCell ⟨g6, 2, none⟩ (.int .i64 x2)).setCell ⟨g6, 3, none⟩ (.int .i64 x3)).setCell ⟨g6, 4, none⟩ (.int .i64 x4)).setCell ⟨g6, 5, none⟩ (.int .i64 x5)) = wa5 at hV hW h6 h5 hL ⊢
        refine hK.out _ _ ?_ (fun hHeld7 => ?_)
        focus ((try dsimp only); (have q := hV.facts.1; have r := hW.facts.1; exact ⟨q 0, q 1, q 2, q 3, q 4, q 5, hV.lt, r 0, r 1, r 2, r 3, r 4, r 5, hW.lt⟩))
        clear hK K hHeld
        have hHeld := hHeld7
        clear hHeld7
        (try simp only [Act.put, List.setIfInBounds_toArray, List.set_cons_zero, List.set_cons_succ])
        refine wpAnyH_done (by kernel_rfl) ?_ _
        go_wp2_with fail
        go_meet
        exact ⟨g5, g6, rfl, rfl, h5, h6, hV, hW, by omega, by omega, hL⟩
  case rest =>
  clear hV hW hL Hrow_v Hrow_x
  obtain ⟨g5, g6, rfl, rfl, h5, h6, hV, hW, q5, q6, hL⟩ := hcut
  obtain ⟨c5, f5⟩ := h5.facts
  obtain ⟨c6, f6⟩ := h6.facts
  obtain ⟨cV, fV⟩ := hV.facts
  by_cases hvx : (Vs.mk v0 v1 v2 v3 v4 v5) = (Vs.mk x0 x1 x2 x3 x4 x5)
  · have hq : ∀ w1, (Op.equalIn 10000 55 (.agg #[.int .i64 v0, .int .i64 v1, .int .i64 v2, .int .i64 v3, .int .i64 v4, .int .i64 v5]) (.agg #[.int .i64 x0, .int .i64 x1, .int .i64 x2, .int .i64 x3, .int .i64 x4, .int .i64 x5])).run Try.prog w1 = .ok true w1 := fun w1 => by have := eq55 (Vs.mk v0 v1 v2 v3 v4 v5) (Vs.mk x0 x1 x2 x3 x4 x5) w1; rw [decide_eq_true hvx] at this; exact this
    have HP : Hid (pairsL (Vs.mk v0 v1 v2 v3 v4 v5) (Vs.mk x0 x1 x2 x3 x4 x5) = []) := Lib.hid (pairs_none (.inl hvx))
    clear hvx
    go_wp2_with fail
    go_ret
    exact ⟨w.heap.size, _, Nat.le_refl _, hL.size, rfl, by rw [HP.out]; exact World.ownsRow_nil _ _ _ _, hL⟩
  · have hq : ∀ w1, (Op.equalIn 10000 55 (.agg #[.int .i64 v0, .int .i64 v1, .int .i64 v2, .int .i64 v3, .int .i64 v4, .int .i64 v5]) (.agg #[.int .i64 x0, .int .i64 x1, .int .i64 x2, .int .i64 x3, .int .i64 x4, .int .i64 x5])).run Try.prog w1 = .ok false w1 := fun w1 => by have := eq55 (Vs.mk v0 v1 v2 v3 v4 v5) (Vs.mk x0 x1 x2 x3 x4 x5) w1; rw [decide_eq_false hvx] at this; exact this
    clear hvx
    rcases err_cases (Vs.mk v0 v1 v2 v3 v4 v5) with ⟨hok, he⟩ | ⟨hok, he⟩
    rotate_left
    · rw [he] at HC1
      have HP : Hid (pairsL (Vs.mk v0 v1 v2 v3 v4 v5) (Vs.mk x0 x1 x2 x3 x4 x5) = []) := Lib.hid (pairs_none (.inr (.inl hok)))
      clear he hok
      go_wp2_with fail
      refine (HC1.out _).mono ?_
      rintro e w1 ⟨rfl, hb⟩
      have hL2 := Lib.hid (lo_trans hL hb)
      clear hb
      go_wp2_with fail
      go_ret
      exact ⟨w.heap.size, _, Nat.le_refl _, hL2.out.size, rfl, by rw [HP.out]; exact World.ownsRow_nil _ _ _ _, hL2.out⟩
    rw [he] at HC1
    clear he
    go_wp2_with fail
    refine (HC1.out _).mono ?_
    rintro e w1 ⟨rfl, hb⟩
    replace hW := hW.lo hb
    replace h5 := h5.lo hb
    replace h6 := h6.lo hb
    replace hL := lo_trans hL hb
    clear hb HC1 c5 f5 c6 f6 cV fV hV hq
    obtain ⟨cW, fW⟩ := hW.facts
    rcases err_cases (Vs.mk x0 x1 x2 x3 x4 x5) with ⟨hok2, he⟩ | ⟨hok2, he⟩
    rotate_left
    · rw [he] at HC2
      have HP : Hid (pairsL (Vs.mk v0 v1 v2 v3 v4 v5) (Vs.mk x0 x1 x2 x3 x4 x5) = []) := Lib.hid (pairs_none (.inr (.inr hok2)))
      clear he hok
      go_wp2_with fail
      refine (HC2.out _).mono ?_
      rintro e w2 ⟨rfl, hb⟩
      have hL2 := Lib.hid (lo_trans hL hb)
      clear hb
      go_wp2_with fail
      go_ret
      exact ⟨w.heap.size, _, Nat.le_refl _, hL2.out.size, rfl, by rw [HP.out]; exact World.ownsRow_nil _ _ _ _, hL2.out⟩
    rw [he] at HC2
    have HP : Hid (pairsL (Vs.mk v0 v1 v2 v3 v4 v5) (Vs.mk x0 x1 x2 x3 x4 x5) = upL (Vs.mk v0 v1 v2 v3 v4 v5) (Vs.mk x0 x1 x2 x3 x4 x5) 6) := Lib.hid (if_pos ⟨hok, hok2⟩)
    have hbd : (0 ≤ x0 ∧ x0 ≤ 4294967295) ∧ (0 ≤ x1 ∧ x1 ≤ 4294967295) ∧ (0 ≤ x2 ∧ x2 ≤ 4294967295) ∧ (0 ≤ x3 ∧ x3 ≤ 4294967295) ∧ (0 ≤ x4 ∧ x4 ≤ 4294967295) ∧ (0 ≤ x5 ∧ x5 ≤ 4294967295) := by
      obtain ⟨b0, b1, b2, b3, b4, b5⟩ := hok2
      exact ⟨⟨b0.1, b0.2.1⟩, ⟨b1.1, b1.2.1⟩, ⟨b2.1, b2.2.1⟩, ⟨b3.1, b3.2.1⟩, ⟨b4.1, b4.2.1⟩, b5.1, b5.2.1⟩
    clear he hok hok2
    go_wp2_with fail
    refine (HC2.out _).mono ?_
    rintro e w2 ⟨rfl, hb⟩
    replace h5 := h5.lo hb
    replace h6 := h6.lo hb
    replace hL := lo_trans hL hb
    clear hb HC2 cW fW hW
    obtain ⟨c6, f6⟩ := h6.facts
    obtain ⟨i0, hi, hz0, hz1, hz2⟩ := info_parts info47
    have hg5 := h5.lt
    go_upto_region 6 with fail
    clear c6 f6 h6
    go_loopw [7, 28] (fun u y wr => ∃ k : Nat, k ≤ 6 ∧ y = .int .i64 k ∧ wr.ownsRow w2.heap.size 47 2 u (upL (Vs.mk v0 v1 v2 v3 v4 v5) (Vs.mk x0 x1 x2 x3 x4 x5) k).length ((upL (Vs.mk v0 v1 v2 v3 v4 v5) (Vs.mk x0 x1 x2 x3 x4 x5) k).flatMap cellsP) ∧ Below w2.heap.size w2 wr) (fun _ y _ => 6 - (intOf y).toNat)
    case atStart => exact ⟨0, by omega, rfl, World.ownsRow_nil _ _ _ _, lo_refl _⟩
    case round =>
    obtain ⟨k, hk, hy, hown, hbel⟩ := hrel
    have hlen := up_len (Vs.mk v0 v1 v2 v3 v4 v5) (Vs.mk x0 x1 x2 x3 x4 x5) k
    obtain ⟨c5, f5⟩ := (h5.lo hbel).facts
    have l5 : g5 < wr.heap.size := (h5.lo hbel).lt
    have hsz := hbel.size
    obtain ⟨⟨a0, b0⟩, ⟨a1, b1⟩, ⟨a2, b2⟩, ⟨a3, b3⟩, ⟨a4, b4⟩, a5, b5⟩ := hbd
    rcases upto6 hk with rfl | rfl | rfl | rfl | rfl | rfl | rfl
    · obtain rfl : u28 = .int .i64 0 := hy
      have ix : ∀ w', (Instr.index 55 (.agg #[.int .i64 x0, .int .i64 x1, .int .i64 x2, .int .i64 x3, .int .i64 x4, .int .i64 x5]) (.int .i64 0)).run Try.prog w' = .ok (.int .i64 x0) w' := fun _ => by kernel_rfl
      by_cases e : v0 = x0
      · have HU : Hid (upL (Vs.mk v0 v1 v2 v3 v4 v5) (Vs.mk x0 x1 x2 x3 x4 x5) 1 = upL (Vs.mk v0 v1 v2 v3 v4 v5) (Vs.mk x0 x1 x2 x3 x4 x5) 0) := Lib.hid (up_eq0 e)
        subst e
        go_wp2_with fail
        go_roundw
        case rel => exact ⟨1, by omega, by first | rfl | simp, by rw [HU.out]; exact hown, hbel⟩
        case measure => simp [intOf]
      · have HU : Hid (upL (Vs.mk v0 v1 v2 v3 v4 v5) (Vs.mk x0 x1 x2 x3 x4 x5) 1 = upL (Vs.mk v0 v1 v2 v3 v4 v5) (Vs.mk x0 x1 x2 x3 x4 x5) 0 ++ [(1, x0)]) := Lib.hid (up_ne0 e)
        have e2 : ¬ x0 = v0 := fun h => e h.symm
        go_wp2_with (at_builtin; refine wp_append_box rfl _ _ 24 rfl w2.heap.size 47 i0 _ 2 8 Try.underlying24 hi hz0 hz1 hz2 rfl (by decide) _ _ _ rfl hown 1 _ rfl rfl (by intro u hu; simp at hu; rcases hu with rfl | rfl <;> rfl) (by omega) (by decide) hsz ?_; intro v' wn hown1 hbel1)
        go_roundw
        case rel =>
          refine ⟨1, by omega, by first | rfl | simp, ?_, hbel.trans hbel1⟩
          rw [HU.out, List.length_append, List.flatMap_append]
          exact hown1
        case measure => simp [intOf]
    · obtain rfl : u28 = .int .i64 1 := hy
      have ix : ∀ w', (Instr.index 55 (.agg #[.int .i64 x0, .int .i64 x1, .int .i64 x2, .int .i64 x3, .int .i64 x4, .int .i64 x5]) (.int .i64 1)).run Try.prog w' = .ok (.int .i64 x1) w' := fun _ => by kernel_rfl
      by_cases e : v1 = x1
      · have HU : Hid (upL (Vs.mk v0 v1 v2 v3 v4 v5) (Vs.mk x0 x1 x2 x3 x4 x5) 2 = upL (Vs.mk v0 v1 v2 v3 v4 v5) (Vs.mk x0 x1 x2 x3 x4 x5) 1) := Lib.hid (up_eq1 e)
        subst e
        go_wp2_with fail
        go_roundw
        case rel => exact ⟨2, by omega, by first | rfl | simp, by rw [HU.out]; exact hown, hbel⟩
        case measure => simp [intOf]
      · have HU : Hid (upL (Vs.mk v0 v1 v2 v3 v4 v5) (Vs.mk x0 x1 x2 x3 x4 x5) 2 = upL (Vs.mk v0 v1 v2 v3 v4 v5) (Vs.mk x0 x1 x2 x3 x4 x5) 1 ++ [(2, x1)]) := Lib.hid (up_ne1 e)
        have e2 : ¬ x1 = v1 := fun h => e h.symm
        go_wp2_with (at_builtin; refine wp_append_box rfl _ _ 24 rfl w2.heap.size 47 i0 _ 2 8 Try.underlying24 hi hz0 hz1 hz2 rfl (by decide) _ _ _ rfl hown 1 _ rfl rfl (by intro u hu; simp at hu; rcases hu with rfl | rfl <;> rfl) (by omega) (by decide) hsz ?_; intro v' wn hown1 hbel1)
        go_roundw
        case rel =>
          refine ⟨2, by omega, by first | rfl | simp, ?_, hbel.trans hbel1⟩
          rw [HU.out, List.length_append, List.flatMap_append]
          exact hown1
        case measure => simp [intOf]
    · obtain rfl : u28 = .int .i64 2 := hy
      have ix : ∀ w', (Instr.index 55 (.agg #[.int .i64 x0, .int .i64 x1, .int .i64 x2, .int .i64 x3, .int .i64 x4, .int .i64 x5]) (.int .i64 2)).run Try.prog w' = .ok (.int .i64 x2) w' := fun _ => by kernel_rfl
      by_cases e : v2 = x2
      · have HU : Hid (upL (Vs.mk v0 v1 v2 v3 v4 v5) (Vs.mk x0 x1 x2 x3 x4 x5) 3 = upL (Vs.mk v0 v1 v2 v3 v4 v5) (Vs.mk x0 x1 x2 x3 x4 x5) 2) := Lib.hid (up_eq2 e)
        subst e
        go_wp2_with fail
        go_roundw
        case rel => exact ⟨3, by omega, by first | rfl | simp, by rw [HU.out]; exact hown, hbel⟩
        case measure => simp [intOf]
      · have HU : Hid (upL (Vs.mk v0 v1 v2 v3 v4 v5) (Vs.mk x0 x1 x2 x3 x4 x5) 3 = upL (Vs.mk v0 v1 v2 v3 v4 v5) (Vs.mk x0 x1 x2 x3 x4 x5) 2 ++ [(3, x2)]) := Lib.hid (up_ne2 e)
        have e2 : ¬ x2 = v2 := fun h => e h.symm
        go_wp2_with (at_builtin; refine wp_append_box rfl _ _ 24 rfl w2.heap.size 47 i0 _ 2 8 Try.underlying24 hi hz0 hz1 hz2 rfl (by decide) _ _ _ rfl hown 1 _ rfl rfl (by intro u hu; simp at hu; rcases hu with rfl | rfl <;> rfl) (by omega) (by decide) hsz ?_; intro v' wn hown1 hbel1)
        go_roundw
        case rel =>
          refine ⟨3, by omega, by first | rfl | simp, ?_, hbel.trans hbel1⟩
          rw [HU.out, List.length_append, List.flatMap_append]
          exact hown1
        case measure => simp [intOf]
    · obtain rfl : u28 = .int .i64 3 := hy
      have ix : ∀ w', (Instr.index 55 (.agg #[.int .i64 x0, .int .i64 x1, .int .i64 x2, .int .i64 x3, .int .i64 x4, .int .i64 x5]) (.int .i64 3)).run Try.prog w' = .ok (.int .i64 x3) w' := fun _ => by kernel_rfl
      by_cases e : v3 = x3
      · have HU : Hid (upL (Vs.mk v0 v1 v2 v3 v4 v5) (Vs.mk x0 x1 x2 x3 x4 x5) 4 = upL (Vs.mk v0 v1 v2 v3 v4 v5) (Vs.mk x0 x1 x2 x3 x4 x5) 3) := Lib.hid (up_eq3 e)
        subst e
        go_wp2_with fail
        go_roundw
        case rel => exact ⟨4, by omega, by first | rfl | simp, by rw [HU.out]; exact hown, hbel⟩
        case measure => simp [intOf]
      · have HU : Hid (upL (Vs.mk v0 v1 v2 v3 v4 v5) (Vs.mk x0 x1 x2 x3 x4 x5) 4 = upL (Vs.mk v0 v1 v2 v3 v4 v5) (Vs.mk x0 x1 x2 x3 x4 x5) 3 ++ [(4, x3)]) := Lib.hid (up_ne3 e)
        have e2 : ¬ x3 = v3 := fun h => e h.symm
        go_wp2_with (at_builtin; refine wp_append_box rfl _ _ 24 rfl w2.heap.size 47 i0 _ 2 8 Try.underlying24 hi hz0 hz1 hz2 rfl (by decide) _ _ _ rfl hown 1 _ rfl rfl (by intro u hu; simp at hu; rcases hu with rfl | rfl <;> rfl) (by omega) (by decide) hsz ?_; intro v' wn hown1 hbel1)
        go_roundw
        case rel =>
          refine ⟨4, by omega, by first | rfl | simp, ?_, hbel.trans hbel1⟩
          rw [HU.out, List.length_append, List.flatMap_append]
          exact hown1
        case measure => simp [intOf]
    · obtain rfl : u28 = .int .i64 4 := hy
      have ix : ∀ w', (Instr.index 55 (.agg #[.int .i64 x0, .int .i64 x1, .int .i64 x2, .int .i64 x3, .int .i64 x4, .int .i64 x5]) (.int .i64 4)).run Try.prog w' = .ok (.int .i64 x4) w' := fun _ => by kernel_rfl
      by_cases e : v4 = x4
      · have HU : Hid (upL (Vs.mk v0 v1 v2 v3 v4 v5) (Vs.mk x0 x1 x2 x3 x4 x5) 5 = upL (Vs.mk v0 v1 v2 v3 v4 v5) (Vs.mk x0 x1 x2 x3 x4 x5) 4) := Lib.hid (up_eq4 e)
        subst e
        go_wp2_with fail
        go_roundw
        case rel => exact ⟨5, by omega, by first | rfl | simp, by rw [HU.out]; exact hown, hbel⟩
        case measure => simp [intOf]
      · have HU : Hid (upL (Vs.mk v0 v1 v2 v3 v4 v5) (Vs.mk x0 x1 x2 x3 x4 x5) 5 = upL (Vs.mk v0 v1 v2 v3 v4 v5) (Vs.mk x0 x1 x2 x3 x4 x5) 4 ++ [(5, x4)]) := Lib.hid (up_ne4 e)
        have e2 : ¬ x4 = v4 := fun h => e h.symm
        go_wp2_with (at_builtin; refine wp_append_box rfl _ _ 24 rfl w2.heap.size 47 i0 _ 2 8 Try.underlying24 hi hz0 hz1 hz2 rfl (by decide) _ _ _ rfl hown 1 _ rfl rfl (by intro u hu; simp at hu; rcases hu with rfl | rfl <;> rfl) (by omega) (by decide) hsz ?_; intro v' wn hown1 hbel1)
        go_roundw
        case rel =>
          refine ⟨5, by omega, by first | rfl | simp, ?_, hbel.trans hbel1⟩
          rw [HU.out, List.length_append, List.flatMap_append]
          exact hown1
        case measure => simp [intOf]
    · obtain rfl : u28 = .int .i64 5 := hy
      have ix : ∀ w', (Instr.index 55 (.agg #[.int .i64 x0, .int .i64 x1, .int .i64 x2, .int .i64 x3, .int .i64 x4, .int .i64 x5]) (.int .i64 5)).run Try.prog w' = .ok (.int .i64 x5) w' := fun _ => by kernel_rfl
      by_cases e : v5 = x5
      · have HU : Hid (upL (Vs.mk v0 v1 v2 v3 v4 v5) (Vs.mk x0 x1 x2 x3 x4 x5) 6 = upL (Vs.mk v0 v1 v2 v3 v4 v5) (Vs.mk x0 x1 x2 x3 x4 x5) 5) := Lib.hid (up_eq5 e)
        subst e
        go_wp2_with fail
        go_roundw
        case rel => exact ⟨6, by omega, by first | rfl | simp, by rw [HU.out]; exact hown, hbel⟩
        case measure => simp [intOf]
      · have HU : Hid (upL (Vs.mk v0 v1 v2 v3 v4 v5) (Vs.mk x0 x1 x2 x3 x4 x5) 6 = upL (Vs.mk v0 v1 v2 v3 v4 v5) (Vs.mk x0 x1 x2 x3 x4 x5) 5 ++ [(6, x5)]) := Lib.hid (up_ne5 e)
        have e2 : ¬ x5 = v5 := fun h => e h.symm
        go_wp2_with (at_builtin; refine wp_append_box rfl _ _ 24 rfl w2.heap.size 47 i0 _ 2 8 Try.underlying24 hi hz0 hz1 hz2 rfl (by decide) _ _ _ rfl hown 1 _ rfl rfl (by intro u hu; simp at hu; rcases hu with rfl | rfl <;> rfl) (by omega) (by decide) hsz ?_; intro v' wn hown1 hbel1)
        go_roundw
        case rel =>
          refine ⟨6, by omega, by first | rfl | simp, ?_, hbel.trans hbel1⟩
          rw [HU.out, List.length_append, List.flatMap_append]
          exact hown1
        case measure => simp [intOf]
    · obtain rfl : u28 = .int .i64 6 := hy
      have hL2 := Lib.hid (lo_trans hL hbel)
      have hL3 := Lib.hid hL
      clear hL hbel
      go_wp2_with fail
      go_ret
      exact ⟨w2.heap.size, _, hL3.out.size, hsz, rfl, by rw [HP.out]; exact hown, hL2.out⟩
end Go.Proofs.Ythjciimodemfpaa
