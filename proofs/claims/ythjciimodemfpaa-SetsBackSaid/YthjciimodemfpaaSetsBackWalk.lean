import Derived.Test.YthjciimodemfpaaPlain
import Derived.Test.YthjciimodemfpaaAwake
import Derived.Test.YthjciimodemfpaaSetsPairsWalk
namespace Go.Proofs.Ythjciimodemfpaa
open Go.RowKit
attribute [local go_sem ↓] Go.wp_at_zero Go.wp_at_succ

/-! Slices of rows. -/
theorem agg_sliced {α : Type} {nf : Nat} {C : α → List Value} {G : α → Prop} {w : World} {A : Option Addr} {len cap : Nat} {xs : List α} (h : AggRow nf C G w A len cap xs) (lo hi : Nat) (h1 : lo ≤ hi) (h2 : hi ≤ len) :
    AggRow nf C G w (if cap = lo then A else A.map (·.add (lo * nf))) (hi - lo) (cap - lo) ((xs.take hi).drop lo) := by
  obtain ⟨g1, g2, g3, g4, g5, g6⟩ := h
  refine ⟨?_, by omega, by omega, ?_, ?_, ?_⟩
  · rw [List.length_drop, List.length_take]; omega
  · intro hn
    split at hn
    · have := g4 hn; omega
    · have : A = none := by cases A; rfl; cases hn
      have := g4 this; omega
  · intro i x hx
    have hi' : i < ((xs.take hi).drop lo).length := (List.getElem?_eq_some_iff.1 hx).1
    rw [List.length_drop, List.length_take] at hi'
    rw [List.getElem?_drop, List.getElem?_take_of_lt (by omega)] at hx
    obtain ⟨b, off, rfl, hlt, hc⟩ := g5 (lo + i) x hx
    refine ⟨b, off + lo * nf, ?_, hlt, fun j u hu => ?_⟩
    · rw [if_neg (by omega)]
      simp only [Option.map_some, Option.some.injEq]
      exact add_none _ _ _
    · have := hc j u hu
      rw [Nat.add_mul] at this
      rw [show off + lo * nf + i * nf + j = off + (lo * nf + i * nf) + j by omega]
      exact this
  · intro x hx
    exact g6 x (List.mem_of_mem_take (List.mem_of_mem_drop hx))
theorem one_of {l : List (Int × Int)} {k : Nat} (h : k < l.length) : (l.take (k + 1)).drop k = [l[k]] := by
  rw [List.drop_take, Nat.add_sub_cancel_left, List.drop_eq_getElem_cons h]
  rfl
/-- One setting of a row. -/
theorem prs_one {w : World} {A : Option Addr} {len cap : Nat} {l : List (Int × Int)} (h : Prs w A len cap l) {k : Nat} (hk : k < l.length) (hkl : k < len) {b off : Nat} (hA : A = some ⟨b, off, none⟩) : Prs w (some ⟨b, off + k * 2, none⟩) 1 (cap - k) [l[k]] := by
  have h2 := agg_sliced h k (k + 1) (by omega) (by omega)
  have hc : ¬ cap = k := by have := h.2.1; omega
  rw [if_neg hc, one_of hk, Nat.add_sub_cancel_left, hA] at h2
  simp only [Option.map_some, add_none] at h2
  exact h2
set_option maxRecDepth 100000 in
set_option maxHeartbeats 3200000 in
theorem back_walk (v x : Vs) (a2 : Option Addr) (len2 cap2 : Nat) (l : List (Int × Int)) (w : World) (w2 : Prs w a2 len2 cap2 l) :
    Calls Try.prog 5 #[.agg #[.int .i64 v.table, .int .i64 v.push, .int .i64 v.streams, .int .i64 v.window, .int .i64 v.frame, .int .i64 v.list], .agg #[.int .i64 x.table, .int .i64 x.push, .int .i64 x.streams, .int .i64 x.window, .int .i64 x.frame, .int .i64 x.list], .slice a2 len2 cap2] w fun e w' => e = .returned (.bool true) ∧ Below w.heap.size w w' := by
  have HA : Hid (∀ w0, Calls Try.prog 7 #[] w0 (AwakePost w0)) := awake_any
  have HL := Lib.hid w2
  have hll := w2.1
  have HLW := Lib.hid w2.2.2.2.2.2
  clear w2
  have hV := (Blk.new w 23 #[.int .i64 v.table, .int .i64 v.push, .int .i64 v.streams, .int .i64 v.window, .int .i64 v.frame, .int .i64 v.list]).alloc (.cells #[.int .i64 x.table, .int .i64 x.push, .int .i64 x.streams, .int .i64 x.window, .int .i64 x.frame, .int .i64 x.list] 23)
  have hX := Blk.new (w.alloc (.cells #[.int .i64 v.table, .int .i64 v.push, .int .i64 v.streams, .int .i64 v.window, .int .i64 v.frame, .int .i64 v.list] 23)) 23 #[.int .i64 x.table, .int .i64 x.push, .int .i64 x.streams, .int .i64 x.window, .int .i64 x.frame, .int .i64 x.list]
  have hL := lo_alloc (lo_alloc (lo_refl w) (.cells #[.int .i64 v.table, .int .i64 v.push, .int .i64 v.streams, .int .i64 v.window, .int .i64 v.frame, .int .i64 v.list] 23)) (.cells #[.int .i64 x.table, .int .i64 x.push, .int .i64 x.streams, .int .i64 x.window, .int .i64 x.frame, .int .i64 x.list] 23)
  simp only [World.size_alloc] at hX
  have HC1 : Hid (∀ w0, Calls Try.prog 10 #[.agg #[.int .i64 v.table, .int .i64 v.push, .int .i64 v.streams, .int .i64 v.window, .int .i64 v.frame, .int .i64 v.list]] w0 (IntPost w0 v.err)) := check_any v
  have HC2 : Hid (∀ w0, Calls Try.prog 10 #[.agg #[.int .i64 x.table, .int .i64 x.push, .int .i64 x.streams, .int .i64 x.window, .int .i64 x.frame, .int .i64 x.list]] w0 (IntPost w0 x.err)) := check_any x
  go_enter Try.func5, Try.ntmps5
  go_upto_region 1 with fail
  go_cut [7, 8] (fun u t wc => ∃ gA gB, u = .pointer (some ⟨gA, 0, none⟩) ∧ t = .pointer (some ⟨gB, 0, none⟩) ∧ Blk wc gA 26 #[.int .i64 v.table, .int .i64 v.push, .int .i64 v.streams, .int .i64 v.window, .int .i64 v.frame, .int .i64 v.list] ∧ Blk wc gB 26 #[.int .i64 x.table, .int .i64 x.push, .int .i64 x.streams, .int .i64 x.window, .int .i64 x.frame, .int .i64 x.list] ∧ Below w.heap.size w wc)
  case first =>
    clear HC1 HC2 HA HL HLW
    generalize (w.alloc (.cells #[.int .i64 v.table, .int .i64 v.push, .int .i64 v.streams, .int .i64 v.window, .int .i64 v.frame, .int .i64 v.list] 23)).alloc (.cells #[.int .i64 x.table, .int .i64 x.push, .int .i64 x.streams, .int .i64 x.window, .int .i64 x.frame, .int .i64 x.list] 23) = w0 at hV hX hL ⊢
    refine wp_region_held_drew (S := (fun W => W.cell? ⟨w.heap.size, 0, none⟩ = some (.int .i64 v.table) ∧ W.cell? ⟨w.heap.size, 1, none⟩ = some (.int .i64 v.push) ∧ W.cell? ⟨w.heap.size, 2, none⟩ = some (.int .i64 v.streams) ∧ W.cell? ⟨w.heap.size, 3, none⟩ = some (.int .i64 v.window) ∧ W.cell? ⟨w.heap.size, 4, none⟩ = some (.int .i64 v.frame) ∧ W.cell? ⟨w.heap.size, 5, none⟩ = some (.int .i64 v.list) ∧ w.heap.size < W.heap.size ∧ W.cell? ⟨w.heap.size + 1, 0, none⟩ = some (.int .i64 x.table) ∧ W.cell? ⟨w.heap.size + 1, 1, none⟩ = some (.int .i64 x.push) ∧ W.cell? ⟨w.heap.size + 1, 2, none⟩ = some (.int .i64 x.streams) ∧ W.cell? ⟨w.heap.size + 1, 3, none⟩ = some (.int .i64 x.window) ∧ W.cell? ⟨w.heap.size + 1, 4, none⟩ = some (.int .i64 x.frame) ∧ W.cell? ⟨w.heap.size + 1, 5, none⟩ = some (.int .i64 x.list) ∧ w.heap.size + 1 < W.heap.size)) (by kernel_rfl) ?_ (fun hHeld => ?_)
    focus ((try dsimp only); (have q := hV.facts.1; have r := hX.facts.1; exact ⟨q 0, q 1, q 2, q 3, q 4, q 5, hV.lt, r 0, r 1, r 2, r 3, r 4, r 5, hX.lt⟩))
    replace hV : Blk w0.drew _ _ _ := hV
    replace hX : Blk w0.drew _ _ _ := hX
    replace hL := lo_drew hL
    generalize w0.drew = wd at hV hX hL hHeld ⊢
    first
    | (refine wpAnyH_take (i := 0) (oi := _) (v := ?_) (getop rfl) (by kernel_rfl) (by kernel_rfl) (by kernel_rfl) (fun _ _ _ h => h) (Or.inl ⟨by rfl, ?_⟩) (by assumption) ?_; rotate_left; focus (intro w hSw; (try dsimp only at hSw); go_simp; (try with_reducible rfl); done))
    (try simp only [Act.put, List.setIfInBounds_toArray, List.set_cons_zero, List.set_cons_succ])
    first
    | (refine wpAnyH_take (i := 1) (oi := _) (v := ?_) (getop rfl) (by kernel_rfl) (by kernel_rfl) (by kernel_rfl) (fun _ _ _ h => h) (Or.inl ⟨by rfl, ?_⟩) (by assumption) ?_; rotate_left; focus (intro w hSw; (try dsimp only at hSw); go_simp; (try with_reducible rfl); done))
    (try simp only [Act.put, List.setIfInBounds_toArray, List.set_cons_zero, List.set_cons_succ])
    refine wpAnyH_ready (rs := [2, 3]) (by kernel_rfl) (by simp) ?_
    refine (AllReadyH.cons (o := _) (getop rfl) (fun K hK => ?_) (AllReadyH.cons (o := _) (getop rfl) (fun K hK => ?_) AllReadyH.nil))
    · go_simp
      have hA := Blk.new wd 26 #[.int .i64 0, .int .i64 0, .int .i64 0, .int .i64 0, .int .i64 0, .int .i64 0]
      have zA : w.heap.size ≤ wd.heap.size := hL.size
      have qVA := hV.lt
      have qXA := hX.lt
      replace hV := hV.alloc (.cells #[.int .i64 0, .int .i64 0, .int .i64 0, .int .i64 0, .int .i64 0, .int .i64 0] 26)
      replace hX := hX.alloc (.cells #[.int .i64 0, .int .i64 0, .int .i64 0, .int .i64 0, .int .i64 0, .int .i64 0] 26)
      replace hL := lo_alloc hL (.cells #[.int .i64 0, .int .i64 0, .int .i64 0, .int .i64 0, .int .i64 0, .int .i64 0] 26)
      generalize wd.heap.size = gA at hA zA qVA qXA ⊢
      generalize wd.alloc (.cells #[.int .i64 0, .int .i64 0, .int .i64 0, .int .i64 0, .int .i64 0, .int .i64 0] 26) = wd1 at hV hX hA hL ⊢
      refine hK.out _ _ ?_ (fun hHeld2 => ?_)
      focus ((try dsimp only); (have q := hV.facts.1; have r := hX.facts.1; exact ⟨q 0, q 1, q 2, q 3, q 4, q 5, hV.lt, r 0, r 1, r 2, r 3, r 4, r 5, hX.lt⟩))
      clear hK K hHeld
      have hHeld := hHeld2
      clear hHeld2
      (try simp only [Act.put, List.setIfInBounds_toArray, List.set_cons_zero, List.set_cons_succ])
      refine wpAnyH_ready (rs := [3]) (by kernel_rfl) (by simp) ?_
      refine (AllReadyH.cons (o := _) (getop rfl) (fun K hK => ?_) AllReadyH.nil)
      go_simp
      have hB := Blk.new wd1 26 #[.int .i64 0, .int .i64 0, .int .i64 0, .int .i64 0, .int .i64 0, .int .i64 0]
      have zB : w.heap.size ≤ wd1.heap.size := hL.size
      have qVB := hV.lt
      have qXB := hX.lt
      have qAB := hA.lt
      replace hV := hV.alloc (.cells #[.int .i64 0, .int .i64 0, .int .i64 0, .int .i64 0, .int .i64 0, .int .i64 0] 26)
      replace hX := hX.alloc (.cells #[.int .i64 0, .int .i64 0, .int .i64 0, .int .i64 0, .int .i64 0, .int .i64 0] 26)
      replace hA := hA.alloc (.cells #[.int .i64 0, .int .i64 0, .int .i64 0, .int .i64 0, .int .i64 0, .int .i64 0] 26)
      replace hL := lo_alloc hL (.cells #[.int .i64 0, .int .i64 0, .int .i64 0, .int .i64 0, .int .i64 0, .int .i64 0] 26)
      generalize wd1.heap.size = gB at hB zB qVB qXB qAB ⊢
      generalize wd1.alloc (.cells #[.int .i64 0, .int .i64 0, .int .i64 0, .int .i64 0, .int .i64 0, .int .i64 0] 26) = wd2 at hV hX hA hB hL ⊢
      refine hK.out _ _ ?_ (fun hHeld3 => ?_)
      focus ((try dsimp only); (have q := hV.facts.1; have r := hX.facts.1; exact ⟨q 0, q 1, q 2, q 3, q 4, q 5, hV.lt, r 0, r 1, r 2, r 3, r 4, r 5, hX.lt⟩))
      clear hK K hHeld
      have hHeld := hHeld3
      clear hHeld3
      (try simp only [Act.put, List.setIfInBounds_toArray, List.set_cons_zero, List.set_cons_succ])
      refine wpAnyH_ready (rs := [4]) (by kernel_rfl) (by simp) ?_
      refine (AllReadyH.cons (o := _) (getop rfl) (fun K hK => ?_) AllReadyH.nil)
      obtain ⟨cT, fT⟩ := hA.facts
      have lT := hA.lt
      go_simp
      clear cT fT lT
      replace hV := hV.far (p := ⟨gA, 0, none⟩) (by dsimp only; omega) (.int .i64 v.table)
      replace hX := hX.far (p := ⟨gA, 0, none⟩) (by dsimp only; omega) (.int .i64 v.table)
      replace hB := hB.far (p := ⟨gA, 0, none⟩) (by dsimp only; omega) (.int .i64 v.table)
      replace hA := hA.set_ 0 (.int .i64 v.table)
      replace hL := lo_set hL (p := ⟨gA, 0, none⟩) (by dsimp only; omega) (.int .i64 v.table)
      replace hV := hV.far (p := ⟨gA, 1, none⟩) (by dsimp only; omega) (.int .i64 v.push)
      replace hX := hX.far (p := ⟨gA, 1, none⟩) (by dsimp only; omega) (.int .i64 v.push)
      replace hB := hB.far (p := ⟨gA, 1, none⟩) (by dsimp only; omega) (.int .i64 v.push)
      replace hA := hA.set_ 1 (.int .i64 v.push)
      replace hL := lo_set hL (p := ⟨gA, 1, none⟩) (by dsimp only; omega) (.int .i64 v.push)
      replace hV := hV.far (p := ⟨gA, 2, none⟩) (by dsimp only; omega) (.int .i64 v.streams)
      replace hX := hX.far (p := ⟨gA, 2, none⟩) (by dsimp only; omega) (.int .i64 v.streams)
      replace hB := hB.far (p := ⟨gA, 2, none⟩) (by dsimp only; omega) (.int .i64 v.streams)
      replace hA := hA.set_ 2 (.int .i64 v.streams)
      replace hL := lo_set hL (p := ⟨gA, 2, none⟩) (by dsimp only; omega) (.int .i64 v.streams)
      replace hV := hV.far (p := ⟨gA, 3, none⟩) (by dsimp only; omega) (.int .i64 v.window)
      replace hX := hX.far (p := ⟨gA, 3, none⟩) (by dsimp only; omega) (.int .i64 v.window)
      replace hB := hB.far (p := ⟨gA, 3, none⟩) (by dsimp only; omega) (.int .i64 v.window)
      replace hA := hA.set_ 3 (.int .i64 v.window)
      replace hL := lo_set hL (p := ⟨gA, 3, none⟩) (by dsimp only; omega) (.int .i64 v.window)
      replace hV := hV.far (p := ⟨gA, 4, none⟩) (by dsimp only; omega) (.int .i64 v.frame)
      replace hX := hX.far (p := ⟨gA, 4, none⟩) (by dsimp only; omega) (.int .i64 v.frame)
      replace hB := hB.far (p := ⟨gA, 4, none⟩) (by dsimp only; omega) (.int .i64 v.frame)
      replace hA := hA.set_ 4 (.int .i64 v.frame)
      replace hL := lo_set hL (p := ⟨gA, 4, none⟩) (by dsimp only; omega) (.int .i64 v.frame)
      replace hV := hV.far (p := ⟨gA, 5, none⟩) (by dsimp only; omega) (.int .i64 v.list)
      replace hX := hX.far (p := ⟨gA, 5, none⟩) (by dsimp only; omega) (.int .i64 v.list)
      replace hB := hB.far (p := ⟨gA, 5, none⟩) (by dsimp only; omega) (.int .i64 v.list)
      replace hA := hA.set_ 5 (.int .i64 v.list)
      replace hL := lo_set hL (p := ⟨gA, 5, none⟩) (by dsimp only; omega) (.int .i64 v.list)
      replace hA : Blk ((((((wd2.setCell ⟨gA, 0, none⟩ (.int .i64 v.table)).setCell ⟨gA, 1, none⟩ (.int .i64 v.push)).setCell ⟨gA, 2, none⟩ (.int .i64 v.streams)).setCell ⟨gA, 3, none⟩ (.int .i64 v.window)).setCell ⟨gA, 4, none⟩ (.int .i64 v.frame)).setCell ⟨gA, 5, none⟩ (.int .i64 v.list)) gA 26 #[.int .i64 v.table, .int .i64 v.push, .int .i64 v.streams, .int .i64 v.window, .int .i64 v.frame, .int .i64 v.list] := by simpa using hA
      generalize ((((((wd2.setCell ⟨gA, 0, none⟩ (.int .i64 v.table)).setCell ⟨gA, 1, none⟩ (.int .i64 v.push)).setCell ⟨gA, 2, none⟩ (.int .i64 v.streams)).setCell ⟨gA, 3, none⟩ (.int .i64 v.window)).setCell ⟨gA, 4, none⟩ (.int .i64 v.frame)).setCell ⟨gA, 5, none⟩ (.int .i64 v.list)) = wd3 at hV hX hB hA hL ⊢
      refine hK.out _ _ ?_ (fun hHeld4 => ?_)
      focus ((try dsimp only); (have q := hV.facts.1; have r := hX.facts.1; exact ⟨q 0, q 1, q 2, q 3, q 4, q 5, hV.lt, r 0, r 1, r 2, r 3, r 4, r 5, hX.lt⟩))
      clear hK K hHeld
      have hHeld := hHeld4
      clear hHeld4
      (try simp only [Act.put, List.setIfInBounds_toArray, List.set_cons_zero, List.set_cons_succ])
      refine wpAnyH_ready (rs := [5]) (by kernel_rfl) (by simp) ?_
      refine (AllReadyH.cons (o := _) (getop rfl) (fun K hK => ?_) AllReadyH.nil)
      obtain ⟨cT, fT⟩ := hB.facts
      have lT := hB.lt
      go_simp
      clear cT fT lT
      replace hV := hV.far (p := ⟨gB, 0, none⟩) (by dsimp only; omega) (.int .i64 x.table)
      replace hX := hX.far (p := ⟨gB, 0, none⟩) (by dsimp only; omega) (.int .i64 x.table)
      replace hA := hA.far (p := ⟨gB, 0, none⟩) (by dsimp only; omega) (.int .i64 x.table)
      replace hB := hB.set_ 0 (.int .i64 x.table)
      replace hL := lo_set hL (p := ⟨gB, 0, none⟩) (by dsimp only; omega) (.int .i64 x.table)
      replace hV := hV.far (p := ⟨gB, 1, none⟩) (by dsimp only; omega) (.int .i64 x.push)
      replace hX := hX.far (p := ⟨gB, 1, none⟩) (by dsimp only; omega) (.int .i64 x.push)
      replace hA := hA.far (p := ⟨gB, 1, none⟩) (by dsimp only; omega) (.int .i64 x.push)
      replace hB := hB.set_ 1 (.int .i64 x.push)
      replace hL := lo_set hL (p := ⟨gB, 1, none⟩) (by dsimp only; omega) (.int .i64 x.push)
      replace hV := hV.far (p := ⟨gB, 2, none⟩) (by dsimp only; omega) (.int .i64 x.streams)
      replace hX := hX.far (p := ⟨gB, 2, none⟩) (by dsimp only; omega) (.int .i64 x.streams)
      replace hA := hA.far (p := ⟨gB, 2, none⟩) (by dsimp only; omega) (.int .i64 x.streams)
      replace hB := hB.set_ 2 (.int .i64 x.streams)
      replace hL := lo_set hL (p := ⟨gB, 2, none⟩) (by dsimp only; omega) (.int .i64 x.streams)
      replace hV := hV.far (p := ⟨gB, 3, none⟩) (by dsimp only; omega) (.int .i64 x.window)
      replace hX := hX.far (p := ⟨gB, 3, none⟩) (by dsimp only; omega) (.int .i64 x.window)
      replace hA := hA.far (p := ⟨gB, 3, none⟩) (by dsimp only; omega) (.int .i64 x.window)
      replace hB := hB.set_ 3 (.int .i64 x.window)
      replace hL := lo_set hL (p := ⟨gB, 3, none⟩) (by dsimp only; omega) (.int .i64 x.window)
      replace hV := hV.far (p := ⟨gB, 4, none⟩) (by dsimp only; omega) (.int .i64 x.frame)
      replace hX := hX.far (p := ⟨gB, 4, none⟩) (by dsimp only; omega) (.int .i64 x.frame)
      replace hA := hA.far (p := ⟨gB, 4, none⟩) (by dsimp only; omega) (.int .i64 x.frame)
      replace hB := hB.set_ 4 (.int .i64 x.frame)
      replace hL := lo_set hL (p := ⟨gB, 4, none⟩) (by dsimp only; omega) (.int .i64 x.frame)
      replace hV := hV.far (p := ⟨gB, 5, none⟩) (by dsimp only; omega) (.int .i64 x.list)
      replace hX := hX.far (p := ⟨gB, 5, none⟩) (by dsimp only; omega) (.int .i64 x.list)
      replace hA := hA.far (p := ⟨gB, 5, none⟩) (by dsimp only; omega) (.int .i64 x.list)
      replace hB := hB.set_ 5 (.int .i64 x.list)
      replace hL := lo_set hL (p := ⟨gB, 5, none⟩) (by dsimp only; omega) (.int .i64 x.list)
      replace hB : Blk ((((((wd3.setCell ⟨gB, 0, none⟩ (.int .i64 x.table)).setCell ⟨gB, 1, none⟩ (.int .i64 x.push)).setCell ⟨gB, 2, none⟩ (.int .i64 x.streams)).setCell ⟨gB, 3, none⟩ (.int .i64 x.window)).setCell ⟨gB, 4, none⟩ (.int .i64 x.frame)).setCell ⟨gB, 5, none⟩ (.int .i64 x.list)) gB 26 #[.int .i64 x.table, .int .i64 x.push, .int .i64 x.streams, .int .i64 x.window, .int .i64 x.frame, .int .i64 x.list] := by simpa using hB
      generalize ((((((wd3.setCell ⟨gB, 0, none⟩ (.int .i64 x.table)).setCell ⟨gB, 1, none⟩ (.int .i64 x.push)).setCell ⟨gB, 2, none⟩ (.int .i64 x.streams)).setCell ⟨gB, 3, none⟩ (.int .i64 x.window)).setCell ⟨gB, 4, none⟩ (.int .i64 x.frame)).setCell ⟨gB, 5, none⟩ (.int .i64 x.list)) = wd4 at hV hX hA hB hL ⊢
      refine hK.out _ _ ?_ (fun hHeld5 => ?_)
      focus ((try dsimp only); (have q := hV.facts.1; have r := hX.facts.1; exact ⟨q 0, q 1, q 2, q 3, q 4, q 5, hV.lt, r 0, r 1, r 2, r 3, r 4, r 5, hX.lt⟩))
      clear hK K hHeld
      have hHeld := hHeld5
      clear hHeld5
      (try simp only [Act.put, List.setIfInBounds_toArray, List.set_cons_zero, List.set_cons_succ])
      refine wpAnyH_done (by kernel_rfl) ?_ _
      go_wp2_with fail
      go_meet
      exact ⟨gA, gB, rfl, rfl, hA, hB, hL⟩
    · go_simp
      have hB := Blk.new wd 26 #[.int .i64 0, .int .i64 0, .int .i64 0, .int .i64 0, .int .i64 0, .int .i64 0]
      have zB : w.heap.size ≤ wd.heap.size := hL.size
      have qVB := hV.lt
      have qXB := hX.lt
      replace hV := hV.alloc (.cells #[.int .i64 0, .int .i64 0, .int .i64 0, .int .i64 0, .int .i64 0, .int .i64 0] 26)
      replace hX := hX.alloc (.cells #[.int .i64 0, .int .i64 0, .int .i64 0, .int .i64 0, .int .i64 0, .int .i64 0] 26)
      replace hL := lo_alloc hL (.cells #[.int .i64 0, .int .i64 0, .int .i64 0, .int .i64 0, .int .i64 0, .int .i64 0] 26)
      generalize wd.heap.size = gB at hB zB qVB qXB ⊢
      generalize wd.alloc (.cells #[.int .i64 0, .int .i64 0, .int .i64 0, .int .i64 0, .int .i64 0, .int .i64 0] 26) = wd1 at hV hX hB hL ⊢
      refine hK.out _ _ ?_ (fun hHeld3 => ?_)
      focus ((try dsimp only); (have q := hV.facts.1; have r := hX.facts.1; exact ⟨q 0, q 1, q 2, q 3, q 4, q 5, hV.lt, r 0, r 1, r 2, r 3, r 4, r 5, hX.lt⟩))
      clear hK K hHeld
      have hHeld := hHeld3
      clear hHeld3
      (try simp only [Act.put, List.setIfInBounds_toArray, List.set_cons_zero, List.set_cons_succ])
      refine wpAnyH_ready (rs := [2]) (by kernel_rfl) (by simp) ?_
      refine (AllReadyH.cons (o := _) (getop rfl) (fun K hK => ?_) AllReadyH.nil)
      go_simp
      have hA := Blk.new wd1 26 #[.int .i64 0, .int .i64 0, .int .i64 0, .int .i64 0, .int .i64 0, .int .i64 0]
      have zA : w.heap.size ≤ wd1.heap.size := hL.size
      have qVA := hV.lt
      have qXA := hX.lt
      have qBA := hB.lt
      replace hV := hV.alloc (.cells #[.int .i64 0, .int .i64 0, .int .i64 0, .int .i64 0, .int .i64 0, .int .i64 0] 26)
      replace hX := hX.alloc (.cells #[.int .i64 0, .int .i64 0, .int .i64 0, .int .i64 0, .int .i64 0, .int .i64 0] 26)
      replace hB := hB.alloc (.cells #[.int .i64 0, .int .i64 0, .int .i64 0, .int .i64 0, .int .i64 0, .int .i64 0] 26)
      replace hL := lo_alloc hL (.cells #[.int .i64 0, .int .i64 0, .int .i64 0, .int .i64 0, .int .i64 0, .int .i64 0] 26)
      generalize wd1.heap.size = gA at hA zA qVA qXA qBA ⊢
      generalize wd1.alloc (.cells #[.int .i64 0, .int .i64 0, .int .i64 0, .int .i64 0, .int .i64 0, .int .i64 0] 26) = wd2 at hV hX hB hA hL ⊢
      refine hK.out _ _ ?_ (fun hHeld2 => ?_)
      focus ((try dsimp only); (have q := hV.facts.1; have r := hX.facts.1; exact ⟨q 0, q 1, q 2, q 3, q 4, q 5, hV.lt, r 0, r 1, r 2, r 3, r 4, r 5, hX.lt⟩))
      clear hK K hHeld
      have hHeld := hHeld2
      clear hHeld2
      (try simp only [Act.put, List.setIfInBounds_toArray, List.set_cons_zero, List.set_cons_succ])
      refine wpAnyH_ready (rs := [4]) (by kernel_rfl) (by simp) ?_
      refine (AllReadyH.cons (o := _) (getop rfl) (fun K hK => ?_) AllReadyH.nil)
      obtain ⟨cT, fT⟩ := hA.facts
      have lT := hA.lt
      go_simp
      clear cT fT lT
      replace hV := hV.far (p := ⟨gA, 0, none⟩) (by dsimp only; omega) (.int .i64 v.table)
      replace hX := hX.far (p := ⟨gA, 0, none⟩) (by dsimp only; omega) (.int .i64 v.table)
      replace hB := hB.far (p := ⟨gA, 0, none⟩) (by dsimp only; omega) (.int .i64 v.table)
      replace hA := hA.set_ 0 (.int .i64 v.table)
      replace hL := lo_set hL (p := ⟨gA, 0, none⟩) (by dsimp only; omega) (.int .i64 v.table)
      replace hV := hV.far (p := ⟨gA, 1, none⟩) (by dsimp only; omega) (.int .i64 v.push)
      replace hX := hX.far (p := ⟨gA, 1, none⟩) (by dsimp only; omega) (.int .i64 v.push)
      replace hB := hB.far (p := ⟨gA, 1, none⟩) (by dsimp only; omega) (.int .i64 v.push)
      replace hA := hA.set_ 1 (.int .i64 v.push)
      replace hL := lo_set hL (p := ⟨gA, 1, none⟩) (by dsimp only; omega) (.int .i64 v.push)
      replace hV := hV.far (p := ⟨gA, 2, none⟩) (by dsimp only; omega) (.int .i64 v.streams)
      replace hX := hX.far (p := ⟨gA, 2, none⟩) (by dsimp only; omega) (.int .i64 v.streams)
      replace hB := hB.far (p := ⟨gA, 2, none⟩) (by dsimp only; omega) (.int .i64 v.streams)
      replace hA := hA.set_ 2 (.int .i64 v.streams)
      replace hL := lo_set hL (p := ⟨gA, 2, none⟩) (by dsimp only; omega) (.int .i64 v.streams)
      replace hV := hV.far (p := ⟨gA, 3, none⟩) (by dsimp only; omega) (.int .i64 v.window)
      replace hX := hX.far (p := ⟨gA, 3, none⟩) (by dsimp only; omega) (.int .i64 v.window)
      replace hB := hB.far (p := ⟨gA, 3, none⟩) (by dsimp only; omega) (.int .i64 v.window)
      replace hA := hA.set_ 3 (.int .i64 v.window)
      replace hL := lo_set hL (p := ⟨gA, 3, none⟩) (by dsimp only; omega) (.int .i64 v.window)
      replace hV := hV.far (p := ⟨gA, 4, none⟩) (by dsimp only; omega) (.int .i64 v.frame)
      replace hX := hX.far (p := ⟨gA, 4, none⟩) (by dsimp only; omega) (.int .i64 v.frame)
      replace hB := hB.far (p := ⟨gA, 4, none⟩) (by dsimp only; omega) (.int .i64 v.frame)
      replace hA := hA.set_ 4 (.int .i64 v.frame)
      replace hL := lo_set hL (p := ⟨gA, 4, none⟩) (by dsimp only; omega) (.int .i64 v.frame)
      replace hV := hV.far (p := ⟨gA, 5, none⟩) (by dsimp only; omega) (.int .i64 v.list)
      replace hX := hX.far (p := ⟨gA, 5, none⟩) (by dsimp only; omega) (.int .i64 v.list)
      replace hB := hB.far (p := ⟨gA, 5, none⟩) (by dsimp only; omega) (.int .i64 v.list)
      replace hA := hA.set_ 5 (.int .i64 v.list)
      replace hL := lo_set hL (p := ⟨gA, 5, none⟩) (by dsimp only; omega) (.int .i64 v.list)
      replace hA : Blk ((((((wd2.setCell ⟨gA, 0, none⟩ (.int .i64 v.table)).setCell ⟨gA, 1, none⟩ (.int .i64 v.push)).setCell ⟨gA, 2, none⟩ (.int .i64 v.streams)).setCell ⟨gA, 3, none⟩ (.int .i64 v.window)).setCell ⟨gA, 4, none⟩ (.int .i64 v.frame)).setCell ⟨gA, 5, none⟩ (.int .i64 v.list)) gA 26 #[.int .i64 v.table, .int .i64 v.push, .int .i64 v.streams, .int .i64 v.window, .int .i64 v.frame, .int .i64 v.list] := by simpa using hA
      generalize ((((((wd2.setCell ⟨gA, 0, none⟩ (.int .i64 v.table)).setCell ⟨gA, 1, none⟩ (.int .i64 v.push)).setCell ⟨gA, 2, none⟩ (.int .i64 v.streams)).setCell ⟨gA, 3, none⟩ (.int .i64 v.window)).setCell ⟨gA, 4, none⟩ (.int .i64 v.frame)).setCell ⟨gA, 5, none⟩ (.int .i64 v.list)) = wd3 at hV hX hB hA hL ⊢
      refine hK.out _ _ ?_ (fun hHeld4 => ?_)
      focus ((try dsimp only); (have q := hV.facts.1; have r := hX.facts.1; exact ⟨q 0, q 1, q 2, q 3, q 4, q 5, hV.lt, r 0, r 1, r 2, r 3, r 4, r 5, hX.lt⟩))
      clear hK K hHeld
      have hHeld := hHeld4
      clear hHeld4
      (try simp only [Act.put, List.setIfInBounds_toArray, List.set_cons_zero, List.set_cons_succ])
      refine wpAnyH_ready (rs := [5]) (by kernel_rfl) (by simp) ?_
      refine (AllReadyH.cons (o := _) (getop rfl) (fun K hK => ?_) AllReadyH.nil)
      obtain ⟨cT, fT⟩ := hB.facts
      have lT := hB.lt
      go_simp
      clear cT fT lT
      replace hV := hV.far (p := ⟨gB, 0, none⟩) (by dsimp only; omega) (.int .i64 x.table)
      replace hX := hX.far (p := ⟨gB, 0, none⟩) (by dsimp only; omega) (.int .i64 x.table)
      replace hA := hA.far (p := ⟨gB, 0, none⟩) (by dsimp only; omega) (.int .i64 x.table)
      replace hB := hB.set_ 0 (.int .i64 x.table)
      replace hL := lo_set hL (p := ⟨gB, 0, none⟩) (by dsimp only; omega) (.int .i64 x.table)
      replace hV := hV.far (p := ⟨gB, 1, none⟩) (by dsimp only; omega) (.int .i64 x.push)
      replace hX := hX.far (p := ⟨gB, 1, none⟩) (by dsimp only; omega) (.int .i64 x.push)
      replace hA := hA.far (p := ⟨gB, 1, none⟩) (by dsimp only; omega) (.int .i64 x.push)
      replace hB := hB.set_ 1 (.int .i64 x.push)
      replace hL := lo_set hL (p := ⟨gB, 1, none⟩) (by dsimp only; omega) (.int .i64 x.push)
      replace hV := hV.far (p := ⟨gB, 2, none⟩) (by dsimp only; omega) (.int .i64 x.streams)
      replace hX := hX.far (p := ⟨gB, 2, none⟩) (by dsimp only; omega) (.int .i64 x.streams)
      replace hA := hA.far (p := ⟨gB, 2, none⟩) (by dsimp only; omega) (.int .i64 x.streams)
      replace hB := hB.set_ 2 (.int .i64 x.streams)
      replace hL := lo_set hL (p := ⟨gB, 2, none⟩) (by dsimp only; omega) (.int .i64 x.streams)
      replace hV := hV.far (p := ⟨gB, 3, none⟩) (by dsimp only; omega) (.int .i64 x.window)
      replace hX := hX.far (p := ⟨gB, 3, none⟩) (by dsimp only; omega) (.int .i64 x.window)
      replace hA := hA.far (p := ⟨gB, 3, none⟩) (by dsimp only; omega) (.int .i64 x.window)
      replace hB := hB.set_ 3 (.int .i64 x.window)
      replace hL := lo_set hL (p := ⟨gB, 3, none⟩) (by dsimp only; omega) (.int .i64 x.window)
      replace hV := hV.far (p := ⟨gB, 4, none⟩) (by dsimp only; omega) (.int .i64 x.frame)
      replace hX := hX.far (p := ⟨gB, 4, none⟩) (by dsimp only; omega) (.int .i64 x.frame)
      replace hA := hA.far (p := ⟨gB, 4, none⟩) (by dsimp only; omega) (.int .i64 x.frame)
      replace hB := hB.set_ 4 (.int .i64 x.frame)
      replace hL := lo_set hL (p := ⟨gB, 4, none⟩) (by dsimp only; omega) (.int .i64 x.frame)
      replace hV := hV.far (p := ⟨gB, 5, none⟩) (by dsimp only; omega) (.int .i64 x.list)
      replace hX := hX.far (p := ⟨gB, 5, none⟩) (by dsimp only; omega) (.int .i64 x.list)
      replace hA := hA.far (p := ⟨gB, 5, none⟩) (by dsimp only; omega) (.int .i64 x.list)
      replace hB := hB.set_ 5 (.int .i64 x.list)
      replace hL := lo_set hL (p := ⟨gB, 5, none⟩) (by dsimp only; omega) (.int .i64 x.list)
      replace hB : Blk ((((((wd3.setCell ⟨gB, 0, none⟩ (.int .i64 x.table)).setCell ⟨gB, 1, none⟩ (.int .i64 x.push)).setCell ⟨gB, 2, none⟩ (.int .i64 x.streams)).setCell ⟨gB, 3, none⟩ (.int .i64 x.window)).setCell ⟨gB, 4, none⟩ (.int .i64 x.frame)).setCell ⟨gB, 5, none⟩ (.int .i64 x.list)) gB 26 #[.int .i64 x.table, .int .i64 x.push, .int .i64 x.streams, .int .i64 x.window, .int .i64 x.frame, .int .i64 x.list] := by simpa using hB
      generalize ((((((wd3.setCell ⟨gB, 0, none⟩ (.int .i64 x.table)).setCell ⟨gB, 1, none⟩ (.int .i64 x.push)).setCell ⟨gB, 2, none⟩ (.int .i64 x.streams)).setCell ⟨gB, 3, none⟩ (.int .i64 x.window)).setCell ⟨gB, 4, none⟩ (.int .i64 x.frame)).setCell ⟨gB, 5, none⟩ (.int .i64 x.list)) = wd4 at hV hX hA hB hL ⊢
      refine hK.out _ _ ?_ (fun hHeld5 => ?_)
      focus ((try dsimp only); (have q := hV.facts.1; have r := hX.facts.1; exact ⟨q 0, q 1, q 2, q 3, q 4, q 5, hV.lt, r 0, r 1, r 2, r 3, r 4, r 5, hX.lt⟩))
      clear hK K hHeld
      have hHeld := hHeld5
      clear hHeld5
      (try simp only [Act.put, List.setIfInBounds_toArray, List.set_cons_zero, List.set_cons_succ])
      refine wpAnyH_done (by kernel_rfl) ?_ _
      go_wp2_with fail
      go_meet
      exact ⟨gA, gB, rfl, rfl, hA, hB, hL⟩
  case rest =>
  clear hV hX hL
  obtain ⟨gA, gB, rfl, rfl, hA, hB, hL⟩ := hcut
  by_cases hbig : len2 > 40
  · clear hA hB HC1 HC2 HLW HL
    go_wp2_with fail
    refine (HA.out _).mono ?_
    rintro e wq ⟨rfl, hb⟩
    have hM := Lib.hid (lo_trans hL hb)
    clear hb
    go_wp2_with fail
    go_ret
    exact ⟨rfl, hM.out⟩
  obtain ⟨cA, fA⟩ := hA.facts
  rcases err_cases v with ⟨hv, he⟩ | ⟨hv, he⟩
  rotate_left
  · rw [he] at HC1
    clear he hv HC2 HLW HL
    go_wp2_with fail
    refine (HC1.out _).mono ?_
    rintro e1 w1 ⟨rfl, hb⟩
    replace hL := lo_trans hL hb
    clear hb hA hB cA fA
    go_wp2_with fail
    refine (HA.out _).mono ?_
    rintro e wq ⟨rfl, hb⟩
    have hM := Lib.hid (lo_trans hL hb)
    clear hb
    go_wp2_with fail
    go_ret
    exact ⟨rfl, hM.out⟩
  rw [he] at HC1
  clear he
  have Hv := Lib.hid hv
  clear hv
  go_wp2_with fail
  refine (HC1.out _).mono ?_
  rintro e1 w1 ⟨rfl, hb⟩
  replace hA := hA.lo hb
  replace hB := hB.lo hb
  replace hL := lo_trans hL hb
  clear hb
  clear cA fA HC1
  obtain ⟨cB, fB⟩ := hB.facts
  rcases err_cases x with ⟨hx, he⟩ | ⟨hx, he⟩
  rotate_left
  · rw [he] at HC2
    clear he hx HLW HL
    go_wp2_with fail
    refine (HC2.out _).mono ?_
    rintro e1 w2 ⟨rfl, hb⟩
    replace hL := lo_trans hL hb
    clear hb hA hB cB fB
    go_wp2_with fail
    refine (HA.out _).mono ?_
    rintro e wq ⟨rfl, hb⟩
    have hM := Lib.hid (lo_trans hL hb)
    clear hb
    go_wp2_with fail
    go_ret
    exact ⟨rfl, hM.out⟩
  rw [he] at HC2
  clear he
  have HP : Hid (∀ w0, Calls Try.prog 15 #[.agg #[.int .i64 v.table, .int .i64 v.push, .int .i64 v.streams, .int .i64 v.window, .int .i64 v.frame, .int .i64 v.list], .agg #[.int .i64 x.table, .int .i64 x.push, .int .i64 x.streams, .int .i64 x.window, .int .i64 x.frame, .int .i64 x.list]] w0 (PairsPost w0 (pairsL v x))) := Lib.hid fun w0 => pairs_any v.table v.push v.streams v.window v.frame v.list x.table x.push x.streams x.window x.frame x.list w0
  have HPA : Hid (∀ w0 A n cap, Prs w0 A n cap (pairsL v x) → Calls Try.prog 8 #[.agg #[.int .i64 v.table, .int .i64 v.push, .int .i64 v.streams, .int .i64 v.window, .int .i64 v.frame, .int .i64 v.list], .slice A n cap] w0 fun e w' => e = .returned (.tuple #[.agg #[.int .i64 x.table, .int .i64 x.push, .int .i64 x.streams, .int .i64 x.window, .int .i64 x.frame, .int .i64 x.list], .int .u32 0]) ∧ Below w0.heap.size w0 w') := Lib.hid fun w0 A n cap h0 => by
    have := apply_any v A n cap (pairsL v x) w0 h0
    rw [pairs_apply Hv.out hx] at this
    exact this
  have HWP := Lib.hid (pairs_wf v x)
  clear hx
  generalize pairsL v x = ps at HP HPA HWP
  go_wp2_with fail
  refine (HC2.out _).mono ?_
  rintro e1 w2 ⟨rfl, hb⟩
  replace hA := hA.lo hb
  replace hB := hB.lo hb
  replace hL := lo_trans hL hb
  clear hb
  clear cB fB HC2
  go_upto_region 4 with fail
  go_cut [9, 10] (fun u t wc => ∃ gC, u = .pointer (some ⟨gC, 0, none⟩) ∧ t = .int .u32 0 ∧ Blk wc gC 26 #[.int .i64 x.table, .int .i64 x.push, .int .i64 x.streams, .int .i64 x.window, .int .i64 x.frame, .int .i64 x.list] ∧ Blk wc gA 26 #[.int .i64 v.table, .int .i64 v.push, .int .i64 v.streams, .int .i64 v.window, .int .i64 v.frame, .int .i64 v.list] ∧ Blk wc gB 26 #[.int .i64 x.table, .int .i64 x.push, .int .i64 x.streams, .int .i64 x.window, .int .i64 x.frame, .int .i64 x.list] ∧ Below w.heap.size w wc)
  case first =>
    clear HA HL HLW Hv
    generalize w2 = w0 at hA hB hL ⊢
    refine wp_region_held_drew (S := (fun W => W.cell? ⟨gA, 0, none⟩ = some (.int .i64 v.table) ∧ W.cell? ⟨gA, 1, none⟩ = some (.int .i64 v.push) ∧ W.cell? ⟨gA, 2, none⟩ = some (.int .i64 v.streams) ∧ W.cell? ⟨gA, 3, none⟩ = some (.int .i64 v.window) ∧ W.cell? ⟨gA, 4, none⟩ = some (.int .i64 v.frame) ∧ W.cell? ⟨gA, 5, none⟩ = some (.int .i64 v.list) ∧ gA < W.heap.size ∧ W.cell? ⟨gB, 0, none⟩ = some (.int .i64 x.table) ∧ W.cell? ⟨gB, 1, none⟩ = some (.int .i64 x.push) ∧ W.cell? ⟨gB, 2, none⟩ = some (.int .i64 x.streams) ∧ W.cell? ⟨gB, 3, none⟩ = some (.int .i64 x.window) ∧ W.cell? ⟨gB, 4, none⟩ = some (.int .i64 x.frame) ∧ W.cell? ⟨gB, 5, none⟩ = some (.int .i64 x.list) ∧ gB < W.heap.size)) (by kernel_rfl) ?_ (fun hHeld => ?_)
    focus ((try dsimp only); (have q := hA.facts.1; have r := hB.facts.1; exact ⟨q 0, q 1, q 2, q 3, q 4, q 5, hA.lt, r 0, r 1, r 2, r 3, r 4, r 5, hB.lt⟩))
    replace hA : Blk w0.drew _ _ _ := hA
    replace hB : Blk w0.drew _ _ _ := hB
    replace hL := lo_drew hL
    generalize w0.drew = wd at hA hB hL hHeld ⊢
    first
    | (refine wpAnyH_take (i := 0) (oi := _) (v := ?_) (getop rfl) (by kernel_rfl) (by kernel_rfl) (by kernel_rfl) (fun _ _ _ h => h) (Or.inl ⟨by rfl, ?_⟩) (by assumption) ?_; rotate_left; focus (intro w hSw; (try dsimp only at hSw); go_simp; (try with_reducible rfl); done))
    (try simp only [Act.put, List.setIfInBounds_toArray, List.set_cons_zero, List.set_cons_succ])
    first
    | (refine wpAnyH_take (i := 1) (oi := _) (v := ?_) (getop rfl) (by kernel_rfl) (by kernel_rfl) (by kernel_rfl) (fun _ _ _ h => h) (Or.inl ⟨by rfl, ?_⟩) (by assumption) ?_; rotate_left; focus (intro w hSw; (try dsimp only at hSw); go_simp; (try with_reducible rfl); done))
    (try simp only [Act.put, List.setIfInBounds_toArray, List.set_cons_zero, List.set_cons_succ])
    first
    | (refine wpAnyH_take (i := 2) (oi := _) (v := ?_) (getop rfl) (by kernel_rfl) (by kernel_rfl) (by kernel_rfl) (fun _ _ _ h => h) (Or.inl ⟨by rfl, ?_⟩) (by assumption) ?_; rotate_left; focus (intro w hSw; (try dsimp only at hSw); go_simp; (try with_reducible rfl); done))
    (try simp only [Act.put, List.setIfInBounds_toArray, List.set_cons_zero, List.set_cons_succ])
    refine wpAnyH_ready (rs := [3, 8]) (by kernel_rfl) (by simp) ?_
    refine (AllReadyH.cons (o := _) (getop rfl) (fun K hK => ?_) (AllReadyH.cons (o := _) (getop rfl) (fun K hK => ?_) AllReadyH.nil))
    · go_simp
      refine (HP.out _).mono ?_
      rintro e wz0 ⟨base, u, _, _, rfl, hown, hb⟩
      obtain ⟨A, cap, rfl, hpr⟩ := own_prs hown HWP.out
      clear hown
      replace hA := hA.lo hb
      replace hB := hB.lo hb
      replace hL := lo_trans hL hb
      clear hb
      refine hK.out _ _ ?_ (fun hHeld3 => ?_)
      focus ((try dsimp only); (have q := hA.facts.1; have r := hB.facts.1; exact ⟨q 0, q 1, q 2, q 3, q 4, q 5, hA.lt, r 0, r 1, r 2, r 3, r 4, r 5, hB.lt⟩))
      clear hK K hHeld
      have hHeld := hHeld3
      clear hHeld3
      (try simp only [Act.put, List.setIfInBounds_toArray, List.set_cons_zero, List.set_cons_succ])
      refine wpAnyH_ready (rs := [4, 8]) (by kernel_rfl) (by simp) ?_
      refine (AllReadyH.cons (o := _) (getop rfl) (fun K hK => ?_) (AllReadyH.cons (o := _) (getop rfl) (fun K hK => ?_) AllReadyH.nil))
      · go_simp
        refine (HPA.out _ _ _ _ hpr).mono ?_
        rintro e wz1 ⟨rfl, hb⟩
        clear hpr
        replace hA := hA.lo hb
        replace hB := hB.lo hb
        replace hL := lo_trans hL hb
        clear hb
        refine hK.out _ _ ?_ (fun hHeld4 => ?_)
        focus ((try dsimp only); (have q := hA.facts.1; have r := hB.facts.1; exact ⟨q 0, q 1, q 2, q 3, q 4, q 5, hA.lt, r 0, r 1, r 2, r 3, r 4, r 5, hB.lt⟩))
        clear hK K hHeld
        have hHeld := hHeld4
        clear hHeld4
        (try simp only [Act.put, List.setIfInBounds_toArray, List.set_cons_zero, List.set_cons_succ])
        first
        | (refine wpAnyH_take (i := 5) (oi := _) (v := ?_) (getop rfl) (by kernel_rfl) (by kernel_rfl) (by kernel_rfl) (fun _ _ _ h => h) (Or.inl ⟨by rfl, ?_⟩) (by assumption) ?_; rotate_left; focus (intro w hSw; (try dsimp only at hSw); go_simp; (try with_reducible rfl); done))
        (try simp only [Act.put, List.setIfInBounds_toArray, List.set_cons_zero, List.set_cons_succ])
        first
        | (refine wpAnyH_take (i := 6) (oi := _) (v := ?_) (getop rfl) (by kernel_rfl) (by kernel_rfl) (by kernel_rfl) (fun _ _ _ h => h) (Or.inl ⟨by rfl, ?_⟩) (by assumption) ?_; rotate_left; focus (intro w hSw; (try dsimp only at hSw); go_simp; (try with_reducible rfl); done))
        (try simp only [Act.put, List.setIfInBounds_toArray, List.set_cons_zero, List.set_cons_succ])
        first
        | (refine wpAnyH_take (i := 7) (oi := _) (v := ?_) (getop rfl) (by kernel_rfl) (by kernel_rfl) (by kernel_rfl) (fun _ _ _ h => h) (Or.inl ⟨by rfl, ?_⟩) (by assumption) ?_; rotate_left; focus (intro w hSw; (try dsimp only at hSw); go_simp; (try with_reducible rfl); done))
        (try simp only [Act.put, List.setIfInBounds_toArray, List.set_cons_zero, List.set_cons_succ])
        refine wpAnyH_ready (rs := [8]) (by kernel_rfl) (by simp) ?_
        refine (AllReadyH.cons (o := _) (getop rfl) (fun K hK => ?_) AllReadyH.nil)
        go_simp
        have hC := Blk.new wz1 26 #[.int .i64 0, .int .i64 0, .int .i64 0, .int .i64 0, .int .i64 0, .int .i64 0]
        have zC : w.heap.size ≤ wz1.heap.size := hL.size
        have qAC := hA.lt
        have qBC := hB.lt
        replace hA := hA.alloc (.cells #[.int .i64 0, .int .i64 0, .int .i64 0, .int .i64 0, .int .i64 0, .int .i64 0] 26)
        replace hB := hB.alloc (.cells #[.int .i64 0, .int .i64 0, .int .i64 0, .int .i64 0, .int .i64 0, .int .i64 0] 26)
        replace hL := lo_alloc hL (.cells #[.int .i64 0, .int .i64 0, .int .i64 0, .int .i64 0, .int .i64 0, .int .i64 0] 26)
        generalize wz1.heap.size = gC at hC zC qAC qBC ⊢
        generalize wz1.alloc (.cells #[.int .i64 0, .int .i64 0, .int .i64 0, .int .i64 0, .int .i64 0, .int .i64 0] 26) = wz2 at hA hB hC hL ⊢
        refine hK.out _ _ ?_ (fun hHeld8 => ?_)
        focus ((try dsimp only); (have q := hA.facts.1; have r := hB.facts.1; exact ⟨q 0, q 1, q 2, q 3, q 4, q 5, hA.lt, r 0, r 1, r 2, r 3, r 4, r 5, hB.lt⟩))
        clear hK K hHeld
        have hHeld := hHeld8
        clear hHeld8
        (try simp only [Act.put, List.setIfInBounds_toArray, List.set_cons_zero, List.set_cons_succ])
        refine wpAnyH_ready (rs := [9]) (by kernel_rfl) (by simp) ?_
        refine (AllReadyH.cons (o := _) (getop rfl) (fun K hK => ?_) AllReadyH.nil)
        obtain ⟨cT, fT⟩ := hC.facts
        have lT := hC.lt
        go_simp
        clear cT fT lT
        replace hA := hA.far (p := ⟨gC, 0, none⟩) (by dsimp only; omega) (.int .i64 x.table)
        replace hB := hB.far (p := ⟨gC, 0, none⟩) (by dsimp only; omega) (.int .i64 x.table)
        replace hC := hC.set_ 0 (.int .i64 x.table)
        replace hL := lo_set hL (p := ⟨gC, 0, none⟩) (by dsimp only; omega) (.int .i64 x.table)
        replace hA := hA.far (p := ⟨gC, 1, none⟩) (by dsimp only; omega) (.int .i64 x.push)
        replace hB := hB.far (p := ⟨gC, 1, none⟩) (by dsimp only; omega) (.int .i64 x.push)
        replace hC := hC.set_ 1 (.int .i64 x.push)
        replace hL := lo_set hL (p := ⟨gC, 1, none⟩) (by dsimp only; omega) (.int .i64 x.push)
        replace hA := hA.far (p := ⟨gC, 2, none⟩) (by dsimp only; omega) (.int .i64 x.streams)
        replace hB := hB.far (p := ⟨gC, 2, none⟩) (by dsimp only; omega) (.int .i64 x.streams)
        replace hC := hC.set_ 2 (.int .i64 x.streams)
        replace hL := lo_set hL (p := ⟨gC, 2, none⟩) (by dsimp only; omega) (.int .i64 x.streams)
        replace hA := hA.far (p := ⟨gC, 3, none⟩) (by dsimp only; omega) (.int .i64 x.window)
        replace hB := hB.far (p := ⟨gC, 3, none⟩) (by dsimp only; omega) (.int .i64 x.window)
        replace hC := hC.set_ 3 (.int .i64 x.window)
        replace hL := lo_set hL (p := ⟨gC, 3, none⟩) (by dsimp only; omega) (.int .i64 x.window)
        replace hA := hA.far (p := ⟨gC, 4, none⟩) (by dsimp only; omega) (.int .i64 x.frame)
        replace hB := hB.far (p := ⟨gC, 4, none⟩) (by dsimp only; omega) (.int .i64 x.frame)
        replace hC := hC.set_ 4 (.int .i64 x.frame)
        replace hL := lo_set hL (p := ⟨gC, 4, none⟩) (by dsimp only; omega) (.int .i64 x.frame)
        replace hA := hA.far (p := ⟨gC, 5, none⟩) (by dsimp only; omega) (.int .i64 x.list)
        replace hB := hB.far (p := ⟨gC, 5, none⟩) (by dsimp only; omega) (.int .i64 x.list)
        replace hC := hC.set_ 5 (.int .i64 x.list)
        replace hL := lo_set hL (p := ⟨gC, 5, none⟩) (by dsimp only; omega) (.int .i64 x.list)
        replace hC : Blk ((((((wz2.setCell ⟨gC, 0, none⟩ (.int .i64 x.table)).setCell ⟨gC, 1, none⟩ (.int .i64 x.push)).setCell ⟨gC, 2, none⟩ (.int .i64 x.streams)).setCell ⟨gC, 3, none⟩ (.int .i64 x.window)).setCell ⟨gC, 4, none⟩ (.int .i64 x.frame)).setCell ⟨gC, 5, none⟩ (.int .i64 x.list)) gC 26 #[.int .i64 x.table, .int .i64 x.push, .int .i64 x.streams, .int .i64 x.window, .int .i64 x.frame, .int .i64 x.list] := by simpa using hC
        generalize ((((((wz2.setCell ⟨gC, 0, none⟩ (.int .i64 x.table)).setCell ⟨gC, 1, none⟩ (.int .i64 x.push)).setCell ⟨gC, 2, none⟩ (.int .i64 x.streams)).setCell ⟨gC, 3, none⟩ (.int .i64 x.window)).setCell ⟨gC, 4, none⟩ (.int .i64 x.frame)).setCell ⟨gC, 5, none⟩ (.int .i64 x.list)) = wf at hA hB hC hL ⊢
        refine hK.out _ _ ?_ (fun hHeld9 => ?_)
        focus ((try dsimp only); (have q := hA.facts.1; have r := hB.facts.1; exact ⟨q 0, q 1, q 2, q 3, q 4, q 5, hA.lt, r 0, r 1, r 2, r 3, r 4, r 5, hB.lt⟩))
        clear hK K hHeld
        have hHeld := hHeld9
        clear hHeld9
        (try simp only [Act.put, List.setIfInBounds_toArray, List.set_cons_zero, List.set_cons_succ])
        first
        | (refine wpAnyH_take (i := 10) (oi := _) (v := ?_) (getop rfl) (by kernel_rfl) (by kernel_rfl) (by kernel_rfl) (fun _ _ _ h => h) (Or.inl ⟨by rfl, ?_⟩) (by assumption) ?_; rotate_left; focus (intro w hSw; (try dsimp only at hSw); go_simp; (try with_reducible rfl); done))
        (try simp only [Act.put, List.setIfInBounds_toArray, List.set_cons_zero, List.set_cons_succ])
        refine wpAnyH_done (by kernel_rfl) ?_ _
        go_wp2_with fail
        go_meet
        exact ⟨gC, rfl, rfl, hC, hA, hB, hL⟩
      · go_simp
        replace hpr := agg_lo hpr (lo_alloc (lo_refl wz0) (.cells #[.int .i64 0, .int .i64 0, .int .i64 0, .int .i64 0, .int .i64 0, .int .i64 0] 26))
        have hC := Blk.new wz0 26 #[.int .i64 0, .int .i64 0, .int .i64 0, .int .i64 0, .int .i64 0, .int .i64 0]
        have zC : w.heap.size ≤ wz0.heap.size := hL.size
        have qAC := hA.lt
        have qBC := hB.lt
        replace hA := hA.alloc (.cells #[.int .i64 0, .int .i64 0, .int .i64 0, .int .i64 0, .int .i64 0, .int .i64 0] 26)
        replace hB := hB.alloc (.cells #[.int .i64 0, .int .i64 0, .int .i64 0, .int .i64 0, .int .i64 0, .int .i64 0] 26)
        replace hL := lo_alloc hL (.cells #[.int .i64 0, .int .i64 0, .int .i64 0, .int .i64 0, .int .i64 0, .int .i64 0] 26)
        generalize wz0.heap.size = gC at hC zC qAC qBC ⊢
        generalize wz0.alloc (.cells #[.int .i64 0, .int .i64 0, .int .i64 0, .int .i64 0, .int .i64 0, .int .i64 0] 26) = wz1 at hA hB hC hL hpr ⊢
        refine hK.out _ _ ?_ (fun hHeld8 => ?_)
        focus ((try dsimp only); (have q := hA.facts.1; have r := hB.facts.1; exact ⟨q 0, q 1, q 2, q 3, q 4, q 5, hA.lt, r 0, r 1, r 2, r 3, r 4, r 5, hB.lt⟩))
        clear hK K hHeld
        have hHeld := hHeld8
        clear hHeld8
        (try simp only [Act.put, List.setIfInBounds_toArray, List.set_cons_zero, List.set_cons_succ])
        refine wpAnyH_ready (rs := [4]) (by kernel_rfl) (by simp) ?_
        refine (AllReadyH.cons (o := _) (getop rfl) (fun K hK => ?_) AllReadyH.nil)
        go_simp
        refine (HPA.out _ _ _ _ hpr).mono ?_
        rintro e wz2 ⟨rfl, hb⟩
        clear hpr
        replace hA := hA.lo hb
        replace hB := hB.lo hb
        replace hC := hC.lo hb
        replace hL := lo_trans hL hb
        clear hb
        refine hK.out _ _ ?_ (fun hHeld4 => ?_)
        focus ((try dsimp only); (have q := hA.facts.1; have r := hB.facts.1; exact ⟨q 0, q 1, q 2, q 3, q 4, q 5, hA.lt, r 0, r 1, r 2, r 3, r 4, r 5, hB.lt⟩))
        clear hK K hHeld
        have hHeld := hHeld4
        clear hHeld4
        (try simp only [Act.put, List.setIfInBounds_toArray, List.set_cons_zero, List.set_cons_succ])
        first
        | (refine wpAnyH_take (i := 5) (oi := _) (v := ?_) (getop rfl) (by kernel_rfl) (by kernel_rfl) (by kernel_rfl) (fun _ _ _ h => h) (Or.inl ⟨by rfl, ?_⟩) (by assumption) ?_; rotate_left; focus (intro w hSw; (try dsimp only at hSw); go_simp; (try with_reducible rfl); done))
        (try simp only [Act.put, List.setIfInBounds_toArray, List.set_cons_zero, List.set_cons_succ])
        first
        | (refine wpAnyH_take (i := 6) (oi := _) (v := ?_) (getop rfl) (by kernel_rfl) (by kernel_rfl) (by kernel_rfl) (fun _ _ _ h => h) (Or.inl ⟨by rfl, ?_⟩) (by assumption) ?_; rotate_left; focus (intro w hSw; (try dsimp only at hSw); go_simp; (try with_reducible rfl); done))
        (try simp only [Act.put, List.setIfInBounds_toArray, List.set_cons_zero, List.set_cons_succ])
        first
        | (refine wpAnyH_take (i := 7) (oi := _) (v := ?_) (getop rfl) (by kernel_rfl) (by kernel_rfl) (by kernel_rfl) (fun _ _ _ h => h) (Or.inl ⟨by rfl, ?_⟩) (by assumption) ?_; rotate_left; focus (intro w hSw; (try dsimp only at hSw); go_simp; (try with_reducible rfl); done))
        (try simp only [Act.put, List.setIfInBounds_toArray, List.set_cons_zero, List.set_cons_succ])
        refine wpAnyH_ready (rs := [9]) (by kernel_rfl) (by simp) ?_
        refine (AllReadyH.cons (o := _) (getop rfl) (fun K hK => ?_) AllReadyH.nil)
        obtain ⟨cT, fT⟩ := hC.facts
        have lT := hC.lt
        go_simp
        clear cT fT lT
        replace hA := hA.far (p := ⟨gC, 0, none⟩) (by dsimp only; omega) (.int .i64 x.table)
        replace hB := hB.far (p := ⟨gC, 0, none⟩) (by dsimp only; omega) (.int .i64 x.table)
        replace hC := hC.set_ 0 (.int .i64 x.table)
        replace hL := lo_set hL (p := ⟨gC, 0, none⟩) (by dsimp only; omega) (.int .i64 x.table)
        replace hA := hA.far (p := ⟨gC, 1, none⟩) (by dsimp only; omega) (.int .i64 x.push)
        replace hB := hB.far (p := ⟨gC, 1, none⟩) (by dsimp only; omega) (.int .i64 x.push)
        replace hC := hC.set_ 1 (.int .i64 x.push)
        replace hL := lo_set hL (p := ⟨gC, 1, none⟩) (by dsimp only; omega) (.int .i64 x.push)
        replace hA := hA.far (p := ⟨gC, 2, none⟩) (by dsimp only; omega) (.int .i64 x.streams)
        replace hB := hB.far (p := ⟨gC, 2, none⟩) (by dsimp only; omega) (.int .i64 x.streams)
        replace hC := hC.set_ 2 (.int .i64 x.streams)
        replace hL := lo_set hL (p := ⟨gC, 2, none⟩) (by dsimp only; omega) (.int .i64 x.streams)
        replace hA := hA.far (p := ⟨gC, 3, none⟩) (by dsimp only; omega) (.int .i64 x.window)
        replace hB := hB.far (p := ⟨gC, 3, none⟩) (by dsimp only; omega) (.int .i64 x.window)
        replace hC := hC.set_ 3 (.int .i64 x.window)
        replace hL := lo_set hL (p := ⟨gC, 3, none⟩) (by dsimp only; omega) (.int .i64 x.window)
        replace hA := hA.far (p := ⟨gC, 4, none⟩) (by dsimp only; omega) (.int .i64 x.frame)
        replace hB := hB.far (p := ⟨gC, 4, none⟩) (by dsimp only; omega) (.int .i64 x.frame)
        replace hC := hC.set_ 4 (.int .i64 x.frame)
        replace hL := lo_set hL (p := ⟨gC, 4, none⟩) (by dsimp only; omega) (.int .i64 x.frame)
        replace hA := hA.far (p := ⟨gC, 5, none⟩) (by dsimp only; omega) (.int .i64 x.list)
        replace hB := hB.far (p := ⟨gC, 5, none⟩) (by dsimp only; omega) (.int .i64 x.list)
        replace hC := hC.set_ 5 (.int .i64 x.list)
        replace hL := lo_set hL (p := ⟨gC, 5, none⟩) (by dsimp only; omega) (.int .i64 x.list)
        replace hC : Blk ((((((wz2.setCell ⟨gC, 0, none⟩ (.int .i64 x.table)).setCell ⟨gC, 1, none⟩ (.int .i64 x.push)).setCell ⟨gC, 2, none⟩ (.int .i64 x.streams)).setCell ⟨gC, 3, none⟩ (.int .i64 x.window)).setCell ⟨gC, 4, none⟩ (.int .i64 x.frame)).setCell ⟨gC, 5, none⟩ (.int .i64 x.list)) gC 26 #[.int .i64 x.table, .int .i64 x.push, .int .i64 x.streams, .int .i64 x.window, .int .i64 x.frame, .int .i64 x.list] := by simpa using hC
        generalize ((((((wz2.setCell ⟨gC, 0, none⟩ (.int .i64 x.table)).setCell ⟨gC, 1, none⟩ (.int .i64 x.push)).setCell ⟨gC, 2, none⟩ (.int .i64 x.streams)).setCell ⟨gC, 3, none⟩ (.int .i64 x.window)).setCell ⟨gC, 4, none⟩ (.int .i64 x.frame)).setCell ⟨gC, 5, none⟩ (.int .i64 x.list)) = wf at hA hB hC hL ⊢
        refine hK.out _ _ ?_ (fun hHeld9 => ?_)
        focus ((try dsimp only); (have q := hA.facts.1; have r := hB.facts.1; exact ⟨q 0, q 1, q 2, q 3, q 4, q 5, hA.lt, r 0, r 1, r 2, r 3, r 4, r 5, hB.lt⟩))
        clear hK K hHeld
        have hHeld := hHeld9
        clear hHeld9
        (try simp only [Act.put, List.setIfInBounds_toArray, List.set_cons_zero, List.set_cons_succ])
        first
        | (refine wpAnyH_take (i := 10) (oi := _) (v := ?_) (getop rfl) (by kernel_rfl) (by kernel_rfl) (by kernel_rfl) (fun _ _ _ h => h) (Or.inl ⟨by rfl, ?_⟩) (by assumption) ?_; rotate_left; focus (intro w hSw; (try dsimp only at hSw); go_simp; (try with_reducible rfl); done))
        (try simp only [Act.put, List.setIfInBounds_toArray, List.set_cons_zero, List.set_cons_succ])
        refine wpAnyH_done (by kernel_rfl) ?_ _
        go_wp2_with fail
        go_meet
        exact ⟨gC, rfl, rfl, hC, hA, hB, hL⟩
    · go_simp
      have hC := Blk.new wd 26 #[.int .i64 0, .int .i64 0, .int .i64 0, .int .i64 0, .int .i64 0, .int .i64 0]
      have zC : w.heap.size ≤ wd.heap.size := hL.size
      have qAC := hA.lt
      have qBC := hB.lt
      replace hA := hA.alloc (.cells #[.int .i64 0, .int .i64 0, .int .i64 0, .int .i64 0, .int .i64 0, .int .i64 0] 26)
      replace hB := hB.alloc (.cells #[.int .i64 0, .int .i64 0, .int .i64 0, .int .i64 0, .int .i64 0, .int .i64 0] 26)
      replace hL := lo_alloc hL (.cells #[.int .i64 0, .int .i64 0, .int .i64 0, .int .i64 0, .int .i64 0, .int .i64 0] 26)
      generalize wd.heap.size = gC at hC zC qAC qBC ⊢
      generalize wd.alloc (.cells #[.int .i64 0, .int .i64 0, .int .i64 0, .int .i64 0, .int .i64 0, .int .i64 0] 26) = wz0 at hA hB hC hL ⊢
      refine hK.out _ _ ?_ (fun hHeld8 => ?_)
      focus ((try dsimp only); (have q := hA.facts.1; have r := hB.facts.1; exact ⟨q 0, q 1, q 2, q 3, q 4, q 5, hA.lt, r 0, r 1, r 2, r 3, r 4, r 5, hB.lt⟩))
      clear hK K hHeld
      have hHeld := hHeld8
      clear hHeld8
      (try simp only [Act.put, List.setIfInBounds_toArray, List.set_cons_zero, List.set_cons_succ])
      refine wpAnyH_ready (rs := [3]) (by kernel_rfl) (by simp) ?_
      refine (AllReadyH.cons (o := _) (getop rfl) (fun K hK => ?_) AllReadyH.nil)
      go_simp
      refine (HP.out _).mono ?_
      rintro e wz1 ⟨base, u, _, _, rfl, hown, hb⟩
      obtain ⟨A, cap, rfl, hpr⟩ := own_prs hown HWP.out
      clear hown
      replace hA := hA.lo hb
      replace hB := hB.lo hb
      replace hC := hC.lo hb
      replace hL := lo_trans hL hb
      clear hb
      refine hK.out _ _ ?_ (fun hHeld3 => ?_)
      focus ((try dsimp only); (have q := hA.facts.1; have r := hB.facts.1; exact ⟨q 0, q 1, q 2, q 3, q 4, q 5, hA.lt, r 0, r 1, r 2, r 3, r 4, r 5, hB.lt⟩))
      clear hK K hHeld
      have hHeld := hHeld3
      clear hHeld3
      (try simp only [Act.put, List.setIfInBounds_toArray, List.set_cons_zero, List.set_cons_succ])
      refine wpAnyH_ready (rs := [4]) (by kernel_rfl) (by simp) ?_
      refine (AllReadyH.cons (o := _) (getop rfl) (fun K hK => ?_) AllReadyH.nil)
      go_simp
      refine (HPA.out _ _ _ _ hpr).mono ?_
      rintro e wz2 ⟨rfl, hb⟩
      clear hpr
      replace hA := hA.lo hb
      replace hB := hB.lo hb
      replace hC := hC.lo hb
      replace hL := lo_trans hL hb
      clear hb
      refine hK.out _ _ ?_ (fun hHeld4 => ?_)
      focus ((try dsimp only); (have q := hA.facts.1; have r := hB.facts.1; exact ⟨q 0, q 1, q 2, q 3, q 4, q 5, hA.lt, r 0, r 1, r 2, r 3, r 4, r 5, hB.lt⟩))
      clear hK K hHeld
      have hHeld := hHeld4
      clear hHeld4
      (try simp only [Act.put, List.setIfInBounds_toArray, List.set_cons_zero, List.set_cons_succ])
      first
      | (refine wpAnyH_take (i := 5) (oi := _) (v := ?_) (getop rfl) (by kernel_rfl) (by kernel_rfl) (by kernel_rfl) (fun _ _ _ h => h) (Or.inl ⟨by rfl, ?_⟩) (by assumption) ?_; rotate_left; focus (intro w hSw; (try dsimp only at hSw); go_simp; (try with_reducible rfl); done))
      (try simp only [Act.put, List.setIfInBounds_toArray, List.set_cons_zero, List.set_cons_succ])
      first
      | (refine wpAnyH_take (i := 6) (oi := _) (v := ?_) (getop rfl) (by kernel_rfl) (by kernel_rfl) (by kernel_rfl) (fun _ _ _ h => h) (Or.inl ⟨by rfl, ?_⟩) (by assumption) ?_; rotate_left; focus (intro w hSw; (try dsimp only at hSw); go_simp; (try with_reducible rfl); done))
      (try simp only [Act.put, List.setIfInBounds_toArray, List.set_cons_zero, List.set_cons_succ])
      first
      | (refine wpAnyH_take (i := 7) (oi := _) (v := ?_) (getop rfl) (by kernel_rfl) (by kernel_rfl) (by kernel_rfl) (fun _ _ _ h => h) (Or.inl ⟨by rfl, ?_⟩) (by assumption) ?_; rotate_left; focus (intro w hSw; (try dsimp only at hSw); go_simp; (try with_reducible rfl); done))
      (try simp only [Act.put, List.setIfInBounds_toArray, List.set_cons_zero, List.set_cons_succ])
      refine wpAnyH_ready (rs := [9]) (by kernel_rfl) (by simp) ?_
      refine (AllReadyH.cons (o := _) (getop rfl) (fun K hK => ?_) AllReadyH.nil)
      obtain ⟨cT, fT⟩ := hC.facts
      have lT := hC.lt
      go_simp
      clear cT fT lT
      replace hA := hA.far (p := ⟨gC, 0, none⟩) (by dsimp only; omega) (.int .i64 x.table)
      replace hB := hB.far (p := ⟨gC, 0, none⟩) (by dsimp only; omega) (.int .i64 x.table)
      replace hC := hC.set_ 0 (.int .i64 x.table)
      replace hL := lo_set hL (p := ⟨gC, 0, none⟩) (by dsimp only; omega) (.int .i64 x.table)
      replace hA := hA.far (p := ⟨gC, 1, none⟩) (by dsimp only; omega) (.int .i64 x.push)
      replace hB := hB.far (p := ⟨gC, 1, none⟩) (by dsimp only; omega) (.int .i64 x.push)
      replace hC := hC.set_ 1 (.int .i64 x.push)
      replace hL := lo_set hL (p := ⟨gC, 1, none⟩) (by dsimp only; omega) (.int .i64 x.push)
      replace hA := hA.far (p := ⟨gC, 2, none⟩) (by dsimp only; omega) (.int .i64 x.streams)
      replace hB := hB.far (p := ⟨gC, 2, none⟩) (by dsimp only; omega) (.int .i64 x.streams)
      replace hC := hC.set_ 2 (.int .i64 x.streams)
      replace hL := lo_set hL (p := ⟨gC, 2, none⟩) (by dsimp only; omega) (.int .i64 x.streams)
      replace hA := hA.far (p := ⟨gC, 3, none⟩) (by dsimp only; omega) (.int .i64 x.window)
      replace hB := hB.far (p := ⟨gC, 3, none⟩) (by dsimp only; omega) (.int .i64 x.window)
      replace hC := hC.set_ 3 (.int .i64 x.window)
      replace hL := lo_set hL (p := ⟨gC, 3, none⟩) (by dsimp only; omega) (.int .i64 x.window)
      replace hA := hA.far (p := ⟨gC, 4, none⟩) (by dsimp only; omega) (.int .i64 x.frame)
      replace hB := hB.far (p := ⟨gC, 4, none⟩) (by dsimp only; omega) (.int .i64 x.frame)
      replace hC := hC.set_ 4 (.int .i64 x.frame)
      replace hL := lo_set hL (p := ⟨gC, 4, none⟩) (by dsimp only; omega) (.int .i64 x.frame)
      replace hA := hA.far (p := ⟨gC, 5, none⟩) (by dsimp only; omega) (.int .i64 x.list)
      replace hB := hB.far (p := ⟨gC, 5, none⟩) (by dsimp only; omega) (.int .i64 x.list)
      replace hC := hC.set_ 5 (.int .i64 x.list)
      replace hL := lo_set hL (p := ⟨gC, 5, none⟩) (by dsimp only; omega) (.int .i64 x.list)
      replace hC : Blk ((((((wz2.setCell ⟨gC, 0, none⟩ (.int .i64 x.table)).setCell ⟨gC, 1, none⟩ (.int .i64 x.push)).setCell ⟨gC, 2, none⟩ (.int .i64 x.streams)).setCell ⟨gC, 3, none⟩ (.int .i64 x.window)).setCell ⟨gC, 4, none⟩ (.int .i64 x.frame)).setCell ⟨gC, 5, none⟩ (.int .i64 x.list)) gC 26 #[.int .i64 x.table, .int .i64 x.push, .int .i64 x.streams, .int .i64 x.window, .int .i64 x.frame, .int .i64 x.list] := by simpa using hC
      generalize ((((((wz2.setCell ⟨gC, 0, none⟩ (.int .i64 x.table)).setCell ⟨gC, 1, none⟩ (.int .i64 x.push)).setCell ⟨gC, 2, none⟩ (.int .i64 x.streams)).setCell ⟨gC, 3, none⟩ (.int .i64 x.window)).setCell ⟨gC, 4, none⟩ (.int .i64 x.frame)).setCell ⟨gC, 5, none⟩ (.int .i64 x.list)) = wf at hA hB hC hL ⊢
      refine hK.out _ _ ?_ (fun hHeld9 => ?_)
      focus ((try dsimp only); (have q := hA.facts.1; have r := hB.facts.1; exact ⟨q 0, q 1, q 2, q 3, q 4, q 5, hA.lt, r 0, r 1, r 2, r 3, r 4, r 5, hB.lt⟩))
      clear hK K hHeld
      have hHeld := hHeld9
      clear hHeld9
      (try simp only [Act.put, List.setIfInBounds_toArray, List.set_cons_zero, List.set_cons_succ])
      first
      | (refine wpAnyH_take (i := 10) (oi := _) (v := ?_) (getop rfl) (by kernel_rfl) (by kernel_rfl) (by kernel_rfl) (fun _ _ _ h => h) (Or.inl ⟨by rfl, ?_⟩) (by assumption) ?_; rotate_left; focus (intro w hSw; (try dsimp only at hSw); go_simp; (try with_reducible rfl); done))
      (try simp only [Act.put, List.setIfInBounds_toArray, List.set_cons_zero, List.set_cons_succ])
      refine wpAnyH_done (by kernel_rfl) ?_ _
      go_wp2_with fail
      go_meet
      exact ⟨gC, rfl, rfl, hC, hA, hB, hL⟩
  case rest =>
  clear hA hB hL HP HPA HWP
  obtain ⟨gC, rfl, rfl, hC, hA, hB, hL⟩ := hcut
  obtain ⟨cA, fA⟩ := hA.facts
  obtain ⟨⟨y, d⟩, hy⟩ : ∃ r, applyL v l = r := ⟨_, rfl⟩
  obtain ⟨R, hR⟩ : ∃ R, goL (l.drop 0) v = R := ⟨_, rfl⟩
  have H1 : Hid (∀ w0, Prs w0 a2 len2 cap2 l → Calls Try.prog 8 #[.agg #[.int .i64 v.table, .int .i64 v.push, .int .i64 v.streams, .int .i64 v.window, .int .i64 v.frame, .int .i64 v.list], .slice a2 len2 cap2] w0 fun e w' => e = .returned (.tuple #[.agg #[.int .i64 y.table, .int .i64 y.push, .int .i64 y.streams, .int .i64 y.window, .int .i64 y.frame, .int .i64 y.list], .int .u32 d]) ∧ Below w0.heap.size w0 w') := Lib.hid fun w0 h0 => by
    have := apply_any v a2 len2 cap2 l w0 h0
    rw [hy] at this
    exact this
  have hyo : y.ok := by
    have := apply_ok Hv.out HLW.out
    rw [hy] at this
    exact this
  have HCY : Hid (∀ w0, Calls Try.prog 10 #[.agg #[.int .i64 y.table, .int .i64 y.push, .int .i64 y.streams, .int .i64 y.window, .int .i64 y.frame, .int .i64 y.list]] w0 fun e w' => e = .returned (.int .i64 0) ∧ Below w0.heap.size w0 w') := Lib.hid fun w0 => by
    have := check_any y w0
    rw [show y.err = 0 from if_pos hyo] at this
    exact this
  have HS2 : Hid (∀ w0, Calls Try.prog 15 #[.agg #[.int .i64 v.table, .int .i64 v.push, .int .i64 v.streams, .int .i64 v.window, .int .i64 v.frame, .int .i64 v.list], .agg #[.int .i64 v.table, .int .i64 v.push, .int .i64 v.streams, .int .i64 v.window, .int .i64 v.frame, .int .i64 v.list]] w0 fun e w' => ∃ A cap, e = .returned (.slice A 0 cap) ∧ Below w0.heap.size w0 w') := Lib.hid fun w0 => by
    have := pairs_any v.table v.push v.streams v.window v.frame v.list v.table v.push v.streams v.window v.frame v.list w0
    rw [pairs_self] at this
    refine this.mono ?_
    rintro e w' ⟨base, u, _, _, rfl, hown, hb⟩
    obtain ⟨A, cap, rfl, _, _⟩ := own_shape hown
    exact ⟨A, cap, rfl, hb⟩
  have hfin : finL v R = (y, d) := by
    rw [← hy, ← hR]
    exact (if_pos Hv.out).symm
  have HFIN := Lib.hid hfin
  have HI : Hid (backI l R 0 v 0) := Lib.hid (Or.inl ⟨rfl, hR⟩)
  clear hy hR hyo hfin
  go_wp2_with fail
  refine (H1.out _ (agg_lo HL.out hL)).mono ?_
  rintro e1 w3 ⟨rfl, hb⟩
  clear cA fA H1
  replace hA := hA.lo hb
  replace hB := hB.lo hb
  replace hC := hC.lo hb
  replace hL := lo_trans hL hb
  clear hb
  go_upto_region 6 with fail
  replace hA := hA.alloc (.cells #[.int .i64 y.table, .int .i64 y.push, .int .i64 y.streams, .int .i64 y.window, .int .i64 y.frame, .int .i64 y.list] 26)
  replace hB := hB.alloc (.cells #[.int .i64 y.table, .int .i64 y.push, .int .i64 y.streams, .int .i64 y.window, .int .i64 y.frame, .int .i64 y.list] 26)
  replace hC := hC.alloc (.cells #[.int .i64 y.table, .int .i64 y.push, .int .i64 y.streams, .int .i64 y.window, .int .i64 y.frame, .int .i64 y.list] 26)
  have hY := Blk.new w3 26 #[.int .i64 y.table, .int .i64 y.push, .int .i64 y.streams, .int .i64 y.window, .int .i64 y.frame, .int .i64 y.list]
  replace hL := lo_alloc hL (.cells #[.int .i64 y.table, .int .i64 y.push, .int .i64 y.streams, .int .i64 y.window, .int .i64 y.frame, .int .i64 y.list] 26)
  generalize w3.heap.size = gY at hY ⊢
  generalize w3.alloc (.cells #[.int .i64 y.table, .int .i64 y.push, .int .i64 y.streams, .int .i64 y.window, .int .i64 y.frame, .int .i64 y.list] 26) = w4 at hA hB hC hY hL ⊢
  obtain ⟨cA, fA⟩ := hA.facts
  go_upto_region 7 with fail
  clear cA fA
  have qA := hA.lt
  have qB := hB.lt
  have qC := hC.lt
  have qY := hY.lt
  replace hA := hA.alloc (.cells #[.int .i64 v.table, .int .i64 v.push, .int .i64 v.streams, .int .i64 v.window, .int .i64 v.frame, .int .i64 v.list] 26)
  replace hB := hB.alloc (.cells #[.int .i64 v.table, .int .i64 v.push, .int .i64 v.streams, .int .i64 v.window, .int .i64 v.frame, .int .i64 v.list] 26)
  replace hC := hC.alloc (.cells #[.int .i64 v.table, .int .i64 v.push, .int .i64 v.streams, .int .i64 v.window, .int .i64 v.frame, .int .i64 v.list] 26)
  replace hY := hY.alloc (.cells #[.int .i64 v.table, .int .i64 v.push, .int .i64 v.streams, .int .i64 v.window, .int .i64 v.frame, .int .i64 v.list] 26)
  have hO := Blk.new w4 26 #[.int .i64 v.table, .int .i64 v.push, .int .i64 v.streams, .int .i64 v.window, .int .i64 v.frame, .int .i64 v.list]
  have hO0 := hO.lt
  have hO1 : w.heap.size ≤ w4.heap.size := hL.size
  replace hL := lo_alloc hL (.cells #[.int .i64 v.table, .int .i64 v.push, .int .i64 v.streams, .int .i64 v.window, .int .i64 v.frame, .int .i64 v.list] 26)
  generalize w4.heap.size = gO at hO hO0 hO1 qA qB qC qY ⊢
  generalize w4.alloc (.cells #[.int .i64 v.table, .int .i64 v.push, .int .i64 v.streams, .int .i64 v.window, .int .i64 v.frame, .int .i64 v.list] 26) = w5 at hA hB hC hY hO hO0 hL ⊢
  have HAll := Lib.hid (And.intro hA (And.intro hB (And.intro hC (And.intro hY hL))))
  clear hA hB hC hY hL
  go_wp2_with fail
  go_loopw [14, 15] (fun u z wr => ∃ (k : Nat) (o : Vs) (e : Int), k ≤ len2 ∧ u = .int .u32 e ∧ z = .int .i64 k ∧ Hid o.ok ∧ Hid (backI l R k o e) ∧ Blk wr gO 26 #[.int .i64 o.table, .int .i64 o.push, .int .i64 o.streams, .int .i64 o.window, .int .i64 o.frame, .int .i64 o.list] ∧ Below gO w5 wr) (fun _ z _ => len2 - (intOf z).toNat)
  case atStart => exact ⟨0, v, 0, by omega, rfl, rfl, Hv, HI, hO, Below.refl _ _⟩
  case round =>
  clear hO HI
  obtain ⟨k, o, e, hk, rfl, rfl, HO, HI, hO, hbel⟩ := hrel
  by_cases hgo : k < len2 ∧ e = 0
  · obtain ⟨hkl, rfl⟩ := hgo
    have hN := back_next (by omega : k < l.length) HLW.out HO.out HI.out
    obtain ⟨b, off, hA2, hlt, hc⟩ := HL.out.2.2.2.2.1 k l[k] (List.getElem?_eq_getElem (by omega))
    obtain ⟨⟨s, e2⟩, hs⟩ : ∃ r, applyL o [l[k]] = r := ⟨_, rfl⟩
    rw [hs] at hN
    have HN : Hid (Hid s.ok ∧ Hid (backI l R (k + 1) s e2)) := Lib.hid ⟨Lib.hid hN.1, Lib.hid hN.2⟩
    have HS : Hid (∀ w0, Below gO w5 w0 → Calls Try.prog 8 #[.agg #[.int .i64 o.table, .int .i64 o.push, .int .i64 o.streams, .int .i64 o.window, .int .i64 o.frame, .int .i64 o.list], .slice (some ⟨b, off + k * 2, none⟩) 1 (cap2 - k)] w0 fun e w' => e = .returned (.tuple #[.agg #[.int .i64 s.table, .int .i64 s.push, .int .i64 s.streams, .int .i64 s.window, .int .i64 s.frame, .int .i64 s.list], .int .u32 e2]) ∧ Below w0.heap.size w0 w') := Lib.hid fun w0 h0 => by
      have := apply_any o (some ⟨b, off + k * 2, none⟩) 1 (cap2 - k) [l[k]] w0 (prs_one (agg_lo HL.out (HAll.out.2.2.2.2.trans (h0.mono hO1))) (by omega) hkl hA2)
      rw [hs] at this
      exact this
    have hcap : len2 ≤ cap2 := HL.out.2.1
    have hcm : cap2 ≤ maxLen := HL.out.2.2.1
    clear hN hs hc hlt HO HI
    subst hA2
    have hkl' : (k : Int) < (len2 : Int) := by omega
    unfold maxLen at hcm
    have hw1 : IntKind.i64.wrap ((k : Int) + 1) = (k : Int) + 1 := IntWalk.i64_in _ (by omega)
    have ht1 : ((k : Int) + 1).toNat = k + 1 := by omega
    have hc1 : 0 ≤ (k : Int) + 1 := by omega
    have hc2 : (k : Int) + 1 ≤ (cap2 : Int) := by omega
    have hc3 : ¬ cap2 = k := by omega
    clear hcap hcm
    go_upto_region 11 with fail
    refine wp_region_until (S := (fun W => W.cell? ⟨gO, 0, none⟩ = some (.int .i64 o.table) ∧ W.cell? ⟨gO, 1, none⟩ = some (.int .i64 o.push) ∧ W.cell? ⟨gO, 2, none⟩ = some (.int .i64 o.streams) ∧ W.cell? ⟨gO, 3, none⟩ = some (.int .i64 o.window) ∧ W.cell? ⟨gO, 4, none⟩ = some (.int .i64 o.frame) ∧ W.cell? ⟨gO, 5, none⟩ = some (.int .i64 o.list) ∧ gO < W.heap.size)) (S2 := fun _ => True) 6 (by kernel_rfl) ?_
    replace hO : Blk wr.drew _ _ _ := hO
    replace hbel := hbel.drew
    generalize wr.drew = wd at hO hbel ⊢
    have hG : True ∧ (fun W => W.cell? ⟨gO, 0, none⟩ = some (.int .i64 o.table) ∧ W.cell? ⟨gO, 1, none⟩ = some (.int .i64 o.push) ∧ W.cell? ⟨gO, 2, none⟩ = some (.int .i64 o.streams) ∧ W.cell? ⟨gO, 3, none⟩ = some (.int .i64 o.window) ∧ W.cell? ⟨gO, 4, none⟩ = some (.int .i64 o.frame) ∧ W.cell? ⟨gO, 5, none⟩ = some (.int .i64 o.list) ∧ gO < W.heap.size) wd := by have q := hO.facts.1; exact ⟨trivial, q 0, q 1, q 2, q 3, q 4, q 5, hO.lt⟩
    dsimp only at hG
    (refine until_take (i := 0) (oi := _) (op := _) (v := ?_) (getop rfl) (getop rfl) (by kernel_rfl) (by decide) (by kernel_rfl) (by kernel_rfl) (by kernel_rfl) (by kernel_rfl) (fun _ _ _ h => h) (Or.inl ⟨by rfl, ?_⟩) hG ?_; rotate_left; focus (intro w hSw; (try dsimp only at hSw); go_simp; (try with_reducible rfl); done))
    (try simp only [Act.put, List.setIfInBounds_toArray, List.set_cons_zero, List.set_cons_succ])
    (refine until_take2 (i := 1) (oi := _) (v := ?_) (getop rfl) (by decide) (by kernel_rfl) (by kernel_rfl) (by kernel_rfl) (fun _ _ _ h => h) (Or.inl ⟨by rfl, ?_⟩) ⟨hG.1, Or.inr hG.2⟩ ?_; rotate_left; focus (intro w hSw; (try dsimp only at hSw); go_simp; (try with_reducible rfl); done))
    (try simp only [Act.put, List.setIfInBounds_toArray, List.set_cons_zero, List.set_cons_succ])
    (refine until_take2 (i := 2) (oi := _) (v := ?_) (getop rfl) (by decide) (by kernel_rfl) (by kernel_rfl) (by kernel_rfl) (fun _ _ _ h => h) (Or.inl ⟨by rfl, ?_⟩) ⟨hG.1, Or.inr hG.2⟩ ?_; rotate_left; focus (intro w hSw; (try dsimp only at hSw); go_simp; (try with_reducible rfl); done))
    (try simp only [Act.put, List.setIfInBounds_toArray, List.set_cons_zero, List.set_cons_succ])
    (refine until_take2 (i := 3) (oi := _) (v := ?_) (getop rfl) (by decide) (by kernel_rfl) (by kernel_rfl) (by kernel_rfl) (fun _ _ _ h => h) (Or.inl ⟨by rfl, ?_⟩) ⟨hG.1, Or.inr hG.2⟩ ?_; rotate_left; focus (intro w hSw; (try dsimp only at hSw); go_simp; (try with_reducible rfl); done))
    (try simp only [Act.put, List.setIfInBounds_toArray, List.set_cons_zero, List.set_cons_succ])
    (refine until_take2 (i := 4) (oi := _) (v := ?_) (getop rfl) (by decide) (by kernel_rfl) (by kernel_rfl) (by kernel_rfl) (fun _ _ _ h => h) (Or.inl ⟨by rfl, ?_⟩) ⟨hG.1, Or.inr hG.2⟩ ?_; rotate_left; focus (intro w hSw; (try dsimp only at hSw); go_simp; (try with_reducible rfl); done))
    (try simp only [Act.put, List.setIfInBounds_toArray, List.set_cons_zero, List.set_cons_succ])
    (refine until_take2 (i := 5) (oi := _) (v := ?_) (getop rfl) (by decide) (by kernel_rfl) (by kernel_rfl) (by kernel_rfl) (fun _ _ _ h => h) (Or.inl ⟨by rfl, ?_⟩) ⟨hG.1, Or.inr hG.2⟩ ?_; rotate_left; focus (intro w hSw; (try dsimp only at hSw); go_simp; (try with_reducible rfl); done))
    (try simp only [Act.put, List.setIfInBounds_toArray, List.set_cons_zero, List.set_cons_succ])
    clear hG
    refine until_step (i := 6) (o := _) (by kernel_rfl) (getop rfl) (by kernel_rfl) (fun K hK => ?_)
    go_simp
    refine (HS.out _ hbel).mono ?_
    rintro e1 wx ⟨rfl, hb⟩
    replace hO := hO.lo hb
    replace hbel := hbel.trans (hb.mono (Nat.le_trans (Nat.le_of_lt hO0) hbel.size))
    clear hb
    refine hK.out _ _ trivial ?_
    clear hK K
    (try simp only [Act.put, List.setIfInBounds_toArray, List.set_cons_zero, List.set_cons_succ])
    (refine until_take2 (i := 7) (oi := _) (v := ?_) (getop rfl) (by decide) (by kernel_rfl) (by kernel_rfl) (by kernel_rfl) (fun _ _ _ h => h) (Or.inl ⟨by rfl, ?_⟩) ⟨trivial, Or.inl (by kernel_rfl)⟩ ?_; rotate_left; focus (intro w hSw; (try dsimp only at hSw); go_simp; (try with_reducible rfl); done))
    (try simp only [Act.put, List.setIfInBounds_toArray, List.set_cons_zero, List.set_cons_succ])
    (refine until_take2 (i := 8) (oi := _) (v := ?_) (getop rfl) (by decide) (by kernel_rfl) (by kernel_rfl) (by kernel_rfl) (fun _ _ _ h => h) (Or.inl ⟨by rfl, ?_⟩) ⟨trivial, Or.inl (by kernel_rfl)⟩ ?_; rotate_left; focus (intro w hSw; (try dsimp only at hSw); go_simp; (try with_reducible rfl); done))
    (try simp only [Act.put, List.setIfInBounds_toArray, List.set_cons_zero, List.set_cons_succ])
    (refine until_take2 (i := 9) (oi := _) (v := ?_) (getop rfl) (by decide) (by kernel_rfl) (by kernel_rfl) (by kernel_rfl) (fun _ _ _ h => h) (Or.inl ⟨by rfl, ?_⟩) ⟨trivial, Or.inl (by kernel_rfl)⟩ ?_; rotate_left; focus (intro w hSw; (try dsimp only at hSw); go_simp; (try with_reducible rfl); done))
    (try simp only [Act.put, List.setIfInBounds_toArray, List.set_cons_zero, List.set_cons_succ])
    refine until_step (i := 10) (o := _) (by kernel_rfl) (getop rfl) (by kernel_rfl) (fun K hK => ?_)
    obtain ⟨cT, fT⟩ := hO.facts
    have lT := hO.lt
    go_simp
    clear cT fT lT
    replace hO := hO.set_ 0 (.int .i64 s.table)
    replace hbel := hbel.setCell (p := ⟨gO, 0, none⟩) (Nat.le_refl _) (.int .i64 s.table)
    replace hO := hO.set_ 1 (.int .i64 s.push)
    replace hbel := hbel.setCell (p := ⟨gO, 1, none⟩) (Nat.le_refl _) (.int .i64 s.push)
    replace hO := hO.set_ 2 (.int .i64 s.streams)
    replace hbel := hbel.setCell (p := ⟨gO, 2, none⟩) (Nat.le_refl _) (.int .i64 s.streams)
    replace hO := hO.set_ 3 (.int .i64 s.window)
    replace hbel := hbel.setCell (p := ⟨gO, 3, none⟩) (Nat.le_refl _) (.int .i64 s.window)
    replace hO := hO.set_ 4 (.int .i64 s.frame)
    replace hbel := hbel.setCell (p := ⟨gO, 4, none⟩) (Nat.le_refl _) (.int .i64 s.frame)
    replace hO := hO.set_ 5 (.int .i64 s.list)
    replace hbel := hbel.setCell (p := ⟨gO, 5, none⟩) (Nat.le_refl _) (.int .i64 s.list)
    replace hO : Blk ((((((wx.setCell ⟨gO, 0, none⟩ (.int .i64 s.table)).setCell ⟨gO, 1, none⟩ (.int .i64 s.push)).setCell ⟨gO, 2, none⟩ (.int .i64 s.streams)).setCell ⟨gO, 3, none⟩ (.int .i64 s.window)).setCell ⟨gO, 4, none⟩ (.int .i64 s.frame)).setCell ⟨gO, 5, none⟩ (.int .i64 s.list)) gO 26 #[.int .i64 s.table, .int .i64 s.push, .int .i64 s.streams, .int .i64 s.window, .int .i64 s.frame, .int .i64 s.list] := by simpa using hO
    generalize ((((((wx.setCell ⟨gO, 0, none⟩ (.int .i64 s.table)).setCell ⟨gO, 1, none⟩ (.int .i64 s.push)).setCell ⟨gO, 2, none⟩ (.int .i64 s.streams)).setCell ⟨gO, 3, none⟩ (.int .i64 s.window)).setCell ⟨gO, 4, none⟩ (.int .i64 s.frame)).setCell ⟨gO, 5, none⟩ (.int .i64 s.list)) = wy at hO hbel ⊢
    refine hK.out _ _ trivial ?_
    clear hK K
    (try simp only [Act.put, List.setIfInBounds_toArray, List.set_cons_zero, List.set_cons_succ])
    (refine until_take2 (i := 11) (oi := _) (v := ?_) (getop rfl) (by decide) (by kernel_rfl) (by kernel_rfl) (by kernel_rfl) (fun _ _ _ h => h) (Or.inl ⟨by rfl, ?_⟩) ⟨trivial, Or.inl (by kernel_rfl)⟩ ?_; rotate_left; focus (intro w hSw; (try dsimp only at hSw); go_simp; (try with_reducible rfl); done))
    (try simp only [Act.put, List.setIfInBounds_toArray, List.set_cons_zero, List.set_cons_succ])
    refine until_done (by kernel_rfl) ?_ _
    go_wp2_with fail
    go_roundw
    case rel => exact ⟨k + 1, s, e2, by omega, rfl, by go_num, HN.out.1, HN.out.2, hO, hbel⟩
    case measure => simp [intOf]; omega
  · have hex : l.length ≤ k ∨ e ≠ 0 := by omega
    have hRe := back_done hex HI.out
    have hfin := HFIN.out
    rw [hRe] at hfin
    obtain ⟨hA, hB, hC, hY, hL⟩ := HAll.out
    replace hA := hA.below hbel qA
    replace hB := hB.below hbel qB
    replace hC := hC.below hbel qC
    replace hY := hY.below hbel qY
    replace hL : Below w.heap.size w wr := hL.trans (hbel.mono hO1)
    clear HAll hbel HFIN HI hRe hex
    go_upto_region 9 with fail
    go_cut [54] (fun u wc => u = .bool false ∧ wc = wr)
    case first =>
      rcases Nat.lt_or_ge k len2 with h | h
      · have he : ¬ e = 0 := fun he => hgo ⟨h, he⟩
        have hkl' : (k : Int) < (len2 : Int) := by omega
        go_wp2_with fail
        go_meet
        exact ⟨by simp <;> omega, rfl⟩
      · have hkl' : ¬ (k : Int) < (len2 : Int) := by omega
        go_wp2_with fail
        go_meet
        exact ⟨by simp <;> omega, rfl⟩
    case rest =>
    obtain ⟨rfl, rfl⟩ := hcut
    clear hgo
    by_cases he : e = 0
    · subst he
      rw [fin_ok] at hfin
      obtain ⟨rfl, rfl⟩ := Prod.mk.inj hfin
      clear hfin
      obtain ⟨cA, fA⟩ := hA.facts
      obtain ⟨cB, fB⟩ := hB.facts
      obtain ⟨cC, fC⟩ := hC.facts
      obtain ⟨cY, fY⟩ := hY.facts
      obtain ⟨cO, fO⟩ := hO.facts
      go_wp2_with fail
      refine (HS2.out _).mono ?_
      rintro e1 w5 ⟨A1, cap1, rfl, hb⟩
      replace hY := hY.lo hb
      replace hL := lo_trans hL hb
      clear hb cA fA cB fB cC fC cY fY cO fO hA hB hC hO
      obtain ⟨cY, fY⟩ := hY.facts
      go_wp2_with fail
      refine (HCY.out _).mono ?_
      rintro e1 w6 ⟨rfl, hb⟩
      replace hL := lo_trans hL hb
      clear hb cY fY hY
      go_wp2_with fail
      refine (HA.out _).mono ?_
      rintro e wq ⟨rfl, hb⟩
      have hM := Lib.hid (lo_trans hL hb)
      clear hb
      go_wp2_with fail
      go_ret
      exact ⟨rfl, hM.out⟩
    · rw [fin_bad _ _ he] at hfin
      obtain ⟨rfl, rfl⟩ := Prod.mk.inj hfin
      clear hfin
      obtain ⟨cA, fA⟩ := hA.facts
      obtain ⟨cB, fB⟩ := hB.facts
      obtain ⟨cC, fC⟩ := hC.facts
      obtain ⟨cY, fY⟩ := hY.facts
      obtain ⟨cO, fO⟩ := hO.facts
      go_wp2_with fail
      refine (HS2.out _).mono ?_
      rintro e1 w5 ⟨A1, cap1, rfl, hb⟩
      replace hY := hY.lo hb
      replace hL := lo_trans hL hb
      clear hb cA fA cB fB cC fC cY fY cO fO hA hB hC hO
      obtain ⟨cY, fY⟩ := hY.facts
      go_wp2_with fail
      refine (HCY.out _).mono ?_
      rintro e1 w6 ⟨rfl, hb⟩
      replace hL := lo_trans hL hb
      clear hb cY fY hY
      go_wp2_with fail
      refine (HA.out _).mono ?_
      rintro e wq ⟨rfl, hb⟩
      have hM := Lib.hid (lo_trans hL hb)
      clear hb
      go_wp2_with fail
      go_ret
      exact ⟨rfl, hM.out⟩
theorem walk_SetsBack (v0 : Int) (v1 : Int) (v2 : Int) (v3 : Int) (v4 : Int) (v5 : Int) (x0 : Int) (x1 : Int) (x2 : Int) (x3 : Int) (x4 : Int) (x5 : Int) (a2 : Option Addr) (len2 cap2 : Nat) (xs2 : List (Int × Int)) (w : World) (_w00 : (Lit.int .i64 v0).wf = true) (_w01 : (Lit.int .i64 v1).wf = true) (_w02 : (Lit.int .i64 v2).wf = true) (_w03 : (Lit.int .i64 v3).wf = true) (_w04 : (Lit.int .i64 v4).wf = true) (_w05 : (Lit.int .i64 v5).wf = true) (_w10 : (Lit.int .i64 x0).wf = true) (_w11 : (Lit.int .i64 x1).wf = true) (_w12 : (Lit.int .i64 x2).wf = true) (_w13 : (Lit.int .i64 x3).wf = true) (_w14 : (Lit.int .i64 x4).wf = true) (_w15 : (Lit.int .i64 x5).wf = true) (w2 : AggRow 2 (fun x : Int × Int => [Value.int .u16 x.1, Value.int .u32 x.2]) (fun x : Int × Int => (Lit.int .u16 x.1).wf = true ∧ (Lit.int .u32 x.2).wf = true) w a2 len2 cap2 xs2) :
    Calls Try.prog 5 #[.agg #[.int .i64 v0, .int .i64 v1, .int .i64 v2, .int .i64 v3, .int .i64 v4, .int .i64 v5], .agg #[.int .i64 x0, .int .i64 x1, .int .i64 x2, .int .i64 x3, .int .i64 x4, .int .i64 x5], .slice a2 len2 cap2] w fun e w' => e = .returned (.bool true) ∧ Below w.heap.size w w' :=
  back_walk (Vs.mk v0 v1 v2 v3 v4 v5) (Vs.mk x0 x1 x2 x3 x4 x5) a2 len2 cap2 xs2 w w2
end Go.Proofs.Ythjciimodemfpaa
