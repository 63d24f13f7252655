import Derived.RangeFuncNested
import Derived.RangeFuncBound
import Derived.RangeFuncCalls
import Derived.RangeFuncLeaves
import Derived.Shelf.Abstract
import Derived.Shelf.RegionOpen
import Derived.WalkKit
import Derived.OwnWalkIn
import Derived.TacticsInMore
import Derived.LoopNIn
import Derived.LoopIn
import Derived.Test.YtdonnbfojcggmaaGreatNew
namespace Go.Proofs.YtdonnbfojcggmaaGreat
open Go.RowKit Go.Shelf

attribute [local go_sem] Oper.semAt_some
/-- The greater one. -/
def mx (c x : Int) : Int := if x ≤ c then c else x
/-- The greatest limit among settings, and what held before. -/
def gr : Int → List It → Int
  | c, [] => c
  | c, x :: l => gr (mx c x.v) l
/-- The loop's own code, out of the function. -/
noncomputable def runParts : Code × Code := match Tryz.f31.body with
  | some (.seq _ (.seq (.seq _ (.block _ (.rangeFunc _ _ a b))) _)) => (a, b)
  | _ => (.skip, .skip)
def runTmps (sl : Value) (held : Int) (b5 bq bi : Nat) : Array Value :=
  #[sl, .int .u16 3, .int .i64 held, undef, undef, .pointer (some ⟨b5, 0, none⟩), .int .i64 0, undef, sl, .int .u16 3, .func (.func 108) #[] #[.pointer (some ⟨bq, 0, none⟩), .pointer (some ⟨bi, 0, none⟩)], undef, undef, undef, undef, undef]
noncomputable def runRec (fn : FuncId) (tmps : Array Value) (D : Nat) (st : LoopState) (pend : Option Code) : Loop :=
  { state := st, pending := pend, fn, tmps, params := #[11], assign := runParts.1, body := runParts.2, defers := D }
/-- Between two rounds. -/
structure Mid (fn : FuncId) (tmps : Array Value) (b5 bq bi D l : Nat) (sl : Value) (w0 : World) (c : Int) (W : World) : Prop where
  acc : Blk W b5 3 #[.int .i64 c]
  row : Blk W bq 38 #[sl]
  idb : Blk W bi 102 #[.int .u16 3]
  L : W.heap[l]? = some (.loop (runRec fn tmps D .ready none))
  K : W.heap[D]? = some (.deferred (some []))
  low : Below w0.heap.size w0 W
theorem blk_put {W : World} {g l : Nat} {t : TypeId} {cs : Array Value} (h : Blk W g t cs) (hl : g ≠ l) (o : Obj) : Blk (W.putObj l o) g t cs := (World.putObj_heap_other hl).trans h
theorem lo_put {w0 W : World} (h : Below w0.heap.size w0 W) {l : Nat} (hl : w0.heap.size ≤ l) (o : Obj) : Below w0.heap.size w0 (W.putObj l o) :=
  h.trans ⟨rfl, rfl, rfl, by simp, fun k hk => World.putObj_heap_other (by omega)⟩
theorem Mid.lo {fn : FuncId} {tmps : Array Value} {b5 bq bi D l : Nat} {sl : Value} {w0 : World} {c : Int} {W W' : World} (h : Mid fn tmps b5 bq bi D l sl w0 c W) (hb : Below W.heap.size W W') : Mid fn tmps b5 bq bi D l sl w0 c W' :=
  ⟨h.acc.lo hb, h.row.lo hb, h.idb.lo hb, (hb.block l (Array.getElem?_eq_some_iff.1 h.L).1).trans h.L, (hb.block D (Array.getElem?_eq_some_iff.1 h.K).1).trans h.K, lo_trans h.low hb⟩
theorem Mid.alloc {fn : FuncId} {tmps : Array Value} {b5 bq bi D l : Nat} {sl : Value} {w0 : World} {c : Int} {W : World} (h : Mid fn tmps b5 bq bi D l sl w0 c W) (o : Obj) : Mid fn tmps b5 bq bi D l sl w0 c (W.alloc o) := h.lo (lo_alloc (lo_refl W) o)
set_option maxRecDepth 100000 in
set_option maxHeartbeats 3200000 in
/-- One round: the greater one is kept. -/
theorem run_round (F : Fence) (m : Nat) (fn : FuncId) (hfn : F.fn fn) (sl : Value) (held : Int) (b5 bq bi D l : Nat) (w0 : World) (hw : w0.heap.size ≤ b5) (h5q : b5 < bq) (hqi : bq < bi) (hiD : bi < D) (hDl : D < l) (c x : Int) (W : World) (h : Mid fn (runTmps sl held b5 bq bi) b5 bq bi D l sl w0 c W) :
    RoundIn F m Tryz.prog l fn ((runTmps sl held b5 bq bi).setIfInBounds 11 (.int .i64 x)) runParts.1 runParts.2 W
      fun e W' => e = .returned (.bool true) ∧ Mid fn (runTmps sl held b5 bq bi) b5 bq bi D l sl w0 (mx c x) W' := by
  refine roundIn_of_wpIn hfn ?_
  have hl : l < W.heap.size := (Array.getElem?_eq_some_iff.1 h.L).1
  obtain ⟨hA, hQ, hI, hL1, hK1, hlo⟩ := h
  unfold runParts
  simp only [Tryz.f31, runTmps, List.setIfInBounds_toArray, List.set_cons_zero, List.set_cons_succ]
  have hbr := run_beginRound (P := Tryz.prog) hL1 rfl
  have hL2 := World.putObj_heap_same (w := W) (o := .loop { runRec fn (runTmps sl held b5 bq bi) D .ready none with state := .busy }) hl
  have hK2 := (World.putObj_heap_other (w := W) (o := .loop { runRec fn (runTmps sl held b5 bq bi) D .ready none with state := .busy }) (show D ≠ l by omega)).trans hK1
  have hA2 := blk_put hA (show b5 ≠ l by omega) (.loop { runRec fn (runTmps sl held b5 bq bi) D .ready none with state := .busy })
  have hQ2 := blk_put hQ (show bq ≠ l by omega) (.loop { runRec fn (runTmps sl held b5 bq bi) D .ready none with state := .busy })
  have hI2 := blk_put hI (show bi ≠ l by omega) (.loop { runRec fn (runTmps sl held b5 bq bi) D .ready none with state := .busy })
  have hlo2 := lo_put hlo (show w0.heap.size ≤ l by omega) (.loop { runRec fn (runTmps sl held b5 bq bi) D .ready none with state := .busy })
  generalize W.putObj l (.loop { runRec fn (runTmps sl held b5 bq bi) D .ready none with state := .busy }) = W2 at hbr hL2 hK2 hA2 hQ2 hI2 hlo2
  have HBR := Lib.hid hbr
  clear hbr hA hQ hI hL1 hK1 hlo
  obtain ⟨v, hv, hcase⟩ : ∃ v, mx c x = v ∧ ((x ≤ c ∧ v = c) ∨ (¬ x ≤ c ∧ v = x)) := by
    refine ⟨_, rfl, ?_⟩
    unfold mx
    split
    · exact .inl ⟨by assumption, rfl⟩
    · exact .inr ⟨by assumption, rfl⟩
  rw [hv]
  clear hv
  rcases hcase with ⟨hxc, rfl⟩ | ⟨hxc, rfl⟩
  · gi_wp2
    refine ⟨W2, HBR.out, ?_⟩
    obtain ⟨c5, f5⟩ := hA2.facts
    have l5 := hA2.lt
    gi_wp2
    clear c5 f5
    have hL3 := (Below.heap_setCell _ ⟨b5, 0, none⟩ (.int .i64 v) l (show l ≠ b5 by omega)).trans hL2
    refine ⟨_, _, run_endRound none hL3, rfl, ?_⟩
    refine ⟨blk_put (hA2.set_ 0 (.int .i64 v)) (by omega) _, blk_put (hQ2.far (p := ⟨b5, 0, none⟩) (show bq ≠ b5 by omega) _) (by omega) _, blk_put (hI2.far (p := ⟨b5, 0, none⟩) (show bi ≠ b5 by omega) _) (by omega) _, World.putObj_heap_same (Array.getElem?_eq_some_iff.1 hL3).1, (World.putObj_heap_other (by omega)).trans ((Below.heap_setCell _ ⟨b5, 0, none⟩ (.int .i64 v) D (show D ≠ b5 by omega)).trans hK2), lo_put (lo_set hlo2 (p := ⟨b5, 0, none⟩) hw _) (by omega) _⟩
  · gi_wp2
    refine ⟨W2, HBR.out, ?_⟩
    obtain ⟨c5, f5⟩ := hA2.facts
    have l5 := hA2.lt
    gi_wp2
    clear c5 f5
    have hL3 := (Below.heap_setCell _ ⟨b5, 0, none⟩ (.int .i64 v) l (show l ≠ b5 by omega)).trans hL2
    refine ⟨_, _, run_endRound none hL3, rfl, ?_⟩
    refine ⟨blk_put (hA2.set_ 0 (.int .i64 v)) (by omega) _, blk_put (hQ2.far (p := ⟨b5, 0, none⟩) (show bq ≠ b5 by omega) _) (by omega) _, blk_put (hI2.far (p := ⟨b5, 0, none⟩) (show bi ≠ b5 by omega) _) (by omega) _, World.putObj_heap_same (Array.getElem?_eq_some_iff.1 hL3).1, (World.putObj_heap_other (by omega)).trans ((Below.heap_setCell _ ⟨b5, 0, none⟩ (.int .i64 v) D (show D ≠ b5 by omega)).trans hK2), lo_put (lo_set hlo2 (p := ⟨b5, 0, none⟩) hw _) (by omega) _⟩
set_option maxRecDepth 100000 in
set_option maxHeartbeats 3200000 in
theorem gr_take (c : Int) (l : List It) (k : Nat) (h : k < l.length) : gr c (l.take (k + 1)) = mx (gr c (l.take k)) l[k].v := by
  induction l generalizing c k with
  | nil => simp at h
  | cons x l ih =>
    cases k with
    | zero => simp [gr]
    | succ k =>
      simp only [List.length_cons] at h
      simp only [List.take_succ_cons, gr, List.getElem_cons_succ]
      exact ih (mx c x.v) k (by omega)
/-- The iterator: each limit, in order. -/
theorem values_walk (fn : FuncId) (A : Option Addr) (n cap : Nat) (xs : List It) (held : Int) (b5 bq bi D l : Nat) (w0 : World) (hw : w0.heap.size ≤ b5) (h5q : b5 < bq) (hqi : bq < bi) (hiD : bi < D) (hDl : D < l) (hfn : Fence.wide.fn fn)
    (hI : ItsOk w0 A n cap xs) (nn : Nat) (hn : 3 ≤ nn) (W : World) (h : Mid fn (runTmps (.slice A n cap) held b5 bq bi) b5 bq bi D l (.slice A n cap) w0 held W) :
    CallsIn Fence.wide nn Tryz.prog 108 #[.func (.yield l) #[] #[], .pointer (some ⟨bq, 0, none⟩), .pointer (some ⟨bi, 0, none⟩)] W fun e W' => (∃ v, e = .returned v) ∧ Mid fn (runTmps (.slice A n cap) held b5 bq bi) b5 bq bi D l (.slice A n cap) w0 (gr held xs) W' := by
  have hln := hI.len
  have hn4 := hI.few
  have HI := Lib.hid hI
  have HG := Lib.hid (gr_take held xs)
  obtain ⟨G, hG⟩ : ∃ G : Nat → Int, ∀ k, G k = gr held (xs.take k) := ⟨_, fun _ => rfl⟩
  have HGG := Lib.hid hG
  have hg0 : G 0 = held := hG 0
  clear hI hG
  refine callsIn_of_wp Tryz.func108 rfl trivial ?_ rfl
  simp only [Tryz.ntmps108, List.size_toArray, List.length_cons, List.length_nil, Nat.reduceAdd, Nat.reduceSub, Array.replicate_succ, Array.replicate_zero, List.push_toArray, List.append_toArray, List.nil_append, List.cons_append]
  obtain ⟨cl, fl⟩ := h.row.facts
  gi_wp2
  clear cl fl
  gi_loopw [5, 7, 10, 17] (fun _ _ y _ wr => ∃ k : Nat, k ≤ n ∧ y = .int .i64 k ∧ Mid fn (runTmps (.slice A n cap) held b5 bq bi) b5 bq bi D l (.slice A n cap) w0 (G k) wr) (fun _ _ y _ _ => n - (intOf y).toNat)
  case atStart => exact ⟨0, by omega, rfl, by rw [hg0]; exact h⟩
  case round =>
    clear h
    obtain ⟨k, hk, rfl, hM⟩ := hrel
    by_cases hkl : k < n
    · have hkl' : (k : Int) < (n : Int) := by omega
      have hgk := HG.out k (by omega)
      rw [← HGG.out, ← HGG.out] at hgk
      obtain ⟨b, off, rfl, hlt, hc⟩ := (HI.out.row.lo hM.low).at (i := k) (x := xs[k]) (List.getElem?_eq_getElem (by omega))
      have hc0 := hc 0 _ rfl
      have hc1 := hc 1 _ rfl
      simp only [Nat.add_zero] at hc0
      have hnum := (HI.out.num xs[k] (List.getElem_mem _)).1
      have hpr := HI.out.prs xs[k] (List.getElem_mem _)
      generalize xs[k] = x at hc0 hc1 hgk hnum hpr
      obtain ⟨m, hm⟩ : ∃ m, x.n = m := ⟨_, rfl⟩
      obtain ⟨pl, hpl⟩ : ∃ pl, x.l = pl := ⟨_, rfl⟩
      obtain ⟨v, hv⟩ : ∃ v, x.v = v := ⟨_, rfl⟩
      have hcase : (m = 1 ∧ pl = [(3, v)]) ∨ (m = 2 ∧ pl = [(3, v), (6, 1024)]) := by
        subst hm hpl hv
        unfold It.n It.l
        cases x.two
        · exact .inl ⟨rfl, rfl⟩
        · exact .inr ⟨rfl, rfl⟩
      rw [hm] at hc0 hpr
      rw [hpl] at hpr
      rw [hv] at hgk hnum
      generalize x.A = B at hc0 hpr
      generalize x.cap = cB at hc0 hpr
      generalize x.t = xt at hc1
      have hwv : IntKind.i64.wrap v = v := IntWalk.i64_in _ (by omega)
      have HPR := Lib.hid hpr
      clear hc hm hpl hv hpr hnum
      have hX := Blk.new wr 116 #[.slice B m cB, .int .i64 xt]
      replace hM := hM.alloc (.cells #[.slice B m cB, .int .i64 xt] 116)
      obtain ⟨cX, fX⟩ := hX.facts
      obtain ⟨hf, hhf⟩ : ∃ hf : Nat → Int, ∀ j, hf j = if j = 0 then G k else G (k + 1) := ⟨_, fun _ => rfl⟩
      have HHF := Lib.hid hhf
      have h0 : hf 0 = G k := hhf 0
      clear hhf
      gi_wp2
      clear cX fX hc0 hc1 hX hlt
      gi_loopw [7, 17] (fun _ y w2 => ∃ j : Nat, j ≤ m ∧ y = .int .i64 j ∧ Mid fn (runTmps (.slice (some ⟨b, off, none⟩) n cap) held b5 bq bi) b5 bq bi D l (.slice (some ⟨b, off, none⟩) n cap) w0 (hf j) w2) (fun _ y _ => m - (intOf y).toNat)
      case atStart => exact ⟨0, by omega, rfl, by rw [h0]; exact hM⟩
      case round =>
        clear hM h0
        obtain ⟨j, hj, rfl, hM⟩ := hrel
        rcases hcase with ⟨rfl, rfl⟩ | ⟨rfl, rfl⟩
        · rcases (by omega : j = 0 ∨ j = 1) with rfl | rfl
          · have hz : hf 0 = G k := by rw [HHF.out]; rfl
            rw [hz] at hM
            clear hz
            obtain ⟨b2, off2, he, hlt2, hd⟩ := (HPR.out.lo hM.low).at (i := 0) (x := (3, v)) rfl
            obtain rfl := he
            have q0 := hd 0 _ rfl
            have q1 := hd 1 _ rfl
            simp only [Nat.add_zero, Nat.zero_mul, Nat.reduceMul, Nat.add_assoc, Nat.reduceAdd] at q0 q1
            clear hd
            have hY := Blk.new wr 104 #[.int .u16 3, .int .u32 v]
            replace hM := hM.alloc (.cells #[.int .u16 3, .int .u32 v] 104)
            obtain ⟨cY, fY⟩ := hY.facts
            obtain ⟨cI, fI⟩ := hM.idb.facts
            have hy := run_yield (P := Tryz.prog) (args := #[.int .i64 v]) hM.L rfl
            simp only [runRec] at hy
            gi_wp2
            refine ⟨fun _ => by omega, (run_round Fence.wide (nn - 1) fn hfn _ held b5 bq bi D l w0 hw h5q hqi hiD hDl (G k) v _ hM).mono ?_⟩
            rintro e W4 ⟨rfl, hM4⟩
            clear hy hM cY fY cI fI q0 q1 hY hlt2
            gi_wp2
            go_roundw
            case rel =>
              have h1 : hf 1 = G (k + 1) := by rw [HHF.out]; rfl
              exact ⟨_, _, _, _, _, _, _, _, _, _, _, _, _, _, _, _, _, _, ⟨1, by omega, rfl, by rw [h1, hgk]; exact hM4⟩, rfl⟩
            case measure => simp [intOf]
          · have hz : hf 1 = G (k + 1) := by rw [HHF.out]; rfl
            rw [hz] at hM
            gi_wp2
            go_roundw
            case rel => exact ⟨k + 1, by omega, by go_num, hM⟩
            case measure => simp [intOf]; omega
        · rcases (by omega : j = 0 ∨ j = 1 ∨ j = 2) with rfl | rfl | rfl
          · have hz : hf 0 = G k := by rw [HHF.out]; rfl
            rw [hz] at hM
            clear hz
            obtain ⟨b2, off2, he, hlt2, hd⟩ := (HPR.out.lo hM.low).at (i := 0) (x := (3, v)) rfl
            obtain rfl := he
            have q0 := hd 0 _ rfl
            have q1 := hd 1 _ rfl
            simp only [Nat.add_zero, Nat.zero_mul, Nat.reduceMul, Nat.add_assoc, Nat.reduceAdd] at q0 q1
            clear hd
            have hY := Blk.new wr 104 #[.int .u16 3, .int .u32 v]
            replace hM := hM.alloc (.cells #[.int .u16 3, .int .u32 v] 104)
            obtain ⟨cY, fY⟩ := hY.facts
            obtain ⟨cI, fI⟩ := hM.idb.facts
            have hy := run_yield (P := Tryz.prog) (args := #[.int .i64 v]) hM.L rfl
            simp only [runRec] at hy
            gi_wp2
            refine ⟨fun _ => by omega, (run_round Fence.wide (nn - 1) fn hfn _ held b5 bq bi D l w0 hw h5q hqi hiD hDl (G k) v _ hM).mono ?_⟩
            rintro e W4 ⟨rfl, hM4⟩
            clear hy hM cY fY cI fI q0 q1 hY hlt2
            gi_wp2
            go_roundw
            case rel =>
              have h1 : hf 1 = G (k + 1) := by rw [HHF.out]; rfl
              exact ⟨_, _, _, _, _, _, _, _, _, _, _, _, _, _, _, _, _, _, ⟨1, by omega, rfl, by rw [h1, hgk]; exact hM4⟩, rfl⟩
            case measure => simp [intOf]
          · have hz : hf 1 = G (k + 1) := by rw [HHF.out]; rfl
            rw [hz] at hM
            clear hz
            obtain ⟨b2, off2, he, hlt2, hd⟩ := (HPR.out.lo hM.low).at (i := 1) (x := (6, 1024)) rfl
            obtain rfl := he
            have q0 := hd 0 _ rfl
            have q1 := hd 1 _ rfl
            simp only [Nat.add_zero, Nat.zero_mul, Nat.reduceMul, Nat.add_assoc, Nat.reduceAdd] at q0 q1
            clear hd
            have hY := Blk.new wr 104 #[.int .u16 6, .int .u32 1024]
            replace hM := hM.alloc (.cells #[.int .u16 6, .int .u32 1024] 104)
            obtain ⟨cY, fY⟩ := hY.facts
            obtain ⟨cI, fI⟩ := hM.idb.facts
            gi_wp2
            refine ⟨(fun _ h => by cases h), ?_⟩
            gi_wp2
            go_roundw
            case rel =>
              have h1 : hf 2 = G (k + 1) := by rw [HHF.out]; rfl
              exact ⟨_, _, _, _, _, _, _, _, _, _, _, _, _, _, _, _, _, _, ⟨2, by omega, rfl, by rw [h1]; exact hM⟩, rfl⟩
            case measure => simp [intOf]
          · have hz : hf 2 = G (k + 1) := by rw [HHF.out]; rfl
            rw [hz] at hM
            gi_wp2
            go_roundw
            case rel => exact ⟨k + 1, by omega, by go_num, hM⟩
            case measure => simp [intOf]; omega
    · obtain rfl : k = n := by omega
      have hGn : G k = gr held xs := by rw [HGG.out, List.take_of_length_le (by omega)]
      rw [hGn] at hM
      gi_wp2
      go_end0
      exact ⟨⟨_, rfl⟩, hM⟩
theorem values_any (A : Option Addr) (n cap : Nat) (w : World) :
    CallsIn Fence.wide 4 Tryz.prog 65 #[.slice A n cap, .int .u16 3] w fun e w' => e = .returned (.func (.func 108) #[] #[.pointer (some ⟨w.heap.size, 0, none⟩), .pointer (some ⟨w.heap.size + 1, 0, none⟩)]) ∧ w' = (w.alloc (.cells #[.slice A n cap] 38)).alloc (.cells #[.int .u16 3] 102) := by
  refine callsIn_of_wp Tryz.func65 rfl trivial ?_ rfl
  simp only [Tryz.ntmps65, List.size_toArray, List.length_cons, List.length_nil, Nat.reduceAdd, Nat.reduceSub, Array.replicate_succ, Array.replicate_zero, List.push_toArray, List.append_toArray, List.nil_append, List.cons_append]
  gi_wp2
  go_ret
  exact ⟨rfl, rfl⟩
set_option maxRecDepth 100000 in
set_option maxHeartbeats 1600000 in
theorem greatest_any (A : Option Addr) (n cap : Nat) (xs : List It) (held : Int) (w : World) (hI : ItsOk w A n cap xs) : Calls Tryz.prog 31 #[.slice A n cap, .int .u16 3, .int .i64 held] w (IntPost w (gr held xs)) := by
  obtain ⟨R, hR⟩ : ∃ R, gr held xs = R := ⟨_, rfl⟩
  rw [hR]
  have HRR := Lib.hid hR
  clear hR
  refine (callsIn_wide (n := 5)).1 ?_
  refine callsIn_of_wp_marks Tryz.func31 rfl trivial ?_ rfl
  simp only [Tryz.ntmps31, List.size_toArray, List.length_cons, List.length_nil, Nat.reduceAdd, Nat.reduceSub, Array.replicate_succ, Array.replicate_zero, List.push_toArray, List.append_toArray, List.nil_append, List.cons_append]
  gi_wp2
  refine ⟨trivial, ?_⟩
  refine (values_any A n cap _).mono ?_
  rintro e W0 ⟨rfl, rfl⟩
  gi_wp2
  refine wpIn_rangeFunc ?_
  intro fn hfn
  rw [show Fence.wide.round = none from rfl]
  obtain ⟨b5, e5⟩ : ∃ b, w.heap.size = b := ⟨_, rfl⟩
  obtain ⟨bq, eq⟩ : ∃ b, w.heap.size + 1 = b := ⟨_, rfl⟩
  obtain ⟨bi, ei⟩ : ∃ b, w.heap.size + 1 + 1 = b := ⟨_, rfl⟩
  have hA : Blk (((w.alloc (.cells #[.int .i64 held] 3)).alloc (.cells #[.slice A n cap] 38)).alloc (.cells #[.int .u16 3] 102)) w.heap.size 3 #[.int .i64 held] := ((Blk.new w 3 #[.int .i64 held]).alloc _).alloc _
  have hQ : Blk (((w.alloc (.cells #[.int .i64 held] 3)).alloc (.cells #[.slice A n cap] 38)).alloc (.cells #[.int .u16 3] 102)) (w.heap.size + 1) 38 #[.slice A n cap] := by
    have := (Blk.new (w.alloc (.cells #[.int .i64 held] 3)) 38 #[.slice A n cap]).alloc (.cells #[.int .u16 3] 102)
    simp only [World.size_alloc] at this
    exact this
  have hD : Blk (((w.alloc (.cells #[.int .i64 held] 3)).alloc (.cells #[.slice A n cap] 38)).alloc (.cells #[.int .u16 3] 102)) (w.heap.size + 1 + 1) 102 #[.int .u16 3] := by
    have := Blk.new ((w.alloc (.cells #[.int .i64 held] 3)).alloc (.cells #[.slice A n cap] 38)) 102 #[.int .u16 3]
    simp only [World.size_alloc] at this
    exact this
  have hlow : Below w.heap.size w (((w.alloc (.cells #[.int .i64 held] 3)).alloc (.cells #[.slice A n cap] 38)).alloc (.cells #[.int .u16 3] 102)) := lo_alloc (lo_alloc (lo_alloc (lo_refl w) _) _) _
  have hs0 : (((w.alloc (.cells #[.int .i64 held] 3)).alloc (.cells #[.slice A n cap] 38)).alloc (.cells #[.int .u16 3] 102)).heap.size = w.heap.size + 1 + 1 + 1 := by simp only [World.size_alloc]
  rw [ei, eq, e5]
  rw [e5] at hA
  rw [eq] at hQ
  rw [ei] at hD
  generalize (((w.alloc (.cells #[.int .i64 held] 3)).alloc (.cells #[.slice A n cap] 38)).alloc (.cells #[.int .u16 3] 102)) = W0 at hA hQ hD hlow hs0 ⊢
  obtain ⟨W1, hW1⟩ : ∃ W1, (W0.alloc (.deferred (some []))).alloc (.loop (runRec fn (runTmps (.slice A n cap) held b5 bq bi) W0.heap.size .ready none)) = W1 := ⟨_, rfl⟩
  have hM : Mid fn (runTmps (.slice A n cap) held b5 bq bi) b5 bq bi W0.heap.size (W0.heap.size + 1) (.slice A n cap) w held W1 := by
    rw [← hW1]
    refine ⟨(hA.alloc _).alloc _, (hQ.alloc _).alloc _, (hD.alloc _).alloc _, ?_, ?_, lo_alloc (lo_alloc hlow _) _⟩
    · have := World.alloc_heap_new (W0.alloc (.deferred (some []))) (.loop (runRec fn (runTmps (.slice A n cap) held b5 bq bi) W0.heap.size .ready none))
      rwa [World.size_alloc] at this
    · exact (Below.heap_alloc _ _ _ (by simp)).trans (World.alloc_heap_new W0 _)
  refine ⟨W0.heap.size + 1, [{ target := .collected W0.heap.size, args := #[] }], W1, { target := .fn (.func 108) #[.pointer (some ⟨bq, 0, none⟩), .pointer (some ⟨bi, 0, none⟩)], args := #[.func (.yield (W0.heap.size + 1)) #[] #[]] }, W1, 108,
    #[.func (.yield (W0.heap.size + 1)) #[] #[], .pointer (some ⟨bq, 0, none⟩), .pointer (some ⟨bi, 0, none⟩)], W1, ?_, ?_, ?_, ?_, fun _ => by omega, ?_⟩
  · rw [← hW1]; exact run_enterLoop_outer _ _ _ _ _
  · simp [resolve, go_sem]
  · intro f' hf'; simp [Target.leads] at hf'; subst hf'; trivial
  · simp [invoke, go_sem]
  · refine (values_walk fn A n cap xs held b5 bq bi W0.heap.size (W0.heap.size + 1) w (by omega) (by omega) (by omega) (by omega) (by omega) hfn hI 4 (by omega) W1 hM).mono ?_
    rintro e W2 ⟨⟨v, rfl⟩, hM2⟩
    have hend := run_endLoop (P := Tryz.prog) hM2.L (by simp [runRec])
    have h5 := blk_put hM2.acc (show b5 ≠ W0.heap.size + 1 by omega) (.loop { runRec fn (runTmps (.slice A n cap) held b5 bq bi) W0.heap.size .ready none with state := .exhausted })
    have hK := (World.putObj_heap_other (w := W2) (o := .loop { runRec fn (runTmps (.slice A n cap) held b5 bq bi) W0.heap.size .ready none with state := .exhausted }) (show W0.heap.size ≠ W0.heap.size + 1 by omega)).trans hM2.K
    have hlo := lo_put hM2.low (show w.heap.size ≤ W0.heap.size + 1 by omega) (.loop { runRec fn (runTmps (.slice A n cap) held b5 bq bi) W0.heap.size .ready none with state := .exhausted })
    generalize W2.putObj (W0.heap.size + 1) (.loop { runRec fn (runTmps (.slice A n cap) held b5 bq bi) W0.heap.size .ready none with state := .exhausted }) = W3 at hend h5 hK hlo
    rw [HRR.out] at h5
    refine ⟨none, W3, hend, ?_⟩
    clear hend hM2 hM hW1 hA hQ hD hlow
    obtain ⟨c5, f5⟩ := h5.facts
    gi_wp2
    clear c5 f5
    have hD3 : W0.heap.size = b5 + 1 + 1 + 1 := by omega
    rw [hD3] at hK
    refine ⟨by simp, .inl ⟨_, _, rfl, run_takeDeferred hK, ?_⟩⟩
    have hlo2 := lo_put hlo (show w.heap.size ≤ b5 + 1 + 1 + 1 by omega) (.deferred none)
    exact ⟨.int .i64 R, by simp [results, Tryz.f31, go_sem], rfl, hlo2⟩
theorem agreed_any (got : Int) (sA : Option Addr) (sn sc : Nat) (held told : Int) (oA : Option Addr) (on oc : Nat) (made gone : Int) (begun dead : Bool) (code now : Int) (l : List It) (w : World) (hl : ItsOk w sA sn sc l) : Calls Tryz.prog 11 #[.agg #[.int .i64 got, .string ⟨#[]⟩, .bool false, .int .i64 0, .string ⟨#[]⟩, .bool false, .int .i64 4096, .slice none 0 0, .int .i64 4096, .int .i64 4096, .slice none 0 0, .int .i64 4096, .int .i64 4096, .int .i64 4096, .int .i64 1, .int .i64 4294967295, .int .i64 65535, .int .i64 16384, .int .i64 4294967295, .slice sA sn sc, .int .i64 held, .int .i64 told, .int .i64 0, .slice none 0 0, .slice none 0 0, .slice none 0 0, .int .i64 65535, .int .i64 65535, .slice oA on oc, .int .i64 made, .int .i64 gone, .bool begun, .bool false, .bool dead, .int .u32 code, .int .i64 now, .int .i64 30]] w (IntPost w (gr held l)) := by
  have H : Hid (∀ W, Below w.heap.size w W → Calls Tryz.prog 31 #[.slice sA sn sc, .int .u16 3, .int .i64 held] W (IntPost W (gr held l))) := Lib.hid fun W hb => greatest_any sA sn sc l held W (hl.lo hb)
  generalize gr held l = R at H ⊢
  clear hl
  have hA := Blk.new w 49 #[.int .i64 got, .string ⟨#[]⟩, .bool false, .int .i64 0, .string ⟨#[]⟩, .bool false, .int .i64 4096, .slice none 0 0, .int .i64 4096, .int .i64 4096, .slice none 0 0, .int .i64 4096, .int .i64 4096, .int .i64 4096, .int .i64 1, .int .i64 4294967295, .int .i64 65535, .int .i64 16384, .int .i64 4294967295, .slice sA sn sc, .int .i64 held, .int .i64 told, .int .i64 0, .slice none 0 0, .slice none 0 0, .slice none 0 0, .int .i64 65535, .int .i64 65535, .slice oA on oc, .int .i64 made, .int .i64 gone, .bool begun, .bool false, .bool dead, .int .u32 code, .int .i64 now, .int .i64 30]
  have hL := lo_alloc (lo_refl w) (.cells #[.int .i64 got, .string ⟨#[]⟩, .bool false, .int .i64 0, .string ⟨#[]⟩, .bool false, .int .i64 4096, .slice none 0 0, .int .i64 4096, .int .i64 4096, .slice none 0 0, .int .i64 4096, .int .i64 4096, .int .i64 4096, .int .i64 1, .int .i64 4294967295, .int .i64 65535, .int .i64 16384, .int .i64 4294967295, .slice sA sn sc, .int .i64 held, .int .i64 told, .int .i64 0, .slice none 0 0, .slice none 0 0, .slice none 0 0, .int .i64 65535, .int .i64 65535, .slice oA on oc, .int .i64 made, .int .i64 gone, .bool begun, .bool false, .bool dead, .int .u32 code, .int .i64 now, .int .i64 30] 49)
  obtain ⟨cA, fA⟩ := hA.facts
  have lA := hA.lt
  have c19 : (w.alloc (.cells #[.int .i64 got, .string ⟨#[]⟩, .bool false, .int .i64 0, .string ⟨#[]⟩, .bool false, .int .i64 4096, .slice none 0 0, .int .i64 4096, .int .i64 4096, .slice none 0 0, .int .i64 4096, .int .i64 4096, .int .i64 4096, .int .i64 1, .int .i64 4294967295, .int .i64 65535, .int .i64 16384, .int .i64 4294967295, .slice sA sn sc, .int .i64 held, .int .i64 told, .int .i64 0, .slice none 0 0, .slice none 0 0, .slice none 0 0, .int .i64 65535, .int .i64 65535, .slice oA on oc, .int .i64 made, .int .i64 gone, .bool begun, .bool false, .bool dead, .int .u32 code, .int .i64 now, .int .i64 30] 49)).cell? ⟨w.heap.size, 19, none⟩ = some (.slice sA sn sc) := by rw [cA]; rfl
  have c20 : (w.alloc (.cells #[.int .i64 got, .string ⟨#[]⟩, .bool false, .int .i64 0, .string ⟨#[]⟩, .bool false, .int .i64 4096, .slice none 0 0, .int .i64 4096, .int .i64 4096, .slice none 0 0, .int .i64 4096, .int .i64 4096, .int .i64 4096, .int .i64 1, .int .i64 4294967295, .int .i64 65535, .int .i64 16384, .int .i64 4294967295, .slice sA sn sc, .int .i64 held, .int .i64 told, .int .i64 0, .slice none 0 0, .slice none 0 0, .slice none 0 0, .int .i64 65535, .int .i64 65535, .slice oA on oc, .int .i64 made, .int .i64 gone, .bool begun, .bool false, .bool dead, .int .u32 code, .int .i64 now, .int .i64 30] 49)).cell? ⟨w.heap.size, 20, none⟩ = some (.int .i64 held) := by rw [cA]; rfl
  clear cA fA
  go_enter Tryz.func11, Tryz.ntmps11
  go_wp2_with fail
  refine (H.out _ hL).mono ?_
  rintro e w1 ⟨rfl, hb⟩
  replace hL := lo_trans hL hb
  clear c19 c20 hb lA
  go_wp2_with fail
  go_ret
  exact ⟨rfl, hL⟩
end Go.Proofs.YtdonnbfojcggmaaGreat
