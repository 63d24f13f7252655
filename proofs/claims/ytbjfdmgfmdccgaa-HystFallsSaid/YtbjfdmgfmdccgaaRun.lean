import Derived.Test.YtbjfdmgfmdccgaaSee
import Derived.RangeFuncNested
import Derived.RangeFuncBound
import Derived.RangeFuncCalls
import Derived.RangeFuncLeaves
import Derived.Shelf.Abstract
import Derived.Shelf.RegionOpen
import Derived.WalkKit
import Derived.OwnWalkIn
import Derived.TacticsInMore
import Derived.LoopNIn
import Derived.LoopIn
namespace Go.Proofs.Ytbjfdmgfmdccgaa
open Go.RowKit Go.Shelf
attribute [local go_sem] Oper.semAt_some

/-- Looks from a state on, and how often the limit has changed. -/
def runS : List Int → St → Int → St × Int
  | [], s, c => (s, c)
  | x :: t, s, c => runS t (seeS s x).1 (if (seeS s x).2 then c + 1 else c)
/-- The loop's own code, out of the function. -/
noncomputable def runParts : Code × Code := match Try.f12.body with
  | some (.seq _ (.seq _ (.seq (.seq _ (.block _ (.rangeFunc _ _ a b))) _))) => (a, b)
  | _ => (.skip, .skip)
def runTmps (s0 : St) (sl : Value) (b2 b4 bn bs bl : Nat) : Array Value :=
  #[.agg #[.int .i64 s0.limit, .int .i64 s0.least, .int .i64 s0.most, .int .i64 s0.low, .int .i64 s0.high, .int .i64 s0.quiet, .int .i64 s0.calm], sl, .pointer (some ⟨b2, 0, none⟩), undef, .pointer (some ⟨b4, 0, none⟩), .int .i64 0, .pointer (some ⟨bn, 0, none⟩), undef, undef, .agg #[.int .i64 s0.limit, .int .i64 s0.least, .int .i64 s0.most, .int .i64 s0.low, .int .i64 s0.high, .int .i64 s0.quiet, .int .i64 s0.calm], sl, .func (.func 20) #[] #[.pointer (some ⟨bl, 0, none⟩), .pointer (some ⟨bs, 0, none⟩)], undef, undef, undef, undef, undef, undef, undef, undef]
noncomputable def runRec (fn : FuncId) (tmps : Array Value) (D : Nat) (st : LoopState) (pend : Option Code) : Loop :=
  { state := st, pending := pend, fn, tmps, params := #[12, 13], assign := runParts.1, body := runParts.2, defers := D }
/-- Between two rounds. -/
structure Mid (fn : FuncId) (tmps : Array Value) (b2 b4 bn bs bl D l : Nat) (sl : Value) (w0 : World) (s2 s : St) (c : Int) (W : World) : Prop where
  st : Blk W b2 24 #[.int .i64 s2.limit, .int .i64 s2.least, .int .i64 s2.most, .int .i64 s2.low, .int .i64 s2.high, .int .i64 s2.quiet, .int .i64 s2.calm]
  out : Blk W b4 24 #[.int .i64 0, .int .i64 0, .int .i64 0, .int .i64 0, .int .i64 0, .int .i64 0, .int .i64 0]
  cnt : Blk W bn 3 #[.int .i64 c]
  own : Blk W bs 24 #[.int .i64 s.limit, .int .i64 s.least, .int .i64 s.most, .int .i64 s.low, .int .i64 s.high, .int .i64 s.quiet, .int .i64 s.calm]
  row : Blk W bl 33 #[sl]
  L : W.heap[l]? = some (.loop (runRec fn tmps D .ready none))
  K : W.heap[D]? = some (.deferred (some []))
  low : Below w0.heap.size w0 W
theorem blk_put {W : World} {g l : Nat} {t : TypeId} {cs : Array Value} (h : Blk W g t cs) (hl : g ≠ l) (o : Obj) : Blk (W.putObj l o) g t cs := (World.putObj_heap_other hl).trans h
theorem lo_put {w0 W : World} (h : Below w0.heap.size w0 W) {l : Nat} (hl : w0.heap.size ≤ l) (o : Obj) : Below w0.heap.size w0 (W.putObj l o) :=
  h.trans ⟨rfl, rfl, rfl, by simp, fun k hk => World.putObj_heap_other (by omega)⟩
theorem put7 {w : World} {g : Nat} {t : TypeId} {x0 x1 x2 x3 x4 x5 x6 : Value} (h : Blk w g t #[x0, x1, x2, x3, x4, x5, x6]) (a b c d e f i : Value) :
    Blk (((((((w.setCell ⟨g, 0, none⟩ a).setCell ⟨g, 1, none⟩ b).setCell ⟨g, 2, none⟩ c).setCell ⟨g, 3, none⟩ d).setCell ⟨g, 4, none⟩ e).setCell ⟨g, 5, none⟩ f).setCell ⟨g, 6, none⟩ i) g t #[a, b, c, d, e, f, i] := by
  simpa using ((((((h.set_ 0 a).set_ 1 b).set_ 2 c).set_ 3 d).set_ 4 e).set_ 5 f).set_ 6 i
theorem far7 {w : World} {g k : Nat} {t : TypeId} {cs : Array Value} (h : Blk w g t cs) (hk : g ≠ k) (a b c d e f i : Value) :
    Blk (((((((w.setCell ⟨k, 0, none⟩ a).setCell ⟨k, 1, none⟩ b).setCell ⟨k, 2, none⟩ c).setCell ⟨k, 3, none⟩ d).setCell ⟨k, 4, none⟩ e).setCell ⟨k, 5, none⟩ f).setCell ⟨k, 6, none⟩ i) g t cs :=
  ((((((h.far (p := ⟨k, 0, none⟩) hk a).far (p := ⟨k, 1, none⟩) hk b).far (p := ⟨k, 2, none⟩) hk c).far (p := ⟨k, 3, none⟩) hk d).far (p := ⟨k, 4, none⟩) hk e).far (p := ⟨k, 5, none⟩) hk f).far (p := ⟨k, 6, none⟩) hk i
theorem heap7 {w : World} {g k : Nat} (hk : g ≠ k) (a b c d e f i : Value) :
    (((((((w.setCell ⟨k, 0, none⟩ a).setCell ⟨k, 1, none⟩ b).setCell ⟨k, 2, none⟩ c).setCell ⟨k, 3, none⟩ d).setCell ⟨k, 4, none⟩ e).setCell ⟨k, 5, none⟩ f).setCell ⟨k, 6, none⟩ i).heap[g]? = w.heap[g]? := by
  rw [Below.heap_setCell _ _ _ _ hk, Below.heap_setCell _ _ _ _ hk, Below.heap_setCell _ _ _ _ hk, Below.heap_setCell _ _ _ _ hk, Below.heap_setCell _ _ _ _ hk, Below.heap_setCell _ _ _ _ hk, Below.heap_setCell _ _ _ _ hk]
theorem lo7 {w w' : World} {k : Nat} (h : Below w.heap.size w w') (hk : w.heap.size ≤ k) (a b c d e f i : Value) :
    Below w.heap.size w (((((((w'.setCell ⟨k, 0, none⟩ a).setCell ⟨k, 1, none⟩ b).setCell ⟨k, 2, none⟩ c).setCell ⟨k, 3, none⟩ d).setCell ⟨k, 4, none⟩ e).setCell ⟨k, 5, none⟩ f).setCell ⟨k, 6, none⟩ i) :=
  lo_set (lo_set (lo_set (lo_set (lo_set (lo_set (lo_set h hk a) hk b) hk c) hk d) hk e) hk f) hk i
set_option maxRecDepth 100000 in
set_option maxHeartbeats 3200000 in
/-- One round: the state is taken over, a change is counted. -/
theorem run_round (F : Fence) (m : Nat) (fn : FuncId) (hfn : F.fn fn) (s0 : St) (sl : Value) (b2 b4 bn bs bl D l : Nat) (w0 : World) (hw : w0.heap.size ≤ b2) (h1 : b2 < b4) (h2 : b4 < bn) (h3 : bn < bs) (h4 : bs < bl) (h5 : bl < D) (h6 : D < l)
    (s2 s x : St) (ch : Bool) (c : Int) (hc0 : 0 ≤ c) (hc1 : c ≤ 1000000) (W : World) (h : Mid fn (runTmps s0 sl b2 b4 bn bs bl) b2 b4 bn bs bl D l sl w0 s2 s c W) :
    RoundIn F m Try.prog l fn (((runTmps s0 sl b2 b4 bn bs bl).setIfInBounds 12 (.agg #[.int .i64 x.limit, .int .i64 x.least, .int .i64 x.most, .int .i64 x.low, .int .i64 x.high, .int .i64 x.quiet, .int .i64 x.calm])).setIfInBounds 13 (.bool ch)) runParts.1 runParts.2 W
      fun e W' => e = .returned (.bool true) ∧ Mid fn (runTmps s0 sl b2 b4 bn bs bl) b2 b4 bn bs bl D l sl w0 x s (if ch then c + 1 else c) W' := by
  refine roundIn_of_wpIn hfn ?_
  have hl : l < W.heap.size := (Array.getElem?_eq_some_iff.1 h.L).1
  have hA2 := h.st.alloc (.cells #[.int .i64 x.limit, .int .i64 x.least, .int .i64 x.most, .int .i64 x.low, .int .i64 x.high, .int .i64 x.quiet, .int .i64 x.calm] 24)
  have hA4 := h.out.alloc (.cells #[.int .i64 x.limit, .int .i64 x.least, .int .i64 x.most, .int .i64 x.low, .int .i64 x.high, .int .i64 x.quiet, .int .i64 x.calm] 24)
  have hAn := h.cnt.alloc (.cells #[.int .i64 x.limit, .int .i64 x.least, .int .i64 x.most, .int .i64 x.low, .int .i64 x.high, .int .i64 x.quiet, .int .i64 x.calm] 24)
  have hAs := h.own.alloc (.cells #[.int .i64 x.limit, .int .i64 x.least, .int .i64 x.most, .int .i64 x.low, .int .i64 x.high, .int .i64 x.quiet, .int .i64 x.calm] 24)
  have hAl := h.row.alloc (.cells #[.int .i64 x.limit, .int .i64 x.least, .int .i64 x.most, .int .i64 x.low, .int .i64 x.high, .int .i64 x.quiet, .int .i64 x.calm] 24)
  have hA7 := Blk.new W 24 #[.int .i64 x.limit, .int .i64 x.least, .int .i64 x.most, .int .i64 x.low, .int .i64 x.high, .int .i64 x.quiet, .int .i64 x.calm]
  have hL1 : (W.alloc (.cells #[.int .i64 x.limit, .int .i64 x.least, .int .i64 x.most, .int .i64 x.low, .int .i64 x.high, .int .i64 x.quiet, .int .i64 x.calm] 24)).heap[l]? = some (.loop (runRec fn (runTmps s0 sl b2 b4 bn bs bl) D .ready none)) := (Below.heap_alloc _ _ l hl).trans h.L
  have hK1 : (W.alloc (.cells #[.int .i64 x.limit, .int .i64 x.least, .int .i64 x.most, .int .i64 x.low, .int .i64 x.high, .int .i64 x.quiet, .int .i64 x.calm] 24)).heap[D]? = some (.deferred (some [])) := (Below.heap_alloc _ _ D (by omega)).trans h.K
  have hlo := lo_alloc h.low (.cells #[.int .i64 x.limit, .int .i64 x.least, .int .i64 x.most, .int .i64 x.low, .int .i64 x.high, .int .i64 x.quiet, .int .i64 x.calm] 24)
  have h7 : l < W.heap.size := hl
  unfold runParts
  simp only [Try.f12, runTmps, List.setIfInBounds_toArray, List.set_cons_zero, List.set_cons_succ]
  have hl1 : l < (W.alloc (.cells #[.int .i64 x.limit, .int .i64 x.least, .int .i64 x.most, .int .i64 x.low, .int .i64 x.high, .int .i64 x.quiet, .int .i64 x.calm] 24)).heap.size := by rw [World.size_alloc]; omega
  have hbr := run_beginRound (P := Try.prog) hL1 rfl
  have hL2 := World.putObj_heap_same (w := W.alloc (.cells #[.int .i64 x.limit, .int .i64 x.least, .int .i64 x.most, .int .i64 x.low, .int .i64 x.high, .int .i64 x.quiet, .int .i64 x.calm] 24)) (o := .loop { runRec fn (runTmps s0 sl b2 b4 bn bs bl) D .ready none with state := .busy }) hl1
  have hK2 := (World.putObj_heap_other (w := W.alloc (.cells #[.int .i64 x.limit, .int .i64 x.least, .int .i64 x.most, .int .i64 x.low, .int .i64 x.high, .int .i64 x.quiet, .int .i64 x.calm] 24)) (o := .loop { runRec fn (runTmps s0 sl b2 b4 bn bs bl) D .ready none with state := .busy }) (show D ≠ l by omega)).trans hK1
  have hB2 := blk_put hA2 (show b2 ≠ l by omega) (.loop { runRec fn (runTmps s0 sl b2 b4 bn bs bl) D .ready none with state := .busy })
  have hB4 := blk_put hA4 (show b4 ≠ l by omega) (.loop { runRec fn (runTmps s0 sl b2 b4 bn bs bl) D .ready none with state := .busy })
  have hBn := blk_put hAn (show bn ≠ l by omega) (.loop { runRec fn (runTmps s0 sl b2 b4 bn bs bl) D .ready none with state := .busy })
  have hBs := blk_put hAs (show bs ≠ l by omega) (.loop { runRec fn (runTmps s0 sl b2 b4 bn bs bl) D .ready none with state := .busy })
  have hBl := blk_put hAl (show bl ≠ l by omega) (.loop { runRec fn (runTmps s0 sl b2 b4 bn bs bl) D .ready none with state := .busy })
  have hB7 := blk_put hA7 (show W.heap.size ≠ l by omega) (.loop { runRec fn (runTmps s0 sl b2 b4 bn bs bl) D .ready none with state := .busy })
  have hlo2 := lo_put hlo (show w0.heap.size ≤ l by omega) (.loop { runRec fn (runTmps s0 sl b2 b4 bn bs bl) D .ready none with state := .busy })
  generalize (W.alloc (.cells #[.int .i64 x.limit, .int .i64 x.least, .int .i64 x.most, .int .i64 x.low, .int .i64 x.high, .int .i64 x.quiet, .int .i64 x.calm] 24)).putObj l (.loop { runRec fn (runTmps s0 sl b2 b4 bn bs bl) D .ready none with state := .busy }) = W2 at hbr hL2 hK2 hB2 hB4 hBn hBs hBl hB7 hlo2
  have hcw : IntKind.i64.wrap (c + 1) = c + 1 := IntWalk.i64_in _ (by omega)
  clear hA2 hA4 hAn hAs hAl hA7 hL1 hK1 hlo h
  have HBR := Lib.hid hbr
  clear hbr
  cases ch
  · gi_wp2
    refine ⟨W2, HBR.out, ?_⟩
    obtain ⟨c2, f2⟩ := hB2.facts
    obtain ⟨c7, f7⟩ := hB7.facts
    have l2 := hB2.lt
    gi_wp2
    clear c2 f2 c7 f7
    have n1 : l ≠ b2 := by omega
    have hL3 := (heap7 n1 (.int .i64 x.limit) (.int .i64 x.least) (.int .i64 x.most) (.int .i64 x.low) (.int .i64 x.high) (.int .i64 x.quiet) (.int .i64 x.calm)).trans hL2
    refine ⟨_, _, run_endRound none hL3, rfl, ?_⟩
    exact ⟨blk_put (put7 hB2 (.int .i64 x.limit) (.int .i64 x.least) (.int .i64 x.most) (.int .i64 x.low) (.int .i64 x.high) (.int .i64 x.quiet) (.int .i64 x.calm)) (by omega) _, blk_put (far7 hB4 (by omega) (.int .i64 x.limit) (.int .i64 x.least) (.int .i64 x.most) (.int .i64 x.low) (.int .i64 x.high) (.int .i64 x.quiet) (.int .i64 x.calm)) (by omega) _, blk_put (far7 hBn (by omega) (.int .i64 x.limit) (.int .i64 x.least) (.int .i64 x.most) (.int .i64 x.low) (.int .i64 x.high) (.int .i64 x.quiet) (.int .i64 x.calm)) (by omega) _, blk_put (far7 hBs (by omega) (.int .i64 x.limit) (.int .i64 x.least) (.int .i64 x.most) (.int .i64 x.low) (.int .i64 x.high) (.int .i64 x.quiet) (.int .i64 x.calm)) (by omega) _, blk_put (far7 hBl (by omega) (.int .i64 x.limit) (.int .i64 x.least) (.int .i64 x.most) (.int .i64 x.low) (.int .i64 x.high) (.int .i64 x.quiet) (.int .i64 x.calm)) (by omega) _,
      World.putObj_heap_same (Array.getElem?_eq_some_iff.1 hL3).1, (World.putObj_heap_other (by omega)).trans ((heap7 (by omega) (.int .i64 x.limit) (.int .i64 x.least) (.int .i64 x.most) (.int .i64 x.low) (.int .i64 x.high) (.int .i64 x.quiet) (.int .i64 x.calm)).trans hK2), lo_put (lo7 hlo2 hw (.int .i64 x.limit) (.int .i64 x.least) (.int .i64 x.most) (.int .i64 x.low) (.int .i64 x.high) (.int .i64 x.quiet) (.int .i64 x.calm)) (by omega) _⟩
  · gi_wp2
    refine ⟨W2, HBR.out, ?_⟩
    obtain ⟨c2, f2⟩ := hB2.facts
    obtain ⟨c7, f7⟩ := hB7.facts
    obtain ⟨cn, fN⟩ := hBn.facts
    have l2 := hB2.lt
    have ln := hBn.lt
    have n2 : bn ≠ b2 := by omega
    gi_wp2
    clear c2 f2 c7 f7 cn fN
    have n1 : l ≠ b2 := by omega
    have hL3 := (Below.heap_setCell _ ⟨bn, 0, none⟩ (.int .i64 (c + 1)) l (show l ≠ bn by omega)).trans ((heap7 n1 (.int .i64 x.limit) (.int .i64 x.least) (.int .i64 x.most) (.int .i64 x.low) (.int .i64 x.high) (.int .i64 x.quiet) (.int .i64 x.calm)).trans hL2)
    refine ⟨_, _, run_endRound none hL3, rfl, ?_⟩
    exact ⟨blk_put ((put7 hB2 (.int .i64 x.limit) (.int .i64 x.least) (.int .i64 x.most) (.int .i64 x.low) (.int .i64 x.high) (.int .i64 x.quiet) (.int .i64 x.calm)).far (p := ⟨bn, 0, none⟩) (show b2 ≠ bn by omega) _) (by omega) _, blk_put ((far7 hB4 (by omega) (.int .i64 x.limit) (.int .i64 x.least) (.int .i64 x.most) (.int .i64 x.low) (.int .i64 x.high) (.int .i64 x.quiet) (.int .i64 x.calm)).far (p := ⟨bn, 0, none⟩) (show b4 ≠ bn by omega) _) (by omega) _, blk_put ((far7 hBn (by omega) (.int .i64 x.limit) (.int .i64 x.least) (.int .i64 x.most) (.int .i64 x.low) (.int .i64 x.high) (.int .i64 x.quiet) (.int .i64 x.calm)).set_ 0 (.int .i64 (c + 1))) (by omega) _, blk_put ((far7 hBs (by omega) (.int .i64 x.limit) (.int .i64 x.least) (.int .i64 x.most) (.int .i64 x.low) (.int .i64 x.high) (.int .i64 x.quiet) (.int .i64 x.calm)).far (p := ⟨bn, 0, none⟩) (show bs ≠ bn by omega) _) (by omega) _, blk_put ((far7 hBl (by omega) (.int .i64 x.limit) (.int .i64 x.least) (.int .i64 x.most) (.int .i64 x.low) (.int .i64 x.high) (.int .i64 x.quiet) (.int .i64 x.calm)).far (p := ⟨bn, 0, none⟩) (show bl ≠ bn by omega) _) (by omega) _,
      World.putObj_heap_same (Array.getElem?_eq_some_iff.1 hL3).1, (World.putObj_heap_other (by omega)).trans ((Below.heap_setCell _ ⟨bn, 0, none⟩ (.int .i64 (c + 1)) D (show D ≠ bn by omega)).trans ((heap7 (by omega) (.int .i64 x.limit) (.int .i64 x.least) (.int .i64 x.most) (.int .i64 x.low) (.int .i64 x.high) (.int .i64 x.quiet) (.int .i64 x.calm)).trans hK2)), lo_put (lo_set (lo7 hlo2 hw (.int .i64 x.limit) (.int .i64 x.least) (.int .i64 x.most) (.int .i64 x.low) (.int .i64 x.high) (.int .i64 x.quiet) (.int .i64 x.calm)) (show w0.heap.size ≤ bn by omega) _) (by omega) _⟩
section
variable {fn : FuncId} {tmps : Array Value} {b2 b4 bn bs bl D l : Nat} {sl : Value} {w0 : World} {s2 s : St} {c : Int} {W W' : World}
theorem Mid.lo (h : Mid fn tmps b2 b4 bn bs bl D l sl w0 s2 s c W) (hb : Below W.heap.size W W') : Mid fn tmps b2 b4 bn bs bl D l sl w0 s2 s c W' :=
  ⟨h.st.lo hb, h.out.lo hb, h.cnt.lo hb, h.own.lo hb, h.row.lo hb, (hb.block l (Array.getElem?_eq_some_iff.1 h.L).1).trans h.L, (hb.block D (Array.getElem?_eq_some_iff.1 h.K).1).trans h.K, lo_trans h.low hb⟩
theorem Mid.alloc (h : Mid fn tmps b2 b4 bn bs bl D l sl w0 s2 s c W) (o : Obj) : Mid fn tmps b2 b4 bn bs bl D l sl w0 s2 s c (W.alloc o) := h.lo (lo_alloc (lo_refl W) o)
theorem Mid.keep (h : Mid fn tmps b2 b4 bn bs bl D l sl w0 s2 s c W) (s' : St) (hw : w0.heap.size ≤ bs) (n1 : b2 ≠ bs) (n2 : b4 ≠ bs) (n3 : bn ≠ bs) (n4 : bl ≠ bs) (n5 : D ≠ bs) (n6 : l ≠ bs) :
    Mid fn tmps b2 b4 bn bs bl D l sl w0 s2 s' c (((((((W.setCell ⟨bs, 0, none⟩ (.int .i64 s'.limit)).setCell ⟨bs, 1, none⟩ (.int .i64 s'.least)).setCell ⟨bs, 2, none⟩ (.int .i64 s'.most)).setCell ⟨bs, 3, none⟩ (.int .i64 s'.low)).setCell ⟨bs, 4, none⟩ (.int .i64 s'.high)).setCell ⟨bs, 5, none⟩ (.int .i64 s'.quiet)).setCell ⟨bs, 6, none⟩ (.int .i64 s'.calm)) :=
  ⟨far7 h.st n1 (.int .i64 s'.limit) (.int .i64 s'.least) (.int .i64 s'.most) (.int .i64 s'.low) (.int .i64 s'.high) (.int .i64 s'.quiet) (.int .i64 s'.calm), far7 h.out n2 (.int .i64 s'.limit) (.int .i64 s'.least) (.int .i64 s'.most) (.int .i64 s'.low) (.int .i64 s'.high) (.int .i64 s'.quiet) (.int .i64 s'.calm), far7 h.cnt n3 (.int .i64 s'.limit) (.int .i64 s'.least) (.int .i64 s'.most) (.int .i64 s'.low) (.int .i64 s'.high) (.int .i64 s'.quiet) (.int .i64 s'.calm), put7 h.own (.int .i64 s'.limit) (.int .i64 s'.least) (.int .i64 s'.most) (.int .i64 s'.low) (.int .i64 s'.high) (.int .i64 s'.quiet) (.int .i64 s'.calm), far7 h.row n4 (.int .i64 s'.limit) (.int .i64 s'.least) (.int .i64 s'.most) (.int .i64 s'.low) (.int .i64 s'.high) (.int .i64 s'.quiet) (.int .i64 s'.calm), (heap7 n6 (.int .i64 s'.limit) (.int .i64 s'.least) (.int .i64 s'.most) (.int .i64 s'.low) (.int .i64 s'.high) (.int .i64 s'.quiet) (.int .i64 s'.calm)).trans h.L, (heap7 n5 (.int .i64 s'.limit) (.int .i64 s'.least) (.int .i64 s'.most) (.int .i64 s'.low) (.int .i64 s'.high) (.int .i64 s'.quiet) (.int .i64 s'.calm)).trans h.K, lo7 h.low hw (.int .i64 s'.limit) (.int .i64 s'.least) (.int .i64 s'.most) (.int .i64 s'.low) (.int .i64 s'.high) (.int .i64 s'.quiet) (.int .i64 s'.calm)⟩
end
theorem runS_cons (x : Int) (t : List Int) (s : St) (c : Int) : runS (x :: t) s c = runS t (seeS s x).1 (if (seeS s x).2 then c + 1 else c) := rfl
theorem run_drop (l : List Int) (k : Nat) (s : St) (c : Int) (h : k < l.length) : runS (l.drop k) s c = runS (l.drop (k + 1)) (seeS s l[k]).1 (if (seeS s l[k]).2 then c + 1 else c) := by
  rw [List.drop_eq_getElem_cons h]
  rfl
set_option maxRecDepth 100000 in
set_option maxHeartbeats 800000 in
/-- The iterator: a look, the state is kept, a round. -/
theorem looks_walk (fn : FuncId) (s0 : St) (A : Option Addr) (len cap : Nat) (xs : List Int) (b2 b4 bn bs bl D l : Nat) (w0 : World) (hw : w0.heap.size ≤ b2) (h1 : b2 < b4) (h2 : b4 < bn) (h3 : bn < bs) (h4 : bs < bl) (h5 : bl < D) (h6 : D < l) (hfn : Fence.wide.fn fn)
    (hrow : IntRow .i64 w0 A len cap xs) (hlen : len ≤ 1000) (n : Nat) (hn : 3 ≤ n) (W : World) (h : Mid fn (runTmps s0 (.slice A len cap) b2 b4 bn bs bl) b2 b4 bn bs bl D l (.slice A len cap) w0 s0 s0 0 W) :
    CallsIn Fence.wide n Try.prog 20 #[.func (.yield l) #[] #[], .pointer (some ⟨bl, 0, none⟩), .pointer (some ⟨bs, 0, none⟩)] W fun e W' => (∃ v, e = .returned v) ∧
      ∃ s, Mid fn (runTmps s0 (.slice A len cap) b2 b4 bn bs bl) b2 b4 bn bs bl D l (.slice A len cap) w0 (runS xs s0 0).1 s (runS xs s0 0).2 W' := by
  have hll := hrow.1
  have HR := Lib.hid hrow
  generalize hRR : runS xs s0 0 = R
  have HRR : Hid (runS (xs.drop 0) s0 0 = R) := Lib.hid hRR
  clear hRR hrow
  refine callsIn_of_wp Try.func20 rfl trivial ?_ rfl
  simp only [Try.ntmps20, List.size_toArray, List.length_cons, List.length_nil, Nat.reduceAdd, Nat.reduceSub, Array.replicate_succ, Array.replicate_zero, List.push_toArray, List.append_toArray, List.nil_append, List.cons_append]
  obtain ⟨cl, fl⟩ := h.row.facts
  gi_wp2
  clear cl fl
  gi_loopw [10] (fun y wr => ∃ (k : Nat) (s : St) (c : Int), k ≤ len ∧ y = .int .i64 k ∧ 0 ≤ c ∧ c ≤ k ∧ Hid (runS (xs.drop k) s c = R) ∧ Mid fn (runTmps s0 (.slice A len cap) b2 b4 bn bs bl) b2 b4 bn bs bl D l (.slice A len cap) w0 s s c wr)
    (fun y _ => len - (intOf y).toNat)
  case atStart => exact ⟨0, s0, 0, by omega, rfl, by omega, by omega, HRR, h⟩
  case round =>
    clear HRR h
    obtain ⟨k, s, c, hk, rfl, hc0, hc1, HRR, hM⟩ := hrel
    by_cases hkl : k < len
    · have hd := run_drop xs k s c (by omega)
      rw [HRR.out] at hd
      obtain ⟨bb, off, rfl, hlt, hcell⟩ := (int_lo HR.out hM.low).2.2.2.2.1 k xs[k] (List.getElem?_eq_getElem (by omega))
      generalize xs[k] = x at hd hcell
      have HS := Lib.hid (see_any s x)
      generalize seeS s x = r at hd HS
      obtain ⟨s', ch⟩ := r
      have HD := Lib.hid hd
      have hkl' : (k : Int) < (len : Int) := by omega
      clear hd
      obtain ⟨cs, fs⟩ := hM.own.facts
      gi_wp2
      refine ⟨trivial, fun _ => by omega, ?_⟩
      refine CallsIn.mono (callsIn_wide.2 (HS.out wr)) ?_
      rintro e W1 ⟨rfl, hb1⟩
      have hM1 := hM.lo hb1
      have l6 : l < W1.heap.size := (Array.getElem?_eq_some_iff.1 hM1.L).1
      have hM := hM1.alloc (.cells #[.int .i64 s'.limit, .int .i64 s'.least, .int .i64 s'.most, .int .i64 s'.low, .int .i64 s'.high, .int .i64 s'.quiet, .int .i64 s'.calm] 24)
      have h6b := Blk.new W1 24 #[.int .i64 s'.limit, .int .i64 s'.least, .int .i64 s'.most, .int .i64 s'.low, .int .i64 s'.high, .int .i64 s'.quiet, .int .i64 s'.calm]
      obtain ⟨cs1, fs1⟩ := hM.own.facts
      have ls1 := hM.own.lt
      obtain ⟨c6, f6⟩ := h6b.facts
      have hM2 := hM.keep s' (by omega) (by omega) (by omega) (by omega) (by omega) (by omega) (by omega)
      have h6c := far7 h6b (show W1.heap.size ≠ bs by omega) (.int .i64 s'.limit) (.int .i64 s'.least) (.int .i64 s'.most) (.int .i64 s'.low) (.int .i64 s'.high) (.int .i64 s'.quiet) (.int .i64 s'.calm)
      have hy := run_yield (P := Try.prog) (args := #[.agg #[.int .i64 s'.limit, .int .i64 s'.least, .int .i64 s'.most, .int .i64 s'.low, .int .i64 s'.high, .int .i64 s'.quiet, .int .i64 s'.calm], .bool ch]) hM2.L rfl
      simp only [runRec] at hy
      clear cs fs hM1
      gi_wp2
      refine ⟨fun _ => by omega, (run_round Fence.wide (n - 1) fn hfn s0 _ b2 b4 bn bs bl D l w0 hw h1 h2 h3 h4 h5 h6 s s' s' ch c hc0 (by omega) _ hM2).mono ?_⟩
      rintro e W4 ⟨rfl, hM4⟩
      clear hy hM2 hM h6c h6b c6 f6 cs1 fs1
      gi_wp2
      go_roundw
      case rel => exact ⟨k + 1, s', if ch then c + 1 else c, by omega, by go_num, by split <;> omega, by split <;> omega, Lib.hid HD.out.symm, hM4⟩
      case measure => simp [intOf]; omega
    · obtain rfl : k = len := by omega
      have hR := HRR.out
      rw [List.drop_eq_nil_of_le (by omega), runS] at hR
      subst hR
      gi_wp2
      go_end0
      exact ⟨⟨_, rfl⟩, s, hM⟩
end Go.Proofs.Ytbjfdmgfmdccgaa
