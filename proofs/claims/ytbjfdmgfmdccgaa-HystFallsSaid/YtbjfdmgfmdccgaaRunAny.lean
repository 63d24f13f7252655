import Derived.Test.YtbjfdmgfmdccgaaRun
namespace Go.Proofs.Ytbjfdmgfmdccgaa
open Go.RowKit Go.Shelf
attribute [local go_sem] Oper.semAt_some

def RunPost (w : World) (r : St × Int) (e : Ending) (w' : World) : Prop := e = .returned (.tuple #[.agg #[.int .i64 r.1.limit, .int .i64 r.1.least, .int .i64 r.1.most, .int .i64 r.1.low, .int .i64 r.1.high, .int .i64 r.1.quiet, .int .i64 r.1.calm], .int .i64 r.2]) ∧ Below w.heap.size w w'
theorem looks_any (s : St) (A : Option Addr) (len cap : Nat) (w : World) :
    CallsIn Fence.wide 4 Try.prog 16 #[.agg #[.int .i64 s.limit, .int .i64 s.least, .int .i64 s.most, .int .i64 s.low, .int .i64 s.high, .int .i64 s.quiet, .int .i64 s.calm], .slice A len cap] w fun e w' => e = .returned (.func (.func 20) #[] #[.pointer (some ⟨w.heap.size + 1, 0, none⟩), .pointer (some ⟨w.heap.size, 0, none⟩)]) ∧ w' = (w.alloc (.cells #[.int .i64 s.limit, .int .i64 s.least, .int .i64 s.most, .int .i64 s.low, .int .i64 s.high, .int .i64 s.quiet, .int .i64 s.calm] 24)).alloc (.cells #[.slice A len cap] 33) := by
  refine callsIn_of_wp Try.func16 rfl trivial ?_ rfl
  simp only [Try.ntmps16, List.size_toArray, List.length_cons, List.length_nil, Nat.reduceAdd, Nat.reduceSub, Array.replicate_succ, Array.replicate_zero, List.push_toArray, List.append_toArray, List.nil_append, List.cons_append]
  gi_wp2
  go_ret
  exact ⟨rfl, rfl⟩
set_option maxRecDepth 100000 in
set_option maxHeartbeats 1600000 in
theorem run_any (s : St) (A : Option Addr) (len cap : Nat) (xs : List Int) (w : World) (hrow : IntRow .i64 w A len cap xs) (hlen : len ≤ 1000) :
    Calls Try.prog 12 #[.agg #[.int .i64 s.limit, .int .i64 s.least, .int .i64 s.most, .int .i64 s.low, .int .i64 s.high, .int .i64 s.quiet, .int .i64 s.calm], .slice A len cap] w (RunPost w (runS xs s 0)) := by
  obtain ⟨R, hR⟩ : ∃ R, runS xs s 0 = R := ⟨_, rfl⟩
  rw [hR]
  have HRR := Lib.hid hR
  clear hR
  refine (callsIn_wide (n := 5)).1 ?_
  refine callsIn_of_wp_marks Try.func12 rfl trivial ?_ rfl
  simp only [Try.ntmps12, List.size_toArray, List.length_cons, List.length_nil, Nat.reduceAdd, Nat.reduceSub, Array.replicate_succ, Array.replicate_zero, List.push_toArray, List.append_toArray, List.nil_append, List.cons_append]
  gi_wp2
  refine ⟨trivial, ?_⟩
  refine (looks_any s A len cap _).mono ?_
  rintro e W0 ⟨rfl, rfl⟩
  gi_wp2
  refine wpIn_rangeFunc ?_
  intro fn hfn
  rw [show Fence.wide.round = none from rfl]
  obtain ⟨b2, e2⟩ : ∃ b, w.heap.size = b := ⟨_, rfl⟩
  obtain ⟨b4, e4⟩ : ∃ b, w.heap.size + 1 = b := ⟨_, rfl⟩
  obtain ⟨bn, en⟩ : ∃ b, w.heap.size + 1 + 1 = b := ⟨_, rfl⟩
  obtain ⟨bs, es⟩ : ∃ b, w.heap.size + 1 + 1 + 1 = b := ⟨_, rfl⟩
  obtain ⟨bl, el⟩ : ∃ b, w.heap.size + 1 + 1 + 1 + 1 = b := ⟨_, rfl⟩
  have hB2 : Blk (((((w.alloc (.cells #[.int .i64 s.limit, .int .i64 s.least, .int .i64 s.most, .int .i64 s.low, .int .i64 s.high, .int .i64 s.quiet, .int .i64 s.calm] 24)).alloc (.cells #[.int .i64 0, .int .i64 0, .int .i64 0, .int .i64 0, .int .i64 0, .int .i64 0, .int .i64 0] 24)).alloc (.cells #[.int .i64 0] 3)).alloc (.cells #[.int .i64 s.limit, .int .i64 s.least, .int .i64 s.most, .int .i64 s.low, .int .i64 s.high, .int .i64 s.quiet, .int .i64 s.calm] 24)).alloc (.cells #[.slice A len cap] 33)) w.heap.size 24 #[.int .i64 s.limit, .int .i64 s.least, .int .i64 s.most, .int .i64 s.low, .int .i64 s.high, .int .i64 s.quiet, .int .i64 s.calm] := ((((Blk.new w 24 #[.int .i64 s.limit, .int .i64 s.least, .int .i64 s.most, .int .i64 s.low, .int .i64 s.high, .int .i64 s.quiet, .int .i64 s.calm]).alloc _).alloc _).alloc _).alloc _
  have hB4 : Blk (((((w.alloc (.cells #[.int .i64 s.limit, .int .i64 s.least, .int .i64 s.most, .int .i64 s.low, .int .i64 s.high, .int .i64 s.quiet, .int .i64 s.calm] 24)).alloc (.cells #[.int .i64 0, .int .i64 0, .int .i64 0, .int .i64 0, .int .i64 0, .int .i64 0, .int .i64 0] 24)).alloc (.cells #[.int .i64 0] 3)).alloc (.cells #[.int .i64 s.limit, .int .i64 s.least, .int .i64 s.most, .int .i64 s.low, .int .i64 s.high, .int .i64 s.quiet, .int .i64 s.calm] 24)).alloc (.cells #[.slice A len cap] 33)) (w.heap.size + 1) 24 #[.int .i64 0, .int .i64 0, .int .i64 0, .int .i64 0, .int .i64 0, .int .i64 0, .int .i64 0] := by
    have := (((Blk.new (w.alloc (.cells #[.int .i64 s.limit, .int .i64 s.least, .int .i64 s.most, .int .i64 s.low, .int .i64 s.high, .int .i64 s.quiet, .int .i64 s.calm] 24)) 24 #[.int .i64 0, .int .i64 0, .int .i64 0, .int .i64 0, .int .i64 0, .int .i64 0, .int .i64 0]).alloc (.cells #[.int .i64 0] 3)).alloc (.cells #[.int .i64 s.limit, .int .i64 s.least, .int .i64 s.most, .int .i64 s.low, .int .i64 s.high, .int .i64 s.quiet, .int .i64 s.calm] 24)).alloc (.cells #[.slice A len cap] 33)
    simp only [World.size_alloc] at this
    exact this
  have hBn : Blk (((((w.alloc (.cells #[.int .i64 s.limit, .int .i64 s.least, .int .i64 s.most, .int .i64 s.low, .int .i64 s.high, .int .i64 s.quiet, .int .i64 s.calm] 24)).alloc (.cells #[.int .i64 0, .int .i64 0, .int .i64 0, .int .i64 0, .int .i64 0, .int .i64 0, .int .i64 0] 24)).alloc (.cells #[.int .i64 0] 3)).alloc (.cells #[.int .i64 s.limit, .int .i64 s.least, .int .i64 s.most, .int .i64 s.low, .int .i64 s.high, .int .i64 s.quiet, .int .i64 s.calm] 24)).alloc (.cells #[.slice A len cap] 33)) (w.heap.size + 1 + 1) 3 #[.int .i64 0] := by
    have := ((Blk.new ((w.alloc (.cells #[.int .i64 s.limit, .int .i64 s.least, .int .i64 s.most, .int .i64 s.low, .int .i64 s.high, .int .i64 s.quiet, .int .i64 s.calm] 24)).alloc (.cells #[.int .i64 0, .int .i64 0, .int .i64 0, .int .i64 0, .int .i64 0, .int .i64 0, .int .i64 0] 24)) 3 #[.int .i64 0]).alloc (.cells #[.int .i64 s.limit, .int .i64 s.least, .int .i64 s.most, .int .i64 s.low, .int .i64 s.high, .int .i64 s.quiet, .int .i64 s.calm] 24)).alloc (.cells #[.slice A len cap] 33)
    simp only [World.size_alloc] at this
    exact this
  have hBs : Blk (((((w.alloc (.cells #[.int .i64 s.limit, .int .i64 s.least, .int .i64 s.most, .int .i64 s.low, .int .i64 s.high, .int .i64 s.quiet, .int .i64 s.calm] 24)).alloc (.cells #[.int .i64 0, .int .i64 0, .int .i64 0, .int .i64 0, .int .i64 0, .int .i64 0, .int .i64 0] 24)).alloc (.cells #[.int .i64 0] 3)).alloc (.cells #[.int .i64 s.limit, .int .i64 s.least, .int .i64 s.most, .int .i64 s.low, .int .i64 s.high, .int .i64 s.quiet, .int .i64 s.calm] 24)).alloc (.cells #[.slice A len cap] 33)) (w.heap.size + 1 + 1 + 1) 24 #[.int .i64 s.limit, .int .i64 s.least, .int .i64 s.most, .int .i64 s.low, .int .i64 s.high, .int .i64 s.quiet, .int .i64 s.calm] := by
    have := (Blk.new (((w.alloc (.cells #[.int .i64 s.limit, .int .i64 s.least, .int .i64 s.most, .int .i64 s.low, .int .i64 s.high, .int .i64 s.quiet, .int .i64 s.calm] 24)).alloc (.cells #[.int .i64 0, .int .i64 0, .int .i64 0, .int .i64 0, .int .i64 0, .int .i64 0, .int .i64 0] 24)).alloc (.cells #[.int .i64 0] 3)) 24 #[.int .i64 s.limit, .int .i64 s.least, .int .i64 s.most, .int .i64 s.low, .int .i64 s.high, .int .i64 s.quiet, .int .i64 s.calm]).alloc (.cells #[.slice A len cap] 33)
    simp only [World.size_alloc] at this
    exact this
  have hBl : Blk (((((w.alloc (.cells #[.int .i64 s.limit, .int .i64 s.least, .int .i64 s.most, .int .i64 s.low, .int .i64 s.high, .int .i64 s.quiet, .int .i64 s.calm] 24)).alloc (.cells #[.int .i64 0, .int .i64 0, .int .i64 0, .int .i64 0, .int .i64 0, .int .i64 0, .int .i64 0] 24)).alloc (.cells #[.int .i64 0] 3)).alloc (.cells #[.int .i64 s.limit, .int .i64 s.least, .int .i64 s.most, .int .i64 s.low, .int .i64 s.high, .int .i64 s.quiet, .int .i64 s.calm] 24)).alloc (.cells #[.slice A len cap] 33)) (w.heap.size + 1 + 1 + 1 + 1) 33 #[.slice A len cap] := by
    have := Blk.new ((((w.alloc (.cells #[.int .i64 s.limit, .int .i64 s.least, .int .i64 s.most, .int .i64 s.low, .int .i64 s.high, .int .i64 s.quiet, .int .i64 s.calm] 24)).alloc (.cells #[.int .i64 0, .int .i64 0, .int .i64 0, .int .i64 0, .int .i64 0, .int .i64 0, .int .i64 0] 24)).alloc (.cells #[.int .i64 0] 3)).alloc (.cells #[.int .i64 s.limit, .int .i64 s.least, .int .i64 s.most, .int .i64 s.low, .int .i64 s.high, .int .i64 s.quiet, .int .i64 s.calm] 24)) 33 #[.slice A len cap]
    simp only [World.size_alloc] at this
    exact this
  have hlow : Below w.heap.size w (((((w.alloc (.cells #[.int .i64 s.limit, .int .i64 s.least, .int .i64 s.most, .int .i64 s.low, .int .i64 s.high, .int .i64 s.quiet, .int .i64 s.calm] 24)).alloc (.cells #[.int .i64 0, .int .i64 0, .int .i64 0, .int .i64 0, .int .i64 0, .int .i64 0, .int .i64 0] 24)).alloc (.cells #[.int .i64 0] 3)).alloc (.cells #[.int .i64 s.limit, .int .i64 s.least, .int .i64 s.most, .int .i64 s.low, .int .i64 s.high, .int .i64 s.quiet, .int .i64 s.calm] 24)).alloc (.cells #[.slice A len cap] 33)) := lo_alloc (lo_alloc (lo_alloc (lo_alloc (lo_alloc (lo_refl w) _) _) _) _) _
  have hs0 : (((((w.alloc (.cells #[.int .i64 s.limit, .int .i64 s.least, .int .i64 s.most, .int .i64 s.low, .int .i64 s.high, .int .i64 s.quiet, .int .i64 s.calm] 24)).alloc (.cells #[.int .i64 0, .int .i64 0, .int .i64 0, .int .i64 0, .int .i64 0, .int .i64 0, .int .i64 0] 24)).alloc (.cells #[.int .i64 0] 3)).alloc (.cells #[.int .i64 s.limit, .int .i64 s.least, .int .i64 s.most, .int .i64 s.low, .int .i64 s.high, .int .i64 s.quiet, .int .i64 s.calm] 24)).alloc (.cells #[.slice A len cap] 33)).heap.size = w.heap.size + 1 + 1 + 1 + 1 + 1 := by simp only [World.size_alloc]
  rw [el, es, en, e4, e2]
  rw [e2] at hB2
  rw [e4] at hB4
  rw [en] at hBn
  rw [es] at hBs
  rw [el] at hBl
  generalize ((((w.alloc (.cells #[.int .i64 s.limit, .int .i64 s.least, .int .i64 s.most, .int .i64 s.low, .int .i64 s.high, .int .i64 s.quiet, .int .i64 s.calm] 24)).alloc (.cells #[.int .i64 0, .int .i64 0, .int .i64 0, .int .i64 0, .int .i64 0, .int .i64 0, .int .i64 0] 24)).alloc (.cells #[.int .i64 0] 3)).alloc (.cells #[.int .i64 s.limit, .int .i64 s.least, .int .i64 s.most, .int .i64 s.low, .int .i64 s.high, .int .i64 s.quiet, .int .i64 s.calm] 24)).alloc (.cells #[.slice A len cap] 33) = W0 at hB2 hB4 hBn hBs hBl hlow hs0 ⊢
  obtain ⟨W1, hW1⟩ : ∃ W1, (W0.alloc (.deferred (some []))).alloc (.loop (runRec fn (runTmps s (.slice A len cap) b2 b4 bn bs bl) W0.heap.size .ready none)) = W1 := ⟨_, rfl⟩
  have hM : Mid fn (runTmps s (.slice A len cap) b2 b4 bn bs bl) b2 b4 bn bs bl W0.heap.size (W0.heap.size + 1) (.slice A len cap) w s s 0 W1 := by
    rw [← hW1]
    refine ⟨(hB2.alloc _).alloc _, (hB4.alloc _).alloc _, (hBn.alloc _).alloc _, (hBs.alloc _).alloc _, (hBl.alloc _).alloc _, ?_, ?_, lo_alloc (lo_alloc hlow _) _⟩
    · have := World.alloc_heap_new (W0.alloc (.deferred (some []))) (.loop (runRec fn (runTmps s (.slice A len cap) b2 b4 bn bs bl) W0.heap.size .ready none))
      rwa [World.size_alloc] at this
    · exact (Below.heap_alloc _ _ _ (by simp)).trans (World.alloc_heap_new W0 _)
  refine ⟨W0.heap.size + 1, [{ target := .collected W0.heap.size, args := #[] }], W1, { target := .fn (.func 20) #[.pointer (some ⟨bl, 0, none⟩), .pointer (some ⟨bs, 0, none⟩)], args := #[.func (.yield (W0.heap.size + 1)) #[] #[]] }, W1, 20,
    #[.func (.yield (W0.heap.size + 1)) #[] #[], .pointer (some ⟨bl, 0, none⟩), .pointer (some ⟨bs, 0, none⟩)], W1, ?_, ?_, ?_, ?_, fun _ => by omega, ?_⟩
  · rw [← hW1]; exact run_enterLoop_outer _ _ _ _ _
  · simp [resolve, go_sem]
  · intro f' hf'; simp [Target.leads] at hf'; subst hf'; trivial
  · simp [invoke, go_sem]
  · refine (looks_walk fn s A len cap xs b2 b4 bn bs bl W0.heap.size (W0.heap.size + 1) w (by omega) (by omega) (by omega) (by omega) (by omega) (by omega) (by omega) hfn hrow hlen 4 (by omega) W1 hM).mono ?_
    rintro e W2 ⟨⟨v, rfl⟩, s', hM2⟩
    have hend := run_endLoop (P := Try.prog) hM2.L (by simp [runRec])
    have h2 := blk_put hM2.st (show b2 ≠ W0.heap.size + 1 by omega) (.loop { runRec fn (runTmps s (.slice A len cap) b2 b4 bn bs bl) W0.heap.size .ready none with state := .exhausted })
    have h4 := blk_put hM2.out (show b4 ≠ W0.heap.size + 1 by omega) (.loop { runRec fn (runTmps s (.slice A len cap) b2 b4 bn bs bl) W0.heap.size .ready none with state := .exhausted })
    have hn := blk_put hM2.cnt (show bn ≠ W0.heap.size + 1 by omega) (.loop { runRec fn (runTmps s (.slice A len cap) b2 b4 bn bs bl) W0.heap.size .ready none with state := .exhausted })
    have hK := (World.putObj_heap_other (w := W2) (o := .loop { runRec fn (runTmps s (.slice A len cap) b2 b4 bn bs bl) W0.heap.size .ready none with state := .exhausted }) (show W0.heap.size ≠ W0.heap.size + 1 by omega)).trans hM2.K
    have hlo := lo_put hM2.low (show w.heap.size ≤ W0.heap.size + 1 by omega) (.loop { runRec fn (runTmps s (.slice A len cap) b2 b4 bn bs bl) W0.heap.size .ready none with state := .exhausted })
    generalize W2.putObj (W0.heap.size + 1) (.loop { runRec fn (runTmps s (.slice A len cap) b2 b4 bn bs bl) W0.heap.size .ready none with state := .exhausted }) = W3 at hend h2 h4 hn hK hlo
    rw [HRR.out] at h2 hn
    refine ⟨none, W3, hend, ?_⟩
    clear hend hM2 hM hW1 hB2 hB4 hBn hBs hBl hlow
    obtain ⟨c2, f2⟩ := h2.facts
    obtain ⟨c4, f4⟩ := h4.facts
    obtain ⟨cn, fn'⟩ := hn.facts
    have l4 := h4.lt
    have hmx : Try.prog.follows .mixedOrders = true := by kernel_rfl
    gi_wp2
    gi_region
    have hD : W0.heap.size = b2 + 1 + 1 + 1 + 1 + 1 := by omega
    rw [hD] at hK
    have hne : b2 + 1 + 1 + 1 + 1 + 1 ≠ b4 := by omega
    have hle : w.heap.size ≤ b4 := by omega
    have hK1 := (heap7 (w := W3) (k := b4) hne (.int .i64 R.1.limit) (.int .i64 R.1.least) (.int .i64 R.1.most) (.int .i64 R.1.low) (.int .i64 R.1.high) (.int .i64 R.1.quiet) (.int .i64 R.1.calm)).trans hK
    have hF1 := put7 h4 (.int .i64 R.1.limit) (.int .i64 R.1.least) (.int .i64 R.1.most) (.int .i64 R.1.low) (.int .i64 R.1.high) (.int .i64 R.1.quiet) (.int .i64 R.1.calm)
    have hl1 := lo7 hlo hle (.int .i64 R.1.limit) (.int .i64 R.1.least) (.int .i64 R.1.most) (.int .i64 R.1.low) (.int .i64 R.1.high) (.int .i64 R.1.quiet) (.int .i64 R.1.calm)
    generalize ((((((W3.setCell ⟨b4, 0, none⟩ (.int .i64 R.1.limit)).setCell ⟨b4, 1, none⟩ (.int .i64 R.1.least)).setCell ⟨b4, 2, none⟩ (.int .i64 R.1.most)).setCell ⟨b4, 3, none⟩ (.int .i64 R.1.low)).setCell ⟨b4, 4, none⟩ (.int .i64 R.1.high)).setCell ⟨b4, 5, none⟩ (.int .i64 R.1.quiet)).setCell ⟨b4, 6, none⟩ (.int .i64 R.1.calm) = W4 at hK1 hF1 hl1 ⊢
    have hK2 : W4.drew.heap[b2 + 1 + 1 + 1 + 1 + 1]? = some (.deferred (some [])) := hK1
    have hF0 : Blk W4.drew b4 24 #[.int .i64 R.1.limit, .int .i64 R.1.least, .int .i64 R.1.most, .int .i64 R.1.low, .int .i64 R.1.high, .int .i64 R.1.quiet, .int .i64 R.1.calm] := hF1
    have hlo0 := lo_drew hl1
    generalize W4.drew = W5 at hK2 hF0 hlo0 ⊢
    clear hK1 hF1 hl1
    have hF := blk_put hF0 (show b4 ≠ b2 + 1 + 1 + 1 + 1 + 1 by omega) (.deferred none)
    have hlo2 := lo_put hlo0 (show w.heap.size ≤ b2 + 1 + 1 + 1 + 1 + 1 by omega) (.deferred none)
    clear c2 f2 c4 f4 cn fn' l4
    gi_wp2
    refine ⟨by simp, .inl ⟨_, _, rfl, run_takeDeferred hK2, ?_⟩⟩
    obtain ⟨c5, f5⟩ := hF.facts
    refine ⟨.tuple #[.agg #[.int .i64 R.1.limit, .int .i64 R.1.least, .int .i64 R.1.most, .int .i64 R.1.low, .int .i64 R.1.high, .int .i64 R.1.quiet, .int .i64 R.1.calm], .int .i64 R.2], ?_, rfl, hlo2⟩
    simp [results, Try.f12, go_sem, c5]
end Go.Proofs.Ytbjfdmgfmdccgaa
