import Derived.Test.YtdonnbfojcggmaaGreatConn1
namespace Go.Proofs.YtdonnbfojcggmaaGreat
open Go.RowKit
attribute [local go_sem ↓] Go.wp_at_zero Go.wp_at_succ

set_option maxRecDepth 100000 in
set_option maxHeartbeats 1600000 in
theorem apply_nil (w : World) : Calls Tryz.prog 94 #[.agg #[.int .i64 4096, .int .i64 1, .int .i64 4294967295, .int .i64 65535, .int .i64 16384, .int .i64 4294967295], .slice none 0 0] w (ValPost w (.tuple #[.agg #[.int .i64 4096, .int .i64 1, .int .i64 4294967295, .int .i64 65535, .int .i64 16384, .int .i64 4294967295], .int .u32 0])) := by
  have H1 : Hid (∀ w0, Calls Tryz.prog 133 #[.agg #[.int .i64 4096, .int .i64 1, .int .i64 4294967295, .int .i64 65535, .int .i64 16384, .int .i64 4294967295]] w0 (IntPost w0 0)) := Lib.hid fun w0 => by
    have h := Sets.check_any ⟨4096, 1, 4294967295, 65535, 16384, 4294967295⟩ w0
    have he : Sets.Vs.err ⟨4096, 1, 4294967295, 65535, 16384, 4294967295⟩ = 0 := if_pos (by decide)
    rw [he] at h
    exact h
  have H2 : Hid (∀ g w0, Calls Tryz.prog 134 #[.pointer (some ⟨g, 0, none⟩)] w0 fun e w' => e = .returned (.agg #[.pointer (some ⟨g, 0, none⟩), .pointer (some ⟨g, 1, none⟩), .pointer (some ⟨g, 2, none⟩), .pointer (some ⟨g, 3, none⟩), .pointer (some ⟨g, 4, none⟩), .pointer (some ⟨g, 5, none⟩)]) ∧ Below w0.heap.size w0 w') := Lib.hid fun g w0 => Sets.places_any g w0
  have hA := Blk.new w 36 #[.int .i64 4096, .int .i64 1, .int .i64 4294967295, .int .i64 65535, .int .i64 16384, .int .i64 4294967295]
  have hL := lo_alloc (lo_refl w) (.cells #[.int .i64 4096, .int .i64 1, .int .i64 4294967295, .int .i64 65535, .int .i64 16384, .int .i64 4294967295] 36)
  have hR := Blk.new (w.alloc (.cells #[.int .i64 4096, .int .i64 1, .int .i64 4294967295, .int .i64 65535, .int .i64 16384, .int .i64 4294967295] 36)) 36 #[.int .i64 0, .int .i64 0, .int .i64 0, .int .i64 0, .int .i64 0, .int .i64 0]
  replace hA := hA.alloc (.cells #[.int .i64 0, .int .i64 0, .int .i64 0, .int .i64 0, .int .i64 0, .int .i64 0] 36)
  replace hL := lo_alloc hL (.cells #[.int .i64 0, .int .i64 0, .int .i64 0, .int .i64 0, .int .i64 0, .int .i64 0] 36)
  simp only [World.size_alloc] at hR
  obtain ⟨cA, fA⟩ := hA.facts
  go_enter Tryz.func94, Tryz.ntmps94
  go_wp2_with fail
  refine (H1.out _).mono ?_
  rintro e w1 ⟨rfl, hb⟩
  clear cA fA
  replace hA := hA.lo hb
  replace hR := hR.lo hb
  replace hL := lo_trans hL hb
  clear hb H1
  obtain ⟨cA, fA⟩ := hA.facts
  have hN := Blk.new w1 36 #[.int .i64 4096, .int .i64 1, .int .i64 4294967295, .int .i64 65535, .int .i64 16384, .int .i64 4294967295]
  go_upto_region 4 with fail
  clear cA fA hA
  replace hR := hR.alloc (.cells #[.int .i64 4096, .int .i64 1, .int .i64 4294967295, .int .i64 65535, .int .i64 16384, .int .i64 4294967295] 36)
  replace hL := lo_alloc hL (.cells #[.int .i64 4096, .int .i64 1, .int .i64 4294967295, .int .i64 65535, .int .i64 16384, .int .i64 4294967295] 36)
  generalize w1.heap.size = gN at hN ⊢
  generalize w1.alloc (.cells #[.int .i64 4096, .int .i64 1, .int .i64 4294967295, .int .i64 65535, .int .i64 16384, .int .i64 4294967295] 36) = w2 at hN hR hL ⊢
  go_wp2_with fail
  refine (H2.out _ _).mono ?_
  rintro e w3 ⟨rfl, hb⟩
  replace hN := hN.lo hb
  replace hR := hR.lo hb
  replace hL := lo_trans hL hb
  clear hb H2
  go_upto_region 5 with fail
  replace hN := hN.alloc (.cells #[.pointer (some ⟨gN, 0, none⟩), .pointer (some ⟨gN, 1, none⟩), .pointer (some ⟨gN, 2, none⟩), .pointer (some ⟨gN, 3, none⟩), .pointer (some ⟨gN, 4, none⟩), .pointer (some ⟨gN, 5, none⟩)] 254)
  replace hR := hR.alloc (.cells #[.pointer (some ⟨gN, 0, none⟩), .pointer (some ⟨gN, 1, none⟩), .pointer (some ⟨gN, 2, none⟩), .pointer (some ⟨gN, 3, none⟩), .pointer (some ⟨gN, 4, none⟩), .pointer (some ⟨gN, 5, none⟩)] 254)
  replace hL := lo_alloc hL (.cells #[.pointer (some ⟨gN, 0, none⟩), .pointer (some ⟨gN, 1, none⟩), .pointer (some ⟨gN, 2, none⟩), .pointer (some ⟨gN, 3, none⟩), .pointer (some ⟨gN, 4, none⟩), .pointer (some ⟨gN, 5, none⟩)] 254)
  generalize w3.alloc (.cells #[.pointer (some ⟨gN, 0, none⟩), .pointer (some ⟨gN, 1, none⟩), .pointer (some ⟨gN, 2, none⟩), .pointer (some ⟨gN, 3, none⟩), .pointer (some ⟨gN, 4, none⟩), .pointer (some ⟨gN, 5, none⟩)] 254) = w4 at hN hR hL ⊢
  go_wp2_with fail
  go_loopw [19] (fun y wr => y = .int .i64 0 ∧ wr = w4) (fun _ _ => 0)
  case atStart => exact ⟨rfl, rfl⟩
  case round =>
  obtain ⟨rfl, rfl⟩ := hrel
  obtain ⟨cN, fN⟩ := hN.facts
  obtain ⟨cR, fR⟩ := hR.facts
  have lR := hR.lt
  go_wp2_with fail
  clear cN fN cR fR lR
  have hR7 := ((((((hR.set_ 0 (.int .i64 4096)).set_ 1 (.int .i64 1)).set_ 2 (.int .i64 4294967295)).set_ 3 (.int .i64 65535)).set_ 4 (.int .i64 16384)).set_ 5 (.int .i64 4294967295))
  have hL7 := (lo_set (lo_set (lo_set (lo_set (lo_set (lo_set hL (p := ⟨w.heap.size + 1, 0, none⟩) (Nat.le_succ _) (.int .i64 4096)) (p := ⟨w.heap.size + 1, 1, none⟩) (Nat.le_succ _) (.int .i64 1)) (p := ⟨w.heap.size + 1, 2, none⟩) (Nat.le_succ _) (.int .i64 4294967295)) (p := ⟨w.heap.size + 1, 3, none⟩) (Nat.le_succ _) (.int .i64 65535)) (p := ⟨w.heap.size + 1, 4, none⟩) (Nat.le_succ _) (.int .i64 16384)) (p := ⟨w.heap.size + 1, 5, none⟩) (Nat.le_succ _) (.int .i64 4294967295))
  clear hR hL hN
  generalize ((((((wr.setCell ⟨w.heap.size + 1, 0, none⟩ (.int .i64 4096)).setCell ⟨w.heap.size + 1, 1, none⟩ (.int .i64 1)).setCell ⟨w.heap.size + 1, 2, none⟩ (.int .i64 4294967295)).setCell ⟨w.heap.size + 1, 3, none⟩ (.int .i64 65535)).setCell ⟨w.heap.size + 1, 4, none⟩ (.int .i64 16384)).setCell ⟨w.heap.size + 1, 5, none⟩ (.int .i64 4294967295)) = w7 at hR7 hL7 ⊢
  simp only [List.setIfInBounds_toArray, List.set_cons_zero, List.set_cons_succ] at hR7
  obtain ⟨cR, fR⟩ := hR7.facts
  exact bodyPost_ret (v := .tuple #[.agg #[.int .i64 4096, .int .i64 1, .int .i64 4294967295, .int .i64 65535, .int .i64 16384, .int .i64 4294967295], .int .u32 0]) (by simp [results, Tryz.results94, go_sem, cR] <;> (repeat' (first | apply And.intro | (show _ = _; kernel_rfl)))) rfl ⟨rfl, hL7⟩
set_option maxRecDepth 100000 in
set_option maxHeartbeats 1600000 in
theorem acked_nil (got : Int) (sA : Option Addr) (sn sc : Nat) (held told : Int) (oA : Option Addr) (on oc : Nat) (ol : List ByteArray) (made gone : Int) (begun : Bool) (now : Int) (g : Nat) (w : World) (hs : sn = 0) (hM : Blk w g 89 #[.int .i64 got, .string ⟨#[]⟩, .bool false, .int .i64 0, .string ⟨#[]⟩, .bool false, .int .i64 4096, .slice none 0 0, .int .i64 4096, .int .i64 4096, .slice none 0 0, .int .i64 4096, .int .i64 4096, .int .i64 4096, .int .i64 1, .int .i64 4294967295, .int .i64 65535, .int .i64 16384, .int .i64 4294967295, .slice sA sn sc, .int .i64 held, .int .i64 told, .int .i64 0, .slice none 0 0, .slice none 0 0, .slice none 0 0, .int .i64 65535, .int .i64 65535, .slice oA on oc, .int .i64 made, .int .i64 gone, .bool begun, .bool false, .bool false, .int .u32 0, .int .i64 now, .int .i64 30, .slice none 0 0]) (ho : OutOk w oA on oc ol made gone) (hmm : made + 17 ≤ 60000) : Calls Tryz.prog 57 #[.pointer (some ⟨g, 0, none⟩)] w (EmitPost w g 17 (fun o md => #[.int .i64 got, .string ⟨#[]⟩, .bool false, .int .i64 0, .string ⟨#[]⟩, .bool false, .int .i64 4096, .slice none 0 0, .int .i64 4096, .int .i64 4096, .slice none 0 0, .int .i64 4096, .int .i64 4096, .int .i64 4096, .int .i64 1, .int .i64 4294967295, .int .i64 65535, .int .i64 16384, .int .i64 4294967295, .slice sA 0 sc, .int .i64 held, .int .i64 told, .int .i64 0, .slice none 0 0, .slice none 0 0, .slice none 0 0, .int .i64 65535, .int .i64 65535, o, .int .i64 md, .int .i64 gone, .bool begun, .bool false, .bool true, .int .u32 1, .int .i64 now, .int .i64 30, .slice none 0 0]) made gone) := by
  subst hs
  have H1 : Hid (Calls Tryz.prog 93 #[.slice sA 0 sc] w fun e w' => e = .returned (.tuple #[.slice none 0 0, .slice none 0 0, .bool false]) ∧ w = w') := Lib.hid (uack_nil sA sc w)
  have H2 : Hid (Calls Tryz.prog 28 #[.pointer (some ⟨g, 0, none⟩), .int .u32 1] w (EmitPost w g 17 (fun o md => #[.int .i64 got, .string ⟨#[]⟩, .bool false, .int .i64 0, .string ⟨#[]⟩, .bool false, .int .i64 4096, .slice none 0 0, .int .i64 4096, .int .i64 4096, .slice none 0 0, .int .i64 4096, .int .i64 4096, .int .i64 4096, .int .i64 1, .int .i64 4294967295, .int .i64 65535, .int .i64 16384, .int .i64 4294967295, .slice sA 0 sc, .int .i64 held, .int .i64 told, .int .i64 0, .slice none 0 0, .slice none 0 0, .slice none 0 0, .int .i64 65535, .int .i64 65535, o, .int .i64 md, .int .i64 gone, .bool begun, .bool false, .bool true, .int .u32 1, .int .i64 now, .int .i64 30, .slice none 0 0]) made gone)) := Lib.hid (fail_any got sA 0 sc held told oA on oc ol made gone begun now 1 g w hM ho hmm (.inl rfl))
  obtain ⟨cM, fM⟩ := hM.facts
  have lM := hM.lt
  clear hM ho hmm
  go_enter Tryz.func57, Tryz.ntmps57
  go_wp2_with fail
  refine H1.out.mono ?_
  rintro e w1 ⟨rfl, rfl⟩
  go_wp2_with fail
  refine H2.out.mono ?_
  rintro e w1 ⟨A2, n2, c2, l2, rfl, h⟩
  clear cM fM
  go_wp2_with fail
  exact bodyPost_ret (v := .tuple #[]) (by simp [results, Tryz.results57, go_sem]) rfl ⟨A2, n2, c2, l2, rfl, h⟩
/-- The first settings are acknowledged. -/
def AckedPost (w : World) (g : Nat) (l : List It) (C : Value → Array Value) (e : Ending) (w' : World) : Prop := ∃ A cap, e = .returned (.tuple #[]) ∧ ItsOk w' A l.length cap l ∧ Blk w' g 89 (C (.slice A l.length cap)) ∧ Kept w w' g
set_option maxRecDepth 100000 in
set_option maxHeartbeats 1600000 in
theorem acked_cons (got : Int) (sA : Option Addr) (sc : Nat) (held told : Int) (oA : Option Addr) (on oc : Nat) (ol : List ByteArray) (made gone : Int) (begun : Bool) (now : Int) (y : It) (l : List It) (g : Nat) (w : World) (hM : Blk w g 89 #[.int .i64 got, .string ⟨#[]⟩, .bool false, .int .i64 0, .string ⟨#[]⟩, .bool false, .int .i64 4096, .slice none 0 0, .int .i64 4096, .int .i64 4096, .slice none 0 0, .int .i64 4096, .int .i64 4096, .int .i64 4096, .int .i64 1, .int .i64 4294967295, .int .i64 65535, .int .i64 16384, .int .i64 4294967295, .slice sA (l.length + 1) sc, .int .i64 held, .int .i64 told, .int .i64 0, .slice none 0 0, .slice none 0 0, .slice none 0 0, .int .i64 65535, .int .i64 65535, .slice oA on oc, .int .i64 made, .int .i64 gone, .bool begun, .bool false, .bool false, .int .u32 0, .int .i64 now, .int .i64 30, .slice none 0 0]) (hl : ItsOk w sA (l.length + 1) sc (y :: l)) : Calls Tryz.prog 57 #[.pointer (some ⟨g, 0, none⟩)] w (AckedPost w g l (fun s => #[.int .i64 got, .string ⟨#[]⟩, .bool false, .int .i64 0, .string ⟨#[]⟩, .bool false, .int .i64 4096, .slice none 0 0, .int .i64 4096, .int .i64 4096, .slice none 0 0, .int .i64 4096, .int .i64 4096, .int .i64 4096, .int .i64 1, .int .i64 4294967295, .int .i64 65535, .int .i64 16384, .int .i64 4294967295, s, .int .i64 y.v, .int .i64 told, .int .i64 0, .slice none 0 0, .slice none 0 0, .slice none 0 0, .int .i64 65535, .int .i64 65535, .slice oA on oc, .int .i64 made, .int .i64 gone, .bool begun, .bool false, .bool false, .int .u32 0, .int .i64 now, .int .i64 30, .slice none 0 0])) := by
  have H1 : Hid (Calls Tryz.prog 93 #[.slice sA (l.length + 1) sc] w (UAckPost w y l)) := Lib.hid (uack_any sA sc y l w hl)
  have hv := (hl.num y (List.mem_cons_self)).1
  obtain ⟨m, hm⟩ : ∃ m, y.n = m := ⟨_, rfl⟩
  obtain ⟨yl, hyl⟩ : ∃ yl, y.l = yl := ⟨_, rfl⟩
  obtain ⟨v, hyv⟩ : ∃ v, y.v = v := ⟨_, rfl⟩
  have hcase : (m = 1 ∧ yl = [(3, v)]) ∨ (m = 2 ∧ yl = [(3, v), (6, 1024)]) := by
    subst hm hyl hyv
    unfold It.n It.l
    cases y.two
    · exact .inl ⟨rfl, rfl⟩
    · exact .inr ⟨rfl, rfl⟩
  rw [hyv] at hv ⊢
  have hwv : IntKind.i64.wrap v = v := IntWalk.i64_in _ (by omega)
  unfold UAckPost at H1
  rw [hm, hyl] at H1
  obtain ⟨cM, fM⟩ := hM.facts
  have lM := hM.lt
  clear hl hyv hyl hm hv
  go_enter Tryz.func57, Tryz.ntmps57
  go_wp2_with fail
  refine H1.out.mono ?_
  rintro e w1 ⟨A1, cap1, B, cB, rfl, hI, hP, hb⟩
  clear cM fM lM H1
  replace hM := hM.lo hb
  have hK := Kept.of_lo g hb
  clear hb
  obtain ⟨cM, fM⟩ := hM.facts
  have lM := hM.lt
  go_upto_region 4 with fail
  clear cM fM lM
  have hI2 := hI.kept ((Kept.refl w1 g).set 19 (.slice A1 l.length cap1)) hM
  have hP2 := hP.kept ((Kept.refl w1 g).set 19 (.slice A1 l.length cap1)) hM (by decide)
  replace hK := hK.set 19 (.slice A1 l.length cap1)
  replace hM := hM.set_ 19 (.slice A1 l.length cap1)
  simp only [List.setIfInBounds_toArray, List.set_cons_zero, List.set_cons_succ] at hM
  clear hI hP
  generalize w1.setCell ⟨g, 19, none⟩ (.slice A1 l.length cap1) = w2 at hM hK hI2 hP2 ⊢
  go_wp2_with fail
  obtain ⟨hf, hhf⟩ : ∃ hf : Nat → Int, ∀ k, hf k = if k = 0 then held else v := ⟨_, fun _ => rfl⟩
  go_loopw [6, 28] (fun _ y wr => ∃ k : Nat, k ≤ m ∧ y = .int .i64 k ∧ Blk wr g 89 #[.int .i64 got, .string ⟨#[]⟩, .bool false, .int .i64 0, .string ⟨#[]⟩, .bool false, .int .i64 4096, .slice none 0 0, .int .i64 4096, .int .i64 4096, .slice none 0 0, .int .i64 4096, .int .i64 4096, .int .i64 4096, .int .i64 1, .int .i64 4294967295, .int .i64 65535, .int .i64 16384, .int .i64 4294967295, .slice A1 l.length cap1, .int .i64 (hf k), .int .i64 told, .int .i64 0, .slice none 0 0, .slice none 0 0, .slice none 0 0, .int .i64 65535, .int .i64 65535, .slice oA on oc, .int .i64 made, .int .i64 gone, .bool begun, .bool false, .bool false, .int .u32 0, .int .i64 now, .int .i64 30, .slice none 0 0] ∧ Kept w wr g ∧ ItsOk wr A1 l.length cap1 l ∧ RowP wr B m cB yl) (fun _ y _ => m - (intOf y).toNat)
  case atStart => exact ⟨0, by omega, rfl, by rw [hhf]; exact hM, hK, hI2, hP2⟩
  case round =>
  clear hM hK hI2 hP2
  obtain ⟨k, hk, rfl, hM, hK, hI, hP⟩ := hrel
  rcases hcase with ⟨rfl, rfl⟩ | ⟨rfl, rfl⟩
  · rcases (by omega : k = 0 ∨ k = 1) with rfl | rfl
    · have h0 : hf 0 = held := by rw [hhf]; rfl
      rw [h0] at hM
      obtain ⟨b, off, rfl, hlt, hc⟩ := hP.at (i := 0) (x := (3, v)) rfl
      have hc0 := hc 0 _ rfl
      have hc1 := hc 1 _ rfl
      simp only [Nat.add_zero, Nat.zero_mul, Nat.reduceMul, Nat.add_assoc, Nat.reduceAdd] at hc0 hc1
      clear hc h0
      have hX := Blk.new wr 104 #[.int .u16 3, .int .u32 v]
      go_upto_region 7 with fail
      clear hc0 hc1 hlt
      replace hM := hM.alloc (.cells #[.int .u16 3, .int .u32 v] 104)
      replace hK := hK.alloc (.cells #[.int .u16 3, .int .u32 v] 104)
      replace hI := hI.lo (lo_alloc (lo_refl wr) (.cells #[.int .u16 3, .int .u32 v] 104))
      replace hP := hP.lo (lo_alloc (lo_refl wr) (.cells #[.int .u16 3, .int .u32 v] 104))
      generalize wr.heap.size = gX at hX ⊢
      generalize wr.alloc (.cells #[.int .u16 3, .int .u32 v] 104) = w3 at hX hM hK hI hP ⊢
      obtain ⟨cX, fX⟩ := hX.facts
      obtain ⟨cM, fM⟩ := hM.facts
      have lM := hM.lt
      go_wp2_with fail
      clear cX fX cM fM lM
      go_roundw
      case rel =>
        have h1 : hf 1 = v := by rw [hhf]; rfl
        exact ⟨1, by omega, rfl, by rw [h1]; simpa using hM.set_ 20 (.int .i64 v), hK.set 20 _, hI.kept ((Kept.refl w3 g).set 20 _) hM, hP.kept ((Kept.refl w3 g).set 20 _) hM (by decide)⟩
      case measure => simp [intOf]
    · have h0 : hf 1 = v := by rw [hhf]; rfl
      rw [h0] at hM
      go_wp2_with fail
      exact bodyPost_end (results_none rfl _ _ _) rfl ⟨A1, cap1, rfl, hI, hM, hK⟩
  · rcases (by omega : k = 0 ∨ k = 1 ∨ k = 2) with rfl | rfl | rfl
    · have h0 : hf 0 = held := by rw [hhf]; rfl
      rw [h0] at hM
      obtain ⟨b, off, rfl, hlt, hc⟩ := hP.at (i := 0) (x := (3, v)) rfl
      have hc0 := hc 0 _ rfl
      have hc1 := hc 1 _ rfl
      simp only [Nat.add_zero, Nat.zero_mul, Nat.reduceMul, Nat.add_assoc, Nat.reduceAdd] at hc0 hc1
      clear hc h0
      have hX := Blk.new wr 104 #[.int .u16 3, .int .u32 v]
      go_upto_region 7 with fail
      clear hc0 hc1 hlt
      replace hM := hM.alloc (.cells #[.int .u16 3, .int .u32 v] 104)
      replace hK := hK.alloc (.cells #[.int .u16 3, .int .u32 v] 104)
      replace hI := hI.lo (lo_alloc (lo_refl wr) (.cells #[.int .u16 3, .int .u32 v] 104))
      replace hP := hP.lo (lo_alloc (lo_refl wr) (.cells #[.int .u16 3, .int .u32 v] 104))
      generalize wr.heap.size = gX at hX ⊢
      generalize wr.alloc (.cells #[.int .u16 3, .int .u32 v] 104) = w3 at hX hM hK hI hP ⊢
      obtain ⟨cX, fX⟩ := hX.facts
      obtain ⟨cM, fM⟩ := hM.facts
      have lM := hM.lt
      go_wp2_with fail
      clear cX fX cM fM lM
      go_roundw
      case rel =>
        have h1 : hf 1 = v := by rw [hhf]; rfl
        exact ⟨1, by omega, rfl, by rw [h1]; simpa using hM.set_ 20 (.int .i64 v), hK.set 20 _, hI.kept ((Kept.refl w3 g).set 20 _) hM, hP.kept ((Kept.refl w3 g).set 20 _) hM (by decide)⟩
      case measure => simp [intOf]
    · have h0 : hf 1 = v := by rw [hhf]; rfl
      rw [h0] at hM
      obtain ⟨b, off, rfl, hlt, hc⟩ := hP.at (i := 1) (x := (6, 1024)) rfl
      have hc0 := hc 0 _ rfl
      have hc1 := hc 1 _ rfl
      simp only [Nat.add_zero, Nat.zero_mul, Nat.reduceMul, Nat.add_assoc, Nat.reduceAdd] at hc0 hc1
      clear hc h0
      have hX := Blk.new wr 104 #[.int .u16 6, .int .u32 1024]
      go_upto_region 7 with fail
      clear hc0 hc1 hlt
      replace hM := hM.alloc (.cells #[.int .u16 6, .int .u32 1024] 104)
      replace hK := hK.alloc (.cells #[.int .u16 6, .int .u32 1024] 104)
      replace hI := hI.lo (lo_alloc (lo_refl wr) (.cells #[.int .u16 6, .int .u32 1024] 104))
      replace hP := hP.lo (lo_alloc (lo_refl wr) (.cells #[.int .u16 6, .int .u32 1024] 104))
      generalize wr.heap.size = gX at hX ⊢
      generalize wr.alloc (.cells #[.int .u16 6, .int .u32 1024] 104) = w3 at hX hM hK hI hP ⊢
      obtain ⟨cX, fX⟩ := hX.facts
      obtain ⟨cM, fM⟩ := hM.facts
      have lM := hM.lt
      go_wp2_with fail
      clear cX fX cM fM lM
      go_roundw
      case rel =>
        have h1 : hf 2 = v := by rw [hhf]; rfl
        exact ⟨2, by omega, rfl, by rw [h1]; exact hM, hK, hI, hP⟩
      case measure => simp [intOf]
    · have h0 : hf 2 = v := by rw [hhf]; rfl
      rw [h0] at hM
      go_wp2_with fail
      exact bodyPost_end (results_none rfl _ _ _) rfl ⟨A1, cap1, rfl, hI, hM, hK⟩
end Go.Proofs.YtdonnbfojcggmaaGreat
