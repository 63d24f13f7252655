import Derived.Test.YtdonnbfojcggmaaGreatConn3
namespace Go.Proofs.YtdonnbfojcggmaaGreat
open Go.RowKit
attribute [local go_sem ↓] Go.wp_at_zero Go.wp_at_succ

set_option maxRecDepth 100000 in
set_option maxHeartbeats 1600000 in
theorem take_0 (got : Int) (sA : Option Addr) (sn sc : Nat) (held told : Int) (oA : Option Addr) (on oc : Nat) (ol : List ByteArray) (made gone : Int) (now : Int) (g : Nat) (w : World) (hM : Blk w g 89 #[.int .i64 got, .string ⟨#[]⟩, .bool false, .int .i64 0, .string ⟨#[]⟩, .bool false, .int .i64 4096, .slice none 0 0, .int .i64 4096, .int .i64 4096, .slice none 0 0, .int .i64 4096, .int .i64 4096, .int .i64 4096, .int .i64 1, .int .i64 4294967295, .int .i64 65535, .int .i64 16384, .int .i64 4294967295, .slice sA sn sc, .int .i64 held, .int .i64 told, .int .i64 0, .slice none 0 0, .slice none 0 0, .slice none 0 0, .int .i64 65535, .int .i64 65535, .slice oA on oc, .int .i64 made, .int .i64 gone, .bool false, .bool false, .bool false, .int .u32 0, .int .i64 now, .int .i64 30, .slice none 0 0]) (ho : OutOk w oA on oc ol made gone) (hmm : made + 9 ≤ 60000) : Calls Tryz.prog 26 #[.pointer (some ⟨g, 0, none⟩), .agg #[.int .i64 0, .int .u8 4, .int .u8 0, .int .i64 0, .string ⟨#[]⟩]] w (EmitPost w g 9 (fun o md => #[.int .i64 got, .string ⟨#[]⟩, .bool false, .int .i64 0, .string ⟨#[]⟩, .bool false, .int .i64 4096, .slice none 0 0, .int .i64 4096, .int .i64 4096, .slice none 0 0, .int .i64 4096, .int .i64 4096, .int .i64 4096, .int .i64 1, .int .i64 4294967295, .int .i64 65535, .int .i64 16384, .int .i64 4294967295, .slice sA sn sc, .int .i64 held, .int .i64 told, .int .i64 0, .slice none 0 0, .slice none 0 0, .slice none 0 0, .int .i64 65535, .int .i64 65535, o, .int .i64 md, .int .i64 gone, .bool true, .bool false, .bool false, .int .u32 0, .int .i64 now, .int .i64 30, .slice none 0 0]) made gone) := by
  have H3 : Hid (∀ W, Blk W g 89 #[.int .i64 got, .string ⟨#[]⟩, .bool false, .int .i64 0, .string ⟨#[]⟩, .bool false, .int .i64 4096, .slice none 0 0, .int .i64 4096, .int .i64 4096, .slice none 0 0, .int .i64 4096, .int .i64 4096, .int .i64 4096, .int .i64 1, .int .i64 4294967295, .int .i64 65535, .int .i64 16384, .int .i64 4294967295, .slice sA sn sc, .int .i64 held, .int .i64 told, .int .i64 0, .slice none 0 0, .slice none 0 0, .slice none 0 0, .int .i64 65535, .int .i64 65535, .slice oA on oc, .int .i64 made, .int .i64 gone, .bool true, .bool false, .bool false, .int .u32 0, .int .i64 now, .int .i64 30, .slice none 0 0] → OutOk W oA on oc ol made gone → Calls Tryz.prog 58 #[.pointer (some ⟨g, 0, none⟩), .slice none 0 0] W (EmitPost W g 9 (fun o md => #[.int .i64 got, .string ⟨#[]⟩, .bool false, .int .i64 0, .string ⟨#[]⟩, .bool false, .int .i64 4096, .slice none 0 0, .int .i64 4096, .int .i64 4096, .slice none 0 0, .int .i64 4096, .int .i64 4096, .int .i64 4096, .int .i64 1, .int .i64 4294967295, .int .i64 65535, .int .i64 16384, .int .i64 4294967295, .slice sA sn sc, .int .i64 held, .int .i64 told, .int .i64 0, .slice none 0 0, .slice none 0 0, .slice none 0 0, .int .i64 65535, .int .i64 65535, o, .int .i64 md, .int .i64 gone, .bool true, .bool false, .bool false, .int .u32 0, .int .i64 now, .int .i64 30, .slice none 0 0]) made gone)) := Lib.hid fun W h1 h2 => settings_any got sA sn sc held told oA on oc ol made gone true now g W h1 h2 hmm
  have H1 : Hid (∀ w0, Calls Tryz.prog 51 #[.agg #[.int .i64 0, .string ⟨#[]⟩, .bool false]] w0 (BoolPost w0 false)) := Lib.hid fun w0 => open_any 0 _ _ w0 rfl
  have H2 : Hid (∀ w0, Calls Tryz.prog 52 #[.agg #[.int .i64 0, .int .u8 4, .int .u8 0, .int .i64 0], .string ⟨#[]⟩] w0 (ReadPost w0 0)) := Lib.hid fun w0 => read_s 0 (by decide) w0
  have hba : bits BinOp.and IntKind.u8 0 1 = 0 := by decide
  have hKp := Kept.refl w g
  have hO := ho.lo (lo_alloc (lo_refl w) (.cells #[.int .i64 0, .int .u8 4, .int .u8 0, .int .i64 0, .string ⟨#[]⟩] 99))
  have hA := Blk.new w 99 #[.int .i64 0, .int .u8 4, .int .u8 0, .int .i64 0, .string ⟨#[]⟩]
  have lg := hM.lt
  replace hM := hM.alloc (.cells #[.int .i64 0, .int .u8 4, .int .u8 0, .int .i64 0, .string ⟨#[]⟩] 99)
  replace hKp := hKp.alloc (.cells #[.int .i64 0, .int .u8 4, .int .u8 0, .int .i64 0, .string ⟨#[]⟩] 99)
  generalize hgA : w.heap.size = gA at hA
  obtain ⟨cA, fA⟩ := hA.facts
  obtain ⟨cM, fM⟩ := hM.facts
  have lM := hM.lt
  go_enter Tryz.func26, Tryz.ntmps26
  go_wp2_with fail
  refine (H1.out _).mono ?_
  rintro e w1 ⟨rfl, hb⟩
  clear cA fA cM fM lM
  replace hM := hM.lo hb
  replace hA := hA.lo hb
  replace hO := hO.lo hb
  replace hKp := hKp.lo hb
  clear hb H1
  obtain ⟨cA, fA⟩ := hA.facts
  go_wp2_with fail
  refine (H2.out _).mono ?_
  rintro e w2 ⟨rfl, hb⟩
  clear cA fA hA
  replace hM := hM.lo hb
  replace hO := hO.lo hb
  replace hKp := hKp.lo hb
  clear hb H2
  have h5 := (Blk.new w2 58 #[.int .u8 4, .int .u8 0, .int .i64 0, .string ⟨#[]⟩, .int .i64 0, .int .i64 0, .bool false, .int .u8 0, .int .u32 0, .int .i64 0, .int .i64 0, .slice none 0 0]).alloc (.cells #[.int .u32 0, .int .i64 0] 134)
  have h6 := Blk.new (w2.alloc (.cells #[.int .u8 4, .int .u8 0, .int .i64 0, .string ⟨#[]⟩, .int .i64 0, .int .i64 0, .bool false, .int .u8 0, .int .u32 0, .int .i64 0, .int .i64 0, .slice none 0 0] 58)) 134 #[.int .u32 0, .int .i64 0]
  simp only [World.size_alloc] at h6
  replace hM := (hM.alloc (.cells #[.int .u8 4, .int .u8 0, .int .i64 0, .string ⟨#[]⟩, .int .i64 0, .int .i64 0, .bool false, .int .u8 0, .int .u32 0, .int .i64 0, .int .i64 0, .slice none 0 0] 58)).alloc (.cells #[.int .u32 0, .int .i64 0] 134)
  replace hO := hO.lo (lo_alloc (lo_alloc (lo_refl w2) (.cells #[.int .u8 4, .int .u8 0, .int .i64 0, .string ⟨#[]⟩, .int .i64 0, .int .i64 0, .bool false, .int .u8 0, .int .u32 0, .int .i64 0, .int .i64 0, .slice none 0 0] 58)) (.cells #[.int .u32 0, .int .i64 0] 134))
  replace hKp := (hKp.alloc (.cells #[.int .u8 4, .int .u8 0, .int .i64 0, .string ⟨#[]⟩, .int .i64 0, .int .i64 0, .bool false, .int .u8 0, .int .u32 0, .int .i64 0, .int .i64 0, .slice none 0 0] 58)).alloc (.cells #[.int .u32 0, .int .i64 0] 134)
  have hz5 := (Blk.new w2 58 #[.int .u8 0, .int .u8 0, .int .i64 0, .string ⟨#[]⟩, .int .i64 0, .int .i64 0, .bool false, .int .u8 0, .int .u32 0, .int .i64 0, .int .i64 0, .slice none 0 0]).alloc (.cells #[.int .u32 0, .int .i64 0] 134)
  have hz6 := Blk.new (w2.alloc (.cells #[.int .u8 0, .int .u8 0, .int .i64 0, .string ⟨#[]⟩, .int .i64 0, .int .i64 0, .bool false, .int .u8 0, .int .u32 0, .int .i64 0, .int .i64 0, .slice none 0 0] 58)) 134 #[.int .u32 0, .int .i64 0]
  simp only [World.size_alloc] at hz6
  obtain ⟨c5, f5⟩ := hz5.facts
  obtain ⟨c6, f6⟩ := hz6.facts
  have l5 := hz5.lt
  have l6 := hz6.lt
  go_upto_region 5 with fail
  clear c5 f5 c6 f6 l5 l6 hz5 hz6
  generalize w2.heap.size = g5 at h5 h6 ⊢
  generalize (w2.alloc (.cells #[.int .u8 4, .int .u8 0, .int .i64 0, .string ⟨#[]⟩, .int .i64 0, .int .i64 0, .bool false, .int .u8 0, .int .u32 0, .int .i64 0, .int .i64 0, .slice none 0 0] 58)).alloc (.cells #[.int .u32 0, .int .i64 0] 134) = w4 at h5 h6 hM hO hKp ⊢
  obtain ⟨c5, f5⟩ := h5.facts
  obtain ⟨c6, f6⟩ := h6.facts
  obtain ⟨cM, fM⟩ := hM.facts
  have lM := hM.lt
  go_upto_region 8 with fail
  clear c5 f5 c6 f6 cM fM lM h6
  replace h5 := h5.far (p := ⟨g, 31, none⟩) (blk_ne h5 hM (by decide)) (.bool true)
  replace hO := hO.kept ((Kept.refl w4 g).set 31 (.bool true)) hM
  replace hKp := hKp.set 31 (.bool true)
  replace hM := hM.set_ 31 (.bool true)
  simp only [List.setIfInBounds_toArray, List.set_cons_zero, List.set_cons_succ] at hM
  generalize w4.setCell ⟨g, 31, none⟩ (.bool true) = w5 at h5 hM hO hKp ⊢
  obtain ⟨c5, f5⟩ := h5.facts
  go_wp2_with fail
  refine (H3.out _ hM hO).mono ?_
  rintro e w9 ⟨A2, n2, c2, l2, rfl, ho2, hM2, hK2⟩
  go_wp2_with fail
  exact bodyPost_end (results_none rfl _ _ _) rfl ⟨A2, n2, c2, l2, rfl, ho2, hM2, hKp.trans hK2⟩
set_option maxRecDepth 100000 in
set_option maxHeartbeats 1600000 in
theorem take_1n (got : Int) (sA : Option Addr) (sn sc : Nat) (held told : Int) (oA : Option Addr) (on oc : Nat) (ol : List ByteArray) (made gone : Int) (now : Int) (g : Nat) (w : World) (hs : sn = 0) (hM : Blk w g 89 #[.int .i64 got, .string ⟨#[]⟩, .bool false, .int .i64 0, .string ⟨#[]⟩, .bool false, .int .i64 4096, .slice none 0 0, .int .i64 4096, .int .i64 4096, .slice none 0 0, .int .i64 4096, .int .i64 4096, .int .i64 4096, .int .i64 1, .int .i64 4294967295, .int .i64 65535, .int .i64 16384, .int .i64 4294967295, .slice sA sn sc, .int .i64 held, .int .i64 told, .int .i64 0, .slice none 0 0, .slice none 0 0, .slice none 0 0, .int .i64 65535, .int .i64 65535, .slice oA on oc, .int .i64 made, .int .i64 gone, .bool true, .bool false, .bool false, .int .u32 0, .int .i64 now, .int .i64 30, .slice none 0 0]) (ho : OutOk w oA on oc ol made gone) (hmm : made + 17 ≤ 60000) : Calls Tryz.prog 26 #[.pointer (some ⟨g, 0, none⟩), .agg #[.int .i64 0, .int .u8 4, .int .u8 1, .int .i64 0, .string ⟨#[]⟩]] w (EmitPost w g 17 (fun o md => #[.int .i64 got, .string ⟨#[]⟩, .bool false, .int .i64 0, .string ⟨#[]⟩, .bool false, .int .i64 4096, .slice none 0 0, .int .i64 4096, .int .i64 4096, .slice none 0 0, .int .i64 4096, .int .i64 4096, .int .i64 4096, .int .i64 1, .int .i64 4294967295, .int .i64 65535, .int .i64 16384, .int .i64 4294967295, .slice sA 0 sc, .int .i64 held, .int .i64 told, .int .i64 0, .slice none 0 0, .slice none 0 0, .slice none 0 0, .int .i64 65535, .int .i64 65535, o, .int .i64 md, .int .i64 gone, .bool true, .bool false, .bool true, .int .u32 1, .int .i64 now, .int .i64 30, .slice none 0 0]) made gone) := by
  subst hs
  have H3 : Hid (∀ W, Blk W g 89 #[.int .i64 got, .string ⟨#[]⟩, .bool false, .int .i64 0, .string ⟨#[]⟩, .bool false, .int .i64 4096, .slice none 0 0, .int .i64 4096, .int .i64 4096, .slice none 0 0, .int .i64 4096, .int .i64 4096, .int .i64 4096, .int .i64 1, .int .i64 4294967295, .int .i64 65535, .int .i64 16384, .int .i64 4294967295, .slice sA 0 sc, .int .i64 held, .int .i64 told, .int .i64 0, .slice none 0 0, .slice none 0 0, .slice none 0 0, .int .i64 65535, .int .i64 65535, .slice oA on oc, .int .i64 made, .int .i64 gone, .bool true, .bool false, .bool false, .int .u32 0, .int .i64 now, .int .i64 30, .slice none 0 0] → OutOk W oA on oc ol made gone → Calls Tryz.prog 57 #[.pointer (some ⟨g, 0, none⟩)] W (EmitPost W g 17 (fun o md => #[.int .i64 got, .string ⟨#[]⟩, .bool false, .int .i64 0, .string ⟨#[]⟩, .bool false, .int .i64 4096, .slice none 0 0, .int .i64 4096, .int .i64 4096, .slice none 0 0, .int .i64 4096, .int .i64 4096, .int .i64 4096, .int .i64 1, .int .i64 4294967295, .int .i64 65535, .int .i64 16384, .int .i64 4294967295, .slice sA 0 sc, .int .i64 held, .int .i64 told, .int .i64 0, .slice none 0 0, .slice none 0 0, .slice none 0 0, .int .i64 65535, .int .i64 65535, o, .int .i64 md, .int .i64 gone, .bool true, .bool false, .bool true, .int .u32 1, .int .i64 now, .int .i64 30, .slice none 0 0]) made gone)) := Lib.hid fun W h1 h2 => acked_nil got sA 0 sc held told oA on oc ol made gone true now g W rfl h1 h2 hmm
  have H1 : Hid (∀ w0, Calls Tryz.prog 51 #[.agg #[.int .i64 0, .string ⟨#[]⟩, .bool false]] w0 (BoolPost w0 false)) := Lib.hid fun w0 => open_any 0 _ _ w0 rfl
  have H2 : Hid (∀ w0, Calls Tryz.prog 52 #[.agg #[.int .i64 0, .int .u8 4, .int .u8 1, .int .i64 0], .string ⟨#[]⟩] w0 (ReadPost w0 1)) := Lib.hid fun w0 => read_s 1 (by decide) w0
  have hba : bits BinOp.and IntKind.u8 1 1 = 1 := by decide
  have hKp := Kept.refl w g
  have hO := ho.lo (lo_alloc (lo_refl w) (.cells #[.int .i64 0, .int .u8 4, .int .u8 1, .int .i64 0, .string ⟨#[]⟩] 99))
  have hA := Blk.new w 99 #[.int .i64 0, .int .u8 4, .int .u8 1, .int .i64 0, .string ⟨#[]⟩]
  have lg := hM.lt
  replace hM := hM.alloc (.cells #[.int .i64 0, .int .u8 4, .int .u8 1, .int .i64 0, .string ⟨#[]⟩] 99)
  replace hKp := hKp.alloc (.cells #[.int .i64 0, .int .u8 4, .int .u8 1, .int .i64 0, .string ⟨#[]⟩] 99)
  generalize hgA : w.heap.size = gA at hA
  obtain ⟨cA, fA⟩ := hA.facts
  obtain ⟨cM, fM⟩ := hM.facts
  have lM := hM.lt
  go_enter Tryz.func26, Tryz.ntmps26
  go_wp2_with fail
  refine (H1.out _).mono ?_
  rintro e w1 ⟨rfl, hb⟩
  clear cA fA cM fM lM
  replace hM := hM.lo hb
  replace hA := hA.lo hb
  replace hO := hO.lo hb
  replace hKp := hKp.lo hb
  clear hb H1
  obtain ⟨cA, fA⟩ := hA.facts
  go_wp2_with fail
  refine (H2.out _).mono ?_
  rintro e w2 ⟨rfl, hb⟩
  clear cA fA hA
  replace hM := hM.lo hb
  replace hO := hO.lo hb
  replace hKp := hKp.lo hb
  clear hb H2
  have h5 := (Blk.new w2 58 #[.int .u8 4, .int .u8 1, .int .i64 0, .string ⟨#[]⟩, .int .i64 0, .int .i64 0, .bool false, .int .u8 0, .int .u32 0, .int .i64 0, .int .i64 0, .slice none 0 0]).alloc (.cells #[.int .u32 0, .int .i64 0] 134)
  have h6 := Blk.new (w2.alloc (.cells #[.int .u8 4, .int .u8 1, .int .i64 0, .string ⟨#[]⟩, .int .i64 0, .int .i64 0, .bool false, .int .u8 0, .int .u32 0, .int .i64 0, .int .i64 0, .slice none 0 0] 58)) 134 #[.int .u32 0, .int .i64 0]
  simp only [World.size_alloc] at h6
  replace hM := (hM.alloc (.cells #[.int .u8 4, .int .u8 1, .int .i64 0, .string ⟨#[]⟩, .int .i64 0, .int .i64 0, .bool false, .int .u8 0, .int .u32 0, .int .i64 0, .int .i64 0, .slice none 0 0] 58)).alloc (.cells #[.int .u32 0, .int .i64 0] 134)
  replace hO := hO.lo (lo_alloc (lo_alloc (lo_refl w2) (.cells #[.int .u8 4, .int .u8 1, .int .i64 0, .string ⟨#[]⟩, .int .i64 0, .int .i64 0, .bool false, .int .u8 0, .int .u32 0, .int .i64 0, .int .i64 0, .slice none 0 0] 58)) (.cells #[.int .u32 0, .int .i64 0] 134))
  replace hKp := (hKp.alloc (.cells #[.int .u8 4, .int .u8 1, .int .i64 0, .string ⟨#[]⟩, .int .i64 0, .int .i64 0, .bool false, .int .u8 0, .int .u32 0, .int .i64 0, .int .i64 0, .slice none 0 0] 58)).alloc (.cells #[.int .u32 0, .int .i64 0] 134)
  have hz5 := (Blk.new w2 58 #[.int .u8 0, .int .u8 0, .int .i64 0, .string ⟨#[]⟩, .int .i64 0, .int .i64 0, .bool false, .int .u8 0, .int .u32 0, .int .i64 0, .int .i64 0, .slice none 0 0]).alloc (.cells #[.int .u32 0, .int .i64 0] 134)
  have hz6 := Blk.new (w2.alloc (.cells #[.int .u8 0, .int .u8 0, .int .i64 0, .string ⟨#[]⟩, .int .i64 0, .int .i64 0, .bool false, .int .u8 0, .int .u32 0, .int .i64 0, .int .i64 0, .slice none 0 0] 58)) 134 #[.int .u32 0, .int .i64 0]
  simp only [World.size_alloc] at hz6
  obtain ⟨c5, f5⟩ := hz5.facts
  obtain ⟨c6, f6⟩ := hz6.facts
  have l5 := hz5.lt
  have l6 := hz6.lt
  go_upto_region 5 with fail
  clear c5 f5 c6 f6 l5 l6 hz5 hz6
  generalize w2.heap.size = g5 at h5 h6 ⊢
  generalize (w2.alloc (.cells #[.int .u8 4, .int .u8 1, .int .i64 0, .string ⟨#[]⟩, .int .i64 0, .int .i64 0, .bool false, .int .u8 0, .int .u32 0, .int .i64 0, .int .i64 0, .slice none 0 0] 58)).alloc (.cells #[.int .u32 0, .int .i64 0] 134) = w4 at h5 h6 hM hO hKp ⊢
  obtain ⟨c5, f5⟩ := h5.facts
  obtain ⟨c6, f6⟩ := h6.facts
  obtain ⟨cM, fM⟩ := hM.facts
  have lM := hM.lt
  go_upto_region 8 with fail
  clear c5 f5 c6 f6 cM fM lM h6
  replace h5 := h5.far (p := ⟨g, 31, none⟩) (blk_ne h5 hM (by decide)) (.bool true)
  replace hO := hO.kept ((Kept.refl w4 g).set 31 (.bool true)) hM
  replace hKp := hKp.set 31 (.bool true)
  replace hM := hM.set_ 31 (.bool true)
  simp only [List.setIfInBounds_toArray, List.set_cons_zero, List.set_cons_succ] at hM
  generalize w4.setCell ⟨g, 31, none⟩ (.bool true) = w5 at h5 hM hO hKp ⊢
  obtain ⟨c5, f5⟩ := h5.facts
  go_wp2_with fail
  refine (H3.out _ hM hO).mono ?_
  rintro e w9 ⟨A2, n2, c2, l2, rfl, ho2, hM2, hK2⟩
  go_wp2_with fail
  exact bodyPost_end (results_none rfl _ _ _) rfl ⟨A2, n2, c2, l2, rfl, ho2, hM2, hKp.trans hK2⟩
set_option maxRecDepth 100000 in
set_option maxHeartbeats 1600000 in
theorem take_1c (got : Int) (sA : Option Addr) (sc : Nat) (held told : Int) (oA : Option Addr) (on oc : Nat) (ol : List ByteArray) (made gone : Int) (now : Int) (y : It) (l : List It) (g : Nat) (w : World) (hM : Blk w g 89 #[.int .i64 got, .string ⟨#[]⟩, .bool false, .int .i64 0, .string ⟨#[]⟩, .bool false, .int .i64 4096, .slice none 0 0, .int .i64 4096, .int .i64 4096, .slice none 0 0, .int .i64 4096, .int .i64 4096, .int .i64 4096, .int .i64 1, .int .i64 4294967295, .int .i64 65535, .int .i64 16384, .int .i64 4294967295, .slice sA (l.length + 1) sc, .int .i64 held, .int .i64 told, .int .i64 0, .slice none 0 0, .slice none 0 0, .slice none 0 0, .int .i64 65535, .int .i64 65535, .slice oA on oc, .int .i64 made, .int .i64 gone, .bool true, .bool false, .bool false, .int .u32 0, .int .i64 now, .int .i64 30, .slice none 0 0]) (ho : OutOk w oA on oc ol made gone) (hl : ItsOk w sA (l.length + 1) sc (y :: l)) : Calls Tryz.prog 26 #[.pointer (some ⟨g, 0, none⟩), .agg #[.int .i64 0, .int .u8 4, .int .u8 1, .int .i64 0, .string ⟨#[]⟩]] w (AckedPost w g l (fun s => #[.int .i64 got, .string ⟨#[]⟩, .bool false, .int .i64 0, .string ⟨#[]⟩, .bool false, .int .i64 4096, .slice none 0 0, .int .i64 4096, .int .i64 4096, .slice none 0 0, .int .i64 4096, .int .i64 4096, .int .i64 4096, .int .i64 1, .int .i64 4294967295, .int .i64 65535, .int .i64 16384, .int .i64 4294967295, s, .int .i64 y.v, .int .i64 told, .int .i64 0, .slice none 0 0, .slice none 0 0, .slice none 0 0, .int .i64 65535, .int .i64 65535, .slice oA on oc, .int .i64 made, .int .i64 gone, .bool true, .bool false, .bool false, .int .u32 0, .int .i64 now, .int .i64 30, .slice none 0 0])) := by
  have hM0 := hM
  have H3 : Hid (∀ W, Blk W g 89 #[.int .i64 got, .string ⟨#[]⟩, .bool false, .int .i64 0, .string ⟨#[]⟩, .bool false, .int .i64 4096, .slice none 0 0, .int .i64 4096, .int .i64 4096, .slice none 0 0, .int .i64 4096, .int .i64 4096, .int .i64 4096, .int .i64 1, .int .i64 4294967295, .int .i64 65535, .int .i64 16384, .int .i64 4294967295, .slice sA (l.length + 1) sc, .int .i64 held, .int .i64 told, .int .i64 0, .slice none 0 0, .slice none 0 0, .slice none 0 0, .int .i64 65535, .int .i64 65535, .slice oA on oc, .int .i64 made, .int .i64 gone, .bool true, .bool false, .bool false, .int .u32 0, .int .i64 now, .int .i64 30, .slice none 0 0] → ItsOk W sA (l.length + 1) sc (y :: l) → Calls Tryz.prog 57 #[.pointer (some ⟨g, 0, none⟩)] W (AckedPost W g l (fun s => #[.int .i64 got, .string ⟨#[]⟩, .bool false, .int .i64 0, .string ⟨#[]⟩, .bool false, .int .i64 4096, .slice none 0 0, .int .i64 4096, .int .i64 4096, .slice none 0 0, .int .i64 4096, .int .i64 4096, .int .i64 4096, .int .i64 1, .int .i64 4294967295, .int .i64 65535, .int .i64 16384, .int .i64 4294967295, s, .int .i64 y.v, .int .i64 told, .int .i64 0, .slice none 0 0, .slice none 0 0, .slice none 0 0, .int .i64 65535, .int .i64 65535, .slice oA on oc, .int .i64 made, .int .i64 gone, .bool true, .bool false, .bool false, .int .u32 0, .int .i64 now, .int .i64 30, .slice none 0 0]))) := Lib.hid fun W h1 h2 => acked_cons got sA sc held told oA on oc ol made gone true now y l g W h1 h2
  have H1 : Hid (∀ w0, Calls Tryz.prog 51 #[.agg #[.int .i64 0, .string ⟨#[]⟩, .bool false]] w0 (BoolPost w0 false)) := Lib.hid fun w0 => open_any 0 _ _ w0 rfl
  have H2 : Hid (∀ w0, Calls Tryz.prog 52 #[.agg #[.int .i64 0, .int .u8 4, .int .u8 1, .int .i64 0], .string ⟨#[]⟩] w0 (ReadPost w0 1)) := Lib.hid fun w0 => read_s 1 (by decide) w0
  have hba : bits BinOp.and IntKind.u8 1 1 = 1 := by decide
  have hKp := Kept.refl w g
  have hO := ho.lo (lo_alloc (lo_refl w) (.cells #[.int .i64 0, .int .u8 4, .int .u8 1, .int .i64 0, .string ⟨#[]⟩] 99))
  have hA := Blk.new w 99 #[.int .i64 0, .int .u8 4, .int .u8 1, .int .i64 0, .string ⟨#[]⟩]
  have lg := hM.lt
  replace hM := hM.alloc (.cells #[.int .i64 0, .int .u8 4, .int .u8 1, .int .i64 0, .string ⟨#[]⟩] 99)
  replace hKp := hKp.alloc (.cells #[.int .i64 0, .int .u8 4, .int .u8 1, .int .i64 0, .string ⟨#[]⟩] 99)
  generalize hgA : w.heap.size = gA at hA
  obtain ⟨cA, fA⟩ := hA.facts
  obtain ⟨cM, fM⟩ := hM.facts
  have lM := hM.lt
  go_enter Tryz.func26, Tryz.ntmps26
  go_wp2_with fail
  refine (H1.out _).mono ?_
  rintro e w1 ⟨rfl, hb⟩
  clear cA fA cM fM lM
  replace hM := hM.lo hb
  replace hA := hA.lo hb
  replace hO := hO.lo hb
  replace hKp := hKp.lo hb
  clear hb H1
  obtain ⟨cA, fA⟩ := hA.facts
  go_wp2_with fail
  refine (H2.out _).mono ?_
  rintro e w2 ⟨rfl, hb⟩
  clear cA fA hA
  replace hM := hM.lo hb
  replace hO := hO.lo hb
  replace hKp := hKp.lo hb
  clear hb H2
  have h5 := (Blk.new w2 58 #[.int .u8 4, .int .u8 1, .int .i64 0, .string ⟨#[]⟩, .int .i64 0, .int .i64 0, .bool false, .int .u8 0, .int .u32 0, .int .i64 0, .int .i64 0, .slice none 0 0]).alloc (.cells #[.int .u32 0, .int .i64 0] 134)
  have h6 := Blk.new (w2.alloc (.cells #[.int .u8 4, .int .u8 1, .int .i64 0, .string ⟨#[]⟩, .int .i64 0, .int .i64 0, .bool false, .int .u8 0, .int .u32 0, .int .i64 0, .int .i64 0, .slice none 0 0] 58)) 134 #[.int .u32 0, .int .i64 0]
  simp only [World.size_alloc] at h6
  replace hM := (hM.alloc (.cells #[.int .u8 4, .int .u8 1, .int .i64 0, .string ⟨#[]⟩, .int .i64 0, .int .i64 0, .bool false, .int .u8 0, .int .u32 0, .int .i64 0, .int .i64 0, .slice none 0 0] 58)).alloc (.cells #[.int .u32 0, .int .i64 0] 134)
  replace hO := hO.lo (lo_alloc (lo_alloc (lo_refl w2) (.cells #[.int .u8 4, .int .u8 1, .int .i64 0, .string ⟨#[]⟩, .int .i64 0, .int .i64 0, .bool false, .int .u8 0, .int .u32 0, .int .i64 0, .int .i64 0, .slice none 0 0] 58)) (.cells #[.int .u32 0, .int .i64 0] 134))
  replace hKp := (hKp.alloc (.cells #[.int .u8 4, .int .u8 1, .int .i64 0, .string ⟨#[]⟩, .int .i64 0, .int .i64 0, .bool false, .int .u8 0, .int .u32 0, .int .i64 0, .int .i64 0, .slice none 0 0] 58)).alloc (.cells #[.int .u32 0, .int .i64 0] 134)
  have hz5 := (Blk.new w2 58 #[.int .u8 0, .int .u8 0, .int .i64 0, .string ⟨#[]⟩, .int .i64 0, .int .i64 0, .bool false, .int .u8 0, .int .u32 0, .int .i64 0, .int .i64 0, .slice none 0 0]).alloc (.cells #[.int .u32 0, .int .i64 0] 134)
  have hz6 := Blk.new (w2.alloc (.cells #[.int .u8 0, .int .u8 0, .int .i64 0, .string ⟨#[]⟩, .int .i64 0, .int .i64 0, .bool false, .int .u8 0, .int .u32 0, .int .i64 0, .int .i64 0, .slice none 0 0] 58)) 134 #[.int .u32 0, .int .i64 0]
  simp only [World.size_alloc] at hz6
  obtain ⟨c5, f5⟩ := hz5.facts
  obtain ⟨c6, f6⟩ := hz6.facts
  have l5 := hz5.lt
  have l6 := hz6.lt
  go_upto_region 5 with fail
  clear c5 f5 c6 f6 l5 l6 hz5 hz6
  generalize w2.heap.size = g5 at h5 h6 ⊢
  generalize (w2.alloc (.cells #[.int .u8 4, .int .u8 1, .int .i64 0, .string ⟨#[]⟩, .int .i64 0, .int .i64 0, .bool false, .int .u8 0, .int .u32 0, .int .i64 0, .int .i64 0, .slice none 0 0] 58)).alloc (.cells #[.int .u32 0, .int .i64 0] 134) = w4 at h5 h6 hM hO hKp ⊢
  obtain ⟨c5, f5⟩ := h5.facts
  obtain ⟨c6, f6⟩ := h6.facts
  obtain ⟨cM, fM⟩ := hM.facts
  have lM := hM.lt
  go_upto_region 8 with fail
  clear c5 f5 c6 f6 cM fM lM h6
  replace h5 := h5.far (p := ⟨g, 31, none⟩) (blk_ne h5 hM (by decide)) (.bool true)
  replace hO := hO.kept ((Kept.refl w4 g).set 31 (.bool true)) hM
  replace hKp := hKp.set 31 (.bool true)
  replace hM := hM.set_ 31 (.bool true)
  simp only [List.setIfInBounds_toArray, List.set_cons_zero, List.set_cons_succ] at hM
  generalize w4.setCell ⟨g, 31, none⟩ (.bool true) = w5 at h5 hM hO hKp ⊢
  obtain ⟨c5, f5⟩ := h5.facts
  go_wp2_with fail
  refine (H3.out _ hM (hl.kept hKp hM0)).mono ?_
  rintro e w9 ⟨A2, c2, rfl, hI, hM2, hK2⟩
  go_wp2_with fail
  exact bodyPost_end (results_none rfl _ _ _) rfl ⟨A2, c2, rfl, hI, hM2, hKp.trans hK2⟩
end Go.Proofs.YtdonnbfojcggmaaGreat
