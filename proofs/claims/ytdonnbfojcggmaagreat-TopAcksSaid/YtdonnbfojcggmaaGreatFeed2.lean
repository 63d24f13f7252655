import Derived.Test.YtdonnbfojcggmaaGreatFeed
namespace Go.Proofs.YtdonnbfojcggmaaGreat
open Go.RowKit
attribute [local go_sem ↓] Go.wp_at_zero Go.wp_at_succ

/-- A connection that fed on bytes, its queue grown. -/
def ConnPost (w : World) (m : Nat) (C : Value → Int → Array Value) (made gone : Int) (v2 : Value) (e : Ending) (w' : World) : Prop :=
  ∃ A n cap l, e = .returned (.tuple #[.agg (C (.slice A n cap) (made + m)), v2]) ∧ OutOk w' A n cap l (made + m) gone ∧ Below w.heap.size w w'
/-- A connection whose first settings were acknowledged. -/
def AckPost (w : World) (l : List It) (C : Value → Array Value) (e : Ending) (w' : World) : Prop :=
  ∃ A cap, e = .returned (.tuple #[.agg (C (.slice A l.length cap)), .slice none 0 0]) ∧ ItsOk w' A l.length cap l ∧ Below w.heap.size w w'
set_option maxRecDepth 100000 in
set_option maxHeartbeats 12800000 in
theorem feed_hello (sA : Option Addr) (sn sc : Nat) (held told : Int) (oA : Option Addr) (on oc : Nat) (ol : List ByteArray) (made gone : Int) (now : Int)  (b off cap : Nat) (w : World) (hlt : b < w.heap.size) (hcap : 33 ≤ cap) (hc : ∀ j, j < 33 → w.cell? ⟨b, off + j, none⟩ = some (.int .u8 (([80, 82, 73, 32, 42, 32, 72, 84, 84, 80, 47, 50, 46, 48, 13, 10, 13, 10, 83, 77, 13, 10, 13, 10, 0, 0, 0, 4, 0, 0, 0, 0, 0] : List Int).getD j 0))) (ho : OutOk w oA on oc ol made gone) (hmm : made + 9 ≤ 60000) : Calls Tryz.prog 7 #[.agg #[.int .i64 0, .string ⟨#[]⟩, .bool false, .int .i64 0, .string ⟨#[]⟩, .bool false, .int .i64 4096, .slice none 0 0, .int .i64 4096, .int .i64 4096, .slice none 0 0, .int .i64 4096, .int .i64 4096, .int .i64 4096, .int .i64 1, .int .i64 4294967295, .int .i64 65535, .int .i64 16384, .int .i64 4294967295, .slice sA sn sc, .int .i64 held, .int .i64 told, .int .i64 0, .slice none 0 0, .slice none 0 0, .slice none 0 0, .int .i64 65535, .int .i64 65535, .slice oA on oc, .int .i64 made, .int .i64 gone, .bool false, .bool false, .bool false, .int .u32 0, .int .i64 now, .int .i64 30], .slice (some ⟨b, off, none⟩) 33 cap] w (ConnPost w 9 (fun o md => #[.int .i64 24, .string ⟨#[]⟩, .bool false, .int .i64 0, .string ⟨#[]⟩, .bool false, .int .i64 4096, .slice none 0 0, .int .i64 4096, .int .i64 4096, .slice none 0 0, .int .i64 4096, .int .i64 4096, .int .i64 4096, .int .i64 1, .int .i64 4294967295, .int .i64 65535, .int .i64 16384, .int .i64 4294967295, .slice sA sn sc, .int .i64 held, .int .i64 told, .int .i64 0, .slice none 0 0, .slice none 0 0, .slice none 0 0, .int .i64 65535, .int .i64 65535, o, .int .i64 md, .int .i64 gone, .bool true, .bool false, .bool false, .int .u32 0, .int .i64 now, .int .i64 30]) made gone (.slice none 0 0)) := by
  have H1 : Hid (∀ W, Calls Tryz.prog 19 #[.agg #[.int .i64 0, .string ⟨#[]⟩, .bool false, .int .i64 0, .string ⟨#[]⟩, .bool false, .int .i64 4096, .slice none 0 0, .int .i64 4096, .int .i64 4096, .slice none 0 0, .int .i64 4096, .int .i64 4096, .int .i64 4096, .int .i64 1, .int .i64 4294967295, .int .i64 65535, .int .i64 16384, .int .i64 4294967295, .slice sA sn sc, .int .i64 held, .int .i64 told, .int .i64 0, .slice none 0 0, .slice none 0 0, .slice none 0 0, .int .i64 65535, .int .i64 65535, .slice oA on oc, .int .i64 made, .int .i64 gone, .bool false, .bool false, .bool false, .int .u32 0, .int .i64 now, .int .i64 30]] W (StartPost W #[.int .i64 0, .string ⟨#[]⟩, .bool false, .int .i64 0, .string ⟨#[]⟩, .bool false, .int .i64 4096, .slice none 0 0, .int .i64 4096, .int .i64 4096, .slice none 0 0, .int .i64 4096, .int .i64 4096, .int .i64 4096, .int .i64 1, .int .i64 4294967295, .int .i64 65535, .int .i64 16384, .int .i64 4294967295, .slice sA sn sc, .int .i64 held, .int .i64 told, .int .i64 0, .slice none 0 0, .slice none 0 0, .slice none 0 0, .int .i64 65535, .int .i64 65535, .slice oA on oc, .int .i64 made, .int .i64 gone, .bool false, .bool false, .bool false, .int .u32 0, .int .i64 now, .int .i64 30, .slice none 0 0])) := Lib.hid fun W => start_any 0 sA sn sc held told oA on oc made gone false false 0 now W
  have H2 : Hid (∀ W, Below w.heap.size w W → Calls Tryz.prog 25 #[.agg #[.int .i64 0, .string ⟨#[]⟩, .bool false], .slice (some ⟨b, off, none⟩) 33 cap] W (FeedPost W 0)) := Lib.hid fun W hb => feed_0 b off cap W (Nat.lt_of_lt_of_le hlt hb.size) hcap fun j hj => by
    rw [(lo_cell hb).1 b _ hlt]
    exact hc j hj
  have H3 : Hid (∀ W g, Blk W g 89 #[.int .i64 24, .string ⟨#[]⟩, .bool false, .int .i64 0, .string ⟨#[]⟩, .bool false, .int .i64 4096, .slice none 0 0, .int .i64 4096, .int .i64 4096, .slice none 0 0, .int .i64 4096, .int .i64 4096, .int .i64 4096, .int .i64 1, .int .i64 4294967295, .int .i64 65535, .int .i64 16384, .int .i64 4294967295, .slice sA sn sc, .int .i64 held, .int .i64 told, .int .i64 0, .slice none 0 0, .slice none 0 0, .slice none 0 0, .int .i64 65535, .int .i64 65535, .slice oA on oc, .int .i64 made, .int .i64 gone, .bool false, .bool false, .bool false, .int .u32 0, .int .i64 now, .int .i64 30, .slice none 0 0] → OutOk W oA on oc ol made gone → Calls Tryz.prog 26 #[.pointer (some ⟨g, 0, none⟩), .agg #[.int .i64 0, .int .u8 4, .int .u8 0, .int .i64 0, .string ⟨#[]⟩]] W (EmitPost W g 9 (fun o md => #[.int .i64 24, .string ⟨#[]⟩, .bool false, .int .i64 0, .string ⟨#[]⟩, .bool false, .int .i64 4096, .slice none 0 0, .int .i64 4096, .int .i64 4096, .slice none 0 0, .int .i64 4096, .int .i64 4096, .int .i64 4096, .int .i64 1, .int .i64 4294967295, .int .i64 65535, .int .i64 16384, .int .i64 4294967295, .slice sA sn sc, .int .i64 held, .int .i64 told, .int .i64 0, .slice none 0 0, .slice none 0 0, .slice none 0 0, .int .i64 65535, .int .i64 65535, o, .int .i64 md, .int .i64 gone, .bool true, .bool false, .bool false, .int .u32 0, .int .i64 now, .int .i64 30, .slice none 0 0]) made gone)) := Lib.hid fun W g h1 h2 => take_0 24 sA sn sc held told oA on oc ol made gone now g W  h1 h2 hmm
  have HO := Lib.hid ho
  clear ho hmm
  clear hc
  have hB := Blk.new w 49 #[.int .i64 0, .string ⟨#[]⟩, .bool false, .int .i64 0, .string ⟨#[]⟩, .bool false, .int .i64 4096, .slice none 0 0, .int .i64 4096, .int .i64 4096, .slice none 0 0, .int .i64 4096, .int .i64 4096, .int .i64 4096, .int .i64 1, .int .i64 4294967295, .int .i64 65535, .int .i64 16384, .int .i64 4294967295, .slice sA sn sc, .int .i64 held, .int .i64 told, .int .i64 0, .slice none 0 0, .slice none 0 0, .slice none 0 0, .int .i64 65535, .int .i64 65535, .slice oA on oc, .int .i64 made, .int .i64 gone, .bool false, .bool false, .bool false, .int .u32 0, .int .i64 now, .int .i64 30]
  have hL := lo_alloc (lo_refl w) (.cells #[.int .i64 0, .string ⟨#[]⟩, .bool false, .int .i64 0, .string ⟨#[]⟩, .bool false, .int .i64 4096, .slice none 0 0, .int .i64 4096, .int .i64 4096, .slice none 0 0, .int .i64 4096, .int .i64 4096, .int .i64 4096, .int .i64 1, .int .i64 4294967295, .int .i64 65535, .int .i64 16384, .int .i64 4294967295, .slice sA sn sc, .int .i64 held, .int .i64 told, .int .i64 0, .slice none 0 0, .slice none 0 0, .slice none 0 0, .int .i64 65535, .int .i64 65535, .slice oA on oc, .int .i64 made, .int .i64 gone, .bool false, .bool false, .bool false, .int .u32 0, .int .i64 now, .int .i64 30] 49)
  have hR := Blk.new (w.alloc (.cells #[.int .i64 0, .string ⟨#[]⟩, .bool false, .int .i64 0, .string ⟨#[]⟩, .bool false, .int .i64 4096, .slice none 0 0, .int .i64 4096, .int .i64 4096, .slice none 0 0, .int .i64 4096, .int .i64 4096, .int .i64 4096, .int .i64 1, .int .i64 4294967295, .int .i64 65535, .int .i64 16384, .int .i64 4294967295, .slice sA sn sc, .int .i64 held, .int .i64 told, .int .i64 0, .slice none 0 0, .slice none 0 0, .slice none 0 0, .int .i64 65535, .int .i64 65535, .slice oA on oc, .int .i64 made, .int .i64 gone, .bool false, .bool false, .bool false, .int .u32 0, .int .i64 now, .int .i64 30] 49)) 49 #[.int .i64 0, .string ⟨#[]⟩, .bool false, .int .i64 0, .string ⟨#[]⟩, .bool false, .int .i64 0, .slice none 0 0, .int .i64 0, .int .i64 0, .slice none 0 0, .int .i64 0, .int .i64 0, .int .i64 0, .int .i64 0, .int .i64 0, .int .i64 0, .int .i64 0, .int .i64 0, .slice none 0 0, .int .i64 0, .int .i64 0, .int .i64 0, .slice none 0 0, .slice none 0 0, .slice none 0 0, .int .i64 0, .int .i64 0, .slice none 0 0, .int .i64 0, .int .i64 0, .bool false, .bool false, .bool false, .int .u32 0, .int .i64 0, .int .i64 0]
  replace hB := hB.alloc (.cells #[.int .i64 0, .string ⟨#[]⟩, .bool false, .int .i64 0, .string ⟨#[]⟩, .bool false, .int .i64 0, .slice none 0 0, .int .i64 0, .int .i64 0, .slice none 0 0, .int .i64 0, .int .i64 0, .int .i64 0, .int .i64 0, .int .i64 0, .int .i64 0, .int .i64 0, .int .i64 0, .slice none 0 0, .int .i64 0, .int .i64 0, .int .i64 0, .slice none 0 0, .slice none 0 0, .slice none 0 0, .int .i64 0, .int .i64 0, .slice none 0 0, .int .i64 0, .int .i64 0, .bool false, .bool false, .bool false, .int .u32 0, .int .i64 0, .int .i64 0] 49)
  replace hL := lo_alloc hL (.cells #[.int .i64 0, .string ⟨#[]⟩, .bool false, .int .i64 0, .string ⟨#[]⟩, .bool false, .int .i64 0, .slice none 0 0, .int .i64 0, .int .i64 0, .slice none 0 0, .int .i64 0, .int .i64 0, .int .i64 0, .int .i64 0, .int .i64 0, .int .i64 0, .int .i64 0, .int .i64 0, .slice none 0 0, .int .i64 0, .int .i64 0, .int .i64 0, .slice none 0 0, .slice none 0 0, .slice none 0 0, .int .i64 0, .int .i64 0, .slice none 0 0, .int .i64 0, .int .i64 0, .bool false, .bool false, .bool false, .int .u32 0, .int .i64 0, .int .i64 0] 49)
  simp only [World.size_alloc] at hR
  obtain ⟨cB, fB⟩ := hB.facts
  have c33 : ((w.alloc (.cells #[.int .i64 0, .string ⟨#[]⟩, .bool false, .int .i64 0, .string ⟨#[]⟩, .bool false, .int .i64 4096, .slice none 0 0, .int .i64 4096, .int .i64 4096, .slice none 0 0, .int .i64 4096, .int .i64 4096, .int .i64 4096, .int .i64 1, .int .i64 4294967295, .int .i64 65535, .int .i64 16384, .int .i64 4294967295, .slice sA sn sc, .int .i64 held, .int .i64 told, .int .i64 0, .slice none 0 0, .slice none 0 0, .slice none 0 0, .int .i64 65535, .int .i64 65535, .slice oA on oc, .int .i64 made, .int .i64 gone, .bool false, .bool false, .bool false, .int .u32 0, .int .i64 now, .int .i64 30] 49)).alloc (.cells #[.int .i64 0, .string ⟨#[]⟩, .bool false, .int .i64 0, .string ⟨#[]⟩, .bool false, .int .i64 0, .slice none 0 0, .int .i64 0, .int .i64 0, .slice none 0 0, .int .i64 0, .int .i64 0, .int .i64 0, .int .i64 0, .int .i64 0, .int .i64 0, .int .i64 0, .int .i64 0, .slice none 0 0, .int .i64 0, .int .i64 0, .int .i64 0, .slice none 0 0, .slice none 0 0, .slice none 0 0, .int .i64 0, .int .i64 0, .slice none 0 0, .int .i64 0, .int .i64 0, .bool false, .bool false, .bool false, .int .u32 0, .int .i64 0, .int .i64 0] 49)).cell? ⟨w.heap.size, 33, none⟩ = some (.bool false) := by rw [cB]; rfl
  clear cB fB
  go_enter Tryz.func7, Tryz.ntmps7
  go_upto_region 3 with fail
  clear c33
  generalize (w.alloc (.cells #[.int .i64 0, .string ⟨#[]⟩, .bool false, .int .i64 0, .string ⟨#[]⟩, .bool false, .int .i64 4096, .slice none 0 0, .int .i64 4096, .int .i64 4096, .slice none 0 0, .int .i64 4096, .int .i64 4096, .int .i64 4096, .int .i64 1, .int .i64 4294967295, .int .i64 65535, .int .i64 16384, .int .i64 4294967295, .slice sA sn sc, .int .i64 held, .int .i64 told, .int .i64 0, .slice none 0 0, .slice none 0 0, .slice none 0 0, .int .i64 65535, .int .i64 65535, .slice oA on oc, .int .i64 made, .int .i64 gone, .bool false, .bool false, .bool false, .int .u32 0, .int .i64 now, .int .i64 30] 49)).alloc (.cells #[.int .i64 0, .string ⟨#[]⟩, .bool false, .int .i64 0, .string ⟨#[]⟩, .bool false, .int .i64 0, .slice none 0 0, .int .i64 0, .int .i64 0, .slice none 0 0, .int .i64 0, .int .i64 0, .int .i64 0, .int .i64 0, .int .i64 0, .int .i64 0, .int .i64 0, .int .i64 0, .slice none 0 0, .int .i64 0, .int .i64 0, .int .i64 0, .slice none 0 0, .slice none 0 0, .slice none 0 0, .int .i64 0, .int .i64 0, .slice none 0 0, .int .i64 0, .int .i64 0, .bool false, .bool false, .bool false, .int .u32 0, .int .i64 0, .int .i64 0] 49) = w2 at hB hR hL ⊢
  have hrg := blk_range hB [.int .i64 0, .string ⟨#[]⟩, .bool false, .int .i64 0, .string ⟨#[]⟩, .bool false, .int .i64 4096, .slice none 0 0, .int .i64 4096, .int .i64 4096, .slice none 0 0, .int .i64 4096, .int .i64 4096, .int .i64 4096, .int .i64 1, .int .i64 4294967295, .int .i64 65535, .int .i64 16384, .int .i64 4294967295, .slice sA sn sc, .int .i64 held, .int .i64 told, .int .i64 0, .slice none 0 0, .slice none 0 0, .slice none 0 0, .int .i64 65535, .int .i64 65535, .slice oA on oc, .int .i64 made, .int .i64 gone, .bool false, .bool false, .bool false, .int .u32 0, .int .i64 now, .int .i64 30] [] rfl
  go_wp2_with (refine wpList_load_mid rfl 49 _ rfl (w.heap.size) 0 rfl [.int .i64 0, .string ⟨#[]⟩, .bool false, .int .i64 0, .string ⟨#[]⟩, .bool false, .int .i64 4096, .slice none 0 0, .int .i64 4096, .int .i64 4096, .slice none 0 0, .int .i64 4096, .int .i64 4096, .int .i64 4096, .int .i64 1, .int .i64 4294967295, .int .i64 65535, .int .i64 16384, .int .i64 4294967295, .slice sA sn sc, .int .i64 held, .int .i64 told, .int .i64 0, .slice none 0 0, .slice none 0 0, .slice none 0 0, .int .i64 65535, .int .i64 65535, .slice oA on oc, .int .i64 made, .int .i64 gone, .bool false, .bool false, .bool false, .int .u32 0, .int .i64 now, .int .i64 30] _ hrg Tryz.underlying49 rfl size49 ?_)
  refine (H1.out _).mono ?_
  rintro e w3 ⟨g, rfl, hM, hg, hb⟩
  clear hrg hB H1
  have hgR : w.heap.size + 2 ≤ g := by have := hR.lt; omega
  replace hR := hR.lo hb
  replace hL := lo_trans hL hb
  clear hb hg
  obtain ⟨cM, fM⟩ := hM.facts
  have lM := hM.lt
  go_wp2_with fail
  refine (H2.out _ hL).mono ?_
  rintro e w4 ⟨A1, c1, rfl, hown, hb⟩
  clear cM fM lM H2
  replace hM := hM.lo hb
  replace hR := hR.lo hb
  replace hL := lo_trans hL hb
  clear hb
  have h7 := Blk.new w4 25 #[.int .i64 24, .string ⟨#[]⟩, .bool false]
  go_upto_region 5 with fail
  replace hM := hM.alloc (.cells #[.int .i64 24, .string ⟨#[]⟩, .bool false] 25)
  replace hR := hR.alloc (.cells #[.int .i64 24, .string ⟨#[]⟩, .bool false] 25)
  replace hown := hown.alloc (.cells #[.int .i64 24, .string ⟨#[]⟩, .bool false] 25)
  replace hL := lo_alloc hL (.cells #[.int .i64 24, .string ⟨#[]⟩, .bool false] 25)
  generalize w4.heap.size = g7 at h7 ⊢
  generalize w4.alloc (.cells #[.int .i64 24, .string ⟨#[]⟩, .bool false] 25) = w5 at h7 hM hR hown hL ⊢
  obtain ⟨c7, f7⟩ := h7.facts
  obtain ⟨cM, fM⟩ := hM.facts
  have lM := hM.lt
  go_upto_region 6 with fail
  clear c7 f7 cM fM lM h7
  have hK3 := (((Kept.refl w5 g).set 0 (.int .i64 24)).set 1 (.string ⟨#[]⟩)).set 2 (.bool false)
  replace hR := hR.kept hK3 (by omega)
  replace hown := own_far (own_far (own_far hown (p := ⟨g, 0, none⟩) (blk_ne_own hown hM (by decide)) (.int .i64 24)) (p := ⟨g, 1, none⟩) (blk_ne_own hown hM (by decide)) (.string ⟨#[]⟩)) (p := ⟨g, 2, none⟩) (blk_ne_own hown hM (by decide)) (.bool false)
  replace hL := (lo_set (lo_set (lo_set hL (p := ⟨g, 0, none⟩) (show w.heap.size ≤ g by omega) (.int .i64 24)) (p := ⟨g, 1, none⟩) (show w.heap.size ≤ g by omega) (.string ⟨#[]⟩)) (p := ⟨g, 2, none⟩) (show w.heap.size ≤ g by omega) (.bool false))
  replace hM := (((hM.set_ 0 (.int .i64 24)).set_ 1 (.string ⟨#[]⟩)).set_ 2 (.bool false))
  simp only [List.setIfInBounds_toArray, List.set_cons_zero, List.set_cons_succ] at hM
  clear hK3
  generalize (((w5.setCell ⟨g, 0, none⟩ (.int .i64 24)).setCell ⟨g, 1, none⟩ (.string ⟨#[]⟩)).setCell ⟨g, 2, none⟩ (.bool false)) = w6 at hM hR hown hL ⊢
  go_wp2_with fail
  go_loopw [11, 35] (fun _ y wr => (y = .int .i64 0 ∧ Blk wr g 89 #[.int .i64 24, .string ⟨#[]⟩, .bool false, .int .i64 0, .string ⟨#[]⟩, .bool false, .int .i64 4096, .slice none 0 0, .int .i64 4096, .int .i64 4096, .slice none 0 0, .int .i64 4096, .int .i64 4096, .int .i64 4096, .int .i64 1, .int .i64 4294967295, .int .i64 65535, .int .i64 16384, .int .i64 4294967295, .slice sA sn sc, .int .i64 held, .int .i64 told, .int .i64 0, .slice none 0 0, .slice none 0 0, .slice none 0 0, .int .i64 65535, .int .i64 65535, .slice oA on oc, .int .i64 made, .int .i64 gone, .bool false, .bool false, .bool false, .int .u32 0, .int .i64 now, .int .i64 30, .slice none 0 0] ∧ wr.ownsRow w3.heap.size 99 5 (.slice A1 1 c1) 1 [.int .i64 0, .int .u8 4, .int .u8 0, .int .i64 0, .string ⟨#[]⟩] ∧ Blk wr (w.heap.size + 1) 49 #[.int .i64 0, .string ⟨#[]⟩, .bool false, .int .i64 0, .string ⟨#[]⟩, .bool false, .int .i64 0, .slice none 0 0, .int .i64 0, .int .i64 0, .slice none 0 0, .int .i64 0, .int .i64 0, .int .i64 0, .int .i64 0, .int .i64 0, .int .i64 0, .int .i64 0, .int .i64 0, .slice none 0 0, .int .i64 0, .int .i64 0, .int .i64 0, .slice none 0 0, .slice none 0 0, .slice none 0 0, .int .i64 0, .int .i64 0, .slice none 0 0, .int .i64 0, .int .i64 0, .bool false, .bool false, .bool false, .int .u32 0, .int .i64 0, .int .i64 0] ∧ Below w.heap.size w wr) ∨ (y = .int .i64 1 ∧ (∃ A2 n2 c2 l2, Blk wr g 89 #[.int .i64 24, .string ⟨#[]⟩, .bool false, .int .i64 0, .string ⟨#[]⟩, .bool false, .int .i64 4096, .slice none 0 0, .int .i64 4096, .int .i64 4096, .slice none 0 0, .int .i64 4096, .int .i64 4096, .int .i64 4096, .int .i64 1, .int .i64 4294967295, .int .i64 65535, .int .i64 16384, .int .i64 4294967295, .slice sA sn sc, .int .i64 held, .int .i64 told, .int .i64 0, .slice none 0 0, .slice none 0 0, .slice none 0 0, .int .i64 65535, .int .i64 65535, .slice A2 n2 c2, .int .i64 (made + 9), .int .i64 gone, .bool true, .bool false, .bool false, .int .u32 0, .int .i64 now, .int .i64 30, .slice none 0 0] ∧ OutOk wr A2 n2 c2 l2 (made + 9) gone) ∧ Blk wr (w.heap.size + 1) 49 #[.int .i64 0, .string ⟨#[]⟩, .bool false, .int .i64 0, .string ⟨#[]⟩, .bool false, .int .i64 0, .slice none 0 0, .int .i64 0, .int .i64 0, .slice none 0 0, .int .i64 0, .int .i64 0, .int .i64 0, .int .i64 0, .int .i64 0, .int .i64 0, .int .i64 0, .int .i64 0, .slice none 0 0, .int .i64 0, .int .i64 0, .int .i64 0, .slice none 0 0, .slice none 0 0, .slice none 0 0, .int .i64 0, .int .i64 0, .slice none 0 0, .int .i64 0, .int .i64 0, .bool false, .bool false, .bool false, .int .u32 0, .int .i64 0, .int .i64 0] ∧ Below w.heap.size w wr)) (fun _ y _ => 1 - (intOf y).toNat)
  case atStart => exact .inl ⟨rfl, hM, hown, hR, hL⟩
  case round =>
  clear hM hown hR hL
  obtain ⟨rfl, hM, hown, hR, hL⟩ | ⟨rfl, ⟨A2, n2, c2, l2, hM, ho⟩, hR, hL⟩ := hrel
  · obtain ⟨a1, rfl⟩ : ∃ a, A1 = some a := by
      rcases hown.2 with ⟨he, h0⟩ | ⟨q, _, _, he, _⟩
      · cases h0
      · injection he with he
        exact ⟨_, he⟩
    obtain ⟨b1, cur, rfl, hb1, hT, hc1, _, hcs, htk⟩ := own_blk hown
    have hq : ∀ j, j < 5 → wr.cell? ⟨b1, j, none⟩ = ([.int .i64 0, .int .u8 4, .int .u8 0, .int .i64 0, .string ⟨#[]⟩] : List Value)[j]? := fun j hj => by
      rw [hT.facts.1, ← htk, List.getElem?_take, if_pos (by omega), Array.getElem?_toList]
    have q0 : wr.cell? ⟨b1, 0, none⟩ = some (.int .i64 0) := hq 0 (by decide)
    have q1 : wr.cell? ⟨b1, 1, none⟩ = some (.int .u8 4) := hq 1 (by decide)
    have q2 : wr.cell? ⟨b1, 2, none⟩ = some (.int .u8 0) := hq 2 (by decide)
    have q3 : wr.cell? ⟨b1, 3, none⟩ = some (.int .i64 0) := hq 3 (by decide)
    have q4 : wr.cell? ⟨b1, 4, none⟩ = some (.string ⟨#[]⟩) := hq 4 (by decide)
    have lT := hT.lt
    clear hq hT htk hown hcs hc1
    have h11 := Blk.new wr 99 #[.int .i64 0, .int .u8 4, .int .u8 0, .int .i64 0, .string ⟨#[]⟩]
    go_upto_region 9 with fail
    clear q0 q1 q2 q3 q4 lT
    replace hM := hM.alloc (.cells #[.int .i64 0, .int .u8 4, .int .u8 0, .int .i64 0, .string ⟨#[]⟩] 99)
    replace hR := hR.alloc (.cells #[.int .i64 0, .int .u8 4, .int .u8 0, .int .i64 0, .string ⟨#[]⟩] 99)
    replace hL := lo_alloc hL (.cells #[.int .i64 0, .int .u8 4, .int .u8 0, .int .i64 0, .string ⟨#[]⟩] 99)
    generalize wr.heap.size = g11 at h11 ⊢
    generalize wr.alloc (.cells #[.int .i64 0, .int .u8 4, .int .u8 0, .int .i64 0, .string ⟨#[]⟩] 99) = w7 at h11 hM hR hL ⊢
    obtain ⟨c11, f11⟩ := h11.facts
    obtain ⟨cM, fM⟩ := hM.facts
    have lM := hM.lt
    go_wp2_with fail
    refine (H3.out _ _ hM (HO.out.lo hL)).mono ?_
    rintro e w8 ⟨A2, n2, c2, l2, rfl, ho2, hM2, hKt⟩
    clear c11 f11 cM fM lM h11 hM
    replace hL := kept_lo hL hKt (by omega)
    replace hR := hR.kept hKt (by omega)
    go_wp2_with fail
    refine (pump_any _ _ _ _ _ _ _ _ _ _ _ _ _ _ _ g _ hM2).mono ?_
    rintro e w9 ⟨rfl, rfl⟩
    go_wp2_with fail
    go_roundw
    case rel => exact .inr ⟨rfl, ⟨A2, n2, c2, l2, hM2, ho2⟩, hR, hL⟩
    case measure => simp [intOf]
  · go_upto_region 15 with fail
    refine wp_region_held_drew (S := (fun W => W.rangeAt g 0 ([.int .i64 24, .string ⟨#[]⟩, .bool false, .int .i64 0, .string ⟨#[]⟩, .bool false, .int .i64 4096, .slice none 0 0, .int .i64 4096, .int .i64 4096, .slice none 0 0, .int .i64 4096, .int .i64 4096, .int .i64 4096, .int .i64 1, .int .i64 4294967295, .int .i64 65535, .int .i64 16384, .int .i64 4294967295, .slice sA sn sc, .int .i64 held, .int .i64 told, .int .i64 0, .slice none 0 0, .slice none 0 0, .slice none 0 0, .int .i64 65535, .int .i64 65535, .slice A2 n2 c2, .int .i64 (made + 9), .int .i64 gone, .bool true, .bool false, .bool false, .int .u32 0, .int .i64 now, .int .i64 30] : List Value) ∧ W.cell? ⟨g, 37, none⟩ = some (.slice none 0 0) ∧ g < W.heap.size)) (by kernel_rfl) ?_ (fun hHeld => ?_)
    focus ((try dsimp only); (exact ⟨fun j v hv => blk_range hM ([.int .i64 24, .string ⟨#[]⟩, .bool false, .int .i64 0, .string ⟨#[]⟩, .bool false, .int .i64 4096, .slice none 0 0, .int .i64 4096, .int .i64 4096, .slice none 0 0, .int .i64 4096, .int .i64 4096, .int .i64 4096, .int .i64 1, .int .i64 4294967295, .int .i64 65535, .int .i64 16384, .int .i64 4294967295, .slice sA sn sc, .int .i64 held, .int .i64 told, .int .i64 0, .slice none 0 0, .slice none 0 0, .slice none 0 0, .int .i64 65535, .int .i64 65535, .slice A2 n2 c2, .int .i64 (made + 9), .int .i64 gone, .bool true, .bool false, .bool false, .int .u32 0, .int .i64 now, .int .i64 30] : List Value) [.slice none 0 0] rfl j v hv, hM.facts.1 37, hM.lt⟩))
    replace hM : Blk wr.drew _ _ _ := hM
    replace hR : Blk wr.drew _ _ _ := hR
    replace hL := lo_drew hL
    replace ho := ho.lo (lo_drew (lo_refl wr))
    generalize wr.drew = wd at hM hR hL ho hHeld ⊢
    first
    | (refine wpAnyH_take (i := 0) (oi := _) (v := ?_) (getop rfl) (by kernel_rfl) (by kernel_rfl) (by kernel_rfl) (fun _ _ _ h => h) (Or.inl ⟨by rfl, ?_⟩) (by assumption) ?_; rotate_left; focus (intro w hSw; (try dsimp only at hSw); go_simp; (try with_reducible rfl); done))
    | (refine wpAnyH_take (i := 0) (oi := _) (v := undef) (getop rfl) (by kernel_rfl) (by kernel_rfl) (by kernel_rfl) (fun _ _ _ h => h) (Or.inr ⟨by rfl, rfl⟩) (by assumption) ?_)
    (try simp only [Act.put, List.setIfInBounds_toArray, List.set_cons_zero, List.set_cons_succ])
    first
    | (refine wpAnyH_take (i := 4) (oi := _) (v := ?_) (getop rfl) (by kernel_rfl) (by kernel_rfl) (by kernel_rfl) (fun _ _ _ h => h) (Or.inl ⟨by rfl, ?_⟩) (by assumption) ?_; rotate_left; focus (intro w hSw; (try dsimp only at hSw); go_simp; (try with_reducible rfl); done))
    | (refine wpAnyH_take (i := 4) (oi := _) (v := undef) (getop rfl) (by kernel_rfl) (by kernel_rfl) (by kernel_rfl) (fun _ _ _ h => h) (Or.inr ⟨by rfl, rfl⟩) (by assumption) ?_)
    (try simp only [Act.put, List.setIfInBounds_toArray, List.set_cons_zero, List.set_cons_succ])
    first
    | (refine wpAnyH_take (i := 1) (oi := _) (v := ?_) (getop rfl) (by kernel_rfl) (by kernel_rfl) (by kernel_rfl) (fun _ _ _ h => h) (Or.inl ⟨by rfl, ?_⟩) (by assumption) ?_; rotate_left; focus (intro w hSw; (try dsimp only at hSw); go_simp; (try with_reducible rfl); done))
    | (refine wpAnyH_take (i := 1) (oi := _) (v := undef) (getop rfl) (by kernel_rfl) (by kernel_rfl) (by kernel_rfl) (fun _ _ _ h => h) (Or.inr ⟨by rfl, rfl⟩) (by assumption) ?_)
    (try simp only [Act.put, List.setIfInBounds_toArray, List.set_cons_zero, List.set_cons_succ])
    first
    | (refine wpAnyH_take (i := 5) (oi := _) (v := ?_) (getop rfl) (by kernel_rfl) (by kernel_rfl) (by kernel_rfl) (fun _ _ _ h => h) (Or.inl ⟨by rfl, ?_⟩) (by assumption) ?_; rotate_left; focus (intro w hSw; (try dsimp only at hSw); go_simp; (try with_reducible rfl); done))
    | (refine wpAnyH_take (i := 5) (oi := _) (v := undef) (getop rfl) (by kernel_rfl) (by kernel_rfl) (by kernel_rfl) (fun _ _ _ h => h) (Or.inr ⟨by rfl, rfl⟩) (by assumption) ?_)
    (try simp only [Act.put, List.setIfInBounds_toArray, List.set_cons_zero, List.set_cons_succ])
    first
    | (refine wpAnyH_take (i := 2) (oi := _) (v := ?_) (getop rfl) (by kernel_rfl) (by kernel_rfl) (by kernel_rfl) (fun _ _ _ h => h) (Or.inl ⟨by rfl, ?_⟩) (by assumption) ?_; rotate_left; focus (intro w hSw; (try dsimp only at hSw); go_simp; (try with_reducible rfl); done))
    | (refine wpAnyH_take (i := 2) (oi := _) (v := undef) (getop rfl) (by kernel_rfl) (by kernel_rfl) (by kernel_rfl) (fun _ _ _ h => h) (Or.inr ⟨by rfl, rfl⟩) (by assumption) ?_)
    (try simp only [Act.put, List.setIfInBounds_toArray, List.set_cons_zero, List.set_cons_succ])
    first
    | (refine wpAnyH_take (i := 6) (oi := _) (v := ?_) (getop rfl) (by kernel_rfl) (by kernel_rfl) (by kernel_rfl) (fun _ _ _ h => h) (Or.inl ⟨by rfl, ?_⟩) (by assumption) ?_; rotate_left; focus (intro w hSw; (try dsimp only at hSw); go_simp; (try with_reducible rfl); done))
    | (refine wpAnyH_take (i := 6) (oi := _) (v := undef) (getop rfl) (by kernel_rfl) (by kernel_rfl) (by kernel_rfl) (fun _ _ _ h => h) (Or.inr ⟨by rfl, rfl⟩) (by assumption) ?_)
    (try simp only [Act.put, List.setIfInBounds_toArray, List.set_cons_zero, List.set_cons_succ])
    refine wpAnyH_take (i := 3) (oi := _) (v := .agg (#[.int .i64 24, .string ⟨#[]⟩, .bool false, .int .i64 0, .string ⟨#[]⟩, .bool false, .int .i64 4096, .slice none 0 0, .int .i64 4096, .int .i64 4096, .slice none 0 0, .int .i64 4096, .int .i64 4096, .int .i64 4096, .int .i64 1, .int .i64 4294967295, .int .i64 65535, .int .i64 16384, .int .i64 4294967295, .slice sA sn sc, .int .i64 held, .int .i64 told, .int .i64 0, .slice none 0 0, .slice none 0 0, .slice none 0 0, .int .i64 65535, .int .i64 65535, .slice A2 n2 c2, .int .i64 (made + 9), .int .i64 gone, .bool true, .bool false, .bool false, .int .u32 0, .int .i64 now, .int .i64 30] : Array Value)) (getop rfl) (by kernel_rfl) (by kernel_rfl) (by kernel_rfl) (fun _ _ _ h => h) (yieldsIf_load_mid (by rfl) 49 _ rfl g 0 rfl ([.int .i64 24, .string ⟨#[]⟩, .bool false, .int .i64 0, .string ⟨#[]⟩, .bool false, .int .i64 4096, .slice none 0 0, .int .i64 4096, .int .i64 4096, .slice none 0 0, .int .i64 4096, .int .i64 4096, .int .i64 4096, .int .i64 1, .int .i64 4294967295, .int .i64 65535, .int .i64 16384, .int .i64 4294967295, .slice sA sn sc, .int .i64 held, .int .i64 told, .int .i64 0, .slice none 0 0, .slice none 0 0, .slice none 0 0, .int .i64 65535, .int .i64 65535, .slice A2 n2 c2, .int .i64 (made + 9), .int .i64 gone, .bool true, .bool false, .bool false, .int .u32 0, .int .i64 now, .int .i64 30] : List Value) _ (fun w h => h.1) Tryz.underlying49 rfl size49) (by assumption) ?_
    (try simp only [Act.put, List.setIfInBounds_toArray, List.set_cons_zero, List.set_cons_succ])
    first
    | (refine wpAnyH_take (i := 7) (oi := _) (v := ?_) (getop rfl) (by kernel_rfl) (by kernel_rfl) (by kernel_rfl) (fun _ _ _ h => h) (Or.inl ⟨by rfl, ?_⟩) (by assumption) ?_; rotate_left; focus (intro w hSw; (try dsimp only at hSw); go_simp; (try with_reducible rfl); done))
    | (refine wpAnyH_take (i := 7) (oi := _) (v := undef) (getop rfl) (by kernel_rfl) (by kernel_rfl) (by kernel_rfl) (fun _ _ _ h => h) (Or.inr ⟨by rfl, rfl⟩) (by assumption) ?_)
    (try simp only [Act.put, List.setIfInBounds_toArray, List.set_cons_zero, List.set_cons_succ])
    refine wpAnyH_ready (rs := [8]) (by kernel_rfl) (by simp) ?_
    refine (AllReadyH.cons (o := _) (getop rfl) (fun K hK => ?_) AllReadyH.nil)
    rw [if_pos (by rfl)]
    refine wp_store_mid 49 _ _ rfl (w.heap.size + 1) 0 (#[.int .i64 24, .string ⟨#[]⟩, .bool false, .int .i64 0, .string ⟨#[]⟩, .bool false, .int .i64 4096, .slice none 0 0, .int .i64 4096, .int .i64 4096, .slice none 0 0, .int .i64 4096, .int .i64 4096, .int .i64 4096, .int .i64 1, .int .i64 4294967295, .int .i64 65535, .int .i64 16384, .int .i64 4294967295, .slice sA sn sc, .int .i64 held, .int .i64 told, .int .i64 0, .slice none 0 0, .slice none 0 0, .slice none 0 0, .int .i64 65535, .int .i64 65535, .slice A2 n2 c2, .int .i64 (made + 9), .int .i64 gone, .bool true, .bool false, .bool false, .int .u32 0, .int .i64 now, .int .i64 30] : Array Value) rfl rfl (blk_there hR 37 rfl) size49 (by kernel_rfl) ?_
    have hKr := Kept.setCells ([.int .i64 24, .string ⟨#[]⟩, .bool false, .int .i64 0, .string ⟨#[]⟩, .bool false, .int .i64 4096, .slice none 0 0, .int .i64 4096, .int .i64 4096, .slice none 0 0, .int .i64 4096, .int .i64 4096, .int .i64 4096, .int .i64 1, .int .i64 4294967295, .int .i64 65535, .int .i64 16384, .int .i64 4294967295, .slice sA sn sc, .int .i64 held, .int .i64 told, .int .i64 0, .slice none 0 0, .slice none 0 0, .slice none 0 0, .int .i64 65535, .int .i64 65535, .slice A2 n2 c2, .int .i64 (made + 9), .int .i64 gone, .bool true, .bool false, .bool false, .int .u32 0, .int .i64 now, .int .i64 30] : List Value) 0 wd (Kept.refl wd (w.heap.size + 1))
    replace ho := ho.keptT hKr hR (by decide)
    replace hL := lo_cells (Nat.le_succ _) ([.int .i64 24, .string ⟨#[]⟩, .bool false, .int .i64 0, .string ⟨#[]⟩, .bool false, .int .i64 4096, .slice none 0 0, .int .i64 4096, .int .i64 4096, .slice none 0 0, .int .i64 4096, .int .i64 4096, .int .i64 4096, .int .i64 1, .int .i64 4294967295, .int .i64 65535, .int .i64 16384, .int .i64 4294967295, .slice sA sn sc, .int .i64 held, .int .i64 told, .int .i64 0, .slice none 0 0, .slice none 0 0, .slice none 0 0, .int .i64 65535, .int .i64 65535, .slice A2 n2 c2, .int .i64 (made + 9), .int .i64 gone, .bool true, .bool false, .bool false, .int .u32 0, .int .i64 now, .int .i64 30] : List Value) 0 wd hL
    replace hM := hM.kept hKr (by omega)
    replace hR := hR.setAll (#[.int .i64 24, .string ⟨#[]⟩, .bool false, .int .i64 0, .string ⟨#[]⟩, .bool false, .int .i64 4096, .slice none 0 0, .int .i64 4096, .int .i64 4096, .slice none 0 0, .int .i64 4096, .int .i64 4096, .int .i64 4096, .int .i64 1, .int .i64 4294967295, .int .i64 65535, .int .i64 16384, .int .i64 4294967295, .slice sA sn sc, .int .i64 held, .int .i64 told, .int .i64 0, .slice none 0 0, .slice none 0 0, .slice none 0 0, .int .i64 65535, .int .i64 65535, .slice A2 n2 c2, .int .i64 (made + 9), .int .i64 gone, .bool true, .bool false, .bool false, .int .u32 0, .int .i64 now, .int .i64 30] : Array Value) rfl
    refine hK.out _ _ ?_ (fun hHeld8 => ?_)
    focus ((try dsimp only); (exact ⟨fun j v hv => blk_range hM ([.int .i64 24, .string ⟨#[]⟩, .bool false, .int .i64 0, .string ⟨#[]⟩, .bool false, .int .i64 4096, .slice none 0 0, .int .i64 4096, .int .i64 4096, .slice none 0 0, .int .i64 4096, .int .i64 4096, .int .i64 4096, .int .i64 1, .int .i64 4294967295, .int .i64 65535, .int .i64 16384, .int .i64 4294967295, .slice sA sn sc, .int .i64 held, .int .i64 told, .int .i64 0, .slice none 0 0, .slice none 0 0, .slice none 0 0, .int .i64 65535, .int .i64 65535, .slice A2 n2 c2, .int .i64 (made + 9), .int .i64 gone, .bool true, .bool false, .bool false, .int .u32 0, .int .i64 now, .int .i64 30] : List Value) [.slice none 0 0] rfl j v hv, hM.facts.1 37, hM.lt⟩))
    clear hK K hHeld
    have hHeld := hHeld8
    clear hHeld8
    (try simp only [Act.put, List.setIfInBounds_toArray, List.set_cons_zero, List.set_cons_succ])
    first
    | (refine wpAnyH_take (i := 9) (oi := _) (v := ?_) (getop rfl) (by kernel_rfl) (by kernel_rfl) (by kernel_rfl) (fun _ _ _ h => h) (Or.inl ⟨by rfl, ?_⟩) (by assumption) ?_; rotate_left; focus (intro w hSw; (try dsimp only at hSw); go_simp; (try with_reducible rfl); done))
    | (refine wpAnyH_take (i := 9) (oi := _) (v := undef) (getop rfl) (by kernel_rfl) (by kernel_rfl) (by kernel_rfl) (fun _ _ _ h => h) (Or.inr ⟨by rfl, rfl⟩) (by assumption) ?_)
    (try simp only [Act.put, List.setIfInBounds_toArray, List.set_cons_zero, List.set_cons_succ])
    refine wpAnyH_done (by kernel_rfl) ?_ _
    clear hHeld
    go_wp2_with fail
    refine bodyPost_ret (results_big (fn := Tryz.f7) (p := 4) (u := 5) rfl rfl hR Tryz.underlying49 rfl size49) rfl ?_
    exact ⟨A2, n2, c2, l2, rfl, ho, hL⟩
set_option maxRecDepth 100000 in
set_option maxHeartbeats 12800000 in
theorem feed_acknil (sA : Option Addr) (sc : Nat) (held told : Int) (oA : Option Addr) (on oc : Nat) (ol : List ByteArray) (made gone : Int) (now : Int)  (b off cap : Nat) (w : World) (hlt : b < w.heap.size) (hc : ∀ j, j < 9 → w.cell? ⟨b, off + j, none⟩ = some (.int .u8 ((([0, 0, 0, 4, 1, 0, 0, 0, 0] : List Int)).getD j 0))) (ho : OutOk w oA on oc ol made gone) (hmm : made + 17 ≤ 60000) : Calls Tryz.prog 7 #[.agg #[.int .i64 24, .string ⟨#[]⟩, .bool false, .int .i64 0, .string ⟨#[]⟩, .bool false, .int .i64 4096, .slice none 0 0, .int .i64 4096, .int .i64 4096, .slice none 0 0, .int .i64 4096, .int .i64 4096, .int .i64 4096, .int .i64 1, .int .i64 4294967295, .int .i64 65535, .int .i64 16384, .int .i64 4294967295, .slice sA 0 sc, .int .i64 held, .int .i64 told, .int .i64 0, .slice none 0 0, .slice none 0 0, .slice none 0 0, .int .i64 65535, .int .i64 65535, .slice oA on oc, .int .i64 made, .int .i64 gone, .bool true, .bool false, .bool false, .int .u32 0, .int .i64 now, .int .i64 30], .slice (some ⟨b, off, none⟩) 9 cap] w (ConnPost w 17 (fun o md => #[.int .i64 24, .string ⟨#[]⟩, .bool false, .int .i64 0, .string ⟨#[]⟩, .bool false, .int .i64 4096, .slice none 0 0, .int .i64 4096, .int .i64 4096, .slice none 0 0, .int .i64 4096, .int .i64 4096, .int .i64 4096, .int .i64 1, .int .i64 4294967295, .int .i64 65535, .int .i64 16384, .int .i64 4294967295, .slice sA 0 sc, .int .i64 held, .int .i64 told, .int .i64 0, .slice none 0 0, .slice none 0 0, .slice none 0 0, .int .i64 65535, .int .i64 65535, o, .int .i64 md, .int .i64 gone, .bool true, .bool false, .bool true, .int .u32 1, .int .i64 now, .int .i64 30]) made gone (.slice none 0 0)) := by
  have H1 : Hid (∀ W, Calls Tryz.prog 19 #[.agg #[.int .i64 24, .string ⟨#[]⟩, .bool false, .int .i64 0, .string ⟨#[]⟩, .bool false, .int .i64 4096, .slice none 0 0, .int .i64 4096, .int .i64 4096, .slice none 0 0, .int .i64 4096, .int .i64 4096, .int .i64 4096, .int .i64 1, .int .i64 4294967295, .int .i64 65535, .int .i64 16384, .int .i64 4294967295, .slice sA 0 sc, .int .i64 held, .int .i64 told, .int .i64 0, .slice none 0 0, .slice none 0 0, .slice none 0 0, .int .i64 65535, .int .i64 65535, .slice oA on oc, .int .i64 made, .int .i64 gone, .bool true, .bool false, .bool false, .int .u32 0, .int .i64 now, .int .i64 30]] W (StartPost W #[.int .i64 24, .string ⟨#[]⟩, .bool false, .int .i64 0, .string ⟨#[]⟩, .bool false, .int .i64 4096, .slice none 0 0, .int .i64 4096, .int .i64 4096, .slice none 0 0, .int .i64 4096, .int .i64 4096, .int .i64 4096, .int .i64 1, .int .i64 4294967295, .int .i64 65535, .int .i64 16384, .int .i64 4294967295, .slice sA 0 sc, .int .i64 held, .int .i64 told, .int .i64 0, .slice none 0 0, .slice none 0 0, .slice none 0 0, .int .i64 65535, .int .i64 65535, .slice oA on oc, .int .i64 made, .int .i64 gone, .bool true, .bool false, .bool false, .int .u32 0, .int .i64 now, .int .i64 30, .slice none 0 0])) := Lib.hid fun W => start_any 24 sA 0 sc held told oA on oc made gone true false 0 now W
  have H2 : Hid (∀ W, Below w.heap.size w W → Calls Tryz.prog 25 #[.agg #[.int .i64 24, .string ⟨#[]⟩, .bool false], .slice (some ⟨b, off, none⟩) 9 cap] W (FeedPost W 1)) := Lib.hid fun W hb => feed_24 b off cap W (Nat.lt_of_lt_of_le hlt hb.size) fun j hj => by
    rw [(lo_cell hb).1 b _ hlt]
    exact hc j hj
  have H3 : Hid (∀ W g, Blk W g 89 #[.int .i64 24, .string ⟨#[]⟩, .bool false, .int .i64 0, .string ⟨#[]⟩, .bool false, .int .i64 4096, .slice none 0 0, .int .i64 4096, .int .i64 4096, .slice none 0 0, .int .i64 4096, .int .i64 4096, .int .i64 4096, .int .i64 1, .int .i64 4294967295, .int .i64 65535, .int .i64 16384, .int .i64 4294967295, .slice sA 0 sc, .int .i64 held, .int .i64 told, .int .i64 0, .slice none 0 0, .slice none 0 0, .slice none 0 0, .int .i64 65535, .int .i64 65535, .slice oA on oc, .int .i64 made, .int .i64 gone, .bool true, .bool false, .bool false, .int .u32 0, .int .i64 now, .int .i64 30, .slice none 0 0] → OutOk W oA on oc ol made gone → Calls Tryz.prog 26 #[.pointer (some ⟨g, 0, none⟩), .agg #[.int .i64 0, .int .u8 4, .int .u8 1, .int .i64 0, .string ⟨#[]⟩]] W (EmitPost W g 17 (fun o md => #[.int .i64 24, .string ⟨#[]⟩, .bool false, .int .i64 0, .string ⟨#[]⟩, .bool false, .int .i64 4096, .slice none 0 0, .int .i64 4096, .int .i64 4096, .slice none 0 0, .int .i64 4096, .int .i64 4096, .int .i64 4096, .int .i64 1, .int .i64 4294967295, .int .i64 65535, .int .i64 16384, .int .i64 4294967295, .slice sA 0 sc, .int .i64 held, .int .i64 told, .int .i64 0, .slice none 0 0, .slice none 0 0, .slice none 0 0, .int .i64 65535, .int .i64 65535, o, .int .i64 md, .int .i64 gone, .bool true, .bool false, .bool true, .int .u32 1, .int .i64 now, .int .i64 30, .slice none 0 0]) made gone)) := Lib.hid fun W g h1 h2 => take_1n 24 sA 0 sc held told oA on oc ol made gone now g W rfl h1 h2 hmm
  have HO := Lib.hid ho
  clear ho hmm
  clear hc
  have hB := Blk.new w 49 #[.int .i64 24, .string ⟨#[]⟩, .bool false, .int .i64 0, .string ⟨#[]⟩, .bool false, .int .i64 4096, .slice none 0 0, .int .i64 4096, .int .i64 4096, .slice none 0 0, .int .i64 4096, .int .i64 4096, .int .i64 4096, .int .i64 1, .int .i64 4294967295, .int .i64 65535, .int .i64 16384, .int .i64 4294967295, .slice sA 0 sc, .int .i64 held, .int .i64 told, .int .i64 0, .slice none 0 0, .slice none 0 0, .slice none 0 0, .int .i64 65535, .int .i64 65535, .slice oA on oc, .int .i64 made, .int .i64 gone, .bool true, .bool false, .bool false, .int .u32 0, .int .i64 now, .int .i64 30]
  have hL := lo_alloc (lo_refl w) (.cells #[.int .i64 24, .string ⟨#[]⟩, .bool false, .int .i64 0, .string ⟨#[]⟩, .bool false, .int .i64 4096, .slice none 0 0, .int .i64 4096, .int .i64 4096, .slice none 0 0, .int .i64 4096, .int .i64 4096, .int .i64 4096, .int .i64 1, .int .i64 4294967295, .int .i64 65535, .int .i64 16384, .int .i64 4294967295, .slice sA 0 sc, .int .i64 held, .int .i64 told, .int .i64 0, .slice none 0 0, .slice none 0 0, .slice none 0 0, .int .i64 65535, .int .i64 65535, .slice oA on oc, .int .i64 made, .int .i64 gone, .bool true, .bool false, .bool false, .int .u32 0, .int .i64 now, .int .i64 30] 49)
  have hR := Blk.new (w.alloc (.cells #[.int .i64 24, .string ⟨#[]⟩, .bool false, .int .i64 0, .string ⟨#[]⟩, .bool false, .int .i64 4096, .slice none 0 0, .int .i64 4096, .int .i64 4096, .slice none 0 0, .int .i64 4096, .int .i64 4096, .int .i64 4096, .int .i64 1, .int .i64 4294967295, .int .i64 65535, .int .i64 16384, .int .i64 4294967295, .slice sA 0 sc, .int .i64 held, .int .i64 told, .int .i64 0, .slice none 0 0, .slice none 0 0, .slice none 0 0, .int .i64 65535, .int .i64 65535, .slice oA on oc, .int .i64 made, .int .i64 gone, .bool true, .bool false, .bool false, .int .u32 0, .int .i64 now, .int .i64 30] 49)) 49 #[.int .i64 0, .string ⟨#[]⟩, .bool false, .int .i64 0, .string ⟨#[]⟩, .bool false, .int .i64 0, .slice none 0 0, .int .i64 0, .int .i64 0, .slice none 0 0, .int .i64 0, .int .i64 0, .int .i64 0, .int .i64 0, .int .i64 0, .int .i64 0, .int .i64 0, .int .i64 0, .slice none 0 0, .int .i64 0, .int .i64 0, .int .i64 0, .slice none 0 0, .slice none 0 0, .slice none 0 0, .int .i64 0, .int .i64 0, .slice none 0 0, .int .i64 0, .int .i64 0, .bool false, .bool false, .bool false, .int .u32 0, .int .i64 0, .int .i64 0]
  replace hB := hB.alloc (.cells #[.int .i64 0, .string ⟨#[]⟩, .bool false, .int .i64 0, .string ⟨#[]⟩, .bool false, .int .i64 0, .slice none 0 0, .int .i64 0, .int .i64 0, .slice none 0 0, .int .i64 0, .int .i64 0, .int .i64 0, .int .i64 0, .int .i64 0, .int .i64 0, .int .i64 0, .int .i64 0, .slice none 0 0, .int .i64 0, .int .i64 0, .int .i64 0, .slice none 0 0, .slice none 0 0, .slice none 0 0, .int .i64 0, .int .i64 0, .slice none 0 0, .int .i64 0, .int .i64 0, .bool false, .bool false, .bool false, .int .u32 0, .int .i64 0, .int .i64 0] 49)
  replace hL := lo_alloc hL (.cells #[.int .i64 0, .string ⟨#[]⟩, .bool false, .int .i64 0, .string ⟨#[]⟩, .bool false, .int .i64 0, .slice none 0 0, .int .i64 0, .int .i64 0, .slice none 0 0, .int .i64 0, .int .i64 0, .int .i64 0, .int .i64 0, .int .i64 0, .int .i64 0, .int .i64 0, .int .i64 0, .slice none 0 0, .int .i64 0, .int .i64 0, .int .i64 0, .slice none 0 0, .slice none 0 0, .slice none 0 0, .int .i64 0, .int .i64 0, .slice none 0 0, .int .i64 0, .int .i64 0, .bool false, .bool false, .bool false, .int .u32 0, .int .i64 0, .int .i64 0] 49)
  simp only [World.size_alloc] at hR
  obtain ⟨cB, fB⟩ := hB.facts
  have c33 : ((w.alloc (.cells #[.int .i64 24, .string ⟨#[]⟩, .bool false, .int .i64 0, .string ⟨#[]⟩, .bool false, .int .i64 4096, .slice none 0 0, .int .i64 4096, .int .i64 4096, .slice none 0 0, .int .i64 4096, .int .i64 4096, .int .i64 4096, .int .i64 1, .int .i64 4294967295, .int .i64 65535, .int .i64 16384, .int .i64 4294967295, .slice sA 0 sc, .int .i64 held, .int .i64 told, .int .i64 0, .slice none 0 0, .slice none 0 0, .slice none 0 0, .int .i64 65535, .int .i64 65535, .slice oA on oc, .int .i64 made, .int .i64 gone, .bool true, .bool false, .bool false, .int .u32 0, .int .i64 now, .int .i64 30] 49)).alloc (.cells #[.int .i64 0, .string ⟨#[]⟩, .bool false, .int .i64 0, .string ⟨#[]⟩, .bool false, .int .i64 0, .slice none 0 0, .int .i64 0, .int .i64 0, .slice none 0 0, .int .i64 0, .int .i64 0, .int .i64 0, .int .i64 0, .int .i64 0, .int .i64 0, .int .i64 0, .int .i64 0, .slice none 0 0, .int .i64 0, .int .i64 0, .int .i64 0, .slice none 0 0, .slice none 0 0, .slice none 0 0, .int .i64 0, .int .i64 0, .slice none 0 0, .int .i64 0, .int .i64 0, .bool false, .bool false, .bool false, .int .u32 0, .int .i64 0, .int .i64 0] 49)).cell? ⟨w.heap.size, 33, none⟩ = some (.bool false) := by rw [cB]; rfl
  clear cB fB
  go_enter Tryz.func7, Tryz.ntmps7
  go_upto_region 3 with fail
  clear c33
  generalize (w.alloc (.cells #[.int .i64 24, .string ⟨#[]⟩, .bool false, .int .i64 0, .string ⟨#[]⟩, .bool false, .int .i64 4096, .slice none 0 0, .int .i64 4096, .int .i64 4096, .slice none 0 0, .int .i64 4096, .int .i64 4096, .int .i64 4096, .int .i64 1, .int .i64 4294967295, .int .i64 65535, .int .i64 16384, .int .i64 4294967295, .slice sA 0 sc, .int .i64 held, .int .i64 told, .int .i64 0, .slice none 0 0, .slice none 0 0, .slice none 0 0, .int .i64 65535, .int .i64 65535, .slice oA on oc, .int .i64 made, .int .i64 gone, .bool true, .bool false, .bool false, .int .u32 0, .int .i64 now, .int .i64 30] 49)).alloc (.cells #[.int .i64 0, .string ⟨#[]⟩, .bool false, .int .i64 0, .string ⟨#[]⟩, .bool false, .int .i64 0, .slice none 0 0, .int .i64 0, .int .i64 0, .slice none 0 0, .int .i64 0, .int .i64 0, .int .i64 0, .int .i64 0, .int .i64 0, .int .i64 0, .int .i64 0, .int .i64 0, .slice none 0 0, .int .i64 0, .int .i64 0, .int .i64 0, .slice none 0 0, .slice none 0 0, .slice none 0 0, .int .i64 0, .int .i64 0, .slice none 0 0, .int .i64 0, .int .i64 0, .bool false, .bool false, .bool false, .int .u32 0, .int .i64 0, .int .i64 0] 49) = w2 at hB hR hL ⊢
  have hrg := blk_range hB [.int .i64 24, .string ⟨#[]⟩, .bool false, .int .i64 0, .string ⟨#[]⟩, .bool false, .int .i64 4096, .slice none 0 0, .int .i64 4096, .int .i64 4096, .slice none 0 0, .int .i64 4096, .int .i64 4096, .int .i64 4096, .int .i64 1, .int .i64 4294967295, .int .i64 65535, .int .i64 16384, .int .i64 4294967295, .slice sA 0 sc, .int .i64 held, .int .i64 told, .int .i64 0, .slice none 0 0, .slice none 0 0, .slice none 0 0, .int .i64 65535, .int .i64 65535, .slice oA on oc, .int .i64 made, .int .i64 gone, .bool true, .bool false, .bool false, .int .u32 0, .int .i64 now, .int .i64 30] [] rfl
  go_wp2_with (refine wpList_load_mid rfl 49 _ rfl (w.heap.size) 0 rfl [.int .i64 24, .string ⟨#[]⟩, .bool false, .int .i64 0, .string ⟨#[]⟩, .bool false, .int .i64 4096, .slice none 0 0, .int .i64 4096, .int .i64 4096, .slice none 0 0, .int .i64 4096, .int .i64 4096, .int .i64 4096, .int .i64 1, .int .i64 4294967295, .int .i64 65535, .int .i64 16384, .int .i64 4294967295, .slice sA 0 sc, .int .i64 held, .int .i64 told, .int .i64 0, .slice none 0 0, .slice none 0 0, .slice none 0 0, .int .i64 65535, .int .i64 65535, .slice oA on oc, .int .i64 made, .int .i64 gone, .bool true, .bool false, .bool false, .int .u32 0, .int .i64 now, .int .i64 30] _ hrg Tryz.underlying49 rfl size49 ?_)
  refine (H1.out _).mono ?_
  rintro e w3 ⟨g, rfl, hM, hg, hb⟩
  clear hrg hB H1
  have hgR : w.heap.size + 2 ≤ g := by have := hR.lt; omega
  replace hR := hR.lo hb
  replace hL := lo_trans hL hb
  clear hb hg
  obtain ⟨cM, fM⟩ := hM.facts
  have lM := hM.lt
  go_wp2_with fail
  refine (H2.out _ hL).mono ?_
  rintro e w4 ⟨A1, c1, rfl, hown, hb⟩
  clear cM fM lM H2
  replace hM := hM.lo hb
  replace hR := hR.lo hb
  replace hL := lo_trans hL hb
  clear hb
  have h7 := Blk.new w4 25 #[.int .i64 24, .string ⟨#[]⟩, .bool false]
  go_upto_region 5 with fail
  replace hM := hM.alloc (.cells #[.int .i64 24, .string ⟨#[]⟩, .bool false] 25)
  replace hR := hR.alloc (.cells #[.int .i64 24, .string ⟨#[]⟩, .bool false] 25)
  replace hown := hown.alloc (.cells #[.int .i64 24, .string ⟨#[]⟩, .bool false] 25)
  replace hL := lo_alloc hL (.cells #[.int .i64 24, .string ⟨#[]⟩, .bool false] 25)
  generalize w4.heap.size = g7 at h7 ⊢
  generalize w4.alloc (.cells #[.int .i64 24, .string ⟨#[]⟩, .bool false] 25) = w5 at h7 hM hR hown hL ⊢
  obtain ⟨c7, f7⟩ := h7.facts
  obtain ⟨cM, fM⟩ := hM.facts
  have lM := hM.lt
  go_upto_region 6 with fail
  clear c7 f7 cM fM lM h7
  have hK3 := (((Kept.refl w5 g).set 0 (.int .i64 24)).set 1 (.string ⟨#[]⟩)).set 2 (.bool false)
  replace hR := hR.kept hK3 (by omega)
  replace hown := own_far (own_far (own_far hown (p := ⟨g, 0, none⟩) (blk_ne_own hown hM (by decide)) (.int .i64 24)) (p := ⟨g, 1, none⟩) (blk_ne_own hown hM (by decide)) (.string ⟨#[]⟩)) (p := ⟨g, 2, none⟩) (blk_ne_own hown hM (by decide)) (.bool false)
  replace hL := (lo_set (lo_set (lo_set hL (p := ⟨g, 0, none⟩) (show w.heap.size ≤ g by omega) (.int .i64 24)) (p := ⟨g, 1, none⟩) (show w.heap.size ≤ g by omega) (.string ⟨#[]⟩)) (p := ⟨g, 2, none⟩) (show w.heap.size ≤ g by omega) (.bool false))
  replace hM := (((hM.set_ 0 (.int .i64 24)).set_ 1 (.string ⟨#[]⟩)).set_ 2 (.bool false))
  simp only [List.setIfInBounds_toArray, List.set_cons_zero, List.set_cons_succ] at hM
  clear hK3
  generalize (((w5.setCell ⟨g, 0, none⟩ (.int .i64 24)).setCell ⟨g, 1, none⟩ (.string ⟨#[]⟩)).setCell ⟨g, 2, none⟩ (.bool false)) = w6 at hM hR hown hL ⊢
  go_wp2_with fail
  go_loopw [11, 35] (fun _ y wr => (y = .int .i64 0 ∧ Blk wr g 89 #[.int .i64 24, .string ⟨#[]⟩, .bool false, .int .i64 0, .string ⟨#[]⟩, .bool false, .int .i64 4096, .slice none 0 0, .int .i64 4096, .int .i64 4096, .slice none 0 0, .int .i64 4096, .int .i64 4096, .int .i64 4096, .int .i64 1, .int .i64 4294967295, .int .i64 65535, .int .i64 16384, .int .i64 4294967295, .slice sA 0 sc, .int .i64 held, .int .i64 told, .int .i64 0, .slice none 0 0, .slice none 0 0, .slice none 0 0, .int .i64 65535, .int .i64 65535, .slice oA on oc, .int .i64 made, .int .i64 gone, .bool true, .bool false, .bool false, .int .u32 0, .int .i64 now, .int .i64 30, .slice none 0 0] ∧ wr.ownsRow w3.heap.size 99 5 (.slice A1 1 c1) 1 [.int .i64 0, .int .u8 4, .int .u8 1, .int .i64 0, .string ⟨#[]⟩] ∧ Blk wr (w.heap.size + 1) 49 #[.int .i64 0, .string ⟨#[]⟩, .bool false, .int .i64 0, .string ⟨#[]⟩, .bool false, .int .i64 0, .slice none 0 0, .int .i64 0, .int .i64 0, .slice none 0 0, .int .i64 0, .int .i64 0, .int .i64 0, .int .i64 0, .int .i64 0, .int .i64 0, .int .i64 0, .int .i64 0, .slice none 0 0, .int .i64 0, .int .i64 0, .int .i64 0, .slice none 0 0, .slice none 0 0, .slice none 0 0, .int .i64 0, .int .i64 0, .slice none 0 0, .int .i64 0, .int .i64 0, .bool false, .bool false, .bool false, .int .u32 0, .int .i64 0, .int .i64 0] ∧ Below w.heap.size w wr) ∨ (y = .int .i64 1 ∧ (∃ A2 n2 c2 l2, Blk wr g 89 #[.int .i64 24, .string ⟨#[]⟩, .bool false, .int .i64 0, .string ⟨#[]⟩, .bool false, .int .i64 4096, .slice none 0 0, .int .i64 4096, .int .i64 4096, .slice none 0 0, .int .i64 4096, .int .i64 4096, .int .i64 4096, .int .i64 1, .int .i64 4294967295, .int .i64 65535, .int .i64 16384, .int .i64 4294967295, .slice sA 0 sc, .int .i64 held, .int .i64 told, .int .i64 0, .slice none 0 0, .slice none 0 0, .slice none 0 0, .int .i64 65535, .int .i64 65535, .slice A2 n2 c2, .int .i64 (made + 17), .int .i64 gone, .bool true, .bool false, .bool true, .int .u32 1, .int .i64 now, .int .i64 30, .slice none 0 0] ∧ OutOk wr A2 n2 c2 l2 (made + 17) gone) ∧ Blk wr (w.heap.size + 1) 49 #[.int .i64 0, .string ⟨#[]⟩, .bool false, .int .i64 0, .string ⟨#[]⟩, .bool false, .int .i64 0, .slice none 0 0, .int .i64 0, .int .i64 0, .slice none 0 0, .int .i64 0, .int .i64 0, .int .i64 0, .int .i64 0, .int .i64 0, .int .i64 0, .int .i64 0, .int .i64 0, .slice none 0 0, .int .i64 0, .int .i64 0, .int .i64 0, .slice none 0 0, .slice none 0 0, .slice none 0 0, .int .i64 0, .int .i64 0, .slice none 0 0, .int .i64 0, .int .i64 0, .bool false, .bool false, .bool false, .int .u32 0, .int .i64 0, .int .i64 0] ∧ Below w.heap.size w wr)) (fun _ y _ => 1 - (intOf y).toNat)
  case atStart => exact .inl ⟨rfl, hM, hown, hR, hL⟩
  case round =>
  clear hM hown hR hL
  obtain ⟨rfl, hM, hown, hR, hL⟩ | ⟨rfl, ⟨A2, n2, c2, l2, hM, ho⟩, hR, hL⟩ := hrel
  · obtain ⟨a1, rfl⟩ : ∃ a, A1 = some a := by
      rcases hown.2 with ⟨he, h0⟩ | ⟨q, _, _, he, _⟩
      · cases h0
      · injection he with he
        exact ⟨_, he⟩
    obtain ⟨b1, cur, rfl, hb1, hT, hc1, _, hcs, htk⟩ := own_blk hown
    have hq : ∀ j, j < 5 → wr.cell? ⟨b1, j, none⟩ = ([.int .i64 0, .int .u8 4, .int .u8 1, .int .i64 0, .string ⟨#[]⟩] : List Value)[j]? := fun j hj => by
      rw [hT.facts.1, ← htk, List.getElem?_take, if_pos (by omega), Array.getElem?_toList]
    have q0 : wr.cell? ⟨b1, 0, none⟩ = some (.int .i64 0) := hq 0 (by decide)
    have q1 : wr.cell? ⟨b1, 1, none⟩ = some (.int .u8 4) := hq 1 (by decide)
    have q2 : wr.cell? ⟨b1, 2, none⟩ = some (.int .u8 1) := hq 2 (by decide)
    have q3 : wr.cell? ⟨b1, 3, none⟩ = some (.int .i64 0) := hq 3 (by decide)
    have q4 : wr.cell? ⟨b1, 4, none⟩ = some (.string ⟨#[]⟩) := hq 4 (by decide)
    have lT := hT.lt
    clear hq hT htk hown hcs hc1
    have h11 := Blk.new wr 99 #[.int .i64 0, .int .u8 4, .int .u8 1, .int .i64 0, .string ⟨#[]⟩]
    go_upto_region 9 with fail
    clear q0 q1 q2 q3 q4 lT
    replace hM := hM.alloc (.cells #[.int .i64 0, .int .u8 4, .int .u8 1, .int .i64 0, .string ⟨#[]⟩] 99)
    replace hR := hR.alloc (.cells #[.int .i64 0, .int .u8 4, .int .u8 1, .int .i64 0, .string ⟨#[]⟩] 99)
    replace hL := lo_alloc hL (.cells #[.int .i64 0, .int .u8 4, .int .u8 1, .int .i64 0, .string ⟨#[]⟩] 99)
    generalize wr.heap.size = g11 at h11 ⊢
    generalize wr.alloc (.cells #[.int .i64 0, .int .u8 4, .int .u8 1, .int .i64 0, .string ⟨#[]⟩] 99) = w7 at h11 hM hR hL ⊢
    obtain ⟨c11, f11⟩ := h11.facts
    obtain ⟨cM, fM⟩ := hM.facts
    have lM := hM.lt
    go_wp2_with fail
    refine (H3.out _ _ hM (HO.out.lo hL)).mono ?_
    rintro e w8 ⟨A2, n2, c2, l2, rfl, ho2, hM2, hKt⟩
    clear c11 f11 cM fM lM h11 hM
    replace hL := kept_lo hL hKt (by omega)
    replace hR := hR.kept hKt (by omega)
    go_wp2_with fail
    refine (pump_any _ _ _ _ _ _ _ _ _ _ _ _ _ _ _ g _ hM2).mono ?_
    rintro e w9 ⟨rfl, rfl⟩
    go_wp2_with fail
    go_roundw
    case rel => exact .inr ⟨rfl, ⟨A2, n2, c2, l2, hM2, ho2⟩, hR, hL⟩
    case measure => simp [intOf]
  · go_upto_region 15 with fail
    refine wp_region_held_drew (S := (fun W => W.rangeAt g 0 ([.int .i64 24, .string ⟨#[]⟩, .bool false, .int .i64 0, .string ⟨#[]⟩, .bool false, .int .i64 4096, .slice none 0 0, .int .i64 4096, .int .i64 4096, .slice none 0 0, .int .i64 4096, .int .i64 4096, .int .i64 4096, .int .i64 1, .int .i64 4294967295, .int .i64 65535, .int .i64 16384, .int .i64 4294967295, .slice sA 0 sc, .int .i64 held, .int .i64 told, .int .i64 0, .slice none 0 0, .slice none 0 0, .slice none 0 0, .int .i64 65535, .int .i64 65535, .slice A2 n2 c2, .int .i64 (made + 17), .int .i64 gone, .bool true, .bool false, .bool true, .int .u32 1, .int .i64 now, .int .i64 30] : List Value) ∧ W.cell? ⟨g, 37, none⟩ = some (.slice none 0 0) ∧ g < W.heap.size)) (by kernel_rfl) ?_ (fun hHeld => ?_)
    focus ((try dsimp only); (exact ⟨fun j v hv => blk_range hM ([.int .i64 24, .string ⟨#[]⟩, .bool false, .int .i64 0, .string ⟨#[]⟩, .bool false, .int .i64 4096, .slice none 0 0, .int .i64 4096, .int .i64 4096, .slice none 0 0, .int .i64 4096, .int .i64 4096, .int .i64 4096, .int .i64 1, .int .i64 4294967295, .int .i64 65535, .int .i64 16384, .int .i64 4294967295, .slice sA 0 sc, .int .i64 held, .int .i64 told, .int .i64 0, .slice none 0 0, .slice none 0 0, .slice none 0 0, .int .i64 65535, .int .i64 65535, .slice A2 n2 c2, .int .i64 (made + 17), .int .i64 gone, .bool true, .bool false, .bool true, .int .u32 1, .int .i64 now, .int .i64 30] : List Value) [.slice none 0 0] rfl j v hv, hM.facts.1 37, hM.lt⟩))
    replace hM : Blk wr.drew _ _ _ := hM
    replace hR : Blk wr.drew _ _ _ := hR
    replace hL := lo_drew hL
    replace ho := ho.lo (lo_drew (lo_refl wr))
    generalize wr.drew = wd at hM hR hL ho hHeld ⊢
    first
    | (refine wpAnyH_take (i := 0) (oi := _) (v := ?_) (getop rfl) (by kernel_rfl) (by kernel_rfl) (by kernel_rfl) (fun _ _ _ h => h) (Or.inl ⟨by rfl, ?_⟩) (by assumption) ?_; rotate_left; focus (intro w hSw; (try dsimp only at hSw); go_simp; (try with_reducible rfl); done))
    | (refine wpAnyH_take (i := 0) (oi := _) (v := undef) (getop rfl) (by kernel_rfl) (by kernel_rfl) (by kernel_rfl) (fun _ _ _ h => h) (Or.inr ⟨by rfl, rfl⟩) (by assumption) ?_)
    (try simp only [Act.put, List.setIfInBounds_toArray, List.set_cons_zero, List.set_cons_succ])
    first
    | (refine wpAnyH_take (i := 4) (oi := _) (v := ?_) (getop rfl) (by kernel_rfl) (by kernel_rfl) (by kernel_rfl) (fun _ _ _ h => h) (Or.inl ⟨by rfl, ?_⟩) (by assumption) ?_; rotate_left; focus (intro w hSw; (try dsimp only at hSw); go_simp; (try with_reducible rfl); done))
    | (refine wpAnyH_take (i := 4) (oi := _) (v := undef) (getop rfl) (by kernel_rfl) (by kernel_rfl) (by kernel_rfl) (fun _ _ _ h => h) (Or.inr ⟨by rfl, rfl⟩) (by assumption) ?_)
    (try simp only [Act.put, List.setIfInBounds_toArray, List.set_cons_zero, List.set_cons_succ])
    first
    | (refine wpAnyH_take (i := 1) (oi := _) (v := ?_) (getop rfl) (by kernel_rfl) (by kernel_rfl) (by kernel_rfl) (fun _ _ _ h => h) (Or.inl ⟨by rfl, ?_⟩) (by assumption) ?_; rotate_left; focus (intro w hSw; (try dsimp only at hSw); go_simp; (try with_reducible rfl); done))
    | (refine wpAnyH_take (i := 1) (oi := _) (v := undef) (getop rfl) (by kernel_rfl) (by kernel_rfl) (by kernel_rfl) (fun _ _ _ h => h) (Or.inr ⟨by rfl, rfl⟩) (by assumption) ?_)
    (try simp only [Act.put, List.setIfInBounds_toArray, List.set_cons_zero, List.set_cons_succ])
    first
    | (refine wpAnyH_take (i := 5) (oi := _) (v := ?_) (getop rfl) (by kernel_rfl) (by kernel_rfl) (by kernel_rfl) (fun _ _ _ h => h) (Or.inl ⟨by rfl, ?_⟩) (by assumption) ?_; rotate_left; focus (intro w hSw; (try dsimp only at hSw); go_simp; (try with_reducible rfl); done))
    | (refine wpAnyH_take (i := 5) (oi := _) (v := undef) (getop rfl) (by kernel_rfl) (by kernel_rfl) (by kernel_rfl) (fun _ _ _ h => h) (Or.inr ⟨by rfl, rfl⟩) (by assumption) ?_)
    (try simp only [Act.put, List.setIfInBounds_toArray, List.set_cons_zero, List.set_cons_succ])
    first
    | (refine wpAnyH_take (i := 2) (oi := _) (v := ?_) (getop rfl) (by kernel_rfl) (by kernel_rfl) (by kernel_rfl) (fun _ _ _ h => h) (Or.inl ⟨by rfl, ?_⟩) (by assumption) ?_; rotate_left; focus (intro w hSw; (try dsimp only at hSw); go_simp; (try with_reducible rfl); done))
    | (refine wpAnyH_take (i := 2) (oi := _) (v := undef) (getop rfl) (by kernel_rfl) (by kernel_rfl) (by kernel_rfl) (fun _ _ _ h => h) (Or.inr ⟨by rfl, rfl⟩) (by assumption) ?_)
    (try simp only [Act.put, List.setIfInBounds_toArray, List.set_cons_zero, List.set_cons_succ])
    first
    | (refine wpAnyH_take (i := 6) (oi := _) (v := ?_) (getop rfl) (by kernel_rfl) (by kernel_rfl) (by kernel_rfl) (fun _ _ _ h => h) (Or.inl ⟨by rfl, ?_⟩) (by assumption) ?_; rotate_left; focus (intro w hSw; (try dsimp only at hSw); go_simp; (try with_reducible rfl); done))
    | (refine wpAnyH_take (i := 6) (oi := _) (v := undef) (getop rfl) (by kernel_rfl) (by kernel_rfl) (by kernel_rfl) (fun _ _ _ h => h) (Or.inr ⟨by rfl, rfl⟩) (by assumption) ?_)
    (try simp only [Act.put, List.setIfInBounds_toArray, List.set_cons_zero, List.set_cons_succ])
    refine wpAnyH_take (i := 3) (oi := _) (v := .agg (#[.int .i64 24, .string ⟨#[]⟩, .bool false, .int .i64 0, .string ⟨#[]⟩, .bool false, .int .i64 4096, .slice none 0 0, .int .i64 4096, .int .i64 4096, .slice none 0 0, .int .i64 4096, .int .i64 4096, .int .i64 4096, .int .i64 1, .int .i64 4294967295, .int .i64 65535, .int .i64 16384, .int .i64 4294967295, .slice sA 0 sc, .int .i64 held, .int .i64 told, .int .i64 0, .slice none 0 0, .slice none 0 0, .slice none 0 0, .int .i64 65535, .int .i64 65535, .slice A2 n2 c2, .int .i64 (made + 17), .int .i64 gone, .bool true, .bool false, .bool true, .int .u32 1, .int .i64 now, .int .i64 30] : Array Value)) (getop rfl) (by kernel_rfl) (by kernel_rfl) (by kernel_rfl) (fun _ _ _ h => h) (yieldsIf_load_mid (by rfl) 49 _ rfl g 0 rfl ([.int .i64 24, .string ⟨#[]⟩, .bool false, .int .i64 0, .string ⟨#[]⟩, .bool false, .int .i64 4096, .slice none 0 0, .int .i64 4096, .int .i64 4096, .slice none 0 0, .int .i64 4096, .int .i64 4096, .int .i64 4096, .int .i64 1, .int .i64 4294967295, .int .i64 65535, .int .i64 16384, .int .i64 4294967295, .slice sA 0 sc, .int .i64 held, .int .i64 told, .int .i64 0, .slice none 0 0, .slice none 0 0, .slice none 0 0, .int .i64 65535, .int .i64 65535, .slice A2 n2 c2, .int .i64 (made + 17), .int .i64 gone, .bool true, .bool false, .bool true, .int .u32 1, .int .i64 now, .int .i64 30] : List Value) _ (fun w h => h.1) Tryz.underlying49 rfl size49) (by assumption) ?_
    (try simp only [Act.put, List.setIfInBounds_toArray, List.set_cons_zero, List.set_cons_succ])
    first
    | (refine wpAnyH_take (i := 7) (oi := _) (v := ?_) (getop rfl) (by kernel_rfl) (by kernel_rfl) (by kernel_rfl) (fun _ _ _ h => h) (Or.inl ⟨by rfl, ?_⟩) (by assumption) ?_; rotate_left; focus (intro w hSw; (try dsimp only at hSw); go_simp; (try with_reducible rfl); done))
    | (refine wpAnyH_take (i := 7) (oi := _) (v := undef) (getop rfl) (by kernel_rfl) (by kernel_rfl) (by kernel_rfl) (fun _ _ _ h => h) (Or.inr ⟨by rfl, rfl⟩) (by assumption) ?_)
    (try simp only [Act.put, List.setIfInBounds_toArray, List.set_cons_zero, List.set_cons_succ])
    refine wpAnyH_ready (rs := [8]) (by kernel_rfl) (by simp) ?_
    refine (AllReadyH.cons (o := _) (getop rfl) (fun K hK => ?_) AllReadyH.nil)
    rw [if_pos (by rfl)]
    refine wp_store_mid 49 _ _ rfl (w.heap.size + 1) 0 (#[.int .i64 24, .string ⟨#[]⟩, .bool false, .int .i64 0, .string ⟨#[]⟩, .bool false, .int .i64 4096, .slice none 0 0, .int .i64 4096, .int .i64 4096, .slice none 0 0, .int .i64 4096, .int .i64 4096, .int .i64 4096, .int .i64 1, .int .i64 4294967295, .int .i64 65535, .int .i64 16384, .int .i64 4294967295, .slice sA 0 sc, .int .i64 held, .int .i64 told, .int .i64 0, .slice none 0 0, .slice none 0 0, .slice none 0 0, .int .i64 65535, .int .i64 65535, .slice A2 n2 c2, .int .i64 (made + 17), .int .i64 gone, .bool true, .bool false, .bool true, .int .u32 1, .int .i64 now, .int .i64 30] : Array Value) rfl rfl (blk_there hR 37 rfl) size49 (by kernel_rfl) ?_
    have hKr := Kept.setCells ([.int .i64 24, .string ⟨#[]⟩, .bool false, .int .i64 0, .string ⟨#[]⟩, .bool false, .int .i64 4096, .slice none 0 0, .int .i64 4096, .int .i64 4096, .slice none 0 0, .int .i64 4096, .int .i64 4096, .int .i64 4096, .int .i64 1, .int .i64 4294967295, .int .i64 65535, .int .i64 16384, .int .i64 4294967295, .slice sA 0 sc, .int .i64 held, .int .i64 told, .int .i64 0, .slice none 0 0, .slice none 0 0, .slice none 0 0, .int .i64 65535, .int .i64 65535, .slice A2 n2 c2, .int .i64 (made + 17), .int .i64 gone, .bool true, .bool false, .bool true, .int .u32 1, .int .i64 now, .int .i64 30] : List Value) 0 wd (Kept.refl wd (w.heap.size + 1))
    replace ho := ho.keptT hKr hR (by decide)
    replace hL := lo_cells (Nat.le_succ _) ([.int .i64 24, .string ⟨#[]⟩, .bool false, .int .i64 0, .string ⟨#[]⟩, .bool false, .int .i64 4096, .slice none 0 0, .int .i64 4096, .int .i64 4096, .slice none 0 0, .int .i64 4096, .int .i64 4096, .int .i64 4096, .int .i64 1, .int .i64 4294967295, .int .i64 65535, .int .i64 16384, .int .i64 4294967295, .slice sA 0 sc, .int .i64 held, .int .i64 told, .int .i64 0, .slice none 0 0, .slice none 0 0, .slice none 0 0, .int .i64 65535, .int .i64 65535, .slice A2 n2 c2, .int .i64 (made + 17), .int .i64 gone, .bool true, .bool false, .bool true, .int .u32 1, .int .i64 now, .int .i64 30] : List Value) 0 wd hL
    replace hM := hM.kept hKr (by omega)
    replace hR := hR.setAll (#[.int .i64 24, .string ⟨#[]⟩, .bool false, .int .i64 0, .string ⟨#[]⟩, .bool false, .int .i64 4096, .slice none 0 0, .int .i64 4096, .int .i64 4096, .slice none 0 0, .int .i64 4096, .int .i64 4096, .int .i64 4096, .int .i64 1, .int .i64 4294967295, .int .i64 65535, .int .i64 16384, .int .i64 4294967295, .slice sA 0 sc, .int .i64 held, .int .i64 told, .int .i64 0, .slice none 0 0, .slice none 0 0, .slice none 0 0, .int .i64 65535, .int .i64 65535, .slice A2 n2 c2, .int .i64 (made + 17), .int .i64 gone, .bool true, .bool false, .bool true, .int .u32 1, .int .i64 now, .int .i64 30] : Array Value) rfl
    refine hK.out _ _ ?_ (fun hHeld8 => ?_)
    focus ((try dsimp only); (exact ⟨fun j v hv => blk_range hM ([.int .i64 24, .string ⟨#[]⟩, .bool false, .int .i64 0, .string ⟨#[]⟩, .bool false, .int .i64 4096, .slice none 0 0, .int .i64 4096, .int .i64 4096, .slice none 0 0, .int .i64 4096, .int .i64 4096, .int .i64 4096, .int .i64 1, .int .i64 4294967295, .int .i64 65535, .int .i64 16384, .int .i64 4294967295, .slice sA 0 sc, .int .i64 held, .int .i64 told, .int .i64 0, .slice none 0 0, .slice none 0 0, .slice none 0 0, .int .i64 65535, .int .i64 65535, .slice A2 n2 c2, .int .i64 (made + 17), .int .i64 gone, .bool true, .bool false, .bool true, .int .u32 1, .int .i64 now, .int .i64 30] : List Value) [.slice none 0 0] rfl j v hv, hM.facts.1 37, hM.lt⟩))
    clear hK K hHeld
    have hHeld := hHeld8
    clear hHeld8
    (try simp only [Act.put, List.setIfInBounds_toArray, List.set_cons_zero, List.set_cons_succ])
    first
    | (refine wpAnyH_take (i := 9) (oi := _) (v := ?_) (getop rfl) (by kernel_rfl) (by kernel_rfl) (by kernel_rfl) (fun _ _ _ h => h) (Or.inl ⟨by rfl, ?_⟩) (by assumption) ?_; rotate_left; focus (intro w hSw; (try dsimp only at hSw); go_simp; (try with_reducible rfl); done))
    | (refine wpAnyH_take (i := 9) (oi := _) (v := undef) (getop rfl) (by kernel_rfl) (by kernel_rfl) (by kernel_rfl) (fun _ _ _ h => h) (Or.inr ⟨by rfl, rfl⟩) (by assumption) ?_)
    (try simp only [Act.put, List.setIfInBounds_toArray, List.set_cons_zero, List.set_cons_succ])
    refine wpAnyH_done (by kernel_rfl) ?_ _
    clear hHeld
    go_wp2_with fail
    refine bodyPost_ret (results_big (fn := Tryz.f7) (p := 4) (u := 5) rfl rfl hR Tryz.underlying49 rfl size49) rfl ?_
    exact ⟨A2, n2, c2, l2, rfl, ho, hL⟩
set_option maxRecDepth 100000 in
set_option maxHeartbeats 12800000 in
theorem feed_ackcons (sA : Option Addr) (sc : Nat) (held told : Int) (oA : Option Addr) (on oc : Nat) (ol : List ByteArray) (made gone : Int) (now : Int) (it : It) (l : List It) (b off cap : Nat) (w : World) (hlt : b < w.heap.size) (hc : ∀ j, j < 9 → w.cell? ⟨b, off + j, none⟩ = some (.int .u8 ((([0, 0, 0, 4, 1, 0, 0, 0, 0] : List Int)).getD j 0))) (ho : OutOk w oA on oc ol made gone) (hi : ItsOk w sA (l.length + 1) sc (it :: l)) : Calls Tryz.prog 7 #[.agg #[.int .i64 24, .string ⟨#[]⟩, .bool false, .int .i64 0, .string ⟨#[]⟩, .bool false, .int .i64 4096, .slice none 0 0, .int .i64 4096, .int .i64 4096, .slice none 0 0, .int .i64 4096, .int .i64 4096, .int .i64 4096, .int .i64 1, .int .i64 4294967295, .int .i64 65535, .int .i64 16384, .int .i64 4294967295, .slice sA (l.length + 1) sc, .int .i64 held, .int .i64 told, .int .i64 0, .slice none 0 0, .slice none 0 0, .slice none 0 0, .int .i64 65535, .int .i64 65535, .slice oA on oc, .int .i64 made, .int .i64 gone, .bool true, .bool false, .bool false, .int .u32 0, .int .i64 now, .int .i64 30], .slice (some ⟨b, off, none⟩) 9 cap] w (AckPost w l (fun s => #[.int .i64 24, .string ⟨#[]⟩, .bool false, .int .i64 0, .string ⟨#[]⟩, .bool false, .int .i64 4096, .slice none 0 0, .int .i64 4096, .int .i64 4096, .slice none 0 0, .int .i64 4096, .int .i64 4096, .int .i64 4096, .int .i64 1, .int .i64 4294967295, .int .i64 65535, .int .i64 16384, .int .i64 4294967295, s, .int .i64 it.v, .int .i64 told, .int .i64 0, .slice none 0 0, .slice none 0 0, .slice none 0 0, .int .i64 65535, .int .i64 65535, .slice oA on oc, .int .i64 made, .int .i64 gone, .bool true, .bool false, .bool false, .int .u32 0, .int .i64 now, .int .i64 30])) := by
  have H1 : Hid (∀ W, Calls Tryz.prog 19 #[.agg #[.int .i64 24, .string ⟨#[]⟩, .bool false, .int .i64 0, .string ⟨#[]⟩, .bool false, .int .i64 4096, .slice none 0 0, .int .i64 4096, .int .i64 4096, .slice none 0 0, .int .i64 4096, .int .i64 4096, .int .i64 4096, .int .i64 1, .int .i64 4294967295, .int .i64 65535, .int .i64 16384, .int .i64 4294967295, .slice sA (l.length + 1) sc, .int .i64 held, .int .i64 told, .int .i64 0, .slice none 0 0, .slice none 0 0, .slice none 0 0, .int .i64 65535, .int .i64 65535, .slice oA on oc, .int .i64 made, .int .i64 gone, .bool true, .bool false, .bool false, .int .u32 0, .int .i64 now, .int .i64 30]] W (StartPost W #[.int .i64 24, .string ⟨#[]⟩, .bool false, .int .i64 0, .string ⟨#[]⟩, .bool false, .int .i64 4096, .slice none 0 0, .int .i64 4096, .int .i64 4096, .slice none 0 0, .int .i64 4096, .int .i64 4096, .int .i64 4096, .int .i64 1, .int .i64 4294967295, .int .i64 65535, .int .i64 16384, .int .i64 4294967295, .slice sA (l.length + 1) sc, .int .i64 held, .int .i64 told, .int .i64 0, .slice none 0 0, .slice none 0 0, .slice none 0 0, .int .i64 65535, .int .i64 65535, .slice oA on oc, .int .i64 made, .int .i64 gone, .bool true, .bool false, .bool false, .int .u32 0, .int .i64 now, .int .i64 30, .slice none 0 0])) := Lib.hid fun W => start_any 24 sA (l.length + 1) sc held told oA on oc made gone true false 0 now W
  have H2 : Hid (∀ W, Below w.heap.size w W → Calls Tryz.prog 25 #[.agg #[.int .i64 24, .string ⟨#[]⟩, .bool false], .slice (some ⟨b, off, none⟩) 9 cap] W (FeedPost W 1)) := Lib.hid fun W hb => feed_24 b off cap W (Nat.lt_of_lt_of_le hlt hb.size) fun j hj => by
    rw [(lo_cell hb).1 b _ hlt]
    exact hc j hj
  have H3 : Hid (∀ W g, Blk W g 89 #[.int .i64 24, .string ⟨#[]⟩, .bool false, .int .i64 0, .string ⟨#[]⟩, .bool false, .int .i64 4096, .slice none 0 0, .int .i64 4096, .int .i64 4096, .slice none 0 0, .int .i64 4096, .int .i64 4096, .int .i64 4096, .int .i64 1, .int .i64 4294967295, .int .i64 65535, .int .i64 16384, .int .i64 4294967295, .slice sA (l.length + 1) sc, .int .i64 held, .int .i64 told, .int .i64 0, .slice none 0 0, .slice none 0 0, .slice none 0 0, .int .i64 65535, .int .i64 65535, .slice oA on oc, .int .i64 made, .int .i64 gone, .bool true, .bool false, .bool false, .int .u32 0, .int .i64 now, .int .i64 30, .slice none 0 0] → (OutOk W oA on oc ol made gone ∧ ItsOk W sA (l.length + 1) sc (it :: l)) → Calls Tryz.prog 26 #[.pointer (some ⟨g, 0, none⟩), .agg #[.int .i64 0, .int .u8 4, .int .u8 1, .int .i64 0, .string ⟨#[]⟩]] W (AckedPost W g l (fun s => #[.int .i64 24, .string ⟨#[]⟩, .bool false, .int .i64 0, .string ⟨#[]⟩, .bool false, .int .i64 4096, .slice none 0 0, .int .i64 4096, .int .i64 4096, .slice none 0 0, .int .i64 4096, .int .i64 4096, .int .i64 4096, .int .i64 1, .int .i64 4294967295, .int .i64 65535, .int .i64 16384, .int .i64 4294967295, s, .int .i64 it.v, .int .i64 told, .int .i64 0, .slice none 0 0, .slice none 0 0, .slice none 0 0, .int .i64 65535, .int .i64 65535, .slice oA on oc, .int .i64 made, .int .i64 gone, .bool true, .bool false, .bool false, .int .u32 0, .int .i64 now, .int .i64 30, .slice none 0 0]))) := Lib.hid fun W g h1 h2 => take_1c 24 sA sc held told oA on oc ol made gone now it l g W h1 h2.1 h2.2
  have HO := Lib.hid (And.intro ho hi)
  clear ho hi
  clear hc
  have hB := Blk.new w 49 #[.int .i64 24, .string ⟨#[]⟩, .bool false, .int .i64 0, .string ⟨#[]⟩, .bool false, .int .i64 4096, .slice none 0 0, .int .i64 4096, .int .i64 4096, .slice none 0 0, .int .i64 4096, .int .i64 4096, .int .i64 4096, .int .i64 1, .int .i64 4294967295, .int .i64 65535, .int .i64 16384, .int .i64 4294967295, .slice sA (l.length + 1) sc, .int .i64 held, .int .i64 told, .int .i64 0, .slice none 0 0, .slice none 0 0, .slice none 0 0, .int .i64 65535, .int .i64 65535, .slice oA on oc, .int .i64 made, .int .i64 gone, .bool true, .bool false, .bool false, .int .u32 0, .int .i64 now, .int .i64 30]
  have hL := lo_alloc (lo_refl w) (.cells #[.int .i64 24, .string ⟨#[]⟩, .bool false, .int .i64 0, .string ⟨#[]⟩, .bool false, .int .i64 4096, .slice none 0 0, .int .i64 4096, .int .i64 4096, .slice none 0 0, .int .i64 4096, .int .i64 4096, .int .i64 4096, .int .i64 1, .int .i64 4294967295, .int .i64 65535, .int .i64 16384, .int .i64 4294967295, .slice sA (l.length + 1) sc, .int .i64 held, .int .i64 told, .int .i64 0, .slice none 0 0, .slice none 0 0, .slice none 0 0, .int .i64 65535, .int .i64 65535, .slice oA on oc, .int .i64 made, .int .i64 gone, .bool true, .bool false, .bool false, .int .u32 0, .int .i64 now, .int .i64 30] 49)
  have hR := Blk.new (w.alloc (.cells #[.int .i64 24, .string ⟨#[]⟩, .bool false, .int .i64 0, .string ⟨#[]⟩, .bool false, .int .i64 4096, .slice none 0 0, .int .i64 4096, .int .i64 4096, .slice none 0 0, .int .i64 4096, .int .i64 4096, .int .i64 4096, .int .i64 1, .int .i64 4294967295, .int .i64 65535, .int .i64 16384, .int .i64 4294967295, .slice sA (l.length + 1) sc, .int .i64 held, .int .i64 told, .int .i64 0, .slice none 0 0, .slice none 0 0, .slice none 0 0, .int .i64 65535, .int .i64 65535, .slice oA on oc, .int .i64 made, .int .i64 gone, .bool true, .bool false, .bool false, .int .u32 0, .int .i64 now, .int .i64 30] 49)) 49 #[.int .i64 0, .string ⟨#[]⟩, .bool false, .int .i64 0, .string ⟨#[]⟩, .bool false, .int .i64 0, .slice none 0 0, .int .i64 0, .int .i64 0, .slice none 0 0, .int .i64 0, .int .i64 0, .int .i64 0, .int .i64 0, .int .i64 0, .int .i64 0, .int .i64 0, .int .i64 0, .slice none 0 0, .int .i64 0, .int .i64 0, .int .i64 0, .slice none 0 0, .slice none 0 0, .slice none 0 0, .int .i64 0, .int .i64 0, .slice none 0 0, .int .i64 0, .int .i64 0, .bool false, .bool false, .bool false, .int .u32 0, .int .i64 0, .int .i64 0]
  replace hB := hB.alloc (.cells #[.int .i64 0, .string ⟨#[]⟩, .bool false, .int .i64 0, .string ⟨#[]⟩, .bool false, .int .i64 0, .slice none 0 0, .int .i64 0, .int .i64 0, .slice none 0 0, .int .i64 0, .int .i64 0, .int .i64 0, .int .i64 0, .int .i64 0, .int .i64 0, .int .i64 0, .int .i64 0, .slice none 0 0, .int .i64 0, .int .i64 0, .int .i64 0, .slice none 0 0, .slice none 0 0, .slice none 0 0, .int .i64 0, .int .i64 0, .slice none 0 0, .int .i64 0, .int .i64 0, .bool false, .bool false, .bool false, .int .u32 0, .int .i64 0, .int .i64 0] 49)
  replace hL := lo_alloc hL (.cells #[.int .i64 0, .string ⟨#[]⟩, .bool false, .int .i64 0, .string ⟨#[]⟩, .bool false, .int .i64 0, .slice none 0 0, .int .i64 0, .int .i64 0, .slice none 0 0, .int .i64 0, .int .i64 0, .int .i64 0, .int .i64 0, .int .i64 0, .int .i64 0, .int .i64 0, .int .i64 0, .slice none 0 0, .int .i64 0, .int .i64 0, .int .i64 0, .slice none 0 0, .slice none 0 0, .slice none 0 0, .int .i64 0, .int .i64 0, .slice none 0 0, .int .i64 0, .int .i64 0, .bool false, .bool false, .bool false, .int .u32 0, .int .i64 0, .int .i64 0] 49)
  simp only [World.size_alloc] at hR
  obtain ⟨cB, fB⟩ := hB.facts
  have c33 : ((w.alloc (.cells #[.int .i64 24, .string ⟨#[]⟩, .bool false, .int .i64 0, .string ⟨#[]⟩, .bool false, .int .i64 4096, .slice none 0 0, .int .i64 4096, .int .i64 4096, .slice none 0 0, .int .i64 4096, .int .i64 4096, .int .i64 4096, .int .i64 1, .int .i64 4294967295, .int .i64 65535, .int .i64 16384, .int .i64 4294967295, .slice sA (l.length + 1) sc, .int .i64 held, .int .i64 told, .int .i64 0, .slice none 0 0, .slice none 0 0, .slice none 0 0, .int .i64 65535, .int .i64 65535, .slice oA on oc, .int .i64 made, .int .i64 gone, .bool true, .bool false, .bool false, .int .u32 0, .int .i64 now, .int .i64 30] 49)).alloc (.cells #[.int .i64 0, .string ⟨#[]⟩, .bool false, .int .i64 0, .string ⟨#[]⟩, .bool false, .int .i64 0, .slice none 0 0, .int .i64 0, .int .i64 0, .slice none 0 0, .int .i64 0, .int .i64 0, .int .i64 0, .int .i64 0, .int .i64 0, .int .i64 0, .int .i64 0, .int .i64 0, .slice none 0 0, .int .i64 0, .int .i64 0, .int .i64 0, .slice none 0 0, .slice none 0 0, .slice none 0 0, .int .i64 0, .int .i64 0, .slice none 0 0, .int .i64 0, .int .i64 0, .bool false, .bool false, .bool false, .int .u32 0, .int .i64 0, .int .i64 0] 49)).cell? ⟨w.heap.size, 33, none⟩ = some (.bool false) := by rw [cB]; rfl
  clear cB fB
  go_enter Tryz.func7, Tryz.ntmps7
  go_upto_region 3 with fail
  clear c33
  generalize (w.alloc (.cells #[.int .i64 24, .string ⟨#[]⟩, .bool false, .int .i64 0, .string ⟨#[]⟩, .bool false, .int .i64 4096, .slice none 0 0, .int .i64 4096, .int .i64 4096, .slice none 0 0, .int .i64 4096, .int .i64 4096, .int .i64 4096, .int .i64 1, .int .i64 4294967295, .int .i64 65535, .int .i64 16384, .int .i64 4294967295, .slice sA (l.length + 1) sc, .int .i64 held, .int .i64 told, .int .i64 0, .slice none 0 0, .slice none 0 0, .slice none 0 0, .int .i64 65535, .int .i64 65535, .slice oA on oc, .int .i64 made, .int .i64 gone, .bool true, .bool false, .bool false, .int .u32 0, .int .i64 now, .int .i64 30] 49)).alloc (.cells #[.int .i64 0, .string ⟨#[]⟩, .bool false, .int .i64 0, .string ⟨#[]⟩, .bool false, .int .i64 0, .slice none 0 0, .int .i64 0, .int .i64 0, .slice none 0 0, .int .i64 0, .int .i64 0, .int .i64 0, .int .i64 0, .int .i64 0, .int .i64 0, .int .i64 0, .int .i64 0, .slice none 0 0, .int .i64 0, .int .i64 0, .int .i64 0, .slice none 0 0, .slice none 0 0, .slice none 0 0, .int .i64 0, .int .i64 0, .slice none 0 0, .int .i64 0, .int .i64 0, .bool false, .bool false, .bool false, .int .u32 0, .int .i64 0, .int .i64 0] 49) = w2 at hB hR hL ⊢
  have hrg := blk_range hB [.int .i64 24, .string ⟨#[]⟩, .bool false, .int .i64 0, .string ⟨#[]⟩, .bool false, .int .i64 4096, .slice none 0 0, .int .i64 4096, .int .i64 4096, .slice none 0 0, .int .i64 4096, .int .i64 4096, .int .i64 4096, .int .i64 1, .int .i64 4294967295, .int .i64 65535, .int .i64 16384, .int .i64 4294967295, .slice sA (l.length + 1) sc, .int .i64 held, .int .i64 told, .int .i64 0, .slice none 0 0, .slice none 0 0, .slice none 0 0, .int .i64 65535, .int .i64 65535, .slice oA on oc, .int .i64 made, .int .i64 gone, .bool true, .bool false, .bool false, .int .u32 0, .int .i64 now, .int .i64 30] [] rfl
  go_wp2_with (refine wpList_load_mid rfl 49 _ rfl (w.heap.size) 0 rfl [.int .i64 24, .string ⟨#[]⟩, .bool false, .int .i64 0, .string ⟨#[]⟩, .bool false, .int .i64 4096, .slice none 0 0, .int .i64 4096, .int .i64 4096, .slice none 0 0, .int .i64 4096, .int .i64 4096, .int .i64 4096, .int .i64 1, .int .i64 4294967295, .int .i64 65535, .int .i64 16384, .int .i64 4294967295, .slice sA (l.length + 1) sc, .int .i64 held, .int .i64 told, .int .i64 0, .slice none 0 0, .slice none 0 0, .slice none 0 0, .int .i64 65535, .int .i64 65535, .slice oA on oc, .int .i64 made, .int .i64 gone, .bool true, .bool false, .bool false, .int .u32 0, .int .i64 now, .int .i64 30] _ hrg Tryz.underlying49 rfl size49 ?_)
  refine (H1.out _).mono ?_
  rintro e w3 ⟨g, rfl, hM, hg, hb⟩
  clear hrg hB H1
  have hgR : w.heap.size + 2 ≤ g := by have := hR.lt; omega
  replace hR := hR.lo hb
  replace hL := lo_trans hL hb
  clear hb hg
  obtain ⟨cM, fM⟩ := hM.facts
  have lM := hM.lt
  go_wp2_with fail
  refine (H2.out _ hL).mono ?_
  rintro e w4 ⟨A1, c1, rfl, hown, hb⟩
  clear cM fM lM H2
  replace hM := hM.lo hb
  replace hR := hR.lo hb
  replace hL := lo_trans hL hb
  clear hb
  have h7 := Blk.new w4 25 #[.int .i64 24, .string ⟨#[]⟩, .bool false]
  go_upto_region 5 with fail
  replace hM := hM.alloc (.cells #[.int .i64 24, .string ⟨#[]⟩, .bool false] 25)
  replace hR := hR.alloc (.cells #[.int .i64 24, .string ⟨#[]⟩, .bool false] 25)
  replace hown := hown.alloc (.cells #[.int .i64 24, .string ⟨#[]⟩, .bool false] 25)
  replace hL := lo_alloc hL (.cells #[.int .i64 24, .string ⟨#[]⟩, .bool false] 25)
  generalize w4.heap.size = g7 at h7 ⊢
  generalize w4.alloc (.cells #[.int .i64 24, .string ⟨#[]⟩, .bool false] 25) = w5 at h7 hM hR hown hL ⊢
  obtain ⟨c7, f7⟩ := h7.facts
  obtain ⟨cM, fM⟩ := hM.facts
  have lM := hM.lt
  go_upto_region 6 with fail
  clear c7 f7 cM fM lM h7
  have hK3 := (((Kept.refl w5 g).set 0 (.int .i64 24)).set 1 (.string ⟨#[]⟩)).set 2 (.bool false)
  replace hR := hR.kept hK3 (by omega)
  replace hown := own_far (own_far (own_far hown (p := ⟨g, 0, none⟩) (blk_ne_own hown hM (by decide)) (.int .i64 24)) (p := ⟨g, 1, none⟩) (blk_ne_own hown hM (by decide)) (.string ⟨#[]⟩)) (p := ⟨g, 2, none⟩) (blk_ne_own hown hM (by decide)) (.bool false)
  replace hL := (lo_set (lo_set (lo_set hL (p := ⟨g, 0, none⟩) (show w.heap.size ≤ g by omega) (.int .i64 24)) (p := ⟨g, 1, none⟩) (show w.heap.size ≤ g by omega) (.string ⟨#[]⟩)) (p := ⟨g, 2, none⟩) (show w.heap.size ≤ g by omega) (.bool false))
  replace hM := (((hM.set_ 0 (.int .i64 24)).set_ 1 (.string ⟨#[]⟩)).set_ 2 (.bool false))
  simp only [List.setIfInBounds_toArray, List.set_cons_zero, List.set_cons_succ] at hM
  clear hK3
  generalize (((w5.setCell ⟨g, 0, none⟩ (.int .i64 24)).setCell ⟨g, 1, none⟩ (.string ⟨#[]⟩)).setCell ⟨g, 2, none⟩ (.bool false)) = w6 at hM hR hown hL ⊢
  go_wp2_with fail
  go_loopw [11, 35] (fun _ y wr => (y = .int .i64 0 ∧ Blk wr g 89 #[.int .i64 24, .string ⟨#[]⟩, .bool false, .int .i64 0, .string ⟨#[]⟩, .bool false, .int .i64 4096, .slice none 0 0, .int .i64 4096, .int .i64 4096, .slice none 0 0, .int .i64 4096, .int .i64 4096, .int .i64 4096, .int .i64 1, .int .i64 4294967295, .int .i64 65535, .int .i64 16384, .int .i64 4294967295, .slice sA (l.length + 1) sc, .int .i64 held, .int .i64 told, .int .i64 0, .slice none 0 0, .slice none 0 0, .slice none 0 0, .int .i64 65535, .int .i64 65535, .slice oA on oc, .int .i64 made, .int .i64 gone, .bool true, .bool false, .bool false, .int .u32 0, .int .i64 now, .int .i64 30, .slice none 0 0] ∧ wr.ownsRow w3.heap.size 99 5 (.slice A1 1 c1) 1 [.int .i64 0, .int .u8 4, .int .u8 1, .int .i64 0, .string ⟨#[]⟩] ∧ Blk wr (w.heap.size + 1) 49 #[.int .i64 0, .string ⟨#[]⟩, .bool false, .int .i64 0, .string ⟨#[]⟩, .bool false, .int .i64 0, .slice none 0 0, .int .i64 0, .int .i64 0, .slice none 0 0, .int .i64 0, .int .i64 0, .int .i64 0, .int .i64 0, .int .i64 0, .int .i64 0, .int .i64 0, .int .i64 0, .slice none 0 0, .int .i64 0, .int .i64 0, .int .i64 0, .slice none 0 0, .slice none 0 0, .slice none 0 0, .int .i64 0, .int .i64 0, .slice none 0 0, .int .i64 0, .int .i64 0, .bool false, .bool false, .bool false, .int .u32 0, .int .i64 0, .int .i64 0] ∧ Below w.heap.size w wr) ∨ (y = .int .i64 1 ∧ (∃ A2 c2, Blk wr g 89 #[.int .i64 24, .string ⟨#[]⟩, .bool false, .int .i64 0, .string ⟨#[]⟩, .bool false, .int .i64 4096, .slice none 0 0, .int .i64 4096, .int .i64 4096, .slice none 0 0, .int .i64 4096, .int .i64 4096, .int .i64 4096, .int .i64 1, .int .i64 4294967295, .int .i64 65535, .int .i64 16384, .int .i64 4294967295, .slice A2 l.length c2, .int .i64 it.v, .int .i64 told, .int .i64 0, .slice none 0 0, .slice none 0 0, .slice none 0 0, .int .i64 65535, .int .i64 65535, .slice oA on oc, .int .i64 made, .int .i64 gone, .bool true, .bool false, .bool false, .int .u32 0, .int .i64 now, .int .i64 30, .slice none 0 0] ∧ ItsOk wr A2 l.length c2 l) ∧ Blk wr (w.heap.size + 1) 49 #[.int .i64 0, .string ⟨#[]⟩, .bool false, .int .i64 0, .string ⟨#[]⟩, .bool false, .int .i64 0, .slice none 0 0, .int .i64 0, .int .i64 0, .slice none 0 0, .int .i64 0, .int .i64 0, .int .i64 0, .int .i64 0, .int .i64 0, .int .i64 0, .int .i64 0, .int .i64 0, .slice none 0 0, .int .i64 0, .int .i64 0, .int .i64 0, .slice none 0 0, .slice none 0 0, .slice none 0 0, .int .i64 0, .int .i64 0, .slice none 0 0, .int .i64 0, .int .i64 0, .bool false, .bool false, .bool false, .int .u32 0, .int .i64 0, .int .i64 0] ∧ Below w.heap.size w wr)) (fun _ y _ => 1 - (intOf y).toNat)
  case atStart => exact .inl ⟨rfl, hM, hown, hR, hL⟩
  case round =>
  clear hM hown hR hL
  obtain ⟨rfl, hM, hown, hR, hL⟩ | ⟨rfl, ⟨A2, c2, hM, hI⟩, hR, hL⟩ := hrel
  · obtain ⟨a1, rfl⟩ : ∃ a, A1 = some a := by
      rcases hown.2 with ⟨he, h0⟩ | ⟨q, _, _, he, _⟩
      · cases h0
      · injection he with he
        exact ⟨_, he⟩
    obtain ⟨b1, cur, rfl, hb1, hT, hc1, _, hcs, htk⟩ := own_blk hown
    have hq : ∀ j, j < 5 → wr.cell? ⟨b1, j, none⟩ = ([.int .i64 0, .int .u8 4, .int .u8 1, .int .i64 0, .string ⟨#[]⟩] : List Value)[j]? := fun j hj => by
      rw [hT.facts.1, ← htk, List.getElem?_take, if_pos (by omega), Array.getElem?_toList]
    have q0 : wr.cell? ⟨b1, 0, none⟩ = some (.int .i64 0) := hq 0 (by decide)
    have q1 : wr.cell? ⟨b1, 1, none⟩ = some (.int .u8 4) := hq 1 (by decide)
    have q2 : wr.cell? ⟨b1, 2, none⟩ = some (.int .u8 1) := hq 2 (by decide)
    have q3 : wr.cell? ⟨b1, 3, none⟩ = some (.int .i64 0) := hq 3 (by decide)
    have q4 : wr.cell? ⟨b1, 4, none⟩ = some (.string ⟨#[]⟩) := hq 4 (by decide)
    have lT := hT.lt
    clear hq hT htk hown hcs hc1
    have h11 := Blk.new wr 99 #[.int .i64 0, .int .u8 4, .int .u8 1, .int .i64 0, .string ⟨#[]⟩]
    go_upto_region 9 with fail
    clear q0 q1 q2 q3 q4 lT
    replace hM := hM.alloc (.cells #[.int .i64 0, .int .u8 4, .int .u8 1, .int .i64 0, .string ⟨#[]⟩] 99)
    replace hR := hR.alloc (.cells #[.int .i64 0, .int .u8 4, .int .u8 1, .int .i64 0, .string ⟨#[]⟩] 99)
    replace hL := lo_alloc hL (.cells #[.int .i64 0, .int .u8 4, .int .u8 1, .int .i64 0, .string ⟨#[]⟩] 99)
    generalize wr.heap.size = g11 at h11 ⊢
    generalize wr.alloc (.cells #[.int .i64 0, .int .u8 4, .int .u8 1, .int .i64 0, .string ⟨#[]⟩] 99) = w7 at h11 hM hR hL ⊢
    obtain ⟨c11, f11⟩ := h11.facts
    obtain ⟨cM, fM⟩ := hM.facts
    have lM := hM.lt
    go_wp2_with fail
    refine (H3.out _ _ hM ⟨HO.out.1.lo hL, HO.out.2.lo hL⟩).mono ?_
    rintro e w8 ⟨A2, c2, rfl, hI2, hM2, hKt⟩
    clear c11 f11 cM fM lM h11 hM
    replace hL := kept_lo hL hKt (by omega)
    replace hR := hR.kept hKt (by omega)
    go_wp2_with fail
    refine (pump_any _ _ _ _ _ _ _ _ _ _ _ _ _ _ _ g _ hM2).mono ?_
    rintro e w9 ⟨rfl, rfl⟩
    go_wp2_with fail
    go_roundw
    case rel => exact .inr ⟨rfl, ⟨A2, c2, hM2, hI2⟩, hR, hL⟩
    case measure => simp [intOf]
  · go_upto_region 15 with fail
    refine wp_region_held_drew (S := (fun W => W.rangeAt g 0 ([.int .i64 24, .string ⟨#[]⟩, .bool false, .int .i64 0, .string ⟨#[]⟩, .bool false, .int .i64 4096, .slice none 0 0, .int .i64 4096, .int .i64 4096, .slice none 0 0, .int .i64 4096, .int .i64 4096, .int .i64 4096, .int .i64 1, .int .i64 4294967295, .int .i64 65535, .int .i64 16384, .int .i64 4294967295, .slice A2 l.length c2, .int .i64 it.v, .int .i64 told, .int .i64 0, .slice none 0 0, .slice none 0 0, .slice none 0 0, .int .i64 65535, .int .i64 65535, .slice oA on oc, .int .i64 made, .int .i64 gone, .bool true, .bool false, .bool false, .int .u32 0, .int .i64 now, .int .i64 30] : List Value) ∧ W.cell? ⟨g, 37, none⟩ = some (.slice none 0 0) ∧ g < W.heap.size)) (by kernel_rfl) ?_ (fun hHeld => ?_)
    focus ((try dsimp only); (exact ⟨fun j v hv => blk_range hM ([.int .i64 24, .string ⟨#[]⟩, .bool false, .int .i64 0, .string ⟨#[]⟩, .bool false, .int .i64 4096, .slice none 0 0, .int .i64 4096, .int .i64 4096, .slice none 0 0, .int .i64 4096, .int .i64 4096, .int .i64 4096, .int .i64 1, .int .i64 4294967295, .int .i64 65535, .int .i64 16384, .int .i64 4294967295, .slice A2 l.length c2, .int .i64 it.v, .int .i64 told, .int .i64 0, .slice none 0 0, .slice none 0 0, .slice none 0 0, .int .i64 65535, .int .i64 65535, .slice oA on oc, .int .i64 made, .int .i64 gone, .bool true, .bool false, .bool false, .int .u32 0, .int .i64 now, .int .i64 30] : List Value) [.slice none 0 0] rfl j v hv, hM.facts.1 37, hM.lt⟩))
    replace hM : Blk wr.drew _ _ _ := hM
    replace hR : Blk wr.drew _ _ _ := hR
    replace hL := lo_drew hL
    replace hI := hI.lo (lo_drew (lo_refl wr))
    generalize wr.drew = wd at hM hR hL hI hHeld ⊢
    first
    | (refine wpAnyH_take (i := 0) (oi := _) (v := ?_) (getop rfl) (by kernel_rfl) (by kernel_rfl) (by kernel_rfl) (fun _ _ _ h => h) (Or.inl ⟨by rfl, ?_⟩) (by assumption) ?_; rotate_left; focus (intro w hSw; (try dsimp only at hSw); go_simp; (try with_reducible rfl); done))
    | (refine wpAnyH_take (i := 0) (oi := _) (v := undef) (getop rfl) (by kernel_rfl) (by kernel_rfl) (by kernel_rfl) (fun _ _ _ h => h) (Or.inr ⟨by rfl, rfl⟩) (by assumption) ?_)
    (try simp only [Act.put, List.setIfInBounds_toArray, List.set_cons_zero, List.set_cons_succ])
    first
    | (refine wpAnyH_take (i := 4) (oi := _) (v := ?_) (getop rfl) (by kernel_rfl) (by kernel_rfl) (by kernel_rfl) (fun _ _ _ h => h) (Or.inl ⟨by rfl, ?_⟩) (by assumption) ?_; rotate_left; focus (intro w hSw; (try dsimp only at hSw); go_simp; (try with_reducible rfl); done))
    | (refine wpAnyH_take (i := 4) (oi := _) (v := undef) (getop rfl) (by kernel_rfl) (by kernel_rfl) (by kernel_rfl) (fun _ _ _ h => h) (Or.inr ⟨by rfl, rfl⟩) (by assumption) ?_)
    (try simp only [Act.put, List.setIfInBounds_toArray, List.set_cons_zero, List.set_cons_succ])
    first
    | (refine wpAnyH_take (i := 1) (oi := _) (v := ?_) (getop rfl) (by kernel_rfl) (by kernel_rfl) (by kernel_rfl) (fun _ _ _ h => h) (Or.inl ⟨by rfl, ?_⟩) (by assumption) ?_; rotate_left; focus (intro w hSw; (try dsimp only at hSw); go_simp; (try with_reducible rfl); done))
    | (refine wpAnyH_take (i := 1) (oi := _) (v := undef) (getop rfl) (by kernel_rfl) (by kernel_rfl) (by kernel_rfl) (fun _ _ _ h => h) (Or.inr ⟨by rfl, rfl⟩) (by assumption) ?_)
    (try simp only [Act.put, List.setIfInBounds_toArray, List.set_cons_zero, List.set_cons_succ])
    first
    | (refine wpAnyH_take (i := 5) (oi := _) (v := ?_) (getop rfl) (by kernel_rfl) (by kernel_rfl) (by kernel_rfl) (fun _ _ _ h => h) (Or.inl ⟨by rfl, ?_⟩) (by assumption) ?_; rotate_left; focus (intro w hSw; (try dsimp only at hSw); go_simp; (try with_reducible rfl); done))
    | (refine wpAnyH_take (i := 5) (oi := _) (v := undef) (getop rfl) (by kernel_rfl) (by kernel_rfl) (by kernel_rfl) (fun _ _ _ h => h) (Or.inr ⟨by rfl, rfl⟩) (by assumption) ?_)
    (try simp only [Act.put, List.setIfInBounds_toArray, List.set_cons_zero, List.set_cons_succ])
    first
    | (refine wpAnyH_take (i := 2) (oi := _) (v := ?_) (getop rfl) (by kernel_rfl) (by kernel_rfl) (by kernel_rfl) (fun _ _ _ h => h) (Or.inl ⟨by rfl, ?_⟩) (by assumption) ?_; rotate_left; focus (intro w hSw; (try dsimp only at hSw); go_simp; (try with_reducible rfl); done))
    | (refine wpAnyH_take (i := 2) (oi := _) (v := undef) (getop rfl) (by kernel_rfl) (by kernel_rfl) (by kernel_rfl) (fun _ _ _ h => h) (Or.inr ⟨by rfl, rfl⟩) (by assumption) ?_)
    (try simp only [Act.put, List.setIfInBounds_toArray, List.set_cons_zero, List.set_cons_succ])
    first
    | (refine wpAnyH_take (i := 6) (oi := _) (v := ?_) (getop rfl) (by kernel_rfl) (by kernel_rfl) (by kernel_rfl) (fun _ _ _ h => h) (Or.inl ⟨by rfl, ?_⟩) (by assumption) ?_; rotate_left; focus (intro w hSw; (try dsimp only at hSw); go_simp; (try with_reducible rfl); done))
    | (refine wpAnyH_take (i := 6) (oi := _) (v := undef) (getop rfl) (by kernel_rfl) (by kernel_rfl) (by kernel_rfl) (fun _ _ _ h => h) (Or.inr ⟨by rfl, rfl⟩) (by assumption) ?_)
    (try simp only [Act.put, List.setIfInBounds_toArray, List.set_cons_zero, List.set_cons_succ])
    refine wpAnyH_take (i := 3) (oi := _) (v := .agg (#[.int .i64 24, .string ⟨#[]⟩, .bool false, .int .i64 0, .string ⟨#[]⟩, .bool false, .int .i64 4096, .slice none 0 0, .int .i64 4096, .int .i64 4096, .slice none 0 0, .int .i64 4096, .int .i64 4096, .int .i64 4096, .int .i64 1, .int .i64 4294967295, .int .i64 65535, .int .i64 16384, .int .i64 4294967295, .slice A2 l.length c2, .int .i64 it.v, .int .i64 told, .int .i64 0, .slice none 0 0, .slice none 0 0, .slice none 0 0, .int .i64 65535, .int .i64 65535, .slice oA on oc, .int .i64 made, .int .i64 gone, .bool true, .bool false, .bool false, .int .u32 0, .int .i64 now, .int .i64 30] : Array Value)) (getop rfl) (by kernel_rfl) (by kernel_rfl) (by kernel_rfl) (fun _ _ _ h => h) (yieldsIf_load_mid (by rfl) 49 _ rfl g 0 rfl ([.int .i64 24, .string ⟨#[]⟩, .bool false, .int .i64 0, .string ⟨#[]⟩, .bool false, .int .i64 4096, .slice none 0 0, .int .i64 4096, .int .i64 4096, .slice none 0 0, .int .i64 4096, .int .i64 4096, .int .i64 4096, .int .i64 1, .int .i64 4294967295, .int .i64 65535, .int .i64 16384, .int .i64 4294967295, .slice A2 l.length c2, .int .i64 it.v, .int .i64 told, .int .i64 0, .slice none 0 0, .slice none 0 0, .slice none 0 0, .int .i64 65535, .int .i64 65535, .slice oA on oc, .int .i64 made, .int .i64 gone, .bool true, .bool false, .bool false, .int .u32 0, .int .i64 now, .int .i64 30] : List Value) _ (fun w h => h.1) Tryz.underlying49 rfl size49) (by assumption) ?_
    (try simp only [Act.put, List.setIfInBounds_toArray, List.set_cons_zero, List.set_cons_succ])
    first
    | (refine wpAnyH_take (i := 7) (oi := _) (v := ?_) (getop rfl) (by kernel_rfl) (by kernel_rfl) (by kernel_rfl) (fun _ _ _ h => h) (Or.inl ⟨by rfl, ?_⟩) (by assumption) ?_; rotate_left; focus (intro w hSw; (try dsimp only at hSw); go_simp; (try with_reducible rfl); done))
    | (refine wpAnyH_take (i := 7) (oi := _) (v := undef) (getop rfl) (by kernel_rfl) (by kernel_rfl) (by kernel_rfl) (fun _ _ _ h => h) (Or.inr ⟨by rfl, rfl⟩) (by assumption) ?_)
    (try simp only [Act.put, List.setIfInBounds_toArray, List.set_cons_zero, List.set_cons_succ])
    refine wpAnyH_ready (rs := [8]) (by kernel_rfl) (by simp) ?_
    refine (AllReadyH.cons (o := _) (getop rfl) (fun K hK => ?_) AllReadyH.nil)
    rw [if_pos (by rfl)]
    refine wp_store_mid 49 _ _ rfl (w.heap.size + 1) 0 (#[.int .i64 24, .string ⟨#[]⟩, .bool false, .int .i64 0, .string ⟨#[]⟩, .bool false, .int .i64 4096, .slice none 0 0, .int .i64 4096, .int .i64 4096, .slice none 0 0, .int .i64 4096, .int .i64 4096, .int .i64 4096, .int .i64 1, .int .i64 4294967295, .int .i64 65535, .int .i64 16384, .int .i64 4294967295, .slice A2 l.length c2, .int .i64 it.v, .int .i64 told, .int .i64 0, .slice none 0 0, .slice none 0 0, .slice none 0 0, .int .i64 65535, .int .i64 65535, .slice oA on oc, .int .i64 made, .int .i64 gone, .bool true, .bool false, .bool false, .int .u32 0, .int .i64 now, .int .i64 30] : Array Value) rfl rfl (blk_there hR 37 rfl) size49 (by kernel_rfl) ?_
    have hKr := Kept.setCells ([.int .i64 24, .string ⟨#[]⟩, .bool false, .int .i64 0, .string ⟨#[]⟩, .bool false, .int .i64 4096, .slice none 0 0, .int .i64 4096, .int .i64 4096, .slice none 0 0, .int .i64 4096, .int .i64 4096, .int .i64 4096, .int .i64 1, .int .i64 4294967295, .int .i64 65535, .int .i64 16384, .int .i64 4294967295, .slice A2 l.length c2, .int .i64 it.v, .int .i64 told, .int .i64 0, .slice none 0 0, .slice none 0 0, .slice none 0 0, .int .i64 65535, .int .i64 65535, .slice oA on oc, .int .i64 made, .int .i64 gone, .bool true, .bool false, .bool false, .int .u32 0, .int .i64 now, .int .i64 30] : List Value) 0 wd (Kept.refl wd (w.heap.size + 1))
    replace hI := hI.keptT hKr hR (by decide) (by decide)
    replace hL := lo_cells (Nat.le_succ _) ([.int .i64 24, .string ⟨#[]⟩, .bool false, .int .i64 0, .string ⟨#[]⟩, .bool false, .int .i64 4096, .slice none 0 0, .int .i64 4096, .int .i64 4096, .slice none 0 0, .int .i64 4096, .int .i64 4096, .int .i64 4096, .int .i64 1, .int .i64 4294967295, .int .i64 65535, .int .i64 16384, .int .i64 4294967295, .slice A2 l.length c2, .int .i64 it.v, .int .i64 told, .int .i64 0, .slice none 0 0, .slice none 0 0, .slice none 0 0, .int .i64 65535, .int .i64 65535, .slice oA on oc, .int .i64 made, .int .i64 gone, .bool true, .bool false, .bool false, .int .u32 0, .int .i64 now, .int .i64 30] : List Value) 0 wd hL
    replace hM := hM.kept hKr (by omega)
    replace hR := hR.setAll (#[.int .i64 24, .string ⟨#[]⟩, .bool false, .int .i64 0, .string ⟨#[]⟩, .bool false, .int .i64 4096, .slice none 0 0, .int .i64 4096, .int .i64 4096, .slice none 0 0, .int .i64 4096, .int .i64 4096, .int .i64 4096, .int .i64 1, .int .i64 4294967295, .int .i64 65535, .int .i64 16384, .int .i64 4294967295, .slice A2 l.length c2, .int .i64 it.v, .int .i64 told, .int .i64 0, .slice none 0 0, .slice none 0 0, .slice none 0 0, .int .i64 65535, .int .i64 65535, .slice oA on oc, .int .i64 made, .int .i64 gone, .bool true, .bool false, .bool false, .int .u32 0, .int .i64 now, .int .i64 30] : Array Value) rfl
    refine hK.out _ _ ?_ (fun hHeld8 => ?_)
    focus ((try dsimp only); (exact ⟨fun j v hv => blk_range hM ([.int .i64 24, .string ⟨#[]⟩, .bool false, .int .i64 0, .string ⟨#[]⟩, .bool false, .int .i64 4096, .slice none 0 0, .int .i64 4096, .int .i64 4096, .slice none 0 0, .int .i64 4096, .int .i64 4096, .int .i64 4096, .int .i64 1, .int .i64 4294967295, .int .i64 65535, .int .i64 16384, .int .i64 4294967295, .slice A2 l.length c2, .int .i64 it.v, .int .i64 told, .int .i64 0, .slice none 0 0, .slice none 0 0, .slice none 0 0, .int .i64 65535, .int .i64 65535, .slice oA on oc, .int .i64 made, .int .i64 gone, .bool true, .bool false, .bool false, .int .u32 0, .int .i64 now, .int .i64 30] : List Value) [.slice none 0 0] rfl j v hv, hM.facts.1 37, hM.lt⟩))
    clear hK K hHeld
    have hHeld := hHeld8
    clear hHeld8
    (try simp only [Act.put, List.setIfInBounds_toArray, List.set_cons_zero, List.set_cons_succ])
    first
    | (refine wpAnyH_take (i := 9) (oi := _) (v := ?_) (getop rfl) (by kernel_rfl) (by kernel_rfl) (by kernel_rfl) (fun _ _ _ h => h) (Or.inl ⟨by rfl, ?_⟩) (by assumption) ?_; rotate_left; focus (intro w hSw; (try dsimp only at hSw); go_simp; (try with_reducible rfl); done))
    | (refine wpAnyH_take (i := 9) (oi := _) (v := undef) (getop rfl) (by kernel_rfl) (by kernel_rfl) (by kernel_rfl) (fun _ _ _ h => h) (Or.inr ⟨by rfl, rfl⟩) (by assumption) ?_)
    (try simp only [Act.put, List.setIfInBounds_toArray, List.set_cons_zero, List.set_cons_succ])
    refine wpAnyH_done (by kernel_rfl) ?_ _
    clear hHeld
    go_wp2_with fail
    refine bodyPost_ret (results_big (fn := Tryz.f7) (p := 4) (u := 5) rfl rfl hR Tryz.underlying49 rfl size49) rfl ?_
    exact ⟨A2, c2, rfl, hI, hL⟩
end Go.Proofs.YtdonnbfojcggmaaGreat
