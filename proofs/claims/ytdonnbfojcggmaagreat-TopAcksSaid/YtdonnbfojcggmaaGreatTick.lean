import Derived.Test.YtdonnbfojcggmaaGreatFeed2
namespace Go.Proofs.YtdonnbfojcggmaaGreat
open Go.RowKit
attribute [local go_sem ↓] Go.wp_at_zero Go.wp_at_succ

set_option maxRecDepth 100000 in
set_option maxHeartbeats 1600000 in
theorem fail_dead (got : Int) (sA : Option Addr) (sn sc : Nat) (held told : Int) (oA : Option Addr) (on oc : Nat) (made gone : Int) (begun : Bool) (code now : Int) (c : Int) (g : Nat) (w : World) (hM : Blk w g 89 #[.int .i64 got, .string ⟨#[]⟩, .bool false, .int .i64 0, .string ⟨#[]⟩, .bool false, .int .i64 4096, .slice none 0 0, .int .i64 4096, .int .i64 4096, .slice none 0 0, .int .i64 4096, .int .i64 4096, .int .i64 4096, .int .i64 1, .int .i64 4294967295, .int .i64 65535, .int .i64 16384, .int .i64 4294967295, .slice sA sn sc, .int .i64 held, .int .i64 told, .int .i64 0, .slice none 0 0, .slice none 0 0, .slice none 0 0, .int .i64 65535, .int .i64 65535, .slice oA on oc, .int .i64 made, .int .i64 gone, .bool begun, .bool false, .bool true, .int .u32 code, .int .i64 now, .int .i64 30, .slice none 0 0]) : Calls Tryz.prog 28 #[.pointer (some ⟨g, 0, none⟩), .int .u32 c] w (fun e w' => e = .returned (.tuple #[]) ∧ w = w') := by
  obtain ⟨cM, fM⟩ := hM.facts
  have lM := hM.lt
  clear hM
  go_enter Tryz.func28, Tryz.ntmps28
  go_wp2_with fail
  exact bodyPost_ret (v := .tuple #[]) (by simp [results, Tryz.results28, go_sem]) rfl ⟨rfl, rfl⟩
set_option maxRecDepth 100000 in
set_option maxHeartbeats 1600000 in
theorem tick_same (got : Int) (sA : Option Addr) (sn sc : Nat) (held told : Int) (oA : Option Addr) (on oc : Nat) (made gone : Int) (begun dead : Bool) (code now : Int) (t : Int) (w : World) (ht : t ≤ now) : Calls Tryz.prog 9 #[.agg #[.int .i64 got, .string ⟨#[]⟩, .bool false, .int .i64 0, .string ⟨#[]⟩, .bool false, .int .i64 4096, .slice none 0 0, .int .i64 4096, .int .i64 4096, .slice none 0 0, .int .i64 4096, .int .i64 4096, .int .i64 4096, .int .i64 1, .int .i64 4294967295, .int .i64 65535, .int .i64 16384, .int .i64 4294967295, .slice sA sn sc, .int .i64 held, .int .i64 told, .int .i64 0, .slice none 0 0, .slice none 0 0, .slice none 0 0, .int .i64 65535, .int .i64 65535, .slice oA on oc, .int .i64 made, .int .i64 gone, .bool begun, .bool false, .bool dead, .int .u32 code, .int .i64 now, .int .i64 30], .int .i64 t] w (ValPost w (.tuple #[.agg #[.int .i64 got, .string ⟨#[]⟩, .bool false, .int .i64 0, .string ⟨#[]⟩, .bool false, .int .i64 4096, .slice none 0 0, .int .i64 4096, .int .i64 4096, .slice none 0 0, .int .i64 4096, .int .i64 4096, .int .i64 4096, .int .i64 1, .int .i64 4294967295, .int .i64 65535, .int .i64 16384, .int .i64 4294967295, .slice sA sn sc, .int .i64 held, .int .i64 told, .int .i64 0, .slice none 0 0, .slice none 0 0, .slice none 0 0, .int .i64 65535, .int .i64 65535, .slice oA on oc, .int .i64 made, .int .i64 gone, .bool begun, .bool false, .bool dead, .int .u32 code, .int .i64 now, .int .i64 30], .slice none 0 0])) := by
  have hB := Blk.new w 49 #[.int .i64 got, .string ⟨#[]⟩, .bool false, .int .i64 0, .string ⟨#[]⟩, .bool false, .int .i64 4096, .slice none 0 0, .int .i64 4096, .int .i64 4096, .slice none 0 0, .int .i64 4096, .int .i64 4096, .int .i64 4096, .int .i64 1, .int .i64 4294967295, .int .i64 65535, .int .i64 16384, .int .i64 4294967295, .slice sA sn sc, .int .i64 held, .int .i64 told, .int .i64 0, .slice none 0 0, .slice none 0 0, .slice none 0 0, .int .i64 65535, .int .i64 65535, .slice oA on oc, .int .i64 made, .int .i64 gone, .bool begun, .bool false, .bool dead, .int .u32 code, .int .i64 now, .int .i64 30]
  have hL := lo_alloc (lo_refl w) (.cells #[.int .i64 got, .string ⟨#[]⟩, .bool false, .int .i64 0, .string ⟨#[]⟩, .bool false, .int .i64 4096, .slice none 0 0, .int .i64 4096, .int .i64 4096, .slice none 0 0, .int .i64 4096, .int .i64 4096, .int .i64 4096, .int .i64 1, .int .i64 4294967295, .int .i64 65535, .int .i64 16384, .int .i64 4294967295, .slice sA sn sc, .int .i64 held, .int .i64 told, .int .i64 0, .slice none 0 0, .slice none 0 0, .slice none 0 0, .int .i64 65535, .int .i64 65535, .slice oA on oc, .int .i64 made, .int .i64 gone, .bool begun, .bool false, .bool dead, .int .u32 code, .int .i64 now, .int .i64 30] 49)
  have hR := Blk.new (w.alloc (.cells #[.int .i64 got, .string ⟨#[]⟩, .bool false, .int .i64 0, .string ⟨#[]⟩, .bool false, .int .i64 4096, .slice none 0 0, .int .i64 4096, .int .i64 4096, .slice none 0 0, .int .i64 4096, .int .i64 4096, .int .i64 4096, .int .i64 1, .int .i64 4294967295, .int .i64 65535, .int .i64 16384, .int .i64 4294967295, .slice sA sn sc, .int .i64 held, .int .i64 told, .int .i64 0, .slice none 0 0, .slice none 0 0, .slice none 0 0, .int .i64 65535, .int .i64 65535, .slice oA on oc, .int .i64 made, .int .i64 gone, .bool begun, .bool false, .bool dead, .int .u32 code, .int .i64 now, .int .i64 30] 49)) 49 #[.int .i64 0, .string ⟨#[]⟩, .bool false, .int .i64 0, .string ⟨#[]⟩, .bool false, .int .i64 0, .slice none 0 0, .int .i64 0, .int .i64 0, .slice none 0 0, .int .i64 0, .int .i64 0, .int .i64 0, .int .i64 0, .int .i64 0, .int .i64 0, .int .i64 0, .int .i64 0, .slice none 0 0, .int .i64 0, .int .i64 0, .int .i64 0, .slice none 0 0, .slice none 0 0, .slice none 0 0, .int .i64 0, .int .i64 0, .slice none 0 0, .int .i64 0, .int .i64 0, .bool false, .bool false, .bool false, .int .u32 0, .int .i64 0, .int .i64 0]
  replace hB := hB.alloc (.cells #[.int .i64 0, .string ⟨#[]⟩, .bool false, .int .i64 0, .string ⟨#[]⟩, .bool false, .int .i64 0, .slice none 0 0, .int .i64 0, .int .i64 0, .slice none 0 0, .int .i64 0, .int .i64 0, .int .i64 0, .int .i64 0, .int .i64 0, .int .i64 0, .int .i64 0, .int .i64 0, .slice none 0 0, .int .i64 0, .int .i64 0, .int .i64 0, .slice none 0 0, .slice none 0 0, .slice none 0 0, .int .i64 0, .int .i64 0, .slice none 0 0, .int .i64 0, .int .i64 0, .bool false, .bool false, .bool false, .int .u32 0, .int .i64 0, .int .i64 0] 49)
  replace hL := lo_alloc hL (.cells #[.int .i64 0, .string ⟨#[]⟩, .bool false, .int .i64 0, .string ⟨#[]⟩, .bool false, .int .i64 0, .slice none 0 0, .int .i64 0, .int .i64 0, .slice none 0 0, .int .i64 0, .int .i64 0, .int .i64 0, .int .i64 0, .int .i64 0, .int .i64 0, .int .i64 0, .int .i64 0, .slice none 0 0, .int .i64 0, .int .i64 0, .int .i64 0, .slice none 0 0, .slice none 0 0, .slice none 0 0, .int .i64 0, .int .i64 0, .slice none 0 0, .int .i64 0, .int .i64 0, .bool false, .bool false, .bool false, .int .u32 0, .int .i64 0, .int .i64 0] 49)
  simp only [World.size_alloc] at hR
  obtain ⟨cB, fB⟩ := hB.facts
  have c35 : ((w.alloc (.cells #[.int .i64 got, .string ⟨#[]⟩, .bool false, .int .i64 0, .string ⟨#[]⟩, .bool false, .int .i64 4096, .slice none 0 0, .int .i64 4096, .int .i64 4096, .slice none 0 0, .int .i64 4096, .int .i64 4096, .int .i64 4096, .int .i64 1, .int .i64 4294967295, .int .i64 65535, .int .i64 16384, .int .i64 4294967295, .slice sA sn sc, .int .i64 held, .int .i64 told, .int .i64 0, .slice none 0 0, .slice none 0 0, .slice none 0 0, .int .i64 65535, .int .i64 65535, .slice oA on oc, .int .i64 made, .int .i64 gone, .bool begun, .bool false, .bool dead, .int .u32 code, .int .i64 now, .int .i64 30] 49)).alloc (.cells #[.int .i64 0, .string ⟨#[]⟩, .bool false, .int .i64 0, .string ⟨#[]⟩, .bool false, .int .i64 0, .slice none 0 0, .int .i64 0, .int .i64 0, .slice none 0 0, .int .i64 0, .int .i64 0, .int .i64 0, .int .i64 0, .int .i64 0, .int .i64 0, .int .i64 0, .int .i64 0, .slice none 0 0, .int .i64 0, .int .i64 0, .int .i64 0, .slice none 0 0, .slice none 0 0, .slice none 0 0, .int .i64 0, .int .i64 0, .slice none 0 0, .int .i64 0, .int .i64 0, .bool false, .bool false, .bool false, .int .u32 0, .int .i64 0, .int .i64 0] 49)).cell? ⟨w.heap.size, 35, none⟩ = some (.int .i64 now) := by rw [cB]; rfl
  clear cB fB
  go_enter Tryz.func9, Tryz.ntmps9
  go_upto_region 2 with fail
  clear c35
  generalize (w.alloc (.cells #[.int .i64 got, .string ⟨#[]⟩, .bool false, .int .i64 0, .string ⟨#[]⟩, .bool false, .int .i64 4096, .slice none 0 0, .int .i64 4096, .int .i64 4096, .slice none 0 0, .int .i64 4096, .int .i64 4096, .int .i64 4096, .int .i64 1, .int .i64 4294967295, .int .i64 65535, .int .i64 16384, .int .i64 4294967295, .slice sA sn sc, .int .i64 held, .int .i64 told, .int .i64 0, .slice none 0 0, .slice none 0 0, .slice none 0 0, .int .i64 65535, .int .i64 65535, .slice oA on oc, .int .i64 made, .int .i64 gone, .bool begun, .bool false, .bool dead, .int .u32 code, .int .i64 now, .int .i64 30] 49)).alloc (.cells #[.int .i64 0, .string ⟨#[]⟩, .bool false, .int .i64 0, .string ⟨#[]⟩, .bool false, .int .i64 0, .slice none 0 0, .int .i64 0, .int .i64 0, .slice none 0 0, .int .i64 0, .int .i64 0, .int .i64 0, .int .i64 0, .int .i64 0, .int .i64 0, .int .i64 0, .int .i64 0, .slice none 0 0, .int .i64 0, .int .i64 0, .int .i64 0, .slice none 0 0, .slice none 0 0, .slice none 0 0, .int .i64 0, .int .i64 0, .slice none 0 0, .int .i64 0, .int .i64 0, .bool false, .bool false, .bool false, .int .u32 0, .int .i64 0, .int .i64 0] 49) = w2 at hB hR hL ⊢
  have hrg := blk_range hB [.int .i64 got, .string ⟨#[]⟩, .bool false, .int .i64 0, .string ⟨#[]⟩, .bool false, .int .i64 4096, .slice none 0 0, .int .i64 4096, .int .i64 4096, .slice none 0 0, .int .i64 4096, .int .i64 4096, .int .i64 4096, .int .i64 1, .int .i64 4294967295, .int .i64 65535, .int .i64 16384, .int .i64 4294967295, .slice sA sn sc, .int .i64 held, .int .i64 told, .int .i64 0, .slice none 0 0, .slice none 0 0, .slice none 0 0, .int .i64 65535, .int .i64 65535, .slice oA on oc, .int .i64 made, .int .i64 gone, .bool begun, .bool false, .bool dead, .int .u32 code, .int .i64 now, .int .i64 30] [] rfl
  have hth := blk_there hR 37 rfl
  go_wp2_with (first | (refine wpList_load_mid rfl 49 _ rfl (w.heap.size) 0 rfl [.int .i64 got, .string ⟨#[]⟩, .bool false, .int .i64 0, .string ⟨#[]⟩, .bool false, .int .i64 4096, .slice none 0 0, .int .i64 4096, .int .i64 4096, .slice none 0 0, .int .i64 4096, .int .i64 4096, .int .i64 4096, .int .i64 1, .int .i64 4294967295, .int .i64 65535, .int .i64 16384, .int .i64 4294967295, .slice sA sn sc, .int .i64 held, .int .i64 told, .int .i64 0, .slice none 0 0, .slice none 0 0, .slice none 0 0, .int .i64 65535, .int .i64 65535, .slice oA on oc, .int .i64 made, .int .i64 gone, .bool begun, .bool false, .bool dead, .int .u32 code, .int .i64 now, .int .i64 30] _ hrg Tryz.underlying49 rfl size49 ?_) | (refine wpList_store_mid rfl 49 _ _ rfl (w.heap.size + 1) 0 #[.int .i64 got, .string ⟨#[]⟩, .bool false, .int .i64 0, .string ⟨#[]⟩, .bool false, .int .i64 4096, .slice none 0 0, .int .i64 4096, .int .i64 4096, .slice none 0 0, .int .i64 4096, .int .i64 4096, .int .i64 4096, .int .i64 1, .int .i64 4294967295, .int .i64 65535, .int .i64 16384, .int .i64 4294967295, .slice sA sn sc, .int .i64 held, .int .i64 told, .int .i64 0, .slice none 0 0, .slice none 0 0, .slice none 0 0, .int .i64 65535, .int .i64 65535, .slice oA on oc, .int .i64 made, .int .i64 gone, .bool begun, .bool false, .bool dead, .int .u32 code, .int .i64 now, .int .i64 30] rfl rfl hth size49 (by kernel_rfl) ?_))
  have hR7 := hR.setAll #[.int .i64 got, .string ⟨#[]⟩, .bool false, .int .i64 0, .string ⟨#[]⟩, .bool false, .int .i64 4096, .slice none 0 0, .int .i64 4096, .int .i64 4096, .slice none 0 0, .int .i64 4096, .int .i64 4096, .int .i64 4096, .int .i64 1, .int .i64 4294967295, .int .i64 65535, .int .i64 16384, .int .i64 4294967295, .slice sA sn sc, .int .i64 held, .int .i64 told, .int .i64 0, .slice none 0 0, .slice none 0 0, .slice none 0 0, .int .i64 65535, .int .i64 65535, .slice oA on oc, .int .i64 made, .int .i64 gone, .bool begun, .bool false, .bool dead, .int .u32 code, .int .i64 now, .int .i64 30] rfl
  have hL7 := lo_cells (Nat.le_succ _) [.int .i64 got, .string ⟨#[]⟩, .bool false, .int .i64 0, .string ⟨#[]⟩, .bool false, .int .i64 4096, .slice none 0 0, .int .i64 4096, .int .i64 4096, .slice none 0 0, .int .i64 4096, .int .i64 4096, .int .i64 4096, .int .i64 1, .int .i64 4294967295, .int .i64 65535, .int .i64 16384, .int .i64 4294967295, .slice sA sn sc, .int .i64 held, .int .i64 told, .int .i64 0, .slice none 0 0, .slice none 0 0, .slice none 0 0, .int .i64 65535, .int .i64 65535, .slice oA on oc, .int .i64 made, .int .i64 gone, .bool begun, .bool false, .bool dead, .int .u32 code, .int .i64 now, .int .i64 30] 0 w2 hL
  dsimp only at hR7 hL7
  refine bodyPost_ret (results_big (fn := Tryz.f9) (p := 4) (u := 5) rfl rfl hR7 Tryz.underlying49 rfl size49) rfl ?_
  exact ⟨rfl, hL7⟩
set_option maxRecDepth 100000 in
set_option maxHeartbeats 12800000 in
theorem tick_ok (got : Int) (sA : Option Addr) (sn sc : Nat) (held told : Int) (oA : Option Addr) (on oc : Nat) (made gone : Int) (begun : Bool) (now : Int) (ol : List ByteArray) (l : List It) (t : Int) (w : World) (ht : now < t) (ht2 : t ≤ 1099511627776) (hl : ItsOk w sA sn sc l) (hT : ∀ x ∈ l, x.t ≤ t) (hlate : lateB l t = false) (h0 : 0 ≤ t)  : Calls Tryz.prog 9 #[.agg #[.int .i64 got, .string ⟨#[]⟩, .bool false, .int .i64 0, .string ⟨#[]⟩, .bool false, .int .i64 4096, .slice none 0 0, .int .i64 4096, .int .i64 4096, .slice none 0 0, .int .i64 4096, .int .i64 4096, .int .i64 4096, .int .i64 1, .int .i64 4294967295, .int .i64 65535, .int .i64 16384, .int .i64 4294967295, .slice sA sn sc, .int .i64 held, .int .i64 told, .int .i64 0, .slice none 0 0, .slice none 0 0, .slice none 0 0, .int .i64 65535, .int .i64 65535, .slice oA on oc, .int .i64 made, .int .i64 gone, .bool begun, .bool false, .bool false, .int .u32 0, .int .i64 now, .int .i64 30], .int .i64 t] w (ValPost w (.tuple #[.agg #[.int .i64 got, .string ⟨#[]⟩, .bool false, .int .i64 0, .string ⟨#[]⟩, .bool false, .int .i64 4096, .slice none 0 0, .int .i64 4096, .int .i64 4096, .slice none 0 0, .int .i64 4096, .int .i64 4096, .int .i64 4096, .int .i64 1, .int .i64 4294967295, .int .i64 65535, .int .i64 16384, .int .i64 4294967295, .slice sA sn sc, .int .i64 held, .int .i64 told, .int .i64 0, .slice none 0 0, .slice none 0 0, .slice none 0 0, .int .i64 65535, .int .i64 65535, .slice oA on oc, .int .i64 made, .int .i64 gone, .bool begun, .bool false, .bool false, .int .u32 0, .int .i64 t, .int .i64 30], .slice none 0 0])) := by
  have H1 : Hid (∀ W, Calls Tryz.prog 19 #[.agg #[.int .i64 got, .string ⟨#[]⟩, .bool false, .int .i64 0, .string ⟨#[]⟩, .bool false, .int .i64 4096, .slice none 0 0, .int .i64 4096, .int .i64 4096, .slice none 0 0, .int .i64 4096, .int .i64 4096, .int .i64 4096, .int .i64 1, .int .i64 4294967295, .int .i64 65535, .int .i64 16384, .int .i64 4294967295, .slice sA sn sc, .int .i64 held, .int .i64 told, .int .i64 0, .slice none 0 0, .slice none 0 0, .slice none 0 0, .int .i64 65535, .int .i64 65535, .slice oA on oc, .int .i64 made, .int .i64 gone, .bool begun, .bool false, .bool false, .int .u32 0, .int .i64 now, .int .i64 30]] W (StartPost W #[.int .i64 got, .string ⟨#[]⟩, .bool false, .int .i64 0, .string ⟨#[]⟩, .bool false, .int .i64 4096, .slice none 0 0, .int .i64 4096, .int .i64 4096, .slice none 0 0, .int .i64 4096, .int .i64 4096, .int .i64 4096, .int .i64 1, .int .i64 4294967295, .int .i64 65535, .int .i64 16384, .int .i64 4294967295, .slice sA sn sc, .int .i64 held, .int .i64 told, .int .i64 0, .slice none 0 0, .slice none 0 0, .slice none 0 0, .int .i64 65535, .int .i64 65535, .slice oA on oc, .int .i64 made, .int .i64 gone, .bool begun, .bool false, .bool false, .int .u32 0, .int .i64 now, .int .i64 30, .slice none 0 0])) := Lib.hid fun W => start_any got sA sn sc held told oA on oc made gone begun false 0 now W
  have H2 : Hid (∀ W, Below w.heap.size w W → Calls Tryz.prog 29 #[.slice sA sn sc, .int .i64 t, .int .i64 30] W (BoolSame W false)) := Lib.hid fun W hb => by
    have h := ulate_any sA sn sc l t W (hl.lo hb) ⟨h0, ht2⟩ hT
    rw [hlate] at h
    exact h
  have hn1 : ¬ t ≤ now := by omega
  have hn2 : ¬ 1099511627776 < t := by omega
  clear hl hT hlate h0 ht ht2
  have hB := Blk.new w 49 #[.int .i64 got, .string ⟨#[]⟩, .bool false, .int .i64 0, .string ⟨#[]⟩, .bool false, .int .i64 4096, .slice none 0 0, .int .i64 4096, .int .i64 4096, .slice none 0 0, .int .i64 4096, .int .i64 4096, .int .i64 4096, .int .i64 1, .int .i64 4294967295, .int .i64 65535, .int .i64 16384, .int .i64 4294967295, .slice sA sn sc, .int .i64 held, .int .i64 told, .int .i64 0, .slice none 0 0, .slice none 0 0, .slice none 0 0, .int .i64 65535, .int .i64 65535, .slice oA on oc, .int .i64 made, .int .i64 gone, .bool begun, .bool false, .bool false, .int .u32 0, .int .i64 now, .int .i64 30]
  have hL := lo_alloc (lo_refl w) (.cells #[.int .i64 got, .string ⟨#[]⟩, .bool false, .int .i64 0, .string ⟨#[]⟩, .bool false, .int .i64 4096, .slice none 0 0, .int .i64 4096, .int .i64 4096, .slice none 0 0, .int .i64 4096, .int .i64 4096, .int .i64 4096, .int .i64 1, .int .i64 4294967295, .int .i64 65535, .int .i64 16384, .int .i64 4294967295, .slice sA sn sc, .int .i64 held, .int .i64 told, .int .i64 0, .slice none 0 0, .slice none 0 0, .slice none 0 0, .int .i64 65535, .int .i64 65535, .slice oA on oc, .int .i64 made, .int .i64 gone, .bool begun, .bool false, .bool false, .int .u32 0, .int .i64 now, .int .i64 30] 49)
  have hR := Blk.new (w.alloc (.cells #[.int .i64 got, .string ⟨#[]⟩, .bool false, .int .i64 0, .string ⟨#[]⟩, .bool false, .int .i64 4096, .slice none 0 0, .int .i64 4096, .int .i64 4096, .slice none 0 0, .int .i64 4096, .int .i64 4096, .int .i64 4096, .int .i64 1, .int .i64 4294967295, .int .i64 65535, .int .i64 16384, .int .i64 4294967295, .slice sA sn sc, .int .i64 held, .int .i64 told, .int .i64 0, .slice none 0 0, .slice none 0 0, .slice none 0 0, .int .i64 65535, .int .i64 65535, .slice oA on oc, .int .i64 made, .int .i64 gone, .bool begun, .bool false, .bool false, .int .u32 0, .int .i64 now, .int .i64 30] 49)) 49 #[.int .i64 0, .string ⟨#[]⟩, .bool false, .int .i64 0, .string ⟨#[]⟩, .bool false, .int .i64 0, .slice none 0 0, .int .i64 0, .int .i64 0, .slice none 0 0, .int .i64 0, .int .i64 0, .int .i64 0, .int .i64 0, .int .i64 0, .int .i64 0, .int .i64 0, .int .i64 0, .slice none 0 0, .int .i64 0, .int .i64 0, .int .i64 0, .slice none 0 0, .slice none 0 0, .slice none 0 0, .int .i64 0, .int .i64 0, .slice none 0 0, .int .i64 0, .int .i64 0, .bool false, .bool false, .bool false, .int .u32 0, .int .i64 0, .int .i64 0]
  replace hB := hB.alloc (.cells #[.int .i64 0, .string ⟨#[]⟩, .bool false, .int .i64 0, .string ⟨#[]⟩, .bool false, .int .i64 0, .slice none 0 0, .int .i64 0, .int .i64 0, .slice none 0 0, .int .i64 0, .int .i64 0, .int .i64 0, .int .i64 0, .int .i64 0, .int .i64 0, .int .i64 0, .int .i64 0, .slice none 0 0, .int .i64 0, .int .i64 0, .int .i64 0, .slice none 0 0, .slice none 0 0, .slice none 0 0, .int .i64 0, .int .i64 0, .slice none 0 0, .int .i64 0, .int .i64 0, .bool false, .bool false, .bool false, .int .u32 0, .int .i64 0, .int .i64 0] 49)
  replace hL := lo_alloc hL (.cells #[.int .i64 0, .string ⟨#[]⟩, .bool false, .int .i64 0, .string ⟨#[]⟩, .bool false, .int .i64 0, .slice none 0 0, .int .i64 0, .int .i64 0, .slice none 0 0, .int .i64 0, .int .i64 0, .int .i64 0, .int .i64 0, .int .i64 0, .int .i64 0, .int .i64 0, .int .i64 0, .slice none 0 0, .int .i64 0, .int .i64 0, .int .i64 0, .slice none 0 0, .slice none 0 0, .slice none 0 0, .int .i64 0, .int .i64 0, .slice none 0 0, .int .i64 0, .int .i64 0, .bool false, .bool false, .bool false, .int .u32 0, .int .i64 0, .int .i64 0] 49)
  simp only [World.size_alloc] at hR
  obtain ⟨cB, fB⟩ := hB.facts
  have c35 : ((w.alloc (.cells #[.int .i64 got, .string ⟨#[]⟩, .bool false, .int .i64 0, .string ⟨#[]⟩, .bool false, .int .i64 4096, .slice none 0 0, .int .i64 4096, .int .i64 4096, .slice none 0 0, .int .i64 4096, .int .i64 4096, .int .i64 4096, .int .i64 1, .int .i64 4294967295, .int .i64 65535, .int .i64 16384, .int .i64 4294967295, .slice sA sn sc, .int .i64 held, .int .i64 told, .int .i64 0, .slice none 0 0, .slice none 0 0, .slice none 0 0, .int .i64 65535, .int .i64 65535, .slice oA on oc, .int .i64 made, .int .i64 gone, .bool begun, .bool false, .bool false, .int .u32 0, .int .i64 now, .int .i64 30] 49)).alloc (.cells #[.int .i64 0, .string ⟨#[]⟩, .bool false, .int .i64 0, .string ⟨#[]⟩, .bool false, .int .i64 0, .slice none 0 0, .int .i64 0, .int .i64 0, .slice none 0 0, .int .i64 0, .int .i64 0, .int .i64 0, .int .i64 0, .int .i64 0, .int .i64 0, .int .i64 0, .int .i64 0, .slice none 0 0, .int .i64 0, .int .i64 0, .int .i64 0, .slice none 0 0, .slice none 0 0, .slice none 0 0, .int .i64 0, .int .i64 0, .slice none 0 0, .int .i64 0, .int .i64 0, .bool false, .bool false, .bool false, .int .u32 0, .int .i64 0, .int .i64 0] 49)).cell? ⟨w.heap.size, 35, none⟩ = some (.int .i64 now) := by rw [cB]; rfl
  clear cB fB
  go_enter Tryz.func9, Tryz.ntmps9
  go_upto_region 3 with fail
  clear c35 hn1 hn2
  generalize (w.alloc (.cells #[.int .i64 got, .string ⟨#[]⟩, .bool false, .int .i64 0, .string ⟨#[]⟩, .bool false, .int .i64 4096, .slice none 0 0, .int .i64 4096, .int .i64 4096, .slice none 0 0, .int .i64 4096, .int .i64 4096, .int .i64 4096, .int .i64 1, .int .i64 4294967295, .int .i64 65535, .int .i64 16384, .int .i64 4294967295, .slice sA sn sc, .int .i64 held, .int .i64 told, .int .i64 0, .slice none 0 0, .slice none 0 0, .slice none 0 0, .int .i64 65535, .int .i64 65535, .slice oA on oc, .int .i64 made, .int .i64 gone, .bool begun, .bool false, .bool false, .int .u32 0, .int .i64 now, .int .i64 30] 49)).alloc (.cells #[.int .i64 0, .string ⟨#[]⟩, .bool false, .int .i64 0, .string ⟨#[]⟩, .bool false, .int .i64 0, .slice none 0 0, .int .i64 0, .int .i64 0, .slice none 0 0, .int .i64 0, .int .i64 0, .int .i64 0, .int .i64 0, .int .i64 0, .int .i64 0, .int .i64 0, .int .i64 0, .slice none 0 0, .int .i64 0, .int .i64 0, .int .i64 0, .slice none 0 0, .slice none 0 0, .slice none 0 0, .int .i64 0, .int .i64 0, .slice none 0 0, .int .i64 0, .int .i64 0, .bool false, .bool false, .bool false, .int .u32 0, .int .i64 0, .int .i64 0] 49) = w2 at hB hR hL ⊢
  have hrg := blk_range hB [.int .i64 got, .string ⟨#[]⟩, .bool false, .int .i64 0, .string ⟨#[]⟩, .bool false, .int .i64 4096, .slice none 0 0, .int .i64 4096, .int .i64 4096, .slice none 0 0, .int .i64 4096, .int .i64 4096, .int .i64 4096, .int .i64 1, .int .i64 4294967295, .int .i64 65535, .int .i64 16384, .int .i64 4294967295, .slice sA sn sc, .int .i64 held, .int .i64 told, .int .i64 0, .slice none 0 0, .slice none 0 0, .slice none 0 0, .int .i64 65535, .int .i64 65535, .slice oA on oc, .int .i64 made, .int .i64 gone, .bool begun, .bool false, .bool false, .int .u32 0, .int .i64 now, .int .i64 30] [] rfl
  go_wp2_with (refine wpList_load_mid rfl 49 _ rfl (w.heap.size) 0 rfl [.int .i64 got, .string ⟨#[]⟩, .bool false, .int .i64 0, .string ⟨#[]⟩, .bool false, .int .i64 4096, .slice none 0 0, .int .i64 4096, .int .i64 4096, .slice none 0 0, .int .i64 4096, .int .i64 4096, .int .i64 4096, .int .i64 1, .int .i64 4294967295, .int .i64 65535, .int .i64 16384, .int .i64 4294967295, .slice sA sn sc, .int .i64 held, .int .i64 told, .int .i64 0, .slice none 0 0, .slice none 0 0, .slice none 0 0, .int .i64 65535, .int .i64 65535, .slice oA on oc, .int .i64 made, .int .i64 gone, .bool begun, .bool false, .bool false, .int .u32 0, .int .i64 now, .int .i64 30] _ hrg Tryz.underlying49 rfl size49 ?_)
  refine (H1.out _).mono ?_
  rintro e w3 ⟨g, rfl, hM, hg, hb⟩
  clear hrg hB H1
  have hgR : w.heap.size + 2 ≤ g := by have := hR.lt; omega
  replace hR := hR.lo hb
  replace hL := lo_trans hL hb
  clear hb hg
  obtain ⟨cM, fM⟩ := hM.facts
  have lM := hM.lt
  go_upto_region 5 with fail
  clear cM fM lM
  replace hR := hR.far (p := ⟨g, 35, none⟩) (show w.heap.size + 1 ≠ g by omega) (.int .i64 t)
  replace hL := lo_set hL (p := ⟨g, 35, none⟩) (show w.heap.size ≤ g by omega) (.int .i64 t)
  replace hM := hM.set_ 35 (.int .i64 t)
  simp only [List.setIfInBounds_toArray, List.set_cons_zero, List.set_cons_succ] at hM
  generalize w3.setCell ⟨g, 35, none⟩ (.int .i64 t) = w4 at hM hR hL ⊢
  refine wp_region_held_drew (S := (fun W => W.cell? ⟨g, 19, none⟩ = some (.slice sA sn sc) ∧ W.cell? ⟨g, 36, none⟩ = some (.int .i64 30) ∧ g < W.heap.size)) (by kernel_rfl) ?_ (fun hHeld => ?_)
  focus ((try dsimp only); (have r := hM.facts.1; exact ⟨r 19, r 36, hM.lt⟩))
  replace hM : Blk w4.drew _ _ _ := hM
  replace hR : Blk w4.drew _ _ _ := hR
  replace hL := lo_drew hL
  generalize w4.drew = wr at hM hR hL hHeld ⊢
  first
  | (refine wpAnyH_take (i := 0) (oi := _) (v := ?_) (getop rfl) (by kernel_rfl) (by kernel_rfl) (by kernel_rfl) (fun _ _ _ h => h) (Or.inl ⟨by rfl, ?_⟩) (by assumption) ?_; rotate_left; focus (intro w hSw; (try dsimp only at hSw); go_simp; (try with_reducible rfl); done))
  | (refine wpAnyH_take (i := 0) (oi := _) (v := undef) (getop rfl) (by kernel_rfl) (by kernel_rfl) (by kernel_rfl) (fun _ _ _ h => h) (Or.inr ⟨by rfl, rfl⟩) (by assumption) ?_)
  (try simp only [Act.put, List.setIfInBounds_toArray, List.set_cons_zero, List.set_cons_succ])
  first
  | (refine wpAnyH_take (i := 5) (oi := _) (v := ?_) (getop rfl) (by kernel_rfl) (by kernel_rfl) (by kernel_rfl) (fun _ _ _ h => h) (Or.inl ⟨by rfl, ?_⟩) (by assumption) ?_; rotate_left; focus (intro w hSw; (try dsimp only at hSw); go_simp; (try with_reducible rfl); done))
  | (refine wpAnyH_take (i := 5) (oi := _) (v := undef) (getop rfl) (by kernel_rfl) (by kernel_rfl) (by kernel_rfl) (fun _ _ _ h => h) (Or.inr ⟨by rfl, rfl⟩) (by assumption) ?_)
  (try simp only [Act.put, List.setIfInBounds_toArray, List.set_cons_zero, List.set_cons_succ])
  first
  | (refine wpAnyH_take (i := 6) (oi := _) (v := ?_) (getop rfl) (by kernel_rfl) (by kernel_rfl) (by kernel_rfl) (fun _ _ _ h => h) (Or.inl ⟨by rfl, ?_⟩) (by assumption) ?_; rotate_left; focus (intro w hSw; (try dsimp only at hSw); go_simp; (try with_reducible rfl); done))
  | (refine wpAnyH_take (i := 6) (oi := _) (v := undef) (getop rfl) (by kernel_rfl) (by kernel_rfl) (by kernel_rfl) (fun _ _ _ h => h) (Or.inr ⟨by rfl, rfl⟩) (by assumption) ?_)
  (try simp only [Act.put, List.setIfInBounds_toArray, List.set_cons_zero, List.set_cons_succ])
  first
  | (refine wpAnyH_take (i := 1) (oi := _) (v := ?_) (getop rfl) (by kernel_rfl) (by kernel_rfl) (by kernel_rfl) (fun _ _ _ h => h) (Or.inl ⟨by rfl, ?_⟩) (by assumption) ?_; rotate_left; focus (intro w hSw; (try dsimp only at hSw); go_simp; (try with_reducible rfl); done))
  | (refine wpAnyH_take (i := 1) (oi := _) (v := undef) (getop rfl) (by kernel_rfl) (by kernel_rfl) (by kernel_rfl) (fun _ _ _ h => h) (Or.inr ⟨by rfl, rfl⟩) (by assumption) ?_)
  (try simp only [Act.put, List.setIfInBounds_toArray, List.set_cons_zero, List.set_cons_succ])
  first
  | (refine wpAnyH_take (i := 7) (oi := _) (v := ?_) (getop rfl) (by kernel_rfl) (by kernel_rfl) (by kernel_rfl) (fun _ _ _ h => h) (Or.inl ⟨by rfl, ?_⟩) (by assumption) ?_; rotate_left; focus (intro w hSw; (try dsimp only at hSw); go_simp; (try with_reducible rfl); done))
  | (refine wpAnyH_take (i := 7) (oi := _) (v := undef) (getop rfl) (by kernel_rfl) (by kernel_rfl) (by kernel_rfl) (fun _ _ _ h => h) (Or.inr ⟨by rfl, rfl⟩) (by assumption) ?_)
  (try simp only [Act.put, List.setIfInBounds_toArray, List.set_cons_zero, List.set_cons_succ])
  first
  | (refine wpAnyH_take (i := 2) (oi := _) (v := ?_) (getop rfl) (by kernel_rfl) (by kernel_rfl) (by kernel_rfl) (fun _ _ _ h => h) (Or.inl ⟨by rfl, ?_⟩) (by assumption) ?_; rotate_left; focus (intro w hSw; (try dsimp only at hSw); go_simp; (try with_reducible rfl); done))
  | (refine wpAnyH_take (i := 2) (oi := _) (v := undef) (getop rfl) (by kernel_rfl) (by kernel_rfl) (by kernel_rfl) (fun _ _ _ h => h) (Or.inr ⟨by rfl, rfl⟩) (by assumption) ?_)
  (try simp only [Act.put, List.setIfInBounds_toArray, List.set_cons_zero, List.set_cons_succ])
  first
  | (refine wpAnyH_take (i := 8) (oi := _) (v := ?_) (getop rfl) (by kernel_rfl) (by kernel_rfl) (by kernel_rfl) (fun _ _ _ h => h) (Or.inl ⟨by rfl, ?_⟩) (by assumption) ?_; rotate_left; focus (intro w hSw; (try dsimp only at hSw); go_simp; (try with_reducible rfl); done))
  | (refine wpAnyH_take (i := 8) (oi := _) (v := undef) (getop rfl) (by kernel_rfl) (by kernel_rfl) (by kernel_rfl) (fun _ _ _ h => h) (Or.inr ⟨by rfl, rfl⟩) (by assumption) ?_)
  (try simp only [Act.put, List.setIfInBounds_toArray, List.set_cons_zero, List.set_cons_succ])
  first
  | (refine wpAnyH_take (i := 3) (oi := _) (v := ?_) (getop rfl) (by kernel_rfl) (by kernel_rfl) (by kernel_rfl) (fun _ _ _ h => h) (Or.inl ⟨by rfl, ?_⟩) (by assumption) ?_; rotate_left; focus (intro w hSw; (try dsimp only at hSw); go_simp; (try with_reducible rfl); done))
  | (refine wpAnyH_take (i := 3) (oi := _) (v := undef) (getop rfl) (by kernel_rfl) (by kernel_rfl) (by kernel_rfl) (fun _ _ _ h => h) (Or.inr ⟨by rfl, rfl⟩) (by assumption) ?_)
  (try simp only [Act.put, List.setIfInBounds_toArray, List.set_cons_zero, List.set_cons_succ])
  first
  | (refine wpAnyH_take (i := 9) (oi := _) (v := ?_) (getop rfl) (by kernel_rfl) (by kernel_rfl) (by kernel_rfl) (fun _ _ _ h => h) (Or.inl ⟨by rfl, ?_⟩) (by assumption) ?_; rotate_left; focus (intro w hSw; (try dsimp only at hSw); go_simp; (try with_reducible rfl); done))
  | (refine wpAnyH_take (i := 9) (oi := _) (v := undef) (getop rfl) (by kernel_rfl) (by kernel_rfl) (by kernel_rfl) (fun _ _ _ h => h) (Or.inr ⟨by rfl, rfl⟩) (by assumption) ?_)
  (try simp only [Act.put, List.setIfInBounds_toArray, List.set_cons_zero, List.set_cons_succ])
  first
  | (refine wpAnyH_take (i := 4) (oi := _) (v := ?_) (getop rfl) (by kernel_rfl) (by kernel_rfl) (by kernel_rfl) (fun _ _ _ h => h) (Or.inl ⟨by rfl, ?_⟩) (by assumption) ?_; rotate_left; focus (intro w hSw; (try dsimp only at hSw); go_simp; (try with_reducible rfl); done))
  | (refine wpAnyH_take (i := 4) (oi := _) (v := undef) (getop rfl) (by kernel_rfl) (by kernel_rfl) (by kernel_rfl) (fun _ _ _ h => h) (Or.inr ⟨by rfl, rfl⟩) (by assumption) ?_)
  (try simp only [Act.put, List.setIfInBounds_toArray, List.set_cons_zero, List.set_cons_succ])
  first
  | (refine wpAnyH_take (i := 10) (oi := _) (v := ?_) (getop rfl) (by kernel_rfl) (by kernel_rfl) (by kernel_rfl) (fun _ _ _ h => h) (Or.inl ⟨by rfl, ?_⟩) (by assumption) ?_; rotate_left; focus (intro w hSw; (try dsimp only at hSw); go_simp; (try with_reducible rfl); done))
  | (refine wpAnyH_take (i := 10) (oi := _) (v := undef) (getop rfl) (by kernel_rfl) (by kernel_rfl) (by kernel_rfl) (fun _ _ _ h => h) (Or.inr ⟨by rfl, rfl⟩) (by assumption) ?_)
  (try simp only [Act.put, List.setIfInBounds_toArray, List.set_cons_zero, List.set_cons_succ])
  refine wpAnyH_ready (rs := [11]) (by kernel_rfl) (by simp) ?_
  refine (AllReadyH.cons (o := _) (getop rfl) (fun K hK => ?_) AllReadyH.nil)
  go_simp
  refine (H2.out _ hL).mono ?_
  rintro e wy ⟨rfl, rfl⟩
  refine hK.out _ _ ?_ (fun hHeld11 => ?_)
  focus ((try dsimp only); (have r := hM.facts.1; exact ⟨r 19, r 36, hM.lt⟩))
  clear hK K hHeld
  have hHeld := hHeld11
  clear hHeld11
  (try simp only [Act.put, List.setIfInBounds_toArray, List.set_cons_zero, List.set_cons_succ])
  refine wpAnyH_done (by kernel_rfl) ?_ _
  clear hHeld
  go_upto_region 7 with fail
  refine wp_region_held_drew (S := (fun W => W.rangeAt g 0 ([.int .i64 got, .string ⟨#[]⟩, .bool false, .int .i64 0, .string ⟨#[]⟩, .bool false, .int .i64 4096, .slice none 0 0, .int .i64 4096, .int .i64 4096, .slice none 0 0, .int .i64 4096, .int .i64 4096, .int .i64 4096, .int .i64 1, .int .i64 4294967295, .int .i64 65535, .int .i64 16384, .int .i64 4294967295, .slice sA sn sc, .int .i64 held, .int .i64 told, .int .i64 0, .slice none 0 0, .slice none 0 0, .slice none 0 0, .int .i64 65535, .int .i64 65535, .slice oA on oc, .int .i64 made, .int .i64 gone, .bool begun, .bool false, .bool false, .int .u32 0, .int .i64 t, .int .i64 30] : List Value) ∧ W.cell? ⟨g, 37, none⟩ = some (.slice none 0 0) ∧ g < W.heap.size)) (by kernel_rfl) ?_ (fun hHeld => ?_)
  focus ((try dsimp only); (exact ⟨fun j v hv => blk_range hM ([.int .i64 got, .string ⟨#[]⟩, .bool false, .int .i64 0, .string ⟨#[]⟩, .bool false, .int .i64 4096, .slice none 0 0, .int .i64 4096, .int .i64 4096, .slice none 0 0, .int .i64 4096, .int .i64 4096, .int .i64 4096, .int .i64 1, .int .i64 4294967295, .int .i64 65535, .int .i64 16384, .int .i64 4294967295, .slice sA sn sc, .int .i64 held, .int .i64 told, .int .i64 0, .slice none 0 0, .slice none 0 0, .slice none 0 0, .int .i64 65535, .int .i64 65535, .slice oA on oc, .int .i64 made, .int .i64 gone, .bool begun, .bool false, .bool false, .int .u32 0, .int .i64 t, .int .i64 30] : List Value) [.slice none 0 0] rfl j v hv, hM.facts.1 37, hM.lt⟩))
  replace hM : Blk wr.drew _ _ _ := hM
  replace hR : Blk wr.drew _ _ _ := hR
  replace hL := lo_drew hL
  generalize wr.drew = wd at hM hR hL  hHeld ⊢
  first
  | (refine wpAnyH_take (i := 0) (oi := _) (v := ?_) (getop rfl) (by kernel_rfl) (by kernel_rfl) (by kernel_rfl) (fun _ _ _ h => h) (Or.inl ⟨by rfl, ?_⟩) (by assumption) ?_; rotate_left; focus (intro w hSw; (try dsimp only at hSw); go_simp; (try with_reducible rfl); done))
  | (refine wpAnyH_take (i := 0) (oi := _) (v := undef) (getop rfl) (by kernel_rfl) (by kernel_rfl) (by kernel_rfl) (fun _ _ _ h => h) (Or.inr ⟨by rfl, rfl⟩) (by assumption) ?_)
  (try simp only [Act.put, List.setIfInBounds_toArray, List.set_cons_zero, List.set_cons_succ])
  first
  | (refine wpAnyH_take (i := 4) (oi := _) (v := ?_) (getop rfl) (by kernel_rfl) (by kernel_rfl) (by kernel_rfl) (fun _ _ _ h => h) (Or.inl ⟨by rfl, ?_⟩) (by assumption) ?_; rotate_left; focus (intro w hSw; (try dsimp only at hSw); go_simp; (try with_reducible rfl); done))
  | (refine wpAnyH_take (i := 4) (oi := _) (v := undef) (getop rfl) (by kernel_rfl) (by kernel_rfl) (by kernel_rfl) (fun _ _ _ h => h) (Or.inr ⟨by rfl, rfl⟩) (by assumption) ?_)
  (try simp only [Act.put, List.setIfInBounds_toArray, List.set_cons_zero, List.set_cons_succ])
  first
  | (refine wpAnyH_take (i := 1) (oi := _) (v := ?_) (getop rfl) (by kernel_rfl) (by kernel_rfl) (by kernel_rfl) (fun _ _ _ h => h) (Or.inl ⟨by rfl, ?_⟩) (by assumption) ?_; rotate_left; focus (intro w hSw; (try dsimp only at hSw); go_simp; (try with_reducible rfl); done))
  | (refine wpAnyH_take (i := 1) (oi := _) (v := undef) (getop rfl) (by kernel_rfl) (by kernel_rfl) (by kernel_rfl) (fun _ _ _ h => h) (Or.inr ⟨by rfl, rfl⟩) (by assumption) ?_)
  (try simp only [Act.put, List.setIfInBounds_toArray, List.set_cons_zero, List.set_cons_succ])
  first
  | (refine wpAnyH_take (i := 5) (oi := _) (v := ?_) (getop rfl) (by kernel_rfl) (by kernel_rfl) (by kernel_rfl) (fun _ _ _ h => h) (Or.inl ⟨by rfl, ?_⟩) (by assumption) ?_; rotate_left; focus (intro w hSw; (try dsimp only at hSw); go_simp; (try with_reducible rfl); done))
  | (refine wpAnyH_take (i := 5) (oi := _) (v := undef) (getop rfl) (by kernel_rfl) (by kernel_rfl) (by kernel_rfl) (fun _ _ _ h => h) (Or.inr ⟨by rfl, rfl⟩) (by assumption) ?_)
  (try simp only [Act.put, List.setIfInBounds_toArray, List.set_cons_zero, List.set_cons_succ])
  first
  | (refine wpAnyH_take (i := 2) (oi := _) (v := ?_) (getop rfl) (by kernel_rfl) (by kernel_rfl) (by kernel_rfl) (fun _ _ _ h => h) (Or.inl ⟨by rfl, ?_⟩) (by assumption) ?_; rotate_left; focus (intro w hSw; (try dsimp only at hSw); go_simp; (try with_reducible rfl); done))
  | (refine wpAnyH_take (i := 2) (oi := _) (v := undef) (getop rfl) (by kernel_rfl) (by kernel_rfl) (by kernel_rfl) (fun _ _ _ h => h) (Or.inr ⟨by rfl, rfl⟩) (by assumption) ?_)
  (try simp only [Act.put, List.setIfInBounds_toArray, List.set_cons_zero, List.set_cons_succ])
  first
  | (refine wpAnyH_take (i := 6) (oi := _) (v := ?_) (getop rfl) (by kernel_rfl) (by kernel_rfl) (by kernel_rfl) (fun _ _ _ h => h) (Or.inl ⟨by rfl, ?_⟩) (by assumption) ?_; rotate_left; focus (intro w hSw; (try dsimp only at hSw); go_simp; (try with_reducible rfl); done))
  | (refine wpAnyH_take (i := 6) (oi := _) (v := undef) (getop rfl) (by kernel_rfl) (by kernel_rfl) (by kernel_rfl) (fun _ _ _ h => h) (Or.inr ⟨by rfl, rfl⟩) (by assumption) ?_)
  (try simp only [Act.put, List.setIfInBounds_toArray, List.set_cons_zero, List.set_cons_succ])
  refine wpAnyH_take (i := 3) (oi := _) (v := .agg (#[.int .i64 got, .string ⟨#[]⟩, .bool false, .int .i64 0, .string ⟨#[]⟩, .bool false, .int .i64 4096, .slice none 0 0, .int .i64 4096, .int .i64 4096, .slice none 0 0, .int .i64 4096, .int .i64 4096, .int .i64 4096, .int .i64 1, .int .i64 4294967295, .int .i64 65535, .int .i64 16384, .int .i64 4294967295, .slice sA sn sc, .int .i64 held, .int .i64 told, .int .i64 0, .slice none 0 0, .slice none 0 0, .slice none 0 0, .int .i64 65535, .int .i64 65535, .slice oA on oc, .int .i64 made, .int .i64 gone, .bool begun, .bool false, .bool false, .int .u32 0, .int .i64 t, .int .i64 30] : Array Value)) (getop rfl) (by kernel_rfl) (by kernel_rfl) (by kernel_rfl) (fun _ _ _ h => h) (yieldsIf_load_mid (by rfl) 49 _ rfl g 0 rfl ([.int .i64 got, .string ⟨#[]⟩, .bool false, .int .i64 0, .string ⟨#[]⟩, .bool false, .int .i64 4096, .slice none 0 0, .int .i64 4096, .int .i64 4096, .slice none 0 0, .int .i64 4096, .int .i64 4096, .int .i64 4096, .int .i64 1, .int .i64 4294967295, .int .i64 65535, .int .i64 16384, .int .i64 4294967295, .slice sA sn sc, .int .i64 held, .int .i64 told, .int .i64 0, .slice none 0 0, .slice none 0 0, .slice none 0 0, .int .i64 65535, .int .i64 65535, .slice oA on oc, .int .i64 made, .int .i64 gone, .bool begun, .bool false, .bool false, .int .u32 0, .int .i64 t, .int .i64 30] : List Value) _ (fun w h => h.1) Tryz.underlying49 rfl size49) (by assumption) ?_
  (try simp only [Act.put, List.setIfInBounds_toArray, List.set_cons_zero, List.set_cons_succ])
  first
  | (refine wpAnyH_take (i := 7) (oi := _) (v := ?_) (getop rfl) (by kernel_rfl) (by kernel_rfl) (by kernel_rfl) (fun _ _ _ h => h) (Or.inl ⟨by rfl, ?_⟩) (by assumption) ?_; rotate_left; focus (intro w hSw; (try dsimp only at hSw); go_simp; (try with_reducible rfl); done))
  | (refine wpAnyH_take (i := 7) (oi := _) (v := undef) (getop rfl) (by kernel_rfl) (by kernel_rfl) (by kernel_rfl) (fun _ _ _ h => h) (Or.inr ⟨by rfl, rfl⟩) (by assumption) ?_)
  (try simp only [Act.put, List.setIfInBounds_toArray, List.set_cons_zero, List.set_cons_succ])
  refine wpAnyH_ready (rs := [8]) (by kernel_rfl) (by simp) ?_
  refine (AllReadyH.cons (o := _) (getop rfl) (fun K hK => ?_) AllReadyH.nil)
  rw [if_pos (by rfl)]
  refine wp_store_mid 49 _ _ rfl (w.heap.size + 1) 0 (#[.int .i64 got, .string ⟨#[]⟩, .bool false, .int .i64 0, .string ⟨#[]⟩, .bool false, .int .i64 4096, .slice none 0 0, .int .i64 4096, .int .i64 4096, .slice none 0 0, .int .i64 4096, .int .i64 4096, .int .i64 4096, .int .i64 1, .int .i64 4294967295, .int .i64 65535, .int .i64 16384, .int .i64 4294967295, .slice sA sn sc, .int .i64 held, .int .i64 told, .int .i64 0, .slice none 0 0, .slice none 0 0, .slice none 0 0, .int .i64 65535, .int .i64 65535, .slice oA on oc, .int .i64 made, .int .i64 gone, .bool begun, .bool false, .bool false, .int .u32 0, .int .i64 t, .int .i64 30] : Array Value) rfl rfl (blk_there hR 37 rfl) size49 (by kernel_rfl) ?_
  have hKr := Kept.setCells ([.int .i64 got, .string ⟨#[]⟩, .bool false, .int .i64 0, .string ⟨#[]⟩, .bool false, .int .i64 4096, .slice none 0 0, .int .i64 4096, .int .i64 4096, .slice none 0 0, .int .i64 4096, .int .i64 4096, .int .i64 4096, .int .i64 1, .int .i64 4294967295, .int .i64 65535, .int .i64 16384, .int .i64 4294967295, .slice sA sn sc, .int .i64 held, .int .i64 told, .int .i64 0, .slice none 0 0, .slice none 0 0, .slice none 0 0, .int .i64 65535, .int .i64 65535, .slice oA on oc, .int .i64 made, .int .i64 gone, .bool begun, .bool false, .bool false, .int .u32 0, .int .i64 t, .int .i64 30] : List Value) 0 wd (Kept.refl wd (w.heap.size + 1))
  replace hL := lo_cells (Nat.le_succ _) ([.int .i64 got, .string ⟨#[]⟩, .bool false, .int .i64 0, .string ⟨#[]⟩, .bool false, .int .i64 4096, .slice none 0 0, .int .i64 4096, .int .i64 4096, .slice none 0 0, .int .i64 4096, .int .i64 4096, .int .i64 4096, .int .i64 1, .int .i64 4294967295, .int .i64 65535, .int .i64 16384, .int .i64 4294967295, .slice sA sn sc, .int .i64 held, .int .i64 told, .int .i64 0, .slice none 0 0, .slice none 0 0, .slice none 0 0, .int .i64 65535, .int .i64 65535, .slice oA on oc, .int .i64 made, .int .i64 gone, .bool begun, .bool false, .bool false, .int .u32 0, .int .i64 t, .int .i64 30] : List Value) 0 wd hL
  replace hM := hM.kept hKr (by omega)
  replace hR := hR.setAll (#[.int .i64 got, .string ⟨#[]⟩, .bool false, .int .i64 0, .string ⟨#[]⟩, .bool false, .int .i64 4096, .slice none 0 0, .int .i64 4096, .int .i64 4096, .slice none 0 0, .int .i64 4096, .int .i64 4096, .int .i64 4096, .int .i64 1, .int .i64 4294967295, .int .i64 65535, .int .i64 16384, .int .i64 4294967295, .slice sA sn sc, .int .i64 held, .int .i64 told, .int .i64 0, .slice none 0 0, .slice none 0 0, .slice none 0 0, .int .i64 65535, .int .i64 65535, .slice oA on oc, .int .i64 made, .int .i64 gone, .bool begun, .bool false, .bool false, .int .u32 0, .int .i64 t, .int .i64 30] : Array Value) rfl
  refine hK.out _ _ ?_ (fun hHeld8 => ?_)
  focus ((try dsimp only); (exact ⟨fun j v hv => blk_range hM ([.int .i64 got, .string ⟨#[]⟩, .bool false, .int .i64 0, .string ⟨#[]⟩, .bool false, .int .i64 4096, .slice none 0 0, .int .i64 4096, .int .i64 4096, .slice none 0 0, .int .i64 4096, .int .i64 4096, .int .i64 4096, .int .i64 1, .int .i64 4294967295, .int .i64 65535, .int .i64 16384, .int .i64 4294967295, .slice sA sn sc, .int .i64 held, .int .i64 told, .int .i64 0, .slice none 0 0, .slice none 0 0, .slice none 0 0, .int .i64 65535, .int .i64 65535, .slice oA on oc, .int .i64 made, .int .i64 gone, .bool begun, .bool false, .bool false, .int .u32 0, .int .i64 t, .int .i64 30] : List Value) [.slice none 0 0] rfl j v hv, hM.facts.1 37, hM.lt⟩))
  clear hK K hHeld
  have hHeld := hHeld8
  clear hHeld8
  (try simp only [Act.put, List.setIfInBounds_toArray, List.set_cons_zero, List.set_cons_succ])
  first
  | (refine wpAnyH_take (i := 9) (oi := _) (v := ?_) (getop rfl) (by kernel_rfl) (by kernel_rfl) (by kernel_rfl) (fun _ _ _ h => h) (Or.inl ⟨by rfl, ?_⟩) (by assumption) ?_; rotate_left; focus (intro w hSw; (try dsimp only at hSw); go_simp; (try with_reducible rfl); done))
  | (refine wpAnyH_take (i := 9) (oi := _) (v := undef) (getop rfl) (by kernel_rfl) (by kernel_rfl) (by kernel_rfl) (fun _ _ _ h => h) (Or.inr ⟨by rfl, rfl⟩) (by assumption) ?_)
  (try simp only [Act.put, List.setIfInBounds_toArray, List.set_cons_zero, List.set_cons_succ])
  refine wpAnyH_done (by kernel_rfl) ?_ _
  clear hHeld
  go_wp2_with fail
  refine bodyPost_ret (results_big (fn := Tryz.f9) (p := 4) (u := 5) rfl rfl hR Tryz.underlying49 rfl size49) rfl ?_
  exact ⟨rfl, hL⟩
set_option maxRecDepth 100000 in
set_option maxHeartbeats 12800000 in
theorem tick_late (got : Int) (sA : Option Addr) (sn sc : Nat) (held told : Int) (oA : Option Addr) (on oc : Nat) (made gone : Int) (begun : Bool) (now : Int) (ol : List ByteArray) (l : List It) (t : Int) (w : World) (ht : now < t) (ht2 : t ≤ 1099511627776) (hl : ItsOk w sA sn sc l) (hT : ∀ x ∈ l, x.t ≤ t) (hlate : lateB l t = true) (h0 : 0 ≤ t) (ho : OutOk w oA on oc ol made gone) (hmm : made + 17 ≤ 60000) : Calls Tryz.prog 9 #[.agg #[.int .i64 got, .string ⟨#[]⟩, .bool false, .int .i64 0, .string ⟨#[]⟩, .bool false, .int .i64 4096, .slice none 0 0, .int .i64 4096, .int .i64 4096, .slice none 0 0, .int .i64 4096, .int .i64 4096, .int .i64 4096, .int .i64 1, .int .i64 4294967295, .int .i64 65535, .int .i64 16384, .int .i64 4294967295, .slice sA sn sc, .int .i64 held, .int .i64 told, .int .i64 0, .slice none 0 0, .slice none 0 0, .slice none 0 0, .int .i64 65535, .int .i64 65535, .slice oA on oc, .int .i64 made, .int .i64 gone, .bool begun, .bool false, .bool false, .int .u32 0, .int .i64 now, .int .i64 30], .int .i64 t] w (ConnPost w 17 (fun o md => #[.int .i64 got, .string ⟨#[]⟩, .bool false, .int .i64 0, .string ⟨#[]⟩, .bool false, .int .i64 4096, .slice none 0 0, .int .i64 4096, .int .i64 4096, .slice none 0 0, .int .i64 4096, .int .i64 4096, .int .i64 4096, .int .i64 1, .int .i64 4294967295, .int .i64 65535, .int .i64 16384, .int .i64 4294967295, .slice sA sn sc, .int .i64 held, .int .i64 told, .int .i64 0, .slice none 0 0, .slice none 0 0, .slice none 0 0, .int .i64 65535, .int .i64 65535, o, .int .i64 md, .int .i64 gone, .bool begun, .bool false, .bool true, .int .u32 4, .int .i64 t, .int .i64 30]) made gone (.slice none 0 0)) := by
  have H1 : Hid (∀ W, Calls Tryz.prog 19 #[.agg #[.int .i64 got, .string ⟨#[]⟩, .bool false, .int .i64 0, .string ⟨#[]⟩, .bool false, .int .i64 4096, .slice none 0 0, .int .i64 4096, .int .i64 4096, .slice none 0 0, .int .i64 4096, .int .i64 4096, .int .i64 4096, .int .i64 1, .int .i64 4294967295, .int .i64 65535, .int .i64 16384, .int .i64 4294967295, .slice sA sn sc, .int .i64 held, .int .i64 told, .int .i64 0, .slice none 0 0, .slice none 0 0, .slice none 0 0, .int .i64 65535, .int .i64 65535, .slice oA on oc, .int .i64 made, .int .i64 gone, .bool begun, .bool false, .bool false, .int .u32 0, .int .i64 now, .int .i64 30]] W (StartPost W #[.int .i64 got, .string ⟨#[]⟩, .bool false, .int .i64 0, .string ⟨#[]⟩, .bool false, .int .i64 4096, .slice none 0 0, .int .i64 4096, .int .i64 4096, .slice none 0 0, .int .i64 4096, .int .i64 4096, .int .i64 4096, .int .i64 1, .int .i64 4294967295, .int .i64 65535, .int .i64 16384, .int .i64 4294967295, .slice sA sn sc, .int .i64 held, .int .i64 told, .int .i64 0, .slice none 0 0, .slice none 0 0, .slice none 0 0, .int .i64 65535, .int .i64 65535, .slice oA on oc, .int .i64 made, .int .i64 gone, .bool begun, .bool false, .bool false, .int .u32 0, .int .i64 now, .int .i64 30, .slice none 0 0])) := Lib.hid fun W => start_any got sA sn sc held told oA on oc made gone begun false 0 now W
  have H2 : Hid (∀ W, Below w.heap.size w W → Calls Tryz.prog 29 #[.slice sA sn sc, .int .i64 t, .int .i64 30] W (BoolSame W true)) := Lib.hid fun W hb => by
    have h := ulate_any sA sn sc l t W (hl.lo hb) ⟨h0, ht2⟩ hT
    rw [hlate] at h
    exact h
  have H3 : Hid (∀ W g, Blk W g 89 #[.int .i64 got, .string ⟨#[]⟩, .bool false, .int .i64 0, .string ⟨#[]⟩, .bool false, .int .i64 4096, .slice none 0 0, .int .i64 4096, .int .i64 4096, .slice none 0 0, .int .i64 4096, .int .i64 4096, .int .i64 4096, .int .i64 1, .int .i64 4294967295, .int .i64 65535, .int .i64 16384, .int .i64 4294967295, .slice sA sn sc, .int .i64 held, .int .i64 told, .int .i64 0, .slice none 0 0, .slice none 0 0, .slice none 0 0, .int .i64 65535, .int .i64 65535, .slice oA on oc, .int .i64 made, .int .i64 gone, .bool begun, .bool false, .bool false, .int .u32 0, .int .i64 t, .int .i64 30, .slice none 0 0] → OutOk W oA on oc ol made gone → Calls Tryz.prog 28 #[.pointer (some ⟨g, 0, none⟩), .int .u32 4] W (EmitPost W g 17 (fun o md => #[.int .i64 got, .string ⟨#[]⟩, .bool false, .int .i64 0, .string ⟨#[]⟩, .bool false, .int .i64 4096, .slice none 0 0, .int .i64 4096, .int .i64 4096, .slice none 0 0, .int .i64 4096, .int .i64 4096, .int .i64 4096, .int .i64 1, .int .i64 4294967295, .int .i64 65535, .int .i64 16384, .int .i64 4294967295, .slice sA sn sc, .int .i64 held, .int .i64 told, .int .i64 0, .slice none 0 0, .slice none 0 0, .slice none 0 0, .int .i64 65535, .int .i64 65535, o, .int .i64 md, .int .i64 gone, .bool begun, .bool false, .bool true, .int .u32 4, .int .i64 t, .int .i64 30, .slice none 0 0]) made gone)) := Lib.hid fun W g h1 h2 => fail_any got sA sn sc held told oA on oc ol made gone begun t 4 g W h1 h2 hmm (.inr rfl)
  have HO := Lib.hid ho
  clear ho hmm
  have hn1 : ¬ t ≤ now := by omega
  have hn2 : ¬ 1099511627776 < t := by omega
  clear hl hT hlate h0 ht ht2
  have hB := Blk.new w 49 #[.int .i64 got, .string ⟨#[]⟩, .bool false, .int .i64 0, .string ⟨#[]⟩, .bool false, .int .i64 4096, .slice none 0 0, .int .i64 4096, .int .i64 4096, .slice none 0 0, .int .i64 4096, .int .i64 4096, .int .i64 4096, .int .i64 1, .int .i64 4294967295, .int .i64 65535, .int .i64 16384, .int .i64 4294967295, .slice sA sn sc, .int .i64 held, .int .i64 told, .int .i64 0, .slice none 0 0, .slice none 0 0, .slice none 0 0, .int .i64 65535, .int .i64 65535, .slice oA on oc, .int .i64 made, .int .i64 gone, .bool begun, .bool false, .bool false, .int .u32 0, .int .i64 now, .int .i64 30]
  have hL := lo_alloc (lo_refl w) (.cells #[.int .i64 got, .string ⟨#[]⟩, .bool false, .int .i64 0, .string ⟨#[]⟩, .bool false, .int .i64 4096, .slice none 0 0, .int .i64 4096, .int .i64 4096, .slice none 0 0, .int .i64 4096, .int .i64 4096, .int .i64 4096, .int .i64 1, .int .i64 4294967295, .int .i64 65535, .int .i64 16384, .int .i64 4294967295, .slice sA sn sc, .int .i64 held, .int .i64 told, .int .i64 0, .slice none 0 0, .slice none 0 0, .slice none 0 0, .int .i64 65535, .int .i64 65535, .slice oA on oc, .int .i64 made, .int .i64 gone, .bool begun, .bool false, .bool false, .int .u32 0, .int .i64 now, .int .i64 30] 49)
  have hR := Blk.new (w.alloc (.cells #[.int .i64 got, .string ⟨#[]⟩, .bool false, .int .i64 0, .string ⟨#[]⟩, .bool false, .int .i64 4096, .slice none 0 0, .int .i64 4096, .int .i64 4096, .slice none 0 0, .int .i64 4096, .int .i64 4096, .int .i64 4096, .int .i64 1, .int .i64 4294967295, .int .i64 65535, .int .i64 16384, .int .i64 4294967295, .slice sA sn sc, .int .i64 held, .int .i64 told, .int .i64 0, .slice none 0 0, .slice none 0 0, .slice none 0 0, .int .i64 65535, .int .i64 65535, .slice oA on oc, .int .i64 made, .int .i64 gone, .bool begun, .bool false, .bool false, .int .u32 0, .int .i64 now, .int .i64 30] 49)) 49 #[.int .i64 0, .string ⟨#[]⟩, .bool false, .int .i64 0, .string ⟨#[]⟩, .bool false, .int .i64 0, .slice none 0 0, .int .i64 0, .int .i64 0, .slice none 0 0, .int .i64 0, .int .i64 0, .int .i64 0, .int .i64 0, .int .i64 0, .int .i64 0, .int .i64 0, .int .i64 0, .slice none 0 0, .int .i64 0, .int .i64 0, .int .i64 0, .slice none 0 0, .slice none 0 0, .slice none 0 0, .int .i64 0, .int .i64 0, .slice none 0 0, .int .i64 0, .int .i64 0, .bool false, .bool false, .bool false, .int .u32 0, .int .i64 0, .int .i64 0]
  replace hB := hB.alloc (.cells #[.int .i64 0, .string ⟨#[]⟩, .bool false, .int .i64 0, .string ⟨#[]⟩, .bool false, .int .i64 0, .slice none 0 0, .int .i64 0, .int .i64 0, .slice none 0 0, .int .i64 0, .int .i64 0, .int .i64 0, .int .i64 0, .int .i64 0, .int .i64 0, .int .i64 0, .int .i64 0, .slice none 0 0, .int .i64 0, .int .i64 0, .int .i64 0, .slice none 0 0, .slice none 0 0, .slice none 0 0, .int .i64 0, .int .i64 0, .slice none 0 0, .int .i64 0, .int .i64 0, .bool false, .bool false, .bool false, .int .u32 0, .int .i64 0, .int .i64 0] 49)
  replace hL := lo_alloc hL (.cells #[.int .i64 0, .string ⟨#[]⟩, .bool false, .int .i64 0, .string ⟨#[]⟩, .bool false, .int .i64 0, .slice none 0 0, .int .i64 0, .int .i64 0, .slice none 0 0, .int .i64 0, .int .i64 0, .int .i64 0, .int .i64 0, .int .i64 0, .int .i64 0, .int .i64 0, .int .i64 0, .slice none 0 0, .int .i64 0, .int .i64 0, .int .i64 0, .slice none 0 0, .slice none 0 0, .slice none 0 0, .int .i64 0, .int .i64 0, .slice none 0 0, .int .i64 0, .int .i64 0, .bool false, .bool false, .bool false, .int .u32 0, .int .i64 0, .int .i64 0] 49)
  simp only [World.size_alloc] at hR
  obtain ⟨cB, fB⟩ := hB.facts
  have c35 : ((w.alloc (.cells #[.int .i64 got, .string ⟨#[]⟩, .bool false, .int .i64 0, .string ⟨#[]⟩, .bool false, .int .i64 4096, .slice none 0 0, .int .i64 4096, .int .i64 4096, .slice none 0 0, .int .i64 4096, .int .i64 4096, .int .i64 4096, .int .i64 1, .int .i64 4294967295, .int .i64 65535, .int .i64 16384, .int .i64 4294967295, .slice sA sn sc, .int .i64 held, .int .i64 told, .int .i64 0, .slice none 0 0, .slice none 0 0, .slice none 0 0, .int .i64 65535, .int .i64 65535, .slice oA on oc, .int .i64 made, .int .i64 gone, .bool begun, .bool false, .bool false, .int .u32 0, .int .i64 now, .int .i64 30] 49)).alloc (.cells #[.int .i64 0, .string ⟨#[]⟩, .bool false, .int .i64 0, .string ⟨#[]⟩, .bool false, .int .i64 0, .slice none 0 0, .int .i64 0, .int .i64 0, .slice none 0 0, .int .i64 0, .int .i64 0, .int .i64 0, .int .i64 0, .int .i64 0, .int .i64 0, .int .i64 0, .int .i64 0, .slice none 0 0, .int .i64 0, .int .i64 0, .int .i64 0, .slice none 0 0, .slice none 0 0, .slice none 0 0, .int .i64 0, .int .i64 0, .slice none 0 0, .int .i64 0, .int .i64 0, .bool false, .bool false, .bool false, .int .u32 0, .int .i64 0, .int .i64 0] 49)).cell? ⟨w.heap.size, 35, none⟩ = some (.int .i64 now) := by rw [cB]; rfl
  clear cB fB
  go_enter Tryz.func9, Tryz.ntmps9
  go_upto_region 3 with fail
  clear c35 hn1 hn2
  generalize (w.alloc (.cells #[.int .i64 got, .string ⟨#[]⟩, .bool false, .int .i64 0, .string ⟨#[]⟩, .bool false, .int .i64 4096, .slice none 0 0, .int .i64 4096, .int .i64 4096, .slice none 0 0, .int .i64 4096, .int .i64 4096, .int .i64 4096, .int .i64 1, .int .i64 4294967295, .int .i64 65535, .int .i64 16384, .int .i64 4294967295, .slice sA sn sc, .int .i64 held, .int .i64 told, .int .i64 0, .slice none 0 0, .slice none 0 0, .slice none 0 0, .int .i64 65535, .int .i64 65535, .slice oA on oc, .int .i64 made, .int .i64 gone, .bool begun, .bool false, .bool false, .int .u32 0, .int .i64 now, .int .i64 30] 49)).alloc (.cells #[.int .i64 0, .string ⟨#[]⟩, .bool false, .int .i64 0, .string ⟨#[]⟩, .bool false, .int .i64 0, .slice none 0 0, .int .i64 0, .int .i64 0, .slice none 0 0, .int .i64 0, .int .i64 0, .int .i64 0, .int .i64 0, .int .i64 0, .int .i64 0, .int .i64 0, .int .i64 0, .slice none 0 0, .int .i64 0, .int .i64 0, .int .i64 0, .slice none 0 0, .slice none 0 0, .slice none 0 0, .int .i64 0, .int .i64 0, .slice none 0 0, .int .i64 0, .int .i64 0, .bool false, .bool false, .bool false, .int .u32 0, .int .i64 0, .int .i64 0] 49) = w2 at hB hR hL ⊢
  have hrg := blk_range hB [.int .i64 got, .string ⟨#[]⟩, .bool false, .int .i64 0, .string ⟨#[]⟩, .bool false, .int .i64 4096, .slice none 0 0, .int .i64 4096, .int .i64 4096, .slice none 0 0, .int .i64 4096, .int .i64 4096, .int .i64 4096, .int .i64 1, .int .i64 4294967295, .int .i64 65535, .int .i64 16384, .int .i64 4294967295, .slice sA sn sc, .int .i64 held, .int .i64 told, .int .i64 0, .slice none 0 0, .slice none 0 0, .slice none 0 0, .int .i64 65535, .int .i64 65535, .slice oA on oc, .int .i64 made, .int .i64 gone, .bool begun, .bool false, .bool false, .int .u32 0, .int .i64 now, .int .i64 30] [] rfl
  go_wp2_with (refine wpList_load_mid rfl 49 _ rfl (w.heap.size) 0 rfl [.int .i64 got, .string ⟨#[]⟩, .bool false, .int .i64 0, .string ⟨#[]⟩, .bool false, .int .i64 4096, .slice none 0 0, .int .i64 4096, .int .i64 4096, .slice none 0 0, .int .i64 4096, .int .i64 4096, .int .i64 4096, .int .i64 1, .int .i64 4294967295, .int .i64 65535, .int .i64 16384, .int .i64 4294967295, .slice sA sn sc, .int .i64 held, .int .i64 told, .int .i64 0, .slice none 0 0, .slice none 0 0, .slice none 0 0, .int .i64 65535, .int .i64 65535, .slice oA on oc, .int .i64 made, .int .i64 gone, .bool begun, .bool false, .bool false, .int .u32 0, .int .i64 now, .int .i64 30] _ hrg Tryz.underlying49 rfl size49 ?_)
  refine (H1.out _).mono ?_
  rintro e w3 ⟨g, rfl, hM, hg, hb⟩
  clear hrg hB H1
  have hgR : w.heap.size + 2 ≤ g := by have := hR.lt; omega
  replace hR := hR.lo hb
  replace hL := lo_trans hL hb
  clear hb hg
  obtain ⟨cM, fM⟩ := hM.facts
  have lM := hM.lt
  go_upto_region 5 with fail
  clear cM fM lM
  replace hR := hR.far (p := ⟨g, 35, none⟩) (show w.heap.size + 1 ≠ g by omega) (.int .i64 t)
  replace hL := lo_set hL (p := ⟨g, 35, none⟩) (show w.heap.size ≤ g by omega) (.int .i64 t)
  replace hM := hM.set_ 35 (.int .i64 t)
  simp only [List.setIfInBounds_toArray, List.set_cons_zero, List.set_cons_succ] at hM
  generalize w3.setCell ⟨g, 35, none⟩ (.int .i64 t) = w4 at hM hR hL ⊢
  refine wp_region_held_drew (S := (fun W => W.cell? ⟨g, 19, none⟩ = some (.slice sA sn sc) ∧ W.cell? ⟨g, 36, none⟩ = some (.int .i64 30) ∧ g < W.heap.size)) (by kernel_rfl) ?_ (fun hHeld => ?_)
  focus ((try dsimp only); (have r := hM.facts.1; exact ⟨r 19, r 36, hM.lt⟩))
  replace hM : Blk w4.drew _ _ _ := hM
  replace hR : Blk w4.drew _ _ _ := hR
  replace hL := lo_drew hL
  generalize w4.drew = wr at hM hR hL hHeld ⊢
  first
  | (refine wpAnyH_take (i := 0) (oi := _) (v := ?_) (getop rfl) (by kernel_rfl) (by kernel_rfl) (by kernel_rfl) (fun _ _ _ h => h) (Or.inl ⟨by rfl, ?_⟩) (by assumption) ?_; rotate_left; focus (intro w hSw; (try dsimp only at hSw); go_simp; (try with_reducible rfl); done))
  | (refine wpAnyH_take (i := 0) (oi := _) (v := undef) (getop rfl) (by kernel_rfl) (by kernel_rfl) (by kernel_rfl) (fun _ _ _ h => h) (Or.inr ⟨by rfl, rfl⟩) (by assumption) ?_)
  (try simp only [Act.put, List.setIfInBounds_toArray, List.set_cons_zero, List.set_cons_succ])
  first
  | (refine wpAnyH_take (i := 5) (oi := _) (v := ?_) (getop rfl) (by kernel_rfl) (by kernel_rfl) (by kernel_rfl) (fun _ _ _ h => h) (Or.inl ⟨by rfl, ?_⟩) (by assumption) ?_; rotate_left; focus (intro w hSw; (try dsimp only at hSw); go_simp; (try with_reducible rfl); done))
  | (refine wpAnyH_take (i := 5) (oi := _) (v := undef) (getop rfl) (by kernel_rfl) (by kernel_rfl) (by kernel_rfl) (fun _ _ _ h => h) (Or.inr ⟨by rfl, rfl⟩) (by assumption) ?_)
  (try simp only [Act.put, List.setIfInBounds_toArray, List.set_cons_zero, List.set_cons_succ])
  first
  | (refine wpAnyH_take (i := 6) (oi := _) (v := ?_) (getop rfl) (by kernel_rfl) (by kernel_rfl) (by kernel_rfl) (fun _ _ _ h => h) (Or.inl ⟨by rfl, ?_⟩) (by assumption) ?_; rotate_left; focus (intro w hSw; (try dsimp only at hSw); go_simp; (try with_reducible rfl); done))
  | (refine wpAnyH_take (i := 6) (oi := _) (v := undef) (getop rfl) (by kernel_rfl) (by kernel_rfl) (by kernel_rfl) (fun _ _ _ h => h) (Or.inr ⟨by rfl, rfl⟩) (by assumption) ?_)
  (try simp only [Act.put, List.setIfInBounds_toArray, List.set_cons_zero, List.set_cons_succ])
  first
  | (refine wpAnyH_take (i := 1) (oi := _) (v := ?_) (getop rfl) (by kernel_rfl) (by kernel_rfl) (by kernel_rfl) (fun _ _ _ h => h) (Or.inl ⟨by rfl, ?_⟩) (by assumption) ?_; rotate_left; focus (intro w hSw; (try dsimp only at hSw); go_simp; (try with_reducible rfl); done))
  | (refine wpAnyH_take (i := 1) (oi := _) (v := undef) (getop rfl) (by kernel_rfl) (by kernel_rfl) (by kernel_rfl) (fun _ _ _ h => h) (Or.inr ⟨by rfl, rfl⟩) (by assumption) ?_)
  (try simp only [Act.put, List.setIfInBounds_toArray, List.set_cons_zero, List.set_cons_succ])
  first
  | (refine wpAnyH_take (i := 7) (oi := _) (v := ?_) (getop rfl) (by kernel_rfl) (by kernel_rfl) (by kernel_rfl) (fun _ _ _ h => h) (Or.inl ⟨by rfl, ?_⟩) (by assumption) ?_; rotate_left; focus (intro w hSw; (try dsimp only at hSw); go_simp; (try with_reducible rfl); done))
  | (refine wpAnyH_take (i := 7) (oi := _) (v := undef) (getop rfl) (by kernel_rfl) (by kernel_rfl) (by kernel_rfl) (fun _ _ _ h => h) (Or.inr ⟨by rfl, rfl⟩) (by assumption) ?_)
  (try simp only [Act.put, List.setIfInBounds_toArray, List.set_cons_zero, List.set_cons_succ])
  first
  | (refine wpAnyH_take (i := 2) (oi := _) (v := ?_) (getop rfl) (by kernel_rfl) (by kernel_rfl) (by kernel_rfl) (fun _ _ _ h => h) (Or.inl ⟨by rfl, ?_⟩) (by assumption) ?_; rotate_left; focus (intro w hSw; (try dsimp only at hSw); go_simp; (try with_reducible rfl); done))
  | (refine wpAnyH_take (i := 2) (oi := _) (v := undef) (getop rfl) (by kernel_rfl) (by kernel_rfl) (by kernel_rfl) (fun _ _ _ h => h) (Or.inr ⟨by rfl, rfl⟩) (by assumption) ?_)
  (try simp only [Act.put, List.setIfInBounds_toArray, List.set_cons_zero, List.set_cons_succ])
  first
  | (refine wpAnyH_take (i := 8) (oi := _) (v := ?_) (getop rfl) (by kernel_rfl) (by kernel_rfl) (by kernel_rfl) (fun _ _ _ h => h) (Or.inl ⟨by rfl, ?_⟩) (by assumption) ?_; rotate_left; focus (intro w hSw; (try dsimp only at hSw); go_simp; (try with_reducible rfl); done))
  | (refine wpAnyH_take (i := 8) (oi := _) (v := undef) (getop rfl) (by kernel_rfl) (by kernel_rfl) (by kernel_rfl) (fun _ _ _ h => h) (Or.inr ⟨by rfl, rfl⟩) (by assumption) ?_)
  (try simp only [Act.put, List.setIfInBounds_toArray, List.set_cons_zero, List.set_cons_succ])
  first
  | (refine wpAnyH_take (i := 3) (oi := _) (v := ?_) (getop rfl) (by kernel_rfl) (by kernel_rfl) (by kernel_rfl) (fun _ _ _ h => h) (Or.inl ⟨by rfl, ?_⟩) (by assumption) ?_; rotate_left; focus (intro w hSw; (try dsimp only at hSw); go_simp; (try with_reducible rfl); done))
  | (refine wpAnyH_take (i := 3) (oi := _) (v := undef) (getop rfl) (by kernel_rfl) (by kernel_rfl) (by kernel_rfl) (fun _ _ _ h => h) (Or.inr ⟨by rfl, rfl⟩) (by assumption) ?_)
  (try simp only [Act.put, List.setIfInBounds_toArray, List.set_cons_zero, List.set_cons_succ])
  first
  | (refine wpAnyH_take (i := 9) (oi := _) (v := ?_) (getop rfl) (by kernel_rfl) (by kernel_rfl) (by kernel_rfl) (fun _ _ _ h => h) (Or.inl ⟨by rfl, ?_⟩) (by assumption) ?_; rotate_left; focus (intro w hSw; (try dsimp only at hSw); go_simp; (try with_reducible rfl); done))
  | (refine wpAnyH_take (i := 9) (oi := _) (v := undef) (getop rfl) (by kernel_rfl) (by kernel_rfl) (by kernel_rfl) (fun _ _ _ h => h) (Or.inr ⟨by rfl, rfl⟩) (by assumption) ?_)
  (try simp only [Act.put, List.setIfInBounds_toArray, List.set_cons_zero, List.set_cons_succ])
  first
  | (refine wpAnyH_take (i := 4) (oi := _) (v := ?_) (getop rfl) (by kernel_rfl) (by kernel_rfl) (by kernel_rfl) (fun _ _ _ h => h) (Or.inl ⟨by rfl, ?_⟩) (by assumption) ?_; rotate_left; focus (intro w hSw; (try dsimp only at hSw); go_simp; (try with_reducible rfl); done))
  | (refine wpAnyH_take (i := 4) (oi := _) (v := undef) (getop rfl) (by kernel_rfl) (by kernel_rfl) (by kernel_rfl) (fun _ _ _ h => h) (Or.inr ⟨by rfl, rfl⟩) (by assumption) ?_)
  (try simp only [Act.put, List.setIfInBounds_toArray, List.set_cons_zero, List.set_cons_succ])
  first
  | (refine wpAnyH_take (i := 10) (oi := _) (v := ?_) (getop rfl) (by kernel_rfl) (by kernel_rfl) (by kernel_rfl) (fun _ _ _ h => h) (Or.inl ⟨by rfl, ?_⟩) (by assumption) ?_; rotate_left; focus (intro w hSw; (try dsimp only at hSw); go_simp; (try with_reducible rfl); done))
  | (refine wpAnyH_take (i := 10) (oi := _) (v := undef) (getop rfl) (by kernel_rfl) (by kernel_rfl) (by kernel_rfl) (fun _ _ _ h => h) (Or.inr ⟨by rfl, rfl⟩) (by assumption) ?_)
  (try simp only [Act.put, List.setIfInBounds_toArray, List.set_cons_zero, List.set_cons_succ])
  refine wpAnyH_ready (rs := [11]) (by kernel_rfl) (by simp) ?_
  refine (AllReadyH.cons (o := _) (getop rfl) (fun K hK => ?_) AllReadyH.nil)
  go_simp
  refine (H2.out _ hL).mono ?_
  rintro e wy ⟨rfl, rfl⟩
  refine hK.out _ _ ?_ (fun hHeld11 => ?_)
  focus ((try dsimp only); (have r := hM.facts.1; exact ⟨r 19, r 36, hM.lt⟩))
  clear hK K hHeld
  have hHeld := hHeld11
  clear hHeld11
  (try simp only [Act.put, List.setIfInBounds_toArray, List.set_cons_zero, List.set_cons_succ])
  refine wpAnyH_done (by kernel_rfl) ?_ _
  clear hHeld
  go_wp2_with fail
  refine (H3.out _ _ hM (HO.out.lo hL)).mono ?_
  rintro e w8 ⟨A2, n2, c2, l2, rfl, ho, hM2, hKt⟩
  replace hL := kept_lo hL hKt (by omega)
  replace hR := hR.kept hKt (by omega)
  clear hM hKt
  have hM := hM2
  clear hM2
  go_upto_region 7 with fail
  refine wp_region_held_drew (S := (fun W => W.rangeAt g 0 ([.int .i64 got, .string ⟨#[]⟩, .bool false, .int .i64 0, .string ⟨#[]⟩, .bool false, .int .i64 4096, .slice none 0 0, .int .i64 4096, .int .i64 4096, .slice none 0 0, .int .i64 4096, .int .i64 4096, .int .i64 4096, .int .i64 1, .int .i64 4294967295, .int .i64 65535, .int .i64 16384, .int .i64 4294967295, .slice sA sn sc, .int .i64 held, .int .i64 told, .int .i64 0, .slice none 0 0, .slice none 0 0, .slice none 0 0, .int .i64 65535, .int .i64 65535, .slice A2 n2 c2, .int .i64 (made + 17), .int .i64 gone, .bool begun, .bool false, .bool true, .int .u32 4, .int .i64 t, .int .i64 30] : List Value) ∧ W.cell? ⟨g, 37, none⟩ = some (.slice none 0 0) ∧ g < W.heap.size)) (by kernel_rfl) ?_ (fun hHeld => ?_)
  focus ((try dsimp only); (exact ⟨fun j v hv => blk_range hM ([.int .i64 got, .string ⟨#[]⟩, .bool false, .int .i64 0, .string ⟨#[]⟩, .bool false, .int .i64 4096, .slice none 0 0, .int .i64 4096, .int .i64 4096, .slice none 0 0, .int .i64 4096, .int .i64 4096, .int .i64 4096, .int .i64 1, .int .i64 4294967295, .int .i64 65535, .int .i64 16384, .int .i64 4294967295, .slice sA sn sc, .int .i64 held, .int .i64 told, .int .i64 0, .slice none 0 0, .slice none 0 0, .slice none 0 0, .int .i64 65535, .int .i64 65535, .slice A2 n2 c2, .int .i64 (made + 17), .int .i64 gone, .bool begun, .bool false, .bool true, .int .u32 4, .int .i64 t, .int .i64 30] : List Value) [.slice none 0 0] rfl j v hv, hM.facts.1 37, hM.lt⟩))
  replace hM : Blk w8.drew _ _ _ := hM
  replace hR : Blk w8.drew _ _ _ := hR
  replace hL := lo_drew hL
  replace ho := ho.lo (lo_drew (lo_refl w8))
  generalize w8.drew = wd at hM hR hL ho hHeld ⊢
  first
  | (refine wpAnyH_take (i := 0) (oi := _) (v := ?_) (getop rfl) (by kernel_rfl) (by kernel_rfl) (by kernel_rfl) (fun _ _ _ h => h) (Or.inl ⟨by rfl, ?_⟩) (by assumption) ?_; rotate_left; focus (intro w hSw; (try dsimp only at hSw); go_simp; (try with_reducible rfl); done))
  | (refine wpAnyH_take (i := 0) (oi := _) (v := undef) (getop rfl) (by kernel_rfl) (by kernel_rfl) (by kernel_rfl) (fun _ _ _ h => h) (Or.inr ⟨by rfl, rfl⟩) (by assumption) ?_)
  (try simp only [Act.put, List.setIfInBounds_toArray, List.set_cons_zero, List.set_cons_succ])
  first
  | (refine wpAnyH_take (i := 4) (oi := _) (v := ?_) (getop rfl) (by kernel_rfl) (by kernel_rfl) (by kernel_rfl) (fun _ _ _ h => h) (Or.inl ⟨by rfl, ?_⟩) (by assumption) ?_; rotate_left; focus (intro w hSw; (try dsimp only at hSw); go_simp; (try with_reducible rfl); done))
  | (refine wpAnyH_take (i := 4) (oi := _) (v := undef) (getop rfl) (by kernel_rfl) (by kernel_rfl) (by kernel_rfl) (fun _ _ _ h => h) (Or.inr ⟨by rfl, rfl⟩) (by assumption) ?_)
  (try simp only [Act.put, List.setIfInBounds_toArray, List.set_cons_zero, List.set_cons_succ])
  first
  | (refine wpAnyH_take (i := 1) (oi := _) (v := ?_) (getop rfl) (by kernel_rfl) (by kernel_rfl) (by kernel_rfl) (fun _ _ _ h => h) (Or.inl ⟨by rfl, ?_⟩) (by assumption) ?_; rotate_left; focus (intro w hSw; (try dsimp only at hSw); go_simp; (try with_reducible rfl); done))
  | (refine wpAnyH_take (i := 1) (oi := _) (v := undef) (getop rfl) (by kernel_rfl) (by kernel_rfl) (by kernel_rfl) (fun _ _ _ h => h) (Or.inr ⟨by rfl, rfl⟩) (by assumption) ?_)
  (try simp only [Act.put, List.setIfInBounds_toArray, List.set_cons_zero, List.set_cons_succ])
  first
  | (refine wpAnyH_take (i := 5) (oi := _) (v := ?_) (getop rfl) (by kernel_rfl) (by kernel_rfl) (by kernel_rfl) (fun _ _ _ h => h) (Or.inl ⟨by rfl, ?_⟩) (by assumption) ?_; rotate_left; focus (intro w hSw; (try dsimp only at hSw); go_simp; (try with_reducible rfl); done))
  | (refine wpAnyH_take (i := 5) (oi := _) (v := undef) (getop rfl) (by kernel_rfl) (by kernel_rfl) (by kernel_rfl) (fun _ _ _ h => h) (Or.inr ⟨by rfl, rfl⟩) (by assumption) ?_)
  (try simp only [Act.put, List.setIfInBounds_toArray, List.set_cons_zero, List.set_cons_succ])
  first
  | (refine wpAnyH_take (i := 2) (oi := _) (v := ?_) (getop rfl) (by kernel_rfl) (by kernel_rfl) (by kernel_rfl) (fun _ _ _ h => h) (Or.inl ⟨by rfl, ?_⟩) (by assumption) ?_; rotate_left; focus (intro w hSw; (try dsimp only at hSw); go_simp; (try with_reducible rfl); done))
  | (refine wpAnyH_take (i := 2) (oi := _) (v := undef) (getop rfl) (by kernel_rfl) (by kernel_rfl) (by kernel_rfl) (fun _ _ _ h => h) (Or.inr ⟨by rfl, rfl⟩) (by assumption) ?_)
  (try simp only [Act.put, List.setIfInBounds_toArray, List.set_cons_zero, List.set_cons_succ])
  first
  | (refine wpAnyH_take (i := 6) (oi := _) (v := ?_) (getop rfl) (by kernel_rfl) (by kernel_rfl) (by kernel_rfl) (fun _ _ _ h => h) (Or.inl ⟨by rfl, ?_⟩) (by assumption) ?_; rotate_left; focus (intro w hSw; (try dsimp only at hSw); go_simp; (try with_reducible rfl); done))
  | (refine wpAnyH_take (i := 6) (oi := _) (v := undef) (getop rfl) (by kernel_rfl) (by kernel_rfl) (by kernel_rfl) (fun _ _ _ h => h) (Or.inr ⟨by rfl, rfl⟩) (by assumption) ?_)
  (try simp only [Act.put, List.setIfInBounds_toArray, List.set_cons_zero, List.set_cons_succ])
  refine wpAnyH_take (i := 3) (oi := _) (v := .agg (#[.int .i64 got, .string ⟨#[]⟩, .bool false, .int .i64 0, .string ⟨#[]⟩, .bool false, .int .i64 4096, .slice none 0 0, .int .i64 4096, .int .i64 4096, .slice none 0 0, .int .i64 4096, .int .i64 4096, .int .i64 4096, .int .i64 1, .int .i64 4294967295, .int .i64 65535, .int .i64 16384, .int .i64 4294967295, .slice sA sn sc, .int .i64 held, .int .i64 told, .int .i64 0, .slice none 0 0, .slice none 0 0, .slice none 0 0, .int .i64 65535, .int .i64 65535, .slice A2 n2 c2, .int .i64 (made + 17), .int .i64 gone, .bool begun, .bool false, .bool true, .int .u32 4, .int .i64 t, .int .i64 30] : Array Value)) (getop rfl) (by kernel_rfl) (by kernel_rfl) (by kernel_rfl) (fun _ _ _ h => h) (yieldsIf_load_mid (by rfl) 49 _ rfl g 0 rfl ([.int .i64 got, .string ⟨#[]⟩, .bool false, .int .i64 0, .string ⟨#[]⟩, .bool false, .int .i64 4096, .slice none 0 0, .int .i64 4096, .int .i64 4096, .slice none 0 0, .int .i64 4096, .int .i64 4096, .int .i64 4096, .int .i64 1, .int .i64 4294967295, .int .i64 65535, .int .i64 16384, .int .i64 4294967295, .slice sA sn sc, .int .i64 held, .int .i64 told, .int .i64 0, .slice none 0 0, .slice none 0 0, .slice none 0 0, .int .i64 65535, .int .i64 65535, .slice A2 n2 c2, .int .i64 (made + 17), .int .i64 gone, .bool begun, .bool false, .bool true, .int .u32 4, .int .i64 t, .int .i64 30] : List Value) _ (fun w h => h.1) Tryz.underlying49 rfl size49) (by assumption) ?_
  (try simp only [Act.put, List.setIfInBounds_toArray, List.set_cons_zero, List.set_cons_succ])
  first
  | (refine wpAnyH_take (i := 7) (oi := _) (v := ?_) (getop rfl) (by kernel_rfl) (by kernel_rfl) (by kernel_rfl) (fun _ _ _ h => h) (Or.inl ⟨by rfl, ?_⟩) (by assumption) ?_; rotate_left; focus (intro w hSw; (try dsimp only at hSw); go_simp; (try with_reducible rfl); done))
  | (refine wpAnyH_take (i := 7) (oi := _) (v := undef) (getop rfl) (by kernel_rfl) (by kernel_rfl) (by kernel_rfl) (fun _ _ _ h => h) (Or.inr ⟨by rfl, rfl⟩) (by assumption) ?_)
  (try simp only [Act.put, List.setIfInBounds_toArray, List.set_cons_zero, List.set_cons_succ])
  refine wpAnyH_ready (rs := [8]) (by kernel_rfl) (by simp) ?_
  refine (AllReadyH.cons (o := _) (getop rfl) (fun K hK => ?_) AllReadyH.nil)
  rw [if_pos (by rfl)]
  refine wp_store_mid 49 _ _ rfl (w.heap.size + 1) 0 (#[.int .i64 got, .string ⟨#[]⟩, .bool false, .int .i64 0, .string ⟨#[]⟩, .bool false, .int .i64 4096, .slice none 0 0, .int .i64 4096, .int .i64 4096, .slice none 0 0, .int .i64 4096, .int .i64 4096, .int .i64 4096, .int .i64 1, .int .i64 4294967295, .int .i64 65535, .int .i64 16384, .int .i64 4294967295, .slice sA sn sc, .int .i64 held, .int .i64 told, .int .i64 0, .slice none 0 0, .slice none 0 0, .slice none 0 0, .int .i64 65535, .int .i64 65535, .slice A2 n2 c2, .int .i64 (made + 17), .int .i64 gone, .bool begun, .bool false, .bool true, .int .u32 4, .int .i64 t, .int .i64 30] : Array Value) rfl rfl (blk_there hR 37 rfl) size49 (by kernel_rfl) ?_
  have hKr := Kept.setCells ([.int .i64 got, .string ⟨#[]⟩, .bool false, .int .i64 0, .string ⟨#[]⟩, .bool false, .int .i64 4096, .slice none 0 0, .int .i64 4096, .int .i64 4096, .slice none 0 0, .int .i64 4096, .int .i64 4096, .int .i64 4096, .int .i64 1, .int .i64 4294967295, .int .i64 65535, .int .i64 16384, .int .i64 4294967295, .slice sA sn sc, .int .i64 held, .int .i64 told, .int .i64 0, .slice none 0 0, .slice none 0 0, .slice none 0 0, .int .i64 65535, .int .i64 65535, .slice A2 n2 c2, .int .i64 (made + 17), .int .i64 gone, .bool begun, .bool false, .bool true, .int .u32 4, .int .i64 t, .int .i64 30] : List Value) 0 wd (Kept.refl wd (w.heap.size + 1))
  replace ho := ho.keptT hKr hR (by decide)
  replace hL := lo_cells (Nat.le_succ _) ([.int .i64 got, .string ⟨#[]⟩, .bool false, .int .i64 0, .string ⟨#[]⟩, .bool false, .int .i64 4096, .slice none 0 0, .int .i64 4096, .int .i64 4096, .slice none 0 0, .int .i64 4096, .int .i64 4096, .int .i64 4096, .int .i64 1, .int .i64 4294967295, .int .i64 65535, .int .i64 16384, .int .i64 4294967295, .slice sA sn sc, .int .i64 held, .int .i64 told, .int .i64 0, .slice none 0 0, .slice none 0 0, .slice none 0 0, .int .i64 65535, .int .i64 65535, .slice A2 n2 c2, .int .i64 (made + 17), .int .i64 gone, .bool begun, .bool false, .bool true, .int .u32 4, .int .i64 t, .int .i64 30] : List Value) 0 wd hL
  replace hM := hM.kept hKr (by omega)
  replace hR := hR.setAll (#[.int .i64 got, .string ⟨#[]⟩, .bool false, .int .i64 0, .string ⟨#[]⟩, .bool false, .int .i64 4096, .slice none 0 0, .int .i64 4096, .int .i64 4096, .slice none 0 0, .int .i64 4096, .int .i64 4096, .int .i64 4096, .int .i64 1, .int .i64 4294967295, .int .i64 65535, .int .i64 16384, .int .i64 4294967295, .slice sA sn sc, .int .i64 held, .int .i64 told, .int .i64 0, .slice none 0 0, .slice none 0 0, .slice none 0 0, .int .i64 65535, .int .i64 65535, .slice A2 n2 c2, .int .i64 (made + 17), .int .i64 gone, .bool begun, .bool false, .bool true, .int .u32 4, .int .i64 t, .int .i64 30] : Array Value) rfl
  refine hK.out _ _ ?_ (fun hHeld8 => ?_)
  focus ((try dsimp only); (exact ⟨fun j v hv => blk_range hM ([.int .i64 got, .string ⟨#[]⟩, .bool false, .int .i64 0, .string ⟨#[]⟩, .bool false, .int .i64 4096, .slice none 0 0, .int .i64 4096, .int .i64 4096, .slice none 0 0, .int .i64 4096, .int .i64 4096, .int .i64 4096, .int .i64 1, .int .i64 4294967295, .int .i64 65535, .int .i64 16384, .int .i64 4294967295, .slice sA sn sc, .int .i64 held, .int .i64 told, .int .i64 0, .slice none 0 0, .slice none 0 0, .slice none 0 0, .int .i64 65535, .int .i64 65535, .slice A2 n2 c2, .int .i64 (made + 17), .int .i64 gone, .bool begun, .bool false, .bool true, .int .u32 4, .int .i64 t, .int .i64 30] : List Value) [.slice none 0 0] rfl j v hv, hM.facts.1 37, hM.lt⟩))
  clear hK K hHeld
  have hHeld := hHeld8
  clear hHeld8
  (try simp only [Act.put, List.setIfInBounds_toArray, List.set_cons_zero, List.set_cons_succ])
  first
  | (refine wpAnyH_take (i := 9) (oi := _) (v := ?_) (getop rfl) (by kernel_rfl) (by kernel_rfl) (by kernel_rfl) (fun _ _ _ h => h) (Or.inl ⟨by rfl, ?_⟩) (by assumption) ?_; rotate_left; focus (intro w hSw; (try dsimp only at hSw); go_simp; (try with_reducible rfl); done))
  | (refine wpAnyH_take (i := 9) (oi := _) (v := undef) (getop rfl) (by kernel_rfl) (by kernel_rfl) (by kernel_rfl) (fun _ _ _ h => h) (Or.inr ⟨by rfl, rfl⟩) (by assumption) ?_)
  (try simp only [Act.put, List.setIfInBounds_toArray, List.set_cons_zero, List.set_cons_succ])
  refine wpAnyH_done (by kernel_rfl) ?_ _
  clear hHeld
  go_wp2_with fail
  refine bodyPost_ret (results_big (fn := Tryz.f9) (p := 4) (u := 5) rfl rfl hR Tryz.underlying49 rfl size49) rfl ?_
  exact ⟨A2, n2, c2, l2, rfl, ho, hL⟩
set_option maxRecDepth 100000 in
set_option maxHeartbeats 12800000 in
theorem tick_dead_true (got : Int) (sA : Option Addr) (sn sc : Nat) (held told : Int) (oA : Option Addr) (on oc : Nat) (made gone : Int) (begun : Bool) (code now : Int) (ol : List ByteArray) (l : List It) (t : Int) (w : World) (ht : now < t) (ht2 : t ≤ 1099511627776) (hl : ItsOk w sA sn sc l) (hT : ∀ x ∈ l, x.t ≤ t) (hlate : lateB l t = true) (h0 : 0 ≤ t)  : Calls Tryz.prog 9 #[.agg #[.int .i64 got, .string ⟨#[]⟩, .bool false, .int .i64 0, .string ⟨#[]⟩, .bool false, .int .i64 4096, .slice none 0 0, .int .i64 4096, .int .i64 4096, .slice none 0 0, .int .i64 4096, .int .i64 4096, .int .i64 4096, .int .i64 1, .int .i64 4294967295, .int .i64 65535, .int .i64 16384, .int .i64 4294967295, .slice sA sn sc, .int .i64 held, .int .i64 told, .int .i64 0, .slice none 0 0, .slice none 0 0, .slice none 0 0, .int .i64 65535, .int .i64 65535, .slice oA on oc, .int .i64 made, .int .i64 gone, .bool begun, .bool false, .bool true, .int .u32 code, .int .i64 now, .int .i64 30], .int .i64 t] w (ValPost w (.tuple #[.agg #[.int .i64 got, .string ⟨#[]⟩, .bool false, .int .i64 0, .string ⟨#[]⟩, .bool false, .int .i64 4096, .slice none 0 0, .int .i64 4096, .int .i64 4096, .slice none 0 0, .int .i64 4096, .int .i64 4096, .int .i64 4096, .int .i64 1, .int .i64 4294967295, .int .i64 65535, .int .i64 16384, .int .i64 4294967295, .slice sA sn sc, .int .i64 held, .int .i64 told, .int .i64 0, .slice none 0 0, .slice none 0 0, .slice none 0 0, .int .i64 65535, .int .i64 65535, .slice oA on oc, .int .i64 made, .int .i64 gone, .bool begun, .bool false, .bool true, .int .u32 code, .int .i64 t, .int .i64 30], .slice none 0 0])) := by
  have H1 : Hid (∀ W, Calls Tryz.prog 19 #[.agg #[.int .i64 got, .string ⟨#[]⟩, .bool false, .int .i64 0, .string ⟨#[]⟩, .bool false, .int .i64 4096, .slice none 0 0, .int .i64 4096, .int .i64 4096, .slice none 0 0, .int .i64 4096, .int .i64 4096, .int .i64 4096, .int .i64 1, .int .i64 4294967295, .int .i64 65535, .int .i64 16384, .int .i64 4294967295, .slice sA sn sc, .int .i64 held, .int .i64 told, .int .i64 0, .slice none 0 0, .slice none 0 0, .slice none 0 0, .int .i64 65535, .int .i64 65535, .slice oA on oc, .int .i64 made, .int .i64 gone, .bool begun, .bool false, .bool true, .int .u32 code, .int .i64 now, .int .i64 30]] W (StartPost W #[.int .i64 got, .string ⟨#[]⟩, .bool false, .int .i64 0, .string ⟨#[]⟩, .bool false, .int .i64 4096, .slice none 0 0, .int .i64 4096, .int .i64 4096, .slice none 0 0, .int .i64 4096, .int .i64 4096, .int .i64 4096, .int .i64 1, .int .i64 4294967295, .int .i64 65535, .int .i64 16384, .int .i64 4294967295, .slice sA sn sc, .int .i64 held, .int .i64 told, .int .i64 0, .slice none 0 0, .slice none 0 0, .slice none 0 0, .int .i64 65535, .int .i64 65535, .slice oA on oc, .int .i64 made, .int .i64 gone, .bool begun, .bool false, .bool true, .int .u32 code, .int .i64 now, .int .i64 30, .slice none 0 0])) := Lib.hid fun W => start_any got sA sn sc held told oA on oc made gone begun true code now W
  have H2 : Hid (∀ W, Below w.heap.size w W → Calls Tryz.prog 29 #[.slice sA sn sc, .int .i64 t, .int .i64 30] W (BoolSame W true)) := Lib.hid fun W hb => by
    have h := ulate_any sA sn sc l t W (hl.lo hb) ⟨h0, ht2⟩ hT
    rw [hlate] at h
    exact h
  have H3 : Hid (∀ W g, Blk W g 89 #[.int .i64 got, .string ⟨#[]⟩, .bool false, .int .i64 0, .string ⟨#[]⟩, .bool false, .int .i64 4096, .slice none 0 0, .int .i64 4096, .int .i64 4096, .slice none 0 0, .int .i64 4096, .int .i64 4096, .int .i64 4096, .int .i64 1, .int .i64 4294967295, .int .i64 65535, .int .i64 16384, .int .i64 4294967295, .slice sA sn sc, .int .i64 held, .int .i64 told, .int .i64 0, .slice none 0 0, .slice none 0 0, .slice none 0 0, .int .i64 65535, .int .i64 65535, .slice oA on oc, .int .i64 made, .int .i64 gone, .bool begun, .bool false, .bool true, .int .u32 code, .int .i64 t, .int .i64 30, .slice none 0 0] → Calls Tryz.prog 28 #[.pointer (some ⟨g, 0, none⟩), .int .u32 4] W (fun e w' => e = .returned (.tuple #[]) ∧ W = w')) := Lib.hid fun W g h1 => fail_dead got sA sn sc held told oA on oc made gone begun code t 4 g W h1
  have hn1 : ¬ t ≤ now := by omega
  have hn2 : ¬ 1099511627776 < t := by omega
  clear hl hT hlate h0 ht ht2
  have hB := Blk.new w 49 #[.int .i64 got, .string ⟨#[]⟩, .bool false, .int .i64 0, .string ⟨#[]⟩, .bool false, .int .i64 4096, .slice none 0 0, .int .i64 4096, .int .i64 4096, .slice none 0 0, .int .i64 4096, .int .i64 4096, .int .i64 4096, .int .i64 1, .int .i64 4294967295, .int .i64 65535, .int .i64 16384, .int .i64 4294967295, .slice sA sn sc, .int .i64 held, .int .i64 told, .int .i64 0, .slice none 0 0, .slice none 0 0, .slice none 0 0, .int .i64 65535, .int .i64 65535, .slice oA on oc, .int .i64 made, .int .i64 gone, .bool begun, .bool false, .bool true, .int .u32 code, .int .i64 now, .int .i64 30]
  have hL := lo_alloc (lo_refl w) (.cells #[.int .i64 got, .string ⟨#[]⟩, .bool false, .int .i64 0, .string ⟨#[]⟩, .bool false, .int .i64 4096, .slice none 0 0, .int .i64 4096, .int .i64 4096, .slice none 0 0, .int .i64 4096, .int .i64 4096, .int .i64 4096, .int .i64 1, .int .i64 4294967295, .int .i64 65535, .int .i64 16384, .int .i64 4294967295, .slice sA sn sc, .int .i64 held, .int .i64 told, .int .i64 0, .slice none 0 0, .slice none 0 0, .slice none 0 0, .int .i64 65535, .int .i64 65535, .slice oA on oc, .int .i64 made, .int .i64 gone, .bool begun, .bool false, .bool true, .int .u32 code, .int .i64 now, .int .i64 30] 49)
  have hR := Blk.new (w.alloc (.cells #[.int .i64 got, .string ⟨#[]⟩, .bool false, .int .i64 0, .string ⟨#[]⟩, .bool false, .int .i64 4096, .slice none 0 0, .int .i64 4096, .int .i64 4096, .slice none 0 0, .int .i64 4096, .int .i64 4096, .int .i64 4096, .int .i64 1, .int .i64 4294967295, .int .i64 65535, .int .i64 16384, .int .i64 4294967295, .slice sA sn sc, .int .i64 held, .int .i64 told, .int .i64 0, .slice none 0 0, .slice none 0 0, .slice none 0 0, .int .i64 65535, .int .i64 65535, .slice oA on oc, .int .i64 made, .int .i64 gone, .bool begun, .bool false, .bool true, .int .u32 code, .int .i64 now, .int .i64 30] 49)) 49 #[.int .i64 0, .string ⟨#[]⟩, .bool false, .int .i64 0, .string ⟨#[]⟩, .bool false, .int .i64 0, .slice none 0 0, .int .i64 0, .int .i64 0, .slice none 0 0, .int .i64 0, .int .i64 0, .int .i64 0, .int .i64 0, .int .i64 0, .int .i64 0, .int .i64 0, .int .i64 0, .slice none 0 0, .int .i64 0, .int .i64 0, .int .i64 0, .slice none 0 0, .slice none 0 0, .slice none 0 0, .int .i64 0, .int .i64 0, .slice none 0 0, .int .i64 0, .int .i64 0, .bool false, .bool false, .bool false, .int .u32 0, .int .i64 0, .int .i64 0]
  replace hB := hB.alloc (.cells #[.int .i64 0, .string ⟨#[]⟩, .bool false, .int .i64 0, .string ⟨#[]⟩, .bool false, .int .i64 0, .slice none 0 0, .int .i64 0, .int .i64 0, .slice none 0 0, .int .i64 0, .int .i64 0, .int .i64 0, .int .i64 0, .int .i64 0, .int .i64 0, .int .i64 0, .int .i64 0, .slice none 0 0, .int .i64 0, .int .i64 0, .int .i64 0, .slice none 0 0, .slice none 0 0, .slice none 0 0, .int .i64 0, .int .i64 0, .slice none 0 0, .int .i64 0, .int .i64 0, .bool false, .bool false, .bool false, .int .u32 0, .int .i64 0, .int .i64 0] 49)
  replace hL := lo_alloc hL (.cells #[.int .i64 0, .string ⟨#[]⟩, .bool false, .int .i64 0, .string ⟨#[]⟩, .bool false, .int .i64 0, .slice none 0 0, .int .i64 0, .int .i64 0, .slice none 0 0, .int .i64 0, .int .i64 0, .int .i64 0, .int .i64 0, .int .i64 0, .int .i64 0, .int .i64 0, .int .i64 0, .slice none 0 0, .int .i64 0, .int .i64 0, .int .i64 0, .slice none 0 0, .slice none 0 0, .slice none 0 0, .int .i64 0, .int .i64 0, .slice none 0 0, .int .i64 0, .int .i64 0, .bool false, .bool false, .bool false, .int .u32 0, .int .i64 0, .int .i64 0] 49)
  simp only [World.size_alloc] at hR
  obtain ⟨cB, fB⟩ := hB.facts
  have c35 : ((w.alloc (.cells #[.int .i64 got, .string ⟨#[]⟩, .bool false, .int .i64 0, .string ⟨#[]⟩, .bool false, .int .i64 4096, .slice none 0 0, .int .i64 4096, .int .i64 4096, .slice none 0 0, .int .i64 4096, .int .i64 4096, .int .i64 4096, .int .i64 1, .int .i64 4294967295, .int .i64 65535, .int .i64 16384, .int .i64 4294967295, .slice sA sn sc, .int .i64 held, .int .i64 told, .int .i64 0, .slice none 0 0, .slice none 0 0, .slice none 0 0, .int .i64 65535, .int .i64 65535, .slice oA on oc, .int .i64 made, .int .i64 gone, .bool begun, .bool false, .bool true, .int .u32 code, .int .i64 now, .int .i64 30] 49)).alloc (.cells #[.int .i64 0, .string ⟨#[]⟩, .bool false, .int .i64 0, .string ⟨#[]⟩, .bool false, .int .i64 0, .slice none 0 0, .int .i64 0, .int .i64 0, .slice none 0 0, .int .i64 0, .int .i64 0, .int .i64 0, .int .i64 0, .int .i64 0, .int .i64 0, .int .i64 0, .int .i64 0, .slice none 0 0, .int .i64 0, .int .i64 0, .int .i64 0, .slice none 0 0, .slice none 0 0, .slice none 0 0, .int .i64 0, .int .i64 0, .slice none 0 0, .int .i64 0, .int .i64 0, .bool false, .bool false, .bool false, .int .u32 0, .int .i64 0, .int .i64 0] 49)).cell? ⟨w.heap.size, 35, none⟩ = some (.int .i64 now) := by rw [cB]; rfl
  clear cB fB
  go_enter Tryz.func9, Tryz.ntmps9
  go_upto_region 3 with fail
  clear c35 hn1 hn2
  generalize (w.alloc (.cells #[.int .i64 got, .string ⟨#[]⟩, .bool false, .int .i64 0, .string ⟨#[]⟩, .bool false, .int .i64 4096, .slice none 0 0, .int .i64 4096, .int .i64 4096, .slice none 0 0, .int .i64 4096, .int .i64 4096, .int .i64 4096, .int .i64 1, .int .i64 4294967295, .int .i64 65535, .int .i64 16384, .int .i64 4294967295, .slice sA sn sc, .int .i64 held, .int .i64 told, .int .i64 0, .slice none 0 0, .slice none 0 0, .slice none 0 0, .int .i64 65535, .int .i64 65535, .slice oA on oc, .int .i64 made, .int .i64 gone, .bool begun, .bool false, .bool true, .int .u32 code, .int .i64 now, .int .i64 30] 49)).alloc (.cells #[.int .i64 0, .string ⟨#[]⟩, .bool false, .int .i64 0, .string ⟨#[]⟩, .bool false, .int .i64 0, .slice none 0 0, .int .i64 0, .int .i64 0, .slice none 0 0, .int .i64 0, .int .i64 0, .int .i64 0, .int .i64 0, .int .i64 0, .int .i64 0, .int .i64 0, .int .i64 0, .slice none 0 0, .int .i64 0, .int .i64 0, .int .i64 0, .slice none 0 0, .slice none 0 0, .slice none 0 0, .int .i64 0, .int .i64 0, .slice none 0 0, .int .i64 0, .int .i64 0, .bool false, .bool false, .bool false, .int .u32 0, .int .i64 0, .int .i64 0] 49) = w2 at hB hR hL ⊢
  have hrg := blk_range hB [.int .i64 got, .string ⟨#[]⟩, .bool false, .int .i64 0, .string ⟨#[]⟩, .bool false, .int .i64 4096, .slice none 0 0, .int .i64 4096, .int .i64 4096, .slice none 0 0, .int .i64 4096, .int .i64 4096, .int .i64 4096, .int .i64 1, .int .i64 4294967295, .int .i64 65535, .int .i64 16384, .int .i64 4294967295, .slice sA sn sc, .int .i64 held, .int .i64 told, .int .i64 0, .slice none 0 0, .slice none 0 0, .slice none 0 0, .int .i64 65535, .int .i64 65535, .slice oA on oc, .int .i64 made, .int .i64 gone, .bool begun, .bool false, .bool true, .int .u32 code, .int .i64 now, .int .i64 30] [] rfl
  go_wp2_with (refine wpList_load_mid rfl 49 _ rfl (w.heap.size) 0 rfl [.int .i64 got, .string ⟨#[]⟩, .bool false, .int .i64 0, .string ⟨#[]⟩, .bool false, .int .i64 4096, .slice none 0 0, .int .i64 4096, .int .i64 4096, .slice none 0 0, .int .i64 4096, .int .i64 4096, .int .i64 4096, .int .i64 1, .int .i64 4294967295, .int .i64 65535, .int .i64 16384, .int .i64 4294967295, .slice sA sn sc, .int .i64 held, .int .i64 told, .int .i64 0, .slice none 0 0, .slice none 0 0, .slice none 0 0, .int .i64 65535, .int .i64 65535, .slice oA on oc, .int .i64 made, .int .i64 gone, .bool begun, .bool false, .bool true, .int .u32 code, .int .i64 now, .int .i64 30] _ hrg Tryz.underlying49 rfl size49 ?_)
  refine (H1.out _).mono ?_
  rintro e w3 ⟨g, rfl, hM, hg, hb⟩
  clear hrg hB H1
  have hgR : w.heap.size + 2 ≤ g := by have := hR.lt; omega
  replace hR := hR.lo hb
  replace hL := lo_trans hL hb
  clear hb hg
  obtain ⟨cM, fM⟩ := hM.facts
  have lM := hM.lt
  go_upto_region 5 with fail
  clear cM fM lM
  replace hR := hR.far (p := ⟨g, 35, none⟩) (show w.heap.size + 1 ≠ g by omega) (.int .i64 t)
  replace hL := lo_set hL (p := ⟨g, 35, none⟩) (show w.heap.size ≤ g by omega) (.int .i64 t)
  replace hM := hM.set_ 35 (.int .i64 t)
  simp only [List.setIfInBounds_toArray, List.set_cons_zero, List.set_cons_succ] at hM
  generalize w3.setCell ⟨g, 35, none⟩ (.int .i64 t) = w4 at hM hR hL ⊢
  refine wp_region_held_drew (S := (fun W => W.cell? ⟨g, 19, none⟩ = some (.slice sA sn sc) ∧ W.cell? ⟨g, 36, none⟩ = some (.int .i64 30) ∧ g < W.heap.size)) (by kernel_rfl) ?_ (fun hHeld => ?_)
  focus ((try dsimp only); (have r := hM.facts.1; exact ⟨r 19, r 36, hM.lt⟩))
  replace hM : Blk w4.drew _ _ _ := hM
  replace hR : Blk w4.drew _ _ _ := hR
  replace hL := lo_drew hL
  generalize w4.drew = wr at hM hR hL hHeld ⊢
  first
  | (refine wpAnyH_take (i := 0) (oi := _) (v := ?_) (getop rfl) (by kernel_rfl) (by kernel_rfl) (by kernel_rfl) (fun _ _ _ h => h) (Or.inl ⟨by rfl, ?_⟩) (by assumption) ?_; rotate_left; focus (intro w hSw; (try dsimp only at hSw); go_simp; (try with_reducible rfl); done))
  | (refine wpAnyH_take (i := 0) (oi := _) (v := undef) (getop rfl) (by kernel_rfl) (by kernel_rfl) (by kernel_rfl) (fun _ _ _ h => h) (Or.inr ⟨by rfl, rfl⟩) (by assumption) ?_)
  (try simp only [Act.put, List.setIfInBounds_toArray, List.set_cons_zero, List.set_cons_succ])
  first
  | (refine wpAnyH_take (i := 5) (oi := _) (v := ?_) (getop rfl) (by kernel_rfl) (by kernel_rfl) (by kernel_rfl) (fun _ _ _ h => h) (Or.inl ⟨by rfl, ?_⟩) (by assumption) ?_; rotate_left; focus (intro w hSw; (try dsimp only at hSw); go_simp; (try with_reducible rfl); done))
  | (refine wpAnyH_take (i := 5) (oi := _) (v := undef) (getop rfl) (by kernel_rfl) (by kernel_rfl) (by kernel_rfl) (fun _ _ _ h => h) (Or.inr ⟨by rfl, rfl⟩) (by assumption) ?_)
  (try simp only [Act.put, List.setIfInBounds_toArray, List.set_cons_zero, List.set_cons_succ])
  first
  | (refine wpAnyH_take (i := 6) (oi := _) (v := ?_) (getop rfl) (by kernel_rfl) (by kernel_rfl) (by kernel_rfl) (fun _ _ _ h => h) (Or.inl ⟨by rfl, ?_⟩) (by assumption) ?_; rotate_left; focus (intro w hSw; (try dsimp only at hSw); go_simp; (try with_reducible rfl); done))
  | (refine wpAnyH_take (i := 6) (oi := _) (v := undef) (getop rfl) (by kernel_rfl) (by kernel_rfl) (by kernel_rfl) (fun _ _ _ h => h) (Or.inr ⟨by rfl, rfl⟩) (by assumption) ?_)
  (try simp only [Act.put, List.setIfInBounds_toArray, List.set_cons_zero, List.set_cons_succ])
  first
  | (refine wpAnyH_take (i := 1) (oi := _) (v := ?_) (getop rfl) (by kernel_rfl) (by kernel_rfl) (by kernel_rfl) (fun _ _ _ h => h) (Or.inl ⟨by rfl, ?_⟩) (by assumption) ?_; rotate_left; focus (intro w hSw; (try dsimp only at hSw); go_simp; (try with_reducible rfl); done))
  | (refine wpAnyH_take (i := 1) (oi := _) (v := undef) (getop rfl) (by kernel_rfl) (by kernel_rfl) (by kernel_rfl) (fun _ _ _ h => h) (Or.inr ⟨by rfl, rfl⟩) (by assumption) ?_)
  (try simp only [Act.put, List.setIfInBounds_toArray, List.set_cons_zero, List.set_cons_succ])
  first
  | (refine wpAnyH_take (i := 7) (oi := _) (v := ?_) (getop rfl) (by kernel_rfl) (by kernel_rfl) (by kernel_rfl) (fun _ _ _ h => h) (Or.inl ⟨by rfl, ?_⟩) (by assumption) ?_; rotate_left; focus (intro w hSw; (try dsimp only at hSw); go_simp; (try with_reducible rfl); done))
  | (refine wpAnyH_take (i := 7) (oi := _) (v := undef) (getop rfl) (by kernel_rfl) (by kernel_rfl) (by kernel_rfl) (fun _ _ _ h => h) (Or.inr ⟨by rfl, rfl⟩) (by assumption) ?_)
  (try simp only [Act.put, List.setIfInBounds_toArray, List.set_cons_zero, List.set_cons_succ])
  first
  | (refine wpAnyH_take (i := 2) (oi := _) (v := ?_) (getop rfl) (by kernel_rfl) (by kernel_rfl) (by kernel_rfl) (fun _ _ _ h => h) (Or.inl ⟨by rfl, ?_⟩) (by assumption) ?_; rotate_left; focus (intro w hSw; (try dsimp only at hSw); go_simp; (try with_reducible rfl); done))
  | (refine wpAnyH_take (i := 2) (oi := _) (v := undef) (getop rfl) (by kernel_rfl) (by kernel_rfl) (by kernel_rfl) (fun _ _ _ h => h) (Or.inr ⟨by rfl, rfl⟩) (by assumption) ?_)
  (try simp only [Act.put, List.setIfInBounds_toArray, List.set_cons_zero, List.set_cons_succ])
  first
  | (refine wpAnyH_take (i := 8) (oi := _) (v := ?_) (getop rfl) (by kernel_rfl) (by kernel_rfl) (by kernel_rfl) (fun _ _ _ h => h) (Or.inl ⟨by rfl, ?_⟩) (by assumption) ?_; rotate_left; focus (intro w hSw; (try dsimp only at hSw); go_simp; (try with_reducible rfl); done))
  | (refine wpAnyH_take (i := 8) (oi := _) (v := undef) (getop rfl) (by kernel_rfl) (by kernel_rfl) (by kernel_rfl) (fun _ _ _ h => h) (Or.inr ⟨by rfl, rfl⟩) (by assumption) ?_)
  (try simp only [Act.put, List.setIfInBounds_toArray, List.set_cons_zero, List.set_cons_succ])
  first
  | (refine wpAnyH_take (i := 3) (oi := _) (v := ?_) (getop rfl) (by kernel_rfl) (by kernel_rfl) (by kernel_rfl) (fun _ _ _ h => h) (Or.inl ⟨by rfl, ?_⟩) (by assumption) ?_; rotate_left; focus (intro w hSw; (try dsimp only at hSw); go_simp; (try with_reducible rfl); done))
  | (refine wpAnyH_take (i := 3) (oi := _) (v := undef) (getop rfl) (by kernel_rfl) (by kernel_rfl) (by kernel_rfl) (fun _ _ _ h => h) (Or.inr ⟨by rfl, rfl⟩) (by assumption) ?_)
  (try simp only [Act.put, List.setIfInBounds_toArray, List.set_cons_zero, List.set_cons_succ])
  first
  | (refine wpAnyH_take (i := 9) (oi := _) (v := ?_) (getop rfl) (by kernel_rfl) (by kernel_rfl) (by kernel_rfl) (fun _ _ _ h => h) (Or.inl ⟨by rfl, ?_⟩) (by assumption) ?_; rotate_left; focus (intro w hSw; (try dsimp only at hSw); go_simp; (try with_reducible rfl); done))
  | (refine wpAnyH_take (i := 9) (oi := _) (v := undef) (getop rfl) (by kernel_rfl) (by kernel_rfl) (by kernel_rfl) (fun _ _ _ h => h) (Or.inr ⟨by rfl, rfl⟩) (by assumption) ?_)
  (try simp only [Act.put, List.setIfInBounds_toArray, List.set_cons_zero, List.set_cons_succ])
  first
  | (refine wpAnyH_take (i := 4) (oi := _) (v := ?_) (getop rfl) (by kernel_rfl) (by kernel_rfl) (by kernel_rfl) (fun _ _ _ h => h) (Or.inl ⟨by rfl, ?_⟩) (by assumption) ?_; rotate_left; focus (intro w hSw; (try dsimp only at hSw); go_simp; (try with_reducible rfl); done))
  | (refine wpAnyH_take (i := 4) (oi := _) (v := undef) (getop rfl) (by kernel_rfl) (by kernel_rfl) (by kernel_rfl) (fun _ _ _ h => h) (Or.inr ⟨by rfl, rfl⟩) (by assumption) ?_)
  (try simp only [Act.put, List.setIfInBounds_toArray, List.set_cons_zero, List.set_cons_succ])
  first
  | (refine wpAnyH_take (i := 10) (oi := _) (v := ?_) (getop rfl) (by kernel_rfl) (by kernel_rfl) (by kernel_rfl) (fun _ _ _ h => h) (Or.inl ⟨by rfl, ?_⟩) (by assumption) ?_; rotate_left; focus (intro w hSw; (try dsimp only at hSw); go_simp; (try with_reducible rfl); done))
  | (refine wpAnyH_take (i := 10) (oi := _) (v := undef) (getop rfl) (by kernel_rfl) (by kernel_rfl) (by kernel_rfl) (fun _ _ _ h => h) (Or.inr ⟨by rfl, rfl⟩) (by assumption) ?_)
  (try simp only [Act.put, List.setIfInBounds_toArray, List.set_cons_zero, List.set_cons_succ])
  refine wpAnyH_ready (rs := [11]) (by kernel_rfl) (by simp) ?_
  refine (AllReadyH.cons (o := _) (getop rfl) (fun K hK => ?_) AllReadyH.nil)
  go_simp
  refine (H2.out _ hL).mono ?_
  rintro e wy ⟨rfl, rfl⟩
  refine hK.out _ _ ?_ (fun hHeld11 => ?_)
  focus ((try dsimp only); (have r := hM.facts.1; exact ⟨r 19, r 36, hM.lt⟩))
  clear hK K hHeld
  have hHeld := hHeld11
  clear hHeld11
  (try simp only [Act.put, List.setIfInBounds_toArray, List.set_cons_zero, List.set_cons_succ])
  refine wpAnyH_done (by kernel_rfl) ?_ _
  clear hHeld
  go_wp2_with fail
  refine (H3.out _ _ hM).mono ?_
  rintro e w8 ⟨rfl, rfl⟩
  go_upto_region 7 with fail
  refine wp_region_held_drew (S := (fun W => W.rangeAt g 0 ([.int .i64 got, .string ⟨#[]⟩, .bool false, .int .i64 0, .string ⟨#[]⟩, .bool false, .int .i64 4096, .slice none 0 0, .int .i64 4096, .int .i64 4096, .slice none 0 0, .int .i64 4096, .int .i64 4096, .int .i64 4096, .int .i64 1, .int .i64 4294967295, .int .i64 65535, .int .i64 16384, .int .i64 4294967295, .slice sA sn sc, .int .i64 held, .int .i64 told, .int .i64 0, .slice none 0 0, .slice none 0 0, .slice none 0 0, .int .i64 65535, .int .i64 65535, .slice oA on oc, .int .i64 made, .int .i64 gone, .bool begun, .bool false, .bool true, .int .u32 code, .int .i64 t, .int .i64 30] : List Value) ∧ W.cell? ⟨g, 37, none⟩ = some (.slice none 0 0) ∧ g < W.heap.size)) (by kernel_rfl) ?_ (fun hHeld => ?_)
  focus ((try dsimp only); (exact ⟨fun j v hv => blk_range hM ([.int .i64 got, .string ⟨#[]⟩, .bool false, .int .i64 0, .string ⟨#[]⟩, .bool false, .int .i64 4096, .slice none 0 0, .int .i64 4096, .int .i64 4096, .slice none 0 0, .int .i64 4096, .int .i64 4096, .int .i64 4096, .int .i64 1, .int .i64 4294967295, .int .i64 65535, .int .i64 16384, .int .i64 4294967295, .slice sA sn sc, .int .i64 held, .int .i64 told, .int .i64 0, .slice none 0 0, .slice none 0 0, .slice none 0 0, .int .i64 65535, .int .i64 65535, .slice oA on oc, .int .i64 made, .int .i64 gone, .bool begun, .bool false, .bool true, .int .u32 code, .int .i64 t, .int .i64 30] : List Value) [.slice none 0 0] rfl j v hv, hM.facts.1 37, hM.lt⟩))
  replace hM : Blk wr.drew _ _ _ := hM
  replace hR : Blk wr.drew _ _ _ := hR
  replace hL := lo_drew hL
  generalize wr.drew = wd at hM hR hL  hHeld ⊢
  first
  | (refine wpAnyH_take (i := 0) (oi := _) (v := ?_) (getop rfl) (by kernel_rfl) (by kernel_rfl) (by kernel_rfl) (fun _ _ _ h => h) (Or.inl ⟨by rfl, ?_⟩) (by assumption) ?_; rotate_left; focus (intro w hSw; (try dsimp only at hSw); go_simp; (try with_reducible rfl); done))
  | (refine wpAnyH_take (i := 0) (oi := _) (v := undef) (getop rfl) (by kernel_rfl) (by kernel_rfl) (by kernel_rfl) (fun _ _ _ h => h) (Or.inr ⟨by rfl, rfl⟩) (by assumption) ?_)
  (try simp only [Act.put, List.setIfInBounds_toArray, List.set_cons_zero, List.set_cons_succ])
  first
  | (refine wpAnyH_take (i := 4) (oi := _) (v := ?_) (getop rfl) (by kernel_rfl) (by kernel_rfl) (by kernel_rfl) (fun _ _ _ h => h) (Or.inl ⟨by rfl, ?_⟩) (by assumption) ?_; rotate_left; focus (intro w hSw; (try dsimp only at hSw); go_simp; (try with_reducible rfl); done))
  | (refine wpAnyH_take (i := 4) (oi := _) (v := undef) (getop rfl) (by kernel_rfl) (by kernel_rfl) (by kernel_rfl) (fun _ _ _ h => h) (Or.inr ⟨by rfl, rfl⟩) (by assumption) ?_)
  (try simp only [Act.put, List.setIfInBounds_toArray, List.set_cons_zero, List.set_cons_succ])
  first
  | (refine wpAnyH_take (i := 1) (oi := _) (v := ?_) (getop rfl) (by kernel_rfl) (by kernel_rfl) (by kernel_rfl) (fun _ _ _ h => h) (Or.inl ⟨by rfl, ?_⟩) (by assumption) ?_; rotate_left; focus (intro w hSw; (try dsimp only at hSw); go_simp; (try with_reducible rfl); done))
  | (refine wpAnyH_take (i := 1) (oi := _) (v := undef) (getop rfl) (by kernel_rfl) (by kernel_rfl) (by kernel_rfl) (fun _ _ _ h => h) (Or.inr ⟨by rfl, rfl⟩) (by assumption) ?_)
  (try simp only [Act.put, List.setIfInBounds_toArray, List.set_cons_zero, List.set_cons_succ])
  first
  | (refine wpAnyH_take (i := 5) (oi := _) (v := ?_) (getop rfl) (by kernel_rfl) (by kernel_rfl) (by kernel_rfl) (fun _ _ _ h => h) (Or.inl ⟨by rfl, ?_⟩) (by assumption) ?_; rotate_left; focus (intro w hSw; (try dsimp only at hSw); go_simp; (try with_reducible rfl); done))
  | (refine wpAnyH_take (i := 5) (oi := _) (v := undef) (getop rfl) (by kernel_rfl) (by kernel_rfl) (by kernel_rfl) (fun _ _ _ h => h) (Or.inr ⟨by rfl, rfl⟩) (by assumption) ?_)
  (try simp only [Act.put, List.setIfInBounds_toArray, List.set_cons_zero, List.set_cons_succ])
  first
  | (refine wpAnyH_take (i := 2) (oi := _) (v := ?_) (getop rfl) (by kernel_rfl) (by kernel_rfl) (by kernel_rfl) (fun _ _ _ h => h) (Or.inl ⟨by rfl, ?_⟩) (by assumption) ?_; rotate_left; focus (intro w hSw; (try dsimp only at hSw); go_simp; (try with_reducible rfl); done))
  | (refine wpAnyH_take (i := 2) (oi := _) (v := undef) (getop rfl) (by kernel_rfl) (by kernel_rfl) (by kernel_rfl) (fun _ _ _ h => h) (Or.inr ⟨by rfl, rfl⟩) (by assumption) ?_)
  (try simp only [Act.put, List.setIfInBounds_toArray, List.set_cons_zero, List.set_cons_succ])
  first
  | (refine wpAnyH_take (i := 6) (oi := _) (v := ?_) (getop rfl) (by kernel_rfl) (by kernel_rfl) (by kernel_rfl) (fun _ _ _ h => h) (Or.inl ⟨by rfl, ?_⟩) (by assumption) ?_; rotate_left; focus (intro w hSw; (try dsimp only at hSw); go_simp; (try with_reducible rfl); done))
  | (refine wpAnyH_take (i := 6) (oi := _) (v := undef) (getop rfl) (by kernel_rfl) (by kernel_rfl) (by kernel_rfl) (fun _ _ _ h => h) (Or.inr ⟨by rfl, rfl⟩) (by assumption) ?_)
  (try simp only [Act.put, List.setIfInBounds_toArray, List.set_cons_zero, List.set_cons_succ])
  refine wpAnyH_take (i := 3) (oi := _) (v := .agg (#[.int .i64 got, .string ⟨#[]⟩, .bool false, .int .i64 0, .string ⟨#[]⟩, .bool false, .int .i64 4096, .slice none 0 0, .int .i64 4096, .int .i64 4096, .slice none 0 0, .int .i64 4096, .int .i64 4096, .int .i64 4096, .int .i64 1, .int .i64 4294967295, .int .i64 65535, .int .i64 16384, .int .i64 4294967295, .slice sA sn sc, .int .i64 held, .int .i64 told, .int .i64 0, .slice none 0 0, .slice none 0 0, .slice none 0 0, .int .i64 65535, .int .i64 65535, .slice oA on oc, .int .i64 made, .int .i64 gone, .bool begun, .bool false, .bool true, .int .u32 code, .int .i64 t, .int .i64 30] : Array Value)) (getop rfl) (by kernel_rfl) (by kernel_rfl) (by kernel_rfl) (fun _ _ _ h => h) (yieldsIf_load_mid (by rfl) 49 _ rfl g 0 rfl ([.int .i64 got, .string ⟨#[]⟩, .bool false, .int .i64 0, .string ⟨#[]⟩, .bool false, .int .i64 4096, .slice none 0 0, .int .i64 4096, .int .i64 4096, .slice none 0 0, .int .i64 4096, .int .i64 4096, .int .i64 4096, .int .i64 1, .int .i64 4294967295, .int .i64 65535, .int .i64 16384, .int .i64 4294967295, .slice sA sn sc, .int .i64 held, .int .i64 told, .int .i64 0, .slice none 0 0, .slice none 0 0, .slice none 0 0, .int .i64 65535, .int .i64 65535, .slice oA on oc, .int .i64 made, .int .i64 gone, .bool begun, .bool false, .bool true, .int .u32 code, .int .i64 t, .int .i64 30] : List Value) _ (fun w h => h.1) Tryz.underlying49 rfl size49) (by assumption) ?_
  (try simp only [Act.put, List.setIfInBounds_toArray, List.set_cons_zero, List.set_cons_succ])
  first
  | (refine wpAnyH_take (i := 7) (oi := _) (v := ?_) (getop rfl) (by kernel_rfl) (by kernel_rfl) (by kernel_rfl) (fun _ _ _ h => h) (Or.inl ⟨by rfl, ?_⟩) (by assumption) ?_; rotate_left; focus (intro w hSw; (try dsimp only at hSw); go_simp; (try with_reducible rfl); done))
  | (refine wpAnyH_take (i := 7) (oi := _) (v := undef) (getop rfl) (by kernel_rfl) (by kernel_rfl) (by kernel_rfl) (fun _ _ _ h => h) (Or.inr ⟨by rfl, rfl⟩) (by assumption) ?_)
  (try simp only [Act.put, List.setIfInBounds_toArray, List.set_cons_zero, List.set_cons_succ])
  refine wpAnyH_ready (rs := [8]) (by kernel_rfl) (by simp) ?_
  refine (AllReadyH.cons (o := _) (getop rfl) (fun K hK => ?_) AllReadyH.nil)
  rw [if_pos (by rfl)]
  refine wp_store_mid 49 _ _ rfl (w.heap.size + 1) 0 (#[.int .i64 got, .string ⟨#[]⟩, .bool false, .int .i64 0, .string ⟨#[]⟩, .bool false, .int .i64 4096, .slice none 0 0, .int .i64 4096, .int .i64 4096, .slice none 0 0, .int .i64 4096, .int .i64 4096, .int .i64 4096, .int .i64 1, .int .i64 4294967295, .int .i64 65535, .int .i64 16384, .int .i64 4294967295, .slice sA sn sc, .int .i64 held, .int .i64 told, .int .i64 0, .slice none 0 0, .slice none 0 0, .slice none 0 0, .int .i64 65535, .int .i64 65535, .slice oA on oc, .int .i64 made, .int .i64 gone, .bool begun, .bool false, .bool true, .int .u32 code, .int .i64 t, .int .i64 30] : Array Value) rfl rfl (blk_there hR 37 rfl) size49 (by kernel_rfl) ?_
  have hKr := Kept.setCells ([.int .i64 got, .string ⟨#[]⟩, .bool false, .int .i64 0, .string ⟨#[]⟩, .bool false, .int .i64 4096, .slice none 0 0, .int .i64 4096, .int .i64 4096, .slice none 0 0, .int .i64 4096, .int .i64 4096, .int .i64 4096, .int .i64 1, .int .i64 4294967295, .int .i64 65535, .int .i64 16384, .int .i64 4294967295, .slice sA sn sc, .int .i64 held, .int .i64 told, .int .i64 0, .slice none 0 0, .slice none 0 0, .slice none 0 0, .int .i64 65535, .int .i64 65535, .slice oA on oc, .int .i64 made, .int .i64 gone, .bool begun, .bool false, .bool true, .int .u32 code, .int .i64 t, .int .i64 30] : List Value) 0 wd (Kept.refl wd (w.heap.size + 1))
  replace hL := lo_cells (Nat.le_succ _) ([.int .i64 got, .string ⟨#[]⟩, .bool false, .int .i64 0, .string ⟨#[]⟩, .bool false, .int .i64 4096, .slice none 0 0, .int .i64 4096, .int .i64 4096, .slice none 0 0, .int .i64 4096, .int .i64 4096, .int .i64 4096, .int .i64 1, .int .i64 4294967295, .int .i64 65535, .int .i64 16384, .int .i64 4294967295, .slice sA sn sc, .int .i64 held, .int .i64 told, .int .i64 0, .slice none 0 0, .slice none 0 0, .slice none 0 0, .int .i64 65535, .int .i64 65535, .slice oA on oc, .int .i64 made, .int .i64 gone, .bool begun, .bool false, .bool true, .int .u32 code, .int .i64 t, .int .i64 30] : List Value) 0 wd hL
  replace hM := hM.kept hKr (by omega)
  replace hR := hR.setAll (#[.int .i64 got, .string ⟨#[]⟩, .bool false, .int .i64 0, .string ⟨#[]⟩, .bool false, .int .i64 4096, .slice none 0 0, .int .i64 4096, .int .i64 4096, .slice none 0 0, .int .i64 4096, .int .i64 4096, .int .i64 4096, .int .i64 1, .int .i64 4294967295, .int .i64 65535, .int .i64 16384, .int .i64 4294967295, .slice sA sn sc, .int .i64 held, .int .i64 told, .int .i64 0, .slice none 0 0, .slice none 0 0, .slice none 0 0, .int .i64 65535, .int .i64 65535, .slice oA on oc, .int .i64 made, .int .i64 gone, .bool begun, .bool false, .bool true, .int .u32 code, .int .i64 t, .int .i64 30] : Array Value) rfl
  refine hK.out _ _ ?_ (fun hHeld8 => ?_)
  focus ((try dsimp only); (exact ⟨fun j v hv => blk_range hM ([.int .i64 got, .string ⟨#[]⟩, .bool false, .int .i64 0, .string ⟨#[]⟩, .bool false, .int .i64 4096, .slice none 0 0, .int .i64 4096, .int .i64 4096, .slice none 0 0, .int .i64 4096, .int .i64 4096, .int .i64 4096, .int .i64 1, .int .i64 4294967295, .int .i64 65535, .int .i64 16384, .int .i64 4294967295, .slice sA sn sc, .int .i64 held, .int .i64 told, .int .i64 0, .slice none 0 0, .slice none 0 0, .slice none 0 0, .int .i64 65535, .int .i64 65535, .slice oA on oc, .int .i64 made, .int .i64 gone, .bool begun, .bool false, .bool true, .int .u32 code, .int .i64 t, .int .i64 30] : List Value) [.slice none 0 0] rfl j v hv, hM.facts.1 37, hM.lt⟩))
  clear hK K hHeld
  have hHeld := hHeld8
  clear hHeld8
  (try simp only [Act.put, List.setIfInBounds_toArray, List.set_cons_zero, List.set_cons_succ])
  first
  | (refine wpAnyH_take (i := 9) (oi := _) (v := ?_) (getop rfl) (by kernel_rfl) (by kernel_rfl) (by kernel_rfl) (fun _ _ _ h => h) (Or.inl ⟨by rfl, ?_⟩) (by assumption) ?_; rotate_left; focus (intro w hSw; (try dsimp only at hSw); go_simp; (try with_reducible rfl); done))
  | (refine wpAnyH_take (i := 9) (oi := _) (v := undef) (getop rfl) (by kernel_rfl) (by kernel_rfl) (by kernel_rfl) (fun _ _ _ h => h) (Or.inr ⟨by rfl, rfl⟩) (by assumption) ?_)
  (try simp only [Act.put, List.setIfInBounds_toArray, List.set_cons_zero, List.set_cons_succ])
  refine wpAnyH_done (by kernel_rfl) ?_ _
  clear hHeld
  go_wp2_with fail
  refine bodyPost_ret (results_big (fn := Tryz.f9) (p := 4) (u := 5) rfl rfl hR Tryz.underlying49 rfl size49) rfl ?_
  exact ⟨rfl, hL⟩
set_option maxRecDepth 100000 in
set_option maxHeartbeats 12800000 in
theorem tick_dead_false (got : Int) (sA : Option Addr) (sn sc : Nat) (held told : Int) (oA : Option Addr) (on oc : Nat) (made gone : Int) (begun : Bool) (code now : Int) (ol : List ByteArray) (l : List It) (t : Int) (w : World) (ht : now < t) (ht2 : t ≤ 1099511627776) (hl : ItsOk w sA sn sc l) (hT : ∀ x ∈ l, x.t ≤ t) (hlate : lateB l t = false) (h0 : 0 ≤ t)  : Calls Tryz.prog 9 #[.agg #[.int .i64 got, .string ⟨#[]⟩, .bool false, .int .i64 0, .string ⟨#[]⟩, .bool false, .int .i64 4096, .slice none 0 0, .int .i64 4096, .int .i64 4096, .slice none 0 0, .int .i64 4096, .int .i64 4096, .int .i64 4096, .int .i64 1, .int .i64 4294967295, .int .i64 65535, .int .i64 16384, .int .i64 4294967295, .slice sA sn sc, .int .i64 held, .int .i64 told, .int .i64 0, .slice none 0 0, .slice none 0 0, .slice none 0 0, .int .i64 65535, .int .i64 65535, .slice oA on oc, .int .i64 made, .int .i64 gone, .bool begun, .bool false, .bool true, .int .u32 code, .int .i64 now, .int .i64 30], .int .i64 t] w (ValPost w (.tuple #[.agg #[.int .i64 got, .string ⟨#[]⟩, .bool false, .int .i64 0, .string ⟨#[]⟩, .bool false, .int .i64 4096, .slice none 0 0, .int .i64 4096, .int .i64 4096, .slice none 0 0, .int .i64 4096, .int .i64 4096, .int .i64 4096, .int .i64 1, .int .i64 4294967295, .int .i64 65535, .int .i64 16384, .int .i64 4294967295, .slice sA sn sc, .int .i64 held, .int .i64 told, .int .i64 0, .slice none 0 0, .slice none 0 0, .slice none 0 0, .int .i64 65535, .int .i64 65535, .slice oA on oc, .int .i64 made, .int .i64 gone, .bool begun, .bool false, .bool true, .int .u32 code, .int .i64 t, .int .i64 30], .slice none 0 0])) := by
  have H1 : Hid (∀ W, Calls Tryz.prog 19 #[.agg #[.int .i64 got, .string ⟨#[]⟩, .bool false, .int .i64 0, .string ⟨#[]⟩, .bool false, .int .i64 4096, .slice none 0 0, .int .i64 4096, .int .i64 4096, .slice none 0 0, .int .i64 4096, .int .i64 4096, .int .i64 4096, .int .i64 1, .int .i64 4294967295, .int .i64 65535, .int .i64 16384, .int .i64 4294967295, .slice sA sn sc, .int .i64 held, .int .i64 told, .int .i64 0, .slice none 0 0, .slice none 0 0, .slice none 0 0, .int .i64 65535, .int .i64 65535, .slice oA on oc, .int .i64 made, .int .i64 gone, .bool begun, .bool false, .bool true, .int .u32 code, .int .i64 now, .int .i64 30]] W (StartPost W #[.int .i64 got, .string ⟨#[]⟩, .bool false, .int .i64 0, .string ⟨#[]⟩, .bool false, .int .i64 4096, .slice none 0 0, .int .i64 4096, .int .i64 4096, .slice none 0 0, .int .i64 4096, .int .i64 4096, .int .i64 4096, .int .i64 1, .int .i64 4294967295, .int .i64 65535, .int .i64 16384, .int .i64 4294967295, .slice sA sn sc, .int .i64 held, .int .i64 told, .int .i64 0, .slice none 0 0, .slice none 0 0, .slice none 0 0, .int .i64 65535, .int .i64 65535, .slice oA on oc, .int .i64 made, .int .i64 gone, .bool begun, .bool false, .bool true, .int .u32 code, .int .i64 now, .int .i64 30, .slice none 0 0])) := Lib.hid fun W => start_any got sA sn sc held told oA on oc made gone begun true code now W
  have H2 : Hid (∀ W, Below w.heap.size w W → Calls Tryz.prog 29 #[.slice sA sn sc, .int .i64 t, .int .i64 30] W (BoolSame W false)) := Lib.hid fun W hb => by
    have h := ulate_any sA sn sc l t W (hl.lo hb) ⟨h0, ht2⟩ hT
    rw [hlate] at h
    exact h
  have H3 : Hid (∀ W g, Blk W g 89 #[.int .i64 got, .string ⟨#[]⟩, .bool false, .int .i64 0, .string ⟨#[]⟩, .bool false, .int .i64 4096, .slice none 0 0, .int .i64 4096, .int .i64 4096, .slice none 0 0, .int .i64 4096, .int .i64 4096, .int .i64 4096, .int .i64 1, .int .i64 4294967295, .int .i64 65535, .int .i64 16384, .int .i64 4294967295, .slice sA sn sc, .int .i64 held, .int .i64 told, .int .i64 0, .slice none 0 0, .slice none 0 0, .slice none 0 0, .int .i64 65535, .int .i64 65535, .slice oA on oc, .int .i64 made, .int .i64 gone, .bool begun, .bool false, .bool true, .int .u32 code, .int .i64 t, .int .i64 30, .slice none 0 0] → Calls Tryz.prog 28 #[.pointer (some ⟨g, 0, none⟩), .int .u32 4] W (fun e w' => e = .returned (.tuple #[]) ∧ W = w')) := Lib.hid fun W g h1 => fail_dead got sA sn sc held told oA on oc made gone begun code t 4 g W h1
  have hn1 : ¬ t ≤ now := by omega
  have hn2 : ¬ 1099511627776 < t := by omega
  clear hl hT hlate h0 ht ht2
  have hB := Blk.new w 49 #[.int .i64 got, .string ⟨#[]⟩, .bool false, .int .i64 0, .string ⟨#[]⟩, .bool false, .int .i64 4096, .slice none 0 0, .int .i64 4096, .int .i64 4096, .slice none 0 0, .int .i64 4096, .int .i64 4096, .int .i64 4096, .int .i64 1, .int .i64 4294967295, .int .i64 65535, .int .i64 16384, .int .i64 4294967295, .slice sA sn sc, .int .i64 held, .int .i64 told, .int .i64 0, .slice none 0 0, .slice none 0 0, .slice none 0 0, .int .i64 65535, .int .i64 65535, .slice oA on oc, .int .i64 made, .int .i64 gone, .bool begun, .bool false, .bool true, .int .u32 code, .int .i64 now, .int .i64 30]
  have hL := lo_alloc (lo_refl w) (.cells #[.int .i64 got, .string ⟨#[]⟩, .bool false, .int .i64 0, .string ⟨#[]⟩, .bool false, .int .i64 4096, .slice none 0 0, .int .i64 4096, .int .i64 4096, .slice none 0 0, .int .i64 4096, .int .i64 4096, .int .i64 4096, .int .i64 1, .int .i64 4294967295, .int .i64 65535, .int .i64 16384, .int .i64 4294967295, .slice sA sn sc, .int .i64 held, .int .i64 told, .int .i64 0, .slice none 0 0, .slice none 0 0, .slice none 0 0, .int .i64 65535, .int .i64 65535, .slice oA on oc, .int .i64 made, .int .i64 gone, .bool begun, .bool false, .bool true, .int .u32 code, .int .i64 now, .int .i64 30] 49)
  have hR := Blk.new (w.alloc (.cells #[.int .i64 got, .string ⟨#[]⟩, .bool false, .int .i64 0, .string ⟨#[]⟩, .bool false, .int .i64 4096, .slice none 0 0, .int .i64 4096, .int .i64 4096, .slice none 0 0, .int .i64 4096, .int .i64 4096, .int .i64 4096, .int .i64 1, .int .i64 4294967295, .int .i64 65535, .int .i64 16384, .int .i64 4294967295, .slice sA sn sc, .int .i64 held, .int .i64 told, .int .i64 0, .slice none 0 0, .slice none 0 0, .slice none 0 0, .int .i64 65535, .int .i64 65535, .slice oA on oc, .int .i64 made, .int .i64 gone, .bool begun, .bool false, .bool true, .int .u32 code, .int .i64 now, .int .i64 30] 49)) 49 #[.int .i64 0, .string ⟨#[]⟩, .bool false, .int .i64 0, .string ⟨#[]⟩, .bool false, .int .i64 0, .slice none 0 0, .int .i64 0, .int .i64 0, .slice none 0 0, .int .i64 0, .int .i64 0, .int .i64 0, .int .i64 0, .int .i64 0, .int .i64 0, .int .i64 0, .int .i64 0, .slice none 0 0, .int .i64 0, .int .i64 0, .int .i64 0, .slice none 0 0, .slice none 0 0, .slice none 0 0, .int .i64 0, .int .i64 0, .slice none 0 0, .int .i64 0, .int .i64 0, .bool false, .bool false, .bool false, .int .u32 0, .int .i64 0, .int .i64 0]
  replace hB := hB.alloc (.cells #[.int .i64 0, .string ⟨#[]⟩, .bool false, .int .i64 0, .string ⟨#[]⟩, .bool false, .int .i64 0, .slice none 0 0, .int .i64 0, .int .i64 0, .slice none 0 0, .int .i64 0, .int .i64 0, .int .i64 0, .int .i64 0, .int .i64 0, .int .i64 0, .int .i64 0, .int .i64 0, .slice none 0 0, .int .i64 0, .int .i64 0, .int .i64 0, .slice none 0 0, .slice none 0 0, .slice none 0 0, .int .i64 0, .int .i64 0, .slice none 0 0, .int .i64 0, .int .i64 0, .bool false, .bool false, .bool false, .int .u32 0, .int .i64 0, .int .i64 0] 49)
  replace hL := lo_alloc hL (.cells #[.int .i64 0, .string ⟨#[]⟩, .bool false, .int .i64 0, .string ⟨#[]⟩, .bool false, .int .i64 0, .slice none 0 0, .int .i64 0, .int .i64 0, .slice none 0 0, .int .i64 0, .int .i64 0, .int .i64 0, .int .i64 0, .int .i64 0, .int .i64 0, .int .i64 0, .int .i64 0, .slice none 0 0, .int .i64 0, .int .i64 0, .int .i64 0, .slice none 0 0, .slice none 0 0, .slice none 0 0, .int .i64 0, .int .i64 0, .slice none 0 0, .int .i64 0, .int .i64 0, .bool false, .bool false, .bool false, .int .u32 0, .int .i64 0, .int .i64 0] 49)
  simp only [World.size_alloc] at hR
  obtain ⟨cB, fB⟩ := hB.facts
  have c35 : ((w.alloc (.cells #[.int .i64 got, .string ⟨#[]⟩, .bool false, .int .i64 0, .string ⟨#[]⟩, .bool false, .int .i64 4096, .slice none 0 0, .int .i64 4096, .int .i64 4096, .slice none 0 0, .int .i64 4096, .int .i64 4096, .int .i64 4096, .int .i64 1, .int .i64 4294967295, .int .i64 65535, .int .i64 16384, .int .i64 4294967295, .slice sA sn sc, .int .i64 held, .int .i64 told, .int .i64 0, .slice none 0 0, .slice none 0 0, .slice none 0 0, .int .i64 65535, .int .i64 65535, .slice oA on oc, .int .i64 made, .int .i64 gone, .bool begun, .bool false, .bool true, .int .u32 code, .int .i64 now, .int .i64 30] 49)).alloc (.cells #[.int .i64 0, .string ⟨#[]⟩, .bool false, .int .i64 0, .string ⟨#[]⟩, .bool false, .int .i64 0, .slice none 0 0, .int .i64 0, .int .i64 0, .slice none 0 0, .int .i64 0, .int .i64 0, .int .i64 0, .int .i64 0, .int .i64 0, .int .i64 0, .int .i64 0, .int .i64 0, .slice none 0 0, .int .i64 0, .int .i64 0, .int .i64 0, .slice none 0 0, .slice none 0 0, .slice none 0 0, .int .i64 0, .int .i64 0, .slice none 0 0, .int .i64 0, .int .i64 0, .bool false, .bool false, .bool false, .int .u32 0, .int .i64 0, .int .i64 0] 49)).cell? ⟨w.heap.size, 35, none⟩ = some (.int .i64 now) := by rw [cB]; rfl
  clear cB fB
  go_enter Tryz.func9, Tryz.ntmps9
  go_upto_region 3 with fail
  clear c35 hn1 hn2
  generalize (w.alloc (.cells #[.int .i64 got, .string ⟨#[]⟩, .bool false, .int .i64 0, .string ⟨#[]⟩, .bool false, .int .i64 4096, .slice none 0 0, .int .i64 4096, .int .i64 4096, .slice none 0 0, .int .i64 4096, .int .i64 4096, .int .i64 4096, .int .i64 1, .int .i64 4294967295, .int .i64 65535, .int .i64 16384, .int .i64 4294967295, .slice sA sn sc, .int .i64 held, .int .i64 told, .int .i64 0, .slice none 0 0, .slice none 0 0, .slice none 0 0, .int .i64 65535, .int .i64 65535, .slice oA on oc, .int .i64 made, .int .i64 gone, .bool begun, .bool false, .bool true, .int .u32 code, .int .i64 now, .int .i64 30] 49)).alloc (.cells #[.int .i64 0, .string ⟨#[]⟩, .bool false, .int .i64 0, .string ⟨#[]⟩, .bool false, .int .i64 0, .slice none 0 0, .int .i64 0, .int .i64 0, .slice none 0 0, .int .i64 0, .int .i64 0, .int .i64 0, .int .i64 0, .int .i64 0, .int .i64 0, .int .i64 0, .int .i64 0, .slice none 0 0, .int .i64 0, .int .i64 0, .int .i64 0, .slice none 0 0, .slice none 0 0, .slice none 0 0, .int .i64 0, .int .i64 0, .slice none 0 0, .int .i64 0, .int .i64 0, .bool false, .bool false, .bool false, .int .u32 0, .int .i64 0, .int .i64 0] 49) = w2 at hB hR hL ⊢
  have hrg := blk_range hB [.int .i64 got, .string ⟨#[]⟩, .bool false, .int .i64 0, .string ⟨#[]⟩, .bool false, .int .i64 4096, .slice none 0 0, .int .i64 4096, .int .i64 4096, .slice none 0 0, .int .i64 4096, .int .i64 4096, .int .i64 4096, .int .i64 1, .int .i64 4294967295, .int .i64 65535, .int .i64 16384, .int .i64 4294967295, .slice sA sn sc, .int .i64 held, .int .i64 told, .int .i64 0, .slice none 0 0, .slice none 0 0, .slice none 0 0, .int .i64 65535, .int .i64 65535, .slice oA on oc, .int .i64 made, .int .i64 gone, .bool begun, .bool false, .bool true, .int .u32 code, .int .i64 now, .int .i64 30] [] rfl
  go_wp2_with (refine wpList_load_mid rfl 49 _ rfl (w.heap.size) 0 rfl [.int .i64 got, .string ⟨#[]⟩, .bool false, .int .i64 0, .string ⟨#[]⟩, .bool false, .int .i64 4096, .slice none 0 0, .int .i64 4096, .int .i64 4096, .slice none 0 0, .int .i64 4096, .int .i64 4096, .int .i64 4096, .int .i64 1, .int .i64 4294967295, .int .i64 65535, .int .i64 16384, .int .i64 4294967295, .slice sA sn sc, .int .i64 held, .int .i64 told, .int .i64 0, .slice none 0 0, .slice none 0 0, .slice none 0 0, .int .i64 65535, .int .i64 65535, .slice oA on oc, .int .i64 made, .int .i64 gone, .bool begun, .bool false, .bool true, .int .u32 code, .int .i64 now, .int .i64 30] _ hrg Tryz.underlying49 rfl size49 ?_)
  refine (H1.out _).mono ?_
  rintro e w3 ⟨g, rfl, hM, hg, hb⟩
  clear hrg hB H1
  have hgR : w.heap.size + 2 ≤ g := by have := hR.lt; omega
  replace hR := hR.lo hb
  replace hL := lo_trans hL hb
  clear hb hg
  obtain ⟨cM, fM⟩ := hM.facts
  have lM := hM.lt
  go_upto_region 5 with fail
  clear cM fM lM
  replace hR := hR.far (p := ⟨g, 35, none⟩) (show w.heap.size + 1 ≠ g by omega) (.int .i64 t)
  replace hL := lo_set hL (p := ⟨g, 35, none⟩) (show w.heap.size ≤ g by omega) (.int .i64 t)
  replace hM := hM.set_ 35 (.int .i64 t)
  simp only [List.setIfInBounds_toArray, List.set_cons_zero, List.set_cons_succ] at hM
  generalize w3.setCell ⟨g, 35, none⟩ (.int .i64 t) = w4 at hM hR hL ⊢
  refine wp_region_held_drew (S := (fun W => W.cell? ⟨g, 19, none⟩ = some (.slice sA sn sc) ∧ W.cell? ⟨g, 36, none⟩ = some (.int .i64 30) ∧ g < W.heap.size)) (by kernel_rfl) ?_ (fun hHeld => ?_)
  focus ((try dsimp only); (have r := hM.facts.1; exact ⟨r 19, r 36, hM.lt⟩))
  replace hM : Blk w4.drew _ _ _ := hM
  replace hR : Blk w4.drew _ _ _ := hR
  replace hL := lo_drew hL
  generalize w4.drew = wr at hM hR hL hHeld ⊢
  first
  | (refine wpAnyH_take (i := 0) (oi := _) (v := ?_) (getop rfl) (by kernel_rfl) (by kernel_rfl) (by kernel_rfl) (fun _ _ _ h => h) (Or.inl ⟨by rfl, ?_⟩) (by assumption) ?_; rotate_left; focus (intro w hSw; (try dsimp only at hSw); go_simp; (try with_reducible rfl); done))
  | (refine wpAnyH_take (i := 0) (oi := _) (v := undef) (getop rfl) (by kernel_rfl) (by kernel_rfl) (by kernel_rfl) (fun _ _ _ h => h) (Or.inr ⟨by rfl, rfl⟩) (by assumption) ?_)
  (try simp only [Act.put, List.setIfInBounds_toArray, List.set_cons_zero, List.set_cons_succ])
  first
  | (refine wpAnyH_take (i := 5) (oi := _) (v := ?_) (getop rfl) (by kernel_rfl) (by kernel_rfl) (by kernel_rfl) (fun _ _ _ h => h) (Or.inl ⟨by rfl, ?_⟩) (by assumption) ?_; rotate_left; focus (intro w hSw; (try dsimp only at hSw); go_simp; (try with_reducible rfl); done))
  | (refine wpAnyH_take (i := 5) (oi := _) (v := undef) (getop rfl) (by kernel_rfl) (by kernel_rfl) (by kernel_rfl) (fun _ _ _ h => h) (Or.inr ⟨by rfl, rfl⟩) (by assumption) ?_)
  (try simp only [Act.put, List.setIfInBounds_toArray, List.set_cons_zero, List.set_cons_succ])
  first
  | (refine wpAnyH_take (i := 6) (oi := _) (v := ?_) (getop rfl) (by kernel_rfl) (by kernel_rfl) (by kernel_rfl) (fun _ _ _ h => h) (Or.inl ⟨by rfl, ?_⟩) (by assumption) ?_; rotate_left; focus (intro w hSw; (try dsimp only at hSw); go_simp; (try with_reducible rfl); done))
  | (refine wpAnyH_take (i := 6) (oi := _) (v := undef) (getop rfl) (by kernel_rfl) (by kernel_rfl) (by kernel_rfl) (fun _ _ _ h => h) (Or.inr ⟨by rfl, rfl⟩) (by assumption) ?_)
  (try simp only [Act.put, List.setIfInBounds_toArray, List.set_cons_zero, List.set_cons_succ])
  first
  | (refine wpAnyH_take (i := 1) (oi := _) (v := ?_) (getop rfl) (by kernel_rfl) (by kernel_rfl) (by kernel_rfl) (fun _ _ _ h => h) (Or.inl ⟨by rfl, ?_⟩) (by assumption) ?_; rotate_left; focus (intro w hSw; (try dsimp only at hSw); go_simp; (try with_reducible rfl); done))
  | (refine wpAnyH_take (i := 1) (oi := _) (v := undef) (getop rfl) (by kernel_rfl) (by kernel_rfl) (by kernel_rfl) (fun _ _ _ h => h) (Or.inr ⟨by rfl, rfl⟩) (by assumption) ?_)
  (try simp only [Act.put, List.setIfInBounds_toArray, List.set_cons_zero, List.set_cons_succ])
  first
  | (refine wpAnyH_take (i := 7) (oi := _) (v := ?_) (getop rfl) (by kernel_rfl) (by kernel_rfl) (by kernel_rfl) (fun _ _ _ h => h) (Or.inl ⟨by rfl, ?_⟩) (by assumption) ?_; rotate_left; focus (intro w hSw; (try dsimp only at hSw); go_simp; (try with_reducible rfl); done))
  | (refine wpAnyH_take (i := 7) (oi := _) (v := undef) (getop rfl) (by kernel_rfl) (by kernel_rfl) (by kernel_rfl) (fun _ _ _ h => h) (Or.inr ⟨by rfl, rfl⟩) (by assumption) ?_)
  (try simp only [Act.put, List.setIfInBounds_toArray, List.set_cons_zero, List.set_cons_succ])
  first
  | (refine wpAnyH_take (i := 2) (oi := _) (v := ?_) (getop rfl) (by kernel_rfl) (by kernel_rfl) (by kernel_rfl) (fun _ _ _ h => h) (Or.inl ⟨by rfl, ?_⟩) (by assumption) ?_; rotate_left; focus (intro w hSw; (try dsimp only at hSw); go_simp; (try with_reducible rfl); done))
  | (refine wpAnyH_take (i := 2) (oi := _) (v := undef) (getop rfl) (by kernel_rfl) (by kernel_rfl) (by kernel_rfl) (fun _ _ _ h => h) (Or.inr ⟨by rfl, rfl⟩) (by assumption) ?_)
  (try simp only [Act.put, List.setIfInBounds_toArray, List.set_cons_zero, List.set_cons_succ])
  first
  | (refine wpAnyH_take (i := 8) (oi := _) (v := ?_) (getop rfl) (by kernel_rfl) (by kernel_rfl) (by kernel_rfl) (fun _ _ _ h => h) (Or.inl ⟨by rfl, ?_⟩) (by assumption) ?_; rotate_left; focus (intro w hSw; (try dsimp only at hSw); go_simp; (try with_reducible rfl); done))
  | (refine wpAnyH_take (i := 8) (oi := _) (v := undef) (getop rfl) (by kernel_rfl) (by kernel_rfl) (by kernel_rfl) (fun _ _ _ h => h) (Or.inr ⟨by rfl, rfl⟩) (by assumption) ?_)
  (try simp only [Act.put, List.setIfInBounds_toArray, List.set_cons_zero, List.set_cons_succ])
  first
  | (refine wpAnyH_take (i := 3) (oi := _) (v := ?_) (getop rfl) (by kernel_rfl) (by kernel_rfl) (by kernel_rfl) (fun _ _ _ h => h) (Or.inl ⟨by rfl, ?_⟩) (by assumption) ?_; rotate_left; focus (intro w hSw; (try dsimp only at hSw); go_simp; (try with_reducible rfl); done))
  | (refine wpAnyH_take (i := 3) (oi := _) (v := undef) (getop rfl) (by kernel_rfl) (by kernel_rfl) (by kernel_rfl) (fun _ _ _ h => h) (Or.inr ⟨by rfl, rfl⟩) (by assumption) ?_)
  (try simp only [Act.put, List.setIfInBounds_toArray, List.set_cons_zero, List.set_cons_succ])
  first
  | (refine wpAnyH_take (i := 9) (oi := _) (v := ?_) (getop rfl) (by kernel_rfl) (by kernel_rfl) (by kernel_rfl) (fun _ _ _ h => h) (Or.inl ⟨by rfl, ?_⟩) (by assumption) ?_; rotate_left; focus (intro w hSw; (try dsimp only at hSw); go_simp; (try with_reducible rfl); done))
  | (refine wpAnyH_take (i := 9) (oi := _) (v := undef) (getop rfl) (by kernel_rfl) (by kernel_rfl) (by kernel_rfl) (fun _ _ _ h => h) (Or.inr ⟨by rfl, rfl⟩) (by assumption) ?_)
  (try simp only [Act.put, List.setIfInBounds_toArray, List.set_cons_zero, List.set_cons_succ])
  first
  | (refine wpAnyH_take (i := 4) (oi := _) (v := ?_) (getop rfl) (by kernel_rfl) (by kernel_rfl) (by kernel_rfl) (fun _ _ _ h => h) (Or.inl ⟨by rfl, ?_⟩) (by assumption) ?_; rotate_left; focus (intro w hSw; (try dsimp only at hSw); go_simp; (try with_reducible rfl); done))
  | (refine wpAnyH_take (i := 4) (oi := _) (v := undef) (getop rfl) (by kernel_rfl) (by kernel_rfl) (by kernel_rfl) (fun _ _ _ h => h) (Or.inr ⟨by rfl, rfl⟩) (by assumption) ?_)
  (try simp only [Act.put, List.setIfInBounds_toArray, List.set_cons_zero, List.set_cons_succ])
  first
  | (refine wpAnyH_take (i := 10) (oi := _) (v := ?_) (getop rfl) (by kernel_rfl) (by kernel_rfl) (by kernel_rfl) (fun _ _ _ h => h) (Or.inl ⟨by rfl, ?_⟩) (by assumption) ?_; rotate_left; focus (intro w hSw; (try dsimp only at hSw); go_simp; (try with_reducible rfl); done))
  | (refine wpAnyH_take (i := 10) (oi := _) (v := undef) (getop rfl) (by kernel_rfl) (by kernel_rfl) (by kernel_rfl) (fun _ _ _ h => h) (Or.inr ⟨by rfl, rfl⟩) (by assumption) ?_)
  (try simp only [Act.put, List.setIfInBounds_toArray, List.set_cons_zero, List.set_cons_succ])
  refine wpAnyH_ready (rs := [11]) (by kernel_rfl) (by simp) ?_
  refine (AllReadyH.cons (o := _) (getop rfl) (fun K hK => ?_) AllReadyH.nil)
  go_simp
  refine (H2.out _ hL).mono ?_
  rintro e wy ⟨rfl, rfl⟩
  refine hK.out _ _ ?_ (fun hHeld11 => ?_)
  focus ((try dsimp only); (have r := hM.facts.1; exact ⟨r 19, r 36, hM.lt⟩))
  clear hK K hHeld
  have hHeld := hHeld11
  clear hHeld11
  (try simp only [Act.put, List.setIfInBounds_toArray, List.set_cons_zero, List.set_cons_succ])
  refine wpAnyH_done (by kernel_rfl) ?_ _
  clear hHeld
  go_upto_region 7 with fail
  refine wp_region_held_drew (S := (fun W => W.rangeAt g 0 ([.int .i64 got, .string ⟨#[]⟩, .bool false, .int .i64 0, .string ⟨#[]⟩, .bool false, .int .i64 4096, .slice none 0 0, .int .i64 4096, .int .i64 4096, .slice none 0 0, .int .i64 4096, .int .i64 4096, .int .i64 4096, .int .i64 1, .int .i64 4294967295, .int .i64 65535, .int .i64 16384, .int .i64 4294967295, .slice sA sn sc, .int .i64 held, .int .i64 told, .int .i64 0, .slice none 0 0, .slice none 0 0, .slice none 0 0, .int .i64 65535, .int .i64 65535, .slice oA on oc, .int .i64 made, .int .i64 gone, .bool begun, .bool false, .bool true, .int .u32 code, .int .i64 t, .int .i64 30] : List Value) ∧ W.cell? ⟨g, 37, none⟩ = some (.slice none 0 0) ∧ g < W.heap.size)) (by kernel_rfl) ?_ (fun hHeld => ?_)
  focus ((try dsimp only); (exact ⟨fun j v hv => blk_range hM ([.int .i64 got, .string ⟨#[]⟩, .bool false, .int .i64 0, .string ⟨#[]⟩, .bool false, .int .i64 4096, .slice none 0 0, .int .i64 4096, .int .i64 4096, .slice none 0 0, .int .i64 4096, .int .i64 4096, .int .i64 4096, .int .i64 1, .int .i64 4294967295, .int .i64 65535, .int .i64 16384, .int .i64 4294967295, .slice sA sn sc, .int .i64 held, .int .i64 told, .int .i64 0, .slice none 0 0, .slice none 0 0, .slice none 0 0, .int .i64 65535, .int .i64 65535, .slice oA on oc, .int .i64 made, .int .i64 gone, .bool begun, .bool false, .bool true, .int .u32 code, .int .i64 t, .int .i64 30] : List Value) [.slice none 0 0] rfl j v hv, hM.facts.1 37, hM.lt⟩))
  replace hM : Blk wr.drew _ _ _ := hM
  replace hR : Blk wr.drew _ _ _ := hR
  replace hL := lo_drew hL
  generalize wr.drew = wd at hM hR hL  hHeld ⊢
  first
  | (refine wpAnyH_take (i := 0) (oi := _) (v := ?_) (getop rfl) (by kernel_rfl) (by kernel_rfl) (by kernel_rfl) (fun _ _ _ h => h) (Or.inl ⟨by rfl, ?_⟩) (by assumption) ?_; rotate_left; focus (intro w hSw; (try dsimp only at hSw); go_simp; (try with_reducible rfl); done))
  | (refine wpAnyH_take (i := 0) (oi := _) (v := undef) (getop rfl) (by kernel_rfl) (by kernel_rfl) (by kernel_rfl) (fun _ _ _ h => h) (Or.inr ⟨by rfl, rfl⟩) (by assumption) ?_)
  (try simp only [Act.put, List.setIfInBounds_toArray, List.set_cons_zero, List.set_cons_succ])
  first
  | (refine wpAnyH_take (i := 4) (oi := _) (v := ?_) (getop rfl) (by kernel_rfl) (by kernel_rfl) (by kernel_rfl) (fun _ _ _ h => h) (Or.inl ⟨by rfl, ?_⟩) (by assumption) ?_; rotate_left; focus (intro w hSw; (try dsimp only at hSw); go_simp; (try with_reducible rfl); done))
  | (refine wpAnyH_take (i := 4) (oi := _) (v := undef) (getop rfl) (by kernel_rfl) (by kernel_rfl) (by kernel_rfl) (fun _ _ _ h => h) (Or.inr ⟨by rfl, rfl⟩) (by assumption) ?_)
  (try simp only [Act.put, List.setIfInBounds_toArray, List.set_cons_zero, List.set_cons_succ])
  first
  | (refine wpAnyH_take (i := 1) (oi := _) (v := ?_) (getop rfl) (by kernel_rfl) (by kernel_rfl) (by kernel_rfl) (fun _ _ _ h => h) (Or.inl ⟨by rfl, ?_⟩) (by assumption) ?_; rotate_left; focus (intro w hSw; (try dsimp only at hSw); go_simp; (try with_reducible rfl); done))
  | (refine wpAnyH_take (i := 1) (oi := _) (v := undef) (getop rfl) (by kernel_rfl) (by kernel_rfl) (by kernel_rfl) (fun _ _ _ h => h) (Or.inr ⟨by rfl, rfl⟩) (by assumption) ?_)
  (try simp only [Act.put, List.setIfInBounds_toArray, List.set_cons_zero, List.set_cons_succ])
  first
  | (refine wpAnyH_take (i := 5) (oi := _) (v := ?_) (getop rfl) (by kernel_rfl) (by kernel_rfl) (by kernel_rfl) (fun _ _ _ h => h) (Or.inl ⟨by rfl, ?_⟩) (by assumption) ?_; rotate_left; focus (intro w hSw; (try dsimp only at hSw); go_simp; (try with_reducible rfl); done))
  | (refine wpAnyH_take (i := 5) (oi := _) (v := undef) (getop rfl) (by kernel_rfl) (by kernel_rfl) (by kernel_rfl) (fun _ _ _ h => h) (Or.inr ⟨by rfl, rfl⟩) (by assumption) ?_)
  (try simp only [Act.put, List.setIfInBounds_toArray, List.set_cons_zero, List.set_cons_succ])
  first
  | (refine wpAnyH_take (i := 2) (oi := _) (v := ?_) (getop rfl) (by kernel_rfl) (by kernel_rfl) (by kernel_rfl) (fun _ _ _ h => h) (Or.inl ⟨by rfl, ?_⟩) (by assumption) ?_; rotate_left; focus (intro w hSw; (try dsimp only at hSw); go_simp; (try with_reducible rfl); done))
  | (refine wpAnyH_take (i := 2) (oi := _) (v := undef) (getop rfl) (by kernel_rfl) (by kernel_rfl) (by kernel_rfl) (fun _ _ _ h => h) (Or.inr ⟨by rfl, rfl⟩) (by assumption) ?_)
  (try simp only [Act.put, List.setIfInBounds_toArray, List.set_cons_zero, List.set_cons_succ])
  first
  | (refine wpAnyH_take (i := 6) (oi := _) (v := ?_) (getop rfl) (by kernel_rfl) (by kernel_rfl) (by kernel_rfl) (fun _ _ _ h => h) (Or.inl ⟨by rfl, ?_⟩) (by assumption) ?_; rotate_left; focus (intro w hSw; (try dsimp only at hSw); go_simp; (try with_reducible rfl); done))
  | (refine wpAnyH_take (i := 6) (oi := _) (v := undef) (getop rfl) (by kernel_rfl) (by kernel_rfl) (by kernel_rfl) (fun _ _ _ h => h) (Or.inr ⟨by rfl, rfl⟩) (by assumption) ?_)
  (try simp only [Act.put, List.setIfInBounds_toArray, List.set_cons_zero, List.set_cons_succ])
  refine wpAnyH_take (i := 3) (oi := _) (v := .agg (#[.int .i64 got, .string ⟨#[]⟩, .bool false, .int .i64 0, .string ⟨#[]⟩, .bool false, .int .i64 4096, .slice none 0 0, .int .i64 4096, .int .i64 4096, .slice none 0 0, .int .i64 4096, .int .i64 4096, .int .i64 4096, .int .i64 1, .int .i64 4294967295, .int .i64 65535, .int .i64 16384, .int .i64 4294967295, .slice sA sn sc, .int .i64 held, .int .i64 told, .int .i64 0, .slice none 0 0, .slice none 0 0, .slice none 0 0, .int .i64 65535, .int .i64 65535, .slice oA on oc, .int .i64 made, .int .i64 gone, .bool begun, .bool false, .bool true, .int .u32 code, .int .i64 t, .int .i64 30] : Array Value)) (getop rfl) (by kernel_rfl) (by kernel_rfl) (by kernel_rfl) (fun _ _ _ h => h) (yieldsIf_load_mid (by rfl) 49 _ rfl g 0 rfl ([.int .i64 got, .string ⟨#[]⟩, .bool false, .int .i64 0, .string ⟨#[]⟩, .bool false, .int .i64 4096, .slice none 0 0, .int .i64 4096, .int .i64 4096, .slice none 0 0, .int .i64 4096, .int .i64 4096, .int .i64 4096, .int .i64 1, .int .i64 4294967295, .int .i64 65535, .int .i64 16384, .int .i64 4294967295, .slice sA sn sc, .int .i64 held, .int .i64 told, .int .i64 0, .slice none 0 0, .slice none 0 0, .slice none 0 0, .int .i64 65535, .int .i64 65535, .slice oA on oc, .int .i64 made, .int .i64 gone, .bool begun, .bool false, .bool true, .int .u32 code, .int .i64 t, .int .i64 30] : List Value) _ (fun w h => h.1) Tryz.underlying49 rfl size49) (by assumption) ?_
  (try simp only [Act.put, List.setIfInBounds_toArray, List.set_cons_zero, List.set_cons_succ])
  first
  | (refine wpAnyH_take (i := 7) (oi := _) (v := ?_) (getop rfl) (by kernel_rfl) (by kernel_rfl) (by kernel_rfl) (fun _ _ _ h => h) (Or.inl ⟨by rfl, ?_⟩) (by assumption) ?_; rotate_left; focus (intro w hSw; (try dsimp only at hSw); go_simp; (try with_reducible rfl); done))
  | (refine wpAnyH_take (i := 7) (oi := _) (v := undef) (getop rfl) (by kernel_rfl) (by kernel_rfl) (by kernel_rfl) (fun _ _ _ h => h) (Or.inr ⟨by rfl, rfl⟩) (by assumption) ?_)
  (try simp only [Act.put, List.setIfInBounds_toArray, List.set_cons_zero, List.set_cons_succ])
  refine wpAnyH_ready (rs := [8]) (by kernel_rfl) (by simp) ?_
  refine (AllReadyH.cons (o := _) (getop rfl) (fun K hK => ?_) AllReadyH.nil)
  rw [if_pos (by rfl)]
  refine wp_store_mid 49 _ _ rfl (w.heap.size + 1) 0 (#[.int .i64 got, .string ⟨#[]⟩, .bool false, .int .i64 0, .string ⟨#[]⟩, .bool false, .int .i64 4096, .slice none 0 0, .int .i64 4096, .int .i64 4096, .slice none 0 0, .int .i64 4096, .int .i64 4096, .int .i64 4096, .int .i64 1, .int .i64 4294967295, .int .i64 65535, .int .i64 16384, .int .i64 4294967295, .slice sA sn sc, .int .i64 held, .int .i64 told, .int .i64 0, .slice none 0 0, .slice none 0 0, .slice none 0 0, .int .i64 65535, .int .i64 65535, .slice oA on oc, .int .i64 made, .int .i64 gone, .bool begun, .bool false, .bool true, .int .u32 code, .int .i64 t, .int .i64 30] : Array Value) rfl rfl (blk_there hR 37 rfl) size49 (by kernel_rfl) ?_
  have hKr := Kept.setCells ([.int .i64 got, .string ⟨#[]⟩, .bool false, .int .i64 0, .string ⟨#[]⟩, .bool false, .int .i64 4096, .slice none 0 0, .int .i64 4096, .int .i64 4096, .slice none 0 0, .int .i64 4096, .int .i64 4096, .int .i64 4096, .int .i64 1, .int .i64 4294967295, .int .i64 65535, .int .i64 16384, .int .i64 4294967295, .slice sA sn sc, .int .i64 held, .int .i64 told, .int .i64 0, .slice none 0 0, .slice none 0 0, .slice none 0 0, .int .i64 65535, .int .i64 65535, .slice oA on oc, .int .i64 made, .int .i64 gone, .bool begun, .bool false, .bool true, .int .u32 code, .int .i64 t, .int .i64 30] : List Value) 0 wd (Kept.refl wd (w.heap.size + 1))
  replace hL := lo_cells (Nat.le_succ _) ([.int .i64 got, .string ⟨#[]⟩, .bool false, .int .i64 0, .string ⟨#[]⟩, .bool false, .int .i64 4096, .slice none 0 0, .int .i64 4096, .int .i64 4096, .slice none 0 0, .int .i64 4096, .int .i64 4096, .int .i64 4096, .int .i64 1, .int .i64 4294967295, .int .i64 65535, .int .i64 16384, .int .i64 4294967295, .slice sA sn sc, .int .i64 held, .int .i64 told, .int .i64 0, .slice none 0 0, .slice none 0 0, .slice none 0 0, .int .i64 65535, .int .i64 65535, .slice oA on oc, .int .i64 made, .int .i64 gone, .bool begun, .bool false, .bool true, .int .u32 code, .int .i64 t, .int .i64 30] : List Value) 0 wd hL
  replace hM := hM.kept hKr (by omega)
  replace hR := hR.setAll (#[.int .i64 got, .string ⟨#[]⟩, .bool false, .int .i64 0, .string ⟨#[]⟩, .bool false, .int .i64 4096, .slice none 0 0, .int .i64 4096, .int .i64 4096, .slice none 0 0, .int .i64 4096, .int .i64 4096, .int .i64 4096, .int .i64 1, .int .i64 4294967295, .int .i64 65535, .int .i64 16384, .int .i64 4294967295, .slice sA sn sc, .int .i64 held, .int .i64 told, .int .i64 0, .slice none 0 0, .slice none 0 0, .slice none 0 0, .int .i64 65535, .int .i64 65535, .slice oA on oc, .int .i64 made, .int .i64 gone, .bool begun, .bool false, .bool true, .int .u32 code, .int .i64 t, .int .i64 30] : Array Value) rfl
  refine hK.out _ _ ?_ (fun hHeld8 => ?_)
  focus ((try dsimp only); (exact ⟨fun j v hv => blk_range hM ([.int .i64 got, .string ⟨#[]⟩, .bool false, .int .i64 0, .string ⟨#[]⟩, .bool false, .int .i64 4096, .slice none 0 0, .int .i64 4096, .int .i64 4096, .slice none 0 0, .int .i64 4096, .int .i64 4096, .int .i64 4096, .int .i64 1, .int .i64 4294967295, .int .i64 65535, .int .i64 16384, .int .i64 4294967295, .slice sA sn sc, .int .i64 held, .int .i64 told, .int .i64 0, .slice none 0 0, .slice none 0 0, .slice none 0 0, .int .i64 65535, .int .i64 65535, .slice oA on oc, .int .i64 made, .int .i64 gone, .bool begun, .bool false, .bool true, .int .u32 code, .int .i64 t, .int .i64 30] : List Value) [.slice none 0 0] rfl j v hv, hM.facts.1 37, hM.lt⟩))
  clear hK K hHeld
  have hHeld := hHeld8
  clear hHeld8
  (try simp only [Act.put, List.setIfInBounds_toArray, List.set_cons_zero, List.set_cons_succ])
  first
  | (refine wpAnyH_take (i := 9) (oi := _) (v := ?_) (getop rfl) (by kernel_rfl) (by kernel_rfl) (by kernel_rfl) (fun _ _ _ h => h) (Or.inl ⟨by rfl, ?_⟩) (by assumption) ?_; rotate_left; focus (intro w hSw; (try dsimp only at hSw); go_simp; (try with_reducible rfl); done))
  | (refine wpAnyH_take (i := 9) (oi := _) (v := undef) (getop rfl) (by kernel_rfl) (by kernel_rfl) (by kernel_rfl) (fun _ _ _ h => h) (Or.inr ⟨by rfl, rfl⟩) (by assumption) ?_)
  (try simp only [Act.put, List.setIfInBounds_toArray, List.set_cons_zero, List.set_cons_succ])
  refine wpAnyH_done (by kernel_rfl) ?_ _
  clear hHeld
  go_wp2_with fail
  refine bodyPost_ret (results_big (fn := Tryz.f9) (p := 4) (u := 5) rfl rfl hR Tryz.underlying49 rfl size49) rfl ?_
  exact ⟨rfl, hL⟩
end Go.Proofs.YtdonnbfojcggmaaGreat
