import Derived.Test.YtdonnbfojcggmaaGreatBig
namespace Go.Proofs.YtdonnbfojcggmaaGreat
open Go.RowKit
attribute [local go_sem ↓] Go.wp_at_zero Go.wp_at_succ

set_option maxRecDepth 100000 in
set_option maxHeartbeats 1600000 in
theorem goodbye_any (got : Int) (sA : Option Addr) (sn sc : Nat) (held told : Int) (oA : Option Addr) (on oc : Nat) (ol : List ByteArray) (made gone : Int) (begun : Bool) (now : Int) (c : Int) (g : Nat) (w : World) (hM : Blk w g 89 #[.int .i64 got, .string ⟨#[]⟩, .bool false, .int .i64 0, .string ⟨#[]⟩, .bool false, .int .i64 4096, .slice none 0 0, .int .i64 4096, .int .i64 4096, .slice none 0 0, .int .i64 4096, .int .i64 4096, .int .i64 4096, .int .i64 1, .int .i64 4294967295, .int .i64 65535, .int .i64 16384, .int .i64 4294967295, .slice sA sn sc, .int .i64 held, .int .i64 told, .int .i64 0, .slice none 0 0, .slice none 0 0, .slice none 0 0, .int .i64 65535, .int .i64 65535, .slice oA on oc, .int .i64 made, .int .i64 gone, .bool begun, .bool false, .bool false, .int .u32 0, .int .i64 now, .int .i64 30, .slice none 0 0]) (ho : OutOk w oA on oc ol made gone) (hmm : made + 17 ≤ 60000) (hc : c = 1 ∨ c = 4) : Calls Tryz.prog 62 #[.pointer (some ⟨g, 0, none⟩), .int .u32 c] w (EmitPost w g 17 (fun o md => #[.int .i64 got, .string ⟨#[]⟩, .bool false, .int .i64 0, .string ⟨#[]⟩, .bool false, .int .i64 4096, .slice none 0 0, .int .i64 4096, .int .i64 4096, .slice none 0 0, .int .i64 4096, .int .i64 4096, .int .i64 4096, .int .i64 1, .int .i64 4294967295, .int .i64 65535, .int .i64 16384, .int .i64 4294967295, .slice sA sn sc, .int .i64 held, .int .i64 told, .int .i64 0, .slice none 0 0, .slice none 0 0, .slice none 0 0, .int .i64 65535, .int .i64 65535, o, .int .i64 md, .int .i64 gone, .bool begun, .bool false, .bool false, .int .u32 0, .int .i64 now, .int .i64 30, .slice none 0 0]) made gone) := by
  have H : Hid (Calls Tryz.prog 21 #[.pointer (some ⟨g, 0, none⟩), .agg #[.int .u8 7, .int .u8 0, .int .i64 0, .string ⟨#[]⟩, .int .i64 0, .int .i64 0, .bool false, .int .u8 0, .int .u32 c, .int .i64 0, .int .i64 0, .slice none 0 0]] w (EmitPost w g 17 (fun o md => #[.int .i64 got, .string ⟨#[]⟩, .bool false, .int .i64 0, .string ⟨#[]⟩, .bool false, .int .i64 4096, .slice none 0 0, .int .i64 4096, .int .i64 4096, .slice none 0 0, .int .i64 4096, .int .i64 4096, .int .i64 4096, .int .i64 1, .int .i64 4294967295, .int .i64 65535, .int .i64 16384, .int .i64 4294967295, .slice sA sn sc, .int .i64 held, .int .i64 told, .int .i64 0, .slice none 0 0, .slice none 0 0, .slice none 0 0, .int .i64 65535, .int .i64 65535, o, .int .i64 md, .int .i64 gone, .bool begun, .bool false, .bool false, .int .u32 0, .int .i64 now, .int .i64 30, .slice none 0 0]) made gone)) := Lib.hid (emit_any got sA sn sc held told oA on oc ol made gone begun now 7 0 c (.slice none 0 0) 17 g w hM ho (by decide) (by omega) fun W _ => put_g c W hc)
  obtain ⟨cM, fM⟩ := hM.facts
  have lM := hM.lt
  clear hM ho hmm hc
  go_enter Tryz.func62, Tryz.ntmps62
  go_wp2_with fail
  refine H.out.mono ?_
  rintro e w1 ⟨A2, n2, c2, l2, rfl, ho2, hM2, hK⟩
  clear cM fM
  go_wp2_with fail
  exact bodyPost_ret (v := .tuple #[]) (by simp [results, Tryz.results62, go_sem]) rfl ⟨A2, n2, c2, l2, rfl, ho2, hM2, hK⟩
set_option maxRecDepth 100000 in
set_option maxHeartbeats 1600000 in
theorem fail_any (got : Int) (sA : Option Addr) (sn sc : Nat) (held told : Int) (oA : Option Addr) (on oc : Nat) (ol : List ByteArray) (made gone : Int) (begun : Bool) (now : Int) (c : Int) (g : Nat) (w : World) (hM : Blk w g 89 #[.int .i64 got, .string ⟨#[]⟩, .bool false, .int .i64 0, .string ⟨#[]⟩, .bool false, .int .i64 4096, .slice none 0 0, .int .i64 4096, .int .i64 4096, .slice none 0 0, .int .i64 4096, .int .i64 4096, .int .i64 4096, .int .i64 1, .int .i64 4294967295, .int .i64 65535, .int .i64 16384, .int .i64 4294967295, .slice sA sn sc, .int .i64 held, .int .i64 told, .int .i64 0, .slice none 0 0, .slice none 0 0, .slice none 0 0, .int .i64 65535, .int .i64 65535, .slice oA on oc, .int .i64 made, .int .i64 gone, .bool begun, .bool false, .bool false, .int .u32 0, .int .i64 now, .int .i64 30, .slice none 0 0]) (ho : OutOk w oA on oc ol made gone) (hmm : made + 17 ≤ 60000) (hc : c = 1 ∨ c = 4) : Calls Tryz.prog 28 #[.pointer (some ⟨g, 0, none⟩), .int .u32 c] w (EmitPost w g 17 (fun o md => #[.int .i64 got, .string ⟨#[]⟩, .bool false, .int .i64 0, .string ⟨#[]⟩, .bool false, .int .i64 4096, .slice none 0 0, .int .i64 4096, .int .i64 4096, .slice none 0 0, .int .i64 4096, .int .i64 4096, .int .i64 4096, .int .i64 1, .int .i64 4294967295, .int .i64 65535, .int .i64 16384, .int .i64 4294967295, .slice sA sn sc, .int .i64 held, .int .i64 told, .int .i64 0, .slice none 0 0, .slice none 0 0, .slice none 0 0, .int .i64 65535, .int .i64 65535, o, .int .i64 md, .int .i64 gone, .bool begun, .bool false, .bool true, .int .u32 c, .int .i64 now, .int .i64 30, .slice none 0 0]) made gone) := by
  have H1 : Hid (Calls Tryz.prog 62 #[.pointer (some ⟨g, 0, none⟩), .int .u32 c] w (EmitPost w g 17 (fun o md => #[.int .i64 got, .string ⟨#[]⟩, .bool false, .int .i64 0, .string ⟨#[]⟩, .bool false, .int .i64 4096, .slice none 0 0, .int .i64 4096, .int .i64 4096, .slice none 0 0, .int .i64 4096, .int .i64 4096, .int .i64 4096, .int .i64 1, .int .i64 4294967295, .int .i64 65535, .int .i64 16384, .int .i64 4294967295, .slice sA sn sc, .int .i64 held, .int .i64 told, .int .i64 0, .slice none 0 0, .slice none 0 0, .slice none 0 0, .int .i64 65535, .int .i64 65535, o, .int .i64 md, .int .i64 gone, .bool begun, .bool false, .bool false, .int .u32 0, .int .i64 now, .int .i64 30, .slice none 0 0]) made gone)) := Lib.hid (goodbye_any got sA sn sc held told oA on oc ol made gone begun now c g w hM ho hmm hc)
  have H2 : Hid (∀ W A2 n2 c2, Blk W g 89 #[.int .i64 got, .string ⟨#[]⟩, .bool false, .int .i64 0, .string ⟨#[]⟩, .bool false, .int .i64 4096, .slice none 0 0, .int .i64 4096, .int .i64 4096, .slice none 0 0, .int .i64 4096, .int .i64 4096, .int .i64 4096, .int .i64 1, .int .i64 4294967295, .int .i64 65535, .int .i64 16384, .int .i64 4294967295, .slice sA sn sc, .int .i64 held, .int .i64 told, .int .i64 0, .slice none 0 0, .slice none 0 0, .slice none 0 0, .int .i64 65535, .int .i64 65535, .slice A2 n2 c2, .int .i64 (made + 17), .int .i64 gone, .bool begun, .bool false, .bool false, .int .u32 0, .int .i64 now, .int .i64 30, .slice none 0 0] → Calls Tryz.prog 41 #[.pointer (some ⟨g, 0, none⟩), .int .u32 c] W (MPost W g #[.int .i64 got, .string ⟨#[]⟩, .bool false, .int .i64 0, .string ⟨#[]⟩, .bool false, .int .i64 4096, .slice none 0 0, .int .i64 4096, .int .i64 4096, .slice none 0 0, .int .i64 4096, .int .i64 4096, .int .i64 4096, .int .i64 1, .int .i64 4294967295, .int .i64 65535, .int .i64 16384, .int .i64 4294967295, .slice sA sn sc, .int .i64 held, .int .i64 told, .int .i64 0, .slice none 0 0, .slice none 0 0, .slice none 0 0, .int .i64 65535, .int .i64 65535, .slice A2 n2 c2, .int .i64 (made + 17), .int .i64 gone, .bool begun, .bool false, .bool true, .int .u32 c, .int .i64 now, .int .i64 30, .slice none 0 0])) := Lib.hid fun W A2 n2 c2 h => die_any got sA sn sc held told A2 n2 c2 [] (made + 17) gone begun now c g W h
  obtain ⟨cM, fM⟩ := hM.facts
  have lM := hM.lt
  clear hM ho hmm hc
  go_enter Tryz.func28, Tryz.ntmps28
  go_wp2_with fail
  refine H1.out.mono ?_
  rintro e w1 ⟨A2, n2, c2, l2, rfl, ho, hM, hK⟩
  clear cM fM lM
  replace hM : Blk w1 g 89 #[.int .i64 got, .string ⟨#[]⟩, .bool false, .int .i64 0, .string ⟨#[]⟩, .bool false, .int .i64 4096, .slice none 0 0, .int .i64 4096, .int .i64 4096, .slice none 0 0, .int .i64 4096, .int .i64 4096, .int .i64 4096, .int .i64 1, .int .i64 4294967295, .int .i64 65535, .int .i64 16384, .int .i64 4294967295, .slice sA sn sc, .int .i64 held, .int .i64 told, .int .i64 0, .slice none 0 0, .slice none 0 0, .slice none 0 0, .int .i64 65535, .int .i64 65535, .slice A2 n2 c2, .int .i64 (made + 17), .int .i64 gone, .bool begun, .bool false, .bool false, .int .u32 0, .int .i64 now, .int .i64 30, .slice none 0 0] := hM
  obtain ⟨cM, fM⟩ := hM.facts
  have lM := hM.lt
  go_wp2_with fail
  refine (H2.out _ _ _ _ hM).mono ?_
  rintro e w2 ⟨rfl, hM2, hK2⟩
  replace ho := ho.kept hK2 hM
  replace hK := hK.trans hK2
  clear cM fM lM hM hK2
  obtain ⟨cM, fM⟩ := hM2.facts
  have lM := hM2.lt
  go_wp2_with fail
  clear cM fM lM
  go_loopw [29] (fun y wr => y = .int .i64 0 ∧ wr = w2) (fun _ _ => 0)
  case atStart => exact ⟨rfl, rfl⟩
  case round =>
  obtain ⟨rfl, rfl⟩ := hrel
  obtain ⟨cM, fM⟩ := hM2.facts
  have lM := hM2.lt
  go_wp2_with fail
  refine bodyPost_ret (v := .tuple #[]) (by simp [results, Tryz.results28, go_sem]) rfl ⟨A2, n2, c2, l2, rfl, ho.kept (((Kept.refl _ g).set 25 _).set 23 _) hM2, ?_, (hK.set 25 _).set 23 _⟩
  simpa using (hM2.set_ 25 (.slice none 0 0)).set_ 23 (.slice none 0 0)
theorem nil42 (w : World) : (binOp .eql 42 (.slice none 0 0) (.slice none 0 0)).run Tryz.prog w = .ok (.bool true) w := by
  unfold binOp
  simp [run_equal_slice_nil w 42 120 none 0 0 Tryz.underlying42]
theorem clone_t (w : World) : Calls Tryz.prog 39 #[.slice none 0 0] w (fun e w' => e = .returned (.slice none 0 0) ∧ w = w') := by
  have hq := nil42
  go_enter Tryz.func39, Tryz.ntmps39
  go_wp2_with fail
  go_ret
  exact ⟨rfl, rfl⟩
/-- A machine that begins. -/
def StartPost (w : World) (cs : Array Value) (e : Ending) (w' : World) : Prop := ∃ g, e = .returned (.pointer (some ⟨g, 0, none⟩)) ∧ Blk w' g 89 cs ∧ w.heap.size ≤ g ∧ Below w.heap.size w w'
set_option maxRecDepth 100000 in
set_option maxHeartbeats 1600000 in
theorem start_any (got : Int) (sA : Option Addr) (sn sc : Nat) (held told : Int) (oA : Option Addr) (on oc : Nat) (made gone : Int) (begun dead : Bool) (code now : Int) (w : World) : Calls Tryz.prog 19 #[.agg #[.int .i64 got, .string ⟨#[]⟩, .bool false, .int .i64 0, .string ⟨#[]⟩, .bool false, .int .i64 4096, .slice none 0 0, .int .i64 4096, .int .i64 4096, .slice none 0 0, .int .i64 4096, .int .i64 4096, .int .i64 4096, .int .i64 1, .int .i64 4294967295, .int .i64 65535, .int .i64 16384, .int .i64 4294967295, .slice sA sn sc, .int .i64 held, .int .i64 told, .int .i64 0, .slice none 0 0, .slice none 0 0, .slice none 0 0, .int .i64 65535, .int .i64 65535, .slice oA on oc, .int .i64 made, .int .i64 gone, .bool begun, .bool false, .bool dead, .int .u32 code, .int .i64 now, .int .i64 30]] w (StartPost w #[.int .i64 got, .string ⟨#[]⟩, .bool false, .int .i64 0, .string ⟨#[]⟩, .bool false, .int .i64 4096, .slice none 0 0, .int .i64 4096, .int .i64 4096, .slice none 0 0, .int .i64 4096, .int .i64 4096, .int .i64 4096, .int .i64 1, .int .i64 4294967295, .int .i64 65535, .int .i64 16384, .int .i64 4294967295, .slice sA sn sc, .int .i64 held, .int .i64 told, .int .i64 0, .slice none 0 0, .slice none 0 0, .slice none 0 0, .int .i64 65535, .int .i64 65535, .slice oA on oc, .int .i64 made, .int .i64 gone, .bool begun, .bool false, .bool dead, .int .u32 code, .int .i64 now, .int .i64 30, .slice none 0 0]) := by
  have H : Hid (∀ w0, Calls Tryz.prog 39 #[.slice none 0 0] w0 (fun e w' => e = .returned (.slice none 0 0) ∧ w0 = w')) := Lib.hid fun w0 => clone_t w0
  have hA := Blk.new w 49 #[.int .i64 got, .string ⟨#[]⟩, .bool false, .int .i64 0, .string ⟨#[]⟩, .bool false, .int .i64 4096, .slice none 0 0, .int .i64 4096, .int .i64 4096, .slice none 0 0, .int .i64 4096, .int .i64 4096, .int .i64 4096, .int .i64 1, .int .i64 4294967295, .int .i64 65535, .int .i64 16384, .int .i64 4294967295, .slice sA sn sc, .int .i64 held, .int .i64 told, .int .i64 0, .slice none 0 0, .slice none 0 0, .slice none 0 0, .int .i64 65535, .int .i64 65535, .slice oA on oc, .int .i64 made, .int .i64 gone, .bool begun, .bool false, .bool dead, .int .u32 code, .int .i64 now, .int .i64 30]
  have hL := lo_alloc (lo_refl w) (.cells #[.int .i64 got, .string ⟨#[]⟩, .bool false, .int .i64 0, .string ⟨#[]⟩, .bool false, .int .i64 4096, .slice none 0 0, .int .i64 4096, .int .i64 4096, .slice none 0 0, .int .i64 4096, .int .i64 4096, .int .i64 4096, .int .i64 1, .int .i64 4294967295, .int .i64 65535, .int .i64 16384, .int .i64 4294967295, .slice sA sn sc, .int .i64 held, .int .i64 told, .int .i64 0, .slice none 0 0, .slice none 0 0, .slice none 0 0, .int .i64 65535, .int .i64 65535, .slice oA on oc, .int .i64 made, .int .i64 gone, .bool begun, .bool false, .bool dead, .int .u32 code, .int .i64 now, .int .i64 30] 49)
  have hs : (w.alloc (.cells #[.int .i64 got, .string ⟨#[]⟩, .bool false, .int .i64 0, .string ⟨#[]⟩, .bool false, .int .i64 4096, .slice none 0 0, .int .i64 4096, .int .i64 4096, .slice none 0 0, .int .i64 4096, .int .i64 4096, .int .i64 4096, .int .i64 1, .int .i64 4294967295, .int .i64 65535, .int .i64 16384, .int .i64 4294967295, .slice sA sn sc, .int .i64 held, .int .i64 told, .int .i64 0, .slice none 0 0, .slice none 0 0, .slice none 0 0, .int .i64 65535, .int .i64 65535, .slice oA on oc, .int .i64 made, .int .i64 gone, .bool begun, .bool false, .bool dead, .int .u32 code, .int .i64 now, .int .i64 30] 49)).heap.size = w.heap.size + 1 := by simp
  obtain ⟨cA, fA⟩ := hA.facts
  have lA := hA.lt
  have c25 : (w.alloc (.cells #[.int .i64 got, .string ⟨#[]⟩, .bool false, .int .i64 0, .string ⟨#[]⟩, .bool false, .int .i64 4096, .slice none 0 0, .int .i64 4096, .int .i64 4096, .slice none 0 0, .int .i64 4096, .int .i64 4096, .int .i64 4096, .int .i64 1, .int .i64 4294967295, .int .i64 65535, .int .i64 16384, .int .i64 4294967295, .slice sA sn sc, .int .i64 held, .int .i64 told, .int .i64 0, .slice none 0 0, .slice none 0 0, .slice none 0 0, .int .i64 65535, .int .i64 65535, .slice oA on oc, .int .i64 made, .int .i64 gone, .bool begun, .bool false, .bool dead, .int .u32 code, .int .i64 now, .int .i64 30] 49)).cell? ⟨w.heap.size, 25, none⟩ = some (.slice none 0 0) := by rw [cA]; rfl
  clear cA
  go_enter Tryz.func19, Tryz.ntmps19
  go_wp2_with fail
  refine (H.out _).mono ?_
  rintro e w1 ⟨rfl, rfl⟩
  go_upto_region 2 with fail
  clear c25 fA lA H
  generalize w.alloc (.cells #[.int .i64 got, .string ⟨#[]⟩, .bool false, .int .i64 0, .string ⟨#[]⟩, .bool false, .int .i64 4096, .slice none 0 0, .int .i64 4096, .int .i64 4096, .slice none 0 0, .int .i64 4096, .int .i64 4096, .int .i64 4096, .int .i64 1, .int .i64 4294967295, .int .i64 65535, .int .i64 16384, .int .i64 4294967295, .slice sA sn sc, .int .i64 held, .int .i64 told, .int .i64 0, .slice none 0 0, .slice none 0 0, .slice none 0 0, .int .i64 65535, .int .i64 65535, .slice oA on oc, .int .i64 made, .int .i64 gone, .bool begun, .bool false, .bool dead, .int .u32 code, .int .i64 now, .int .i64 30] 49) = w2 at hA hL hs ⊢
  have hld := blk_range hA [.int .i64 got, .string ⟨#[]⟩, .bool false, .int .i64 0, .string ⟨#[]⟩, .bool false, .int .i64 4096, .slice none 0 0, .int .i64 4096, .int .i64 4096, .slice none 0 0, .int .i64 4096, .int .i64 4096, .int .i64 4096, .int .i64 1, .int .i64 4294967295, .int .i64 65535, .int .i64 16384, .int .i64 4294967295, .slice sA sn sc, .int .i64 held, .int .i64 told, .int .i64 0, .slice none 0 0, .slice none 0 0, .slice none 0 0, .int .i64 65535, .int .i64 65535, .slice oA on oc, .int .i64 made, .int .i64 gone, .bool begun, .bool false, .bool dead, .int .u32 code, .int .i64 now, .int .i64 30] [] rfl
  clear hA
  go_wp2_with (refine wpList_load_mid rfl 49 _ rfl w.heap.size 0 rfl [.int .i64 got, .string ⟨#[]⟩, .bool false, .int .i64 0, .string ⟨#[]⟩, .bool false, .int .i64 4096, .slice none 0 0, .int .i64 4096, .int .i64 4096, .slice none 0 0, .int .i64 4096, .int .i64 4096, .int .i64 4096, .int .i64 1, .int .i64 4294967295, .int .i64 65535, .int .i64 16384, .int .i64 4294967295, .slice sA sn sc, .int .i64 held, .int .i64 told, .int .i64 0, .slice none 0 0, .slice none 0 0, .slice none 0 0, .int .i64 65535, .int .i64 65535, .slice oA on oc, .int .i64 made, .int .i64 gone, .bool begun, .bool false, .bool dead, .int .u32 code, .int .i64 now, .int .i64 30] _ hld Tryz.underlying49 rfl size49 ?_)
  go_ret
  exact ⟨w.heap.size + 1, rfl, hs ▸ Blk.new w2 89 #[.int .i64 got, .string ⟨#[]⟩, .bool false, .int .i64 0, .string ⟨#[]⟩, .bool false, .int .i64 4096, .slice none 0 0, .int .i64 4096, .int .i64 4096, .slice none 0 0, .int .i64 4096, .int .i64 4096, .int .i64 4096, .int .i64 1, .int .i64 4294967295, .int .i64 65535, .int .i64 16384, .int .i64 4294967295, .slice sA sn sc, .int .i64 held, .int .i64 told, .int .i64 0, .slice none 0 0, .slice none 0 0, .slice none 0 0, .int .i64 65535, .int .i64 65535, .slice oA on oc, .int .i64 made, .int .i64 gone, .bool begun, .bool false, .bool dead, .int .u32 code, .int .i64 now, .int .i64 30, .slice none 0 0], Nat.le_succ _, lo_alloc hL _⟩
set_option maxRecDepth 100000 in
set_option maxHeartbeats 1600000 in
theorem pump_any (got : Int) (sA : Option Addr) (sn sc : Nat) (held told : Int) (oA : Option Addr) (on oc : Nat) (made gone : Int) (begun dead : Bool) (code now : Int) (g : Nat) (w : World) (hM : Blk w g 89 #[.int .i64 got, .string ⟨#[]⟩, .bool false, .int .i64 0, .string ⟨#[]⟩, .bool false, .int .i64 4096, .slice none 0 0, .int .i64 4096, .int .i64 4096, .slice none 0 0, .int .i64 4096, .int .i64 4096, .int .i64 4096, .int .i64 1, .int .i64 4294967295, .int .i64 65535, .int .i64 16384, .int .i64 4294967295, .slice sA sn sc, .int .i64 held, .int .i64 told, .int .i64 0, .slice none 0 0, .slice none 0 0, .slice none 0 0, .int .i64 65535, .int .i64 65535, .slice oA on oc, .int .i64 made, .int .i64 gone, .bool begun, .bool false, .bool dead, .int .u32 code, .int .i64 now, .int .i64 30, .slice none 0 0]) : Calls Tryz.prog 27 #[.pointer (some ⟨g, 0, none⟩)] w (fun e w' => e = .returned (.tuple #[]) ∧ w = w') := by
  have H : Hid (∀ w0, Calls Tryz.prog 39 #[.slice none 0 0] w0 (fun e w' => e = .returned (.slice none 0 0) ∧ w0 = w')) := Lib.hid fun w0 => clone_t w0
  obtain ⟨cM, fM⟩ := hM.facts
  have lM := hM.lt
  go_enter Tryz.func27, Tryz.ntmps27
  go_wp2_with fail
  refine (H.out _).mono ?_
  rintro e w1 ⟨rfl, rfl⟩
  clear cM fM lM
  go_wp2_with fail
  go_loopw [11] (fun y wr => y = .int .i64 0 ∧ wr = w) (fun _ _ => 0)
  case atStart => exact ⟨rfl, rfl⟩
  case round =>
  obtain ⟨rfl, rfl⟩ := hrel
  go_wp2_with fail
  exact bodyPost_end (results_none rfl _ _ _) rfl ⟨rfl, rfl⟩
end Go.Proofs.YtdonnbfojcggmaaGreat
