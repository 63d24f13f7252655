import Derived.Lib.SlBytesConst
import Derived.Deep.CutBlock
import Derived.Deep.CutRange
import Derived.Test.YtdonnbfojcggmaaGreatTopK0
import Derived.Test.YtdonnbfojcggmaaGreatTopK1
import Derived.Test.YtdonnbfojcggmaaGreatTopK2
import Derived.Test.YtdonnbfojcggmaaGreatTopK3
import Derived.Test.YtdonnbfojcggmaaGreatTopT
import Derived.Test.YtdonnbfojcggmaaGreatAwake
namespace Go.Proofs.YtdonnbfojcggmaaGreat
open Go.RowKit
attribute [local go_sem ↓] Go.wp_at_zero Go.wp_at_succ

set_option maxRecDepth 100000 in
set_option maxHeartbeats 25600000 in
theorem acks_walk (a0 : Option Addr) (len0 cap0 : Nat) (xs0 : List (Int × Int)) (w : World) (w0 : AggRow 2 (fun x : Int × Int => [Value.int .u8 x.1, Value.int .u8 x.2]) (fun x : Int × Int => (Lit.int .u8 x.1).wf = true ∧ (Lit.int .u8 x.2).wf = true) w a0 len0 cap0 xs0) (hlen : len0 ≤ 60) :
    Calls Tryz.prog 3 #[.slice a0 len0 cap0] w fun e w' => e = .returned (.bool true) ∧ Below w.heap.size w w' := by
  have HA := Lib.hid awake_any
  have HX : Hid (∀ W, Below w.heap.size w W → AggRow 2 (fun x : Int × Int => [Value.int .u8 x.1, Value.int .u8 x.2]) (fun x : Int × Int => (Lit.int .u8 x.1).wf = true ∧ (Lit.int .u8 x.2).wf = true) W a0 len0 cap0 xs0) := Lib.hid fun W hb => agg_lo w0 hb
  have hxl := w0.1
  obtain ⟨i0, hi, hz0, hz1, hz2⟩ := info_parts info5
  have H5 := Lib.hid new_any
  have H6 : Hid (∀ W fl, (fl = 0 ∨ fl = 1) → Calls Tryz.prog 6 #[.agg #[.int .u8 4, .int .u8 fl, .int .i64 0, .string ⟨#[]⟩, .int .i64 0, .int .i64 0, .bool false, .int .u8 0, .int .u32 0, .int .i64 0, .int .i64 0, .slice none 0 0]] W (HeadPost W fun bs => bs = [0, 0, 0, 4, fl, 0, 0, 0, 0])) := Lib.hid fun W fl h => put_0 fl W h
  have e1 : ¬ (60 : Int) < (len0 : Int) := by omega
  clear w0
  go_enter Tryz.func3, Tryz.ntmps3
  go_wp2_with fail
  refine (H5.out _).mono ?_
  rintro e w1 ⟨sA, sc, B1, c1, oA, on, oc, ol, rfl, hI, hO, hb⟩
  clear H5
  have hL := hb
  clear hb
  have hC := Blk.new w1 49 #[.int .i64 0, .string ⟨#[]⟩, .bool false, .int .i64 0, .string ⟨#[]⟩, .bool false, .int .i64 0, .slice none 0 0, .int .i64 0, .int .i64 0, .slice none 0 0, .int .i64 0, .int .i64 0, .int .i64 0, .int .i64 0, .int .i64 0, .int .i64 0, .int .i64 0, .int .i64 0, .slice none 0 0, .int .i64 0, .int .i64 0, .int .i64 0, .slice none 0 0, .slice none 0 0, .slice none 0 0, .int .i64 0, .int .i64 0, .slice none 0 0, .int .i64 0, .int .i64 0, .bool false, .bool false, .bool false, .int .u32 0, .int .i64 0, .int .i64 0]
  have hth := blk_there hC 37 rfl
  go_upto_region 4 with ((with_reducible show wpList _ _ _ (⟨_, .store _ _ _, _, _, _, _⟩ :: _) _ _); refine wpList_store_mid rfl 49 _ _ rfl (w1.heap.size) 0 #[.int .i64 0, .string ⟨#[]⟩, .bool false, .int .i64 0, .string ⟨#[]⟩, .bool false, .int .i64 4096, .slice none 0 0, .int .i64 4096, .int .i64 4096, .slice none 0 0, .int .i64 4096, .int .i64 4096, .int .i64 4096, .int .i64 1, .int .i64 4294967295, .int .i64 65535, .int .i64 16384, .int .i64 4294967295, .slice sA 1 sc, .int .i64 4294967295, .int .i64 9, .int .i64 0, .slice none 0 0, .slice none 0 0, .slice none 0 0, .int .i64 65535, .int .i64 65535, .slice oA on oc, .int .i64 21, .int .i64 0, .bool false, .bool false, .bool false, .int .u32 0, .int .i64 5, .int .i64 30] rfl rfl hth size49 (by kernel_rfl) ?_)
  clear hth
  have hgC : w.heap.size ≤ w1.heap.size := hL.size
  have hb := lo_cells (Nat.le_refl _) [.int .i64 0, .string ⟨#[]⟩, .bool false, .int .i64 0, .string ⟨#[]⟩, .bool false, .int .i64 4096, .slice none 0 0, .int .i64 4096, .int .i64 4096, .slice none 0 0, .int .i64 4096, .int .i64 4096, .int .i64 4096, .int .i64 1, .int .i64 4294967295, .int .i64 65535, .int .i64 16384, .int .i64 4294967295, .slice sA 1 sc, .int .i64 4294967295, .int .i64 9, .int .i64 0, .slice none 0 0, .slice none 0 0, .slice none 0 0, .int .i64 65535, .int .i64 65535, .slice oA on oc, .int .i64 21, .int .i64 0, .bool false, .bool false, .bool false, .int .u32 0, .int .i64 5, .int .i64 30] 0 _ (lo_alloc (lo_refl w1) (.cells #[.int .i64 0, .string ⟨#[]⟩, .bool false, .int .i64 0, .string ⟨#[]⟩, .bool false, .int .i64 0, .slice none 0 0, .int .i64 0, .int .i64 0, .slice none 0 0, .int .i64 0, .int .i64 0, .int .i64 0, .int .i64 0, .int .i64 0, .int .i64 0, .int .i64 0, .int .i64 0, .slice none 0 0, .int .i64 0, .int .i64 0, .int .i64 0, .slice none 0 0, .slice none 0 0, .slice none 0 0, .int .i64 0, .int .i64 0, .slice none 0 0, .int .i64 0, .int .i64 0, .bool false, .bool false, .bool false, .int .u32 0, .int .i64 0, .int .i64 0] 49))
  replace hC := hC.setAll #[.int .i64 0, .string ⟨#[]⟩, .bool false, .int .i64 0, .string ⟨#[]⟩, .bool false, .int .i64 4096, .slice none 0 0, .int .i64 4096, .int .i64 4096, .slice none 0 0, .int .i64 4096, .int .i64 4096, .int .i64 4096, .int .i64 1, .int .i64 4294967295, .int .i64 65535, .int .i64 16384, .int .i64 4294967295, .slice sA 1 sc, .int .i64 4294967295, .int .i64 9, .int .i64 0, .slice none 0 0, .slice none 0 0, .slice none 0 0, .int .i64 65535, .int .i64 65535, .slice oA on oc, .int .i64 21, .int .i64 0, .bool false, .bool false, .bool false, .int .u32 0, .int .i64 5, .int .i64 30] rfl
  replace hI := hI.lo hb
  replace hO := hO.lo hb
  replace hL := lo_trans hL hb
  clear hb
  dsimp only at hC hI hO hL
  generalize w1.heap.size = gC at hC hgC hI hO hL ⊢
  generalize (w1.alloc (.cells #[.int .i64 0, .string ⟨#[]⟩, .bool false, .int .i64 0, .string ⟨#[]⟩, .bool false, .int .i64 0, .slice none 0 0, .int .i64 0, .int .i64 0, .slice none 0 0, .int .i64 0, .int .i64 0, .int .i64 0, .int .i64 0, .int .i64 0, .int .i64 0, .int .i64 0, .int .i64 0, .slice none 0 0, .int .i64 0, .int .i64 0, .int .i64 0, .slice none 0 0, .slice none 0 0, .slice none 0 0, .int .i64 0, .int .i64 0, .slice none 0 0, .int .i64 0, .int .i64 0, .bool false, .bool false, .bool false, .int .u32 0, .int .i64 0, .int .i64 0] 49)).setCells gC 0 [.int .i64 0, .string ⟨#[]⟩, .bool false, .int .i64 0, .string ⟨#[]⟩, .bool false, .int .i64 4096, .slice none 0 0, .int .i64 4096, .int .i64 4096, .slice none 0 0, .int .i64 4096, .int .i64 4096, .int .i64 4096, .int .i64 1, .int .i64 4294967295, .int .i64 65535, .int .i64 16384, .int .i64 4294967295, .slice sA 1 sc, .int .i64 4294967295, .int .i64 9, .int .i64 0, .slice none 0 0, .slice none 0 0, .slice none 0 0, .int .i64 65535, .int .i64 65535, .slice oA on oc, .int .i64 21, .int .i64 0, .bool false, .bool false, .bool false, .int .u32 0, .int .i64 5, .int .i64 30] = w2 at hC hI hO hL ⊢
  go_wp2_with fail
  refine (H6.out _ 0 (.inl rfl)).mono ?_
  rintro e w3 ⟨gH, bs, -, rfl, hgH, rfl, hH, hb⟩
  have hCH : gC < gH := Nat.lt_of_lt_of_le hC.lt hgH
  replace hC := hC.lo hb
  replace hI := hI.lo hb
  replace hO := hO.lo hb
  replace hL := lo_trans hL hb
  clear hb hgH
  go_wp2_with fail
  refine (H6.out _ 1 (.inr rfl)).mono ?_
  rintro e w4 ⟨gk, bs, -, rfl, hgk, rfl, hK9, hb⟩
  have hHk : gH < gk := Nat.lt_of_lt_of_le hH.lt hgk
  replace hC := hC.lo hb
  replace hH := hH.lo hb
  replace hI := hI.lo hb
  replace hO := hO.lo hb
  replace hL := lo_trans hL hb
  clear hb hgk H6
  simp only [List.map_cons, List.map_nil] at hH hK9
  go_upto_region 6 with fail
  refine wp_region_until (S := (fun W : World => W.rangeAt gC 0 [.int .i64 0, .string ⟨#[]⟩, .bool false, .int .i64 0, .string ⟨#[]⟩, .bool false, .int .i64 4096, .slice none 0 0, .int .i64 4096, .int .i64 4096, .slice none 0 0, .int .i64 4096, .int .i64 4096, .int .i64 4096, .int .i64 1, .int .i64 4294967295, .int .i64 65535, .int .i64 16384, .int .i64 4294967295, .slice sA 1 sc, .int .i64 4294967295, .int .i64 9, .int .i64 0, .slice none 0 0, .slice none 0 0, .slice none 0 0, .int .i64 65535, .int .i64 65535, .slice oA on oc, .int .i64 21, .int .i64 0, .bool false, .bool false, .bool false, .int .u32 0, .int .i64 5, .int .i64 30])) (S2 := fun _ => True) 9 (by kernel_rfl) ?_
  replace hC : Blk w4.drew _ _ _ := hC
  replace hH : Blk w4.drew _ _ _ := hH
  replace hK9 : Blk w4.drew _ _ _ := hK9
  replace hI := hI.lo (lo_drew (lo_refl w4))
  replace hO := hO.lo (lo_drew (lo_refl w4))
  replace hL := lo_drew hL
  replace hgC : w.heap.size ≤ gC := hgC
  generalize w4.drew = wd at hC hH hK9 hI hO hL ⊢
  have hG : (fun _ : World => True) wd ∧ (fun W : World => W.rangeAt gC 0 [.int .i64 0, .string ⟨#[]⟩, .bool false, .int .i64 0, .string ⟨#[]⟩, .bool false, .int .i64 4096, .slice none 0 0, .int .i64 4096, .int .i64 4096, .slice none 0 0, .int .i64 4096, .int .i64 4096, .int .i64 4096, .int .i64 1, .int .i64 4294967295, .int .i64 65535, .int .i64 16384, .int .i64 4294967295, .slice sA 1 sc, .int .i64 4294967295, .int .i64 9, .int .i64 0, .slice none 0 0, .slice none 0 0, .slice none 0 0, .int .i64 65535, .int .i64 65535, .slice oA on oc, .int .i64 21, .int .i64 0, .bool false, .bool false, .bool false, .int .u32 0, .int .i64 5, .int .i64 30]) wd := ⟨trivial, fun j v hv => blk_range hC [.int .i64 0, .string ⟨#[]⟩, .bool false, .int .i64 0, .string ⟨#[]⟩, .bool false, .int .i64 4096, .slice none 0 0, .int .i64 4096, .int .i64 4096, .slice none 0 0, .int .i64 4096, .int .i64 4096, .int .i64 4096, .int .i64 1, .int .i64 4294967295, .int .i64 65535, .int .i64 16384, .int .i64 4294967295, .slice sA 1 sc, .int .i64 4294967295, .int .i64 9, .int .i64 0, .slice none 0 0, .slice none 0 0, .slice none 0 0, .int .i64 65535, .int .i64 65535, .slice oA on oc, .int .i64 21, .int .i64 0, .bool false, .bool false, .bool false, .int .u32 0, .int .i64 5, .int .i64 30] [] rfl j v hv⟩
  refine until_take (i := 0) (oi := _) (op := _) (v := .agg #[.int .i64 0, .string ⟨#[]⟩, .bool false, .int .i64 0, .string ⟨#[]⟩, .bool false, .int .i64 4096, .slice none 0 0, .int .i64 4096, .int .i64 4096, .slice none 0 0, .int .i64 4096, .int .i64 4096, .int .i64 4096, .int .i64 1, .int .i64 4294967295, .int .i64 65535, .int .i64 16384, .int .i64 4294967295, .slice sA 1 sc, .int .i64 4294967295, .int .i64 9, .int .i64 0, .slice none 0 0, .slice none 0 0, .slice none 0 0, .int .i64 65535, .int .i64 65535, .slice oA on oc, .int .i64 21, .int .i64 0, .bool false, .bool false, .bool false, .int .u32 0, .int .i64 5, .int .i64 30]) (getop rfl) (getop rfl) (by kernel_rfl) (by decide) (by kernel_rfl) (by kernel_rfl) (by kernel_rfl) (by kernel_rfl) (fun _ _ _ h => h) (yieldsIf_load_mid (by rfl) 49 _ rfl gC 0 rfl [.int .i64 0, .string ⟨#[]⟩, .bool false, .int .i64 0, .string ⟨#[]⟩, .bool false, .int .i64 4096, .slice none 0 0, .int .i64 4096, .int .i64 4096, .slice none 0 0, .int .i64 4096, .int .i64 4096, .int .i64 4096, .int .i64 1, .int .i64 4294967295, .int .i64 65535, .int .i64 16384, .int .i64 4294967295, .slice sA 1 sc, .int .i64 4294967295, .int .i64 9, .int .i64 0, .slice none 0 0, .slice none 0 0, .slice none 0 0, .int .i64 65535, .int .i64 65535, .slice oA on oc, .int .i64 21, .int .i64 0, .bool false, .bool false, .bool false, .int .u32 0, .int .i64 5, .int .i64 30] _ (fun w h => h.2) Tryz.underlying49 rfl size49) hG ?_
  (try simp only [Act.put, List.setIfInBounds_toArray, List.set_cons_zero, List.set_cons_succ])
  (refine until_take (i := 3) (oi := _) (op := _) (v := ?_) (getop rfl) (getop rfl) (by kernel_rfl) (by decide) (by kernel_rfl) (by kernel_rfl) (by kernel_rfl) (by kernel_rfl) (fun _ _ _ h => h) (Or.inl ⟨by rfl, ?_⟩) hG ?_; rotate_left; focus (intro w hSw; (try dsimp only at hSw); go_simp; (try with_reducible rfl); done))
  (try simp only [Act.put, List.setIfInBounds_toArray, List.set_cons_zero, List.set_cons_succ])
  refine until_eff (i := 1) (o := _) (by kernel_rfl) (getop rfl) (fun K hK => ?_)
  rw [if_pos (by rfl)]
  go_simp
  refine hK.out _ _ ⟨trivial, fun j v hv => blk_range (hC.alloc (.cells #[.int .u8 80, .int .u8 82, .int .u8 73, .int .u8 32, .int .u8 42, .int .u8 32, .int .u8 72, .int .u8 84, .int .u8 84, .int .u8 80, .int .u8 47, .int .u8 50, .int .u8 46, .int .u8 48, .int .u8 13, .int .u8 10, .int .u8 13, .int .u8 10, .int .u8 83, .int .u8 77, .int .u8 13, .int .u8 10, .int .u8 13, .int .u8 10] 5)) [.int .i64 0, .string ⟨#[]⟩, .bool false, .int .i64 0, .string ⟨#[]⟩, .bool false, .int .i64 4096, .slice none 0 0, .int .i64 4096, .int .i64 4096, .slice none 0 0, .int .i64 4096, .int .i64 4096, .int .i64 4096, .int .i64 1, .int .i64 4294967295, .int .i64 65535, .int .i64 16384, .int .i64 4294967295, .slice sA 1 sc, .int .i64 4294967295, .int .i64 9, .int .i64 0, .slice none 0 0, .slice none 0 0, .slice none 0 0, .int .i64 65535, .int .i64 65535, .slice oA on oc, .int .i64 21, .int .i64 0, .bool false, .bool false, .bool false, .int .u32 0, .int .i64 5, .int .i64 30] [] rfl j v hv⟩ ?_
  clear hK K hG
  (try simp only [Act.put, List.setIfInBounds_toArray, List.set_cons_zero, List.set_cons_succ])
  refine until_eff (i := 2) (o := _) (by kernel_rfl) (getop rfl) (fun K hK => ?_)
  rw [if_pos (by rfl)]
  have kc := fun (W : World) (C : Array Value) (n c : Nat) => Lib.run_convert_bytes_const (P := Tryz.prog) W 53 5 C n c Tryz.underlying53 Tryz.underlying5
  go_simp
  clear kc
  trace_state
  have hP : (wd.alloc (.cells #[.int .u8 80, .int .u8 82, .int .u8 73, .int .u8 32, .int .u8 42, .int .u8 32, .int .u8 72, .int .u8 84, .int .u8 84, .int .u8 80, .int .u8 47, .int .u8 50, .int .u8 46, .int .u8 48, .int .u8 13, .int .u8 10, .int .u8 13, .int .u8 10, .int .u8 83, .int .u8 77, .int .u8 13, .int .u8 10, .int .u8 13, .int .u8 10] 5 (24, 25))).heap[wd.heap.size]? = some (.cells #[.int .u8 80, .int .u8 82, .int .u8 73, .int .u8 32, .int .u8 42, .int .u8 32, .int .u8 72, .int .u8 84, .int .u8 84, .int .u8 80, .int .u8 47, .int .u8 50, .int .u8 46, .int .u8 48, .int .u8 13, .int .u8 10, .int .u8 13, .int .u8 10, .int .u8 83, .int .u8 77, .int .u8 13, .int .u8 10, .int .u8 13, .int .u8 10] 5 (24, 25)) := heap_alloc_new wd _
  replace hC := hC.alloc (.cells #[.int .u8 80, .int .u8 82, .int .u8 73, .int .u8 32, .int .u8 42, .int .u8 32, .int .u8 72, .int .u8 84, .int .u8 84, .int .u8 80, .int .u8 47, .int .u8 50, .int .u8 46, .int .u8 48, .int .u8 13, .int .u8 10, .int .u8 13, .int .u8 10, .int .u8 83, .int .u8 77, .int .u8 13, .int .u8 10, .int .u8 13, .int .u8 10] 5 (24, 25))
  replace hH := hH.alloc (.cells #[.int .u8 80, .int .u8 82, .int .u8 73, .int .u8 32, .int .u8 42, .int .u8 32, .int .u8 72, .int .u8 84, .int .u8 84, .int .u8 80, .int .u8 47, .int .u8 50, .int .u8 46, .int .u8 48, .int .u8 13, .int .u8 10, .int .u8 13, .int .u8 10, .int .u8 83, .int .u8 77, .int .u8 13, .int .u8 10, .int .u8 13, .int .u8 10] 5 (24, 25))
  replace hK9 := hK9.alloc (.cells #[.int .u8 80, .int .u8 82, .int .u8 73, .int .u8 32, .int .u8 42, .int .u8 32, .int .u8 72, .int .u8 84, .int .u8 84, .int .u8 80, .int .u8 47, .int .u8 50, .int .u8 46, .int .u8 48, .int .u8 13, .int .u8 10, .int .u8 13, .int .u8 10, .int .u8 83, .int .u8 77, .int .u8 13, .int .u8 10, .int .u8 13, .int .u8 10] 5 (24, 25))
  replace hI := hI.lo (lo_alloc (lo_refl wd) (.cells #[.int .u8 80, .int .u8 82, .int .u8 73, .int .u8 32, .int .u8 42, .int .u8 32, .int .u8 72, .int .u8 84, .int .u8 84, .int .u8 80, .int .u8 47, .int .u8 50, .int .u8 46, .int .u8 48, .int .u8 13, .int .u8 10, .int .u8 13, .int .u8 10, .int .u8 83, .int .u8 77, .int .u8 13, .int .u8 10, .int .u8 13, .int .u8 10] 5 (24, 25)))
  replace hO := hO.lo (lo_alloc (lo_refl wd) (.cells #[.int .u8 80, .int .u8 82, .int .u8 73, .int .u8 32, .int .u8 42, .int .u8 32, .int .u8 72, .int .u8 84, .int .u8 84, .int .u8 80, .int .u8 47, .int .u8 50, .int .u8 46, .int .u8 48, .int .u8 13, .int .u8 10, .int .u8 13, .int .u8 10, .int .u8 83, .int .u8 77, .int .u8 13, .int .u8 10, .int .u8 13, .int .u8 10] 5 (24, 25)))
  replace hL := lo_alloc hL (.cells #[.int .u8 80, .int .u8 82, .int .u8 73, .int .u8 32, .int .u8 42, .int .u8 32, .int .u8 72, .int .u8 84, .int .u8 84, .int .u8 80, .int .u8 47, .int .u8 50, .int .u8 46, .int .u8 48, .int .u8 13, .int .u8 10, .int .u8 13, .int .u8 10, .int .u8 83, .int .u8 77, .int .u8 13, .int .u8 10, .int .u8 13, .int .u8 10] 5 (24, 25))
  generalize wd.heap.size = gP at hP ⊢
  generalize wd.alloc (.cells #[.int .u8 80, .int .u8 82, .int .u8 73, .int .u8 32, .int .u8 42, .int .u8 32, .int .u8 72, .int .u8 84, .int .u8 84, .int .u8 80, .int .u8 47, .int .u8 50, .int .u8 46, .int .u8 48, .int .u8 13, .int .u8 10, .int .u8 13, .int .u8 10, .int .u8 83, .int .u8 77, .int .u8 13, .int .u8 10, .int .u8 13, .int .u8 10] 5 (24, 25)) = we at hP hC hH hK9 hI hO hL ⊢
  have hPc : ∀ j u, ([.int .u8 80, .int .u8 82, .int .u8 73, .int .u8 32, .int .u8 42, .int .u8 32, .int .u8 72, .int .u8 84, .int .u8 84, .int .u8 80, .int .u8 47, .int .u8 50, .int .u8 46, .int .u8 48, .int .u8 13, .int .u8 10, .int .u8 13, .int .u8 10, .int .u8 83, .int .u8 77, .int .u8 13, .int .u8 10, .int .u8 13, .int .u8 10] : List Value)[j]? = some u → we.cell? ((⟨gP, 0, none⟩ : Addr).add j) = some u := fun j u hu => by
    rw [add_none, cell_of_row we gP _ _ _ _ hP, Nat.zero_add, ← Array.getElem?_toList]
    exact hu
  clear hP
  refine hK.out _ _ ⟨trivial, fun j v hv => blk_range hC [.int .i64 0, .string ⟨#[]⟩, .bool false, .int .i64 0, .string ⟨#[]⟩, .bool false, .int .i64 4096, .slice none 0 0, .int .i64 4096, .int .i64 4096, .slice none 0 0, .int .i64 4096, .int .i64 4096, .int .i64 4096, .int .i64 1, .int .i64 4294967295, .int .i64 65535, .int .i64 16384, .int .i64 4294967295, .slice sA 1 sc, .int .i64 4294967295, .int .i64 9, .int .i64 0, .slice none 0 0, .slice none 0 0, .slice none 0 0, .int .i64 65535, .int .i64 65535, .slice oA on oc, .int .i64 21, .int .i64 0, .bool false, .bool false, .bool false, .int .u32 0, .int .i64 5, .int .i64 30] [] rfl j v hv⟩ ?_
  clear hK K
  (try simp only [Act.put, List.setIfInBounds_toArray, List.set_cons_zero, List.set_cons_succ])
  have hG : (fun _ : World => True) we ∧ (fun W : World => W.rangeAt gC 0 [.int .i64 0, .string ⟨#[]⟩, .bool false, .int .i64 0, .string ⟨#[]⟩, .bool false, .int .i64 4096, .slice none 0 0, .int .i64 4096, .int .i64 4096, .slice none 0 0, .int .i64 4096, .int .i64 4096, .int .i64 4096, .int .i64 1, .int .i64 4294967295, .int .i64 65535, .int .i64 16384, .int .i64 4294967295, .slice sA 1 sc, .int .i64 4294967295, .int .i64 9, .int .i64 0, .slice none 0 0, .slice none 0 0, .slice none 0 0, .int .i64 65535, .int .i64 65535, .slice oA on oc, .int .i64 21, .int .i64 0, .bool false, .bool false, .bool false, .int .u32 0, .int .i64 5, .int .i64 30]) we := ⟨trivial, fun j v hv => blk_range hC [.int .i64 0, .string ⟨#[]⟩, .bool false, .int .i64 0, .string ⟨#[]⟩, .bool false, .int .i64 4096, .slice none 0 0, .int .i64 4096, .int .i64 4096, .slice none 0 0, .int .i64 4096, .int .i64 4096, .int .i64 4096, .int .i64 1, .int .i64 4294967295, .int .i64 65535, .int .i64 16384, .int .i64 4294967295, .slice sA 1 sc, .int .i64 4294967295, .int .i64 9, .int .i64 0, .slice none 0 0, .slice none 0 0, .slice none 0 0, .int .i64 65535, .int .i64 65535, .slice oA on oc, .int .i64 21, .int .i64 0, .bool false, .bool false, .bool false, .int .u32 0, .int .i64 5, .int .i64 30] [] rfl j v hv⟩
  refine until_eff (i := 4) (o := _) (by kernel_rfl) (getop rfl) (fun K hK => ?_)
  rw [if_pos (by rfl)]
  refine oper_append_full (.tmp 45) (.tmp 46) 53 rfl 5 i0 (.int .u8 0) 1 1 Tryz.underlying53 hi hz0 hz1 hz2 rfl ⟨gP, 0, none⟩ 24 24 [.int .u8 80, .int .u8 82, .int .u8 73, .int .u8 32, .int .u8 42, .int .u8 32, .int .u8 72, .int .u8 84, .int .u8 84, .int .u8 80, .int .u8 47, .int .u8 50, .int .u8 46, .int .u8 48, .int .u8 13, .int .u8 10, .int .u8 13, .int .u8 10, .int .u8 83, .int .u8 77, .int .u8 13, .int .u8 10, .int .u8 13, .int .u8 10] rfl rfl hPc ⟨gH, 0, none⟩ 9 9 [.int .u8 0, .int .u8 0, .int .u8 0, .int .u8 4, .int .u8 0, .int .u8 0, .int .u8 0, .int .u8 0, .int .u8 0] rfl rfl (hH.at rfl) (by decide) (by decide) (by decide) ?_
  intro v4 w5 hown hb
  obtain ⟨A4, c4, rfl, hle, hnz⟩ := own_shape hown
  obtain ⟨a4, rfl⟩ := nat_pos_some hnz (by omega)
  obtain ⟨b4, cur, rfl, hb4, hT, hc1, hcm, hcs, htk⟩ := own_blk hown
  have hlt4 := hT.lt
  have hc33 : ∀ j, j < 33 → w5.cell? ⟨b4, 0 + j, none⟩ = some (.int .u8 (([80, 82, 73, 32, 42, 32, 72, 84, 84, 80, 47, 50, 46, 48, 13, 10, 13, 10, 83, 77, 13, 10, 13, 10, 0, 0, 0, 4, 0, 0, 0, 0, 0] : List Int).getD j 0)) := fun j hj => by
    have h9 : (cur.toList.take ((24 + 9) * 1))[j]? = _ := congrArg (fun l : List Value => l[j]?) htk
    rw [List.getElem?_take, if_pos (by omega), Array.getElem?_toList] at h9
    rw [Nat.zero_add, hT.facts.1, h9]
    exact bytes_at [80, 82, 73, 32, 42, 32, 72, 84, 84, 80, 47, 50, 46, 48, 13, 10, 13, 10, 83, 77, 13, 10, 13, 10, 0, 0, 0, 4, 0, 0, 0, 0, 0] j hj
  clear htk hcs hcm hb4 hT hown hle hnz hPc
  replace hC := hC.lo hb
  replace hH := hH.lo hb
  replace hK9 := hK9.lo hb
  replace hI := hI.lo hb
  replace hO := hO.lo hb
  replace hL := lo_trans hL hb
  clear hb
  refine hK.out _ _ ⟨trivial, fun j v hv => blk_range hC [.int .i64 0, .string ⟨#[]⟩, .bool false, .int .i64 0, .string ⟨#[]⟩, .bool false, .int .i64 4096, .slice none 0 0, .int .i64 4096, .int .i64 4096, .slice none 0 0, .int .i64 4096, .int .i64 4096, .int .i64 4096, .int .i64 1, .int .i64 4294967295, .int .i64 65535, .int .i64 16384, .int .i64 4294967295, .slice sA 1 sc, .int .i64 4294967295, .int .i64 9, .int .i64 0, .slice none 0 0, .slice none 0 0, .slice none 0 0, .int .i64 65535, .int .i64 65535, .slice oA on oc, .int .i64 21, .int .i64 0, .bool false, .bool false, .bool false, .int .u32 0, .int .i64 5, .int .i64 30] [] rfl j v hv⟩ ?_
  clear hK K hG
  (try simp only [Act.put, List.setIfInBounds_toArray, List.set_cons_zero, List.set_cons_succ])
  have hG : (fun _ : World => True) w5 ∧ (fun W : World => W.rangeAt gC 0 [.int .i64 0, .string ⟨#[]⟩, .bool false, .int .i64 0, .string ⟨#[]⟩, .bool false, .int .i64 4096, .slice none 0 0, .int .i64 4096, .int .i64 4096, .slice none 0 0, .int .i64 4096, .int .i64 4096, .int .i64 4096, .int .i64 1, .int .i64 4294967295, .int .i64 65535, .int .i64 16384, .int .i64 4294967295, .slice sA 1 sc, .int .i64 4294967295, .int .i64 9, .int .i64 0, .slice none 0 0, .slice none 0 0, .slice none 0 0, .int .i64 65535, .int .i64 65535, .slice oA on oc, .int .i64 21, .int .i64 0, .bool false, .bool false, .bool false, .int .u32 0, .int .i64 5, .int .i64 30]) w5 := ⟨trivial, fun j v hv => blk_range hC [.int .i64 0, .string ⟨#[]⟩, .bool false, .int .i64 0, .string ⟨#[]⟩, .bool false, .int .i64 4096, .slice none 0 0, .int .i64 4096, .int .i64 4096, .slice none 0 0, .int .i64 4096, .int .i64 4096, .int .i64 4096, .int .i64 1, .int .i64 4294967295, .int .i64 65535, .int .i64 16384, .int .i64 4294967295, .slice sA 1 sc, .int .i64 4294967295, .int .i64 9, .int .i64 0, .slice none 0 0, .slice none 0 0, .slice none 0 0, .int .i64 65535, .int .i64 65535, .slice oA on oc, .int .i64 21, .int .i64 0, .bool false, .bool false, .bool false, .int .u32 0, .int .i64 5, .int .i64 30] [] rfl j v hv⟩
  refine until_eff (i := 5) (o := _) (by kernel_rfl) (getop rfl) (fun K hK => ?_)
  rw [if_pos (by rfl)]
  go_simp
  refine (feed_hello sA 1 sc 4294967295 9 oA on oc ol 21 0 5 b4 0 c4 w5 hlt4 hc1 hc33 hO (by decide)).mono ?_
  rintro e w6 ⟨A2, n2, c2, ol2, rfl, hO2, hb⟩
  clear hc33 hlt4 hc1 hO
  replace hC := hC.lo hb
  replace hH := hH.lo hb
  replace hK9 := hK9.lo hb
  replace hI := hI.lo hb
  replace hL := lo_trans hL hb
  clear hb
  try dsimp only
  refine hK.out _ _ ⟨trivial, fun j v hv => blk_range hC [.int .i64 0, .string ⟨#[]⟩, .bool false, .int .i64 0, .string ⟨#[]⟩, .bool false, .int .i64 4096, .slice none 0 0, .int .i64 4096, .int .i64 4096, .slice none 0 0, .int .i64 4096, .int .i64 4096, .int .i64 4096, .int .i64 1, .int .i64 4294967295, .int .i64 65535, .int .i64 16384, .int .i64 4294967295, .slice sA 1 sc, .int .i64 4294967295, .int .i64 9, .int .i64 0, .slice none 0 0, .slice none 0 0, .slice none 0 0, .int .i64 65535, .int .i64 65535, .slice oA on oc, .int .i64 21, .int .i64 0, .bool false, .bool false, .bool false, .int .u32 0, .int .i64 5, .int .i64 30] [] rfl j v hv⟩ ?_
  clear hK K hG
  (try simp only [Act.put, List.setIfInBounds_toArray, List.set_cons_zero, List.set_cons_succ])
  have hG : (fun _ : World => True) w6 ∧ (fun W : World => W.rangeAt gC 0 [.int .i64 0, .string ⟨#[]⟩, .bool false, .int .i64 0, .string ⟨#[]⟩, .bool false, .int .i64 4096, .slice none 0 0, .int .i64 4096, .int .i64 4096, .slice none 0 0, .int .i64 4096, .int .i64 4096, .int .i64 4096, .int .i64 1, .int .i64 4294967295, .int .i64 65535, .int .i64 16384, .int .i64 4294967295, .slice sA 1 sc, .int .i64 4294967295, .int .i64 9, .int .i64 0, .slice none 0 0, .slice none 0 0, .slice none 0 0, .int .i64 65535, .int .i64 65535, .slice oA on oc, .int .i64 21, .int .i64 0, .bool false, .bool false, .bool false, .int .u32 0, .int .i64 5, .int .i64 30]) w6 := ⟨trivial, fun j v hv => blk_range hC [.int .i64 0, .string ⟨#[]⟩, .bool false, .int .i64 0, .string ⟨#[]⟩, .bool false, .int .i64 4096, .slice none 0 0, .int .i64 4096, .int .i64 4096, .slice none 0 0, .int .i64 4096, .int .i64 4096, .int .i64 4096, .int .i64 1, .int .i64 4294967295, .int .i64 65535, .int .i64 16384, .int .i64 4294967295, .slice sA 1 sc, .int .i64 4294967295, .int .i64 9, .int .i64 0, .slice none 0 0, .slice none 0 0, .slice none 0 0, .int .i64 65535, .int .i64 65535, .slice oA on oc, .int .i64 21, .int .i64 0, .bool false, .bool false, .bool false, .int .u32 0, .int .i64 5, .int .i64 30] [] rfl j v hv⟩
  (refine until_take (i := 6) (oi := _) (op := _) (v := ?_) (getop rfl) (getop rfl) (by kernel_rfl) (by decide) (by kernel_rfl) (by kernel_rfl) (by kernel_rfl) (by kernel_rfl) (fun _ _ _ h => h) (Or.inl ⟨by rfl, ?_⟩) hG ?_; rotate_left; focus (intro w hSw; (try dsimp only at hSw); go_simp; (try with_reducible rfl); done))
  (try simp only [Act.put, List.setIfInBounds_toArray, List.set_cons_zero, List.set_cons_succ])
  (refine until_take (i := 7) (oi := _) (op := _) (v := ?_) (getop rfl) (getop rfl) (by kernel_rfl) (by decide) (by kernel_rfl) (by kernel_rfl) (by kernel_rfl) (by kernel_rfl) (fun _ _ _ h => h) (Or.inl ⟨by rfl, ?_⟩) hG ?_; rotate_left; focus (intro w hSw; (try dsimp only at hSw); go_simp; (try with_reducible rfl); done))
  (try simp only [Act.put, List.setIfInBounds_toArray, List.set_cons_zero, List.set_cons_succ])
  (refine until_take2 (i := 8) (oi := _) (v := ?_) (getop rfl) (by decide) (by kernel_rfl) (by kernel_rfl) (by kernel_rfl) (fun _ _ _ h => h) (Or.inl ⟨by rfl, ?_⟩) ⟨hG.1, Or.inr hG.2⟩ ?_; rotate_left; focus (intro w hSw; (try dsimp only at hSw); go_simp; (try with_reducible rfl); done))
  (try simp only [Act.put, List.setIfInBounds_toArray, List.set_cons_zero, List.set_cons_succ])
  refine until_step (i := 9) (o := _) (by kernel_rfl) (getop rfl) (by kernel_rfl) (fun K hK => ?_)
  rw [if_pos (by rfl)]
  refine wp_store_mid 49 _ _ rfl gC 0 #[.int .i64 24, .string ⟨#[]⟩, .bool false, .int .i64 0, .string ⟨#[]⟩, .bool false, .int .i64 4096, .slice none 0 0, .int .i64 4096, .int .i64 4096, .slice none 0 0, .int .i64 4096, .int .i64 4096, .int .i64 4096, .int .i64 1, .int .i64 4294967295, .int .i64 65535, .int .i64 16384, .int .i64 4294967295, .slice sA 1 sc, .int .i64 4294967295, .int .i64 9, .int .i64 0, .slice none 0 0, .slice none 0 0, .slice none 0 0, .int .i64 65535, .int .i64 65535, .slice A2 n2 c2, .int .i64 30, .int .i64 0, .bool true, .bool false, .bool false, .int .u32 0, .int .i64 5, .int .i64 30] rfl rfl (blk_there hC 37 rfl) size49 (by kernel_rfl) ?_
  have hKr := Kept.setCells ([.int .i64 24, .string ⟨#[]⟩, .bool false, .int .i64 0, .string ⟨#[]⟩, .bool false, .int .i64 4096, .slice none 0 0, .int .i64 4096, .int .i64 4096, .slice none 0 0, .int .i64 4096, .int .i64 4096, .int .i64 4096, .int .i64 1, .int .i64 4294967295, .int .i64 65535, .int .i64 16384, .int .i64 4294967295, .slice sA 1 sc, .int .i64 4294967295, .int .i64 9, .int .i64 0, .slice none 0 0, .slice none 0 0, .slice none 0 0, .int .i64 65535, .int .i64 65535, .slice A2 n2 c2, .int .i64 30, .int .i64 0, .bool true, .bool false, .bool false, .int .u32 0, .int .i64 5, .int .i64 30] : List Value) 0 w6 (Kept.refl w6 gC)
  replace hI := hI.keptT hKr hC (by decide) (by decide)
  replace hO2 := hO2.keptT hKr hC (by decide)
  replace hK9 := hK9.kept hKr (by omega)
  replace hL := lo_cells hgC [.int .i64 24, .string ⟨#[]⟩, .bool false, .int .i64 0, .string ⟨#[]⟩, .bool false, .int .i64 4096, .slice none 0 0, .int .i64 4096, .int .i64 4096, .slice none 0 0, .int .i64 4096, .int .i64 4096, .int .i64 4096, .int .i64 1, .int .i64 4294967295, .int .i64 65535, .int .i64 16384, .int .i64 4294967295, .slice sA 1 sc, .int .i64 4294967295, .int .i64 9, .int .i64 0, .slice none 0 0, .slice none 0 0, .slice none 0 0, .int .i64 65535, .int .i64 65535, .slice A2 n2 c2, .int .i64 30, .int .i64 0, .bool true, .bool false, .bool false, .int .u32 0, .int .i64 5, .int .i64 30] 0 w6 hL
  replace hC := hC.setAll #[.int .i64 24, .string ⟨#[]⟩, .bool false, .int .i64 0, .string ⟨#[]⟩, .bool false, .int .i64 4096, .slice none 0 0, .int .i64 4096, .int .i64 4096, .slice none 0 0, .int .i64 4096, .int .i64 4096, .int .i64 4096, .int .i64 1, .int .i64 4294967295, .int .i64 65535, .int .i64 16384, .int .i64 4294967295, .slice sA 1 sc, .int .i64 4294967295, .int .i64 9, .int .i64 0, .slice none 0 0, .slice none 0 0, .slice none 0 0, .int .i64 65535, .int .i64 65535, .slice A2 n2 c2, .int .i64 30, .int .i64 0, .bool true, .bool false, .bool false, .int .u32 0, .int .i64 5, .int .i64 30] rfl
  clear hKr hH
  dsimp only at hC hI hO2 hK9 hL
  generalize w6.setCells gC 0 [.int .i64 24, .string ⟨#[]⟩, .bool false, .int .i64 0, .string ⟨#[]⟩, .bool false, .int .i64 4096, .slice none 0 0, .int .i64 4096, .int .i64 4096, .slice none 0 0, .int .i64 4096, .int .i64 4096, .int .i64 4096, .int .i64 1, .int .i64 4294967295, .int .i64 65535, .int .i64 16384, .int .i64 4294967295, .slice sA 1 sc, .int .i64 4294967295, .int .i64 9, .int .i64 0, .slice none 0 0, .slice none 0 0, .slice none 0 0, .int .i64 65535, .int .i64 65535, .slice A2 n2 c2, .int .i64 30, .int .i64 0, .bool true, .bool false, .bool false, .int .u32 0, .int .i64 5, .int .i64 30] = w7 at hC hI hO2 hK9 hL ⊢
  refine hK.out _ _ trivial ?_
  clear hK K hG
  (try simp only [Act.put, List.setIfInBounds_toArray, List.set_cons_zero, List.set_cons_succ])
  (refine until_take2 (i := 10) (oi := _) (v := ?_) (getop rfl) (by decide) (by kernel_rfl) (by kernel_rfl) (by kernel_rfl) (fun _ _ _ h => h) (Or.inl ⟨by rfl, ?_⟩) ⟨trivial, Or.inl (by kernel_rfl)⟩ ?_; rotate_left; focus (intro w hSw; (try dsimp only at hSw); go_simp; (try with_reducible rfl); done))
  (try simp only [Act.put, List.setIfInBounds_toArray, List.set_cons_zero, List.set_cons_succ])
  refine until_done (by kernel_rfl) ?_ _
  clear hi hz0 hz1 hz2 hCH hHk
  have hV1 : IntsAt (w7.alloc (.cells #[.int .i64 9] 3)) w.heap.size w7.heap.size (some ⟨w7.heap.size, 0, none⟩) 1 1 [9] := IntsAt.one (Blk.new w7 3 #[.int .i64 9]) hL.size
  have hV2 : IntsAt ((w7.alloc (.cells #[.int .i64 9] 3)).alloc (.cells #[.int .i64 5] 3)) w.heap.size (w7.heap.size + 1) (some ⟨w7.heap.size + 1, 0, none⟩) 1 1 [5] := by
    have := Blk.new (w7.alloc (.cells #[.int .i64 9] 3)) 3 #[.int .i64 5]
    simp only [World.size_alloc] at this
    exact IntsAt.one this (Nat.le_succ_of_le hL.size)
  replace hV1 := hV1.alloc (.cells #[.int .i64 5] 3)
  have hb := lo_alloc (lo_alloc (lo_refl w7) (.cells #[.int .i64 9] 3)) (.cells #[.int .i64 5] 3)
  replace hC := hC.lo hb
  replace hK9 := hK9.lo hb
  replace hI := hI.lo hb
  replace hO2 := hO2.lo hb
  replace hL := lo_trans hL hb
  clear hb
  have HREL : Hid (Rel w gC gk 0 (.slice none 0 0) (.slice (some ⟨w7.heap.size, 0, none⟩) 1 1) (.slice (some ⟨w7.heap.size + 1, 0, none⟩) 1 1) (.int .i64 4294967295) (.int .i64 9) (.int .i64 5) (.int .u32 0) ((w7.alloc (.cells #[.int .i64 9] 3)).alloc (.cells #[.int .i64 5] 3))) := Lib.hid ⟨_, _, [⟨B1, c1, 9, true, 5⟩], _, _, _, _, _, _, _, _, _, _, _, _, _, _, _, _, _, rfl, rfl, rfl, rfl, rfl, rfl, rfl, Lib.hid ⟨hC, hK9, hI, hO2, by decide, hV1, hV2, by omega, .inl ⟨rfl, rfl⟩, by decide, by decide, by simp, fun _ => by simp [lateB], hL, hgC⟩⟩
  clear hC hK9 hI hO2 hL hV1 hV2 hgC
  go_upto_region 12 with fail
  obtain ⟨wA, hwA⟩ : ∃ x, (w7.alloc (.cells #[.int .i64 9] 3)).alloc (.cells #[.int .i64 5] 3) = x := ⟨_, rfl⟩
  rw [hwA] at HREL ⊢
  go_cut [9, 10, 11, 12, 13, 14, 15, 16] from 24 to 67 (fun ev lim sin hd tl nw cd i wc => i = .int .i64 0 ∧ Hid (Rel w gC gk 0 ev lim sin hd tl nw cd wc))
  case first =>
    go_wp2_with fail
    go_meet
    exact ⟨rfl, HREL⟩
  case rest =>
  clear HREL hwA
  obtain ⟨rfl, HREL⟩ := hcut
  go_wp2_with fail
  go_loopw [9, 10, 11, 12, 13, 14, 15, 16, 17, 18, 19, 20, 21, 22, 23] (fun ev lim sin hd tl nw cd i _ _ _ _ _ _ _ wr => ∃ k : Nat, i = .int .i64 k ∧ k ≤ len0 ∧ Hid (Rel w gC gk k ev lim sin hd tl nw cd wr)) (fun _ _ _ _ _ _ _ i _ _ _ _ _ _ _ _ => len0 - (intOf i).toNat)
  case atStart => exact ⟨0, rfl, by omega, HREL⟩
  case round =>
  clear HREL
  obtain ⟨k, rfl, hkl, HREL⟩ := hrel
  by_cases hil : k < len0
  · have hil' : (k : Int) < (len0 : Int) := by omega
    obtain ⟨g1, g2, l, sA, A1, A2, oA, sc, c1, c2, on, oc, ol, held, told, made, gone, code, now, dead, rfl, rfl, rfl, rfl, rfl, rfl, rfl, HI⟩ := HREL.out
    clear HREL
    obtain ⟨b, off, rfl, hlt, hc⟩ := (HX.out _ HI.out.low).2.2.2.2.1 k xs0[k] (List.getElem?_eq_getElem (by omega))
    have hwf := (HX.out _ HI.out.low).2.2.2.2.2 xs0[k] (List.getElem_mem _)
    obtain ⟨z, hz⟩ : ∃ z, xs0[k] = z := ⟨_, rfl⟩
    rw [hz] at hc hwf
    have hc0 := hc 0 _ rfl
    have hc1 := hc 1 _ rfl
    obtain ⟨x1, x2⟩ := z
    dsimp only at hc0 hc1 hwf
    simp only [Nat.add_zero] at hc0
    have hx1 := bounds_u8 hwf.1
    have hx2 := bounds_u8 hwf.2
    clear hc hwf hz
    have hw2 : IntKind.i64.wrap x2 = x2 := IntWalk.i64_in _ (by omega)
    have hkd : x1.tmod 4 = 0 ∨ x1.tmod 4 = 1 ∨ x1.tmod 4 = 2 ∨ x1.tmod 4 = 3 := by
      rw [Int.tmod_eq_emod_of_nonneg hx1.1]
      omega
    obtain ⟨kd, hkd'⟩ : ∃ kd, x1.tmod 4 = kd := ⟨_, rfl⟩
    rw [hkd'] at hkd
    go_upto_block 2 with fail
    go_cut [9, 10, 11, 12, 13, 14, 15, 18, 19, 20, 21] from 68 to 227 (fun ev lim sin hd tl nw cd _ _ _ _ wc => Hid (Rel w gC gk (k + 1) ev lim sin hd tl nw cd wc))
    case first =>
      clear hkd' hc0 hc1 hx1 hlt
      rcases hkd with rfl | rfl | rfl | rfl
      · go_step
        refine sw_k0 HI.out hx2 (by omega) ?_
        intro ev lim sin hd tl nw cd _ _ _ _ _ _ _ _ _ _ _ _ _ _ _ _ _ _ _ _ _ _ _ _ _ _ _ _ _ _ _ _ _ _ _ _ _ _ _ _ _ _ _ _ _ _ _ _ _ _ _ _ _ _ _ _ _ _ _ _ _ _ _ _ _ _ _ _ _ _ _ _ _ _ _ _ _ _ _ _ _ _ _ _ _ _ _ _ _ _ _ _ _ _ _ _ _ _ _ _ _ _ _ _ _ _ _ _ _ _ _ _ _ _ _ _ _ _ _ _ _ _ _ _ _ _ _ _ _ _ _ _ _ _ _ _ _ _ _ _ _ _ _ _ _ _ _ _ _ _ _ _ _ _ _ _ _ _ _ _ _ _ _ _ wc hR
        go_wp2_with fail
        go_meet
        exact hR
      · go_step
        refine sw_k1 HI.out hx2 (by omega) ?_
        intro ev lim sin hd tl nw cd _ _ _ _ _ _ _ _ _ _ _ _ _ _ _ _ _ _ _ _ _ _ _ _ _ _ _ _ _ _ _ _ _ _ _ _ _ _ _ _ _ _ _ _ _ _ _ _ _ _ _ _ _ _ _ _ _ _ _ _ _ _ _ _ _ _ _ _ _ _ _ _ _ _ _ _ _ _ _ _ _ _ _ _ _ _ _ _ _ _ _ _ _ _ _ _ _ _ _ _ _ _ _ _ _ _ _ _ _ _ _ _ _ _ _ _ _ _ _ _ _ _ _ _ _ _ _ _ _ _ _ _ _ _ _ _ _ _ _ _ _ _ _ _ _ _ _ _ _ _ _ _ _ _ _ _ _ _ _ _ _ _ _ _ wc hR
        go_wp2_with fail
        go_meet
        exact hR
      · go_step
        refine sw_k2 HI.out hx2 (by omega) ?_
        intro ev lim sin hd tl nw cd _ _ _ _ _ _ _ _ _ _ _ _ _ _ _ _ _ _ _ _ _ _ _ _ _ _ _ _ _ _ _ _ _ _ _ _ _ _ _ _ _ _ _ _ _ _ _ _ _ _ _ _ _ _ _ _ _ _ _ _ _ _ _ _ _ _ _ _ _ _ _ _ _ _ _ _ _ _ _ _ _ _ _ _ _ _ _ _ _ _ _ _ _ _ _ _ _ _ _ _ _ _ _ _ _ _ _ _ _ _ _ _ _ _ _ _ _ _ _ _ _ _ _ _ _ _ _ _ _ _ _ _ _ _ _ _ _ _ _ _ _ _ _ _ _ _ _ _ _ _ _ _ _ _ _ _ _ _ _ _ _ _ _ _ wc hR
        go_wp2_with fail
        go_meet
        exact hR
      · go_step
        refine sw_k3 HI.out hx2 (by omega) ?_
        intro ev lim sin hd tl nw cd _ _ _ _ _ _ _ _ _ _ _ _ _ _ _ _ _ _ _ _ _ _ _ _ _ _ _ _ _ _ _ _ _ _ _ _ _ _ _ _ _ _ _ _ _ _ _ _ _ _ _ _ _ _ _ _ _ _ _ _ _ _ _ _ _ _ _ _ _ _ _ _ _ _ _ _ _ _ _ _ _ _ _ _ _ _ _ _ _ _ _ _ _ _ _ _ _ _ _ _ _ _ _ _ _ _ _ _ _ _ _ _ _ _ _ _ _ _ _ _ _ _ _ _ _ _ _ _ _ _ _ _ _ _ _ _ _ _ _ _ _ _ _ _ _ _ _ _ _ _ _ _ _ _ _ _ _ _ _ _ _ _ _ _ wc hR
        go_wp2_with fail
        go_meet
        exact hR
    case rest =>
    clear HI hc0 hc1 hw2 hx1 hx2 hkd hkd' hlt
    go_step
    refine tl_walk hcut (by omega) ?_
    intro _ _ _ _ _ _ _ _ _ _ _ _ _ _ _ _ _ _ _ _ _ _ _ _ _ _ _ _ _ _ _ _ _ _ _ _ _ _ _ _ _ _ _ _ _ _ _ _ _ _ _ _ _ _ _ _ _ _ _ _ _ _ _ _ _ _ _ _ _ _ _ _ _ _ _ _ _ _ _ _ _ _ _ _ _ _ _ _ _ _ _ _ _ _ _ _ _ _ _ _ _ _ _ _ _ _ _ _ _ _ _ _ _ _ _ _ _ _ _ _ _ _ _ _ _ _ _ _ _ _ _ _ _ _ _ _ _ _ _ _ _ _ _ _ _ _ _ _ _ _ _ _ _ _ _ _ _ _ _ _ _ _ wy hR
    go_wp2_with fail
    go_roundw
    case rel => exact ⟨k + 1, by go_num, by omega, hR⟩
    case measure => simp [intOf]; omega
  · have hil' : ¬ (k : Int) < (len0 : Int) := by omega
    obtain ⟨g1, g2, l, sA, A1, A2, oA, sc, c1, c2, on, oc, ol, held, told, made, gone, code, now, dead, rfl, rfl, rfl, rfl, rfl, rfl, rfl, HI⟩ := HREL.out
    clear HREL
    go_wp2_with fail
    refine (HA.out _).mono ?_
    rintro e wz ⟨rfl, hb⟩
    have hM := Lib.hid (lo_trans HI.out.low hb)
    clear hb
    go_wp2_with fail
    go_ret
    exact ⟨rfl, hM.out⟩
end Go.Proofs.YtdonnbfojcggmaaGreat
