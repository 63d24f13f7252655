import Derived.Test.YtdonnbfojcggmaaGreatSets0
namespace Go.Proofs.YtdonnbfojcggmaaGreat
open Go.RowKit
attribute [local go_sem ↓] Go.wp_at_zero Go.wp_at_succ

/-- What a machine's function leaves. -/
def MPost (w : World) (g : Nat) (cs : Array Value) (e : Ending) (w' : World) : Prop := e = .returned (.tuple #[]) ∧ Blk w' g 89 cs ∧ Kept w w' g
set_option maxRecDepth 100000 in
set_option maxHeartbeats 1600000 in
theorem die_any (got : Int) (sA : Option Addr) (sn sc : Nat) (held told : Int) (oA : Option Addr) (on oc : Nat) (ol : List ByteArray) (made gone : Int) (begun : Bool) (now : Int) (c : Int) (g : Nat) (w : World) (hM : Blk w g 89 #[.int .i64 got, .string ⟨#[]⟩, .bool false, .int .i64 0, .string ⟨#[]⟩, .bool false, .int .i64 4096, .slice none 0 0, .int .i64 4096, .int .i64 4096, .slice none 0 0, .int .i64 4096, .int .i64 4096, .int .i64 4096, .int .i64 1, .int .i64 4294967295, .int .i64 65535, .int .i64 16384, .int .i64 4294967295, .slice sA sn sc, .int .i64 held, .int .i64 told, .int .i64 0, .slice none 0 0, .slice none 0 0, .slice none 0 0, .int .i64 65535, .int .i64 65535, .slice oA on oc, .int .i64 made, .int .i64 gone, .bool begun, .bool false, .bool false, .int .u32 0, .int .i64 now, .int .i64 30, .slice none 0 0]) : Calls Tryz.prog 41 #[.pointer (some ⟨g, 0, none⟩), .int .u32 c] w (MPost w g #[.int .i64 got, .string ⟨#[]⟩, .bool false, .int .i64 0, .string ⟨#[]⟩, .bool false, .int .i64 4096, .slice none 0 0, .int .i64 4096, .int .i64 4096, .slice none 0 0, .int .i64 4096, .int .i64 4096, .int .i64 4096, .int .i64 1, .int .i64 4294967295, .int .i64 65535, .int .i64 16384, .int .i64 4294967295, .slice sA sn sc, .int .i64 held, .int .i64 told, .int .i64 0, .slice none 0 0, .slice none 0 0, .slice none 0 0, .int .i64 65535, .int .i64 65535, .slice oA on oc, .int .i64 made, .int .i64 gone, .bool begun, .bool false, .bool true, .int .u32 c, .int .i64 now, .int .i64 30, .slice none 0 0]) := by
  obtain ⟨cM, fM⟩ := hM.facts
  have lM := hM.lt
  go_enter Tryz.func41, Tryz.ntmps41
  go_wp2_with fail
  refine bodyPost_ret (v := .tuple #[]) (by simp [results, Tryz.results41, go_sem]) rfl ⟨rfl, ?_, ((Kept.refl w g).set 33 _).set 34 _⟩
  simpa using (hM.set_ 33 (.bool true)).set_ 34 (.int .u32 c)
/-- A frame went out. -/
def EmitPost (w : World) (g m : Nat) (C : Value → Int → Array Value) (made gone : Int) (e : Ending) (w' : World) : Prop :=
  ∃ A n cap l, e = .returned (.tuple #[]) ∧ OutOk w' A n cap l (made + m) gone ∧ Blk w' g 89 (C (.slice A n cap) (made + m)) ∧ Kept w w' g
theorem PutPost.of_head {w : World} {Q : List Int → Prop} {e : Ending} {w' : World} (h : HeadPost w Q e w') : PutPost w 9 e w' := by
  obtain ⟨g, bs, hl, _, _, rfl, hb, hlo⟩ := h
  refine ⟨_, 9, bs, rfl, ⟨hl, Nat.le_refl _, by unfold maxLen; omega, (fun h => by cases h), fun i x hx => ⟨g, 0, rfl, hb.lt, fun j u hu => ?_⟩, fun _ _ => trivial⟩, hlo⟩
  have hj : j = 0 := by
    have := (List.getElem?_eq_some_iff.1 hu).1
    rw [cellsB_len] at this
    omega
  subst hj
  injection hu with hu
  subst hu
  rw [hb.facts.1]
  simp [hx]
set_option maxRecDepth 100000 in
set_option maxHeartbeats 1600000 in
theorem emit_any (got : Int) (sA : Option Addr) (sn sc : Nat) (held told : Int) (oA : Option Addr) (on oc : Nat) (ol : List ByteArray) (made gone : Int) (begun : Bool) (now : Int) (ty fl fc : Int) (P : Value) (m : Nat) (g : Nat) (w : World) (hM : Blk w g 89 #[.int .i64 got, .string ⟨#[]⟩, .bool false, .int .i64 0, .string ⟨#[]⟩, .bool false, .int .i64 4096, .slice none 0 0, .int .i64 4096, .int .i64 4096, .slice none 0 0, .int .i64 4096, .int .i64 4096, .int .i64 4096, .int .i64 1, .int .i64 4294967295, .int .i64 65535, .int .i64 16384, .int .i64 4294967295, .slice sA sn sc, .int .i64 held, .int .i64 told, .int .i64 0, .slice none 0 0, .slice none 0 0, .slice none 0 0, .int .i64 65535, .int .i64 65535, .slice oA on oc, .int .i64 made, .int .i64 gone, .bool begun, .bool false, .bool false, .int .u32 0, .int .i64 now, .int .i64 30, .slice none 0 0]) (ho : OutOk w oA on oc ol made gone) (hm : 0 < m ∧ m ≤ 100) (hmm : made + m ≤ 60000)
    (hput : ∀ W, Below w.heap.size w W → Calls Tryz.prog 6 #[.agg #[.int .u8 ty, .int .u8 fl, .int .i64 0, .string ⟨#[]⟩, .int .i64 0, .int .i64 0, .bool false, .int .u8 0, .int .u32 fc, .int .i64 0, .int .i64 0, P]] W (PutPost W m)) : Calls Tryz.prog 21 #[.pointer (some ⟨g, 0, none⟩), .agg #[.int .u8 ty, .int .u8 fl, .int .i64 0, .string ⟨#[]⟩, .int .i64 0, .int .i64 0, .bool false, .int .u8 0, .int .u32 fc, .int .i64 0, .int .i64 0, P]] w (EmitPost w g m (fun o md => #[.int .i64 got, .string ⟨#[]⟩, .bool false, .int .i64 0, .string ⟨#[]⟩, .bool false, .int .i64 4096, .slice none 0 0, .int .i64 4096, .int .i64 4096, .slice none 0 0, .int .i64 4096, .int .i64 4096, .int .i64 4096, .int .i64 1, .int .i64 4294967295, .int .i64 65535, .int .i64 16384, .int .i64 4294967295, .slice sA sn sc, .int .i64 held, .int .i64 told, .int .i64 0, .slice none 0 0, .slice none 0 0, .slice none 0 0, .int .i64 65535, .int .i64 65535, o, .int .i64 md, .int .i64 gone, .bool begun, .bool false, .bool false, .int .u32 0, .int .i64 now, .int .i64 30, .slice none 0 0]) made gone) := by
  have HO := Lib.hid ho
  have HP := Lib.hid hput
  have H2 : Hid (∀ W B c bs, OutOk W oA on oc ol made gone → Bytes W B m c bs → Calls Tryz.prog 40 #[.agg #[.slice oA on oc, .int .i64 made, .int .i64 gone], .slice B m c] W (PushPost W (made + m) gone)) := Lib.hid fun W B c bs h1 h2 => push_any oA on oc ol made gone B m c bs W h1 h2 hm hmm
  clear ho hput hm hmm
  have hF := Blk.new w 58 #[.int .u8 ty, .int .u8 fl, .int .i64 0, .string ⟨#[]⟩, .int .i64 0, .int .i64 0, .bool false, .int .u8 0, .int .u32 fc, .int .i64 0, .int .i64 0, P]
  have lg := hM.lt
  replace hM := hM.alloc (.cells #[.int .u8 ty, .int .u8 fl, .int .i64 0, .string ⟨#[]⟩, .int .i64 0, .int .i64 0, .bool false, .int .u8 0, .int .u32 fc, .int .i64 0, .int .i64 0, P] 58)
  have hL := lo_alloc (lo_refl w) (.cells #[.int .u8 ty, .int .u8 fl, .int .i64 0, .string ⟨#[]⟩, .int .i64 0, .int .i64 0, .bool false, .int .u8 0, .int .u32 fc, .int .i64 0, .int .i64 0, P] 58)
  obtain ⟨cF, fF⟩ := hF.facts
  obtain ⟨cM, fM⟩ := hM.facts
  go_enter Tryz.func21, Tryz.ntmps21
  go_wp2_with fail
  refine (HP.out _ hL).mono ?_
  rintro e w1 ⟨B, c, bs, rfl, hB, hb⟩
  clear cF fF hF cM fM
  replace hM := hM.lo hb
  replace hL := lo_trans hL hb
  clear hb HP
  obtain ⟨cM, fM⟩ := hM.facts
  go_wp2_with fail
  refine (H2.out _ _ _ _ (HO.out.lo hL) hB).mono ?_
  rintro e w2 ⟨A2, n2, c2, l2, rfl, ho2, hb⟩
  clear cM fM hB
  replace hM := hM.lo hb
  replace hL := lo_trans hL hb
  clear hb H2
  obtain ⟨cM, fM⟩ := hM.facts
  have lM := hM.lt
  go_wp2_with fail
  clear cM fM
  have hK := ((((Kept.of_lo g hL).set 28 (.slice A2 n2 c2)).set 29 (.int .i64 (made + m))).set 30 (.int .i64 gone))
  have ho3 := ho2.kept ((((Kept.refl w2 g).set 28 (.slice A2 n2 c2)).set 29 (.int .i64 (made + m))).set 30 (.int .i64 gone)) hM
  refine bodyPost_ret (v := .tuple #[]) (by simp [results, Tryz.results21, go_sem]) rfl ⟨A2, n2, c2, l2, rfl, ho3, ?_, hK⟩
  simpa using ((hM.set_ 28 (.slice A2 n2 c2)).set_ 29 (.int .i64 (made + m))).set_ 30 (.int .i64 gone)
end Go.Proofs.YtdonnbfojcggmaaGreat
