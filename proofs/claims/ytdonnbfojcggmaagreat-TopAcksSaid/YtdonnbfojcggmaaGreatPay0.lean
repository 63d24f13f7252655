import Derived.Test.YtdonnbfojcggmaaGreatStr
namespace Go.Proofs.YtdonnbfojcggmaaGreat
open Go.RowKit
attribute [local go_sem ↓] Go.wp_at_zero Go.wp_at_succ

/-- The settings' pairs in a row of memory. -/
def cellsP (x : Int × Int) : List Value := [.int .u16 x.1, .int .u32 x.2]
theorem cellsP_len (x : Int × Int) : (cellsP x).length = 2 := rfl
/-- The settings that this server sends: how many streams, how long a list. -/
def goodP (x : Int × Int) : Prop := (x.1 = 3 ∨ x.1 = 6) ∧ 0 ≤ x.2 ∧ x.2 ≤ 4294967295
abbrev Prs (w : World) (A : Option Addr) (n cap : Nat) (l : List (Int × Int)) : Prop := AggRow 2 cellsP goodP w A n cap l
theorem wide_any (n : Int) (w : World) : Calls Tryz.prog 46 #[.int .u32 n] w fun e w' => ∃ a b c d : Int, e = .returned (.slice (some ⟨w.heap.size, 0, none⟩) 4 4) ∧ w' = w.alloc (.cells #[.int .u8 a, .int .u8 b, .int .u8 c, .int .u8 d] 5) := by
  go_enter Tryz.func46, Tryz.ntmps46
  go_wp2
  go_ret
  exact ⟨_, _, _, _, rfl, rfl⟩
set_option maxRecDepth 100000 in
set_option maxHeartbeats 1600000 in
theorem extra_h (fl : Int) (A : Option Addr) (n cap : Nat) (h : (fl = 0 ∨ fl = 1) ∧ (0 < n → fl = 0)) (w : World) : Calls Tryz.prog 43 #[.agg #[.int .u8 4, .int .u8 fl, .int .i64 0, .string ⟨#[]⟩, .int .i64 0, .int .i64 0, .bool false, .int .u8 0, .int .u32 0, .int .i64 0, .int .i64 0, .slice A n cap]] w (BoolPost w false) := by
  have HP : Hid (∀ w0, Calls Tryz.prog 44 #[.agg #[.int .u8 4, .int .u8 fl, .int .i64 0, .string ⟨#[]⟩, .int .i64 0, .int .i64 0, .bool false, .int .u8 0, .int .u32 0, .int .i64 0, .int .i64 0, .slice A n cap]] w0 (BoolPost w0 false)) := Lib.hid fun w0 => padded_any _ (by decide) _ _ _ _ _ _ _ _ _ _ _ w0
  have HW : Hid (∀ w0, Calls Tryz.prog 45 #[.agg #[.int .u8 4, .int .u8 fl, .int .i64 0, .string ⟨#[]⟩, .int .i64 0, .int .i64 0, .bool false, .int .u8 0, .int .u32 0, .int .i64 0, .int .i64 0, .slice A n cap]] w0 (BoolPost w0 false)) := Lib.hid fun w0 => weighed_any _ (by decide) _ _ _ _ _ _ _ _ _ _ _ w0
  have hA := Blk.new w 58 #[.int .u8 4, .int .u8 fl, .int .i64 0, .string ⟨#[]⟩, .int .i64 0, .int .i64 0, .bool false, .int .u8 0, .int .u32 0, .int .i64 0, .int .i64 0, .slice A n cap]
  have hL := lo_alloc (lo_refl w) (.cells #[.int .u8 4, .int .u8 fl, .int .i64 0, .string ⟨#[]⟩, .int .i64 0, .int .i64 0, .bool false, .int .u8 0, .int .u32 0, .int .i64 0, .int .i64 0, .slice A n cap] 58)
  obtain ⟨cA, fA⟩ := hA.facts
  by_cases hn : 0 < n
  · obtain rfl := h.2 hn
    have HK : Hid (∀ w0, Calls Tryz.prog 78 #[.agg #[.int .u8 4, .int .u8 0, .int .i64 0, .string ⟨#[]⟩, .int .i64 0, .int .i64 0, .bool false, .int .u8 0, .int .u32 0, .int .i64 0, .int .i64 0, .slice A n cap], .int .u8 1] w0 (BoolPost w0 false)) := Lib.hid fun w0 => has_ack 4 0 (.inl rfl) _ _ _ _ _ _ _ _ _ _ w0
    clear h
    go_enter Tryz.func43, Tryz.ntmps43
    go_wp2_with fail
    refine (HW.out _).mono ?_
    rintro e w1 ⟨rfl, hb⟩
    clear cA fA
    replace hA := hA.lo hb
    replace hL := lo_trans hL hb
    clear hb
    obtain ⟨cA, fA⟩ := hA.facts
    go_wp2_with fail
    refine (HK.out _).mono ?_
    rintro e w1 ⟨rfl, hb⟩
    clear cA fA
    replace hA := hA.lo hb
    replace hL := lo_trans hL hb
    clear hb
    obtain ⟨cA, fA⟩ := hA.facts
    go_wp2_with fail
    go_ret
    exact ⟨rfl, hL⟩
  · obtain rfl : n = 0 := by omega
    clear h hn
    go_enter Tryz.func43, Tryz.ntmps43
    go_wp2_with fail
    refine (HW.out _).mono ?_
    rintro e w1 ⟨rfl, hb⟩
    clear cA fA
    replace hA := hA.lo hb
    replace hL := lo_trans hL hb
    clear hb
    obtain ⟨cA, fA⟩ := hA.facts
    go_wp2_with fail
    go_ret
    exact ⟨rfl, hL⟩
set_option maxRecDepth 100000 in
set_option maxHeartbeats 1600000 in
theorem extra_g (code : Int) (hc : code = 1 ∨ code = 4) (w : World) : Calls Tryz.prog 43 #[.agg #[.int .u8 7, .int .u8 0, .int .i64 0, .string ⟨#[]⟩, .int .i64 0, .int .i64 0, .bool false, .int .u8 0, .int .u32 code, .int .i64 0, .int .i64 0, .slice none 0 0]] w (BoolPost w false) := by
  rcases hc with rfl | rfl
  · have HP : Hid (∀ w0, Calls Tryz.prog 44 #[.agg #[.int .u8 7, .int .u8 0, .int .i64 0, .string ⟨#[]⟩, .int .i64 0, .int .i64 0, .bool false, .int .u8 0, .int .u32 1, .int .i64 0, .int .i64 0, .slice none 0 0]] w0 (BoolPost w0 false)) := Lib.hid fun w0 => padded_any _ (by decide) _ _ _ _ _ _ _ _ _ _ _ w0
    have HW : Hid (∀ w0, Calls Tryz.prog 45 #[.agg #[.int .u8 7, .int .u8 0, .int .i64 0, .string ⟨#[]⟩, .int .i64 0, .int .i64 0, .bool false, .int .u8 0, .int .u32 1, .int .i64 0, .int .i64 0, .slice none 0 0]] w0 (BoolPost w0 false)) := Lib.hid fun w0 => weighed_any _ (by decide) _ _ _ _ _ _ _ _ _ _ _ w0
    have hA := Blk.new w 58 #[.int .u8 7, .int .u8 0, .int .i64 0, .string ⟨#[]⟩, .int .i64 0, .int .i64 0, .bool false, .int .u8 0, .int .u32 1, .int .i64 0, .int .i64 0, .slice none 0 0]
    have hL := lo_alloc (lo_refl w) (.cells #[.int .u8 7, .int .u8 0, .int .i64 0, .string ⟨#[]⟩, .int .i64 0, .int .i64 0, .bool false, .int .u8 0, .int .u32 1, .int .i64 0, .int .i64 0, .slice none 0 0] 58)
    obtain ⟨cA, fA⟩ := hA.facts
    go_enter Tryz.func43, Tryz.ntmps43
    go_wp2_with fail
    refine (HW.out _).mono ?_
    rintro e w1 ⟨rfl, hb⟩
    clear cA fA
    replace hA := hA.lo hb
    replace hL := lo_trans hL hb
    clear hb
    obtain ⟨cA, fA⟩ := hA.facts
    go_wp2_with fail
    go_ret
    exact ⟨rfl, hL⟩
  · have HP : Hid (∀ w0, Calls Tryz.prog 44 #[.agg #[.int .u8 7, .int .u8 0, .int .i64 0, .string ⟨#[]⟩, .int .i64 0, .int .i64 0, .bool false, .int .u8 0, .int .u32 4, .int .i64 0, .int .i64 0, .slice none 0 0]] w0 (BoolPost w0 false)) := Lib.hid fun w0 => padded_any _ (by decide) _ _ _ _ _ _ _ _ _ _ _ w0
    have HW : Hid (∀ w0, Calls Tryz.prog 45 #[.agg #[.int .u8 7, .int .u8 0, .int .i64 0, .string ⟨#[]⟩, .int .i64 0, .int .i64 0, .bool false, .int .u8 0, .int .u32 4, .int .i64 0, .int .i64 0, .slice none 0 0]] w0 (BoolPost w0 false)) := Lib.hid fun w0 => weighed_any _ (by decide) _ _ _ _ _ _ _ _ _ _ _ w0
    have hA := Blk.new w 58 #[.int .u8 7, .int .u8 0, .int .i64 0, .string ⟨#[]⟩, .int .i64 0, .int .i64 0, .bool false, .int .u8 0, .int .u32 4, .int .i64 0, .int .i64 0, .slice none 0 0]
    have hL := lo_alloc (lo_refl w) (.cells #[.int .u8 7, .int .u8 0, .int .i64 0, .string ⟨#[]⟩, .int .i64 0, .int .i64 0, .bool false, .int .u8 0, .int .u32 4, .int .i64 0, .int .i64 0, .slice none 0 0] 58)
    obtain ⟨cA, fA⟩ := hA.facts
    go_enter Tryz.func43, Tryz.ntmps43
    go_wp2_with fail
    refine (HW.out _).mono ?_
    rintro e w1 ⟨rfl, hb⟩
    clear cA fA
    replace hA := hA.lo hb
    replace hL := lo_trans hL hb
    clear hb
    obtain ⟨cA, fA⟩ := hA.facts
    go_wp2_with fail
    go_ret
    exact ⟨rfl, hL⟩
end Go.Proofs.YtdonnbfojcggmaaGreat
