import Derived.Test.YtdonnbfojcggmaaGreatRows0
namespace Go.Proofs.YtdonnbfojcggmaaGreat
open Go.RowKit
attribute [local go_sem ↓] Go.wp_at_zero Go.wp_at_succ

theorem info104 : (Tryz.prog.info? 104).map (fun i => (i.zero, i.size, i.bytes)) = some (some (.agg #[.int .u16 0, .int .u32 0]), 2, 8) := by kernel_rfl
theorem one_flat104 (l : List (Int × Int)) : ∀ u ∈ l.flatMap cellsP, u.oneCell' = true := by
  intro u hu
  obtain ⟨x, _, hx⟩ := List.mem_flatMap.1 hu
  simp [cellsP] at hx
  rcases hx with rfl | rfl <;> rfl
theorem nil56 (a : Option Addr) (n c : Nat) (w : World) : (binOp .eql 56 (.slice a n c) (.slice none 0 0)).run Tryz.prog w = .ok (.bool a.isNone) w := by
  unfold binOp
  simp [run_equal_slice_nil w 56 104 a n c Tryz.underlying56]
set_option maxRecDepth 100000 in
set_option maxHeartbeats 1600000 in
theorem clone_p (A : Option Addr) (n cap : Nat) (l : List (Int × Int)) (w : World) (hl : Row 104 2 cellsP w A n cap l) (hn : n ≤ 100000) : Calls Tryz.prog 38 #[.slice A n cap] w (RowPost 104 2 cellsP w l) := by
  have hln := hl.len
  rcases A with _ | ⟨b, off, sp⟩
  · obtain ⟨rfl, rfl⟩ := hl.noneAt rfl
    obtain rfl : l = [] := List.eq_nil_of_length_eq_zero (by omega)
    have hq := nil56 none 0 0
    simp only [Option.isNone_none] at hq
    clear hl hln
    go_enter Tryz.func38, Tryz.ntmps38
    go_wp2_with fail
    go_ret
    exact ⟨_, rfl, World.ownsRow_nil _ _ _ _, lo_refl _⟩
  · have hr0 := World.ownsRow_lit (base := w.heap.size) (e := 104) (size := 2) w #[] 0 (Nat.le_refl _) (by decide) rfl
    obtain ⟨i0, hi, hz0, hz1, hz2⟩ := info_parts info104
    have hL := lo_alloc (lo_refl w) (.cells #[] 104)
    have HF : Hid (∀ W, Below w.heap.size w W → ∀ j u, (l.flatMap cellsP)[j]? = some u → ∃ b' off', (some ⟨b, off, sp⟩ : Option Addr) = some ⟨b', off', none⟩ ∧ W.cell? ⟨b', off' + j, none⟩ = some u) := Lib.hid fun W hb j u hu => by
      have hsp : sp = none := by
        have hj : j < (l.flatMap cellsP).length := (List.getElem?_eq_some_iff.1 hu).1
        rw [flatMap_len cellsP_len] at hj
        obtain ⟨b', off', he, _⟩ := hl.at (i := 0) (List.getElem?_eq_getElem (by omega))
        injection he with he
        injection he
      subst hsp
      exact ⟨b, off, rfl, (hl.lo hb).flat cellsP_len (by decide) j u hu⟩
    have hfl : (l.flatMap cellsP).length = n * 2 := by rw [flatMap_len cellsP_len, hln]
    have hq := nil56 (some ⟨b, off, sp⟩) n cap
    simp only [Option.isNone_some] at hq
    clear hl
    go_enter Tryz.func38, Tryz.ntmps38
    go_wp2_with (at_builtin; refine wp_append_row rfl _ _ 56 rfl w.heap.size 104 i0 _ 2 8 Tryz.underlying56 hi hz0 hz1 hz2 rfl (by decide) _ _ _ rfl hr0 (some ⟨b, off, sp⟩) n cap (l.flatMap cellsP) rfl hfl (fun h => by cases h) (HF.out _ hL) (one_flat104 l) (by omega) (by decide) hL.size ?_; intro v' wn hown hbel)
    go_ret
    exact ⟨_, rfl, by rw [hln]; simpa using hown, hL.trans hbel⟩
theorem info116 : (Tryz.prog.info? 116).map (fun i => (i.zero, i.size, i.bytes)) = some (some (.agg #[.slice none 0 0, .int .i64 0]), 2, 32) := by kernel_rfl
theorem one_flat116 (l : List It) : ∀ u ∈ l.flatMap cellsI, u.oneCell' = true := by
  intro u hu
  obtain ⟨x, _, hx⟩ := List.mem_flatMap.1 hu
  simp [cellsI] at hx
  rcases hx with rfl | rfl <;> rfl
theorem nil38 (a : Option Addr) (n c : Nat) (w : World) : (binOp .eql 38 (.slice a n c) (.slice none 0 0)).run Tryz.prog w = .ok (.bool a.isNone) w := by
  unfold binOp
  simp [run_equal_slice_nil w 38 116 a n c Tryz.underlying38]
set_option maxRecDepth 100000 in
set_option maxHeartbeats 1600000 in
theorem clone_i (A : Option Addr) (n cap : Nat) (l : List It) (w : World) (hl : Row 116 2 cellsI w A n cap l) (hn : n ≤ 100000) : Calls Tryz.prog 71 #[.slice A n cap] w (RowPost 116 2 cellsI w l) := by
  have hln := hl.len
  rcases A with _ | ⟨b, off, sp⟩
  · obtain ⟨rfl, rfl⟩ := hl.noneAt rfl
    obtain rfl : l = [] := List.eq_nil_of_length_eq_zero (by omega)
    have hq := nil38 none 0 0
    simp only [Option.isNone_none] at hq
    clear hl hln
    go_enter Tryz.func71, Tryz.ntmps71
    go_wp2_with fail
    go_ret
    exact ⟨_, rfl, World.ownsRow_nil _ _ _ _, lo_refl _⟩
  · have hr0 := World.ownsRow_lit (base := w.heap.size) (e := 116) (size := 2) w #[] 0 (Nat.le_refl _) (by decide) rfl
    obtain ⟨i0, hi, hz0, hz1, hz2⟩ := info_parts info116
    have hL := lo_alloc (lo_refl w) (.cells #[] 116)
    have HF : Hid (∀ W, Below w.heap.size w W → ∀ j u, (l.flatMap cellsI)[j]? = some u → ∃ b' off', (some ⟨b, off, sp⟩ : Option Addr) = some ⟨b', off', none⟩ ∧ W.cell? ⟨b', off' + j, none⟩ = some u) := Lib.hid fun W hb j u hu => by
      have hsp : sp = none := by
        have hj : j < (l.flatMap cellsI).length := (List.getElem?_eq_some_iff.1 hu).1
        rw [flatMap_len cellsI_len] at hj
        obtain ⟨b', off', he, _⟩ := hl.at (i := 0) (List.getElem?_eq_getElem (by omega))
        injection he with he
        injection he
      subst hsp
      exact ⟨b, off, rfl, (hl.lo hb).flat cellsI_len (by decide) j u hu⟩
    have hfl : (l.flatMap cellsI).length = n * 2 := by rw [flatMap_len cellsI_len, hln]
    have hq := nil38 (some ⟨b, off, sp⟩) n cap
    simp only [Option.isNone_some] at hq
    clear hl
    go_enter Tryz.func71, Tryz.ntmps71
    go_wp2_with (at_builtin; refine wp_append_row rfl _ _ 38 rfl w.heap.size 116 i0 _ 2 32 Tryz.underlying38 hi hz0 hz1 hz2 rfl (by decide) _ _ _ rfl hr0 (some ⟨b, off, sp⟩) n cap (l.flatMap cellsI) rfl hfl (fun h => by cases h) (HF.out _ hL) (one_flat116 l) (by omega) (by decide) hL.size ?_; intro v' wn hown hbel)
    go_ret
    exact ⟨_, rfl, by rw [hln]; simpa using hown, hL.trans hbel⟩
theorem info9 : (Tryz.prog.info? 9).map (fun i => (i.zero, i.size, i.bytes)) = some (some (.string ⟨#[]⟩), 1, 16) := by kernel_rfl
theorem one_flat9 (l : List ByteArray) : ∀ u ∈ l.flatMap cellsS, u.oneCell' = true := by
  intro u hu
  obtain ⟨x, _, hx⟩ := List.mem_flatMap.1 hu
  simp [cellsS] at hx
  subst hx
  rfl
theorem nil43 (a : Option Addr) (n c : Nat) (w : World) : (binOp .eql 43 (.slice a n c) (.slice none 0 0)).run Tryz.prog w = .ok (.bool a.isNone) w := by
  unfold binOp
  simp [run_equal_slice_nil w 43 9 a n c Tryz.underlying43]
set_option maxRecDepth 100000 in
set_option maxHeartbeats 1600000 in
theorem clone_s (A : Option Addr) (n cap : Nat) (l : List ByteArray) (w : World) (hl : Row 9 1 cellsS w A n cap l) (hn : n ≤ 100000) : Calls Tryz.prog 104 #[.slice A n cap] w (RowPost 9 1 cellsS w l) := by
  have hln := hl.len
  rcases A with _ | ⟨b, off, sp⟩
  · obtain ⟨rfl, rfl⟩ := hl.noneAt rfl
    obtain rfl : l = [] := List.eq_nil_of_length_eq_zero (by omega)
    have hq := nil43 none 0 0
    simp only [Option.isNone_none] at hq
    clear hl hln
    go_enter Tryz.func104, Tryz.ntmps104
    go_wp2_with fail
    go_ret
    exact ⟨_, rfl, World.ownsRow_nil _ _ _ _, lo_refl _⟩
  · have hr0 := World.ownsRow_lit (base := w.heap.size) (e := 9) (size := 1) w #[] 0 (Nat.le_refl _) (by decide) rfl
    obtain ⟨i0, hi, hz0, hz1, hz2⟩ := info_parts info9
    have hL := lo_alloc (lo_refl w) (.cells #[] 9)
    have HF : Hid (∀ W, Below w.heap.size w W → ∀ j u, (l.flatMap cellsS)[j]? = some u → ∃ b' off', (some ⟨b, off, sp⟩ : Option Addr) = some ⟨b', off', none⟩ ∧ W.cell? ⟨b', off' + j, none⟩ = some u) := Lib.hid fun W hb j u hu => by
      have hsp : sp = none := by
        have hj : j < (l.flatMap cellsS).length := (List.getElem?_eq_some_iff.1 hu).1
        rw [flatMap_len cellsS_len] at hj
        obtain ⟨b', off', he, _⟩ := hl.at (i := 0) (List.getElem?_eq_getElem (by omega))
        injection he with he
        injection he
      subst hsp
      exact ⟨b, off, rfl, (hl.lo hb).flat cellsS_len (by decide) j u hu⟩
    have hfl : (l.flatMap cellsS).length = n * 1 := by rw [flatMap_len cellsS_len, hln]
    have hq := nil43 (some ⟨b, off, sp⟩) n cap
    simp only [Option.isNone_some] at hq
    clear hl
    go_enter Tryz.func104, Tryz.ntmps104
    go_wp2_with (at_builtin; refine wp_append_row rfl _ _ 43 rfl w.heap.size 9 i0 _ 1 16 Tryz.underlying43 hi hz0 hz1 hz2 rfl (by decide) _ _ _ rfl hr0 (some ⟨b, off, sp⟩) n cap (l.flatMap cellsS) rfl hfl (fun h => by cases h) (HF.out _ hL) (one_flat9 l) (by omega) (by decide) hL.size ?_; intro v' wn hown hbel)
    go_ret
    exact ⟨_, rfl, by rw [hln]; simpa using hown, hL.trans hbel⟩
end Go.Proofs.YtdonnbfojcggmaaGreat
