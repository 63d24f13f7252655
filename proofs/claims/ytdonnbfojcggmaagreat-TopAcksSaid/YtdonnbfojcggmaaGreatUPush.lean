import Derived.Test.YtdonnbfojcggmaaGreatUnack
namespace Go.Proofs.YtdonnbfojcggmaaGreat
open Go.RowKit
attribute [local go_sem ↓] Go.wp_at_zero Go.wp_at_succ

theorem ucheck_any (A : Option Addr) (n cap : Nat) (l : List It) (w : World) (hl : ItsOk w A n cap l) : Calls Tryz.prog 36 #[.slice A n cap] w (IntPost w 0) := by
  have HO := Lib.hid hl
  have H1 : Hid (∀ w0, ItsOk w0 A n cap l → Calls Tryz.prog 72 #[.slice A n cap, .func (.func 73) #[] #[]] w0 (BoolPost w0 false)) := Lib.hid fun w0 h0 => ucontains_any 73 enters_73 A n cap l w0 h0.row fun W x _ => long_any x W
  have H2 : Hid (∀ w0, ItsOk w0 A n cap l → Calls Tryz.prog 72 #[.slice A n cap, .func (.func 74) #[] #[]] w0 (BoolPost w0 false)) := Lib.hid fun w0 h0 => ucontains_any 74 enters_74 A n cap l w0 h0.row fun W x hx => range_any x W (h0.num x hx).2
  have H3 : Hid (∀ w0, ItsOk w0 A n cap l → Calls Tryz.prog 75 #[.slice A n cap, .func (.func 76) #[] #[]] w0 (BoolPost w0 true)) := Lib.hid fun w0 h0 => usorted_any A n cap l w0 h0
  have hn4 : ¬ (4 : Int) < (n : Int) := by have := hl.few; omega
  clear hl
  have hL := lo_refl w
  go_enter Tryz.func36, Tryz.ntmps36
  go_wp2_with fail
  refine (H1.out _ HO.out).mono ?_
  rintro e w1 ⟨rfl, hb⟩
  replace hL := lo_trans hL hb
  clear hb
  go_wp2_with fail
  refine (H2.out _ (HO.out.lo hL)).mono ?_
  rintro e w1 ⟨rfl, hb⟩
  replace hL := lo_trans hL hb
  clear hb
  go_wp2_with fail
  refine (H3.out _ (HO.out.lo hL)).mono ?_
  rintro e w1 ⟨rfl, hb⟩
  replace hL := lo_trans hL hb
  clear hb
  go_wp2_with fail
  go_ret
  exact ⟨rfl, hL⟩
/-- Settings put behind the others. -/
def UPushPost (w : World) (l : List It) (v : Int) (two : Bool) (t : Int) (e : Ending) (w' : World) : Prop :=
  ∃ A cap B c, e = .returned (.tuple #[.slice A (l.length + 1) cap, .int .i64 0]) ∧ ItsOk w' A (l.length + 1) cap (l ++ [⟨B, c, v, two, t⟩]) ∧ Below w.heap.size w w'
def UFullPost (w : World) (e : Ending) (w' : World) : Prop := ∃ A n cap, e = .returned (.tuple #[.slice A n cap, .int .i64 7]) ∧ Below w.heap.size w w'
def prsL (v : Int) (two : Bool) : List (Int × Int) := if two then [(3, v), (6, 1024)] else [(3, v)]
theorem prsL_l (A : Option Addr) (c : Nat) (v : Int) (two : Bool) (t : Int) : (It.mk A c v two t).l = prsL v two := rfl
theorem prsL_len (v : Int) (two : Bool) : 1 ≤ (prsL v two).length ∧ (prsL v two).length ≤ 2 := by cases two <;> simp [prsL]
set_option maxRecDepth 100000 in
set_option maxHeartbeats 1600000 in
theorem upush_ok (A : Option Addr) (n cap : Nat) (l : List It) (B : Option Addr) (m c : Nat) (v : Int) (two : Bool) (t : Int) (w : World) (hl : ItsOk w A n cap l) (hp : RowP w B m c (prsL v two)) (hv : 0 ≤ v ∧ v ≤ 4294967295) (ht : 0 ≤ t ∧ t ≤ 1099511627776) (hT : ∀ x ∈ l, x.t ≤ t) (hn : n < 4) : Calls Tryz.prog 18 #[.slice A n cap, .slice B m c, .int .i64 t] w (UPushPost w l v two t) := by
  have HO := Lib.hid hl
  have hln := hl.len
  have HP := Lib.hid hp
  have HT := Lib.hid hT
  have HN : Hid ((0 ≤ v ∧ v ≤ 4294967295) ∧ 0 ≤ t ∧ t ≤ 1099511627776) := Lib.hid ⟨hv, ht⟩
  have hpl := prsL_len v two
  rw [hp.len] at hpl
  have hm8 : ¬ (8 : Int) < (m : Int) := by omega
  have hm2 : m ≤ 2 := by omega
  have H1 : Hid (∀ w0, RowI w0 A n cap l → Calls Tryz.prog 35 #[.slice A n cap] w0 (RowPost 116 2 cellsI w0 l)) := Lib.hid fun w0 h0 => uown_any A n cap l w0 h0 (by have := hl.few; omega)
  have H2 : Hid (∀ w0, ItsOk w0 A n cap l → Calls Tryz.prog 36 #[.slice A n cap] w0 (IntPost w0 0)) := Lib.hid fun w0 h0 => ucheck_any A n cap l w0 h0
  have H3 : Hid (∀ w0, Calls Tryz.prog 37 #[.int .i64 t] w0 (BoolSame w0 true)) := Lib.hid fun w0 => uin_any t w0 ht
  have H4 : Hid (∀ w0, RowP w0 B m c (prsL v two) → Calls Tryz.prog 38 #[.slice B m c] w0 (RowPost 104 2 cellsP w0 (prsL v two))) := Lib.hid fun w0 h0 => clone_p B m c (prsL v two) w0 h0 (by omega)
  clear hl hp hT hv ht hpl
  rcases (by omega : n = 0 ∨ n = 1 ∨ n = 2 ∨ n = 3) with rfl | rfl | rfl | rfl
  · have hlast : True := trivial
    have hL := lo_refl w
    go_enter Tryz.func18, Tryz.ntmps18
    go_wp2_with fail
    refine (H1.out _ HO.out.row).mono ?_
    rintro e w1 ⟨u, rfl, hown, hb⟩
    obtain ⟨A2, cap2, rfl, _, _⟩ := own_shape hown
    replace hL := lo_trans hL hb
    clear hb
    go_wp2_with fail
    refine (H2.out _ (HO.out.lo hL)).mono ?_
    rintro e w2 ⟨rfl, hb⟩
    replace hL := lo_trans hL hb
    replace hown := own_lo hown hb
    clear hb
    go_wp2_with fail
    refine (H3.out _).mono ?_
    rintro e w3 ⟨rfl, rfl⟩
    go_wp2_with fail
    refine (H4.out _ (HP.out.lo hL)).mono ?_
    rintro e w4 ⟨u2, rfl, hown2, hb⟩
    have hgb : w.heap.size ≤ w2.heap.size := hL.size
    replace hown := own_lo hown hb
    replace hL := lo_trans hL hb
    clear hb
    obtain ⟨B2, capB, rfl, _, _⟩ := own_shape hown2
    have hpl := HP.out.len
    rw [hpl] at hown2
    rw [hpl]
    rw [hln] at hown
    try rw [hln]
    obtain ⟨i0, hi, hz0, hz1, hz2⟩ := info_parts info116
    go_wp2_with (at_builtin; refine wp_append_box2 rfl _ _ 38 rfl w.heap.size 116 i0 _ 2 32 Tryz.underlying38 hi hz0 hz1 hz2 rfl (by decide) _ 0 _ rfl hown 1 #[.slice B2 m capB, .int .i64 t] rfl rfl (by intro u hu; simp at hu; rcases hu with rfl | rfl <;> rfl) (by decide) (by decide) hL.size ?_; intro v5 w5 hown5 hgr hbel)
    obtain ⟨A5, cap5, rfl, _, _⟩ := own_shape hown5
    have hown6 := hown2.kept hgr (own_ne_own hown hown2 (by decide))
    have hL5 := hL.trans hbel
    have hrp : RowP w5 B2 m capB (prsL v two) := row_own cellsP_len (by decide) hown6
    refine bodyPost_ret (v := .tuple #[.slice A5 1 cap5, .int .i64 0]) (by simp [results, Tryz.results18, go_sem]) rfl ⟨A5, cap5, B2, capB, by rw [hln], ?_, hL5⟩
    have hyn : (It.mk B2 capB v two t).n = m := by unfold It.n; rw [prsL_l]; exact hpl
    refine ⟨?_, ?_, by rw [hln]; decide, ?_, ?_⟩
    · rw [hln]
      refine row_own (base := w.heap.size) cellsI_len (by decide) ?_
      rw [List.flatMap_append]
      simp only [List.flatMap_cons, List.flatMap_nil, List.append_nil, cellsI, hyn]
      exact hown5
    · intro x hx
      rcases List.mem_append.1 hx with h | h
      · exact ((HO.out.prs x h).lo hL5)
      · simp only [List.mem_singleton] at h
        subst h
        rw [hyn, prsL_l]
        exact hrp
    · intro x hx
      rcases List.mem_append.1 hx with h | h
      · exact HO.out.num x h
      · simp only [List.mem_singleton] at h
        subst h
        exact HN.out
    · rw [List.pairwise_append]
      refine ⟨HO.out.ord, List.pairwise_singleton _ _, fun a ha b hb => ?_⟩
      simp only [List.mem_singleton] at hb
      subst hb
      exact HT.out a ha
  · obtain ⟨b, off, rfl, hlt, hc⟩ := HO.out.row.at (i := 0) (x := l[0]) (List.getElem?_eq_getElem (by omega))
    have hcx1 := hc 1 _ rfl
    simp only [Nat.add_zero, Nat.zero_mul, Nat.reduceMul, Nat.add_assoc, Nat.reduceAdd] at hcx1
    have hle := HT.out l[0] (List.getElem_mem _)
    generalize l[0] = x at hcx1 hle
    generalize x.t = xt at hcx1 hle
    have hnlt : ¬ t < xt := by omega
    have hwq : IntKind.i64.wrap 0 = 0 := by decide
    clear hc hle
    have hL := lo_refl w
    go_enter Tryz.func18, Tryz.ntmps18
    go_wp2_with fail
    refine (H1.out _ HO.out.row).mono ?_
    rintro e w1 ⟨u, rfl, hown, hb⟩
    obtain ⟨A2, cap2, rfl, _, _⟩ := own_shape hown
    replace hL := lo_trans hL hb
    clear hb
    go_wp2_with fail
    refine (H2.out _ (HO.out.lo hL)).mono ?_
    rintro e w2 ⟨rfl, hb⟩
    replace hL := lo_trans hL hb
    replace hown := own_lo hown hb
    clear hb
    replace hcx1 := ((lo_cell hL).1 _ _ hlt).trans hcx1
    replace hlt := Nat.lt_of_lt_of_le hlt hL.size
    go_wp2_with fail
    refine (H3.out _).mono ?_
    rintro e w3 ⟨rfl, rfl⟩
    go_wp2_with fail
    refine (H4.out _ (HP.out.lo hL)).mono ?_
    rintro e w4 ⟨u2, rfl, hown2, hb⟩
    have hgb : w.heap.size ≤ w2.heap.size := hL.size
    replace hown := own_lo hown hb
    replace hL := lo_trans hL hb
    clear hb
    obtain ⟨B2, capB, rfl, _, _⟩ := own_shape hown2
    have hpl := HP.out.len
    rw [hpl] at hown2
    rw [hpl]
    rw [hln] at hown
    try rw [hln]
    obtain ⟨i0, hi, hz0, hz1, hz2⟩ := info_parts info116
    clear hcx1 hlt hnlt
    go_wp2_with (at_builtin; refine wp_append_box2 rfl _ _ 38 rfl w.heap.size 116 i0 _ 2 32 Tryz.underlying38 hi hz0 hz1 hz2 rfl (by decide) _ 1 _ rfl hown 1 #[.slice B2 m capB, .int .i64 t] rfl rfl (by intro u hu; simp at hu; rcases hu with rfl | rfl <;> rfl) (by decide) (by decide) hL.size ?_; intro v5 w5 hown5 hgr hbel)
    obtain ⟨A5, cap5, rfl, _, _⟩ := own_shape hown5
    have hown6 := hown2.kept hgr (own_ne_own hown hown2 (by decide))
    have hL5 := hL.trans hbel
    have hrp : RowP w5 B2 m capB (prsL v two) := row_own cellsP_len (by decide) hown6
    refine bodyPost_ret (v := .tuple #[.slice A5 2 cap5, .int .i64 0]) (by simp [results, Tryz.results18, go_sem]) rfl ⟨A5, cap5, B2, capB, by rw [hln], ?_, hL5⟩
    have hyn : (It.mk B2 capB v two t).n = m := by unfold It.n; rw [prsL_l]; exact hpl
    refine ⟨?_, ?_, by rw [hln]; decide, ?_, ?_⟩
    · rw [hln]
      refine row_own (base := w.heap.size) cellsI_len (by decide) ?_
      rw [List.flatMap_append]
      simp only [List.flatMap_cons, List.flatMap_nil, List.append_nil, cellsI, hyn]
      exact hown5
    · intro x hx
      rcases List.mem_append.1 hx with h | h
      · exact ((HO.out.prs x h).lo hL5)
      · simp only [List.mem_singleton] at h
        subst h
        rw [hyn, prsL_l]
        exact hrp
    · intro x hx
      rcases List.mem_append.1 hx with h | h
      · exact HO.out.num x h
      · simp only [List.mem_singleton] at h
        subst h
        exact HN.out
    · rw [List.pairwise_append]
      refine ⟨HO.out.ord, List.pairwise_singleton _ _, fun a ha b hb => ?_⟩
      simp only [List.mem_singleton] at hb
      subst hb
      exact HT.out a ha
  · obtain ⟨b, off, rfl, hlt, hc⟩ := HO.out.row.at (i := 1) (x := l[1]) (List.getElem?_eq_getElem (by omega))
    have hcx1 := hc 1 _ rfl
    simp only [Nat.add_zero, Nat.zero_mul, Nat.reduceMul, Nat.add_assoc, Nat.reduceAdd] at hcx1
    have hle := HT.out l[1] (List.getElem_mem _)
    generalize l[1] = x at hcx1 hle
    generalize x.t = xt at hcx1 hle
    have hnlt : ¬ t < xt := by omega
    have hwq : IntKind.i64.wrap 1 = 1 := by decide
    clear hc hle
    have hL := lo_refl w
    go_enter Tryz.func18, Tryz.ntmps18
    go_wp2_with fail
    refine (H1.out _ HO.out.row).mono ?_
    rintro e w1 ⟨u, rfl, hown, hb⟩
    obtain ⟨A2, cap2, rfl, _, _⟩ := own_shape hown
    replace hL := lo_trans hL hb
    clear hb
    go_wp2_with fail
    refine (H2.out _ (HO.out.lo hL)).mono ?_
    rintro e w2 ⟨rfl, hb⟩
    replace hL := lo_trans hL hb
    replace hown := own_lo hown hb
    clear hb
    replace hcx1 := ((lo_cell hL).1 _ _ hlt).trans hcx1
    replace hlt := Nat.lt_of_lt_of_le hlt hL.size
    go_wp2_with fail
    refine (H3.out _).mono ?_
    rintro e w3 ⟨rfl, rfl⟩
    go_wp2_with fail
    refine (H4.out _ (HP.out.lo hL)).mono ?_
    rintro e w4 ⟨u2, rfl, hown2, hb⟩
    have hgb : w.heap.size ≤ w2.heap.size := hL.size
    replace hown := own_lo hown hb
    replace hL := lo_trans hL hb
    clear hb
    obtain ⟨B2, capB, rfl, _, _⟩ := own_shape hown2
    have hpl := HP.out.len
    rw [hpl] at hown2
    rw [hpl]
    rw [hln] at hown
    try rw [hln]
    obtain ⟨i0, hi, hz0, hz1, hz2⟩ := info_parts info116
    clear hcx1 hlt hnlt
    go_wp2_with (at_builtin; refine wp_append_box2 rfl _ _ 38 rfl w.heap.size 116 i0 _ 2 32 Tryz.underlying38 hi hz0 hz1 hz2 rfl (by decide) _ 2 _ rfl hown 1 #[.slice B2 m capB, .int .i64 t] rfl rfl (by intro u hu; simp at hu; rcases hu with rfl | rfl <;> rfl) (by decide) (by decide) hL.size ?_; intro v5 w5 hown5 hgr hbel)
    obtain ⟨A5, cap5, rfl, _, _⟩ := own_shape hown5
    have hown6 := hown2.kept hgr (own_ne_own hown hown2 (by decide))
    have hL5 := hL.trans hbel
    have hrp : RowP w5 B2 m capB (prsL v two) := row_own cellsP_len (by decide) hown6
    refine bodyPost_ret (v := .tuple #[.slice A5 3 cap5, .int .i64 0]) (by simp [results, Tryz.results18, go_sem]) rfl ⟨A5, cap5, B2, capB, by rw [hln], ?_, hL5⟩
    have hyn : (It.mk B2 capB v two t).n = m := by unfold It.n; rw [prsL_l]; exact hpl
    refine ⟨?_, ?_, by rw [hln]; decide, ?_, ?_⟩
    · rw [hln]
      refine row_own (base := w.heap.size) cellsI_len (by decide) ?_
      rw [List.flatMap_append]
      simp only [List.flatMap_cons, List.flatMap_nil, List.append_nil, cellsI, hyn]
      exact hown5
    · intro x hx
      rcases List.mem_append.1 hx with h | h
      · exact ((HO.out.prs x h).lo hL5)
      · simp only [List.mem_singleton] at h
        subst h
        rw [hyn, prsL_l]
        exact hrp
    · intro x hx
      rcases List.mem_append.1 hx with h | h
      · exact HO.out.num x h
      · simp only [List.mem_singleton] at h
        subst h
        exact HN.out
    · rw [List.pairwise_append]
      refine ⟨HO.out.ord, List.pairwise_singleton _ _, fun a ha b hb => ?_⟩
      simp only [List.mem_singleton] at hb
      subst hb
      exact HT.out a ha
  · obtain ⟨b, off, rfl, hlt, hc⟩ := HO.out.row.at (i := 2) (x := l[2]) (List.getElem?_eq_getElem (by omega))
    have hcx1 := hc 1 _ rfl
    simp only [Nat.add_zero, Nat.zero_mul, Nat.reduceMul, Nat.add_assoc, Nat.reduceAdd] at hcx1
    have hle := HT.out l[2] (List.getElem_mem _)
    generalize l[2] = x at hcx1 hle
    generalize x.t = xt at hcx1 hle
    have hnlt : ¬ t < xt := by omega
    have hwq : IntKind.i64.wrap 2 = 2 := by decide
    clear hc hle
    have hL := lo_refl w
    go_enter Tryz.func18, Tryz.ntmps18
    go_wp2_with fail
    refine (H1.out _ HO.out.row).mono ?_
    rintro e w1 ⟨u, rfl, hown, hb⟩
    obtain ⟨A2, cap2, rfl, _, _⟩ := own_shape hown
    replace hL := lo_trans hL hb
    clear hb
    go_wp2_with fail
    refine (H2.out _ (HO.out.lo hL)).mono ?_
    rintro e w2 ⟨rfl, hb⟩
    replace hL := lo_trans hL hb
    replace hown := own_lo hown hb
    clear hb
    replace hcx1 := ((lo_cell hL).1 _ _ hlt).trans hcx1
    replace hlt := Nat.lt_of_lt_of_le hlt hL.size
    go_wp2_with fail
    refine (H3.out _).mono ?_
    rintro e w3 ⟨rfl, rfl⟩
    go_wp2_with fail
    refine (H4.out _ (HP.out.lo hL)).mono ?_
    rintro e w4 ⟨u2, rfl, hown2, hb⟩
    have hgb : w.heap.size ≤ w2.heap.size := hL.size
    replace hown := own_lo hown hb
    replace hL := lo_trans hL hb
    clear hb
    obtain ⟨B2, capB, rfl, _, _⟩ := own_shape hown2
    have hpl := HP.out.len
    rw [hpl] at hown2
    rw [hpl]
    rw [hln] at hown
    try rw [hln]
    obtain ⟨i0, hi, hz0, hz1, hz2⟩ := info_parts info116
    clear hcx1 hlt hnlt
    go_wp2_with (at_builtin; refine wp_append_box2 rfl _ _ 38 rfl w.heap.size 116 i0 _ 2 32 Tryz.underlying38 hi hz0 hz1 hz2 rfl (by decide) _ 3 _ rfl hown 1 #[.slice B2 m capB, .int .i64 t] rfl rfl (by intro u hu; simp at hu; rcases hu with rfl | rfl <;> rfl) (by decide) (by decide) hL.size ?_; intro v5 w5 hown5 hgr hbel)
    obtain ⟨A5, cap5, rfl, _, _⟩ := own_shape hown5
    have hown6 := hown2.kept hgr (own_ne_own hown hown2 (by decide))
    have hL5 := hL.trans hbel
    have hrp : RowP w5 B2 m capB (prsL v two) := row_own cellsP_len (by decide) hown6
    refine bodyPost_ret (v := .tuple #[.slice A5 4 cap5, .int .i64 0]) (by simp [results, Tryz.results18, go_sem]) rfl ⟨A5, cap5, B2, capB, by rw [hln], ?_, hL5⟩
    have hyn : (It.mk B2 capB v two t).n = m := by unfold It.n; rw [prsL_l]; exact hpl
    refine ⟨?_, ?_, by rw [hln]; decide, ?_, ?_⟩
    · rw [hln]
      refine row_own (base := w.heap.size) cellsI_len (by decide) ?_
      rw [List.flatMap_append]
      simp only [List.flatMap_cons, List.flatMap_nil, List.append_nil, cellsI, hyn]
      exact hown5
    · intro x hx
      rcases List.mem_append.1 hx with h | h
      · exact ((HO.out.prs x h).lo hL5)
      · simp only [List.mem_singleton] at h
        subst h
        rw [hyn, prsL_l]
        exact hrp
    · intro x hx
      rcases List.mem_append.1 hx with h | h
      · exact HO.out.num x h
      · simp only [List.mem_singleton] at h
        subst h
        exact HN.out
    · rw [List.pairwise_append]
      refine ⟨HO.out.ord, List.pairwise_singleton _ _, fun a ha b hb => ?_⟩
      simp only [List.mem_singleton] at hb
      subst hb
      exact HT.out a ha
set_option maxRecDepth 100000 in
set_option maxHeartbeats 1600000 in
theorem upush_full (A : Option Addr) (n cap : Nat) (l : List It) (B : Option Addr) (m c : Nat) (v : Int) (two : Bool) (t : Int) (w : World) (hl : ItsOk w A n cap l) (hp : RowP w B m c (prsL v two)) (hv : 0 ≤ v ∧ v ≤ 4294967295) (ht : 0 ≤ t ∧ t ≤ 1099511627776) (hT : ∀ x ∈ l, x.t ≤ t) (hn : n = 4) : Calls Tryz.prog 18 #[.slice A n cap, .slice B m c, .int .i64 t] w (UFullPost w) := by
  have HO := Lib.hid hl
  have hln := hl.len
  have HP := Lib.hid hp
  have HT := Lib.hid hT
  have HN : Hid ((0 ≤ v ∧ v ≤ 4294967295) ∧ 0 ≤ t ∧ t ≤ 1099511627776) := Lib.hid ⟨hv, ht⟩
  have hpl := prsL_len v two
  rw [hp.len] at hpl
  have hm8 : ¬ (8 : Int) < (m : Int) := by omega
  have hm2 : m ≤ 2 := by omega
  have H1 : Hid (∀ w0, RowI w0 A n cap l → Calls Tryz.prog 35 #[.slice A n cap] w0 (RowPost 116 2 cellsI w0 l)) := Lib.hid fun w0 h0 => uown_any A n cap l w0 h0 (by have := hl.few; omega)
  have H2 : Hid (∀ w0, ItsOk w0 A n cap l → Calls Tryz.prog 36 #[.slice A n cap] w0 (IntPost w0 0)) := Lib.hid fun w0 h0 => ucheck_any A n cap l w0 h0
  have H3 : Hid (∀ w0, Calls Tryz.prog 37 #[.int .i64 t] w0 (BoolSame w0 true)) := Lib.hid fun w0 => uin_any t w0 ht
  have H4 : Hid (∀ w0, RowP w0 B m c (prsL v two) → Calls Tryz.prog 38 #[.slice B m c] w0 (RowPost 104 2 cellsP w0 (prsL v two))) := Lib.hid fun w0 h0 => clone_p B m c (prsL v two) w0 h0 (by omega)
  clear hl hp hT hv ht hpl
  subst hn
  obtain ⟨b, off, rfl, hlt, hc⟩ := HO.out.row.at (i := 3) (x := l[3]) (List.getElem?_eq_getElem (by omega))
  have hcx1 := hc 1 _ rfl
  simp only [Nat.add_zero, Nat.zero_mul, Nat.reduceMul, Nat.add_assoc, Nat.reduceAdd] at hcx1
  have hle := HT.out l[3] (List.getElem_mem _)
  generalize l[3] = x at hcx1 hle
  generalize x.t = xt at hcx1 hle
  have hnlt : ¬ t < xt := by omega
  have hwq : IntKind.i64.wrap 3 = 3 := by decide
  clear hc hle
  have hL := lo_refl w
  go_enter Tryz.func18, Tryz.ntmps18
  go_wp2_with fail
  refine (H1.out _ HO.out.row).mono ?_
  rintro e w1 ⟨u, rfl, hown, hb⟩
  obtain ⟨A2, cap2, rfl, _, _⟩ := own_shape hown
  replace hL := lo_trans hL hb
  clear hb
  go_wp2_with fail
  refine (H2.out _ (HO.out.lo hL)).mono ?_
  rintro e w2 ⟨rfl, hb⟩
  replace hL := lo_trans hL hb
  replace hown := own_lo hown hb
  clear hb
  replace hcx1 := ((lo_cell hL).1 _ _ hlt).trans hcx1
  replace hlt := Nat.lt_of_lt_of_le hlt hL.size
  go_wp2_with fail
  refine (H3.out _).mono ?_
  rintro e w3 ⟨rfl, rfl⟩
  go_wp2_with fail
  exact bodyPost_ret (v := .tuple #[.slice A2 l.length cap2, .int .i64 7]) (by simp [results, Tryz.results18, go_sem, hln]) rfl ⟨A2, l.length, cap2, rfl, hL⟩
end Go.Proofs.YtdonnbfojcggmaaGreat
