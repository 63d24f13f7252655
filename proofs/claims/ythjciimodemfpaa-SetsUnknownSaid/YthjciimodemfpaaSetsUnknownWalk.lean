import Derived.Test.YthjciimodemfpaaSetsPairsWalk
import Derived.Deep.AppendLies
namespace Go.Proofs.Ythjciimodemfpaa
open Go.RowKit
attribute [local go_sem ↓] Go.wp_at_zero Go.wp_at_succ

/-- One setting put between. -/
def moreP (p : Int × Int) (l : List (Int × Int)) : List (Int × Int) := l.flatMap fun x => [p, x]
theorem more_cons (p : Int × Int) (l : List (Int × Int)) (x : Int × Int) : moreP p (x :: l) = p :: x :: moreP p l := rfl
theorem more_snoc (p : Int × Int) (l : List (Int × Int)) (x : Int × Int) : moreP p (l ++ [x]) = moreP p l ++ [p, x] := by simp [moreP]
theorem more_len (p : Int × Int) (l : List (Int × Int)) : (moreP p l).length = 2 * l.length := by
  induction l with
  | nil => rfl
  | cons x t ih => rw [more_cons, List.length_cons, List.length_cons, ih, List.length_cons]; omega
theorem take_more (p : Int × Int) (l : List (Int × Int)) (k : Nat) (h : k < l.length) : (moreP p (l.take k)).flatMap cellsP ++ [Value.int .u16 p.1, Value.int .u32 p.2] ++ [Value.int .u16 l[k].1, Value.int .u32 l[k].2] = (moreP p (l.take (k + 1))).flatMap cellsP := by
  rw [← List.take_append_getElem h, more_snoc, List.flatMap_append]
  simp [cellsP]
theorem unk_go {p : Int × Int} (hp : ¬ (1 ≤ p.1 ∧ p.1 ≤ 6)) (t : List (Int × Int)) (x : Vs) : goL (p :: t) x = goL t x := by
  rw [go_cons, fault_other (by omega) (by omega) (by omega), if_pos rfl, set_other x p.2 hp]
theorem unk_more {p : Int × Int} (hp : ¬ (1 ≤ p.1 ∧ p.1 ≤ 6)) : ∀ (l : List (Int × Int)) (x : Vs), goL (moreP p l ++ [p]) x = goL l x
  | [], x => unk_go hp [] x
  | y :: t, x => by
    rw [more_cons, List.cons_append, unk_go hp, List.cons_append, go_cons, go_cons]
    split
    · exact unk_more hp t _
    · rfl
theorem unk_apply {p : Int × Int} (hp : ¬ (1 ≤ p.1 ∧ p.1 ≤ 6)) (l : List (Int × Int)) (v : Vs) : applyL v (moreP p l ++ [p]) = applyL v l := by
  unfold applyL
  rw [unk_more hp]
theorem more_wf {p : Int × Int} {l : List (Int × Int)} (hp : wfP p) (hl : ∀ x ∈ l, wfP x) : ∀ x ∈ moreP p l ++ [p], wfP x := by
  intro x hx
  rcases List.mem_append.1 hx with hx | hx
  · obtain ⟨y, hy, hxy⟩ := List.mem_flatMap.1 hx
    rcases List.mem_cons.1 hxy with rfl | hxy
    · exact hp
    · rw [List.mem_singleton.1 hxy]; exact hl y hy
  · rw [List.mem_singleton.1 hx]; exact hp
/-! Blocks beside a row of the call's own. -/
theorem Blk.at {w : World} {g : Nat} {t : TypeId} {cs : Array Value} (h : Blk w g t cs) {l : List Value} (hl : cs.toList = l) : ∀ j u, l[j]? = some u → w.cell? ((⟨g, 0, none⟩ : Addr).add j) = some u := by
  subst hl
  exact World.news_of_block h
theorem Blk.grown {w w' : World} {g : Nat} {t : TypeId} {cs : Array Value} {row : Option Nat} (h : Blk w g t cs) (hg : w.grownBy w' row) (hne : some g ≠ row) : Blk w' g t cs := (hg.block g h.lt hne).trans h
theorem own_ne {w : World} {base : Nat} {e : TypeId} {size : Nat} {v : Value} {n : Nat} {xs : List Value} (h : w.ownsRow base e size v n xs) {g : Nat} (hg : g < base ∨ w.heap.size ≤ g) : some g ≠ v.ownBlock := by
  intro he
  have := h.lt g he.symm
  omega
theorem ne_next {v : Value} {b g n cap H : Nat} (h : some b ≠ v.ownBlock) (hlt : b < H) (hat : v.ownBlock = some g ∨ g = H) : some b ≠ (Value.slice (some ⟨g, 0, none⟩) n cap).ownBlock := fun he => by
  have hbg : b = g := by simpa [Value.ownBlock] using he
  subst hbg
  rcases hat with hat | hat
  · exact h hat.symm
  · omega
set_option maxRecDepth 100000 in
set_option maxHeartbeats 3200000 in
theorem unk_walk (v0 : Int) (v1 : Int) (v2 : Int) (v3 : Int) (v4 : Int) (v5 : Int) (a1 : Option Addr) (len1 cap1 : Nat) (l : List (Int × Int)) (pi pn : Int) (w : World) (w1 : Prs w a1 len1 cap1 l) (hp : wfP (pi, pn)) (hbig : ¬ len1 > 40) (hunk : ¬ (1 ≤ pi ∧ pi ≤ 6)) :
    Calls Try.prog 6 #[.agg #[.int .i64 v0, .int .i64 v1, .int .i64 v2, .int .i64 v3, .int .i64 v4, .int .i64 v5], .slice a1 len1 cap1, .agg #[.int .u16 pi, .int .u32 pn]] w fun e w' => e = .returned (.bool true) ∧ Below w.heap.size w w' := by
  have HA : Hid (∀ w0, Calls Try.prog 7 #[] w0 (AwakePost w0)) := awake_any
  have HL := Lib.hid w1
  have hll := w1.1
  have HW2 := Lib.hid (more_wf hp w1.2.2.2.2.2)
  have hml : (moreP (pi, pn) l ++ [(pi, pn)]).length = 2 * len1 + 1 := by rw [List.length_append, more_len, hll]; rfl
  obtain ⟨r, hR⟩ : ∃ r, applyL (Vs.mk v0 v1 v2 v3 v4 v5) l = r := ⟨_, rfl⟩
  have H1 : Hid (∀ w0, Prs w0 a1 len1 cap1 l → Calls Try.prog 8 #[.agg #[.int .i64 v0, .int .i64 v1, .int .i64 v2, .int .i64 v3, .int .i64 v4, .int .i64 v5], .slice a1 len1 cap1] w0 (ApplyPost w0 .u32 r)) := Lib.hid fun w0 h0 => by
    have := apply_any (Vs.mk v0 v1 v2 v3 v4 v5) a1 len1 cap1 l w0 h0
    rw [hR] at this
    exact this
  have H2 : Hid (∀ w0 A n cap, Prs w0 A n cap (moreP (pi, pn) l ++ [(pi, pn)]) → Calls Try.prog 8 #[.agg #[.int .i64 v0, .int .i64 v1, .int .i64 v2, .int .i64 v3, .int .i64 v4, .int .i64 v5], .slice A n cap] w0 (ApplyPost w0 .u32 r)) := Lib.hid fun w0 A n cap h0 => by
    have := apply_any (Vs.mk v0 v1 v2 v3 v4 v5) A n cap (moreP (pi, pn) l ++ [(pi, pn)]) w0 h0
    rw [unk_apply hunk, hR] at this
    exact this
  clear hR w1
  obtain ⟨⟨r0, r1, r2, r3, r4, r5⟩, c⟩ := r
  obtain ⟨i0, hi, hz0, hz1, hz2⟩ := info_parts info47
  have hP := Blk.new (w.alloc (.cells #[.int .i64 v0, .int .i64 v1, .int .i64 v2, .int .i64 v3, .int .i64 v4, .int .i64 v5] 23)) 47 #[.int .u16 pi, .int .u32 pn]
  have hV := (Blk.new w 23 #[.int .i64 v0, .int .i64 v1, .int .i64 v2, .int .i64 v3, .int .i64 v4, .int .i64 v5]).alloc (.cells #[.int .u16 pi, .int .u32 pn] 47)
  have hL := lo_alloc (lo_alloc (lo_refl w) (.cells #[.int .i64 v0, .int .i64 v1, .int .i64 v2, .int .i64 v3, .int .i64 v4, .int .i64 v5] 23)) (.cells #[.int .u16 pi, .int .u32 pn] 47)
  simp only [World.size_alloc] at hP
  have hcs : pi < 1 ∨ (¬ pi < 1 ∧ 6 < pi) := by omega
  clear hunk
  go_enter Try.func6, Try.ntmps6
  go_upto_region 1 with fail
  obtain ⟨cP, fP⟩ := hP.facts
  go_cut [25] (fun u wc => u = .bool false ∧ wc = (w.alloc (.cells #[.int .i64 v0, .int .i64 v1, .int .i64 v2, .int .i64 v3, .int .i64 v4, .int .i64 v5] 23)).alloc (.cells #[.int .u16 pi, .int .u32 pn] 47))
  case first =>
    rcases hcs with h | ⟨h1, h2⟩
    all_goals
      go_wp2_with fail
      go_meet
      exact ⟨by simp <;> omega, rfl⟩
  case rest =>
  obtain ⟨rfl, rfl⟩ := hcut
  clear cP fP hcs
  have HV := Lib.hid hV
  have HP := Lib.hid hP
  clear hV hP
  generalize (w.alloc (.cells #[.int .i64 v0, .int .i64 v1, .int .i64 v2, .int .i64 v3, .int .i64 v4, .int .i64 v5] 23)).alloc (.cells #[.int .u16 pi, .int .u32 pn] 47) = w0 at HV HP hL ⊢
  go_wp2_with fail
  go_loopw [7, 8] (fun u y wr => ∃ k : Nat, k ≤ len1 ∧ y = .int .i64 k ∧ wr.ownsRow w0.heap.size 47 2 u (2 * k) ((moreP (pi, pn) (l.take k)).flatMap cellsP) ∧ Below w0.heap.size w0 wr) (fun _ y _ => len1 - (intOf y).toNat)
  case atStart => exact ⟨0, by omega, rfl, World.ownsRow_nil _ _ _ _, lo_refl _⟩
  case round =>
  obtain ⟨k, hk, rfl, hw, hbel⟩ := hrel
  by_cases hkl : k < len1
  · obtain ⟨b, off, rfl, hlt, hc⟩ := HL.out.2.2.2.2.1 k l[k] (List.getElem?_eq_getElem (by omega))
    have hm := take_more (pi, pn) l k (by omega)
    generalize l[k] = x at hc hm
    obtain ⟨id, n⟩ := x
    have hc0 := ((lo_cell hL).1 b _ hlt).trans (hc 0 _ rfl)
    have hc1 := ((lo_cell hL).1 b _ hlt).trans (hc 1 _ rfl)
    simp only [Nat.add_zero] at hc0 hc1
    have hlt0 : b < w0.heap.size := Nat.lt_of_lt_of_le hlt hL.size
    have Hc : Hid (w0.cell? ⟨b, off + k * 2, none⟩ = some (.int .u16 id) ∧ w0.cell? ⟨b, off + k * 2 + 1, none⟩ = some (.int .u32 n)) := Lib.hid ⟨hc0, hc1⟩
    have HM := Lib.hid hm
    have hkl' : (k : Int) < (len1 : Int) := by omega
    clear hc hm hc0 hc1 hlt
    go_upto_region 7 with fail
    refine wp_region_held_drew (S := (fun W => W.cell? ⟨w.heap.size + 1, 0, none⟩ = some (.int .u16 pi) ∧ W.cell? ⟨w.heap.size + 1, 1, none⟩ = some (.int .u32 pn) ∧ w.heap.size + 1 < W.heap.size ∧ W.cell? ⟨b, off + k * 2, none⟩ = some (.int .u16 id) ∧ W.cell? ⟨b, off + k * 2 + 1, none⟩ = some (.int .u32 n) ∧ b < W.heap.size)) (by kernel_rfl) ?_ (fun hHeld => ?_)
    focus ((try dsimp only); (have r := (HP.out.lo hbel).facts.1; exact ⟨r 0, r 1, (HP.out.lo hbel).lt, ((lo_cell hbel).1 b _ hlt0).trans Hc.out.1, ((lo_cell hbel).1 b _ hlt0).trans Hc.out.2, Nat.lt_of_lt_of_le hlt0 hbel.size⟩))
    replace hw : wr.drew.ownsRow w0.heap.size 47 2 u7 (2 * k) ((moreP (pi, pn) (l.take k)).flatMap cellsP) := hw
    replace hbel := lo_drew hbel
    generalize wr.drew = w3 at hw hbel hHeld ⊢
    first
    | (refine wpAnyH_take (i := 0) (oi := _) (v := ?_) (getop rfl) (by kernel_rfl) (by kernel_rfl) (by kernel_rfl) (fun _ _ _ h => h) (Or.inl ⟨by rfl, ?_⟩) (by assumption) ?_; rotate_left; focus (intro w hSw; (try dsimp only at hSw); go_simp; (try with_reducible rfl); done))
    (try simp only [Act.put, List.setIfInBounds_toArray, List.set_cons_zero, List.set_cons_succ])
    first
    | (refine wpAnyH_take (i := 1) (oi := _) (v := ?_) (getop rfl) (by kernel_rfl) (by kernel_rfl) (by kernel_rfl) (fun _ _ _ h => h) (Or.inl ⟨by rfl, ?_⟩) (by assumption) ?_; rotate_left; focus (intro w hSw; (try dsimp only at hSw); go_simp; (try with_reducible rfl); done))
    (try simp only [Act.put, List.setIfInBounds_toArray, List.set_cons_zero, List.set_cons_succ])
    first
    | (refine wpAnyH_take (i := 4) (oi := _) (v := ?_) (getop rfl) (by kernel_rfl) (by kernel_rfl) (by kernel_rfl) (fun _ _ _ h => h) (Or.inl ⟨by rfl, ?_⟩) (by assumption) ?_; rotate_left; focus (intro w hSw; (try dsimp only at hSw); go_simp; (try with_reducible rfl); done))
    (try simp only [Act.put, List.setIfInBounds_toArray, List.set_cons_zero, List.set_cons_succ])
    first
    | (refine wpAnyH_take (i := 5) (oi := _) (v := ?_) (getop rfl) (by kernel_rfl) (by kernel_rfl) (by kernel_rfl) (fun _ _ _ h => h) (Or.inl ⟨by rfl, ?_⟩) (by assumption) ?_; rotate_left; focus (intro w hSw; (try dsimp only at hSw); go_simp; (try with_reducible rfl); done))
    (try simp only [Act.put, List.setIfInBounds_toArray, List.set_cons_zero, List.set_cons_succ])
    first
    | (refine wpAnyH_take (i := 6) (oi := _) (v := ?_) (getop rfl) (by kernel_rfl) (by kernel_rfl) (by kernel_rfl) (fun _ _ _ h => h) (Or.inl ⟨by rfl, ?_⟩) (by assumption) ?_; rotate_left; focus (intro w hSw; (try dsimp only at hSw); go_simp; (try with_reducible rfl); done))
    (try simp only [Act.put, List.setIfInBounds_toArray, List.set_cons_zero, List.set_cons_succ])
    first
    | (refine wpAnyH_take (i := 7) (oi := _) (v := ?_) (getop rfl) (by kernel_rfl) (by kernel_rfl) (by kernel_rfl) (fun _ _ _ h => h) (Or.inl ⟨by rfl, ?_⟩) (by assumption) ?_; rotate_left; focus (intro w hSw; (try dsimp only at hSw); go_simp; (try with_reducible rfl); done))
    (try simp only [Act.put, List.setIfInBounds_toArray, List.set_cons_zero, List.set_cons_succ])
    refine wpAnyH_ready (rs := [2, 8]) (by kernel_rfl) (by simp) ?_
    refine (AllReadyH.cons (o := _) (getop rfl) (fun K hK => ?_) (AllReadyH.cons (o := _) (getop rfl) (fun K hK => ?_) AllReadyH.nil))
    · go_simp
      have hnA := own_ne hw (g := w3.heap.size) (Or.inr (Nat.le_refl _))
      have hA := Blk.new w3 47 #[.int .u16 pi, .int .u32 pn]
      replace hw := hw.alloc (.cells #[.int .u16 pi, .int .u32 pn] 47)
      replace hbel := lo_alloc hbel (.cells #[.int .u16 pi, .int .u32 pn] 47)
      generalize w3.heap.size = gA at hA hnA ⊢
      generalize w3.alloc (.cells #[.int .u16 pi, .int .u32 pn] 47) = wA at hA hw hbel ⊢
      refine hK.out _ _ ?_ (fun hHeld2 => ?_)
      focus ((try dsimp only); (have r := (HP.out.lo hbel).facts.1; exact ⟨r 0, r 1, (HP.out.lo hbel).lt, ((lo_cell hbel).1 b _ hlt0).trans Hc.out.1, ((lo_cell hbel).1 b _ hlt0).trans Hc.out.2, Nat.lt_of_lt_of_le hlt0 hbel.size⟩))
      clear hK K hHeld
      have hHeld := hHeld2
      clear hHeld2
      (try simp only [Act.put, List.setIfInBounds_toArray, List.set_cons_zero, List.set_cons_succ])
      refine wpAnyH_ready (rs := [3, 8]) (by kernel_rfl) (by simp) ?_
      refine (AllReadyH.cons (o := _) (getop rfl) (fun K hK => ?_) (AllReadyH.cons (o := _) (getop rfl) (fun K hK => ?_) AllReadyH.nil))
      · refine step_append_lies wA rfl (.tmp 33) (.tmp 35) 24 rfl w0.heap.size 47 i0 _ 2 8 Try.underlying24 hi hz0 hz1 hz2 rfl (by decide) _ _ _ rfl hw ⟨gA, 0, none⟩ 1 1 #[.int .u16 pi, .int .u32 pn].toList rfl rfl (hA.at rfl) (by intro u hu; simp at hu; rcases hu with rfl | rfl <;> rfl) (by decide) (by unfold maxLen; omega) (by omega) hbel.size _ rfl ?_
        intro g3 cg3 wP hwn hgr hat hltg3
        have hbeln := hbel.grown hgr hbel.size (fun k hk => (hw.lt k hk).1)
        clear hw hgr hat hbel hA hnA
        have hw := hwn
        have hbel := hbeln
        clear hwn hbeln 
        refine hK.out _ _ ?_ (fun hHeld3 => ?_)
        focus ((try dsimp only); (have r := (HP.out.lo hbel).facts.1; exact ⟨r 0, r 1, (HP.out.lo hbel).lt, ((lo_cell hbel).1 b _ hlt0).trans Hc.out.1, ((lo_cell hbel).1 b _ hlt0).trans Hc.out.2, Nat.lt_of_lt_of_le hlt0 hbel.size⟩))
        clear hK K hHeld
        have hHeld := hHeld3
        clear hHeld3
        (try simp only [Act.put, List.setIfInBounds_toArray, List.set_cons_zero, List.set_cons_succ])
        refine wpAnyH_ready (rs := [8]) (by kernel_rfl) (by simp) ?_
        refine (AllReadyH.cons (o := _) (getop rfl) (fun K hK => ?_) AllReadyH.nil)
        go_simp
        have hnB := own_ne hw (g := wP.heap.size) (Or.inr (Nat.le_refl _))
        have hB := Blk.new wP 47 #[.int .u16 id, .int .u32 n]
        replace hw := hw.alloc (.cells #[.int .u16 id, .int .u32 n] 47)
        replace hbel := lo_alloc hbel (.cells #[.int .u16 id, .int .u32 n] 47)
        generalize wP.heap.size = gB at hB hnB ⊢
        generalize wP.alloc (.cells #[.int .u16 id, .int .u32 n] 47) = wB at hB hw hbel ⊢
        refine hK.out _ _ ?_ (fun hHeld8 => ?_)
        focus ((try dsimp only); (have r := (HP.out.lo hbel).facts.1; exact ⟨r 0, r 1, (HP.out.lo hbel).lt, ((lo_cell hbel).1 b _ hlt0).trans Hc.out.1, ((lo_cell hbel).1 b _ hlt0).trans Hc.out.2, Nat.lt_of_lt_of_le hlt0 hbel.size⟩))
        clear hK K hHeld
        have hHeld := hHeld8
        clear hHeld8
        (try simp only [Act.put, List.setIfInBounds_toArray, List.set_cons_zero, List.set_cons_succ])
        refine wpAnyH_ready (rs := [9]) (by kernel_rfl) (by simp) ?_
        refine (AllReadyH.cons (o := _) (getop rfl) (fun K hK => ?_) AllReadyH.nil)
        refine step_append_lies wB rfl (.tmp 36) (.tmp 41) 24 rfl w0.heap.size 47 i0 _ 2 8 Try.underlying24 hi hz0 hz1 hz2 rfl (by decide) _ _ _ rfl hw ⟨gB, 0, none⟩ 1 1 #[.int .u16 id, .int .u32 n].toList rfl rfl (hB.at rfl) (by intro u hu; simp at hu; rcases hu with rfl | rfl <;> rfl) (by decide) (by unfold maxLen; omega) (by omega) hbel.size _ rfl ?_
        intro g9 cg9 wQ hwn hgr hat hltg9
        have hbeln := hbel.grown hgr hbel.size (fun k hk => (hw.lt k hk).1)
        clear hw hgr hat hbel hB hnB
        have hw := hwn
        have hbel := hbeln
        clear hwn hbeln 
        refine hK.out _ _ ?_ (fun hHeld9 => ?_)
        focus ((try dsimp only); (have r := (HP.out.lo hbel).facts.1; exact ⟨r 0, r 1, (HP.out.lo hbel).lt, ((lo_cell hbel).1 b _ hlt0).trans Hc.out.1, ((lo_cell hbel).1 b _ hlt0).trans Hc.out.2, Nat.lt_of_lt_of_le hlt0 hbel.size⟩))
        clear hK K hHeld
        have hHeld := hHeld9
        clear hHeld9
        (try simp only [Act.put, List.setIfInBounds_toArray, List.set_cons_zero, List.set_cons_succ])
        first
        | (refine wpAnyH_take (i := 10) (oi := _) (v := ?_) (getop rfl) (by kernel_rfl) (by kernel_rfl) (by kernel_rfl) (fun _ _ _ h => h) (Or.inl ⟨by rfl, ?_⟩) (by assumption) ?_; rotate_left; focus (intro w hSw; (try dsimp only at hSw); go_simp; (try with_reducible rfl); done))
        (try simp only [Act.put, List.setIfInBounds_toArray, List.set_cons_zero, List.set_cons_succ])
        refine wpAnyH_done (by kernel_rfl) ?_ _
        have hfin : (moreP (pi, pn) (l.take k)).flatMap cellsP ++ [Value.int .u16 pi, Value.int .u32 pn] ++ [Value.int .u16 id, Value.int .u32 n] = (moreP (pi, pn) (l.take (k + 1))).flatMap cellsP := HM.out
        rw [hfin] at hw
        go_wp2_with fail
        go_roundw
        case rel => exact ⟨k + 1, by omega, by go_num, by simpa [Nat.mul_add] using hw, hbel⟩
        case measure => simp [intOf]; omega
      · go_simp
        have hnB := own_ne hw (g := wA.heap.size) (Or.inr (Nat.le_refl _))
        have hB := Blk.new wA 47 #[.int .u16 id, .int .u32 n]
        replace hA := hA.alloc (.cells #[.int .u16 id, .int .u32 n] 47)
        replace hw := hw.alloc (.cells #[.int .u16 id, .int .u32 n] 47)
        replace hbel := lo_alloc hbel (.cells #[.int .u16 id, .int .u32 n] 47)
        generalize wA.heap.size = gB at hB hnB ⊢
        generalize wA.alloc (.cells #[.int .u16 id, .int .u32 n] 47) = wB at hA hB hw hbel ⊢
        refine hK.out _ _ ?_ (fun hHeld8 => ?_)
        focus ((try dsimp only); (have r := (HP.out.lo hbel).facts.1; exact ⟨r 0, r 1, (HP.out.lo hbel).lt, ((lo_cell hbel).1 b _ hlt0).trans Hc.out.1, ((lo_cell hbel).1 b _ hlt0).trans Hc.out.2, Nat.lt_of_lt_of_le hlt0 hbel.size⟩))
        clear hK K hHeld
        have hHeld := hHeld8
        clear hHeld8
        (try simp only [Act.put, List.setIfInBounds_toArray, List.set_cons_zero, List.set_cons_succ])
        refine wpAnyH_ready (rs := [3]) (by kernel_rfl) (by simp) ?_
        refine (AllReadyH.cons (o := _) (getop rfl) (fun K hK => ?_) AllReadyH.nil)
        refine step_append_lies wB rfl (.tmp 33) (.tmp 35) 24 rfl w0.heap.size 47 i0 _ 2 8 Try.underlying24 hi hz0 hz1 hz2 rfl (by decide) _ _ _ rfl hw ⟨gA, 0, none⟩ 1 1 #[.int .u16 pi, .int .u32 pn].toList rfl rfl (hA.at rfl) (by intro u hu; simp at hu; rcases hu with rfl | rfl <;> rfl) (by decide) (by unfold maxLen; omega) (by omega) hbel.size _ rfl ?_
        intro g3 cg3 wP hwn hgr hat hltg3
        have hbeln := hbel.grown hgr hbel.size (fun k hk => (hw.lt k hk).1)
        have hnBn := ne_next (n := 2 * k + 1) (cap := cg3) hnB hB.lt hat
        have hBn := hB.grown hgr hnB
        clear hw hgr hat hbel hB hnB hA hnA
        have hw := hwn
        have hbel := hbeln
        have hB := hBn
        have hnB := hnBn
        clear hwn hbeln hBn hnBn
        refine hK.out _ _ ?_ (fun hHeld3 => ?_)
        focus ((try dsimp only); (have r := (HP.out.lo hbel).facts.1; exact ⟨r 0, r 1, (HP.out.lo hbel).lt, ((lo_cell hbel).1 b _ hlt0).trans Hc.out.1, ((lo_cell hbel).1 b _ hlt0).trans Hc.out.2, Nat.lt_of_lt_of_le hlt0 hbel.size⟩))
        clear hK K hHeld
        have hHeld := hHeld3
        clear hHeld3
        (try simp only [Act.put, List.setIfInBounds_toArray, List.set_cons_zero, List.set_cons_succ])
        refine wpAnyH_ready (rs := [9]) (by kernel_rfl) (by simp) ?_
        refine (AllReadyH.cons (o := _) (getop rfl) (fun K hK => ?_) AllReadyH.nil)
        refine step_append_lies wP rfl (.tmp 36) (.tmp 41) 24 rfl w0.heap.size 47 i0 _ 2 8 Try.underlying24 hi hz0 hz1 hz2 rfl (by decide) _ _ _ rfl hw ⟨gB, 0, none⟩ 1 1 #[.int .u16 id, .int .u32 n].toList rfl rfl (hB.at rfl) (by intro u hu; simp at hu; rcases hu with rfl | rfl <;> rfl) (by decide) (by unfold maxLen; omega) (by omega) hbel.size _ rfl ?_
        intro g9 cg9 wQ hwn hgr hat hltg9
        have hbeln := hbel.grown hgr hbel.size (fun k hk => (hw.lt k hk).1)
        clear hw hgr hat hbel hB hnB
        have hw := hwn
        have hbel := hbeln
        clear hwn hbeln 
        refine hK.out _ _ ?_ (fun hHeld9 => ?_)
        focus ((try dsimp only); (have r := (HP.out.lo hbel).facts.1; exact ⟨r 0, r 1, (HP.out.lo hbel).lt, ((lo_cell hbel).1 b _ hlt0).trans Hc.out.1, ((lo_cell hbel).1 b _ hlt0).trans Hc.out.2, Nat.lt_of_lt_of_le hlt0 hbel.size⟩))
        clear hK K hHeld
        have hHeld := hHeld9
        clear hHeld9
        (try simp only [Act.put, List.setIfInBounds_toArray, List.set_cons_zero, List.set_cons_succ])
        first
        | (refine wpAnyH_take (i := 10) (oi := _) (v := ?_) (getop rfl) (by kernel_rfl) (by kernel_rfl) (by kernel_rfl) (fun _ _ _ h => h) (Or.inl ⟨by rfl, ?_⟩) (by assumption) ?_; rotate_left; focus (intro w hSw; (try dsimp only at hSw); go_simp; (try with_reducible rfl); done))
        (try simp only [Act.put, List.setIfInBounds_toArray, List.set_cons_zero, List.set_cons_succ])
        refine wpAnyH_done (by kernel_rfl) ?_ _
        have hfin : (moreP (pi, pn) (l.take k)).flatMap cellsP ++ [Value.int .u16 pi, Value.int .u32 pn] ++ [Value.int .u16 id, Value.int .u32 n] = (moreP (pi, pn) (l.take (k + 1))).flatMap cellsP := HM.out
        rw [hfin] at hw
        go_wp2_with fail
        go_roundw
        case rel => exact ⟨k + 1, by omega, by go_num, by simpa [Nat.mul_add] using hw, hbel⟩
        case measure => simp [intOf]; omega
    · go_simp
      have hnB := own_ne hw (g := w3.heap.size) (Or.inr (Nat.le_refl _))
      have hB := Blk.new w3 47 #[.int .u16 id, .int .u32 n]
      replace hw := hw.alloc (.cells #[.int .u16 id, .int .u32 n] 47)
      replace hbel := lo_alloc hbel (.cells #[.int .u16 id, .int .u32 n] 47)
      generalize w3.heap.size = gB at hB hnB ⊢
      generalize w3.alloc (.cells #[.int .u16 id, .int .u32 n] 47) = wB at hB hw hbel ⊢
      refine hK.out _ _ ?_ (fun hHeld8 => ?_)
      focus ((try dsimp only); (have r := (HP.out.lo hbel).facts.1; exact ⟨r 0, r 1, (HP.out.lo hbel).lt, ((lo_cell hbel).1 b _ hlt0).trans Hc.out.1, ((lo_cell hbel).1 b _ hlt0).trans Hc.out.2, Nat.lt_of_lt_of_le hlt0 hbel.size⟩))
      clear hK K hHeld
      have hHeld := hHeld8
      clear hHeld8
      (try simp only [Act.put, List.setIfInBounds_toArray, List.set_cons_zero, List.set_cons_succ])
      refine wpAnyH_ready (rs := [2]) (by kernel_rfl) (by simp) ?_
      refine (AllReadyH.cons (o := _) (getop rfl) (fun K hK => ?_) AllReadyH.nil)
      go_simp
      have hnA := own_ne hw (g := wB.heap.size) (Or.inr (Nat.le_refl _))
      have hA := Blk.new wB 47 #[.int .u16 pi, .int .u32 pn]
      replace hB := hB.alloc (.cells #[.int .u16 pi, .int .u32 pn] 47)
      replace hw := hw.alloc (.cells #[.int .u16 pi, .int .u32 pn] 47)
      replace hbel := lo_alloc hbel (.cells #[.int .u16 pi, .int .u32 pn] 47)
      generalize wB.heap.size = gA at hA hnA ⊢
      generalize wB.alloc (.cells #[.int .u16 pi, .int .u32 pn] 47) = wA at hB hA hw hbel ⊢
      refine hK.out _ _ ?_ (fun hHeld2 => ?_)
      focus ((try dsimp only); (have r := (HP.out.lo hbel).facts.1; exact ⟨r 0, r 1, (HP.out.lo hbel).lt, ((lo_cell hbel).1 b _ hlt0).trans Hc.out.1, ((lo_cell hbel).1 b _ hlt0).trans Hc.out.2, Nat.lt_of_lt_of_le hlt0 hbel.size⟩))
      clear hK K hHeld
      have hHeld := hHeld2
      clear hHeld2
      (try simp only [Act.put, List.setIfInBounds_toArray, List.set_cons_zero, List.set_cons_succ])
      refine wpAnyH_ready (rs := [3]) (by kernel_rfl) (by simp) ?_
      refine (AllReadyH.cons (o := _) (getop rfl) (fun K hK => ?_) AllReadyH.nil)
      refine step_append_lies wA rfl (.tmp 33) (.tmp 35) 24 rfl w0.heap.size 47 i0 _ 2 8 Try.underlying24 hi hz0 hz1 hz2 rfl (by decide) _ _ _ rfl hw ⟨gA, 0, none⟩ 1 1 #[.int .u16 pi, .int .u32 pn].toList rfl rfl (hA.at rfl) (by intro u hu; simp at hu; rcases hu with rfl | rfl <;> rfl) (by decide) (by unfold maxLen; omega) (by omega) hbel.size _ rfl ?_
      intro g3 cg3 wP hwn hgr hat hltg3
      have hbeln := hbel.grown hgr hbel.size (fun k hk => (hw.lt k hk).1)
      have hnBn := ne_next (n := 2 * k + 1) (cap := cg3) hnB hB.lt hat
      have hBn := hB.grown hgr hnB
      clear hw hgr hat hbel hB hnB hA hnA
      have hw := hwn
      have hbel := hbeln
      have hB := hBn
      have hnB := hnBn
      clear hwn hbeln hBn hnBn
      refine hK.out _ _ ?_ (fun hHeld3 => ?_)
      focus ((try dsimp only); (have r := (HP.out.lo hbel).facts.1; exact ⟨r 0, r 1, (HP.out.lo hbel).lt, ((lo_cell hbel).1 b _ hlt0).trans Hc.out.1, ((lo_cell hbel).1 b _ hlt0).trans Hc.out.2, Nat.lt_of_lt_of_le hlt0 hbel.size⟩))
      clear hK K hHeld
      have hHeld := hHeld3
      clear hHeld3
      (try simp only [Act.put, List.setIfInBounds_toArray, List.set_cons_zero, List.set_cons_succ])
      refine wpAnyH_ready (rs := [9]) (by kernel_rfl) (by simp) ?_
      refine (AllReadyH.cons (o := _) (getop rfl) (fun K hK => ?_) AllReadyH.nil)
      refine step_append_lies wP rfl (.tmp 36) (.tmp 41) 24 rfl w0.heap.size 47 i0 _ 2 8 Try.underlying24 hi hz0 hz1 hz2 rfl (by decide) _ _ _ rfl hw ⟨gB, 0, none⟩ 1 1 #[.int .u16 id, .int .u32 n].toList rfl rfl (hB.at rfl) (by intro u hu; simp at hu; rcases hu with rfl | rfl <;> rfl) (by decide) (by unfold maxLen; omega) (by omega) hbel.size _ rfl ?_
      intro g9 cg9 wQ hwn hgr hat hltg9
      have hbeln := hbel.grown hgr hbel.size (fun k hk => (hw.lt k hk).1)
      clear hw hgr hat hbel hB hnB
      have hw := hwn
      have hbel := hbeln
      clear hwn hbeln 
      refine hK.out _ _ ?_ (fun hHeld9 => ?_)
      focus ((try dsimp only); (have r := (HP.out.lo hbel).facts.1; exact ⟨r 0, r 1, (HP.out.lo hbel).lt, ((lo_cell hbel).1 b _ hlt0).trans Hc.out.1, ((lo_cell hbel).1 b _ hlt0).trans Hc.out.2, Nat.lt_of_lt_of_le hlt0 hbel.size⟩))
      clear hK K hHeld
      have hHeld := hHeld9
      clear hHeld9
      (try simp only [Act.put, List.setIfInBounds_toArray, List.set_cons_zero, List.set_cons_succ])
      first
      | (refine wpAnyH_take (i := 10) (oi := _) (v := ?_) (getop rfl) (by kernel_rfl) (by kernel_rfl) (by kernel_rfl) (fun _ _ _ h => h) (Or.inl ⟨by rfl, ?_⟩) (by assumption) ?_; rotate_left; focus (intro w hSw; (try dsimp only at hSw); go_simp; (try with_reducible rfl); done))
      (try simp only [Act.put, List.setIfInBounds_toArray, List.set_cons_zero, List.set_cons_succ])
      refine wpAnyH_done (by kernel_rfl) ?_ _
      have hfin : (moreP (pi, pn) (l.take k)).flatMap cellsP ++ [Value.int .u16 pi, Value.int .u32 pn] ++ [Value.int .u16 id, Value.int .u32 n] = (moreP (pi, pn) (l.take (k + 1))).flatMap cellsP := HM.out
      rw [hfin] at hw
      go_wp2_with fail
      go_roundw
      case rel => exact ⟨k + 1, by omega, by go_num, by simpa [Nat.mul_add] using hw, hbel⟩
      case measure => simp [intOf]; omega
  · have hkl' : ¬ (k : Int) < (len1 : Int) := by omega
    have hke : k = len1 := by omega
    subst hke
    rw [List.take_of_length_le (by omega)] at hw
    obtain ⟨cV, fV⟩ := (HV.out.lo hbel).facts
    go_wp2_with fail
    refine (H1.out _ (agg_lo HL.out (lo_trans hL hbel))).mono ?_
    rintro e w2 ⟨rfl, hb⟩
    replace hw := own_lo hw hb
    replace hbel := lo_alloc (lo_trans hbel hb) (.cells #[.int .i64 r0, .int .i64 r1, .int .i64 r2, .int .i64 r3, .int .i64 r4, .int .i64 r5] 26)
    have hnX := own_ne hw (g := w2.heap.size) (Or.inr (Nat.le_refl _))
    have hX := Blk.new w2 26 #[.int .i64 r0, .int .i64 r1, .int .i64 r2, .int .i64 r3, .int .i64 r4, .int .i64 r5]
    replace hw := hw.alloc (.cells #[.int .i64 r0, .int .i64 r1, .int .i64 r2, .int .i64 r3, .int .i64 r4, .int .i64 r5] 26)
    clear hb H1 cV fV
    go_upto_region 9 with fail
    generalize w2.heap.size = gX at hX hnX ⊢
    generalize w2.alloc (.cells #[.int .i64 r0, .int .i64 r1, .int .i64 r2, .int .i64 r3, .int .i64 r4, .int .i64 r5] 26) = w3 at hX hw hbel ⊢
    refine wp_region_held_drew (S := (fun W => W.cell? ⟨w.heap.size, 0, none⟩ = some (.int .i64 v0) ∧ W.cell? ⟨w.heap.size, 1, none⟩ = some (.int .i64 v1) ∧ W.cell? ⟨w.heap.size, 2, none⟩ = some (.int .i64 v2) ∧ W.cell? ⟨w.heap.size, 3, none⟩ = some (.int .i64 v3) ∧ W.cell? ⟨w.heap.size, 4, none⟩ = some (.int .i64 v4) ∧ W.cell? ⟨w.heap.size, 5, none⟩ = some (.int .i64 v5) ∧ w.heap.size < W.heap.size ∧ W.cell? ⟨w.heap.size + 1, 0, none⟩ = some (.int .u16 pi) ∧ W.cell? ⟨w.heap.size + 1, 1, none⟩ = some (.int .u32 pn) ∧ w.heap.size + 1 < W.heap.size)) (by kernel_rfl) ?_ (fun hHeld => ?_)
    focus ((try dsimp only); (have q := (HV.out.lo hbel).facts.1; have r := (HP.out.lo hbel).facts.1; exact ⟨q 0, q 1, q 2, q 3, q 4, q 5, (HV.out.lo hbel).lt, r 0, r 1, (HP.out.lo hbel).lt⟩))
    replace hw : w3.drew.ownsRow w0.heap.size 47 2 u7 (2 * k) ((moreP (pi, pn) l).flatMap cellsP) := hw
    replace hX : Blk w3.drew _ _ _ := hX
    replace hbel := lo_drew hbel
    generalize w3.drew = w4 at hw hX hbel hHeld ⊢
    first
    | (refine wpAnyH_take (i := 0) (oi := _) (v := ?_) (getop rfl) (by kernel_rfl) (by kernel_rfl) (by kernel_rfl) (fun _ _ _ h => h) (Or.inl ⟨by rfl, ?_⟩) (by assumption) ?_; rotate_left; focus (intro w hSw; (try dsimp only at hSw); go_simp; (try with_reducible rfl); done))
    (try simp only [Act.put, List.setIfInBounds_toArray, List.set_cons_zero, List.set_cons_succ])
    first
    | (refine wpAnyH_take (i := 1) (oi := _) (v := ?_) (getop rfl) (by kernel_rfl) (by kernel_rfl) (by kernel_rfl) (fun _ _ _ h => h) (Or.inl ⟨by rfl, ?_⟩) (by assumption) ?_; rotate_left; focus (intro w hSw; (try dsimp only at hSw); go_simp; (try with_reducible rfl); done))
    (try simp only [Act.put, List.setIfInBounds_toArray, List.set_cons_zero, List.set_cons_succ])
    first
    | (refine wpAnyH_take (i := 2) (oi := _) (v := ?_) (getop rfl) (by kernel_rfl) (by kernel_rfl) (by kernel_rfl) (fun _ _ _ h => h) (Or.inl ⟨by rfl, ?_⟩) (by assumption) ?_; rotate_left; focus (intro w hSw; (try dsimp only at hSw); go_simp; (try with_reducible rfl); done))
    (try simp only [Act.put, List.setIfInBounds_toArray, List.set_cons_zero, List.set_cons_succ])
    refine wpAnyH_ready (rs := [3, 9]) (by kernel_rfl) (by simp) ?_
    refine (AllReadyH.cons (o := _) (getop rfl) (fun K hK => ?_) (AllReadyH.cons (o := _) (getop rfl) (fun K hK => ?_) AllReadyH.nil))
    · go_simp
      have hnA := own_ne hw (g := w4.heap.size) (Or.inr (Nat.le_refl _))
      have hA := Blk.new w4 47 #[.int .u16 pi, .int .u32 pn]
      replace hX := hX.alloc (.cells #[.int .u16 pi, .int .u32 pn] 47)
      replace hw := hw.alloc (.cells #[.int .u16 pi, .int .u32 pn] 47)
      replace hbel := lo_alloc hbel (.cells #[.int .u16 pi, .int .u32 pn] 47)
      generalize w4.heap.size = gA at hA hnA ⊢
      generalize w4.alloc (.cells #[.int .u16 pi, .int .u32 pn] 47) = wz0 at hX hA hw hbel ⊢
      refine hK.out _ _ ?_ (fun hHeld3 => ?_)
      focus ((try dsimp only); (have q := (HV.out.lo hbel).facts.1; have r := (HP.out.lo hbel).facts.1; exact ⟨q 0, q 1, q 2, q 3, q 4, q 5, (HV.out.lo hbel).lt, r 0, r 1, (HP.out.lo hbel).lt⟩))
      clear hK K hHeld
      have hHeld := hHeld3
      clear hHeld3
      (try simp only [Act.put, List.setIfInBounds_toArray, List.set_cons_zero, List.set_cons_succ])
      refine wpAnyH_ready (rs := [4, 9]) (by kernel_rfl) (by simp) ?_
      refine (AllReadyH.cons (o := _) (getop rfl) (fun K hK => ?_) (AllReadyH.cons (o := _) (getop rfl) (fun K hK => ?_) AllReadyH.nil))
      · refine step_append_lies wz0 rfl (.tmp 51) (.tmp 53) 24 rfl w0.heap.size 47 i0 _ 2 8 Try.underlying24 hi hz0 hz1 hz2 rfl (by decide) _ _ _ rfl hw ⟨gA, 0, none⟩ 1 1 #[.int .u16 pi, .int .u32 pn].toList rfl rfl (hA.at rfl) (by intro u hu; simp at hu; rcases hu with rfl | rfl <;> rfl) (by decide) (by unfold maxLen; omega) (by omega) hbel.size _ rfl ?_
        intro g4 cg4 wz1 hwn hgr hat hltg4
        have hbeln := hbel.grown hgr hbel.size (fun k hk => (hw.lt k hk).1)
        have hnXn := ne_next (n := 2 * k + 1) (cap := cg4) hnX hX.lt hat
        have hXn := hX.grown hgr hnX
        clear hw hgr hat hbel hX hnX hA hnA
        have hw := hwn
        have hbel := hbeln
        have hX := hXn
        have hnX := hnXn
        clear hwn hbeln hXn hnXn
        refine hK.out _ _ ?_ (fun hHeld4 => ?_)
        focus ((try dsimp only); (have q := (HV.out.lo hbel).facts.1; have r := (HP.out.lo hbel).facts.1; exact ⟨q 0, q 1, q 2, q 3, q 4, q 5, (HV.out.lo hbel).lt, r 0, r 1, (HP.out.lo hbel).lt⟩))
        clear hK K hHeld
        have hHeld := hHeld4
        clear hHeld4
        (try simp only [Act.put, List.setIfInBounds_toArray, List.set_cons_zero, List.set_cons_succ])
        refine wpAnyH_ready (rs := [5, 9]) (by kernel_rfl) (by simp) ?_
        refine (AllReadyH.cons (o := _) (getop rfl) (fun K hK => ?_) (AllReadyH.cons (o := _) (getop rfl) (fun K hK => ?_) AllReadyH.nil))
        · go_simp
          have hw2 : wz1.ownsRow w0.heap.size 47 2 (.slice (some ⟨g4, 0, none⟩) (2 * k + 1) cg4) (moreP (pi, pn) l ++ [(pi, pn)]).length ((moreP (pi, pn) l ++ [(pi, pn)]).flatMap cellsP) := by rw [hml, List.flatMap_append]; exact hw
          obtain ⟨A, cap, hu, hpr⟩ := own_prs hw2 HW2.out
          rw [hml] at hu hpr
          injection hu with hu1 hu2 hu3
          subst hu1 hu3
          refine (H2.out _ _ _ _ hpr).mono ?_
          rintro e wz2 ⟨rfl, hb⟩
          replace hX := hX.lo hb
          replace hbel := lo_trans hbel hb
          clear hb hw hw2 hpr
          refine hK.out _ _ ?_ (fun hHeld5 => ?_)
          focus ((try dsimp only); (have q := (HV.out.lo hbel).facts.1; have r := (HP.out.lo hbel).facts.1; exact ⟨q 0, q 1, q 2, q 3, q 4, q 5, (HV.out.lo hbel).lt, r 0, r 1, (HP.out.lo hbel).lt⟩))
          clear hK K hHeld
          have hHeld := hHeld5
          clear hHeld5
          (try simp only [Act.put, List.setIfInBounds_toArray, List.set_cons_zero, List.set_cons_succ])
          first
          | (refine wpAnyH_take (i := 6) (oi := _) (v := ?_) (getop rfl) (by kernel_rfl) (by kernel_rfl) (by kernel_rfl) (fun _ _ _ h => h) (Or.inl ⟨by rfl, ?_⟩) (by assumption) ?_; rotate_left; focus (intro w hSw; (try dsimp only at hSw); go_simp; (try with_reducible rfl); done))
          (try simp only [Act.put, List.setIfInBounds_toArray, List.set_cons_zero, List.set_cons_succ])
          first
          | (refine wpAnyH_take (i := 7) (oi := _) (v := ?_) (getop rfl) (by kernel_rfl) (by kernel_rfl) (by kernel_rfl) (fun _ _ _ h => h) (Or.inl ⟨by rfl, ?_⟩) (by assumption) ?_; rotate_left; focus (intro w hSw; (try dsimp only at hSw); go_simp; (try with_reducible rfl); done))
          (try simp only [Act.put, List.setIfInBounds_toArray, List.set_cons_zero, List.set_cons_succ])
          first
          | (refine wpAnyH_take (i := 8) (oi := _) (v := ?_) (getop rfl) (by kernel_rfl) (by kernel_rfl) (by kernel_rfl) (fun _ _ _ h => h) (Or.inl ⟨by rfl, ?_⟩) (by assumption) ?_; rotate_left; focus (intro w hSw; (try dsimp only at hSw); go_simp; (try with_reducible rfl); done))
          (try simp only [Act.put, List.setIfInBounds_toArray, List.set_cons_zero, List.set_cons_succ])
          refine wpAnyH_ready (rs := [9]) (by kernel_rfl) (by simp) ?_
          refine (AllReadyH.cons (o := _) (getop rfl) (fun K hK => ?_) AllReadyH.nil)
          go_simp
          have hY := Blk.new wz2 26 #[.int .i64 0, .int .i64 0, .int .i64 0, .int .i64 0, .int .i64 0, .int .i64 0]
          have qY : gX < wz2.heap.size := hX.lt
          have zY : w0.heap.size ≤ wz2.heap.size := hbel.size
          replace hX := hX.alloc (.cells #[.int .i64 0, .int .i64 0, .int .i64 0, .int .i64 0, .int .i64 0, .int .i64 0] 26)
          replace hbel := lo_alloc hbel (.cells #[.int .i64 0, .int .i64 0, .int .i64 0, .int .i64 0, .int .i64 0, .int .i64 0] 26)
          generalize wz2.heap.size = gY at hY qY zY ⊢
          generalize wz2.alloc (.cells #[.int .i64 0, .int .i64 0, .int .i64 0, .int .i64 0, .int .i64 0, .int .i64 0] 26) = wz3 at hX hY hbel ⊢
          refine hK.out _ _ ?_ (fun hHeld9 => ?_)
          focus ((try dsimp only); (have q := (HV.out.lo hbel).facts.1; have r := (HP.out.lo hbel).facts.1; exact ⟨q 0, q 1, q 2, q 3, q 4, q 5, (HV.out.lo hbel).lt, r 0, r 1, (HP.out.lo hbel).lt⟩))
          clear hK K hHeld
          have hHeld := hHeld9
          clear hHeld9
          (try simp only [Act.put, List.setIfInBounds_toArray, List.set_cons_zero, List.set_cons_succ])
          refine wpAnyH_ready (rs := [10]) (by kernel_rfl) (by simp) ?_
          refine (AllReadyH.cons (o := _) (getop rfl) (fun K hK => ?_) AllReadyH.nil)
          obtain ⟨cY, fY⟩ := hY.facts
          have lY := hY.lt
          go_simp
          clear cY fY lY
          replace hX := hX.far (p := ⟨gY, 0, none⟩) (by dsimp only; omega) (.int .i64 r0)
          replace hY := hY.set_ 0 (.int .i64 r0)
          replace hbel := lo_set hbel (p := ⟨gY, 0, none⟩) (by dsimp only; omega) (.int .i64 r0)
          replace hX := hX.far (p := ⟨gY, 1, none⟩) (by dsimp only; omega) (.int .i64 r1)
          replace hY := hY.set_ 1 (.int .i64 r1)
          replace hbel := lo_set hbel (p := ⟨gY, 1, none⟩) (by dsimp only; omega) (.int .i64 r1)
          replace hX := hX.far (p := ⟨gY, 2, none⟩) (by dsimp only; omega) (.int .i64 r2)
          replace hY := hY.set_ 2 (.int .i64 r2)
          replace hbel := lo_set hbel (p := ⟨gY, 2, none⟩) (by dsimp only; omega) (.int .i64 r2)
          replace hX := hX.far (p := ⟨gY, 3, none⟩) (by dsimp only; omega) (.int .i64 r3)
          replace hY := hY.set_ 3 (.int .i64 r3)
          replace hbel := lo_set hbel (p := ⟨gY, 3, none⟩) (by dsimp only; omega) (.int .i64 r3)
          replace hX := hX.far (p := ⟨gY, 4, none⟩) (by dsimp only; omega) (.int .i64 r4)
          replace hY := hY.set_ 4 (.int .i64 r4)
          replace hbel := lo_set hbel (p := ⟨gY, 4, none⟩) (by dsimp only; omega) (.int .i64 r4)
          replace hX := hX.far (p := ⟨gY, 5, none⟩) (by dsimp only; omega) (.int .i64 r5)
          replace hY := hY.set_ 5 (.int .i64 r5)
          replace hbel := lo_set hbel (p := ⟨gY, 5, none⟩) (by dsimp only; omega) (.int .i64 r5)
          replace hY : Blk ((((((wz3.setCell ⟨gY, 0, none⟩ (.int .i64 r0)).setCell ⟨gY, 1, none⟩ (.int .i64 r1)).setCell ⟨gY, 2, none⟩ (.int .i64 r2)).setCell ⟨gY, 3, none⟩ (.int .i64 r3)).setCell ⟨gY, 4, none⟩ (.int .i64 r4)).setCell ⟨gY, 5, none⟩ (.int .i64 r5)) gY 26 #[.int .i64 r0, .int .i64 r1, .int .i64 r2, .int .i64 r3, .int .i64 r4, .int .i64 r5] := by simpa using hY
          generalize ((((((wz3.setCell ⟨gY, 0, none⟩ (.int .i64 r0)).setCell ⟨gY, 1, none⟩ (.int .i64 r1)).setCell ⟨gY, 2, none⟩ (.int .i64 r2)).setCell ⟨gY, 3, none⟩ (.int .i64 r3)).setCell ⟨gY, 4, none⟩ (.int .i64 r4)).setCell ⟨gY, 5, none⟩ (.int .i64 r5)) = wfin at hX hY hbel ⊢
          refine hK.out _ _ ?_ (fun hHeld10 => ?_)
          focus ((try dsimp only); (have q := (HV.out.lo hbel).facts.1; have r := (HP.out.lo hbel).facts.1; exact ⟨q 0, q 1, q 2, q 3, q 4, q 5, (HV.out.lo hbel).lt, r 0, r 1, (HP.out.lo hbel).lt⟩))
          clear hK K hHeld
          have hHeld := hHeld10
          clear hHeld10
          (try simp only [Act.put, List.setIfInBounds_toArray, List.set_cons_zero, List.set_cons_succ])
          first
          | (refine wpAnyH_take (i := 11) (oi := _) (v := ?_) (getop rfl) (by kernel_rfl) (by kernel_rfl) (by kernel_rfl) (fun _ _ _ h => h) (Or.inl ⟨by rfl, ?_⟩) (by assumption) ?_; rotate_left; focus (intro w hSw; (try dsimp only at hSw); go_simp; (try with_reducible rfl); done))
          (try simp only [Act.put, List.setIfInBounds_toArray, List.set_cons_zero, List.set_cons_succ])
          refine wpAnyH_done (by kernel_rfl) ?_ _
          obtain ⟨cX, fX⟩ := hX.facts
          obtain ⟨cY, fY⟩ := hY.facts
          go_wp2_with fail
          refine (HA.out _).mono ?_
          rintro e wv ⟨rfl, hb⟩
          have hM := Lib.hid (lo_trans hL (lo_trans hbel hb))
          clear hb cX fX cY fY hX hY hbel hHeld
          go_wp2_with fail
          go_ret
          exact ⟨rfl, hM.out⟩
        · go_simp
          have hnY := own_ne hw (g := wz1.heap.size) (Or.inr (Nat.le_refl _))
          have hY := Blk.new wz1 26 #[.int .i64 0, .int .i64 0, .int .i64 0, .int .i64 0, .int .i64 0, .int .i64 0]
          have qY : gX < wz1.heap.size := hX.lt
          have zY : w0.heap.size ≤ wz1.heap.size := hbel.size
          replace hX := hX.alloc (.cells #[.int .i64 0, .int .i64 0, .int .i64 0, .int .i64 0, .int .i64 0, .int .i64 0] 26)
          replace hw := hw.alloc (.cells #[.int .i64 0, .int .i64 0, .int .i64 0, .int .i64 0, .int .i64 0, .int .i64 0] 26)
          replace hbel := lo_alloc hbel (.cells #[.int .i64 0, .int .i64 0, .int .i64 0, .int .i64 0, .int .i64 0, .int .i64 0] 26)
          generalize wz1.heap.size = gY at hY hnY qY zY ⊢
          generalize wz1.alloc (.cells #[.int .i64 0, .int .i64 0, .int .i64 0, .int .i64 0, .int .i64 0, .int .i64 0] 26) = wz2 at hX hY hw hbel ⊢
          refine hK.out _ _ ?_ (fun hHeld9 => ?_)
          focus ((try dsimp only); (have q := (HV.out.lo hbel).facts.1; have r := (HP.out.lo hbel).facts.1; exact ⟨q 0, q 1, q 2, q 3, q 4, q 5, (HV.out.lo hbel).lt, r 0, r 1, (HP.out.lo hbel).lt⟩))
          clear hK K hHeld
          have hHeld := hHeld9
          clear hHeld9
          (try simp only [Act.put, List.setIfInBounds_toArray, List.set_cons_zero, List.set_cons_succ])
          refine wpAnyH_ready (rs := [5]) (by kernel_rfl) (by simp) ?_
          refine (AllReadyH.cons (o := _) (getop rfl) (fun K hK => ?_) AllReadyH.nil)
          go_simp
          have hw2 : wz2.ownsRow w0.heap.size 47 2 (.slice (some ⟨g4, 0, none⟩) (2 * k + 1) cg4) (moreP (pi, pn) l ++ [(pi, pn)]).length ((moreP (pi, pn) l ++ [(pi, pn)]).flatMap cellsP) := by rw [hml, List.flatMap_append]; exact hw
          obtain ⟨A, cap, hu, hpr⟩ := own_prs hw2 HW2.out
          rw [hml] at hu hpr
          injection hu with hu1 hu2 hu3
          subst hu1 hu3
          refine (H2.out _ _ _ _ hpr).mono ?_
          rintro e wz3 ⟨rfl, hb⟩
          replace hX := hX.lo hb
          replace hY := hY.lo hb
          replace hbel := lo_trans hbel hb
          clear hb hw hw2 hpr
          refine hK.out _ _ ?_ (fun hHeld5 => ?_)
          focus ((try dsimp only); (have q := (HV.out.lo hbel).facts.1; have r := (HP.out.lo hbel).facts.1; exact ⟨q 0, q 1, q 2, q 3, q 4, q 5, (HV.out.lo hbel).lt, r 0, r 1, (HP.out.lo hbel).lt⟩))
          clear hK K hHeld
          have hHeld := hHeld5
          clear hHeld5
          (try simp only [Act.put, List.setIfInBounds_toArray, List.set_cons_zero, List.set_cons_succ])
          first
          | (refine wpAnyH_take (i := 6) (oi := _) (v := ?_) (getop rfl) (by kernel_rfl) (by kernel_rfl) (by kernel_rfl) (fun _ _ _ h => h) (Or.inl ⟨by rfl, ?_⟩) (by assumption) ?_; rotate_left; focus (intro w hSw; (try dsimp only at hSw); go_simp; (try with_reducible rfl); done))
          (try simp only [Act.put, List.setIfInBounds_toArray, List.set_cons_zero, List.set_cons_succ])
          first
          | (refine wpAnyH_take (i := 7) (oi := _) (v := ?_) (getop rfl) (by kernel_rfl) (by kernel_rfl) (by kernel_rfl) (fun _ _ _ h => h) (Or.inl ⟨by rfl, ?_⟩) (by assumption) ?_; rotate_left; focus (intro w hSw; (try dsimp only at hSw); go_simp; (try with_reducible rfl); done))
          (try simp only [Act.put, List.setIfInBounds_toArray, List.set_cons_zero, List.set_cons_succ])
          first
          | (refine wpAnyH_take (i := 8) (oi := _) (v := ?_) (getop rfl) (by kernel_rfl) (by kernel_rfl) (by kernel_rfl) (fun _ _ _ h => h) (Or.inl ⟨by rfl, ?_⟩) (by assumption) ?_; rotate_left; focus (intro w hSw; (try dsimp only at hSw); go_simp; (try with_reducible rfl); done))
          (try simp only [Act.put, List.setIfInBounds_toArray, List.set_cons_zero, List.set_cons_succ])
          refine wpAnyH_ready (rs := [10]) (by kernel_rfl) (by simp) ?_
          refine (AllReadyH.cons (o := _) (getop rfl) (fun K hK => ?_) AllReadyH.nil)
          obtain ⟨cY, fY⟩ := hY.facts
          have lY := hY.lt
          go_simp
          clear cY fY lY
          replace hX := hX.far (p := ⟨gY, 0, none⟩) (by dsimp only; omega) (.int .i64 r0)
          replace hY := hY.set_ 0 (.int .i64 r0)
          replace hbel := lo_set hbel (p := ⟨gY, 0, none⟩) (by dsimp only; omega) (.int .i64 r0)
          replace hX := hX.far (p := ⟨gY, 1, none⟩) (by dsimp only; omega) (.int .i64 r1)
          replace hY := hY.set_ 1 (.int .i64 r1)
          replace hbel := lo_set hbel (p := ⟨gY, 1, none⟩) (by dsimp only; omega) (.int .i64 r1)
          replace hX := hX.far (p := ⟨gY, 2, none⟩) (by dsimp only; omega) (.int .i64 r2)
          replace hY := hY.set_ 2 (.int .i64 r2)
          replace hbel := lo_set hbel (p := ⟨gY, 2, none⟩) (by dsimp only; omega) (.int .i64 r2)
          replace hX := hX.far (p := ⟨gY, 3, none⟩) (by dsimp only; omega) (.int .i64 r3)
          replace hY := hY.set_ 3 (.int .i64 r3)
          replace hbel := lo_set hbel (p := ⟨gY, 3, none⟩) (by dsimp only; omega) (.int .i64 r3)
          replace hX := hX.far (p := ⟨gY, 4, none⟩) (by dsimp only; omega) (.int .i64 r4)
          replace hY := hY.set_ 4 (.int .i64 r4)
          replace hbel := lo_set hbel (p := ⟨gY, 4, none⟩) (by dsimp only; omega) (.int .i64 r4)
          replace hX := hX.far (p := ⟨gY, 5, none⟩) (by dsimp only; omega) (.int .i64 r5)
          replace hY := hY.set_ 5 (.int .i64 r5)
          replace hbel := lo_set hbel (p := ⟨gY, 5, none⟩) (by dsimp only; omega) (.int .i64 r5)
          replace hY : Blk ((((((wz3.setCell ⟨gY, 0, none⟩ (.int .i64 r0)).setCell ⟨gY, 1, none⟩ (.int .i64 r1)).setCell ⟨gY, 2, none⟩ (.int .i64 r2)).setCell ⟨gY, 3, none⟩ (.int .i64 r3)).setCell ⟨gY, 4, none⟩ (.int .i64 r4)).setCell ⟨gY, 5, none⟩ (.int .i64 r5)) gY 26 #[.int .i64 r0, .int .i64 r1, .int .i64 r2, .int .i64 r3, .int .i64 r4, .int .i64 r5] := by simpa using hY
          generalize ((((((wz3.setCell ⟨gY, 0, none⟩ (.int .i64 r0)).setCell ⟨gY, 1, none⟩ (.int .i64 r1)).setCell ⟨gY, 2, none⟩ (.int .i64 r2)).setCell ⟨gY, 3, none⟩ (.int .i64 r3)).setCell ⟨gY, 4, none⟩ (.int .i64 r4)).setCell ⟨gY, 5, none⟩ (.int .i64 r5)) = wfin at hX hY hbel ⊢
          refine hK.out _ _ ?_ (fun hHeld10 => ?_)
          focus ((try dsimp only); (have q := (HV.out.lo hbel).facts.1; have r := (HP.out.lo hbel).facts.1; exact ⟨q 0, q 1, q 2, q 3, q 4, q 5, (HV.out.lo hbel).lt, r 0, r 1, (HP.out.lo hbel).lt⟩))
          clear hK K hHeld
          have hHeld := hHeld10
          clear hHeld10
          (try simp only [Act.put, List.setIfInBounds_toArray, List.set_cons_zero, List.set_cons_succ])
          first
          | (refine wpAnyH_take (i := 11) (oi := _) (v := ?_) (getop rfl) (by kernel_rfl) (by kernel_rfl) (by kernel_rfl) (fun _ _ _ h => h) (Or.inl ⟨by rfl, ?_⟩) (by assumption) ?_; rotate_left; focus (intro w hSw; (try dsimp only at hSw); go_simp; (try with_reducible rfl); done))
          (try simp only [Act.put, List.setIfInBounds_toArray, List.set_cons_zero, List.set_cons_succ])
          refine wpAnyH_done (by kernel_rfl) ?_ _
          obtain ⟨cX, fX⟩ := hX.facts
          obtain ⟨cY, fY⟩ := hY.facts
          go_wp2_with fail
          refine (HA.out _).mono ?_
          rintro e wv ⟨rfl, hb⟩
          have hM := Lib.hid (lo_trans hL (lo_trans hbel hb))
          clear hb cX fX cY fY hX hY hbel hHeld
          go_wp2_with fail
          go_ret
          exact ⟨rfl, hM.out⟩
      · go_simp
        have hnY := own_ne hw (g := wz0.heap.size) (Or.inr (Nat.le_refl _))
        have hY := Blk.new wz0 26 #[.int .i64 0, .int .i64 0, .int .i64 0, .int .i64 0, .int .i64 0, .int .i64 0]
        have qY : gX < wz0.heap.size := hX.lt
        have zY : w0.heap.size ≤ wz0.heap.size := hbel.size
        replace hX := hX.alloc (.cells #[.int .i64 0, .int .i64 0, .int .i64 0, .int .i64 0, .int .i64 0, .int .i64 0] 26)
        replace hA := hA.alloc (.cells #[.int .i64 0, .int .i64 0, .int .i64 0, .int .i64 0, .int .i64 0, .int .i64 0] 26)
        replace hw := hw.alloc (.cells #[.int .i64 0, .int .i64 0, .int .i64 0, .int .i64 0, .int .i64 0, .int .i64 0] 26)
        replace hbel := lo_alloc hbel (.cells #[.int .i64 0, .int .i64 0, .int .i64 0, .int .i64 0, .int .i64 0, .int .i64 0] 26)
        generalize wz0.heap.size = gY at hY hnY qY zY ⊢
        generalize wz0.alloc (.cells #[.int .i64 0, .int .i64 0, .int .i64 0, .int .i64 0, .int .i64 0, .int .i64 0] 26) = wz1 at hX hA hY hw hbel ⊢
        refine hK.out _ _ ?_ (fun hHeld9 => ?_)
        focus ((try dsimp only); (have q := (HV.out.lo hbel).facts.1; have r := (HP.out.lo hbel).facts.1; exact ⟨q 0, q 1, q 2, q 3, q 4, q 5, (HV.out.lo hbel).lt, r 0, r 1, (HP.out.lo hbel).lt⟩))
        clear hK K hHeld
        have hHeld := hHeld9
        clear hHeld9
        (try simp only [Act.put, List.setIfInBounds_toArray, List.set_cons_zero, List.set_cons_succ])
        refine wpAnyH_ready (rs := [4]) (by kernel_rfl) (by simp) ?_
        refine (AllReadyH.cons (o := _) (getop rfl) (fun K hK => ?_) AllReadyH.nil)
        refine step_append_lies wz1 rfl (.tmp 51) (.tmp 53) 24 rfl w0.heap.size 47 i0 _ 2 8 Try.underlying24 hi hz0 hz1 hz2 rfl (by decide) _ _ _ rfl hw ⟨gA, 0, none⟩ 1 1 #[.int .u16 pi, .int .u32 pn].toList rfl rfl (hA.at rfl) (by intro u hu; simp at hu; rcases hu with rfl | rfl <;> rfl) (by decide) (by unfold maxLen; omega) (by omega) hbel.size _ rfl ?_
        intro g4 cg4 wz2 hwn hgr hat hltg4
        have hbeln := hbel.grown hgr hbel.size (fun k hk => (hw.lt k hk).1)
        have hnXn := ne_next (n := 2 * k + 1) (cap := cg4) hnX hX.lt hat
        have hXn := hX.grown hgr hnX
        have hnYn := ne_next (n := 2 * k + 1) (cap := cg4) hnY hY.lt hat
        have hYn := hY.grown hgr hnY
        clear hw hgr hat hbel hX hnX hY hnY hA hnA
        have hw := hwn
        have hbel := hbeln
        have hX := hXn
        have hnX := hnXn
        have hY := hYn
        have hnY := hnYn
        clear hwn hbeln hXn hnXn hYn hnYn
        refine hK.out _ _ ?_ (fun hHeld4 => ?_)
        focus ((try dsimp only); (have q := (HV.out.lo hbel).facts.1; have r := (HP.out.lo hbel).facts.1; exact ⟨q 0, q 1, q 2, q 3, q 4, q 5, (HV.out.lo hbel).lt, r 0, r 1, (HP.out.lo hbel).lt⟩))
        clear hK K hHeld
        have hHeld := hHeld4
        clear hHeld4
        (try simp only [Act.put, List.setIfInBounds_toArray, List.set_cons_zero, List.set_cons_succ])
        refine wpAnyH_ready (rs := [5]) (by kernel_rfl) (by simp) ?_
        refine (AllReadyH.cons (o := _) (getop rfl) (fun K hK => ?_) AllReadyH.nil)
        go_simp
        have hw2 : wz2.ownsRow w0.heap.size 47 2 (.slice (some ⟨g4, 0, none⟩) (2 * k + 1) cg4) (moreP (pi, pn) l ++ [(pi, pn)]).length ((moreP (pi, pn) l ++ [(pi, pn)]).flatMap cellsP) := by rw [hml, List.flatMap_append]; exact hw
        obtain ⟨A, cap, hu, hpr⟩ := own_prs hw2 HW2.out
        rw [hml] at hu hpr
        injection hu with hu1 hu2 hu3
        subst hu1 hu3
        refine (H2.out _ _ _ _ hpr).mono ?_
        rintro e wz3 ⟨rfl, hb⟩
        replace hX := hX.lo hb
        replace hY := hY.lo hb
        replace hbel := lo_trans hbel hb
        clear hb hw hw2 hpr
        refine hK.out _ _ ?_ (fun hHeld5 => ?_)
        focus ((try dsimp only); (have q := (HV.out.lo hbel).facts.1; have r := (HP.out.lo hbel).facts.1; exact ⟨q 0, q 1, q 2, q 3, q 4, q 5, (HV.out.lo hbel).lt, r 0, r 1, (HP.out.lo hbel).lt⟩))
        clear hK K hHeld
        have hHeld := hHeld5
        clear hHeld5
        (try simp only [Act.put, List.setIfInBounds_toArray, List.set_cons_zero, List.set_cons_succ])
        first
        | (refine wpAnyH_take (i := 6) (oi := _) (v := ?_) (getop rfl) (by kernel_rfl) (by kernel_rfl) (by kernel_rfl) (fun _ _ _ h => h) (Or.inl ⟨by rfl, ?_⟩) (by assumption) ?_; rotate_left; focus (intro w hSw; (try dsimp only at hSw); go_simp; (try with_reducible rfl); done))
        (try simp only [Act.put, List.setIfInBounds_toArray, List.set_cons_zero, List.set_cons_succ])
        first
        | (refine wpAnyH_take (i := 7) (oi := _) (v := ?_) (getop rfl) (by kernel_rfl) (by kernel_rfl) (by kernel_rfl) (fun _ _ _ h => h) (Or.inl ⟨by rfl, ?_⟩) (by assumption) ?_; rotate_left; focus (intro w hSw; (try dsimp only at hSw); go_simp; (try with_reducible rfl); done))
        (try simp only [Act.put, List.setIfInBounds_toArray, List.set_cons_zero, List.set_cons_succ])
        first
        | (refine wpAnyH_take (i := 8) (oi := _) (v := ?_) (getop rfl) (by kernel_rfl) (by kernel_rfl) (by kernel_rfl) (fun _ _ _ h => h) (Or.inl ⟨by rfl, ?_⟩) (by assumption) ?_; rotate_left; focus (intro w hSw; (try dsimp only at hSw); go_simp; (try with_reducible rfl); done))
        (try simp only [Act.put, List.setIfInBounds_toArray, List.set_cons_zero, List.set_cons_succ])
        refine wpAnyH_ready (rs := [10]) (by kernel_rfl) (by simp) ?_
        refine (AllReadyH.cons (o := _) (getop rfl) (fun K hK => ?_) AllReadyH.nil)
        obtain ⟨cY, fY⟩ := hY.facts
        have lY := hY.lt
        go_simp
        clear cY fY lY
        replace hX := hX.far (p := ⟨gY, 0, none⟩) (by dsimp only; omega) (.int .i64 r0)
        replace hY := hY.set_ 0 (.int .i64 r0)
        replace hbel := lo_set hbel (p := ⟨gY, 0, none⟩) (by dsimp only; omega) (.int .i64 r0)
        replace hX := hX.far (p := ⟨gY, 1, none⟩) (by dsimp only; omega) (.int .i64 r1)
        replace hY := hY.set_ 1 (.int .i64 r1)
        replace hbel := lo_set hbel (p := ⟨gY, 1, none⟩) (by dsimp only; omega) (.int .i64 r1)
        replace hX := hX.far (p := ⟨gY, 2, none⟩) (by dsimp only; omega) (.int .i64 r2)
        replace hY := hY.set_ 2 (.int .i64 r2)
        replace hbel := lo_set hbel (p := ⟨gY, 2, none⟩) (by dsimp only; omega) (.int .i64 r2)
        replace hX := hX.far (p := ⟨gY, 3, none⟩) (by dsimp only; omega) (.int .i64 r3)
        replace hY := hY.set_ 3 (.int .i64 r3)
        replace hbel := lo_set hbel (p := ⟨gY, 3, none⟩) (by dsimp only; omega) (.int .i64 r3)
        replace hX := hX.far (p := ⟨gY, 4, none⟩) (by dsimp only; omega) (.int .i64 r4)
        replace hY := hY.set_ 4 (.int .i64 r4)
        replace hbel := lo_set hbel (p := ⟨gY, 4, none⟩) (by dsimp only; omega) (.int .i64 r4)
        replace hX := hX.far (p := ⟨gY, 5, none⟩) (by dsimp only; omega) (.int .i64 r5)
        replace hY := hY.set_ 5 (.int .i64 r5)
        replace hbel := lo_set hbel (p := ⟨gY, 5, none⟩) (by dsimp only; omega) (.int .i64 r5)
        replace hY : Blk ((((((wz3.setCell ⟨gY, 0, none⟩ (.int .i64 r0)).setCell ⟨gY, 1, none⟩ (.int .i64 r1)).setCell ⟨gY, 2, none⟩ (.int .i64 r2)).setCell ⟨gY, 3, none⟩ (.int .i64 r3)).setCell ⟨gY, 4, none⟩ (.int .i64 r4)).setCell ⟨gY, 5, none⟩ (.int .i64 r5)) gY 26 #[.int .i64 r0, .int .i64 r1, .int .i64 r2, .int .i64 r3, .int .i64 r4, .int .i64 r5] := by simpa using hY
        generalize ((((((wz3.setCell ⟨gY, 0, none⟩ (.int .i64 r0)).setCell ⟨gY, 1, none⟩ (.int .i64 r1)).setCell ⟨gY, 2, none⟩ (.int .i64 r2)).setCell ⟨gY, 3, none⟩ (.int .i64 r3)).setCell ⟨gY, 4, none⟩ (.int .i64 r4)).setCell ⟨gY, 5, none⟩ (.int .i64 r5)) = wfin at hX hY hbel ⊢
        refine hK.out _ _ ?_ (fun hHeld10 => ?_)
        focus ((try dsimp only); (have q := (HV.out.lo hbel).facts.1; have r := (HP.out.lo hbel).facts.1; exact ⟨q 0, q 1, q 2, q 3, q 4, q 5, (HV.out.lo hbel).lt, r 0, r 1, (HP.out.lo hbel).lt⟩))
        clear hK K hHeld
        have hHeld := hHeld10
        clear hHeld10
        (try simp only [Act.put, List.setIfInBounds_toArray, List.set_cons_zero, List.set_cons_succ])
        first
        | (refine wpAnyH_take (i := 11) (oi := _) (v := ?_) (getop rfl) (by kernel_rfl) (by kernel_rfl) (by kernel_rfl) (fun _ _ _ h => h) (Or.inl ⟨by rfl, ?_⟩) (by assumption) ?_; rotate_left; focus (intro w hSw; (try dsimp only at hSw); go_simp; (try with_reducible rfl); done))
        (try simp only [Act.put, List.setIfInBounds_toArray, List.set_cons_zero, List.set_cons_succ])
        refine wpAnyH_done (by kernel_rfl) ?_ _
        obtain ⟨cX, fX⟩ := hX.facts
        obtain ⟨cY, fY⟩ := hY.facts
        go_wp2_with fail
        refine (HA.out _).mono ?_
        rintro e wv ⟨rfl, hb⟩
        have hM := Lib.hid (lo_trans hL (lo_trans hbel hb))
        clear hb cX fX cY fY hX hY hbel hHeld
        go_wp2_with fail
        go_ret
        exact ⟨rfl, hM.out⟩
    · go_simp
      have hnY := own_ne hw (g := w4.heap.size) (Or.inr (Nat.le_refl _))
      have hY := Blk.new w4 26 #[.int .i64 0, .int .i64 0, .int .i64 0, .int .i64 0, .int .i64 0, .int .i64 0]
      have qY : gX < w4.heap.size := hX.lt
      have zY : w0.heap.size ≤ w4.heap.size := hbel.size
      replace hX := hX.alloc (.cells #[.int .i64 0, .int .i64 0, .int .i64 0, .int .i64 0, .int .i64 0, .int .i64 0] 26)
      replace hw := hw.alloc (.cells #[.int .i64 0, .int .i64 0, .int .i64 0, .int .i64 0, .int .i64 0, .int .i64 0] 26)
      replace hbel := lo_alloc hbel (.cells #[.int .i64 0, .int .i64 0, .int .i64 0, .int .i64 0, .int .i64 0, .int .i64 0] 26)
      generalize w4.heap.size = gY at hY hnY qY zY ⊢
      generalize w4.alloc (.cells #[.int .i64 0, .int .i64 0, .int .i64 0, .int .i64 0, .int .i64 0, .int .i64 0] 26) = wz0 at hX hY hw hbel ⊢
      refine hK.out _ _ ?_ (fun hHeld9 => ?_)
      focus ((try dsimp only); (have q := (HV.out.lo hbel).facts.1; have r := (HP.out.lo hbel).facts.1; exact ⟨q 0, q 1, q 2, q 3, q 4, q 5, (HV.out.lo hbel).lt, r 0, r 1, (HP.out.lo hbel).lt⟩))
      clear hK K hHeld
      have hHeld := hHeld9
      clear hHeld9
      (try simp only [Act.put, List.setIfInBounds_toArray, List.set_cons_zero, List.set_cons_succ])
      refine wpAnyH_ready (rs := [3]) (by kernel_rfl) (by simp) ?_
      refine (AllReadyH.cons (o := _) (getop rfl) (fun K hK => ?_) AllReadyH.nil)
      go_simp
      have hnA := own_ne hw (g := wz0.heap.size) (Or.inr (Nat.le_refl _))
      have hA := Blk.new wz0 47 #[.int .u16 pi, .int .u32 pn]
      replace hX := hX.alloc (.cells #[.int .u16 pi, .int .u32 pn] 47)
      replace hY := hY.alloc (.cells #[.int .u16 pi, .int .u32 pn] 47)
      replace hw := hw.alloc (.cells #[.int .u16 pi, .int .u32 pn] 47)
      replace hbel := lo_alloc hbel (.cells #[.int .u16 pi, .int .u32 pn] 47)
      generalize wz0.heap.size = gA at hA hnA ⊢
      generalize wz0.alloc (.cells #[.int .u16 pi, .int .u32 pn] 47) = wz1 at hX hY hA hw hbel ⊢
      refine hK.out _ _ ?_ (fun hHeld3 => ?_)
      focus ((try dsimp only); (have q := (HV.out.lo hbel).facts.1; have r := (HP.out.lo hbel).facts.1; exact ⟨q 0, q 1, q 2, q 3, q 4, q 5, (HV.out.lo hbel).lt, r 0, r 1, (HP.out.lo hbel).lt⟩))
      clear hK K hHeld
      have hHeld := hHeld3
      clear hHeld3
      (try simp only [Act.put, List.setIfInBounds_toArray, List.set_cons_zero, List.set_cons_succ])
      refine wpAnyH_ready (rs := [4]) (by kernel_rfl) (by simp) ?_
      refine (AllReadyH.cons (o := _) (getop rfl) (fun K hK => ?_) AllReadyH.nil)
      refine step_append_lies wz1 rfl (.tmp 51) (.tmp 53) 24 rfl w0.heap.size 47 i0 _ 2 8 Try.underlying24 hi hz0 hz1 hz2 rfl (by decide) _ _ _ rfl hw ⟨gA, 0, none⟩ 1 1 #[.int .u16 pi, .int .u32 pn].toList rfl rfl (hA.at rfl) (by intro u hu; simp at hu; rcases hu with rfl | rfl <;> rfl) (by decide) (by unfold maxLen; omega) (by omega) hbel.size _ rfl ?_
      intro g4 cg4 wz2 hwn hgr hat hltg4
      have hbeln := hbel.grown hgr hbel.size (fun k hk => (hw.lt k hk).1)
      have hnXn := ne_next (n := 2 * k + 1) (cap := cg4) hnX hX.lt hat
      have hXn := hX.grown hgr hnX
      have hnYn := ne_next (n := 2 * k + 1) (cap := cg4) hnY hY.lt hat
      have hYn := hY.grown hgr hnY
      clear hw hgr hat hbel hX hnX hY hnY hA hnA
      have hw := hwn
      have hbel := hbeln
      have hX := hXn
      have hnX := hnXn
      have hY := hYn
      have hnY := hnYn
      clear hwn hbeln hXn hnXn hYn hnYn
      refine hK.out _ _ ?_ (fun hHeld4 => ?_)
      focus ((try dsimp only); (have q := (HV.out.lo hbel).facts.1; have r := (HP.out.lo hbel).facts.1; exact ⟨q 0, q 1, q 2, q 3, q 4, q 5, (HV.out.lo hbel).lt, r 0, r 1, (HP.out.lo hbel).lt⟩))
      clear hK K hHeld
      have hHeld := hHeld4
      clear hHeld4
      (try simp only [Act.put, List.setIfInBounds_toArray, List.set_cons_zero, List.set_cons_succ])
      refine wpAnyH_ready (rs := [5]) (by kernel_rfl) (by simp) ?_
      refine (AllReadyH.cons (o := _) (getop rfl) (fun K hK => ?_) AllReadyH.nil)
      go_simp
      have hw2 : wz2.ownsRow w0.heap.size 47 2 (.slice (some ⟨g4, 0, none⟩) (2 * k + 1) cg4) (moreP (pi, pn) l ++ [(pi, pn)]).length ((moreP (pi, pn) l ++ [(pi, pn)]).flatMap cellsP) := by rw [hml, List.flatMap_append]; exact hw
      obtain ⟨A, cap, hu, hpr⟩ := own_prs hw2 HW2.out
      rw [hml] at hu hpr
      injection hu with hu1 hu2 hu3
      subst hu1 hu3
      refine (H2.out _ _ _ _ hpr).mono ?_
      rintro e wz3 ⟨rfl, hb⟩
      replace hX := hX.lo hb
      replace hY := hY.lo hb
      replace hbel := lo_trans hbel hb
      clear hb hw hw2 hpr
      refine hK.out _ _ ?_ (fun hHeld5 => ?_)
      focus ((try dsimp only); (have q := (HV.out.lo hbel).facts.1; have r := (HP.out.lo hbel).facts.1; exact ⟨q 0, q 1, q 2, q 3, q 4, q 5, (HV.out.lo hbel).lt, r 0, r 1, (HP.out.lo hbel).lt⟩))
      clear hK K hHeld
      have hHeld := hHeld5
      clear hHeld5
      (try simp only [Act.put, List.setIfInBounds_toArray, List.set_cons_zero, List.set_cons_succ])
      first
      | (refine wpAnyH_take (i := 6) (oi := _) (v := ?_) (getop rfl) (by kernel_rfl) (by kernel_rfl) (by kernel_rfl) (fun _ _ _ h => h) (Or.inl ⟨by rfl, ?_⟩) (by assumption) ?_; rotate_left; focus (intro w hSw; (try dsimp only at hSw); go_simp; (try with_reducible rfl); done))
      (try simp only [Act.put, List.setIfInBounds_toArray, List.set_cons_zero, List.set_cons_succ])
      first
      | (refine wpAnyH_take (i := 7) (oi := _) (v := ?_) (getop rfl) (by kernel_rfl) (by kernel_rfl) (by kernel_rfl) (fun _ _ _ h => h) (Or.inl ⟨by rfl, ?_⟩) (by assumption) ?_; rotate_left; focus (intro w hSw; (try dsimp only at hSw); go_simp; (try with_reducible rfl); done))
      (try simp only [Act.put, List.setIfInBounds_toArray, List.set_cons_zero, List.set_cons_succ])
      first
      | (refine wpAnyH_take (i := 8) (oi := _) (v := ?_) (getop rfl) (by kernel_rfl) (by kernel_rfl) (by kernel_rfl) (fun _ _ _ h => h) (Or.inl ⟨by rfl, ?_⟩) (by assumption) ?_; rotate_left; focus (intro w hSw; (try dsimp only at hSw); go_simp; (try with_reducible rfl); done))
      (try simp only [Act.put, List.setIfInBounds_toArray, List.set_cons_zero, List.set_cons_succ])
      refine wpAnyH_ready (rs := [10]) (by kernel_rfl) (by simp) ?_
      refine (AllReadyH.cons (o := _) (getop rfl) (fun K hK => ?_) AllReadyH.nil)
      obtain ⟨cY, fY⟩ := hY.facts
      have lY := hY.lt
      go_simp
      clear cY fY lY
      replace hX := hX.far (p := ⟨gY, 0, none⟩) (by dsimp only; omega) (.int .i64 r0)
      replace hY := hY.set_ 0 (.int .i64 r0)
      replace hbel := lo_set hbel (p := ⟨gY, 0, none⟩) (by dsimp only; omega) (.int .i64 r0)
      replace hX := hX.far (p := ⟨gY, 1, none⟩) (by dsimp only; omega) (.int .i64 r1)
      replace hY := hY.set_ 1 (.int .i64 r1)
      replace hbel := lo_set hbel (p := ⟨gY, 1, none⟩) (by dsimp only; omega) (.int .i64 r1)
      replace hX := hX.far (p := ⟨gY, 2, none⟩) (by dsimp only; omega) (.int .i64 r2)
      replace hY := hY.set_ 2 (.int .i64 r2)
      replace hbel := lo_set hbel (p := ⟨gY, 2, none⟩) (by dsimp only; omega) (.int .i64 r2)
      replace hX := hX.far (p := ⟨gY, 3, none⟩) (by dsimp only; omega) (.int .i64 r3)
      replace hY := hY.set_ 3 (.int .i64 r3)
      replace hbel := lo_set hbel (p := ⟨gY, 3, none⟩) (by dsimp only; omega) (.int .i64 r3)
      replace hX := hX.far (p := ⟨gY, 4, none⟩) (by dsimp only; omega) (.int .i64 r4)
      replace hY := hY.set_ 4 (.int .i64 r4)
      replace hbel := lo_set hbel (p := ⟨gY, 4, none⟩) (by dsimp only; omega) (.int .i64 r4)
      replace hX := hX.far (p := ⟨gY, 5, none⟩) (by dsimp only; omega) (.int .i64 r5)
      replace hY := hY.set_ 5 (.int .i64 r5)
      replace hbel := lo_set hbel (p := ⟨gY, 5, none⟩) (by dsimp only; omega) (.int .i64 r5)
      replace hY : Blk ((((((wz3.setCell ⟨gY, 0, none⟩ (.int .i64 r0)).setCell ⟨gY, 1, none⟩ (.int .i64 r1)).setCell ⟨gY, 2, none⟩ (.int .i64 r2)).setCell ⟨gY, 3, none⟩ (.int .i64 r3)).setCell ⟨gY, 4, none⟩ (.int .i64 r4)).setCell ⟨gY, 5, none⟩ (.int .i64 r5)) gY 26 #[.int .i64 r0, .int .i64 r1, .int .i64 r2, .int .i64 r3, .int .i64 r4, .int .i64 r5] := by simpa using hY
      generalize ((((((wz3.setCell ⟨gY, 0, none⟩ (.int .i64 r0)).setCell ⟨gY, 1, none⟩ (.int .i64 r1)).setCell ⟨gY, 2, none⟩ (.int .i64 r2)).setCell ⟨gY, 3, none⟩ (.int .i64 r3)).setCell ⟨gY, 4, none⟩ (.int .i64 r4)).setCell ⟨gY, 5, none⟩ (.int .i64 r5)) = wfin at hX hY hbel ⊢
      refine hK.out _ _ ?_ (fun hHeld10 => ?_)
      focus ((try dsimp only); (have q := (HV.out.lo hbel).facts.1; have r := (HP.out.lo hbel).facts.1; exact ⟨q 0, q 1, q 2, q 3, q 4, q 5, (HV.out.lo hbel).lt, r 0, r 1, (HP.out.lo hbel).lt⟩))
      clear hK K hHeld
      have hHeld := hHeld10
      clear hHeld10
      (try simp only [Act.put, List.setIfInBounds_toArray, List.set_cons_zero, List.set_cons_succ])
      first
      | (refine wpAnyH_take (i := 11) (oi := _) (v := ?_) (getop rfl) (by kernel_rfl) (by kernel_rfl) (by kernel_rfl) (fun _ _ _ h => h) (Or.inl ⟨by rfl, ?_⟩) (by assumption) ?_; rotate_left; focus (intro w hSw; (try dsimp only at hSw); go_simp; (try with_reducible rfl); done))
      (try simp only [Act.put, List.setIfInBounds_toArray, List.set_cons_zero, List.set_cons_succ])
      refine wpAnyH_done (by kernel_rfl) ?_ _
      obtain ⟨cX, fX⟩ := hX.facts
      obtain ⟨cY, fY⟩ := hY.facts
      go_wp2_with fail
      refine (HA.out _).mono ?_
      rintro e wv ⟨rfl, hb⟩
      have hM := Lib.hid (lo_trans hL (lo_trans hbel hb))
      clear hb cX fX cY fY hX hY hbel hHeld
      go_wp2_with fail
      go_ret
      exact ⟨rfl, hM.out⟩
set_option maxRecDepth 100000 in
set_option maxHeartbeats 3200000 in
theorem walk_SetsUnknown (v0 : Int) (v1 : Int) (v2 : Int) (v3 : Int) (v4 : Int) (v5 : Int) (a1 : Option Addr) (len1 cap1 : Nat) (l : List (Int × Int)) (pi pn : Int) (w : World) (_w00 : (Lit.int .i64 v0).wf = true) (_w01 : (Lit.int .i64 v1).wf = true) (_w02 : (Lit.int .i64 v2).wf = true) (_w03 : (Lit.int .i64 v3).wf = true) (_w04 : (Lit.int .i64 v4).wf = true) (_w05 : (Lit.int .i64 v5).wf = true) (w1 : AggRow 2 (fun x : Int × Int => [Value.int .u16 x.1, Value.int .u32 x.2]) (fun x : Int × Int => (Lit.int .u16 x.1).wf = true ∧ (Lit.int .u32 x.2).wf = true) w a1 len1 cap1 l) (w20 : (Lit.int .u16 pi).wf = true) (w21 : (Lit.int .u32 pn).wf = true) :
    Calls Try.prog 6 #[.agg #[.int .i64 v0, .int .i64 v1, .int .i64 v2, .int .i64 v3, .int .i64 v4, .int .i64 v5], .slice a1 len1 cap1, .agg #[.int .u16 pi, .int .u32 pn]] w fun e w' => e = .returned (.bool true) ∧ Below w.heap.size w w' := by
  by_cases hbig : len1 > 40
  · have HA : Hid (∀ w0, Calls Try.prog 7 #[] w0 (AwakePost w0)) := awake_any
    have hll := w1.1
    clear w1
    go_enter Try.func6, Try.ntmps6
    go_wp2_with fail
    refine (HA.out _).mono ?_
    rintro e w2 ⟨rfl, hb2⟩
    have hM := Lib.hid (lo_trans (lo_alloc (lo_alloc (lo_refl w) (.cells #[.int .i64 v0, .int .i64 v1, .int .i64 v2, .int .i64 v3, .int .i64 v4, .int .i64 v5] 23)) (.cells #[.int .u16 pi, .int .u32 pn] 47)) hb2)
    clear hb2
    go_wp2_with fail
    go_ret
    exact ⟨rfl, hM.out⟩
  · by_cases hk : 1 ≤ pi ∧ pi ≤ 6
    · obtain ⟨hk1, hk2⟩ := hk
      have HA : Hid (∀ w0, Calls Try.prog 7 #[] w0 (AwakePost w0)) := awake_any
      have hll := w1.1
      clear w1
      go_enter Try.func6, Try.ntmps6
      go_wp2_with fail
      refine (HA.out _).mono ?_
      rintro e w2 ⟨rfl, hb2⟩
      have hM := Lib.hid (lo_trans (lo_alloc (lo_alloc (lo_refl w) (.cells #[.int .i64 v0, .int .i64 v1, .int .i64 v2, .int .i64 v3, .int .i64 v4, .int .i64 v5] 23)) (.cells #[.int .u16 pi, .int .u32 pn] 47)) hb2)
      clear hb2
      go_wp2_with fail
      go_ret
      exact ⟨rfl, hM.out⟩
    · exact unk_walk v0 v1 v2 v3 v4 v5 a1 len1 cap1 l pi pn w w1 ⟨w20, w21⟩ hbig hk
end Go.Proofs.Ythjciimodemfpaa
