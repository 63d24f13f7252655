import Derived.Test.YtbbjkobadliglaaPrefintGetsWalk
import Derived.Test.YtbbjkobadliglaaPrefintGrowsWalk
import Derived.Deep.RegionHeld3
namespace Go.Proofs.Ytbbjkobadliglaa
open Go.RowKit

theorem wf_u8' {a : Int} (h : (Lit.int .u8 a).wf = true) : ∃ n : Nat, a = n ∧ n < 256 := by
  have := bounds_u8 h
  exact ⟨a.toNat, by omega, by omega⟩
/-- A row of the call's own reads as its bytes; so do its first ones. -/
theorem row_own {w : World} {base n : Nat} {A : Option Addr} {cap : Nat} {l : List Nat} (h : w.ownsRow base 5 1 (.slice A n cap) n (B l)) (hl : ∀ c ∈ l, c < 256) (m : Nat) (hm : m ≤ n) : IntRow .u8 w A m cap ((l.take m).map Int.ofNat) := by
  have hln : l.length = n := by have := h.1; rw [B_len] at this; omega
  have hwf : ∀ x ∈ (l.take m).map Int.ofNat, (Lit.int .u8 x).wf = true := by
    intro x hx
    obtain ⟨c, hc, rfl⟩ := List.mem_map.1 hx
    have := hl c (List.mem_of_mem_take hc)
    simp [Lit.wf, IntKind.min, IntKind.max, IntKind.signed, IntKind.bits]
    omega
  rcases h.2 with ⟨he, rfl⟩ | ⟨g, cap', cur, he, hb, hh, hnc, hcm, _⟩
  · injection he with e1 e2 e3
    subst e1 e3
    obtain rfl : m = 0 := by omega
    exact ⟨by simp, Nat.le_refl _, Nat.zero_le _, fun _ => ⟨rfl, rfl⟩, fun i x hx => by simp at hx, hwf⟩
  · injection he with e1 e2 e3
    subst e1 e3
    have hlt : g < w.heap.size := by
      rcases Nat.lt_or_ge g w.heap.size with hlt | hge
      · exact hlt
      · rw [Array.getElem?_eq_none hge] at hh; cases hh
    refine ⟨by simp; omega, by omega, hcm, (fun e => by cases e), fun i x hx => ⟨g, 0, rfl, hlt, ?_⟩, hwf⟩
    have hi : i < m := by
      have := (List.getElem?_eq_some_iff.1 hx).1
      simp at this
      omega
    rw [Nat.zero_add, h.cellAt i (by omega)]
    rw [List.getElem?_map, List.getElem?_take_of_lt hi] at hx
    obtain ⟨c, hc, rfl⟩ := Option.map_eq_some_iff.1 hx
    simp [B, hc]
theorem putL_lt (f k n : Nat) (hf : f < 256) (hk : k ≤ 8) (hn : n ≤ 268435455) : ∀ c ∈ putL f k n, c < 256 := by
  have h1 := rest_lt f k hf hk
  have h2 : 2 ^ k ≤ 256 := pow_le k k (Nat.le_refl _) hk
  intro c hc
  unfold putL at hc
  split at hc
  · simp at hc; omega
  · rcases List.mem_cons.1 hc with h | h
    · omega
    · exact vint_lt 4 _ (by simp; omega) c h
theorem put_int (f : Nat) (k n : Int) (hf : f < 256) (hk1 : 1 ≤ k) (hk : k ≤ 8) (hn0 : 0 ≤ n) (hn : n ≤ 268435455) (w : World) : Calls Try.prog 7 #[.int .u8 f, .int .i64 k, .int .i64 n] w (PutPost w (putL f k.toNat n.toNat)) := by
  obtain ⟨k, rfl⟩ := Int.eq_ofNat_of_zero_le (show 0 ≤ k by omega)
  obtain ⟨n, rfl⟩ := Int.eq_ofNat_of_zero_le hn0
  exact put_any f k n hf (by omega) (by omega) (by omega) w
theorem own_news {w : World} {base n : Nat} {A : Option Addr} {cap : Nat} {l : List Nat} (h : w.ownsRow base 5 1 (.slice A n cap) n (B l)) :
    ∀ j u, (B l)[j]? = some u → ∃ b off, A = some ⟨b, off, none⟩ ∧ w.cell? ⟨b, off + j, none⟩ = some u := by
  intro j u hu
  rcases h.2 with ⟨he, rfl⟩ | ⟨g, cap', cur, he, hb, hh, hnc, hcm, _⟩
  · have h1 := h.1
    have h2 := (List.getElem?_eq_some_iff.1 hu).1
    omega
  · injection he with e1 e2 e3
    subst e1 e3
    refine ⟨g, 0, rfl, ?_⟩
    have hj := (List.getElem?_eq_some_iff.1 hu).1
    rw [Nat.zero_add, h.cellAt j (by have := h.1; omega)]
    exact hu
theorem own_none {w : World} {base e size n : Nat} {A : Option Addr} {cap : Nat} {xs : List Value} (h : w.ownsRow base e size (.slice A n cap) n xs) : A = none → n = 0 := by
  rcases h.2 with ⟨_, rfl⟩ | ⟨g, cap', cur, he, _⟩
  · exact fun _ => rfl
  · injection he with e1
    subst e1
    intro h
    cases h
theorem own_cap {w : World} {base e size n : Nat} {A : Option Addr} {cap : Nat} {xs : List Value} (h : w.ownsRow base e size (.slice A n cap) n xs) : n ≤ cap := by
  rcases h.2 with ⟨_, rfl⟩ | ⟨g, cap', cur, he, _, _, hc, _⟩
  · exact Nat.zero_le _
  · injection he with e1 e2 e3
    subst e3
    exact hc
theorem B_ints (l : List Nat) : (l.map Int.ofNat).map (Value.int .u8) = B l := by
  rw [List.map_map]
  rfl
theorem row_news {w : World} {A : Option Addr} {n cap : Nat} {l : List Nat} (h : IntRow .u8 w A n cap (l.map Int.ofNat)) :
    ∀ j u, (B l)[j]? = some u → ∃ b off, A = some ⟨b, off, none⟩ ∧ w.cell? ⟨b, off + j, none⟩ = some u := by
  intro j u hu
  rw [← B_ints, List.getElem?_map] at hu
  obtain ⟨x, hx, rfl⟩ := Option.map_eq_some_iff.1 hu
  obtain ⟨b, off, e, _, hc⟩ := h.2.2.2.2.1 j x hx
  exact ⟨b, off, e, hc⟩
theorem keep_two {W w' : World} {g h : Nat} {c f : Value} (hb : Below W.heap.size W w') (h1 : W.cell? ⟨g, 0, none⟩ = some c) (h2 : W.cell? ⟨h, 0, none⟩ = some f) (h3 : g < W.heap.size) (h4 : h < W.heap.size) :
    w'.cell? ⟨g, 0, none⟩ = some c ∧ w'.cell? ⟨h, 0, none⟩ = some f ∧ g < w'.heap.size ∧ h < w'.heap.size :=
  ⟨(hb.cell (p := ⟨g, 0, none⟩) h3).trans h1, (hb.cell (p := ⟨h, 0, none⟩) h4).trans h2, Nat.lt_of_lt_of_le h3 hb.size, Nat.lt_of_lt_of_le h4 hb.size⟩
theorem B_one (l : List Nat) : ∀ u ∈ B l, u.oneCell' = true := by
  intro u hu
  simp [B] at hu
  obtain ⟨c, _, rfl⟩ := hu
  rfl
/-- What the law leans on, of the bytes P of n with k bits, and of what stands behind them. -/
theorem back_facts (f : Nat) (k n : Int) (hk1 : 1 ≤ k) (hk : k ≤ 8) (hn0 : 0 ≤ n) (hn : n ≤ 268435455) (tail : List Nat) :
    getR (putL f k.toNat n.toNat ++ tail) k = (n.toNat, (putL f k.toNat n.toNat).length, 0) ∧ getR ((putL f k.toNat n.toNat).take ((putL f k.toNat n.toNat).length - 1)) k = (0, 0, 3) ∧
    ∃ c t, putL f k.toNat n.toNat = c :: t ∧ restN c k.toNat = restN f k.toNat := by
  have hpos := putL_pos f k.toNat n.toNat
  refine ⟨?_, ?_, ?_⟩
  · unfold getR
    rw [if_neg (by rw [List.length_append]; omega)]
    exact get_put f k.toNat n.toNat tail (by omega) (by omega)
  · rw [← List.dropLast_eq_take]
    unfold getR
    split
    · rw [if_neg (by omega)]
    · exact get_cut f k.toNat n.toNat (by omega) (by omega)
  · have h2 : 1 ≤ 2 ^ k.toNat := Nat.one_le_two_pow
    unfold putL
    split
    · exact ⟨_, _, rfl, restN_restN f _ _ (by omega)⟩
    · exact ⟨_, _, rfl, restN_restN f _ _ (by omega)⟩
set_option maxRecDepth 100000 in
set_option maxHeartbeats 1600000 in
theorem walk_PrefintBack (s0_0 : Int) (s0_1 : Int) (a1 : Int) (a2 : Option Addr) (len2 cap2 : Nat) (xs2 : List Int) (w : World) (w0_0 : (Lit.int .u8 s0_0).wf = true) (w0_1 : (Lit.int .u8 s0_1).wf = true) (w1 : (Lit.int .u32 a1).wf = true) (w2 : IntRow .u8 w a2 len2 cap2 xs2) :
    Calls Try.prog 5 #[.agg #[.int .u8 s0_0, .int .u8 s0_1], .int .u32 a1, .slice a2 len2 cap2] w fun e w' => e = .returned (.bool true) ∧ Below w.heap.size w w' := by
  obtain ⟨f, rfl, hf⟩ := wf_u8' w0_0
  obtain ⟨g, rfl, hg⟩ := wf_u8' w0_1
  have h1 := bounds_u32 w1
  have h1' : 0 ≤ a1 := by omega
  obtain ⟨i0, hi, hz0, hz1, hz2⟩ := info_parts info5
  have HW := Lib.hid w2
  clear w0_0 w0_1 w1 w2 h1
  by_cases hlen : 100 < len2
  · clear HW
    go_enter Try.func5, Try.ntmps5
    go_wp2_with fail
    refine (awake_any _).mono ?_
    rintro e w1 ⟨rfl, hb⟩
    go_wp2_with fail
    go_ret
    exact ⟨rfl, ((Below.refl w.heap.size w).alloc (Nat.le_refl _) _).trans (hb.mono (by simp))⟩
  · go_enter Try.func5, Try.ntmps5
    go_wp2_with fail
    generalize hk : (1 + (g : Int) % 8) = k
    generalize hn : (a1 % 268435456) = n
    have hk1 : 1 ≤ k := by omega
    have hk8 : k ≤ 8 := by omega
    have hn0 : 0 ≤ n := by omega
    have hn1 : n ≤ 268435455 := by omega
    obtain ⟨tail, rfl, htail⟩ := nats_of HW.out.2.2.2.2.2
    have hlt := putL_lt f k.toNat n.toNat hf (by omega) (by omega)
    obtain ⟨F1, F2, c, t, F3, F4⟩ := back_facts f k n hk1 hk8 hn0 hn1 tail
    have hlen6 := putL_len f k.toNat n.toNat
    have hpos := putL_pos f k.toNat n.toNat
    have hput := put_int f k n hf hk1 hk8 hn0 hn1
    have hsz : sz k n = (putL f k.toNat n.toNat).length := by
      have h1 := put_mono 0 f k.toNat n.toNat n.toNat (Nat.le_refl _)
      have h2 := put_mono f 0 k.toNat n.toNat n.toNat (Nat.le_refl _)
      unfold sz
      omega
    have hn2 : ((n.toNat : Nat) : Int) = n := by omega
    generalize putL f k.toNat n.toNat = P at *
    clear hk hn
    refine (hput _).mono ?_
    rintro e w1 ⟨v, rfl, hown, hb1⟩
    obtain ⟨A, cap, rfl⟩ := own_form hown
    have hpos' : (1 : Int) ≤ P.length := by omega
    have E := Lib.hid (And.intro F1 (And.intro F2 (And.intro F3 F4)))
    have HL := Lib.hid hlt
    have HSZ := Lib.hid hsz
    have HN2 := Lib.hid hn2
    clear F1 F2 F3 F4 hlt hput hsz hn2
    have hB0 : Below w.heap.size w (w.alloc (.cells #[.int .u8 f, .int .u8 g] 37)) := (Below.refl _ _).alloc (Nat.le_refl _) _
    have hB1 := hB0.trans (hb1.mono hB0.size)
    have hoe := World.ownsRow_lit (base := w1.heap.size) (e := 5) (size := 1) w1 #[] 0 (Nat.le_refl _) (by decide) rfl
    have hB1a := hB1.alloc hB1.size (.cells #[] 5)
    have hl1 : 0 + P.length ≤ 1000000000 := by omega
    have hln : (B P).length = P.length * 1 := by rw [B_len]; omega
    have htl : (B tail).length = len2 * 1 := by have := HW.out.1; rw [B_len]; simp at this; omega
    have hl2 : 0 + P.length + len2 ≤ 1000000000 := by omega
    go_wp2_with (first
      | (at_builtin; refine wp_append_row rfl (.tmp 45) (.tmp 46) 22 rfl w1.heap.size 5 i0 (.int .u8 0) 1 1 Try.underlying22 hi hz0 hz1 hz2 rfl (by decide) _ _ _ rfl hoe A P.length cap (B P) rfl hln (own_none hown) (own_news (hown.alloc _)) (B_one P) hl1 (by decide) (by simp) ?_; intro v2 w2 hown2 hb2)
      | (at_builtin; refine wp_append_row rfl (.tmp 47) (.tmp 48) 22 rfl w1.heap.size 5 i0 (.int .u8 0) 1 1 Try.underlying22 hi hz0 hz1 hz2 rfl (by decide) _ _ _ rfl hown2 a2 len2 cap2 (B tail) rfl htl (fun h => (HW.out.2.2.2.1 h).1) (row_news (row_below HW.out (hB1a.trans (hb2.mono hB1.size)))) (B_one tail) hl2 (by decide) (by have := hb2.size; simp at this; omega) ?_; intro v3 w3 hown3 hb3))
    have hown4 : w3.ownsRow w1.heap.size 5 1 v3 (0 + P.length + len2) (B (P ++ tail)) := by rw [B_app]; simpa using hown3
    obtain ⟨A3, cap3, rfl⟩ := own_form hown3
    have htl2 : tail.length = len2 := by have := HW.out.1; simpa using this
    have hR := row_own hown4 (fun c hc => (List.mem_append.1 hc).elim (HL.out c) (htail c)) (0 + P.length + len2) (Nat.le_refl _)
    rw [List.take_of_length_le (by simp; omega)] at hR
    have G := (get_row hR (fun c hc => (List.mem_append.1 hc).elim (HL.out c) (htail c)) (by omega) k).1
    rw [E.out.1] at G
    have HG := Lib.hid G
    have hB3 : Below w.heap.size w w3 := (hB1a.trans (hb2.mono hB1.size)).trans (hb3.mono (by have := hb2.size; have := hB1.size; simp at *; omega))
    have hP3 := own_below hown ((((Below.refl _ _).alloc (Nat.le_refl _) (.cells #[] 5)).trans hb2).trans hb3)
    have hcap := own_cap hown
    have hcap' : (P.length : Int) ≤ cap := by omega
    clear G hR hown4 hown3 hoe hown
    refine HG.out.mono ?_
    rintro e w4 ⟨rfl, hb4⟩
    have hB4 := hB3.trans (hb4.mono hB3.size)
    have hP4 := own_below hP3 hb4
    have hR := row_own hP4 HL.out (P.length - 1) (by omega)
    have G := (get_row hR (fun c hc => HL.out c (List.mem_of_mem_take hc)) (by omega) k).1
    rw [E.out.2.1] at G
    have HG2 := Lib.hid G
    clear G hR
    go_wp2_with fail
    refine HG2.out.mono ?_
    rintro e w5 ⟨rfl, hb5⟩
    have hB5 := hB4.trans (hb5.mono hB4.size)
    have hP5 := own_below hP4 hb5
    obtain ⟨gb, off, rfl, hcell⟩ := own_news hP5 0 (.int .u8 c) (by rw [E.out.2.2.1]; rfl)
    have hoff : off = 0 := by
      obtain ⟨_, h2⟩ := hP5
      rcases h2 with ⟨h2, _⟩ | ⟨g', cap', cur, he, _⟩
      · cases h2
      · injection he with he; injection he with he; injection he
    subst hoff
    have hcell0 : w5.cell? ⟨w.heap.size, 0, none⟩ = some (.int .u8 f) := by
      have h1 : w1.cell? ⟨w.heap.size, 0, none⟩ = some (.int .u8 f) := (hb1.cell (p := ⟨w.heap.size, 0, none⟩) (by simp)).trans (by simp)
      have hw1 : w.heap.size < w1.heap.size := by have := hb1.size; simp at this; omega
      have h13 : Below w1.heap.size w1 w3 := (((Below.refl _ _).alloc (Nat.le_refl _) (.cells #[] 5)).trans hb2).trans hb3
      have h14 := h13.trans (hb4.mono h13.size)
      have h15 := h14.trans (hb5.mono h14.size)
      exact (h15.cell (p := ⟨w.heap.size, 0, none⟩) hw1).trans h1
    have hlt0 : w.heap.size < w5.heap.size := cell_lt hcell0
    have hltb : gb < w5.heap.size := cell_lt hcell
    have hSZ : ∀ W, Calls Try.prog 9 #[.int .i64 k, .int .i64 n] W (SizePost W P.length) := fun W => by
      have := size_int k n hk1 hk8 hn0 hn1 W
      rw [HSZ.out] at this
      exact this
    have HSIZE := Lib.hid hSZ
    have hcl : clampK k = k.toNat := by unfold clampK; omega
    obtain ⟨r, hr⟩ : ∃ r, r = restN f k.toNat := ⟨_, rfl⟩
    have hc256 : c < 256 := HL.out c (by rw [E.out.2.2.1]; exact List.mem_cons_self)
    have hR1 := rest_any c k hc256
    have hR2 := rest_any f k hf
    rw [hcl, E.out.2.2.2, ← hr] at hR1
    rw [hcl, ← hr] at hR2
    have HR1 := Lib.hid hR1
    have HR2 := Lib.hid hR2
    have hpos0 : (0 : Int) < P.length := by omega
    have hposN : 0 < P.length := by omega
    have hmax : (max n 0 == n) = true := by rw [beq_iff_eq]; omega
    clear hSZ hcl hr hR1 hR2 hP5 hP4 hP3 hb1 hb2 hb3 hb4 hb5 hB4 hB3 hB1 hB0 hcap hcap' E HSZ HL HG HG2 HN2 HW htail htl hln hl1 hl2 hown2 hB1a htl2
    go_wp2_with fail
    go_region_held3 (fun W => W.cell? ⟨gb, 0, none⟩ = some (.int .u8 c) ∧ W.cell? ⟨w.heap.size, 0, none⟩ = some (.int .u8 f) ∧ gb < W.heap.size ∧ w.heap.size < W.heap.size) (first | exact keep_two hbs ‹_› ‹_› ‹_› ‹_› | exact keep_two hba ‹_› ‹_› ‹_› ‹_› | (have hbc := hbs.trans (hba.mono hbs.size); exact keep_two hbc ‹_› ‹_› ‹_› ‹_›) | go_keep)
      (first
        | (go_at_call_of 11 (Value.int IntKind.u8 (c : Int)); refine (HR1.out _).mono ?_; rintro e w' ⟨rfl, rfl⟩)
        | (go_at_call_of 11 (Value.int IntKind.u8 (f : Int)); refine (HR2.out _).mono ?_; rintro e w' ⟨rfl, rfl⟩)
        | (go_at_call 9; refine (HSIZE.out _).mono ?_; rintro e w' ⟨rfl, hbs⟩)
        | (go_at_call 13; refine (awake_any _).mono ?_; rintro e w' ⟨rfl, hba⟩))
    go_wp2
    go_ret
    have hbc := hbs.trans (hba.mono hbs.size)
    exact ⟨rfl, hB5.drew.trans (hbc.mono (by have := hB5.size; simpa using this))⟩
end Go.Proofs.Ytbbjkobadliglaa
