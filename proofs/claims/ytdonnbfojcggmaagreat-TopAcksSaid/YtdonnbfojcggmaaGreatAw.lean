import Derived.Laws.OwnMore
import Derived.Laws.Cover3
import Derived.Test.YtdonnbfojcggmaaGreatSmall
namespace Go.Proofs.YtdonnbfojcggmaaGreat
open Go.RowKit
attribute [local go_sem ↓] Go.wp_at_zero Go.wp_at_succ

theorem fnew_ok (B : Nat) (q lim : Int) (w : World) (hB : B ≤ w.heap.size) (hq : 1 ≤ q ∧ q ≤ 1000) (hl : 1 ≤ lim ∧ lim ≤ 1000) :
    Calls Tryz.prog 68 #[.int .i64 q, .int .i64 lim] w fun e w' => (∃ s mo : Nat, e = .returned (.tuple #[.pointer (some ⟨s, 0, none⟩), .int .i64 0]) ∧ mo = 0) ∧ Below w.heap.size w w' := by
  have H1 : Hid (∀ w0, Calls Tryz.prog 112 #[.int .i64 q, .int .i64 1, .int .i64 1000] w0 (BoolSame w0 true)) := Lib.hid fun w0 => by have := in_fair q 1 1000 w0; rw [inB_yes hq] at this; exact this
  have H2 : Hid (∀ w0, Calls Tryz.prog 112 #[.int .i64 lim, .int .i64 1, .int .i64 1000] w0 (BoolSame w0 true)) := Lib.hid fun w0 => by have := in_fair lim 1 1000 w0; rw [inB_yes hl] at this; exact this
  clear hq hl
  have hL := Lib.hid (lo_alloc (lo_alloc (lo_refl w) (.map #[] 0)) (.cells #[.int .i64 q, .int .i64 lim, .slice none 0 0, .map (some w.heap.size), .slice none 0 0, .int .i64 0, .int .i64 0] 222))
  have hmm := fun w0 => run_makeMap (P := Tryz.prog) 218 w0
  go_enter Tryz.func68, Tryz.ntmps68
  go_wp2_with fail
  refine (H1.out _).mono ?_
  rintro e w1 ⟨rfl, rfl⟩
  go_wp2_with fail
  refine (H2.out _).mono ?_
  rintro e w1 ⟨rfl, rfl⟩
  go_wp2_with fail
  exact bodyPost_ret (v := .tuple #[.pointer (some ⟨w.heap.size + 1, 0, none⟩), .int .i64 0]) (by simp [results, Tryz.results68, go_sem]) rfl ⟨⟨w.heap.size + 1, 0, rfl, rfl⟩, hL.out⟩
theorem nan_any (a : Int) (w : World) : Calls Tryz.prog 212 #[.int .i64 a] w fun e w' => e = .returned (.bool false) ∧ w = w' := by
  go_enter Tryz.func212, Tryz.ntmps212
  go_wp2_with fail
  go_ret
  exact ⟨by simp, rfl⟩
theorem lessI_any (a b : Int) (w : World) : Calls Tryz.prog 196 #[.int .i64 a, .int .i64 b] w fun e w' => e = .returned (.bool (decide (a < b))) ∧ w = w' := by
  go_enter Tryz.func196, Tryz.ntmps196
  go_wp2_with (go_at_call 212; refine (nan_any _ _).mono ?_; rintro e w' ⟨rfl, rfl⟩)
  go_ret
  exact ⟨by simp, rfl⟩
def Rises (xs : List Int) : Prop := ∀ (j : Nat) (x y : Int), xs[j]? = some x → xs[j + 1]? = some y → x ≤ y
def RisePost (w : World) (xs : List Int) (e : Ending) (w' : World) : Prop := ∃ b : Bool, e = .returned (.bool b) ∧ (b = true ↔ Rises xs) ∧ Below w.heap.size w w'
set_option maxRecDepth 100000 in
set_option maxHeartbeats 1600000 in
theorem sorted_any (g n : Nat) (xs : List Int) (w : World) (hn : xs.length = n) (hn1 : 1 ≤ n) (hn2 : n ≤ 1000)
    (hc : ∀ (j : Nat) (x : Int), xs[j]? = some x → w.cell? ⟨g, j, none⟩ = some (.int .i64 x)) (hg : g < w.heap.size) :
    Calls Tryz.prog 168 #[.slice (some ⟨g, 0, none⟩) n n] w (RisePost w xs) := by
  have HC := Lib.hid hc
  clear hc
  go_enter Tryz.func168, Tryz.ntmps168
  go_wp2_with fail
  go_loopw [3] (fun y wr => ∃ (k : Nat), k < n ∧ y = .int .i64 k ∧ Hid (∀ (j : Nat) (x z : Int), k ≤ j → xs[j]? = some x → xs[j + 1]? = some z → x ≤ z) ∧ Below w.heap.size w wr) (fun y _ => (intOf y).toNat)
  case atStart => exact ⟨n - 1, by omega, by congr 1; omega, Lib.hid (fun j x z hj _ hz => by have := (List.getElem?_eq_some_iff.1 hz).1; omega), lo_refl w⟩
  case round =>
    obtain ⟨k, hk, rfl, hup, hbel⟩ := hrel
    by_cases hk0 : 0 < k
    · obtain ⟨k, rfl⟩ : ∃ k', k = k' + 1 := ⟨k - 1, by omega⟩
      have hk0' : (0 : Int) < ((k + 1 : Nat) : Int) := by omega
      have hkn : (k : Int) + 1 < (n : Int) := by omega
      have hkn0 : (k : Int) < (n : Int) := by omega
      have hkp : (0 : Int) ≤ (k : Int) + 1 := by omega
      have hkt : ((k : Int) + 1).toNat = k + 1 := by omega
      have hkw : IntKind.i64.wrap (k : Int) = (k : Int) := IntWalk.i64_in _ (by omega)
      have hx := HC.out k xs[k] (List.getElem?_eq_getElem (by omega))
      have hy := HC.out (k + 1) xs[k + 1] (List.getElem?_eq_getElem (by omega))
      have hx := (hbel.cell (p := ⟨g, k, none⟩) hg).trans hx
      have hy := (hbel.cell (p := ⟨g, k + 1, none⟩) hg).trans hy
      have ex : xs[k]? = some xs[k] := List.getElem?_eq_getElem (by omega)
      have ey : xs[k + 1]? = some xs[k + 1] := List.getElem?_eq_getElem (by omega)
      generalize xs[k] = x at hx ex
      generalize xs[k + 1] = y at hy ey
      have Ex := Lib.hid ex
      have Ey := Lib.hid ey
      clear ex ey
      go_upto_region 4 with fail
      go_quiet (first | (go_at_call 196; exact Calls.quiet_of_same ((lessI_any _ _ _).mono fun _ _ h => ⟨h.1, h.2.symm⟩)))
      have hbel := lo_drewN hbel nq
      have Hbel := Lib.hid hbel
      clear hbel hx hy
      by_cases hlt : y < x
      · go_wp2_with fail
        go_ret
        exact ⟨false, rfl, ⟨fun h => (nomatch h), fun h => absurd (h k x y Ex.out Ey.out) (by omega)⟩, Hbel.out⟩
      · have hle : x ≤ y := by omega
        have Hup : Hid (∀ (j : Nat) (x z : Int), k ≤ j → xs[j]? = some x → xs[j + 1]? = some z → x ≤ z) := Lib.hid (fun j a z hj ha hz => by
          rcases Nat.lt_or_eq_of_le hj with h | h
          · exact hup.out j a z h ha hz
          · subst h
            rw [Ex.out] at ha
            rw [Ey.out] at hz
            cases ha
            cases hz
            exact hle)
        clear hup
        go_wp2_with fail
        go_roundw
        case rel => exact ⟨k, by omega, by go_num, Hup, Hbel.out⟩
        case measure => simp [intOf]
    · obtain rfl : k = 0 := by omega
      have Hbel := Lib.hid hbel
      have Hup := Lib.hid hup.out
      clear hbel hup
      go_wp2_with fail
      go_ret
      exact ⟨true, rfl, ⟨fun _ => fun j x y hx hy => Hup.out j x y (Nat.zero_le _) hx hy, fun _ => rfl⟩, Hbel.out⟩
theorem rising_any (g n : Nat) (xs : List Int) (w : World) (hn : xs.length = n) (hn1 : 1 ≤ n) (hn2 : n ≤ 1000)
    (hc : ∀ (j : Nat) (x : Int), xs[j]? = some x → w.cell? ⟨g, j, none⟩ = some (.int .i64 x)) (hg : g < w.heap.size) :
    Calls Tryz.prog 146 #[.slice (some ⟨g, 0, none⟩) n n] w (RisePost w xs) := by
  have H := Lib.hid (sorted_any g n xs w hn hn1 hn2 hc hg)
  clear hc
  go_enter Tryz.func146, Tryz.ntmps146
  go_wp2_with fail
  refine H.out.mono ?_
  rintro e w' ⟨b, rfl, hb, hbel⟩
  have Hb := Lib.hid hb
  have Hbel := Lib.hid hbel
  clear hb hbel
  go_wp2_with fail
  go_ret
  exact ⟨b, rfl, Hb.out, Hbel.out⟩
theorem rise5 (a b c d e : Int) : Rises [a, b, c, d, e] ↔ (a ≤ b ∧ b ≤ c ∧ c ≤ d ∧ d ≤ e) := by
  constructor
  · intro h
    exact ⟨h 0 a b rfl rfl, h 1 b c rfl rfl, h 2 c d rfl rfl, h 3 d e rfl rfl⟩
  · rintro ⟨h1, h2, h3, h4⟩ j x y hx hy
    rcases j with _ | _ | _ | _ | j <;> simp at hx hy <;> omega
theorem rise4 (a b c d : Int) : Rises [a, b, c, d] ↔ (a ≤ b ∧ b ≤ c ∧ c ≤ d) := by
  constructor
  · intro h
    exact ⟨h 0 a b rfl rfl, h 1 b c rfl rfl, h 2 c d rfl rfl⟩
  · rintro ⟨h1, h2, h3⟩ j x y hx hy
    rcases j with _ | _ | _ | j <;> simp at hx hy <;> omega
theorem rise3 (a b c : Int) : Rises [a, b, c] ↔ (a ≤ b ∧ b ≤ c) := by
  constructor
  · intro h
    exact ⟨h 0 a b rfl rfl, h 1 b c rfl rfl⟩
  · rintro ⟨h1, h2⟩ j x y hx hy
    rcases j with _ | _ | j <;> simp at hx hy <;> omega
theorem rise_lit (w : World) (xs : List Int) (n : Nat) (hn : xs.length = n) (hn1 : 1 ≤ n) (hn2 : n ≤ 1000) :
    Calls Tryz.prog 146 #[.slice (some ⟨w.heap.size, 0, none⟩) n n] (w.alloc (.cells (xs.map (Value.int .i64)).toArray 3)) (RisePost (w.alloc (.cells (xs.map (Value.int .i64)).toArray 3)) xs) := by
  refine rising_any w.heap.size n xs _ hn hn1 hn2 ?_ (by simp)
  intro j x hx
  rw [World.cell?_alloc_at _ _ _ _ rfl]
  simp [hx]
theorem rise5_any (a b c d e : Int) (w : World) :
    Calls Tryz.prog 146 #[.slice (some ⟨w.heap.size, 0, none⟩) 5 5] (w.alloc (.cells #[.int .i64 a, .int .i64 b, .int .i64 c, .int .i64 d, .int .i64 e] 3)) (RisePost (w.alloc (.cells #[.int .i64 a, .int .i64 b, .int .i64 c, .int .i64 d, .int .i64 e] 3)) [a, b, c, d, e]) :=
  rise_lit w [a, b, c, d, e] 5 rfl (by decide) (by decide)
theorem rise4_any (a b c d : Int) (w : World) :
    Calls Tryz.prog 146 #[.slice (some ⟨w.heap.size, 0, none⟩) 4 4] (w.alloc (.cells #[.int .i64 a, .int .i64 b, .int .i64 c, .int .i64 d] 3)) (RisePost (w.alloc (.cells #[.int .i64 a, .int .i64 b, .int .i64 c, .int .i64 d] 3)) [a, b, c, d]) :=
  rise_lit w [a, b, c, d] 4 rfl (by decide) (by decide)
theorem rise3_any (a b c : Int) (w : World) :
    Calls Tryz.prog 146 #[.slice (some ⟨w.heap.size, 0, none⟩) 3 3] (w.alloc (.cells #[.int .i64 a, .int .i64 b, .int .i64 c] 3)) (RisePost (w.alloc (.cells #[.int .i64 a, .int .i64 b, .int .i64 c] 3)) [a, b, c]) :=
  rise_lit w [a, b, c] 3 rfl (by decide) (by decide)
theorem in_bucket (n a b : Int) (w : World) : Calls Tryz.prog 145 #[.int .i64 n, .int .i64 a, .int .i64 b] w (BoolSame w (inB n a b)) := by
  by_cases h1 : a ≤ n
  · go_enter Tryz.func145, Tryz.ntmps145
    go_wp2
    go_ret
    exact ⟨by simp [inB, h1], rfl⟩
  · rw [inB_no (by omega)]
    go_enter Tryz.func145, Tryz.ntmps145
    go_wp2
    go_ret
    exact ⟨rfl, rfl⟩
theorem keep5 {W w' : World} {g : Nat} {a b c d e : Value} (hb : Below W.heap.size W w')
    (h : W.cell? ⟨g, 0, none⟩ = some a ∧ W.cell? ⟨g, 1, none⟩ = some b ∧ W.cell? ⟨g, 2, none⟩ = some c ∧ W.cell? ⟨g, 3, none⟩ = some d ∧ W.cell? ⟨g, 4, none⟩ = some e ∧ g < W.heap.size) :
    w'.cell? ⟨g, 0, none⟩ = some a ∧ w'.cell? ⟨g, 1, none⟩ = some b ∧ w'.cell? ⟨g, 2, none⟩ = some c ∧ w'.cell? ⟨g, 3, none⟩ = some d ∧ w'.cell? ⟨g, 4, none⟩ = some e ∧ g < w'.heap.size :=
  ⟨(hb.cell (p := ⟨g, 0, none⟩) h.2.2.2.2.2).trans h.1, (hb.cell (p := ⟨g, 1, none⟩) h.2.2.2.2.2).trans h.2.1, (hb.cell (p := ⟨g, 2, none⟩) h.2.2.2.2.2).trans h.2.2.1, (hb.cell (p := ⟨g, 3, none⟩) h.2.2.2.2.2).trans h.2.2.2.1, (hb.cell (p := ⟨g, 4, none⟩) h.2.2.2.2.2).trans h.2.2.2.2.1, Nat.lt_of_lt_of_le h.2.2.2.2.2 hb.size⟩
theorem full_5 (w : World) : Calls Tryz.prog 110 #[.agg #[.int .i64 5, .int .i64 1, .int .i64 2, .int .i64 0, .int .i64 0]] w (IntPost w 10) := by
  go_enter Tryz.func110, Tryz.ntmps110
  go_wp2
  go_ret
  exact ⟨rfl, (Below.refl _ _).alloc (Nat.le_refl _) _⟩
set_option maxRecDepth 100000 in
set_option maxHeartbeats 1600000 in
theorem bcheck_5 (w : World) : Calls Tryz.prog 109 #[.agg #[.int .i64 5, .int .i64 1, .int .i64 2, .int .i64 0, .int .i64 0]] w (IntPost w 0) := by
  have HF := Lib.hid full_5
  have i1 : inB 5 1 1000 = true := inB_yes (by decide)
  have i2 : inB 1 0 1000 = true := inB_yes (by decide)
  have i3 : inB 2 1 1000 = true := inB_yes (by decide)
  have i4 : inB 0 0 10 = true := inB_yes (by decide)
  have i5 : inB 0 0 1099511627776 = true := inB_yes (by decide)
  go_enter Tryz.func109, Tryz.ntmps109
  go_wp2_with (go_at_call 145; refine (in_bucket _ _ _ _).mono ?_; rintro e w' ⟨rfl, rfl⟩)
  go_region_held3 (fun W => W.cell? ⟨w.heap.size, 0, none⟩ = some (.int .i64 5) ∧ W.cell? ⟨w.heap.size, 1, none⟩ = some (.int .i64 1) ∧ W.cell? ⟨w.heap.size, 2, none⟩ = some (.int .i64 2) ∧ W.cell? ⟨w.heap.size, 3, none⟩ = some (.int .i64 0) ∧ W.cell? ⟨w.heap.size, 4, none⟩ = some (.int .i64 0) ∧ w.heap.size < W.heap.size) (first | exact keep5 hb (by assumption) | go_keep)
    (first
      | (go_at_call 145; refine (in_bucket _ _ _ _).mono ?_; rintro e w' ⟨rfl, rfl⟩)
      | (go_at_call 110; refine (HF.out _).mono ?_; rintro e w' ⟨rfl, hb⟩))
  go_wp2
  go_ret
  exact ⟨rfl, ((Below.refl _ _).alloc (Nat.le_refl _) _).drew.trans (hb.mono (by simp))⟩
set_option maxRecDepth 100000 in
set_option maxHeartbeats 1600000 in
theorem bnew_5 (w : World) : Calls Tryz.prog 66 #[.int .i64 5, .int .i64 1, .int .i64 2] w fun e w' => e = .returned (.tuple #[.agg #[.int .i64 5, .int .i64 1, .int .i64 2, .int .i64 10, .int .i64 0], .int .i64 0]) ∧ Below w.heap.size w w' := by
  have HC := Lib.hid bcheck_5
  have HF := Lib.hid full_5
  go_enter Tryz.func66, Tryz.ntmps66
  go_wp2_with fail
  refine (HC.out _).mono ?_
  rintro e w1 ⟨rfl, hb1⟩
  have hA := ((Blk.new w 161 #[.int .i64 0, .int .i64 0, .int .i64 0, .int .i64 0, .int .i64 0]).alloc (.cells #[.int .i64 5, .int .i64 1, .int .i64 2, .int .i64 0, .int .i64 0] 161)).lo hb1
  have hB := (Blk.new (w.alloc (.cells #[.int .i64 0, .int .i64 0, .int .i64 0, .int .i64 0, .int .i64 0] 161)) 161 #[.int .i64 5, .int .i64 1, .int .i64 2, .int .i64 0, .int .i64 0]).lo hb1
  simp only [World.size_alloc] at hB
  have hL := lo_trans (lo_alloc (lo_alloc (lo_refl w) _) _) hb1
  clear hb1
  obtain ⟨cB, fB⟩ := hB.facts
  go_wp2_with fail
  clear cB fB
  refine (HF.out _).mono ?_
  rintro e w2 ⟨rfl, hb2⟩
  obtain ⟨cA, fA⟩ := (hA.lo hb2).facts
  obtain ⟨cB, fB⟩ := (hB.lo hb2).facts
  have hL2 := Lib.hid (lo_trans hL hb2)
  clear hL hb2 hA hB
  go_wp2_with fail
  refine bodyPost_ret (v := .tuple #[.agg #[.int .i64 5, .int .i64 1, .int .i64 2, .int .i64 10, .int .i64 0], .int .i64 0]) (by simp [results, Tryz.results66, go_sem, cA]) rfl ⟨rfl, ?_⟩
  have hl := hL2.out
  repeat' (first | with_reducible exact hl | with_reducible apply lo_set | simp)
set_option maxRecDepth 100000 in
set_option maxHeartbeats 1600000 in
theorem hcheck_8 (w : World) : Calls Tryz.prog 111 #[.agg #[.int .i64 8, .int .i64 2, .int .i64 8, .int .i64 4, .int .i64 40, .int .i64 3, .int .i64 0]] w (IntPost w 0) := by
  have hA := Blk.new w 153 #[.int .i64 8, .int .i64 2, .int .i64 8, .int .i64 4, .int .i64 40, .int .i64 3, .int .i64 0]
  have hL := Lib.hid (lo_alloc (lo_refl w) (.cells #[.int .i64 8, .int .i64 2, .int .i64 8, .int .i64 4, .int .i64 40, .int .i64 3, .int .i64 0] 153))
  have h5 := rise5_any 1 2 8 8 16 (w.alloc (.cells #[.int .i64 8, .int .i64 2, .int .i64 8, .int .i64 4, .int .i64 40, .int .i64 3, .int .i64 0] 153))
  simp only [World.size_alloc] at h5
  have H5 := Lib.hid h5
  clear h5
  have H4 := Lib.hid (rise4_any 0 4 40 1099511627776)
  have H3 := Lib.hid (rise3_any 1 3 1000)
  obtain ⟨cA, fA⟩ := hA.facts
  go_enter Tryz.func111, Tryz.ntmps111
  go_wp2_with fail
  refine H5.out.mono ?_
  rintro e w1 ⟨b1, rfl, h1, hb1⟩
  rw [rise5] at h1
  obtain rfl : b1 = true := h1.2 (by decide)
  clear h1
  have hA1 := (hA.alloc (.cells #[.int .i64 1, .int .i64 2, .int .i64 8, .int .i64 8, .int .i64 16] 3)).lo hb1
  have hL := Lib.hid (lo_trans (lo_alloc hL.out (.cells #[.int .i64 1, .int .i64 2, .int .i64 8, .int .i64 8, .int .i64 16] 3)) hb1)
  clear hb1 cA fA hA
  obtain ⟨cA, fA⟩ := hA1.facts
  go_wp2_with fail
  refine (H4.out _).mono ?_
  rintro e w2 ⟨b2, rfl, h2, hb2⟩
  rw [rise4] at h2
  obtain rfl : b2 = true := h2.2 (by decide)
  clear h2
  have hA2 := (hA1.alloc (.cells #[.int .i64 0, .int .i64 4, .int .i64 40, .int .i64 1099511627776] 3)).lo hb2
  have hL := Lib.hid (lo_trans (lo_alloc hL.out (.cells #[.int .i64 0, .int .i64 4, .int .i64 40, .int .i64 1099511627776] 3)) hb2)
  clear hb2 cA fA hA1
  obtain ⟨cA, fA⟩ := hA2.facts
  go_wp2_with fail
  refine (H3.out _).mono ?_
  rintro e w3 ⟨b3, rfl, h3, hb3⟩
  rw [rise3] at h3
  obtain rfl : b3 = true := h3.2 (by decide)
  clear h3
  have hA3 := (hA2.alloc (.cells #[.int .i64 1, .int .i64 3, .int .i64 1000] 3)).lo hb3
  have hL := Lib.hid (lo_trans (lo_alloc hL.out (.cells #[.int .i64 1, .int .i64 3, .int .i64 1000] 3)) hb3)
  clear hb3 cA fA hA2
  obtain ⟨cA, fA⟩ := hA3.facts
  clear hA3
  go_wp2_with fail
  go_ret
  exact ⟨rfl, hL.out⟩
set_option maxRecDepth 100000 in
set_option maxHeartbeats 1600000 in
theorem hnew_8 (w : World) : Calls Tryz.prog 67 #[.int .i64 2, .int .i64 8, .int .i64 4, .int .i64 40, .int .i64 3] w fun e w' => e = .returned (.tuple #[.agg #[.int .i64 8, .int .i64 2, .int .i64 8, .int .i64 4, .int .i64 40, .int .i64 3, .int .i64 0], .int .i64 0]) ∧ Below w.heap.size w w' := by
  have HC := Lib.hid hcheck_8
  go_enter Tryz.func67, Tryz.ntmps67
  go_wp2_with fail
  refine (HC.out _).mono ?_
  rintro e w1 ⟨rfl, hb1⟩
  have hA := ((Blk.new w 153 #[.int .i64 0, .int .i64 0, .int .i64 0, .int .i64 0, .int .i64 0, .int .i64 0, .int .i64 0]).alloc (.cells #[.int .i64 8, .int .i64 2, .int .i64 8, .int .i64 4, .int .i64 40, .int .i64 3, .int .i64 0] 153)).lo hb1
  have hB := (Blk.new (w.alloc (.cells #[.int .i64 0, .int .i64 0, .int .i64 0, .int .i64 0, .int .i64 0, .int .i64 0, .int .i64 0] 153)) 153 #[.int .i64 8, .int .i64 2, .int .i64 8, .int .i64 4, .int .i64 40, .int .i64 3, .int .i64 0]).lo hb1
  simp only [World.size_alloc] at hB
  have hL := lo_trans (lo_alloc (lo_alloc (lo_refl w) _) _) hb1
  clear hb1
  obtain ⟨cA, fA⟩ := hA.facts
  obtain ⟨cB, fB⟩ := hB.facts
  have lA := hA.lt
  go_wp2_with fail
  refine bodyPost_ret (v := .tuple #[.agg #[.int .i64 8, .int .i64 2, .int .i64 8, .int .i64 4, .int .i64 40, .int .i64 3, .int .i64 0], .int .i64 0]) (by simp [results, Tryz.results67, go_sem, cA]) rfl ⟨rfl, ?_⟩
  have hl := hL
  repeat' (first | with_reducible exact hl | with_reducible apply lo_set | simp)
end Go.Proofs.YtdonnbfojcggmaaGreat
