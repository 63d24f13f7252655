import Derived.Test.YtbjfdmgfmdccgaaSmall
namespace Go.Proofs.Ytbjfdmgfmdccgaa
open Go.RowKit
attribute [local go_sem ↓] Go.wp_at_zero Go.wp_at_succ

/-- A controller. -/
structure St where
  limit : Int
  least : Int
  most : Int
  low : Int
  high : Int
  quiet : Int
  calm : Int
def St.ok (s : St) : Prop := (1 ≤ s.least ∧ s.least ≤ s.limit ∧ s.limit ≤ s.most ∧ s.most ≤ 16) ∧ (0 ≤ s.low ∧ s.low ≤ s.high ∧ s.high ≤ 1099511627776) ∧ (1 ≤ s.quiet ∧ s.quiet ≤ 1000) ∧ 0 ≤ s.calm ∧ s.calm < s.quiet
instance (s : St) : Decidable s.ok := by unfold St.ok; infer_instance
def St.err (s : St) : Int := if s.ok then 0 else 8
def IntPost (w : World) (n : Int) (e : Ending) (w' : World) : Prop := e = .returned (.int .i64 n) ∧ Below w.heap.size w w'
theorem rise5 (a b c d e : Int) : Rises [a, b, c, d, e] ↔ (a ≤ b ∧ b ≤ c ∧ c ≤ d ∧ d ≤ e) := by
  constructor
  · intro h
    exact ⟨h 0 a b rfl rfl, h 1 b c rfl rfl, h 2 c d rfl rfl, h 3 d e rfl rfl⟩
  · rintro ⟨h1, h2, h3, h4⟩ j x y hx hy
    rcases j with _ | _ | _ | _ | j <;> simp at hx hy <;> omega
theorem rise4 (a b c d : Int) : Rises [a, b, c, d] ↔ (a ≤ b ∧ b ≤ c ∧ c ≤ d) := by
  constructor
  · intro h
    exact ⟨h 0 a b rfl rfl, h 1 b c rfl rfl, h 2 c d rfl rfl⟩
  · rintro ⟨h1, h2, h3⟩ j x y hx hy
    rcases j with _ | _ | _ | j <;> simp at hx hy <;> omega
theorem rise3 (a b c : Int) : Rises [a, b, c] ↔ (a ≤ b ∧ b ≤ c) := by
  constructor
  · intro h
    exact ⟨h 0 a b rfl rfl, h 1 b c rfl rfl⟩
  · rintro ⟨h1, h2⟩ j x y hx hy
    rcases j with _ | _ | j <;> simp at hx hy <;> omega
theorem rise_lit (w : World) (xs : List Int) (n : Nat) (hn : xs.length = n) (hn1 : 1 ≤ n) (hn2 : n ≤ 1000) :
    Calls Try.prog 14 #[.slice (some ⟨w.heap.size, 0, none⟩) n n] (w.alloc (.cells (xs.map (Value.int .i64)).toArray 3)) (RisePost (w.alloc (.cells (xs.map (Value.int .i64)).toArray 3)) xs) := by
  refine rising_any w.heap.size n xs _ hn hn1 hn2 ?_ (by simp)
  intro j x hx
  rw [World.cell?_alloc_at _ _ _ _ rfl]
  simp [hx]
theorem rise5_any (a b c d e : Int) (w : World) :
    Calls Try.prog 14 #[.slice (some ⟨w.heap.size, 0, none⟩) 5 5] (w.alloc (.cells #[.int .i64 a, .int .i64 b, .int .i64 c, .int .i64 d, .int .i64 e] 3)) (RisePost (w.alloc (.cells #[.int .i64 a, .int .i64 b, .int .i64 c, .int .i64 d, .int .i64 e] 3)) [a, b, c, d, e]) :=
  rise_lit w [a, b, c, d, e] 5 rfl (by decide) (by decide)
theorem rise4_any (a b c d : Int) (w : World) :
    Calls Try.prog 14 #[.slice (some ⟨w.heap.size, 0, none⟩) 4 4] (w.alloc (.cells #[.int .i64 a, .int .i64 b, .int .i64 c, .int .i64 d] 3)) (RisePost (w.alloc (.cells #[.int .i64 a, .int .i64 b, .int .i64 c, .int .i64 d] 3)) [a, b, c, d]) :=
  rise_lit w [a, b, c, d] 4 rfl (by decide) (by decide)
theorem rise3_any (a b c : Int) (w : World) :
    Calls Try.prog 14 #[.slice (some ⟨w.heap.size, 0, none⟩) 3 3] (w.alloc (.cells #[.int .i64 a, .int .i64 b, .int .i64 c] 3)) (RisePost (w.alloc (.cells #[.int .i64 a, .int .i64 b, .int .i64 c] 3)) [a, b, c]) :=
  rise_lit w [a, b, c] 3 rfl (by decide) (by decide)
set_option maxRecDepth 100000 in
set_option maxHeartbeats 3200000 in
theorem check_any (s : St) (w : World) : Calls Try.prog 9 #[.agg #[.int .i64 s.limit, .int .i64 s.least, .int .i64 s.most, .int .i64 s.low, .int .i64 s.high, .int .i64 s.quiet, .int .i64 s.calm]] w (IntPost w s.err) := by
  have hA := Blk.new w 24 #[.int .i64 s.limit, .int .i64 s.least, .int .i64 s.most, .int .i64 s.low, .int .i64 s.high, .int .i64 s.quiet, .int .i64 s.calm]
  have hL := Lib.hid (lo_alloc (lo_refl w) (.cells #[.int .i64 s.limit, .int .i64 s.least, .int .i64 s.most, .int .i64 s.low, .int .i64 s.high, .int .i64 s.quiet, .int .i64 s.calm] 24))
  have h5 := rise5_any 1 s.least s.limit s.most 16 (w.alloc (.cells #[.int .i64 s.limit, .int .i64 s.least, .int .i64 s.most, .int .i64 s.low, .int .i64 s.high, .int .i64 s.quiet, .int .i64 s.calm] 24))
  simp only [World.size_alloc] at h5
  have H5 := Lib.hid h5
  clear h5
  have H4 := Lib.hid (rise4_any 0 s.low s.high 1099511627776)
  have H3 := Lib.hid (rise3_any 1 s.quiet 1000)
  have HE : Hid (s.err = if s.ok then 0 else 8) := Lib.hid rfl
  generalize s.err = r at HE ⊢
  obtain ⟨cA, fA⟩ := hA.facts
  go_enter Try.func9, Try.ntmps9
  go_wp2_with fail
  refine H5.out.mono ?_
  rintro e w1 ⟨b1, rfl, h1, hb1⟩
  rw [rise5] at h1
  have K1 := Lib.hid h1
  clear h1
  have hA1 := (hA.alloc (.cells #[.int .i64 1, .int .i64 s.least, .int .i64 s.limit, .int .i64 s.most, .int .i64 16] 3)).lo hb1
  have hL := Lib.hid (lo_trans (lo_alloc hL.out (.cells #[.int .i64 1, .int .i64 s.least, .int .i64 s.limit, .int .i64 s.most, .int .i64 16] 3)) hb1)
  clear hb1 cA fA hA
  obtain ⟨cA, fA⟩ := hA1.facts
  go_wp2_with fail
  refine (H4.out _).mono ?_
  rintro e w2 ⟨b2, rfl, h2, hb2⟩
  rw [rise4] at h2
  have K2 := Lib.hid h2
  clear h2
  have hA2 := (hA1.alloc (.cells #[.int .i64 0, .int .i64 s.low, .int .i64 s.high, .int .i64 1099511627776] 3)).lo hb2
  have hL := Lib.hid (lo_trans (lo_alloc hL.out (.cells #[.int .i64 0, .int .i64 s.low, .int .i64 s.high, .int .i64 1099511627776] 3)) hb2)
  clear hb2 cA fA hA1
  obtain ⟨cA, fA⟩ := hA2.facts
  go_wp2_with fail
  refine (H3.out _).mono ?_
  rintro e w3 ⟨b3, rfl, h3, hb3⟩
  rw [rise3] at h3
  have K3 := Lib.hid h3
  clear h3
  have hA3 := (hA2.alloc (.cells #[.int .i64 1, .int .i64 s.quiet, .int .i64 1000] 3)).lo hb3
  have hL := Lib.hid (lo_trans (lo_alloc hL.out (.cells #[.int .i64 1, .int .i64 s.quiet, .int .i64 1000] 3)) hb3)
  clear hb3 cA fA hA2
  obtain ⟨cA, fA⟩ := hA3.facts
  clear hA3
  by_cases c1 : 0 ≤ s.calm
  · by_cases c2 : s.calm < s.quiet
    · cases b1 <;> cases b2 <;> cases b3
      all_goals
        go_wp2_with fail
        go_ret
        refine ⟨?_, hL.out⟩
        have h1 := K1.out
        have h2 := K2.out
        have h3 := K3.out
        by_cases hk : s.ok
        · rw [HE.out, if_pos hk]
          obtain ⟨⟨a1, a2, a3, a4⟩, ⟨a5, a6, a7⟩, ⟨a8, a9⟩, _, _⟩ := hk
          first
          | rfl
          | exact absurd (h1.2 ⟨a1, a2, a3, a4⟩) (by decide)
          | exact absurd (h2.2 ⟨a5, a6, a7⟩) (by decide)
          | exact absurd (h3.2 ⟨a8, a9⟩) (by decide)
        · rw [HE.out, if_neg hk]
          first
          | rfl
          | exact absurd ⟨h1.1 (by trivial), h2.1 (by trivial), h3.1 (by trivial), c1, c2⟩ hk
    · cases b1 <;> cases b2 <;> cases b3
      all_goals
        go_wp2_with fail
        go_ret
        refine ⟨?_, hL.out⟩
        rw [HE.out, if_neg (fun h => by have := h.2.2.2.2; omega)]
        rfl
  · cases b1 <;> cases b2 <;> cases b3
    all_goals
      go_wp2_with fail
      go_ret
      refine ⟨?_, hL.out⟩
      rw [HE.out, if_neg (fun h => by have := h.2.2.2.1; omega)]
      rfl
end Go.Proofs.Ytbjfdmgfmdccgaa
