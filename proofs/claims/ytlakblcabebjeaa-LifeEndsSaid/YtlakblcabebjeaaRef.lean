import Derived.Test.YtlakblcabebjeaaSmall
import Derived.Deep.DrawnRows
namespace Go.Proofs.Ytlakblcabebjeaa
open Go.RowKit
attribute [local go_sem ↓] Go.wp_at_zero Go.wp_at_succ

/-- The document's table. -/
def toL (k : Int) (e : Bool) : List Int :=
  if k = 4 then [0, 1, 2, 3, 4, 5] else if k = 0 ∧ e = true then [2, 2, 8, 4, 9, 10] else if k = 0 then [1, 7, 8, 7, 9, 10]
  else if k = 1 ∧ e = true then [6, 2, 8, 4, 9, 10] else if k = 1 then [6, 1, 8, 3, 9, 10] else if k = 2 then [6, 4, 4, 4, 10, 10]
  else if k = 3 then [6, 1, 2, 3, 10, 10] else if k = 7 then [11, 5, 5, 5, 11, 11] else if e = true then [11, 3, 4, 11, 11, 11] else [11, 1, 2, 11, 11, 11]
def ToPost (w : World) (l : List Int) (e : Ending) (w' : World) : Prop := ∃ g, e = .returned (.slice (some ⟨g, 0, none⟩) 6 6) ∧ Blk w' g 3 (l.map (Value.int .i64)).toArray ∧ Below w.heap.size w w'
theorem blk_at {w : World} {g : Nat} {t : TypeId} {cs cs' : Array Value} (h : g = w.heap.size) (hc : cs = cs') : Blk (w.alloc (.cells cs t)) g t cs' := by
  subst h
  subst hc
  exact Blk.new w t cs
theorem k_cases {k : Int} (h0 : 0 ≤ k) (h : k < 8) : k = 0 ∨ k = 1 ∨ k = 2 ∨ k = 3 ∨ k = 4 ∨ k = 5 ∨ k = 6 ∨ k = 7 := by omega
set_option maxRecDepth 100000 in
set_option maxHeartbeats 32000000 in
theorem to_any (k : Int) (e : Bool) (h0 : 0 ≤ k) (h : k < 8) (w : World) : Calls Try.prog 18 #[.agg #[.int .u8 k, .bool e]] w (ToPost w (toL k e)) := by
  rcases k_cases h0 h with rfl | rfl | rfl | rfl | rfl | rfl | rfl | rfl
  all_goals
    cases e
    all_goals
      clear h0 h
      go_enter Try.func18, Try.ntmps18
      go_wp2_with fail
      go_ret
      exact ⟨_, rfl, blk_at (World.size_alloc _ _).symm (by show _ = _; kernel_rfl), lo_alloc (lo_alloc (lo_refl w) _) _⟩
/-- The document's switch. -/
def refOf (s n : Int) : Int × Vd :=
  if n = 6 then (s, 1, true, false) else if n = 7 then (5, 1, false, false) else if n = 8 then (5, 5, false, false) else if n = 9 then (s, 5, true, false)
  else if n = 10 then (s, 0, false, true) else if n = 11 then (s, 2, false, false) else (n, 0, false, false)
def kes : List (Int × Bool) := [(0, false), (0, true), (1, false), (1, true), (2, false), (2, true), (3, false), (3, true), (4, false), (4, true), (5, false), (5, true), (6, false), (6, true), (7, false), (7, true)]
theorem ref_all : kes.all (fun x => (List.range 6).all fun m => ((toL x.1 x.2)[m]?.map (fun n => decide (0 ≤ n ∧ n ≤ 11 ∧ refOf (m : Int) n = stepL (m : Int) x.1 x.2))).getD false) = true := by decide +kernel
theorem ref_one {k : Int} {e : Bool} (h0 : 0 ≤ k) (h : k < 8) {m : Nat} (hm : m < 6) : ∃ n, (toL k e)[m]? = some n ∧ 0 ≤ n ∧ n ≤ 11 ∧ refOf (m : Int) n = stepL (m : Int) k e := by
  have hk : (k, e) ∈ kes := by
    rcases k_cases h0 h with rfl | rfl | rfl | rfl | rfl | rfl | rfl | rfl <;> cases e <;> simp [kes]
  have h1 := List.all_eq_true.1 ref_all (k, e) hk
  have h2 := List.all_eq_true.1 h1 m (List.mem_range.2 hm)
  simp only at h2
  cases hx : (toL k e)[m]? with
  | none => rw [hx] at h2; simp at h2
  | some n =>
    rw [hx] at h2
    simp only [Option.map_some, Option.getD_some, decide_eq_true_eq] at h2
    exact ⟨n, rfl, h2⟩
end Go.Proofs.Ytlakblcabebjeaa
