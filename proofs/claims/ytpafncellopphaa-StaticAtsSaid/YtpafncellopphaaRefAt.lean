import Derived.Test.YtpafncellopphaaAt
import Derived.Deep.DrawnRows
namespace Go.Proofs.Ytpafncellopphaa
open Go.RowKit
attribute [local go_sem ↓] Go.wp_at_zero Go.wp_at_succ

set_option maxRecDepth 100000 in
set_option maxHeartbeats 64000000 in
theorem ref_in (i : Int) (h : 1 ≤ i ∧ i ≤ 61) (w : World) : Calls Try.prog 8 #[.int .i64 i] w (AtPost w (atT i)) := by
  have h' : i = 1 ∨ i = 2 ∨ i = 3 ∨ i = 4 ∨ i = 5 ∨ i = 6 ∨ i = 7 ∨ i = 8 ∨ i = 9 ∨ i = 10 ∨ i = 11 ∨ i = 12 ∨ i = 13 ∨ i = 14 ∨ i = 15 ∨ i = 16 ∨ i = 17 ∨ i = 18 ∨ i = 19 ∨ i = 20 ∨ i = 21 ∨ i = 22 ∨ i = 23 ∨ i = 24 ∨ i = 25 ∨ i = 26 ∨ i = 27 ∨ i = 28 ∨ i = 29 ∨ i = 30 ∨ i = 31 ∨ i = 32 ∨ i = 33 ∨ i = 34 ∨ i = 35 ∨ i = 36 ∨ i = 37 ∨ i = 38 ∨ i = 39 ∨ i = 40 ∨ i = 41 ∨ i = 42 ∨ i = 43 ∨ i = 44 ∨ i = 45 ∨ i = 46 ∨ i = 47 ∨ i = 48 ∨ i = 49 ∨ i = 50 ∨ i = 51 ∨ i = 52 ∨ i = 53 ∨ i = 54 ∨ i = 55 ∨ i = 56 ∨ i = 57 ∨ i = 58 ∨ i = 59 ∨ i = 60 ∨ i = 61 := by omega
  clear h
  rcases h' with rfl | rfl | rfl | rfl | rfl | rfl | rfl | rfl | rfl | rfl | rfl | rfl | rfl | rfl | rfl | rfl | rfl | rfl | rfl | rfl | rfl | rfl | rfl | rfl | rfl | rfl | rfl | rfl | rfl | rfl | rfl | rfl | rfl | rfl | rfl | rfl | rfl | rfl | rfl | rfl | rfl | rfl | rfl | rfl | rfl | rfl | rfl | rfl | rfl | rfl | rfl | rfl | rfl | rfl | rfl | rfl | rfl | rfl | rfl | rfl | rfl
  all_goals
    go_enter Try.func8, Try.ntmps8
    go_wp2_with fail
    refine bodyPost_ret (by simp [results, Try.results8, go_sem]; repeat' (first | apply And.intro | (show _ = _; kernel_rfl))) rfl ⟨rfl, ?_⟩
    repeat' (first | with_reducible exact lo_refl _ | with_reducible apply lo_set | with_reducible apply lo_alloc | simp)
set_option maxRecDepth 100000 in
set_option maxHeartbeats 6400000 in
theorem ref_out (i : Int) (h : ¬ (1 ≤ i ∧ i ≤ 61)) (w : World) : Calls Try.prog 8 #[.int .i64 i] w (AtPost w (atT i)) := by
  rw [at_out h]
  have h1 : ¬ i = 1 := by omega
  have h2 : ¬ i = 2 := by omega
  have h3 : ¬ i = 3 := by omega
  have h4 : ¬ i = 4 := by omega
  have h5 : ¬ i = 5 := by omega
  have h6 : ¬ i = 6 := by omega
  have h7 : ¬ i = 7 := by omega
  have h8 : ¬ i = 8 := by omega
  have h9 : ¬ i = 9 := by omega
  have h10 : ¬ i = 10 := by omega
  have h11 : ¬ i = 11 := by omega
  have h12 : ¬ i = 12 := by omega
  have h13 : ¬ i = 13 := by omega
  have h14 : ¬ i = 14 := by omega
  have h15 : ¬ i = 15 := by omega
  have h16 : ¬ i = 16 := by omega
  have h17 : ¬ i = 17 := by omega
  have h18 : ¬ i = 18 := by omega
  have h19 : ¬ i = 19 := by omega
  have h20 : ¬ i = 20 := by omega
  have h21 : ¬ i = 21 := by omega
  have h22 : ¬ i = 22 := by omega
  have h23 : ¬ i = 23 := by omega
  have h24 : ¬ i = 24 := by omega
  have h25 : ¬ i = 25 := by omega
  have h26 : ¬ i = 26 := by omega
  have h27 : ¬ i = 27 := by omega
  have h28 : ¬ i = 28 := by omega
  have h29 : ¬ i = 29 := by omega
  have h30 : ¬ i = 30 := by omega
  have h31 : ¬ i = 31 := by omega
  have h32 : ¬ i = 32 := by omega
  have h33 : ¬ i = 33 := by omega
  have h34 : ¬ i = 34 := by omega
  have h35 : ¬ i = 35 := by omega
  have h36 : ¬ i = 36 := by omega
  have h37 : ¬ i = 37 := by omega
  have h38 : ¬ i = 38 := by omega
  have h39 : ¬ i = 39 := by omega
  have h40 : ¬ i = 40 := by omega
  have h41 : ¬ i = 41 := by omega
  have h42 : ¬ i = 42 := by omega
  have h43 : ¬ i = 43 := by omega
  have h44 : ¬ i = 44 := by omega
  have h45 : ¬ i = 45 := by omega
  have h46 : ¬ i = 46 := by omega
  have h47 : ¬ i = 47 := by omega
  have h48 : ¬ i = 48 := by omega
  have h49 : ¬ i = 49 := by omega
  have h50 : ¬ i = 50 := by omega
  have h51 : ¬ i = 51 := by omega
  have h52 : ¬ i = 52 := by omega
  have h53 : ¬ i = 53 := by omega
  have h54 : ¬ i = 54 := by omega
  have h55 : ¬ i = 55 := by omega
  have h56 : ¬ i = 56 := by omega
  have h57 : ¬ i = 57 := by omega
  have h58 : ¬ i = 58 := by omega
  have h59 : ¬ i = 59 := by omega
  have h60 : ¬ i = 60 := by omega
  have h61 : ¬ i = 61 := by omega
  clear h
  go_enter Try.func8, Try.ntmps8
  go_wp2_with fail
  refine bodyPost_ret (by simp [results, Try.results8, go_sem]; exact ⟨rfl, rfl⟩) rfl ⟨rfl, ?_⟩
  repeat' (first | with_reducible exact lo_refl _ | with_reducible apply lo_set | with_reducible apply lo_alloc | simp)
theorem ref_any (i : Int) (w : World) : Calls Try.prog 8 #[.int .i64 i] w (AtPost w (atT i)) := by
  by_cases h : 1 ≤ i ∧ i ≤ 61
  · exact ref_in i h w
  · exact ref_out i h w
end Go.Proofs.Ytpafncellopphaa
