import Derived.Test.YtdonnbfojcggmaaGreatUAck
namespace Go.Proofs.YtdonnbfojcggmaaGreat
open Go.RowKit
attribute [local go_sem ↓] Go.wp_at_zero Go.wp_at_succ

/-- Do the first settings wait for too long? -/
def lateB : List It → Int → Bool
  | [], _ => false
  | x :: _, now => decide (30 ≤ now - x.t)
set_option maxRecDepth 100000 in
set_option maxHeartbeats 1600000 in
theorem ulate_any (A : Option Addr) (n cap : Nat) (l : List It) (now : Int) (w : World) (hl : ItsOk w A n cap l) (hnow : 0 ≤ now ∧ now ≤ 1099511627776) (hT : ∀ x ∈ l, x.t ≤ now) : Calls Tryz.prog 29 #[.slice A n cap, .int .i64 now, .int .i64 30] w (BoolSame w (lateB l now)) := by
  cases l with
  | nil =>
    obtain rfl : n = 0 := hl.len.symm
    clear hl hT hnow
    go_enter Tryz.func29, Tryz.ntmps29
    go_wp2_with fail
    go_ret
    exact ⟨rfl, rfl⟩
  | cons x l =>
    obtain ⟨b, off, rfl, hlt, hc⟩ := hl.row.at (i := 0) (x := x) rfl
    have hc1 := hc 1 _ rfl
    simp only [Nat.add_zero, Nat.zero_mul] at hc1
    have hx := (hl.num x (List.mem_cons_self)).2
    have hle := hT x (List.mem_cons_self)
    have hn := hl.len
    have hn0 : (0 : Int) < (n : Int) := by rw [← hn]; simp
    have hn1 : ¬ (n : Int) = 0 := by omega
    rw [show lateB (x :: l) now = decide (30 ≤ now - x.t) from rfl]
    generalize x.t = xt at hc1 hx hle ⊢
    have hnl : ¬ now < xt := by omega
    have hw1 : IntKind.u64.wrap now = now := IntWalk.u64_in _ (by omega)
    have hw2 : IntKind.u64.wrap xt = xt := IntWalk.u64_in _ (by omega)
    have hw3 : IntKind.u64.wrap (now - xt) = now - xt := IntWalk.u64_in _ (by omega)
    clear hc hl hT hn hnow hx hle
    by_cases h30 : 30 ≤ now - xt
    · rw [decide_eq_true h30]
      go_enter Tryz.func29, Tryz.ntmps29
      go_wp2_with fail
      go_ret
      exact ⟨by simp [h30], rfl⟩
    · rw [decide_eq_false h30]
      go_enter Tryz.func29, Tryz.ntmps29
      go_wp2_with fail
      go_ret
      exact ⟨by simp [h30], rfl⟩
end Go.Proofs.YtdonnbfojcggmaaGreat
