/-
  For every input of its parameter types the law footman 'HystFalls' returns true, and each argument reads afterwards as it read before.
  Conditions: none beside those of the given statement 'Rows.HystFallsSaid'.
  The frame (written by a small program of this proof set): it opens the arguments, hands them to the walk, and closes the row.
-/
import Derived.Test.YtbjfdmgfmdccgaaHystFallsWalk
namespace Go.Proofs.Ytbjfdmgfmdccgaa
open Go.ChangeShapes Go.WideShapes Go.ChangeAt Go.RowKit Go.Deep
set_option linter.unusedVariables false

set_option maxRecDepth 100000 in
theorem lifted_HystFalls (os : Os) (started : os.Started) (H : Type) (enc : TypeId × Value → H) :
    ReturnsInHanded {} Try.checked os 5 .any (Rows.hystFallsSpec.pre6 enc Try.prog Try.f5 Rows.hystFallsRow.domain false) (Rows.hystFallsSpec.post enc Try.prog Try.f5 false true false false) := by
  refine returnsInHanded_of_change (C := Try.checked) own started (by kernel_rfl) Try.func5
    (ChangeSpec.witness6 (enc := enc) (C := Try.checked) false ⟨#[], #[.agg #[.int .i64 0, .int .i64 0, .int .i64 0, .int .i64 0, .int .i64 0, .int .i64 0, .int .i64 0]], []⟩ 8 (by kernel_rfl) (by kernel_rfl) (by kernel_rfl) (by kernel_rfl)) ?_
  intro W base args ds gs before hval0 hW hcnd _
  have hval : ∀ (j : Nat) t v, Try.f5.params[j]? = some t → args[j]? = some v → Value.okWide Try.prog W .any base t v := hval0
  have hW' := hW
  obtain ⟨p, q, hA0, hV, rfl, hfz, hnd⟩ := hW
  have hA : DataW.TrodAll enc Try.prog W 0 (fun _ => true) true Try.f5.params.toList args.toList ds p := hA0
  rw [Try.params5] at hA hval
  obtain ⟨v0, vs0, d0, ds0, p0, q0, hargs, rfl, rfl, h0, r0⟩ := trodAll_cons hA
  obtain ⟨rfl, rfl, rfl⟩ := trodAll_nil r0
  obtain rfl : args = #[v0] := by cases args; simp_all
  obtain ⟨rfl, rfl⟩ := trodVars_none hV
  have lt0 := trod_below h0
  obtain ⟨l0, rfl, len0, get0⟩ := shape_struct Try.underlying28 (by kernel_rfl) (by kernel_rfl) (hval 0 28 v0 rfl rfl) h0
  obtain ⟨c0_0, c0_1, c0_2, c0_3, c0_4, c0_5, c0_6, rfl⟩ := list_7 l0 len0
  obtain ⟨x0_0, n0_0, y0_0, q0_0, t0_0⟩ := get0 0 _ rfl
  obtain rfl : c0_0 = x0_0 := Option.some.inj q0_0
  obtain ⟨s0_0, e0_0, _, w0_0⟩ := DataW.trod_int Try.underlying3 t0_0
  obtain rfl := List.head_eq_of_cons_eq e0_0
  obtain ⟨x0_1, n0_1, y0_1, q0_1, t0_1⟩ := get0 1 _ rfl
  obtain rfl : c0_1 = x0_1 := Option.some.inj q0_1
  obtain ⟨s0_1, e0_1, _, w0_1⟩ := DataW.trod_int Try.underlying3 t0_1
  obtain rfl := List.head_eq_of_cons_eq e0_1
  obtain ⟨x0_2, n0_2, y0_2, q0_2, t0_2⟩ := get0 2 _ rfl
  obtain rfl : c0_2 = x0_2 := Option.some.inj q0_2
  obtain ⟨s0_2, e0_2, _, w0_2⟩ := DataW.trod_int Try.underlying3 t0_2
  obtain rfl := List.head_eq_of_cons_eq e0_2
  obtain ⟨x0_3, n0_3, y0_3, q0_3, t0_3⟩ := get0 3 _ rfl
  obtain rfl : c0_3 = x0_3 := Option.some.inj q0_3
  obtain ⟨s0_3, e0_3, _, w0_3⟩ := DataW.trod_int Try.underlying3 t0_3
  obtain rfl := List.head_eq_of_cons_eq e0_3
  obtain ⟨x0_4, n0_4, y0_4, q0_4, t0_4⟩ := get0 4 _ rfl
  obtain rfl : c0_4 = x0_4 := Option.some.inj q0_4
  obtain ⟨s0_4, e0_4, _, w0_4⟩ := DataW.trod_int Try.underlying3 t0_4
  obtain rfl := List.head_eq_of_cons_eq e0_4
  obtain ⟨x0_5, n0_5, y0_5, q0_5, t0_5⟩ := get0 5 _ rfl
  obtain rfl : c0_5 = x0_5 := Option.some.inj q0_5
  obtain ⟨s0_5, e0_5, _, w0_5⟩ := DataW.trod_int Try.underlying3 t0_5
  obtain rfl := List.head_eq_of_cons_eq e0_5
  obtain ⟨x0_6, n0_6, y0_6, q0_6, t0_6⟩ := get0 6 _ rfl
  obtain rfl : c0_6 = x0_6 := Option.some.inj q0_6
  obtain ⟨s0_6, e0_6, _, w0_6⟩ := DataW.trod_int Try.underlying3 t0_6
  obtain rfl := List.head_eq_of_cons_eq e0_6
  clear hA0 hval0
  refine (walk_HystFalls s0_0 s0_1 s0_2 s0_3 s0_4 s0_5 s0_6 W w0_0 w0_1 w0_2 w0_3 w0_4 w0_5 w0_6).mono fun e W' ⟨he, bel⟩ => ?_
  subst he
  exact ⟨_, rfl, _, _, _, [], _, [], hW', trodAll_mk1 (shut_bool Try.underlying4 _), (trodAll_cons_mk (Below.trod laidOut (by kernel_rfl) (of_decide_eq_true (by kernel_rfl)) h0 bel lt0) trodAll_mk0), rfl, bel.frame _, fun h => by cases h⟩

theorem HystFalls_holds : Rows.HystFallsSaid :=
  OpenClaim.holds_of_wide 5 Try.f5 rfl rfl rfl rfl rfl rfl rfl ⟨rfl, rfl, rfl, rfl, rfl⟩ rfl rfl rfl rfl rfl (by kernel_rfl) Try.func5 (by kernel_rfl)
    (of_decide_eq_true (by kernel_rfl)) (by unfold Func.isWrapper; first | (rw [if_pos (by decide +kernel)]; kernel_rfl) | (rw [if_neg (by decide +kernel)]; exact ⟨rfl, rfl⟩))
    (fun os started H enc _ => lifted_HystFalls os started H enc)
#print axioms HystFalls_holds
end Go.Proofs.Ytbjfdmgfmdccgaa
