/-
  For every input of its parameter types the law footman 'TopEnds' returns true, and each argument reads afterwards as it read before.
  Conditions: none beside those of the given statement 'Rows.TopEndsSaid'.
  The frame (written by a small program of this proof set): it opens the arguments, hands them to the walk, and closes the row.
-/
import Derived.Test.YtfpagiojdgdbeaaTopEndsWalk
namespace Go.Proofs.Ytfpagiojdgdbeaa
open Go.ChangeShapes Go.WideShapes Go.ChangeAt Go.RowKit Go.Deep
set_option linter.unusedVariables false

set_option maxRecDepth 100000 in
theorem lifted_TopEnds (os : Os) (started : os.Started) (H : Type) (enc : TypeId × Value → H) :
    ReturnsInHanded {} Try.checked os 3 .any (Rows.topEndsSpec.pre6 enc Try.prog Try.f3 Rows.topEndsRow.domain false) (Rows.topEndsSpec.post enc Try.prog Try.f3 false true false false) := by
  refine returnsInHanded_of_change (C := Try.checked) own started (by kernel_rfl) Try.func3
    (ChangeSpec.witness6 (enc := enc) (C := Try.checked) false ⟨#[], #[.agg #[.int .u8 0, .int .u8 0, .int .u8 0], .slice none 0 0, .slice none 0 0], []⟩ 8 (by kernel_rfl) (by kernel_rfl) (by kernel_rfl) (by kernel_rfl)) ?_
  intro W base args ds gs before hval0 hW hcnd _
  have hval : ∀ (j : Nat) t v, Try.f3.params[j]? = some t → args[j]? = some v → Value.okWide Try.prog W .any base t v := hval0
  have hW' := hW
  obtain ⟨p, q, hA0, hV, rfl, hfz, hnd⟩ := hW
  have hA : DataW.TrodAll enc Try.prog W 0 (fun _ => true) true Try.f3.params.toList args.toList ds p := hA0
  rw [Try.params3] at hA hval
  obtain ⟨v0, vs0, d0, ds0, p0, q0, hargs, rfl, rfl, h0, r0⟩ := trodAll_cons hA
  obtain ⟨v1, vs1, d1, ds1, p1, q1, rfl, rfl, rfl, h1, r1⟩ := trodAll_cons r0
  obtain ⟨v2, vs2, d2, ds2, p2, q2, rfl, rfl, rfl, h2, r2⟩ := trodAll_cons r1
  obtain ⟨rfl, rfl, rfl⟩ := trodAll_nil r2
  obtain rfl : args = #[v0, v1, v2] := by cases args; simp_all
  obtain ⟨rfl, rfl⟩ := trodVars_none hV
  have lt0 := trod_below h0
  have lt1 := trod_below h1
  have lt2 := trod_below h2
  obtain ⟨l0, rfl, len0, get0⟩ := shape_array Try.underlying22 (by kernel_rfl) (by kernel_rfl) (hval 0 22 v0 rfl rfl) h0
  obtain ⟨c0_0, c0_1, c0_2, rfl⟩ := list_3 l0 len0
  obtain ⟨x0_0, n0_0, y0_0, q0_0, t0_0⟩ := get0 0 (by omega)
  obtain rfl : c0_0 = x0_0 := Option.some.inj q0_0
  obtain ⟨s0_0, e0_0, _, w0_0⟩ := DataW.trod_int Try.underlying5 t0_0
  obtain rfl := List.head_eq_of_cons_eq e0_0
  obtain ⟨x0_1, n0_1, y0_1, q0_1, t0_1⟩ := get0 1 (by omega)
  obtain rfl : c0_1 = x0_1 := Option.some.inj q0_1
  obtain ⟨s0_1, e0_1, _, w0_1⟩ := DataW.trod_int Try.underlying5 t0_1
  obtain rfl := List.head_eq_of_cons_eq e0_1
  obtain ⟨x0_2, n0_2, y0_2, q0_2, t0_2⟩ := get0 2 (by omega)
  obtain rfl : c0_2 = x0_2 := Option.some.inj q0_2
  obtain ⟨s0_2, e0_2, _, w0_2⟩ := DataW.trod_int Try.underlying5 t0_2
  obtain rfl := List.head_eq_of_cons_eq e0_2
  obtain ⟨a1, len1, cap1, xs1, rfl, w1⟩ := shape_ints Try.underlying23 Try.underlying5 (by kernel_rfl) (hval 1 23 v1 rfl rfl) h1
  obtain ⟨a2, len2, cap2, xs2, rfl, w2⟩ := shape_ints Try.underlying23 Try.underlying5 (by kernel_rfl) (hval 2 23 v2 rfl rfl) h2
  clear hA0 hval0
  refine (walk_TopEnds s0_0 s0_1 s0_2 a1 len1 cap1 xs1 a2 len2 cap2 xs2 W w0_0 w0_1 w0_2 w1 w2).mono fun e W' ⟨he, bel⟩ => ?_
  subst he
  exact ⟨_, rfl, _, _, _, [], _, [], hW', trodAll_mk1 (shut_bool Try.underlying4 _), (trodAll_cons_mk (Below.trod laidOut (by kernel_rfl) (of_decide_eq_true (by kernel_rfl)) h0 bel lt0) (trodAll_cons_mk (Below.trod laidOut (by kernel_rfl) (of_decide_eq_true (by kernel_rfl)) h1 bel lt1) (trodAll_cons_mk (Below.trod laidOut (by kernel_rfl) (of_decide_eq_true (by kernel_rfl)) h2 bel lt2) trodAll_mk0))), rfl, bel.frame _, fun h => by cases h⟩

theorem TopEnds_holds : Rows.TopEndsSaid :=
  OpenClaim.holds_of_wide 3 Try.f3 rfl rfl rfl rfl rfl rfl rfl ⟨rfl, rfl, rfl, rfl, rfl⟩ rfl rfl rfl rfl rfl (by kernel_rfl) Try.func3 (by kernel_rfl)
    (of_decide_eq_true (by kernel_rfl)) (by unfold Func.isWrapper; first | (rw [if_pos (by decide +kernel)]; kernel_rfl) | (rw [if_neg (by decide +kernel)]; exact ⟨rfl, rfl⟩))
    (fun os started H enc _ => lifted_TopEnds os started H enc)
#print axioms TopEnds_holds
end Go.Proofs.Ytfpagiojdgdbeaa
