/-
  For every input of its parameter types the law footman 'LifeEnds' returns true, and each argument reads afterwards as it read before.
  Conditions: none beside those of the given statement 'Rows.LifeEndsSaid'.
  The frame (written by a small program of this proof set): it opens the arguments, hands them to the walk, and closes the row.
-/
import Derived.Test.YtlakblcabebjeaaLifeEndsWalk
namespace Go.Proofs.Ytlakblcabebjeaa
open Go.ChangeShapes Go.WideShapes Go.ChangeAt Go.RowKit Go.Deep
set_option linter.unusedVariables false

set_option maxRecDepth 100000 in
theorem lifted_LifeEnds (os : Os) (started : os.Started) (H : Type) (enc : TypeId × Value → H) :
    ReturnsInHanded {} Try.checked os 5 .any (Rows.lifeEndsSpec.pre6 enc Try.prog Try.f5 Rows.lifeEndsRow.domain false) (Rows.lifeEndsSpec.post enc Try.prog Try.f5 false true false false) := by
  refine returnsInHanded_of_change (C := Try.checked) own started (by kernel_rfl) Try.func5
    (ChangeSpec.witness6 (enc := enc) (C := Try.checked) false ⟨#[], #[.slice none 0 0], []⟩ 8 (by kernel_rfl) (by kernel_rfl) (by kernel_rfl) (by kernel_rfl)) ?_
  intro W base args ds gs before hval0 hW hcnd _
  have hval : ∀ (j : Nat) t v, Try.f5.params[j]? = some t → args[j]? = some v → Value.okWide Try.prog W .any base t v := hval0
  have hW' := hW
  obtain ⟨p, q, hA0, hV, rfl, hfz, hnd⟩ := hW
  have hA : DataW.TrodAll enc Try.prog W 0 (fun _ => true) true Try.f5.params.toList args.toList ds p := hA0
  rw [Try.params5] at hA hval
  obtain ⟨v0, vs0, d0, ds0, p0, q0, hargs, rfl, rfl, h0, r0⟩ := trodAll_cons hA
  obtain ⟨rfl, rfl, rfl⟩ := trodAll_nil r0
  obtain rfl : args = #[v0] := by cases args; simp_all
  obtain ⟨rfl, rfl⟩ := trodVars_none hV
  have lt0 := trod_below h0
  obtain ⟨a0, len0, cap0, xs0, rfl, w0⟩ := shape_aggs (nf := 2) (C := fun x : Int × Bool => [Value.int .u8 x.1, Value.bool x.2]) (G := fun x : Int × Bool => (Lit.int .u8 x.1).wf = true) Try.underlying39 Try.underlying23 (by kernel_rfl) (by kernel_rfl) rfl (by decide) (hval 0 39 v0 rfl rfl) h0 (fun l hl get => by
      obtain ⟨c0_0, c0_1, rfl⟩ := list_2 l hl
      obtain ⟨x0_0, n0_0, y0_0, q0_0, t0_0⟩ := get 0 _ rfl
      obtain rfl : c0_0 = x0_0 := Option.some.inj q0_0
      obtain ⟨s0_0, e0_0, _, w0_0⟩ := DataW.trod_int Try.underlying5 t0_0
      obtain rfl := List.head_eq_of_cons_eq e0_0
      obtain ⟨x0_1, n0_1, y0_1, q0_1, t0_1⟩ := get 1 _ rfl
      obtain rfl : c0_1 = x0_1 := Option.some.inj q0_1
      obtain ⟨s0_1, e0_1, _⟩ := DataW.trod_bool Try.underlying4 t0_1
      obtain rfl := List.head_eq_of_cons_eq e0_1
      exact ⟨(s0_0, s0_1), rfl, w0_0⟩)
  clear hA0 hval0
  refine (walk_LifeEnds a0 len0 cap0 xs0 W w0).mono fun e W' ⟨he, bel⟩ => ?_
  subst he
  exact ⟨_, rfl, _, _, _, [], _, [], hW', trodAll_mk1 (shut_bool Try.underlying4 _), (trodAll_cons_mk (Below.trod laidOut (by kernel_rfl) (of_decide_eq_true (by kernel_rfl)) h0 bel lt0) trodAll_mk0), rfl, bel.frame _, fun h => by cases h⟩

theorem LifeEnds_holds : Rows.LifeEndsSaid :=
  OpenClaim.holds_of_wide 5 Try.f5 rfl rfl rfl rfl rfl rfl rfl ⟨rfl, rfl, rfl, rfl, rfl⟩ rfl rfl rfl rfl rfl (by kernel_rfl) Try.func5 (by kernel_rfl)
    (of_decide_eq_true (by kernel_rfl)) (by unfold Func.isWrapper; first | (rw [if_pos (by decide +kernel)]; kernel_rfl) | (rw [if_neg (by decide +kernel)]; exact ⟨rfl, rfl⟩))
    (fun os started H enc _ => lifted_LifeEnds os started H enc)
#print axioms LifeEnds_holds
end Go.Proofs.Ytlakblcabebjeaa
