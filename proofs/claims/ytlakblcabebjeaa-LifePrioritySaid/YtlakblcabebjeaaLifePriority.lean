/-
  For every input of its parameter types the law footman 'LifePriority' returns true, and each argument reads afterwards as it read before.
  Conditions: none beside those of the given statement 'Rows.LifePrioritySaid'.
  The frame (written by a small program of this proof set): it opens the arguments, hands them to the walk, and closes the row.
-/
import Derived.Test.YtlakblcabebjeaaLifePriorityWalk
namespace Go.Proofs.Ytlakblcabebjeaa
open Go.ChangeShapes Go.WideShapes Go.ChangeAt Go.RowKit Go.Deep
set_option linter.unusedVariables false

set_option maxRecDepth 100000 in
theorem lifted_LifePriority (os : Os) (started : os.Started) (H : Type) (enc : TypeId × Value → H) :
    ReturnsInHanded {} Try.checked os 6 .any (Rows.lifePrioritySpec.pre6 enc Try.prog Try.f6 Rows.lifePriorityRow.domain false) (Rows.lifePrioritySpec.post enc Try.prog Try.f6 false true false false) := by
  refine returnsInHanded_of_change (C := Try.checked) own started (by kernel_rfl) Try.func6
    (ChangeSpec.witness6 (enc := enc) (C := Try.checked) false ⟨#[], #[.int .u8 0, .slice none 0 0, .int .u8 0], []⟩ 8 (by kernel_rfl) (by kernel_rfl) (by kernel_rfl) (by kernel_rfl)) ?_
  intro W base args ds gs before hval0 hW hcnd _
  have hval : ∀ (j : Nat) t v, Try.f6.params[j]? = some t → args[j]? = some v → Value.okWide Try.prog W .any base t v := hval0
  have hW' := hW
  obtain ⟨p, q, hA0, hV, rfl, hfz, hnd⟩ := hW
  have hA : DataW.TrodAll enc Try.prog W 0 (fun _ => true) true Try.f6.params.toList args.toList ds p := hA0
  rw [Try.params6] at hA hval
  obtain ⟨v0, vs0, d0, ds0, p0, q0, hargs, rfl, rfl, h0, r0⟩ := trodAll_cons hA
  obtain ⟨v1, vs1, d1, ds1, p1, q1, rfl, rfl, rfl, h1, r1⟩ := trodAll_cons r0
  obtain ⟨v2, vs2, d2, ds2, p2, q2, rfl, rfl, rfl, h2, r2⟩ := trodAll_cons r1
  obtain ⟨rfl, rfl, rfl⟩ := trodAll_nil r2
  obtain rfl : args = #[v0, v1, v2] := by cases args; simp_all
  obtain ⟨rfl, rfl⟩ := trodVars_none hV
  have lt0 := trod_below h0
  have lt1 := trod_below h1
  have lt2 := trod_below h2
  obtain ⟨a0, rfl, w0⟩ := shape_int Try.underlying5 (hval 0 5 v0 rfl rfl) h0
  obtain ⟨a1, len1, cap1, xs1, rfl, w1⟩ := shape_aggs (nf := 2) (C := fun x : Int × Bool => [Value.int .u8 x.1, Value.bool x.2]) (G := fun x : Int × Bool => (Lit.int .u8 x.1).wf = true) Try.underlying39 Try.underlying23 (by kernel_rfl) (by kernel_rfl) rfl (by decide) (hval 1 39 v1 rfl rfl) h1 (fun l hl get => by
      obtain ⟨c1_0, c1_1, rfl⟩ := list_2 l hl
      obtain ⟨x1_0, n1_0, y1_0, q1_0, t1_0⟩ := get 0 _ rfl
      obtain rfl : c1_0 = x1_0 := Option.some.inj q1_0
      obtain ⟨s1_0, e1_0, _, w1_0⟩ := DataW.trod_int Try.underlying5 t1_0
      obtain rfl := List.head_eq_of_cons_eq e1_0
      obtain ⟨x1_1, n1_1, y1_1, q1_1, t1_1⟩ := get 1 _ rfl
      obtain rfl : c1_1 = x1_1 := Option.some.inj q1_1
      obtain ⟨s1_1, e1_1, _⟩ := DataW.trod_bool Try.underlying4 t1_1
      obtain rfl := List.head_eq_of_cons_eq e1_1
      exact ⟨(s1_0, s1_1), rfl, w1_0⟩)
  obtain ⟨a2, rfl, w2⟩ := shape_int Try.underlying5 (hval 2 5 v2 rfl rfl) h2
  clear hA0 hval0
  refine (walk_LifePriority a0 a1 len1 cap1 xs1 a2 W w0 w1 w2).mono fun e W' ⟨he, bel⟩ => ?_
  subst he
  exact ⟨_, rfl, _, _, _, [], _, [], hW', trodAll_mk1 (shut_bool Try.underlying4 _), (trodAll_cons_mk (Below.trod laidOut (by kernel_rfl) (of_decide_eq_true (by kernel_rfl)) h0 bel lt0) (trodAll_cons_mk (Below.trod laidOut (by kernel_rfl) (of_decide_eq_true (by kernel_rfl)) h1 bel lt1) (trodAll_cons_mk (Below.trod laidOut (by kernel_rfl) (of_decide_eq_true (by kernel_rfl)) h2 bel lt2) trodAll_mk0))), rfl, bel.frame _, fun h => by cases h⟩

theorem LifePriority_holds : Rows.LifePrioritySaid :=
  OpenClaim.holds_of_wide 6 Try.f6 rfl rfl rfl rfl rfl rfl rfl ⟨rfl, rfl, rfl, rfl, rfl⟩ rfl rfl rfl rfl rfl (by kernel_rfl) Try.func6 (by kernel_rfl)
    (of_decide_eq_true (by kernel_rfl)) (by unfold Func.isWrapper; first | (rw [if_pos (by decide +kernel)]; kernel_rfl) | (rw [if_neg (by decide +kernel)]; exact ⟨rfl, rfl⟩))
    (fun os started H enc _ => lifted_LifePriority os started H enc)
#print axioms LifePriority_holds
end Go.Proofs.Ytlakblcabebjeaa
