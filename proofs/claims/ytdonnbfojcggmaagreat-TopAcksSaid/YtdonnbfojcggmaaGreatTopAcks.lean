/-
  For every input of its parameter types the law footman 'TopAcks' returns true, and each argument reads afterwards as it read before.
  Conditions: none beside those of the given statement 'Rows.TopAcksSaid'.
  The frame (written by a small program of this proof set): it opens the arguments, hands them to the walk, and closes the row.
-/
import Derived.Test.YtdonnbfojcggmaaGreatTopAcksWalk
namespace Go.Proofs.YtdonnbfojcggmaaGreat
open Go.ChangeShapes Go.WideShapes Go.ChangeAt Go.RowKit Go.Deep
set_option linter.unusedVariables false

set_option maxRecDepth 100000 in
theorem lifted_TopAcks (os : Os) (started : os.Started) (H : Type) (enc : TypeId × Value → H) :
    ReturnsInHanded {} Tryz.checked os 3 .any (Rows.topAcksSpec.pre6 enc Tryz.prog Tryz.f3 Rows.topAcksRow.domain false) (Rows.topAcksSpec.post enc Tryz.prog Tryz.f3 false true false false) := by
  refine returnsInHanded_of_change (C := Tryz.checked) own started (by kernel_rfl) Tryz.func3
    (ChangeSpec.witness6 (enc := enc) (C := Tryz.checked) false ⟨#[], #[.slice none 0 0], []⟩ 8 (by kernel_rfl) (by kernel_rfl) (by kernel_rfl) (by kernel_rfl)) ?_
  intro W base args ds gs before hval0 hW hcnd _
  have hval : ∀ (j : Nat) t v, Tryz.f3.params[j]? = some t → args[j]? = some v → Value.okWide Tryz.prog W .any base t v := hval0
  have hW' := hW
  obtain ⟨p, q, hA0, hV, rfl, hfz, hnd⟩ := hW
  have hA : DataW.TrodAll enc Tryz.prog W 0 (fun _ => true) true Tryz.f3.params.toList args.toList ds p := hA0
  rw [Tryz.params3] at hA hval
  obtain ⟨v0, vs0, d0, ds0, p0, q0, hargs, rfl, rfl, h0, r0⟩ := trodAll_cons hA
  obtain ⟨rfl, rfl, rfl⟩ := trodAll_nil r0
  obtain rfl : args = #[v0] := by cases args; simp_all
  obtain ⟨rfl, rfl⟩ := trodVars_none hV
  have lt0 := trod_below h0
  obtain ⟨a0, len0, cap0, xs0, rfl, w0⟩ := shape_aggs (nf := 2) (C := fun x : Int × Int => [Value.int .u8 x.1, Value.int .u8 x.2]) (G := fun x : Int × Int => (Lit.int .u8 x.1).wf = true ∧ (Lit.int .u8 x.2).wf = true) Tryz.underlying22 Tryz.underlying63 (by kernel_rfl) (by kernel_rfl) rfl (by decide) (hval 0 22 v0 rfl rfl) h0 (fun l hl get => by
      obtain ⟨c0_0, c0_1, rfl⟩ := list_2 l hl
      obtain ⟨x0_0, n0_0, y0_0, q0_0, t0_0⟩ := get 0 _ rfl
      obtain rfl : c0_0 = x0_0 := Option.some.inj q0_0
      obtain ⟨s0_0, e0_0, _, w0_0⟩ := DataW.trod_int Tryz.underlying5 t0_0
      obtain rfl := List.head_eq_of_cons_eq e0_0
      obtain ⟨x0_1, n0_1, y0_1, q0_1, t0_1⟩ := get 1 _ rfl
      obtain rfl : c0_1 = x0_1 := Option.some.inj q0_1
      obtain ⟨s0_1, e0_1, _, w0_1⟩ := DataW.trod_int Tryz.underlying5 t0_1
      obtain rfl := List.head_eq_of_cons_eq e0_1
      exact ⟨(s0_0, s0_1), rfl, ⟨w0_0, w0_1⟩⟩)
  clear hA0 hval0
  refine (walk_TopAcks a0 len0 cap0 xs0 W w0).mono fun e W' ⟨he, bel⟩ => ?_
  subst he
  exact ⟨_, rfl, _, _, _, [], _, [], hW', trodAll_mk1 (shut_bool Tryz.underlying4 _), (trodAll_cons_mk (Below.trod laidOut (by kernel_rfl) (of_decide_eq_true (by kernel_rfl)) h0 bel lt0) trodAll_mk0), rfl, bel.frame _, fun h => by cases h⟩

theorem TopAcks_holds : Rows.TopAcksSaid :=
  OpenClaim.holds_of_wide 3 Tryz.f3 rfl rfl rfl rfl rfl rfl rfl ⟨rfl, rfl, rfl, rfl, rfl⟩ rfl rfl rfl rfl rfl (by kernel_rfl) Tryz.func3 (by kernel_rfl)
    (of_decide_eq_true (by kernel_rfl)) (by unfold Func.isWrapper; first | (rw [if_pos (by decide +kernel)]; kernel_rfl) | (rw [if_neg (by decide +kernel)]; exact ⟨rfl, rfl⟩))
    (fun os started H enc _ => lifted_TopAcks os started H enc)
#print axioms TopAcks_holds
end Go.Proofs.YtdonnbfojcggmaaGreat
