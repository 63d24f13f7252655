/-
  For every input of its parameter types the law footman 'SetsUnknown' returns true, and each argument reads afterwards as it read before.
  Conditions: none beside those of the given statement 'Rows.SetsUnknownSaid'.
  The frame (written by a small program of this proof set): it opens the arguments, hands them to the walk, and closes the row.
-/
import Derived.Test.YthjciimodemfpaaSetsUnknownWalk
namespace Go.Proofs.Ythjciimodemfpaa
open Go.ChangeShapes Go.WideShapes Go.ChangeAt Go.RowKit Go.Deep
set_option linter.unusedVariables false

set_option maxRecDepth 100000 in
theorem lifted_SetsUnknown (os : Os) (started : os.Started) (H : Type) (enc : TypeId × Value → H) :
    ReturnsInHanded {} Try.checked os 6 .any (Rows.setsUnknownSpec.pre6 enc Try.prog Try.f6 Rows.setsUnknownRow.domain false) (Rows.setsUnknownSpec.post enc Try.prog Try.f6 false true false false) := by
  refine returnsInHanded_of_change (C := Try.checked) own started (by kernel_rfl) Try.func6
    (ChangeSpec.witness6 (enc := enc) (C := Try.checked) false ⟨#[], #[.agg #[.int .i64 0, .int .i64 0, .int .i64 0, .int .i64 0, .int .i64 0, .int .i64 0], .slice none 0 0, .agg #[.int .u16 0, .int .u32 0]], []⟩ 8 (by kernel_rfl) (by kernel_rfl) (by kernel_rfl) (by kernel_rfl)) ?_
  intro W base args ds gs before hval0 hW hcnd _
  have hval : ∀ (j : Nat) t v, Try.f6.params[j]? = some t → args[j]? = some v → Value.okWide Try.prog W .any base t v := hval0
  have hW' := hW
  obtain ⟨p, q, hA0, hV, rfl, hfz, hnd⟩ := hW
  have hA : DataW.TrodAll enc Try.prog W 0 (fun _ => true) true Try.f6.params.toList args.toList ds p := hA0
  rw [Try.params6] at hA hval
  obtain ⟨v0, vs0, d0, ds0, p0, q0, hargs, rfl, rfl, h0, r0⟩ := trodAll_cons hA
  obtain ⟨v1, vs1, d1, ds1, p1, q1, rfl, rfl, rfl, h1, r1⟩ := trodAll_cons r0
  obtain ⟨v2, vs2, d2, ds2, p2, q2, rfl, rfl, rfl, h2, r2⟩ := trodAll_cons r1
  obtain ⟨rfl, rfl, rfl⟩ := trodAll_nil r2
  obtain rfl : args = #[v0, v1, v2] := by cases args; simp_all
  obtain ⟨rfl, rfl⟩ := trodVars_none hV
  have lt0 := trod_below h0
  have lt1 := trod_below h1
  have lt2 := trod_below h2
  obtain ⟨l0, rfl, len0, get0⟩ := shape_struct Try.underlying23 (by kernel_rfl) (by kernel_rfl) (hval 0 23 v0 rfl rfl) h0
  obtain ⟨c0_0, c0_1, c0_2, c0_3, c0_4, c0_5, rfl⟩ := list_6 l0 len0
  obtain ⟨x0_0, n0_0, y0_0, q0_0, t0_0⟩ := get0 0 _ rfl
  obtain rfl : c0_0 = x0_0 := Option.some.inj q0_0
  obtain ⟨s0_0, e0_0, _, w0_0⟩ := DataW.trod_int Try.underlying3 t0_0
  obtain rfl := List.head_eq_of_cons_eq e0_0
  obtain ⟨x0_1, n0_1, y0_1, q0_1, t0_1⟩ := get0 1 _ rfl
  obtain rfl : c0_1 = x0_1 := Option.some.inj q0_1
  obtain ⟨s0_1, e0_1, _, w0_1⟩ := DataW.trod_int Try.underlying3 t0_1
  obtain rfl := List.head_eq_of_cons_eq e0_1
  obtain ⟨x0_2, n0_2, y0_2, q0_2, t0_2⟩ := get0 2 _ rfl
  obtain rfl : c0_2 = x0_2 := Option.some.inj q0_2
  obtain ⟨s0_2, e0_2, _, w0_2⟩ := DataW.trod_int Try.underlying3 t0_2
  obtain rfl := List.head_eq_of_cons_eq e0_2
  obtain ⟨x0_3, n0_3, y0_3, q0_3, t0_3⟩ := get0 3 _ rfl
  obtain rfl : c0_3 = x0_3 := Option.some.inj q0_3
  obtain ⟨s0_3, e0_3, _, w0_3⟩ := DataW.trod_int Try.underlying3 t0_3
  obtain rfl := List.head_eq_of_cons_eq e0_3
  obtain ⟨x0_4, n0_4, y0_4, q0_4, t0_4⟩ := get0 4 _ rfl
  obtain rfl : c0_4 = x0_4 := Option.some.inj q0_4
  obtain ⟨s0_4, e0_4, _, w0_4⟩ := DataW.trod_int Try.underlying3 t0_4
  obtain rfl := List.head_eq_of_cons_eq e0_4
  obtain ⟨x0_5, n0_5, y0_5, q0_5, t0_5⟩ := get0 5 _ rfl
  obtain rfl : c0_5 = x0_5 := Option.some.inj q0_5
  obtain ⟨s0_5, e0_5, _, w0_5⟩ := DataW.trod_int Try.underlying3 t0_5
  obtain rfl := List.head_eq_of_cons_eq e0_5
  obtain ⟨a1, len1, cap1, xs1, rfl, w1⟩ := shape_aggs (nf := 2) (C := fun x : Int × Int => [Value.int .u16 x.1, Value.int .u32 x.2]) (G := fun x : Int × Int => (Lit.int .u16 x.1).wf = true ∧ (Lit.int .u32 x.2).wf = true) Try.underlying24 Try.underlying47 (by kernel_rfl) (by kernel_rfl) rfl (by decide) (hval 1 24 v1 rfl rfl) h1 (fun l hl get => by
      obtain ⟨c1_0, c1_1, rfl⟩ := list_2 l hl
      obtain ⟨x1_0, n1_0, y1_0, q1_0, t1_0⟩ := get 0 _ rfl
      obtain rfl : c1_0 = x1_0 := Option.some.inj q1_0
      obtain ⟨s1_0, e1_0, _, w1_0⟩ := DataW.trod_int Try.underlying45 t1_0
      obtain rfl := List.head_eq_of_cons_eq e1_0
      obtain ⟨x1_1, n1_1, y1_1, q1_1, t1_1⟩ := get 1 _ rfl
      obtain rfl : c1_1 = x1_1 := Option.some.inj q1_1
      obtain ⟨s1_1, e1_1, _, w1_1⟩ := DataW.trod_int Try.underlying27 t1_1
      obtain rfl := List.head_eq_of_cons_eq e1_1
      exact ⟨(s1_0, s1_1), rfl, ⟨w1_0, w1_1⟩⟩)
  obtain ⟨l2, rfl, len2, get2⟩ := shape_struct Try.underlying47 (by kernel_rfl) (by kernel_rfl) (hval 2 47 v2 rfl rfl) h2
  obtain ⟨c2_0, c2_1, rfl⟩ := list_2 l2 len2
  obtain ⟨x2_0, n2_0, y2_0, q2_0, t2_0⟩ := get2 0 _ rfl
  obtain rfl : c2_0 = x2_0 := Option.some.inj q2_0
  obtain ⟨s2_0, e2_0, _, w2_0⟩ := DataW.trod_int Try.underlying45 t2_0
  obtain rfl := List.head_eq_of_cons_eq e2_0
  obtain ⟨x2_1, n2_1, y2_1, q2_1, t2_1⟩ := get2 1 _ rfl
  obtain rfl : c2_1 = x2_1 := Option.some.inj q2_1
  obtain ⟨s2_1, e2_1, _, w2_1⟩ := DataW.trod_int Try.underlying27 t2_1
  obtain rfl := List.head_eq_of_cons_eq e2_1
  clear hA0 hval0
  refine (walk_SetsUnknown s0_0 s0_1 s0_2 s0_3 s0_4 s0_5 a1 len1 cap1 xs1 s2_0 s2_1 W w0_0 w0_1 w0_2 w0_3 w0_4 w0_5 w1 w2_0 w2_1).mono fun e W' ⟨he, bel⟩ => ?_
  subst he
  exact ⟨_, rfl, _, _, _, [], _, [], hW', trodAll_mk1 (shut_bool Try.underlying4 _), (trodAll_cons_mk (Below.trod laidOut (by kernel_rfl) (of_decide_eq_true (by kernel_rfl)) h0 bel lt0) (trodAll_cons_mk (Below.trod laidOut (by kernel_rfl) (of_decide_eq_true (by kernel_rfl)) h1 bel lt1) (trodAll_cons_mk (Below.trod laidOut (by kernel_rfl) (of_decide_eq_true (by kernel_rfl)) h2 bel lt2) trodAll_mk0))), rfl, bel.frame _, fun h => by cases h⟩

theorem SetsUnknown_holds : Rows.SetsUnknownSaid :=
  OpenClaim.holds_of_wide 6 Try.f6 rfl rfl rfl rfl rfl rfl rfl ⟨rfl, rfl, rfl, rfl, rfl⟩ rfl rfl rfl rfl rfl (by kernel_rfl) Try.func6 (by kernel_rfl)
    (of_decide_eq_true (by kernel_rfl)) (by unfold Func.isWrapper; first | (rw [if_pos (by decide +kernel)]; kernel_rfl) | (rw [if_neg (by decide +kernel)]; exact ⟨rfl, rfl⟩))
    (fun os started H enc _ => lifted_SetsUnknown os started H enc)
#print axioms SetsUnknown_holds
end Go.Proofs.Ythjciimodemfpaa
