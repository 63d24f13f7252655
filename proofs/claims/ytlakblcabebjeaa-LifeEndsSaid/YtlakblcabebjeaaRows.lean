/-
  No cell of these rows narrows 'for every input' (looked for: loops, veiled, ifaces, maps, wideKeys, modest, calm, conditions, laid).
  DERIVED. THE GIVEN ROWS OF THIS SEAT. 4 by the template 'for every input the law returns true; each argument reads behind the call as it read before'; 0 by the template 'total and deterministic' (their statements: YtlakblcabebjeaaTotals.lean).
  GIVEN WITH THE SEED: the statements are not yours to turn. If you find one false, say at which input.
  Laid BY PROGRAM, IN A SANDBOX (cutbox-rows.mjs): the forced cells as the released guide's own fill.sh prints them over the translation 0d4d8e240f6e2313… (all of the seat's roots in one cut). By AI agents, Wed Nov 11 2026. No macro, syntax, notation, axiom, sorry.
-/
import Derived.Test.YtlakblcabebjeaaChecked
import GoSem.Claim
import GoSem.ClaimJoined
import GoSem.ClaimMapViews
import Derived.JoinedTies
import Derived.KernelRfl
namespace Go.Proofs.Ytlakblcabebjeaa
/- THE CELL 'sum', in the pinned program and in every row, IS THE sha256 OF THE DUMP (.gsa) THAT YtlakblcabebjeaaProg.lean LOADS. Nothing in Lean hashes anything: it is a label: what it is worth is what the hold of that sum in a sandbox is worth. -/
noncomputable def Try.pinned : Pinned := { name := "ytlakblcabebjeaa", sum := "0d4d8e240f6e23139190a2f2dda1dd5968b125d35a8af6e0ea1c4823d0b91d85", checked := Try.checked }
namespace Rows
def none {H : Type} : Left H := { results := [], args := [] }

/-- 'footmanlaw16.LifeSteps': WHATEVER THE INPUT: true; the input reads as it did. -/
def lifeStepsSpec : ChangeSpec := { name := "lifeSteps", fn := fun _ => fun
  | [d1, d2] => { results := [.lit (.bool true)], args := [d1, d2] }
  | _ => none }
def lifeStepsRow : OpenClaim := { program := "ytlakblcabebjeaa", sum := "0d4d8e240f6e23139190a2f2dda1dd5968b125d35a8af6e0ea1c4823d0b91d85", func := "footman/footmanlaw16.LifeSteps", spec := "lifeSteps", apart := false }
def LifeStepsSaid : Prop := lifeStepsRow.holds Try.pinned (OpenSpec.ofChange lifeStepsSpec)

/-- ITS FALSE NEIGHBOUR: 'it returns false'. Refute it at one input. -/
def lifeStepsWrong : ChangeSpec := { name := "lifeSteps", fn := fun _ => fun
  | [d1, d2] => { results := [.lit (.bool false)], args := [d1, d2] }
  | _ => none }
def LifeStepsWrongFalsely : Prop := lifeStepsRow.holds Try.pinned (OpenSpec.ofChange lifeStepsWrong)

/-- 'footmanlaw16.LifeRuns': WHATEVER THE INPUT: true; the input reads as it did. -/
def lifeRunsSpec : ChangeSpec := { name := "lifeRuns", fn := fun _ => fun
  | [d1, d2] => { results := [.lit (.bool true)], args := [d1, d2] }
  | _ => none }
def lifeRunsRow : OpenClaim := { program := "ytlakblcabebjeaa", sum := "0d4d8e240f6e23139190a2f2dda1dd5968b125d35a8af6e0ea1c4823d0b91d85", func := "footman/footmanlaw16.LifeRuns", spec := "lifeRuns", apart := false }
def LifeRunsSaid : Prop := lifeRunsRow.holds Try.pinned (OpenSpec.ofChange lifeRunsSpec)

/-- ITS FALSE NEIGHBOUR: 'it returns false'. Refute it at one input. -/
def lifeRunsWrong : ChangeSpec := { name := "lifeRuns", fn := fun _ => fun
  | [d1, d2] => { results := [.lit (.bool false)], args := [d1, d2] }
  | _ => none }
def LifeRunsWrongFalsely : Prop := lifeRunsRow.holds Try.pinned (OpenSpec.ofChange lifeRunsWrong)

/-- 'footmanlaw16.LifeEnds': WHATEVER THE INPUT: true; the input reads as it did. -/
def lifeEndsSpec : ChangeSpec := { name := "lifeEnds", fn := fun _ => fun
  | [d] => { results := [.lit (.bool true)], args := [d] }
  | _ => none }
def lifeEndsRow : OpenClaim := { program := "ytlakblcabebjeaa", sum := "0d4d8e240f6e23139190a2f2dda1dd5968b125d35a8af6e0ea1c4823d0b91d85", func := "footman/footmanlaw16.LifeEnds", spec := "lifeEnds", apart := false }
def LifeEndsSaid : Prop := lifeEndsRow.holds Try.pinned (OpenSpec.ofChange lifeEndsSpec)

/-- ITS FALSE NEIGHBOUR: 'it returns false'. Refute it at one input. -/
def lifeEndsWrong : ChangeSpec := { name := "lifeEnds", fn := fun _ => fun
  | [d] => { results := [.lit (.bool false)], args := [d] }
  | _ => none }
def LifeEndsWrongFalsely : Prop := lifeEndsRow.holds Try.pinned (OpenSpec.ofChange lifeEndsWrong)

/-- 'footmanlaw16.LifePriority': WHATEVER THE INPUT: true; the input reads as it did. -/
def lifePrioritySpec : ChangeSpec := { name := "lifePriority", fn := fun _ => fun
  | [d1, d2, d3] => { results := [.lit (.bool true)], args := [d1, d2, d3] }
  | _ => none }
def lifePriorityRow : OpenClaim := { program := "ytlakblcabebjeaa", sum := "0d4d8e240f6e23139190a2f2dda1dd5968b125d35a8af6e0ea1c4823d0b91d85", func := "footman/footmanlaw16.LifePriority", spec := "lifePriority", apart := false }
def LifePrioritySaid : Prop := lifePriorityRow.holds Try.pinned (OpenSpec.ofChange lifePrioritySpec)

/-- ITS FALSE NEIGHBOUR: 'it returns false'. Refute it at one input. -/
def lifePriorityWrong : ChangeSpec := { name := "lifePriority", fn := fun _ => fun
  | [d1, d2, d3] => { results := [.lit (.bool false)], args := [d1, d2, d3] }
  | _ => none }
def LifePriorityWrongFalsely : Prop := lifePriorityRow.holds Try.pinned (OpenSpec.ofChange lifePriorityWrong)

/- THE SECOND FORM. 'bulk': how many values and letters a reading holds, each counted each time it is reached (what is shared counts as often as it is met; a slice's spare places count too). A statement '..UptoSaid' is the law's where the arguments, and the package variables that the reading takes, are together of bulk at most 1048576: NARROWER than '..Said'. Prove '..Said' where nothing that the law and all that it calls make is longer than what came in: it says more and counts as full. Else prove '..UptoSaid'. A law counts once. -/
mutual
def uptoBulk {H : Type} : DataW H → Nat
  | .lit (.string bytes) => bytes.length + 1
  | .lit _ => 1
  | .nil => 1
  | .ptr d => uptoBulk d + 1
  | .slice elems spare => uptoBulkAll elems + uptoBulkAll spare + 1
  | .agg parts => uptoBulkAll parts + 1
  | .iface _ d => uptoBulk d + 1
  | .map entries => uptoBulkEntries entries + 1
  | .held _ => 1
def uptoBulkAll {H : Type} : List (DataW H) → Nat
  | [] => 0
  | d :: r => uptoBulk d + uptoBulkAll r
def uptoBulkEntries {H : Type} : List (Lit × DataW H) → Nat
  | [] => 0
  | x :: r => uptoBulkEntry x + uptoBulkEntries r
def uptoBulkEntry {H : Type} : Lit × DataW H → Nat
  | (.string bytes, d) => bytes.length + uptoBulk d + 1
  | (_, d) => uptoBulk d + 1
 end
def uptoSmall : (H : Type) → List (DataW H) → Bool := fun _ ds => decide (uptoBulkAll ds ≤ 1048576)
def OpenSpec.upto (s : _root_.Go.ChangeSpec) : _root_.Go.OpenSpec := { _root_.Go.OpenSpec.ofChange s with cond := some uptoSmall }

/-- 'footmanlaw16.LifeSteps', WHERE WHAT IT READS IS OF BULK AT MOST 1048576: true; the input reads as it did. -/
def lifeStepsUptoRow : OpenClaim := { program := "ytlakblcabebjeaa", sum := "0d4d8e240f6e23139190a2f2dda1dd5968b125d35a8af6e0ea1c4823d0b91d85", func := "footman/footmanlaw16.LifeSteps", spec := "lifeSteps", apart := false, narrowed := true }
def LifeStepsUptoSaid : Prop := lifeStepsUptoRow.holds Try.pinned (OpenSpec.upto lifeStepsSpec)

/-- 'footmanlaw16.LifeRuns', WHERE WHAT IT READS IS OF BULK AT MOST 1048576: true; the input reads as it did. -/
def lifeRunsUptoRow : OpenClaim := { program := "ytlakblcabebjeaa", sum := "0d4d8e240f6e23139190a2f2dda1dd5968b125d35a8af6e0ea1c4823d0b91d85", func := "footman/footmanlaw16.LifeRuns", spec := "lifeRuns", apart := false, narrowed := true }
def LifeRunsUptoSaid : Prop := lifeRunsUptoRow.holds Try.pinned (OpenSpec.upto lifeRunsSpec)

/-- 'footmanlaw16.LifeEnds', WHERE WHAT IT READS IS OF BULK AT MOST 1048576: true; the input reads as it did. -/
def lifeEndsUptoRow : OpenClaim := { program := "ytlakblcabebjeaa", sum := "0d4d8e240f6e23139190a2f2dda1dd5968b125d35a8af6e0ea1c4823d0b91d85", func := "footman/footmanlaw16.LifeEnds", spec := "lifeEnds", apart := false, narrowed := true }
def LifeEndsUptoSaid : Prop := lifeEndsUptoRow.holds Try.pinned (OpenSpec.upto lifeEndsSpec)

/-- 'footmanlaw16.LifePriority', WHERE WHAT IT READS IS OF BULK AT MOST 1048576: true; the input reads as it did. -/
def lifePriorityUptoRow : OpenClaim := { program := "ytlakblcabebjeaa", sum := "0d4d8e240f6e23139190a2f2dda1dd5968b125d35a8af6e0ea1c4823d0b91d85", func := "footman/footmanlaw16.LifePriority", spec := "lifePriority", apart := false, narrowed := true }
def LifePriorityUptoSaid : Prop := lifePriorityUptoRow.holds Try.pinned (OpenSpec.upto lifePrioritySpec)

end Rows
end Go.Proofs.Ytlakblcabebjeaa
