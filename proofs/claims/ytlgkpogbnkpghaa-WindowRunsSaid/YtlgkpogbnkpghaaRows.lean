/-
  No cell of these rows narrows 'for every input' (looked for: loops, veiled, ifaces, maps, wideKeys, modest, calm, conditions, laid).
  DERIVED. THE GIVEN ROWS OF THIS SEAT. 4 by the template 'for every input the law returns true; each argument reads behind the call as it read before'; 0 by the template 'total and deterministic' (their statements: YtlgkpogbnkpghaaTotals.lean).
  GIVEN WITH THE SEED: the statements are not yours to turn. If you find one false, say at which input.
  Laid BY PROGRAM, IN A SANDBOX (cutbox-rows.mjs): the forced cells as the released guide's own fill.sh prints them over the translation d8d2c85af6f16b6c… (all of the seat's roots in one cut). By AI agents, Wed Nov 11 2026. No macro, syntax, notation, axiom, sorry.
-/
import Derived.Test.YtlgkpogbnkpghaaChecked
import GoSem.Claim
import GoSem.ClaimJoined
import GoSem.ClaimMapViews
import Derived.JoinedTies
import Derived.KernelRfl
namespace Go.Proofs.Ytlgkpogbnkpghaa
/- THE CELL 'sum', in the pinned program and in every row, IS THE sha256 OF THE DUMP (.gsa) THAT YtlgkpogbnkpghaaProg.lean LOADS. Nothing in Lean hashes anything: it is a label: what it is worth is what the hold of that sum in a sandbox is worth. -/
noncomputable def Try.pinned : Pinned := { name := "ytlgkpogbnkpghaa", sum := "d8d2c85af6f16b6c0210ba6a9ba602b018d4c20755bb0d0efc5cf37a016c66e1", checked := Try.checked }
namespace Rows
def none {H : Type} : Left H := { results := [], args := [] }

/-- 'footmanlaw14.WindowChanges': WHATEVER THE INPUT: true; the input reads as it did. -/
def windowChangesSpec : ChangeSpec := { name := "windowChanges", fn := fun _ => fun
  | [d1, d2, d3] => { results := [.lit (.bool true)], args := [d1, d2, d3] }
  | _ => none }
def windowChangesRow : OpenClaim := { program := "ytlgkpogbnkpghaa", sum := "d8d2c85af6f16b6c0210ba6a9ba602b018d4c20755bb0d0efc5cf37a016c66e1", func := "footman/footmanlaw14.WindowChanges", spec := "windowChanges", unfollowed := true, recurses := true, apart := false }
def WindowChangesSaid : Prop := windowChangesRow.holds Try.pinned (OpenSpec.ofChange windowChangesSpec)

/-- ITS FALSE NEIGHBOUR: 'it returns false'. Refute it at one input. -/
def windowChangesWrong : ChangeSpec := { name := "windowChanges", fn := fun _ => fun
  | [d1, d2, d3] => { results := [.lit (.bool false)], args := [d1, d2, d3] }
  | _ => none }
def WindowChangesWrongFalsely : Prop := windowChangesRow.holds Try.pinned (OpenSpec.ofChange windowChangesWrong)

/-- 'footmanlaw14.WindowRuns': WHATEVER THE INPUT: true; the input reads as it did. -/
def windowRunsSpec : ChangeSpec := { name := "windowRuns", fn := fun _ => fun
  | [d1, d2, d3] => { results := [.lit (.bool true)], args := [d1, d2, d3] }
  | _ => none }
def windowRunsRow : OpenClaim := { program := "ytlgkpogbnkpghaa", sum := "d8d2c85af6f16b6c0210ba6a9ba602b018d4c20755bb0d0efc5cf37a016c66e1", func := "footman/footmanlaw14.WindowRuns", spec := "windowRuns", unfollowed := true, recurses := true, apart := false }
def WindowRunsSaid : Prop := windowRunsRow.holds Try.pinned (OpenSpec.ofChange windowRunsSpec)

/-- ITS FALSE NEIGHBOUR: 'it returns false'. Refute it at one input. -/
def windowRunsWrong : ChangeSpec := { name := "windowRuns", fn := fun _ => fun
  | [d1, d2, d3] => { results := [.lit (.bool false)], args := [d1, d2, d3] }
  | _ => none }
def WindowRunsWrongFalsely : Prop := windowRunsRow.holds Try.pinned (OpenSpec.ofChange windowRunsWrong)

/-- 'footmanlaw14.WindowSums': WHATEVER THE INPUT: true; the input reads as it did. -/
def windowSumsSpec : ChangeSpec := { name := "windowSums", fn := fun _ => fun
  | [d1, d2, d3] => { results := [.lit (.bool true)], args := [d1, d2, d3] }
  | _ => none }
def windowSumsRow : OpenClaim := { program := "ytlgkpogbnkpghaa", sum := "d8d2c85af6f16b6c0210ba6a9ba602b018d4c20755bb0d0efc5cf37a016c66e1", func := "footman/footmanlaw14.WindowSums", spec := "windowSums", unfollowed := true, recurses := true, apart := false }
def WindowSumsSaid : Prop := windowSumsRow.holds Try.pinned (OpenSpec.ofChange windowSumsSpec)

/-- ITS FALSE NEIGHBOUR: 'it returns false'. Refute it at one input. -/
def windowSumsWrong : ChangeSpec := { name := "windowSums", fn := fun _ => fun
  | [d1, d2, d3] => { results := [.lit (.bool false)], args := [d1, d2, d3] }
  | _ => none }
def WindowSumsWrongFalsely : Prop := windowSumsRow.holds Try.pinned (OpenSpec.ofChange windowSumsWrong)

/-- 'footmanlaw14.WindowThere': WHATEVER THE INPUT: true; the input reads as it did. -/
def windowThereSpec : ChangeSpec := { name := "windowThere", fn := fun _ => fun
  | [d1, d2] => { results := [.lit (.bool true)], args := [d1, d2] }
  | _ => none }
def windowThereRow : OpenClaim := { program := "ytlgkpogbnkpghaa", sum := "d8d2c85af6f16b6c0210ba6a9ba602b018d4c20755bb0d0efc5cf37a016c66e1", func := "footman/footmanlaw14.WindowThere", spec := "windowThere", unfollowed := true, recurses := true, apart := false }
def WindowThereSaid : Prop := windowThereRow.holds Try.pinned (OpenSpec.ofChange windowThereSpec)

/-- ITS FALSE NEIGHBOUR: 'it returns false'. Refute it at one input. -/
def windowThereWrong : ChangeSpec := { name := "windowThere", fn := fun _ => fun
  | [d1, d2] => { results := [.lit (.bool false)], args := [d1, d2] }
  | _ => none }
def WindowThereWrongFalsely : Prop := windowThereRow.holds Try.pinned (OpenSpec.ofChange windowThereWrong)

/- THE SECOND FORM. 'bulk': how many values and letters a reading holds, each counted each time it is reached (what is shared counts as often as it is met; a slice's spare places count too). A statement '..UptoSaid' is the law's where the arguments, and the package variables that the reading takes, are together of bulk at most 1048576: NARROWER than '..Said'. Prove '..Said' where nothing that the law and all that it calls make is longer than what came in: it says more and counts as full. Else prove '..UptoSaid'. A law counts once. -/
mutual
def uptoBulk {H : Type} : DataW H → Nat
  | .lit (.string bytes) => bytes.length + 1
  | .lit _ => 1
  | .nil => 1
  | .ptr d => uptoBulk d + 1
  | .slice elems spare => uptoBulkAll elems + uptoBulkAll spare + 1
  | .agg parts => uptoBulkAll parts + 1
  | .iface _ d => uptoBulk d + 1
  | .map entries => uptoBulkEntries entries + 1
  | .held _ => 1
def uptoBulkAll {H : Type} : List (DataW H) → Nat
  | [] => 0
  | d :: r => uptoBulk d + uptoBulkAll r
def uptoBulkEntries {H : Type} : List (Lit × DataW H) → Nat
  | [] => 0
  | x :: r => uptoBulkEntry x + uptoBulkEntries r
def uptoBulkEntry {H : Type} : Lit × DataW H → Nat
  | (.string bytes, d) => bytes.length + uptoBulk d + 1
  | (_, d) => uptoBulk d + 1
 end
def uptoSmall : (H : Type) → List (DataW H) → Bool := fun _ ds => decide (uptoBulkAll ds ≤ 1048576)
def OpenSpec.upto (s : _root_.Go.ChangeSpec) : _root_.Go.OpenSpec := { _root_.Go.OpenSpec.ofChange s with cond := some uptoSmall }

/-- 'footmanlaw14.WindowChanges', WHERE WHAT IT READS IS OF BULK AT MOST 1048576: true; the input reads as it did. -/
def windowChangesUptoRow : OpenClaim := { program := "ytlgkpogbnkpghaa", sum := "d8d2c85af6f16b6c0210ba6a9ba602b018d4c20755bb0d0efc5cf37a016c66e1", func := "footman/footmanlaw14.WindowChanges", spec := "windowChanges", unfollowed := true, recurses := true, apart := false, narrowed := true }
def WindowChangesUptoSaid : Prop := windowChangesUptoRow.holds Try.pinned (OpenSpec.upto windowChangesSpec)

/-- 'footmanlaw14.WindowRuns', WHERE WHAT IT READS IS OF BULK AT MOST 1048576: true; the input reads as it did. -/
def windowRunsUptoRow : OpenClaim := { program := "ytlgkpogbnkpghaa", sum := "d8d2c85af6f16b6c0210ba6a9ba602b018d4c20755bb0d0efc5cf37a016c66e1", func := "footman/footmanlaw14.WindowRuns", spec := "windowRuns", unfollowed := true, recurses := true, apart := false, narrowed := true }
def WindowRunsUptoSaid : Prop := windowRunsUptoRow.holds Try.pinned (OpenSpec.upto windowRunsSpec)

/-- 'footmanlaw14.WindowSums', WHERE WHAT IT READS IS OF BULK AT MOST 1048576: true; the input reads as it did. -/
def windowSumsUptoRow : OpenClaim := { program := "ytlgkpogbnkpghaa", sum := "d8d2c85af6f16b6c0210ba6a9ba602b018d4c20755bb0d0efc5cf37a016c66e1", func := "footman/footmanlaw14.WindowSums", spec := "windowSums", unfollowed := true, recurses := true, apart := false, narrowed := true }
def WindowSumsUptoSaid : Prop := windowSumsUptoRow.holds Try.pinned (OpenSpec.upto windowSumsSpec)

/-- 'footmanlaw14.WindowThere', WHERE WHAT IT READS IS OF BULK AT MOST 1048576: true; the input reads as it did. -/
def windowThereUptoRow : OpenClaim := { program := "ytlgkpogbnkpghaa", sum := "d8d2c85af6f16b6c0210ba6a9ba602b018d4c20755bb0d0efc5cf37a016c66e1", func := "footman/footmanlaw14.WindowThere", spec := "windowThere", unfollowed := true, recurses := true, apart := false, narrowed := true }
def WindowThereUptoSaid : Prop := windowThereUptoRow.holds Try.pinned (OpenSpec.upto windowThereSpec)

end Rows
end Go.Proofs.Ytlgkpogbnkpghaa
