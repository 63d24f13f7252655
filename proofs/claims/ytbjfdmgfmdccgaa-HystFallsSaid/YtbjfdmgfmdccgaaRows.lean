/-
  No cell of these rows narrows 'for every input' (looked for: loops, veiled, ifaces, maps, wideKeys, modest, calm, conditions, laid).
  DERIVED. THE GIVEN ROWS OF THIS SEAT. 3 by the template 'for every input the law returns true; each argument reads behind the call as it read before'; 0 by the template 'total and deterministic' (their statements: YtbjfdmgfmdccgaaTotals.lean).
  GIVEN WITH THE SEED: the statements are not yours to turn. If you find one false, say at which input.
  Laid BY PROGRAM, IN A SANDBOX (cutbox-rows.mjs): the forced cells as the released guide's own fill.sh prints them over the translation b1ea0e91de271e44… (all of the seat's roots in one cut). By AI agents, Wed Nov 11 2026. No macro, syntax, notation, axiom, sorry.
-/
import Derived.Test.YtbjfdmgfmdccgaaChecked
import GoSem.Claim
import GoSem.ClaimJoined
import GoSem.ClaimMapViews
import Derived.JoinedTies
import Derived.KernelRfl
namespace Go.Proofs.Ytbjfdmgfmdccgaa
/- THE CELL 'sum', in the pinned program and in every row, IS THE sha256 OF THE DUMP (.gsa) THAT YtbjfdmgfmdccgaaProg.lean LOADS. Nothing in Lean hashes anything: it is a label: what it is worth is what the hold of that sum in a sandbox is worth. -/
noncomputable def Try.pinned : Pinned := { name := "ytbjfdmgfmdccgaa", sum := "b1ea0e91de271e44673bf851bbb7a127cd9a6fd760b1f0215688394f43f464cd", checked := Try.checked }
namespace Rows
def none {H : Type} : Left H := { results := [], args := [] }

/-- 'footmanlaw22.HystNew': WHATEVER THE INPUT: true; the input reads as it did. -/
def hystNewSpec : ChangeSpec := { name := "hystNew", fn := fun _ => fun
  | [d] => { results := [.lit (.bool true)], args := [d] }
  | _ => none }
def hystNewRow : OpenClaim := { program := "ytbjfdmgfmdccgaa", sum := "b1ea0e91de271e44673bf851bbb7a127cd9a6fd760b1f0215688394f43f464cd", func := "footman/footmanlaw22.HystNew", spec := "hystNew", unfollowed := true, recurses := true, apart := false }
def HystNewSaid : Prop := hystNewRow.holds Try.pinned (OpenSpec.ofChange hystNewSpec)

/-- ITS FALSE NEIGHBOUR: 'it returns false'. Refute it at one input. -/
def hystNewWrong : ChangeSpec := { name := "hystNew", fn := fun _ => fun
  | [d] => { results := [.lit (.bool false)], args := [d] }
  | _ => none }
def HystNewWrongFalsely : Prop := hystNewRow.holds Try.pinned (OpenSpec.ofChange hystNewWrong)

/-- 'footmanlaw22.HystStays': WHATEVER THE INPUT: true; the input reads as it did. -/
def hystStaysSpec : ChangeSpec := { name := "hystStays", fn := fun _ => fun
  | [d1, d2] => { results := [.lit (.bool true)], args := [d1, d2] }
  | _ => none }
def hystStaysRow : OpenClaim := { program := "ytbjfdmgfmdccgaa", sum := "b1ea0e91de271e44673bf851bbb7a127cd9a6fd760b1f0215688394f43f464cd", func := "footman/footmanlaw22.HystStays", spec := "hystStays", unfollowed := true, recurses := true, apart := false }
def HystStaysSaid : Prop := hystStaysRow.holds Try.pinned (OpenSpec.ofChange hystStaysSpec)

/-- ITS FALSE NEIGHBOUR: 'it returns false'. Refute it at one input. -/
def hystStaysWrong : ChangeSpec := { name := "hystStays", fn := fun _ => fun
  | [d1, d2] => { results := [.lit (.bool false)], args := [d1, d2] }
  | _ => none }
def HystStaysWrongFalsely : Prop := hystStaysRow.holds Try.pinned (OpenSpec.ofChange hystStaysWrong)

/-- 'footmanlaw22.HystFalls': WHATEVER THE INPUT: true; the input reads as it did. -/
def hystFallsSpec : ChangeSpec := { name := "hystFalls", fn := fun _ => fun
  | [d] => { results := [.lit (.bool true)], args := [d] }
  | _ => none }
def hystFallsRow : OpenClaim := { program := "ytbjfdmgfmdccgaa", sum := "b1ea0e91de271e44673bf851bbb7a127cd9a6fd760b1f0215688394f43f464cd", func := "footman/footmanlaw22.HystFalls", spec := "hystFalls", unfollowed := true, recurses := true, apart := false }
def HystFallsSaid : Prop := hystFallsRow.holds Try.pinned (OpenSpec.ofChange hystFallsSpec)

/-- ITS FALSE NEIGHBOUR: 'it returns false'. Refute it at one input. -/
def hystFallsWrong : ChangeSpec := { name := "hystFalls", fn := fun _ => fun
  | [d] => { results := [.lit (.bool false)], args := [d] }
  | _ => none }
def HystFallsWrongFalsely : Prop := hystFallsRow.holds Try.pinned (OpenSpec.ofChange hystFallsWrong)

/- THE SECOND FORM. 'bulk': how many values and letters a reading holds, each counted each time it is reached (what is shared counts as often as it is met; a slice's spare places count too). A statement '..UptoSaid' is the law's where the arguments, and the package variables that the reading takes, are together of bulk at most 1048576: NARROWER than '..Said'. Prove '..Said' where nothing that the law and all that it calls make is longer than what came in: it says more and counts as full. Else prove '..UptoSaid'. A law counts once. -/
mutual
def uptoBulk {H : Type} : DataW H → Nat
  | .lit (.string bytes) => bytes.length + 1
  | .lit _ => 1
  | .nil => 1
  | .ptr d => uptoBulk d + 1
  | .slice elems spare => uptoBulkAll elems + uptoBulkAll spare + 1
  | .agg parts => uptoBulkAll parts + 1
  | .iface _ d => uptoBulk d + 1
  | .map entries => uptoBulkEntries entries + 1
  | .held _ => 1
def uptoBulkAll {H : Type} : List (DataW H) → Nat
  | [] => 0
  | d :: r => uptoBulk d + uptoBulkAll r
def uptoBulkEntries {H : Type} : List (Lit × DataW H) → Nat
  | [] => 0
  | x :: r => uptoBulkEntry x + uptoBulkEntries r
def uptoBulkEntry {H : Type} : Lit × DataW H → Nat
  | (.string bytes, d) => bytes.length + uptoBulk d + 1
  | (_, d) => uptoBulk d + 1
 end
def uptoSmall : (H : Type) → List (DataW H) → Bool := fun _ ds => decide (uptoBulkAll ds ≤ 1048576)
def OpenSpec.upto (s : _root_.Go.ChangeSpec) : _root_.Go.OpenSpec := { _root_.Go.OpenSpec.ofChange s with cond := some uptoSmall }

/-- 'footmanlaw22.HystNew', WHERE WHAT IT READS IS OF BULK AT MOST 1048576: true; the input reads as it did. -/
def hystNewUptoRow : OpenClaim := { program := "ytbjfdmgfmdccgaa", sum := "b1ea0e91de271e44673bf851bbb7a127cd9a6fd760b1f0215688394f43f464cd", func := "footman/footmanlaw22.HystNew", spec := "hystNew", unfollowed := true, recurses := true, apart := false, narrowed := true }
def HystNewUptoSaid : Prop := hystNewUptoRow.holds Try.pinned (OpenSpec.upto hystNewSpec)

/-- 'footmanlaw22.HystStays', WHERE WHAT IT READS IS OF BULK AT MOST 1048576: true; the input reads as it did. -/
def hystStaysUptoRow : OpenClaim := { program := "ytbjfdmgfmdccgaa", sum := "b1ea0e91de271e44673bf851bbb7a127cd9a6fd760b1f0215688394f43f464cd", func := "footman/footmanlaw22.HystStays", spec := "hystStays", unfollowed := true, recurses := true, apart := false, narrowed := true }
def HystStaysUptoSaid : Prop := hystStaysUptoRow.holds Try.pinned (OpenSpec.upto hystStaysSpec)

/-- 'footmanlaw22.HystFalls', WHERE WHAT IT READS IS OF BULK AT MOST 1048576: true; the input reads as it did. -/
def hystFallsUptoRow : OpenClaim := { program := "ytbjfdmgfmdccgaa", sum := "b1ea0e91de271e44673bf851bbb7a127cd9a6fd760b1f0215688394f43f464cd", func := "footman/footmanlaw22.HystFalls", spec := "hystFalls", unfollowed := true, recurses := true, apart := false, narrowed := true }
def HystFallsUptoSaid : Prop := hystFallsUptoRow.holds Try.pinned (OpenSpec.upto hystFallsSpec)

end Rows
end Go.Proofs.Ytbjfdmgfmdccgaa
