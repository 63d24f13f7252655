/-
  No cell of these rows narrows 'for every input' (looked for: loops, veiled, ifaces, maps, wideKeys, modest, calm, conditions, laid).
  DERIVED. THE GIVEN ROWS OF THIS SEAT. 4 by the template 'for every input the law returns true; each argument reads behind the call as it read before'; 0 by the template 'total and deterministic' (their statements: YtokedcdjclbliaaTotals.lean).
  GIVEN WITH THE SEED: the statements are not yours to turn. If you find one false, say at which input.
  Laid BY PROGRAM, IN A SANDBOX (cutbox-rows.mjs): the forced cells as the released guide's own fill.sh prints them over the translation 5b2fa9bf6bd11e08… (all of the seat's roots in one cut). By AI agents, Wed Nov 11 2026. No macro, syntax, notation, axiom, sorry.
-/
import Derived.Test.YtokedcdjclbliaaChecked
import GoSem.Claim
import GoSem.ClaimJoined
import GoSem.ClaimMapViews
import Derived.JoinedTies
import Derived.KernelRfl
namespace Go.Proofs.Ytokedcdjclbliaa
/- THE CELL 'sum', in the pinned program and in every row, IS THE sha256 OF THE DUMP (.gsa) THAT YtokedcdjclbliaaProg.lean LOADS. Nothing in Lean hashes anything: it is a label: what it is worth is what the hold of that sum in a sandbox is worth. -/
noncomputable def Try.pinned : Pinned := { name := "ytokedcdjclbliaa", sum := "5b2fa9bf6bd11e086e1b071124b2791ab3bb620f03b2f5316f9acecdaf345227", checked := Try.checked }
namespace Rows
def none {H : Type} : Left H := { results := [], args := [] }

/-- 'footmanlaw21.BucketNew': WHATEVER THE INPUT: true; the input reads as it did. -/
def bucketNewSpec : ChangeSpec := { name := "bucketNew", fn := fun _ => fun
  | [d1, d2, d3] => { results := [.lit (.bool true)], args := [d1, d2, d3] }
  | _ => none }
def bucketNewRow : OpenClaim := { program := "ytokedcdjclbliaa", sum := "5b2fa9bf6bd11e086e1b071124b2791ab3bb620f03b2f5316f9acecdaf345227", func := "footman/footmanlaw21.BucketNew", spec := "bucketNew", apart := false }
def BucketNewSaid : Prop := bucketNewRow.holds Try.pinned (OpenSpec.ofChange bucketNewSpec)

/-- ITS FALSE NEIGHBOUR: 'it returns false'. Refute it at one input. -/
def bucketNewWrong : ChangeSpec := { name := "bucketNew", fn := fun _ => fun
  | [d1, d2, d3] => { results := [.lit (.bool false)], args := [d1, d2, d3] }
  | _ => none }
def BucketNewWrongFalsely : Prop := bucketNewRow.holds Try.pinned (OpenSpec.ofChange bucketNewWrong)

/-- 'footmanlaw21.BucketBound': WHATEVER THE INPUT: true; the input reads as it did. -/
def bucketBoundSpec : ChangeSpec := { name := "bucketBound", fn := fun _ => fun
  | [d1, d2] => { results := [.lit (.bool true)], args := [d1, d2] }
  | _ => none }
def bucketBoundRow : OpenClaim := { program := "ytokedcdjclbliaa", sum := "5b2fa9bf6bd11e086e1b071124b2791ab3bb620f03b2f5316f9acecdaf345227", func := "footman/footmanlaw21.BucketBound", spec := "bucketBound", apart := false }
def BucketBoundSaid : Prop := bucketBoundRow.holds Try.pinned (OpenSpec.ofChange bucketBoundSpec)

/-- ITS FALSE NEIGHBOUR: 'it returns false'. Refute it at one input. -/
def bucketBoundWrong : ChangeSpec := { name := "bucketBound", fn := fun _ => fun
  | [d1, d2] => { results := [.lit (.bool false)], args := [d1, d2] }
  | _ => none }
def BucketBoundWrongFalsely : Prop := bucketBoundRow.holds Try.pinned (OpenSpec.ofChange bucketBoundWrong)

/-- 'footmanlaw21.BucketWaits': WHATEVER THE INPUT: true; the input reads as it did. -/
def bucketWaitsSpec : ChangeSpec := { name := "bucketWaits", fn := fun _ => fun
  | [d1, d2] => { results := [.lit (.bool true)], args := [d1, d2] }
  | _ => none }
def bucketWaitsRow : OpenClaim := { program := "ytokedcdjclbliaa", sum := "5b2fa9bf6bd11e086e1b071124b2791ab3bb620f03b2f5316f9acecdaf345227", func := "footman/footmanlaw21.BucketWaits", spec := "bucketWaits", apart := false }
def BucketWaitsSaid : Prop := bucketWaitsRow.holds Try.pinned (OpenSpec.ofChange bucketWaitsSpec)

/-- ITS FALSE NEIGHBOUR: 'it returns false'. Refute it at one input. -/
def bucketWaitsWrong : ChangeSpec := { name := "bucketWaits", fn := fun _ => fun
  | [d1, d2] => { results := [.lit (.bool false)], args := [d1, d2] }
  | _ => none }
def BucketWaitsWrongFalsely : Prop := bucketWaitsRow.holds Try.pinned (OpenSpec.ofChange bucketWaitsWrong)

/-- 'footmanlaw21.BucketAt': WHATEVER THE INPUT: true; the input reads as it did. -/
def bucketAtSpec : ChangeSpec := { name := "bucketAt", fn := fun _ => fun
  | [d1, d2, d3] => { results := [.lit (.bool true)], args := [d1, d2, d3] }
  | _ => none }
def bucketAtRow : OpenClaim := { program := "ytokedcdjclbliaa", sum := "5b2fa9bf6bd11e086e1b071124b2791ab3bb620f03b2f5316f9acecdaf345227", func := "footman/footmanlaw21.BucketAt", spec := "bucketAt", apart := false }
def BucketAtSaid : Prop := bucketAtRow.holds Try.pinned (OpenSpec.ofChange bucketAtSpec)

/-- ITS FALSE NEIGHBOUR: 'it returns false'. Refute it at one input. -/
def bucketAtWrong : ChangeSpec := { name := "bucketAt", fn := fun _ => fun
  | [d1, d2, d3] => { results := [.lit (.bool false)], args := [d1, d2, d3] }
  | _ => none }
def BucketAtWrongFalsely : Prop := bucketAtRow.holds Try.pinned (OpenSpec.ofChange bucketAtWrong)

/- THE SECOND FORM. 'bulk': how many values and letters a reading holds, each counted each time it is reached (what is shared counts as often as it is met; a slice's spare places count too). A statement '..UptoSaid' is the law's where the arguments, and the package variables that the reading takes, are together of bulk at most 1048576: NARROWER than '..Said'. Prove '..Said' where nothing that the law and all that it calls make is longer than what came in: it says more and counts as full. Else prove '..UptoSaid'. A law counts once. -/
mutual
def uptoBulk {H : Type} : DataW H → Nat
  | .lit (.string bytes) => bytes.length + 1
  | .lit _ => 1
  | .nil => 1
  | .ptr d => uptoBulk d + 1
  | .slice elems spare => uptoBulkAll elems + uptoBulkAll spare + 1
  | .agg parts => uptoBulkAll parts + 1
  | .iface _ d => uptoBulk d + 1
  | .map entries => uptoBulkEntries entries + 1
  | .held _ => 1
def uptoBulkAll {H : Type} : List (DataW H) → Nat
  | [] => 0
  | d :: r => uptoBulk d + uptoBulkAll r
def uptoBulkEntries {H : Type} : List (Lit × DataW H) → Nat
  | [] => 0
  | x :: r => uptoBulkEntry x + uptoBulkEntries r
def uptoBulkEntry {H : Type} : Lit × DataW H → Nat
  | (.string bytes, d) => bytes.length + uptoBulk d + 1
  | (_, d) => uptoBulk d + 1
 end
def uptoSmall : (H : Type) → List (DataW H) → Bool := fun _ ds => decide (uptoBulkAll ds ≤ 1048576)
def OpenSpec.upto (s : _root_.Go.ChangeSpec) : _root_.Go.OpenSpec := { _root_.Go.OpenSpec.ofChange s with cond := some uptoSmall }

/-- 'footmanlaw21.BucketNew', WHERE WHAT IT READS IS OF BULK AT MOST 1048576: true; the input reads as it did. -/
def bucketNewUptoRow : OpenClaim := { program := "ytokedcdjclbliaa", sum := "5b2fa9bf6bd11e086e1b071124b2791ab3bb620f03b2f5316f9acecdaf345227", func := "footman/footmanlaw21.BucketNew", spec := "bucketNew", apart := false, narrowed := true }
def BucketNewUptoSaid : Prop := bucketNewUptoRow.holds Try.pinned (OpenSpec.upto bucketNewSpec)

/-- 'footmanlaw21.BucketBound', WHERE WHAT IT READS IS OF BULK AT MOST 1048576: true; the input reads as it did. -/
def bucketBoundUptoRow : OpenClaim := { program := "ytokedcdjclbliaa", sum := "5b2fa9bf6bd11e086e1b071124b2791ab3bb620f03b2f5316f9acecdaf345227", func := "footman/footmanlaw21.BucketBound", spec := "bucketBound", apart := false, narrowed := true }
def BucketBoundUptoSaid : Prop := bucketBoundUptoRow.holds Try.pinned (OpenSpec.upto bucketBoundSpec)

/-- 'footmanlaw21.BucketWaits', WHERE WHAT IT READS IS OF BULK AT MOST 1048576: true; the input reads as it did. -/
def bucketWaitsUptoRow : OpenClaim := { program := "ytokedcdjclbliaa", sum := "5b2fa9bf6bd11e086e1b071124b2791ab3bb620f03b2f5316f9acecdaf345227", func := "footman/footmanlaw21.BucketWaits", spec := "bucketWaits", apart := false, narrowed := true }
def BucketWaitsUptoSaid : Prop := bucketWaitsUptoRow.holds Try.pinned (OpenSpec.upto bucketWaitsSpec)

/-- 'footmanlaw21.BucketAt', WHERE WHAT IT READS IS OF BULK AT MOST 1048576: true; the input reads as it did. -/
def bucketAtUptoRow : OpenClaim := { program := "ytokedcdjclbliaa", sum := "5b2fa9bf6bd11e086e1b071124b2791ab3bb620f03b2f5316f9acecdaf345227", func := "footman/footmanlaw21.BucketAt", spec := "bucketAt", apart := false, narrowed := true }
def BucketAtUptoSaid : Prop := bucketAtUptoRow.holds Try.pinned (OpenSpec.upto bucketAtSpec)

end Rows
end Go.Proofs.Ytokedcdjclbliaa
