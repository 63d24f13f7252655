/-
  No cell of these rows narrows 'for every input' (looked for: loops, veiled, ifaces, maps, wideKeys, modest, calm, conditions, laid).
  DERIVED. THE GIVEN ROWS OF THIS SEAT. 4 by the template 'for every input the law returns true; each argument reads behind the call as it read before'; 0 by the template 'total and deterministic' (their statements: YtbbjkobadliglaaTotals.lean).
  GIVEN WITH THE SEED: the statements are not yours to turn. If you find one false, say at which input.
  Laid BY PROGRAM, IN A SANDBOX (cutbox-rows.mjs): the forced cells as the released guide's own fill.sh prints them over the translation 8d6d362af4bc08a3… (all of the seat's roots in one cut). By AI agents, Wed Nov 11 2026. No macro, syntax, notation, axiom, sorry.
-/
import Derived.Test.YtbbjkobadliglaaChecked
import GoSem.Claim
import GoSem.ClaimJoined
import GoSem.ClaimMapViews
import Derived.JoinedTies
import Derived.KernelRfl
namespace Go.Proofs.Ytbbjkobadliglaa
/- THE CELL 'sum', in the pinned program and in every row, IS THE sha256 OF THE DUMP (.gsa) THAT YtbbjkobadliglaaProg.lean LOADS. Nothing in Lean hashes anything: it is a label: what it is worth is what the hold of that sum in a sandbox is worth. -/
noncomputable def Try.pinned : Pinned := { name := "ytbbjkobadliglaa", sum := "8d6d362af4bc08a3cb44fb6661029b6377073a7aefc0a993eb88c1ccbf4b6a6c", checked := Try.checked }
namespace Rows
def none {H : Type} : Left H := { results := [], args := [] }

/-- 'footmanlaw01.PrefintPuts': WHATEVER THE INPUT: true; the input reads as it did. -/
def prefintPutsSpec : ChangeSpec := { name := "prefintPuts", fn := fun _ => fun
  | [d1, d2, d3] => { results := [.lit (.bool true)], args := [d1, d2, d3] }
  | _ => none }
def prefintPutsRow : OpenClaim := { program := "ytbbjkobadliglaa", sum := "8d6d362af4bc08a3cb44fb6661029b6377073a7aefc0a993eb88c1ccbf4b6a6c", func := "footman/footmanlaw01.PrefintPuts", spec := "prefintPuts", apart := false }
def PrefintPutsSaid : Prop := prefintPutsRow.holds Try.pinned (OpenSpec.ofChange prefintPutsSpec)

/-- ITS FALSE NEIGHBOUR: 'it returns false'. Refute it at one input. -/
def prefintPutsWrong : ChangeSpec := { name := "prefintPuts", fn := fun _ => fun
  | [d1, d2, d3] => { results := [.lit (.bool false)], args := [d1, d2, d3] }
  | _ => none }
def PrefintPutsWrongFalsely : Prop := prefintPutsRow.holds Try.pinned (OpenSpec.ofChange prefintPutsWrong)

/-- 'footmanlaw01.PrefintGets': WHATEVER THE INPUT: true; the input reads as it did. -/
def prefintGetsSpec : ChangeSpec := { name := "prefintGets", fn := fun _ => fun
  | [d1, d2] => { results := [.lit (.bool true)], args := [d1, d2] }
  | _ => none }
def prefintGetsRow : OpenClaim := { program := "ytbbjkobadliglaa", sum := "8d6d362af4bc08a3cb44fb6661029b6377073a7aefc0a993eb88c1ccbf4b6a6c", func := "footman/footmanlaw01.PrefintGets", spec := "prefintGets", apart := false }
def PrefintGetsSaid : Prop := prefintGetsRow.holds Try.pinned (OpenSpec.ofChange prefintGetsSpec)

/-- ITS FALSE NEIGHBOUR: 'it returns false'. Refute it at one input. -/
def prefintGetsWrong : ChangeSpec := { name := "prefintGets", fn := fun _ => fun
  | [d1, d2] => { results := [.lit (.bool false)], args := [d1, d2] }
  | _ => none }
def PrefintGetsWrongFalsely : Prop := prefintGetsRow.holds Try.pinned (OpenSpec.ofChange prefintGetsWrong)

/-- 'footmanlaw01.PrefintBack': WHATEVER THE INPUT: true; the input reads as it did. -/
def prefintBackSpec : ChangeSpec := { name := "prefintBack", fn := fun _ => fun
  | [d1, d2, d3] => { results := [.lit (.bool true)], args := [d1, d2, d3] }
  | _ => none }
def prefintBackRow : OpenClaim := { program := "ytbbjkobadliglaa", sum := "8d6d362af4bc08a3cb44fb6661029b6377073a7aefc0a993eb88c1ccbf4b6a6c", func := "footman/footmanlaw01.PrefintBack", spec := "prefintBack", apart := false }
def PrefintBackSaid : Prop := prefintBackRow.holds Try.pinned (OpenSpec.ofChange prefintBackSpec)

/-- ITS FALSE NEIGHBOUR: 'it returns false'. Refute it at one input. -/
def prefintBackWrong : ChangeSpec := { name := "prefintBack", fn := fun _ => fun
  | [d1, d2, d3] => { results := [.lit (.bool false)], args := [d1, d2, d3] }
  | _ => none }
def PrefintBackWrongFalsely : Prop := prefintBackRow.holds Try.pinned (OpenSpec.ofChange prefintBackWrong)

/-- 'footmanlaw01.PrefintGrows': WHATEVER THE INPUT: true; the input reads as it did. -/
def prefintGrowsSpec : ChangeSpec := { name := "prefintGrows", fn := fun _ => fun
  | [d1, d2, d3] => { results := [.lit (.bool true)], args := [d1, d2, d3] }
  | _ => none }
def prefintGrowsRow : OpenClaim := { program := "ytbbjkobadliglaa", sum := "8d6d362af4bc08a3cb44fb6661029b6377073a7aefc0a993eb88c1ccbf4b6a6c", func := "footman/footmanlaw01.PrefintGrows", spec := "prefintGrows", apart := false }
def PrefintGrowsSaid : Prop := prefintGrowsRow.holds Try.pinned (OpenSpec.ofChange prefintGrowsSpec)

/-- ITS FALSE NEIGHBOUR: 'it returns false'. Refute it at one input. -/
def prefintGrowsWrong : ChangeSpec := { name := "prefintGrows", fn := fun _ => fun
  | [d1, d2, d3] => { results := [.lit (.bool false)], args := [d1, d2, d3] }
  | _ => none }
def PrefintGrowsWrongFalsely : Prop := prefintGrowsRow.holds Try.pinned (OpenSpec.ofChange prefintGrowsWrong)

/- THE SECOND FORM. 'bulk': how many values and letters a reading holds, each counted each time it is reached (what is shared counts as often as it is met; a slice's spare places count too). A statement '..UptoSaid' is the law's where the arguments, and the package variables that the reading takes, are together of bulk at most 1048576: NARROWER than '..Said'. Prove '..Said' where nothing that the law and all that it calls make is longer than what came in: it says more and counts as full. Else prove '..UptoSaid'. A law counts once. -/
mutual
def uptoBulk {H : Type} : DataW H → Nat
  | .lit (.string bytes) => bytes.length + 1
  | .lit _ => 1
  | .nil => 1
  | .ptr d => uptoBulk d + 1
  | .slice elems spare => uptoBulkAll elems + uptoBulkAll spare + 1
  | .agg parts => uptoBulkAll parts + 1
  | .iface _ d => uptoBulk d + 1
  | .map entries => uptoBulkEntries entries + 1
  | .held _ => 1
def uptoBulkAll {H : Type} : List (DataW H) → Nat
  | [] => 0
  | d :: r => uptoBulk d + uptoBulkAll r
def uptoBulkEntries {H : Type} : List (Lit × DataW H) → Nat
  | [] => 0
  | x :: r => uptoBulkEntry x + uptoBulkEntries r
def uptoBulkEntry {H : Type} : Lit × DataW H → Nat
  | (.string bytes, d) => bytes.length + uptoBulk d + 1
  | (_, d) => uptoBulk d + 1
 end
def uptoSmall : (H : Type) → List (DataW H) → Bool := fun _ ds => decide (uptoBulkAll ds ≤ 1048576)
def OpenSpec.upto (s : _root_.Go.ChangeSpec) : _root_.Go.OpenSpec := { _root_.Go.OpenSpec.ofChange s with cond := some uptoSmall }

/-- 'footmanlaw01.PrefintPuts', WHERE WHAT IT READS IS OF BULK AT MOST 1048576: true; the input reads as it did. -/
def prefintPutsUptoRow : OpenClaim := { program := "ytbbjkobadliglaa", sum := "8d6d362af4bc08a3cb44fb6661029b6377073a7aefc0a993eb88c1ccbf4b6a6c", func := "footman/footmanlaw01.PrefintPuts", spec := "prefintPuts", apart := false, narrowed := true }
def PrefintPutsUptoSaid : Prop := prefintPutsUptoRow.holds Try.pinned (OpenSpec.upto prefintPutsSpec)

/-- 'footmanlaw01.PrefintGets', WHERE WHAT IT READS IS OF BULK AT MOST 1048576: true; the input reads as it did. -/
def prefintGetsUptoRow : OpenClaim := { program := "ytbbjkobadliglaa", sum := "8d6d362af4bc08a3cb44fb6661029b6377073a7aefc0a993eb88c1ccbf4b6a6c", func := "footman/footmanlaw01.PrefintGets", spec := "prefintGets", apart := false, narrowed := true }
def PrefintGetsUptoSaid : Prop := prefintGetsUptoRow.holds Try.pinned (OpenSpec.upto prefintGetsSpec)

/-- 'footmanlaw01.PrefintBack', WHERE WHAT IT READS IS OF BULK AT MOST 1048576: true; the input reads as it did. -/
def prefintBackUptoRow : OpenClaim := { program := "ytbbjkobadliglaa", sum := "8d6d362af4bc08a3cb44fb6661029b6377073a7aefc0a993eb88c1ccbf4b6a6c", func := "footman/footmanlaw01.PrefintBack", spec := "prefintBack", apart := false, narrowed := true }
def PrefintBackUptoSaid : Prop := prefintBackUptoRow.holds Try.pinned (OpenSpec.upto prefintBackSpec)

/-- 'footmanlaw01.PrefintGrows', WHERE WHAT IT READS IS OF BULK AT MOST 1048576: true; the input reads as it did. -/
def prefintGrowsUptoRow : OpenClaim := { program := "ytbbjkobadliglaa", sum := "8d6d362af4bc08a3cb44fb6661029b6377073a7aefc0a993eb88c1ccbf4b6a6c", func := "footman/footmanlaw01.PrefintGrows", spec := "prefintGrows", apart := false, narrowed := true }
def PrefintGrowsUptoSaid : Prop := prefintGrowsUptoRow.holds Try.pinned (OpenSpec.upto prefintGrowsSpec)

end Rows
end Go.Proofs.Ytbbjkobadliglaa
