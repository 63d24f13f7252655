/-
  No cell of these rows narrows 'for every input' (looked for: loops, veiled, ifaces, maps, wideKeys, modest, calm, conditions, laid).
  DERIVED. THE GIVEN ROWS OF THIS SEAT. 4 by the template 'for every input the law returns true; each argument reads behind the call as it read before'; 0 by the template 'total and deterministic' (their statements: YthjciimodemfpaaTotals.lean).
  GIVEN WITH THE SEED: the statements are not yours to turn. If you find one false, say at which input.
  Laid BY PROGRAM, IN A SANDBOX (cutbox-rows.mjs): the forced cells as the released guide's own fill.sh prints them over the translation cc5595b4b2b0f0d8… (all of the seat's roots in one cut). By AI agents, Wed Nov 11 2026. No macro, syntax, notation, axiom, sorry.
-/
import Derived.Test.YthjciimodemfpaaChecked
import GoSem.Claim
import GoSem.ClaimJoined
import GoSem.ClaimMapViews
import Derived.JoinedTies
import Derived.KernelRfl
namespace Go.Proofs.Ythjciimodemfpaa
/- THE CELL 'sum', in the pinned program and in every row, IS THE sha256 OF THE DUMP (.gsa) THAT YthjciimodemfpaaProg.lean LOADS. Nothing in Lean hashes anything: it is a label: what it is worth is what the hold of that sum in a sandbox is worth. -/
noncomputable def Try.pinned : Pinned := { name := "ythjciimodemfpaa", sum := "cc5595b4b2b0f0d80ab630033e4983dd1d8dfd5fc4ed4e7bbe8c4664e40c7845", checked := Try.checked }
namespace Rows
def none {H : Type} : Left H := { results := [], args := [] }

/-- 'footmanlaw12.SetsApplies': WHATEVER THE INPUT: true; the input reads as it did. -/
def setsAppliesSpec : ChangeSpec := { name := "setsApplies", fn := fun _ => fun
  | [d1, d2] => { results := [.lit (.bool true)], args := [d1, d2] }
  | _ => none }
def setsAppliesRow : OpenClaim := { program := "ythjciimodemfpaa", sum := "cc5595b4b2b0f0d80ab630033e4983dd1d8dfd5fc4ed4e7bbe8c4664e40c7845", func := "footman/footmanlaw12.SetsApplies", spec := "setsApplies", apart := false }
def SetsAppliesSaid : Prop := setsAppliesRow.holds Try.pinned (OpenSpec.ofChange setsAppliesSpec)

/-- ITS FALSE NEIGHBOUR: 'it returns false'. Refute it at one input. -/
def setsAppliesWrong : ChangeSpec := { name := "setsApplies", fn := fun _ => fun
  | [d1, d2] => { results := [.lit (.bool false)], args := [d1, d2] }
  | _ => none }
def SetsAppliesWrongFalsely : Prop := setsAppliesRow.holds Try.pinned (OpenSpec.ofChange setsAppliesWrong)

/-- 'footmanlaw12.SetsPairs': WHATEVER THE INPUT: true; the input reads as it did. -/
def setsPairsSpec : ChangeSpec := { name := "setsPairs", fn := fun _ => fun
  | [d1, d2, d3] => { results := [.lit (.bool true)], args := [d1, d2, d3] }
  | _ => none }
def setsPairsRow : OpenClaim := { program := "ythjciimodemfpaa", sum := "cc5595b4b2b0f0d80ab630033e4983dd1d8dfd5fc4ed4e7bbe8c4664e40c7845", func := "footman/footmanlaw12.SetsPairs", spec := "setsPairs", apart := false }
def SetsPairsSaid : Prop := setsPairsRow.holds Try.pinned (OpenSpec.ofChange setsPairsSpec)

/-- ITS FALSE NEIGHBOUR: 'it returns false'. Refute it at one input. -/
def setsPairsWrong : ChangeSpec := { name := "setsPairs", fn := fun _ => fun
  | [d1, d2, d3] => { results := [.lit (.bool false)], args := [d1, d2, d3] }
  | _ => none }
def SetsPairsWrongFalsely : Prop := setsPairsRow.holds Try.pinned (OpenSpec.ofChange setsPairsWrong)

/-- 'footmanlaw12.SetsBack': WHATEVER THE INPUT: true; the input reads as it did. -/
def setsBackSpec : ChangeSpec := { name := "setsBack", fn := fun _ => fun
  | [d1, d2, d3] => { results := [.lit (.bool true)], args := [d1, d2, d3] }
  | _ => none }
def setsBackRow : OpenClaim := { program := "ythjciimodemfpaa", sum := "cc5595b4b2b0f0d80ab630033e4983dd1d8dfd5fc4ed4e7bbe8c4664e40c7845", func := "footman/footmanlaw12.SetsBack", spec := "setsBack", apart := false }
def SetsBackSaid : Prop := setsBackRow.holds Try.pinned (OpenSpec.ofChange setsBackSpec)

/-- ITS FALSE NEIGHBOUR: 'it returns false'. Refute it at one input. -/
def setsBackWrong : ChangeSpec := { name := "setsBack", fn := fun _ => fun
  | [d1, d2, d3] => { results := [.lit (.bool false)], args := [d1, d2, d3] }
  | _ => none }
def SetsBackWrongFalsely : Prop := setsBackRow.holds Try.pinned (OpenSpec.ofChange setsBackWrong)

/-- 'footmanlaw12.SetsUnknown': WHATEVER THE INPUT: true; the input reads as it did. -/
def setsUnknownSpec : ChangeSpec := { name := "setsUnknown", fn := fun _ => fun
  | [d1, d2, d3] => { results := [.lit (.bool true)], args := [d1, d2, d3] }
  | _ => none }
def setsUnknownRow : OpenClaim := { program := "ythjciimodemfpaa", sum := "cc5595b4b2b0f0d80ab630033e4983dd1d8dfd5fc4ed4e7bbe8c4664e40c7845", func := "footman/footmanlaw12.SetsUnknown", spec := "setsUnknown", apart := false }
def SetsUnknownSaid : Prop := setsUnknownRow.holds Try.pinned (OpenSpec.ofChange setsUnknownSpec)

/-- ITS FALSE NEIGHBOUR: 'it returns false'. Refute it at one input. -/
def setsUnknownWrong : ChangeSpec := { name := "setsUnknown", fn := fun _ => fun
  | [d1, d2, d3] => { results := [.lit (.bool false)], args := [d1, d2, d3] }
  | _ => none }
def SetsUnknownWrongFalsely : Prop := setsUnknownRow.holds Try.pinned (OpenSpec.ofChange setsUnknownWrong)

/- THE SECOND FORM. 'bulk': how many values and letters a reading holds, each counted each time it is reached (what is shared counts as often as it is met; a slice's spare places count too). A statement '..UptoSaid' is the law's where the arguments, and the package variables that the reading takes, are together of bulk at most 1048576: NARROWER than '..Said'. Prove '..Said' where nothing that the law and all that it calls make is longer than what came in: it says more and counts as full. Else prove '..UptoSaid'. A law counts once. -/
mutual
def uptoBulk {H : Type} : DataW H → Nat
  | .lit (.string bytes) => bytes.length + 1
  | .lit _ => 1
  | .nil => 1
  | .ptr d => uptoBulk d + 1
  | .slice elems spare => uptoBulkAll elems + uptoBulkAll spare + 1
  | .agg parts => uptoBulkAll parts + 1
  | .iface _ d => uptoBulk d + 1
  | .map entries => uptoBulkEntries entries + 1
  | .held _ => 1
def uptoBulkAll {H : Type} : List (DataW H) → Nat
  | [] => 0
  | d :: r => uptoBulk d + uptoBulkAll r
def uptoBulkEntries {H : Type} : List (Lit × DataW H) → Nat
  | [] => 0
  | x :: r => uptoBulkEntry x + uptoBulkEntries r
def uptoBulkEntry {H : Type} : Lit × DataW H → Nat
  | (.string bytes, d) => bytes.length + uptoBulk d + 1
  | (_, d) => uptoBulk d + 1
 end
def uptoSmall : (H : Type) → List (DataW H) → Bool := fun _ ds => decide (uptoBulkAll ds ≤ 1048576)
def OpenSpec.upto (s : _root_.Go.ChangeSpec) : _root_.Go.OpenSpec := { _root_.Go.OpenSpec.ofChange s with cond := some uptoSmall }

/-- 'footmanlaw12.SetsApplies', WHERE WHAT IT READS IS OF BULK AT MOST 1048576: true; the input reads as it did. -/
def setsAppliesUptoRow : OpenClaim := { program := "ythjciimodemfpaa", sum := "cc5595b4b2b0f0d80ab630033e4983dd1d8dfd5fc4ed4e7bbe8c4664e40c7845", func := "footman/footmanlaw12.SetsApplies", spec := "setsApplies", apart := false, narrowed := true }
def SetsAppliesUptoSaid : Prop := setsAppliesUptoRow.holds Try.pinned (OpenSpec.upto setsAppliesSpec)

/-- 'footmanlaw12.SetsPairs', WHERE WHAT IT READS IS OF BULK AT MOST 1048576: true; the input reads as it did. -/
def setsPairsUptoRow : OpenClaim := { program := "ythjciimodemfpaa", sum := "cc5595b4b2b0f0d80ab630033e4983dd1d8dfd5fc4ed4e7bbe8c4664e40c7845", func := "footman/footmanlaw12.SetsPairs", spec := "setsPairs", apart := false, narrowed := true }
def SetsPairsUptoSaid : Prop := setsPairsUptoRow.holds Try.pinned (OpenSpec.upto setsPairsSpec)

/-- 'footmanlaw12.SetsBack', WHERE WHAT IT READS IS OF BULK AT MOST 1048576: true; the input reads as it did. -/
def setsBackUptoRow : OpenClaim := { program := "ythjciimodemfpaa", sum := "cc5595b4b2b0f0d80ab630033e4983dd1d8dfd5fc4ed4e7bbe8c4664e40c7845", func := "footman/footmanlaw12.SetsBack", spec := "setsBack", apart := false, narrowed := true }
def SetsBackUptoSaid : Prop := setsBackUptoRow.holds Try.pinned (OpenSpec.upto setsBackSpec)

/-- 'footmanlaw12.SetsUnknown', WHERE WHAT IT READS IS OF BULK AT MOST 1048576: true; the input reads as it did. -/
def setsUnknownUptoRow : OpenClaim := { program := "ythjciimodemfpaa", sum := "cc5595b4b2b0f0d80ab630033e4983dd1d8dfd5fc4ed4e7bbe8c4664e40c7845", func := "footman/footmanlaw12.SetsUnknown", spec := "setsUnknown", apart := false, narrowed := true }
def SetsUnknownUptoSaid : Prop := setsUnknownUptoRow.holds Try.pinned (OpenSpec.upto setsUnknownSpec)

end Rows
end Go.Proofs.Ythjciimodemfpaa
