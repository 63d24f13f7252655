/-
  No cell of these rows narrows 'for every input' (looked for: loops, veiled, ifaces, maps, wideKeys, modest, calm, conditions, laid).
  DERIVED. THE GIVEN ROWS OF THIS SEAT. 3 by the template 'for every input the law returns true; each argument reads behind the call as it read before'; 0 by the template 'total and deterministic' (their statements: YtpafncellopphaaTotals.lean).
  GIVEN WITH THE SEED: the statements are not yours to turn. If you find one false, say at which input.
  Laid BY PROGRAM, IN A SANDBOX (cutbox-rows.mjs): the forced cells as the released guide's own fill.sh prints them over the translation 7f0c0278ce3235fb… (all of the seat's roots in one cut). By AI agents, Wed Nov 11 2026. No macro, syntax, notation, axiom, sorry.
-/
import Derived.Test.YtpafncellopphaaChecked
import GoSem.Claim
import GoSem.ClaimJoined
import GoSem.ClaimMapViews
import Derived.JoinedTies
import Derived.KernelRfl
namespace Go.Proofs.Ytpafncellopphaa
/- THE CELL 'sum', in the pinned program and in every row, IS THE sha256 OF THE DUMP (.gsa) THAT YtpafncellopphaaProg.lean LOADS. Nothing in Lean hashes anything: it is a label: what it is worth is what the hold of that sum in a sandbox is worth. -/
noncomputable def Try.pinned : Pinned := { name := "ytpafncellopphaa", sum := "7f0c0278ce3235fb1af569b1f7145b471a7dc9daffb19998e36e563975886c8b", checked := Try.checked }
namespace Rows
def none {H : Type} : Left H := { results := [], args := [] }

/-- 'footmanlaw03.StaticAts': WHATEVER THE INPUT: true; the input reads as it did. -/
def staticAtsSpec : ChangeSpec := { name := "staticAts", fn := fun _ => fun
  | [d1, d2] => { results := [.lit (.bool true)], args := [d1, d2] }
  | _ => none }
def staticAtsRow : OpenClaim := { program := "ytpafncellopphaa", sum := "7f0c0278ce3235fb1af569b1f7145b471a7dc9daffb19998e36e563975886c8b", func := "footman/footmanlaw03.StaticAts", spec := "staticAts", apart := false }
def StaticAtsSaid : Prop := staticAtsRow.holds Try.pinned (OpenSpec.ofChange staticAtsSpec)

/-- ITS FALSE NEIGHBOUR: 'it returns false'. Refute it at one input. -/
def staticAtsWrong : ChangeSpec := { name := "staticAts", fn := fun _ => fun
  | [d1, d2] => { results := [.lit (.bool false)], args := [d1, d2] }
  | _ => none }
def StaticAtsWrongFalsely : Prop := staticAtsRow.holds Try.pinned (OpenSpec.ofChange staticAtsWrong)

/-- 'footmanlaw03.StaticFinds': WHATEVER THE INPUT: true; the input reads as it did. -/
def staticFindsSpec : ChangeSpec := { name := "staticFinds", fn := fun _ => fun
  | [d1, d2] => { results := [.lit (.bool true)], args := [d1, d2] }
  | _ => none }
def staticFindsRow : OpenClaim := { program := "ytpafncellopphaa", sum := "7f0c0278ce3235fb1af569b1f7145b471a7dc9daffb19998e36e563975886c8b", func := "footman/footmanlaw03.StaticFinds", spec := "staticFinds", apart := false }
def StaticFindsSaid : Prop := staticFindsRow.holds Try.pinned (OpenSpec.ofChange staticFindsSpec)

/-- ITS FALSE NEIGHBOUR: 'it returns false'. Refute it at one input. -/
def staticFindsWrong : ChangeSpec := { name := "staticFinds", fn := fun _ => fun
  | [d1, d2] => { results := [.lit (.bool false)], args := [d1, d2] }
  | _ => none }
def StaticFindsWrongFalsely : Prop := staticFindsRow.holds Try.pinned (OpenSpec.ofChange staticFindsWrong)

/-- 'footmanlaw03.StaticBack': WHATEVER THE INPUT: true; the input reads as it did. -/
def staticBackSpec : ChangeSpec := { name := "staticBack", fn := fun _ => fun
  | [d1, d2] => { results := [.lit (.bool true)], args := [d1, d2] }
  | _ => none }
def staticBackRow : OpenClaim := { program := "ytpafncellopphaa", sum := "7f0c0278ce3235fb1af569b1f7145b471a7dc9daffb19998e36e563975886c8b", func := "footman/footmanlaw03.StaticBack", spec := "staticBack", apart := false }
def StaticBackSaid : Prop := staticBackRow.holds Try.pinned (OpenSpec.ofChange staticBackSpec)

/-- ITS FALSE NEIGHBOUR: 'it returns false'. Refute it at one input. -/
def staticBackWrong : ChangeSpec := { name := "staticBack", fn := fun _ => fun
  | [d1, d2] => { results := [.lit (.bool false)], args := [d1, d2] }
  | _ => none }
def StaticBackWrongFalsely : Prop := staticBackRow.holds Try.pinned (OpenSpec.ofChange staticBackWrong)

/- THE SECOND FORM. 'bulk': how many values and letters a reading holds, each counted each time it is reached (what is shared counts as often as it is met; a slice's spare places count too). A statement '..UptoSaid' is the law's where the arguments, and the package variables that the reading takes, are together of bulk at most 1048576: NARROWER than '..Said'. Prove '..Said' where nothing that the law and all that it calls make is longer than what came in: it says more and counts as full. Else prove '..UptoSaid'. A law counts once. -/
mutual
def uptoBulk {H : Type} : DataW H → Nat
  | .lit (.string bytes) => bytes.length + 1
  | .lit _ => 1
  | .nil => 1
  | .ptr d => uptoBulk d + 1
  | .slice elems spare => uptoBulkAll elems + uptoBulkAll spare + 1
  | .agg parts => uptoBulkAll parts + 1
  | .iface _ d => uptoBulk d + 1
  | .map entries => uptoBulkEntries entries + 1
  | .held _ => 1
def uptoBulkAll {H : Type} : List (DataW H) → Nat
  | [] => 0
  | d :: r => uptoBulk d + uptoBulkAll r
def uptoBulkEntries {H : Type} : List (Lit × DataW H) → Nat
  | [] => 0
  | x :: r => uptoBulkEntry x + uptoBulkEntries r
def uptoBulkEntry {H : Type} : Lit × DataW H → Nat
  | (.string bytes, d) => bytes.length + uptoBulk d + 1
  | (_, d) => uptoBulk d + 1
 end
def uptoSmall : (H : Type) → List (DataW H) → Bool := fun _ ds => decide (uptoBulkAll ds ≤ 1048576)
def OpenSpec.upto (s : _root_.Go.ChangeSpec) : _root_.Go.OpenSpec := { _root_.Go.OpenSpec.ofChange s with cond := some uptoSmall }

/-- 'footmanlaw03.StaticAts', WHERE WHAT IT READS IS OF BULK AT MOST 1048576: true; the input reads as it did. -/
def staticAtsUptoRow : OpenClaim := { program := "ytpafncellopphaa", sum := "7f0c0278ce3235fb1af569b1f7145b471a7dc9daffb19998e36e563975886c8b", func := "footman/footmanlaw03.StaticAts", spec := "staticAts", apart := false, narrowed := true }
def StaticAtsUptoSaid : Prop := staticAtsUptoRow.holds Try.pinned (OpenSpec.upto staticAtsSpec)

/-- 'footmanlaw03.StaticFinds', WHERE WHAT IT READS IS OF BULK AT MOST 1048576: true; the input reads as it did. -/
def staticFindsUptoRow : OpenClaim := { program := "ytpafncellopphaa", sum := "7f0c0278ce3235fb1af569b1f7145b471a7dc9daffb19998e36e563975886c8b", func := "footman/footmanlaw03.StaticFinds", spec := "staticFinds", apart := false, narrowed := true }
def StaticFindsUptoSaid : Prop := staticFindsUptoRow.holds Try.pinned (OpenSpec.upto staticFindsSpec)

/-- 'footmanlaw03.StaticBack', WHERE WHAT IT READS IS OF BULK AT MOST 1048576: true; the input reads as it did. -/
def staticBackUptoRow : OpenClaim := { program := "ytpafncellopphaa", sum := "7f0c0278ce3235fb1af569b1f7145b471a7dc9daffb19998e36e563975886c8b", func := "footman/footmanlaw03.StaticBack", spec := "staticBack", apart := false, narrowed := true }
def StaticBackUptoSaid : Prop := staticBackUptoRow.holds Try.pinned (OpenSpec.upto staticBackSpec)

end Rows
end Go.Proofs.Ytpafncellopphaa
