/-
  No cell of these rows narrows 'for every input' (looked for: loops, veiled, ifaces, maps, wideKeys, modest, calm, conditions, laid).
  DERIVED. THE GIVEN ROWS OF THIS SEAT. 4 by the template 'for every input the law returns true; each argument reads behind the call as it read before'; 0 by the template 'total and deterministic' (their statements: YtcgnoaaejaofiaaTotals.lean).
  GIVEN WITH THE SEED: the statements are not yours to turn. If you find one false, say at which input.
  Laid BY PROGRAM, IN A SANDBOX (cutbox-rows.mjs): the forced cells as the released guide's own fill.sh prints them over the translation 554932d2fb14b280… (all of the seat's roots in one cut). By AI agents, Wed Nov 11 2026. No macro, syntax, notation, axiom, sorry.
-/
import Derived.Test.YtcgnoaaejaofiaaChecked
import GoSem.Claim
import GoSem.ClaimJoined
import GoSem.ClaimMapViews
import Derived.JoinedTies
import Derived.KernelRfl
namespace Go.Proofs.Ytcgnoaaejaofiaa
/- THE CELL 'sum', in the pinned program and in every row, IS THE sha256 OF THE DUMP (.gsa) THAT YtcgnoaaejaofiaaProg.lean LOADS. Nothing in Lean hashes anything: it is a label: what it is worth is what the hold of that sum in a sandbox is worth. -/
noncomputable def Try.pinned : Pinned := { name := "ytcgnoaaejaofiaa", sum := "554932d2fb14b2801fede3fd090a2ff9baadc4469d314ea065fdeaba1dbfc627", checked := Try.checked }
namespace Rows
def none {H : Type} : Left H := { results := [], args := [] }

/-- 'footmanlaw23.ShedDecides': WHATEVER THE INPUT: true; the input reads as it did. -/
def shedDecidesSpec : ChangeSpec := { name := "shedDecides", fn := fun _ => fun
  | [d1, d2, d3] => { results := [.lit (.bool true)], args := [d1, d2, d3] }
  | _ => none }
def shedDecidesRow : OpenClaim := { program := "ytcgnoaaejaofiaa", sum := "554932d2fb14b2801fede3fd090a2ff9baadc4469d314ea065fdeaba1dbfc627", func := "footman/footmanlaw23.ShedDecides", spec := "shedDecides", apart := false }
def ShedDecidesSaid : Prop := shedDecidesRow.holds Try.pinned (OpenSpec.ofChange shedDecidesSpec)

/-- ITS FALSE NEIGHBOUR: 'it returns false'. Refute it at one input. -/
def shedDecidesWrong : ChangeSpec := { name := "shedDecides", fn := fun _ => fun
  | [d1, d2, d3] => { results := [.lit (.bool false)], args := [d1, d2, d3] }
  | _ => none }
def ShedDecidesWrongFalsely : Prop := shedDecidesRow.holds Try.pinned (OpenSpec.ofChange shedDecidesWrong)

/-- 'footmanlaw23.ShedFates': WHATEVER THE INPUT: true; the input reads as it did. -/
def shedFatesSpec : ChangeSpec := { name := "shedFates", fn := fun _ => fun
  | [d1, d2] => { results := [.lit (.bool true)], args := [d1, d2] }
  | _ => none }
def shedFatesRow : OpenClaim := { program := "ytcgnoaaejaofiaa", sum := "554932d2fb14b2801fede3fd090a2ff9baadc4469d314ea065fdeaba1dbfc627", func := "footman/footmanlaw23.ShedFates", spec := "shedFates", apart := false }
def ShedFatesSaid : Prop := shedFatesRow.holds Try.pinned (OpenSpec.ofChange shedFatesSpec)

/-- ITS FALSE NEIGHBOUR: 'it returns false'. Refute it at one input. -/
def shedFatesWrong : ChangeSpec := { name := "shedFates", fn := fun _ => fun
  | [d1, d2] => { results := [.lit (.bool false)], args := [d1, d2] }
  | _ => none }
def ShedFatesWrongFalsely : Prop := shedFatesRow.holds Try.pinned (OpenSpec.ofChange shedFatesWrong)

/-- 'footmanlaw23.ShedWaits': WHATEVER THE INPUT: true; the input reads as it did. -/
def shedWaitsSpec : ChangeSpec := { name := "shedWaits", fn := fun _ => fun
  | [d1, d2] => { results := [.lit (.bool true)], args := [d1, d2] }
  | _ => none }
def shedWaitsRow : OpenClaim := { program := "ytcgnoaaejaofiaa", sum := "554932d2fb14b2801fede3fd090a2ff9baadc4469d314ea065fdeaba1dbfc627", func := "footman/footmanlaw23.ShedWaits", spec := "shedWaits", apart := false }
def ShedWaitsSaid : Prop := shedWaitsRow.holds Try.pinned (OpenSpec.ofChange shedWaitsSpec)

/-- ITS FALSE NEIGHBOUR: 'it returns false'. Refute it at one input. -/
def shedWaitsWrong : ChangeSpec := { name := "shedWaits", fn := fun _ => fun
  | [d1, d2] => { results := [.lit (.bool false)], args := [d1, d2] }
  | _ => none }
def ShedWaitsWrongFalsely : Prop := shedWaitsRow.holds Try.pinned (OpenSpec.ofChange shedWaitsWrong)

/-- 'footmanlaw23.ShedGrows': WHATEVER THE INPUT: true; the input reads as it did. -/
def shedGrowsSpec : ChangeSpec := { name := "shedGrows", fn := fun _ => fun
  | [d1, d2, d3] => { results := [.lit (.bool true)], args := [d1, d2, d3] }
  | _ => none }
def shedGrowsRow : OpenClaim := { program := "ytcgnoaaejaofiaa", sum := "554932d2fb14b2801fede3fd090a2ff9baadc4469d314ea065fdeaba1dbfc627", func := "footman/footmanlaw23.ShedGrows", spec := "shedGrows", apart := false }
def ShedGrowsSaid : Prop := shedGrowsRow.holds Try.pinned (OpenSpec.ofChange shedGrowsSpec)

/-- ITS FALSE NEIGHBOUR: 'it returns false'. Refute it at one input. -/
def shedGrowsWrong : ChangeSpec := { name := "shedGrows", fn := fun _ => fun
  | [d1, d2, d3] => { results := [.lit (.bool false)], args := [d1, d2, d3] }
  | _ => none }
def ShedGrowsWrongFalsely : Prop := shedGrowsRow.holds Try.pinned (OpenSpec.ofChange shedGrowsWrong)

/- THE SECOND FORM. 'bulk': how many values and letters a reading holds, each counted each time it is reached (what is shared counts as often as it is met; a slice's spare places count too). A statement '..UptoSaid' is the law's where the arguments, and the package variables that the reading takes, are together of bulk at most 1048576: NARROWER than '..Said'. Prove '..Said' where nothing that the law and all that it calls make is longer than what came in: it says more and counts as full. Else prove '..UptoSaid'. A law counts once. -/
mutual
def uptoBulk {H : Type} : DataW H → Nat
  | .lit (.string bytes) => bytes.length + 1
  | .lit _ => 1
  | .nil => 1
  | .ptr d => uptoBulk d + 1
  | .slice elems spare => uptoBulkAll elems + uptoBulkAll spare + 1
  | .agg parts => uptoBulkAll parts + 1
  | .iface _ d => uptoBulk d + 1
  | .map entries => uptoBulkEntries entries + 1
  | .held _ => 1
def uptoBulkAll {H : Type} : List (DataW H) → Nat
  | [] => 0
  | d :: r => uptoBulk d + uptoBulkAll r
def uptoBulkEntries {H : Type} : List (Lit × DataW H) → Nat
  | [] => 0
  | x :: r => uptoBulkEntry x + uptoBulkEntries r
def uptoBulkEntry {H : Type} : Lit × DataW H → Nat
  | (.string bytes, d) => bytes.length + uptoBulk d + 1
  | (_, d) => uptoBulk d + 1
 end
def uptoSmall : (H : Type) → List (DataW H) → Bool := fun _ ds => decide (uptoBulkAll ds ≤ 1048576)
def OpenSpec.upto (s : _root_.Go.ChangeSpec) : _root_.Go.OpenSpec := { _root_.Go.OpenSpec.ofChange s with cond := some uptoSmall }

/-- 'footmanlaw23.ShedDecides', WHERE WHAT IT READS IS OF BULK AT MOST 1048576: true; the input reads as it did. -/
def shedDecidesUptoRow : OpenClaim := { program := "ytcgnoaaejaofiaa", sum := "554932d2fb14b2801fede3fd090a2ff9baadc4469d314ea065fdeaba1dbfc627", func := "footman/footmanlaw23.ShedDecides", spec := "shedDecides", apart := false, narrowed := true }
def ShedDecidesUptoSaid : Prop := shedDecidesUptoRow.holds Try.pinned (OpenSpec.upto shedDecidesSpec)

/-- 'footmanlaw23.ShedFates', WHERE WHAT IT READS IS OF BULK AT MOST 1048576: true; the input reads as it did. -/
def shedFatesUptoRow : OpenClaim := { program := "ytcgnoaaejaofiaa", sum := "554932d2fb14b2801fede3fd090a2ff9baadc4469d314ea065fdeaba1dbfc627", func := "footman/footmanlaw23.ShedFates", spec := "shedFates", apart := false, narrowed := true }
def ShedFatesUptoSaid : Prop := shedFatesUptoRow.holds Try.pinned (OpenSpec.upto shedFatesSpec)

/-- 'footmanlaw23.ShedWaits', WHERE WHAT IT READS IS OF BULK AT MOST 1048576: true; the input reads as it did. -/
def shedWaitsUptoRow : OpenClaim := { program := "ytcgnoaaejaofiaa", sum := "554932d2fb14b2801fede3fd090a2ff9baadc4469d314ea065fdeaba1dbfc627", func := "footman/footmanlaw23.ShedWaits", spec := "shedWaits", apart := false, narrowed := true }
def ShedWaitsUptoSaid : Prop := shedWaitsUptoRow.holds Try.pinned (OpenSpec.upto shedWaitsSpec)

/-- 'footmanlaw23.ShedGrows', WHERE WHAT IT READS IS OF BULK AT MOST 1048576: true; the input reads as it did. -/
def shedGrowsUptoRow : OpenClaim := { program := "ytcgnoaaejaofiaa", sum := "554932d2fb14b2801fede3fd090a2ff9baadc4469d314ea065fdeaba1dbfc627", func := "footman/footmanlaw23.ShedGrows", spec := "shedGrows", apart := false, narrowed := true }
def ShedGrowsUptoSaid : Prop := shedGrowsUptoRow.holds Try.pinned (OpenSpec.upto shedGrowsSpec)

end Rows
end Go.Proofs.Ytcgnoaaejaofiaa
