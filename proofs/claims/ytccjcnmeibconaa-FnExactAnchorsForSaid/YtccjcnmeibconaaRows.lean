/-
  No cell of these rows narrows 'for every input' (looked for: loops, veiled, ifaces, maps, wideKeys, modest, calm, conditions, laid).
  DERIVED. THE GIVEN ROWS OF THIS SEAT. 5 by the template 'for every input the law returns true; each argument reads behind the call as it read before'; 0 by the template 'total and deterministic' (their statements: YtccjcnmeibconaaTotals.lean).
  GIVEN WITH THE SEED: the statements are not yours to turn. If you find one false, say at which input.
  Laid BY PROGRAM, IN A SANDBOX (cutbox-rows.mjs): the forced cells as the released guide's own fill.sh prints them over the translation 4ad03174956bf717… (all of the seat's roots in one cut). By AI agents, Wed Nov 11 2026. No macro, syntax, notation, axiom, sorry.
-/
import Derived.Test.YtccjcnmeibconaaChecked
import GoSem.Claim
import GoSem.ClaimJoined
import GoSem.ClaimMapViews
import Derived.JoinedTies
import Derived.KernelRfl
namespace Go.Proofs.Ytccjcnmeibconaa
/- THE CELL 'sum', in the pinned program and in every row, IS THE sha256 OF THE DUMP (.gsa) THAT YtccjcnmeibconaaProg.lean LOADS. Nothing in Lean hashes anything: it is a label: what it is worth is what the hold of that sum in a sandbox is worth. -/
noncomputable def Try.pinned : Pinned := { name := "ytccjcnmeibconaa", sum := "4ad03174956bf717d973408115d65f1e3029d84d63b05f076fa17e95d866d04b", checked := Try.checked }
namespace Rows
def none {H : Type} : Left H := { results := [], args := [] }

/-- 'laws.FnExactHoldingPlaces': WHATEVER THE INPUT: true; the input reads as it did. -/
def fnExactHoldingPlacesSpec : ChangeSpec := { name := "fnExactHoldingPlaces", fn := fun _ => fun
  | [d1, d2, d3, d4] => { results := [.lit (.bool true)], args := [d1, d2, d3, d4] }
  | _ => none }
def fnExactHoldingPlacesRow : OpenClaim := { program := "ytccjcnmeibconaa", sum := "4ad03174956bf717d973408115d65f1e3029d84d63b05f076fa17e95d866d04b", func := "loop.example/g01400/laws.FnExactHoldingPlaces", spec := "fnExactHoldingPlaces", apart := false }
def FnExactHoldingPlacesSaid : Prop := fnExactHoldingPlacesRow.holds Try.pinned (OpenSpec.ofChange fnExactHoldingPlacesSpec)

/-- ITS FALSE NEIGHBOUR: 'it returns false'. Refute it at one input. -/
def fnExactHoldingPlacesWrong : ChangeSpec := { name := "fnExactHoldingPlaces", fn := fun _ => fun
  | [d1, d2, d3, d4] => { results := [.lit (.bool false)], args := [d1, d2, d3, d4] }
  | _ => none }
def FnExactHoldingPlacesWrongFalsely : Prop := fnExactHoldingPlacesRow.holds Try.pinned (OpenSpec.ofChange fnExactHoldingPlacesWrong)

/-- 'laws.FnExactFitsLog': WHATEVER THE INPUT: true; the input reads as it did. -/
def fnExactFitsLogSpec : ChangeSpec := { name := "fnExactFitsLog", fn := fun _ => fun
  | [d1, d2, d3] => { results := [.lit (.bool true)], args := [d1, d2, d3] }
  | _ => none }
def fnExactFitsLogRow : OpenClaim := { program := "ytccjcnmeibconaa", sum := "4ad03174956bf717d973408115d65f1e3029d84d63b05f076fa17e95d866d04b", func := "loop.example/g01400/laws.FnExactFitsLog", spec := "fnExactFitsLog", apart := false }
def FnExactFitsLogSaid : Prop := fnExactFitsLogRow.holds Try.pinned (OpenSpec.ofChange fnExactFitsLogSpec)

/-- ITS FALSE NEIGHBOUR: 'it returns false'. Refute it at one input. -/
def fnExactFitsLogWrong : ChangeSpec := { name := "fnExactFitsLog", fn := fun _ => fun
  | [d1, d2, d3] => { results := [.lit (.bool false)], args := [d1, d2, d3] }
  | _ => none }
def FnExactFitsLogWrongFalsely : Prop := fnExactFitsLogRow.holds Try.pinned (OpenSpec.ofChange fnExactFitsLogWrong)

/-- 'laws.FnExactFirstOff': WHATEVER THE INPUT: true; the input reads as it did. -/
def fnExactFirstOffSpec : ChangeSpec := { name := "fnExactFirstOff", fn := fun _ => fun
  | [d1, d2, d3] => { results := [.lit (.bool true)], args := [d1, d2, d3] }
  | _ => none }
def fnExactFirstOffRow : OpenClaim := { program := "ytccjcnmeibconaa", sum := "4ad03174956bf717d973408115d65f1e3029d84d63b05f076fa17e95d866d04b", func := "loop.example/g01400/laws.FnExactFirstOff", spec := "fnExactFirstOff", apart := false }
def FnExactFirstOffSaid : Prop := fnExactFirstOffRow.holds Try.pinned (OpenSpec.ofChange fnExactFirstOffSpec)

/-- ITS FALSE NEIGHBOUR: 'it returns false'. Refute it at one input. -/
def fnExactFirstOffWrong : ChangeSpec := { name := "fnExactFirstOff", fn := fun _ => fun
  | [d1, d2, d3] => { results := [.lit (.bool false)], args := [d1, d2, d3] }
  | _ => none }
def FnExactFirstOffWrongFalsely : Prop := fnExactFirstOffRow.holds Try.pinned (OpenSpec.ofChange fnExactFirstOffWrong)

/-- 'laws.FnExactAnchorsFor': WHATEVER THE INPUT: true; the input reads as it did. -/
def fnExactAnchorsForSpec : ChangeSpec := { name := "fnExactAnchorsFor", fn := fun _ => fun
  | [d1, d2, d3] => { results := [.lit (.bool true)], args := [d1, d2, d3] }
  | _ => none }
def fnExactAnchorsForRow : OpenClaim := { program := "ytccjcnmeibconaa", sum := "4ad03174956bf717d973408115d65f1e3029d84d63b05f076fa17e95d866d04b", func := "loop.example/g01400/laws.FnExactAnchorsFor", spec := "fnExactAnchorsFor", apart := false }
def FnExactAnchorsForSaid : Prop := fnExactAnchorsForRow.holds Try.pinned (OpenSpec.ofChange fnExactAnchorsForSpec)

/-- ITS FALSE NEIGHBOUR: 'it returns false'. Refute it at one input. -/
def fnExactAnchorsForWrong : ChangeSpec := { name := "fnExactAnchorsFor", fn := fun _ => fun
  | [d1, d2, d3] => { results := [.lit (.bool false)], args := [d1, d2, d3] }
  | _ => none }
def FnExactAnchorsForWrongFalsely : Prop := fnExactAnchorsForRow.holds Try.pinned (OpenSpec.ofChange fnExactAnchorsForWrong)

/-- 'laws.FnExactDraggedOf': WHATEVER THE INPUT: true; the input reads as it did. -/
def fnExactDraggedOfSpec : ChangeSpec := { name := "fnExactDraggedOf", fn := fun _ => fun
  | [d1, d2, d3] => { results := [.lit (.bool true)], args := [d1, d2, d3] }
  | _ => none }
def fnExactDraggedOfRow : OpenClaim := { program := "ytccjcnmeibconaa", sum := "4ad03174956bf717d973408115d65f1e3029d84d63b05f076fa17e95d866d04b", func := "loop.example/g01400/laws.FnExactDraggedOf", spec := "fnExactDraggedOf", apart := false }
def FnExactDraggedOfSaid : Prop := fnExactDraggedOfRow.holds Try.pinned (OpenSpec.ofChange fnExactDraggedOfSpec)

/-- ITS FALSE NEIGHBOUR: 'it returns false'. Refute it at one input. -/
def fnExactDraggedOfWrong : ChangeSpec := { name := "fnExactDraggedOf", fn := fun _ => fun
  | [d1, d2, d3] => { results := [.lit (.bool false)], args := [d1, d2, d3] }
  | _ => none }
def FnExactDraggedOfWrongFalsely : Prop := fnExactDraggedOfRow.holds Try.pinned (OpenSpec.ofChange fnExactDraggedOfWrong)

/- THE SECOND FORM. 'bulk': how many values and letters a reading holds, each counted each time it is reached (what is shared counts as often as it is met; a slice's spare places count too). A statement '..UptoSaid' is the law's where the arguments, and the package variables that the reading takes, are together of bulk at most 1048576: NARROWER than '..Said'. Prove '..Said' where nothing that the law and all that it calls make is longer than what came in: it says more and counts as full. Else prove '..UptoSaid'. A law counts once. -/
mutual
def uptoBulk {H : Type} : DataW H → Nat
  | .lit (.string bytes) => bytes.length + 1
  | .lit _ => 1
  | .nil => 1
  | .ptr d => uptoBulk d + 1
  | .slice elems spare => uptoBulkAll elems + uptoBulkAll spare + 1
  | .agg parts => uptoBulkAll parts + 1
  | .iface _ d => uptoBulk d + 1
  | .map entries => uptoBulkEntries entries + 1
  | .held _ => 1
def uptoBulkAll {H : Type} : List (DataW H) → Nat
  | [] => 0
  | d :: r => uptoBulk d + uptoBulkAll r
def uptoBulkEntries {H : Type} : List (Lit × DataW H) → Nat
  | [] => 0
  | x :: r => uptoBulkEntry x + uptoBulkEntries r
def uptoBulkEntry {H : Type} : Lit × DataW H → Nat
  | (.string bytes, d) => bytes.length + uptoBulk d + 1
  | (_, d) => uptoBulk d + 1
 end
def uptoSmall : (H : Type) → List (DataW H) → Bool := fun _ ds => decide (uptoBulkAll ds ≤ 1048576)
def OpenSpec.upto (s : _root_.Go.ChangeSpec) : _root_.Go.OpenSpec := { _root_.Go.OpenSpec.ofChange s with cond := some uptoSmall }

/-- 'laws.FnExactHoldingPlaces', WHERE WHAT IT READS IS OF BULK AT MOST 1048576: true; the input reads as it did. -/
def fnExactHoldingPlacesUptoRow : OpenClaim := { program := "ytccjcnmeibconaa", sum := "4ad03174956bf717d973408115d65f1e3029d84d63b05f076fa17e95d866d04b", func := "loop.example/g01400/laws.FnExactHoldingPlaces", spec := "fnExactHoldingPlaces", apart := false, narrowed := true }
def FnExactHoldingPlacesUptoSaid : Prop := fnExactHoldingPlacesUptoRow.holds Try.pinned (OpenSpec.upto fnExactHoldingPlacesSpec)

/-- 'laws.FnExactFitsLog', WHERE WHAT IT READS IS OF BULK AT MOST 1048576: true; the input reads as it did. -/
def fnExactFitsLogUptoRow : OpenClaim := { program := "ytccjcnmeibconaa", sum := "4ad03174956bf717d973408115d65f1e3029d84d63b05f076fa17e95d866d04b", func := "loop.example/g01400/laws.FnExactFitsLog", spec := "fnExactFitsLog", apart := false, narrowed := true }
def FnExactFitsLogUptoSaid : Prop := fnExactFitsLogUptoRow.holds Try.pinned (OpenSpec.upto fnExactFitsLogSpec)

/-- 'laws.FnExactFirstOff', WHERE WHAT IT READS IS OF BULK AT MOST 1048576: true; the input reads as it did. -/
def fnExactFirstOffUptoRow : OpenClaim := { program := "ytccjcnmeibconaa", sum := "4ad03174956bf717d973408115d65f1e3029d84d63b05f076fa17e95d866d04b", func := "loop.example/g01400/laws.FnExactFirstOff", spec := "fnExactFirstOff", apart := false, narrowed := true }
def FnExactFirstOffUptoSaid : Prop := fnExactFirstOffUptoRow.holds Try.pinned (OpenSpec.upto fnExactFirstOffSpec)

/-- 'laws.FnExactAnchorsFor', WHERE WHAT IT READS IS OF BULK AT MOST 1048576: true; the input reads as it did. -/
def fnExactAnchorsForUptoRow : OpenClaim := { program := "ytccjcnmeibconaa", sum := "4ad03174956bf717d973408115d65f1e3029d84d63b05f076fa17e95d866d04b", func := "loop.example/g01400/laws.FnExactAnchorsFor", spec := "fnExactAnchorsFor", apart := false, narrowed := true }
def FnExactAnchorsForUptoSaid : Prop := fnExactAnchorsForUptoRow.holds Try.pinned (OpenSpec.upto fnExactAnchorsForSpec)

/-- 'laws.FnExactDraggedOf', WHERE WHAT IT READS IS OF BULK AT MOST 1048576: true; the input reads as it did. -/
def fnExactDraggedOfUptoRow : OpenClaim := { program := "ytccjcnmeibconaa", sum := "4ad03174956bf717d973408115d65f1e3029d84d63b05f076fa17e95d866d04b", func := "loop.example/g01400/laws.FnExactDraggedOf", spec := "fnExactDraggedOf", apart := false, narrowed := true }
def FnExactDraggedOfUptoSaid : Prop := fnExactDraggedOfUptoRow.holds Try.pinned (OpenSpec.upto fnExactDraggedOfSpec)

end Rows
end Go.Proofs.Ytccjcnmeibconaa
