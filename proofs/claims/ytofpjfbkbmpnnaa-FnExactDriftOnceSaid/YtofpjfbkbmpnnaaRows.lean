/-
  No cell of these rows narrows 'for every input' (looked for: loops, veiled, ifaces, maps, wideKeys, modest, calm, conditions, laid).
  DERIVED. THE GIVEN ROWS OF THIS SEAT. 4 by the template 'for every input the law returns true; each argument reads behind the call as it read before'; 0 by the template 'total and deterministic' (their statements: YtofpjfbkbmpnnaaTotals.lean).
  GIVEN WITH THE SEED: the statements are not yours to turn. If you find one false, say at which input.
  Laid BY PROGRAM, IN A SANDBOX (cutbox-rows.mjs): the forced cells as the released guide's own fill.sh prints them over the translation d0e1cb541e600013… (all of the seat's roots in one cut). By AI agents, Wed Nov 11 2026. No macro, syntax, notation, axiom, sorry.
-/
import Derived.Test.YtofpjfbkbmpnnaaChecked
import GoSem.Claim
import GoSem.ClaimJoined
import GoSem.ClaimMapViews
import Derived.JoinedTies
import Derived.KernelRfl
namespace Go.Proofs.Ytofpjfbkbmpnnaa
/- THE CELL 'sum', in the pinned program and in every row, IS THE sha256 OF THE DUMP (.gsa) THAT YtofpjfbkbmpnnaaProg.lean LOADS. Nothing in Lean hashes anything: it is a label: what it is worth is what the hold of that sum in a sandbox is worth. -/
noncomputable def Try.pinned : Pinned := { name := "ytofpjfbkbmpnnaa", sum := "d0e1cb541e6000136985fc2926a8f6a2c307bb9fd0b2e04b56385094255ec4ae", checked := Try.checked }
namespace Rows
def none {H : Type} : Left H := { results := [], args := [] }

/-- 'laws.FnExactValidGrounds': WHATEVER THE INPUT: true; the input reads as it did. -/
def fnExactValidGroundsSpec : ChangeSpec := { name := "fnExactValidGrounds", fn := fun _ => fun
  | [d1, d2] => { results := [.lit (.bool true)], args := [d1, d2] }
  | _ => none }
def fnExactValidGroundsRow : OpenClaim := { program := "ytofpjfbkbmpnnaa", sum := "d0e1cb541e6000136985fc2926a8f6a2c307bb9fd0b2e04b56385094255ec4ae", func := "loop.example/g01400/laws.FnExactValidGrounds", spec := "fnExactValidGrounds", apart := false }
def FnExactValidGroundsSaid : Prop := fnExactValidGroundsRow.holds Try.pinned (OpenSpec.ofChange fnExactValidGroundsSpec)

/-- ITS FALSE NEIGHBOUR: 'it returns false'. Refute it at one input. -/
def fnExactValidGroundsWrong : ChangeSpec := { name := "fnExactValidGrounds", fn := fun _ => fun
  | [d1, d2] => { results := [.lit (.bool false)], args := [d1, d2] }
  | _ => none }
def FnExactValidGroundsWrongFalsely : Prop := fnExactValidGroundsRow.holds Try.pinned (OpenSpec.ofChange fnExactValidGroundsWrong)

/-- 'laws.FnExactHoldOf': WHATEVER THE INPUT: true; the input reads as it did. -/
def fnExactHoldOfSpec : ChangeSpec := { name := "fnExactHoldOf", fn := fun _ => fun
  | [d1, d2, d3] => { results := [.lit (.bool true)], args := [d1, d2, d3] }
  | _ => none }
def fnExactHoldOfRow : OpenClaim := { program := "ytofpjfbkbmpnnaa", sum := "d0e1cb541e6000136985fc2926a8f6a2c307bb9fd0b2e04b56385094255ec4ae", func := "loop.example/g01400/laws.FnExactHoldOf", spec := "fnExactHoldOf", apart := false }
def FnExactHoldOfSaid : Prop := fnExactHoldOfRow.holds Try.pinned (OpenSpec.ofChange fnExactHoldOfSpec)

/-- ITS FALSE NEIGHBOUR: 'it returns false'. Refute it at one input. -/
def fnExactHoldOfWrong : ChangeSpec := { name := "fnExactHoldOf", fn := fun _ => fun
  | [d1, d2, d3] => { results := [.lit (.bool false)], args := [d1, d2, d3] }
  | _ => none }
def FnExactHoldOfWrongFalsely : Prop := fnExactHoldOfRow.holds Try.pinned (OpenSpec.ofChange fnExactHoldOfWrong)

/-- 'laws.FnExactDriftOnce': WHATEVER THE INPUT: true; the input reads as it did. -/
def fnExactDriftOnceSpec : ChangeSpec := { name := "fnExactDriftOnce", fn := fun _ => fun
  | [d1, d2, d3, d4] => { results := [.lit (.bool true)], args := [d1, d2, d3, d4] }
  | _ => none }
def fnExactDriftOnceRow : OpenClaim := { program := "ytofpjfbkbmpnnaa", sum := "d0e1cb541e6000136985fc2926a8f6a2c307bb9fd0b2e04b56385094255ec4ae", func := "loop.example/g01400/laws.FnExactDriftOnce", spec := "fnExactDriftOnce", apart := false }
def FnExactDriftOnceSaid : Prop := fnExactDriftOnceRow.holds Try.pinned (OpenSpec.ofChange fnExactDriftOnceSpec)

/-- ITS FALSE NEIGHBOUR: 'it returns false'. Refute it at one input. -/
def fnExactDriftOnceWrong : ChangeSpec := { name := "fnExactDriftOnce", fn := fun _ => fun
  | [d1, d2, d3, d4] => { results := [.lit (.bool false)], args := [d1, d2, d3, d4] }
  | _ => none }
def FnExactDriftOnceWrongFalsely : Prop := fnExactDriftOnceRow.holds Try.pinned (OpenSpec.ofChange fnExactDriftOnceWrong)

/-- 'laws.FnExactChainFor': WHATEVER THE INPUT: true; the input reads as it did. -/
def fnExactChainForSpec : ChangeSpec := { name := "fnExactChainFor", fn := fun _ => fun
  | [d1, d2, d3, d4] => { results := [.lit (.bool true)], args := [d1, d2, d3, d4] }
  | _ => none }
def fnExactChainForRow : OpenClaim := { program := "ytofpjfbkbmpnnaa", sum := "d0e1cb541e6000136985fc2926a8f6a2c307bb9fd0b2e04b56385094255ec4ae", func := "loop.example/g01400/laws.FnExactChainFor", spec := "fnExactChainFor", apart := false }
def FnExactChainForSaid : Prop := fnExactChainForRow.holds Try.pinned (OpenSpec.ofChange fnExactChainForSpec)

/-- ITS FALSE NEIGHBOUR: 'it returns false'. Refute it at one input. -/
def fnExactChainForWrong : ChangeSpec := { name := "fnExactChainFor", fn := fun _ => fun
  | [d1, d2, d3, d4] => { results := [.lit (.bool false)], args := [d1, d2, d3, d4] }
  | _ => none }
def FnExactChainForWrongFalsely : Prop := fnExactChainForRow.holds Try.pinned (OpenSpec.ofChange fnExactChainForWrong)

/- THE SECOND FORM. 'bulk': how many values and letters a reading holds, each counted each time it is reached (what is shared counts as often as it is met; a slice's spare places count too). A statement '..UptoSaid' is the law's where the arguments, and the package variables that the reading takes, are together of bulk at most 1048576: NARROWER than '..Said'. Prove '..Said' where nothing that the law and all that it calls make is longer than what came in: it says more and counts as full. Else prove '..UptoSaid'. A law counts once. -/
mutual
def uptoBulk {H : Type} : DataW H → Nat
  | .lit (.string bytes) => bytes.length + 1
  | .lit _ => 1
  | .nil => 1
  | .ptr d => uptoBulk d + 1
  | .slice elems spare => uptoBulkAll elems + uptoBulkAll spare + 1
  | .agg parts => uptoBulkAll parts + 1
  | .iface _ d => uptoBulk d + 1
  | .map entries => uptoBulkEntries entries + 1
  | .held _ => 1
def uptoBulkAll {H : Type} : List (DataW H) → Nat
  | [] => 0
  | d :: r => uptoBulk d + uptoBulkAll r
def uptoBulkEntries {H : Type} : List (Lit × DataW H) → Nat
  | [] => 0
  | x :: r => uptoBulkEntry x + uptoBulkEntries r
def uptoBulkEntry {H : Type} : Lit × DataW H → Nat
  | (.string bytes, d) => bytes.length + uptoBulk d + 1
  | (_, d) => uptoBulk d + 1
 end
def uptoSmall : (H : Type) → List (DataW H) → Bool := fun _ ds => decide (uptoBulkAll ds ≤ 1048576)
def OpenSpec.upto (s : _root_.Go.ChangeSpec) : _root_.Go.OpenSpec := { _root_.Go.OpenSpec.ofChange s with cond := some uptoSmall }

/-- 'laws.FnExactValidGrounds', WHERE WHAT IT READS IS OF BULK AT MOST 1048576: true; the input reads as it did. -/
def fnExactValidGroundsUptoRow : OpenClaim := { program := "ytofpjfbkbmpnnaa", sum := "d0e1cb541e6000136985fc2926a8f6a2c307bb9fd0b2e04b56385094255ec4ae", func := "loop.example/g01400/laws.FnExactValidGrounds", spec := "fnExactValidGrounds", apart := false, narrowed := true }
def FnExactValidGroundsUptoSaid : Prop := fnExactValidGroundsUptoRow.holds Try.pinned (OpenSpec.upto fnExactValidGroundsSpec)

/-- 'laws.FnExactHoldOf', WHERE WHAT IT READS IS OF BULK AT MOST 1048576: true; the input reads as it did. -/
def fnExactHoldOfUptoRow : OpenClaim := { program := "ytofpjfbkbmpnnaa", sum := "d0e1cb541e6000136985fc2926a8f6a2c307bb9fd0b2e04b56385094255ec4ae", func := "loop.example/g01400/laws.FnExactHoldOf", spec := "fnExactHoldOf", apart := false, narrowed := true }
def FnExactHoldOfUptoSaid : Prop := fnExactHoldOfUptoRow.holds Try.pinned (OpenSpec.upto fnExactHoldOfSpec)

/-- 'laws.FnExactDriftOnce', WHERE WHAT IT READS IS OF BULK AT MOST 1048576: true; the input reads as it did. -/
def fnExactDriftOnceUptoRow : OpenClaim := { program := "ytofpjfbkbmpnnaa", sum := "d0e1cb541e6000136985fc2926a8f6a2c307bb9fd0b2e04b56385094255ec4ae", func := "loop.example/g01400/laws.FnExactDriftOnce", spec := "fnExactDriftOnce", apart := false, narrowed := true }
def FnExactDriftOnceUptoSaid : Prop := fnExactDriftOnceUptoRow.holds Try.pinned (OpenSpec.upto fnExactDriftOnceSpec)

/-- 'laws.FnExactChainFor', WHERE WHAT IT READS IS OF BULK AT MOST 1048576: true; the input reads as it did. -/
def fnExactChainForUptoRow : OpenClaim := { program := "ytofpjfbkbmpnnaa", sum := "d0e1cb541e6000136985fc2926a8f6a2c307bb9fd0b2e04b56385094255ec4ae", func := "loop.example/g01400/laws.FnExactChainFor", spec := "fnExactChainFor", apart := false, narrowed := true }
def FnExactChainForUptoSaid : Prop := fnExactChainForUptoRow.holds Try.pinned (OpenSpec.upto fnExactChainForSpec)

end Rows
end Go.Proofs.Ytofpjfbkbmpnnaa
