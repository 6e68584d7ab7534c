/-
  No cell of these rows narrows 'for every input' (looked for: loops, veiled, ifaces, maps, wideKeys, modest, calm, conditions, laid).
  DERIVED. THE GIVEN ROWS OF THIS SEAT. 12 by the template 'for every input the law returns true; each argument reads behind the call as it read before'; 0 by the template 'total and deterministic' (their statements: YtnpaoeemgglaaaaTotals.lean).
  GIVEN WITH THE SEED: the statements are not yours to turn. If you find one false, say at which input.
  Laid BY PROGRAM, IN A SANDBOX (cutbox-rows.mjs): the forced cells as the released guide's own fill.sh prints them over the translation a4370865b49c45c7… (all of the seat's roots in one cut). By AI agents, Wed Nov 11 2026. No macro, syntax, notation, axiom, sorry.
-/
import Derived.Test.YtnpaoeemgglaaaaChecked
import GoSem.Claim
import GoSem.ClaimJoined
import GoSem.ClaimMapViews
import Derived.JoinedTies
import Derived.KernelRfl
namespace Go.Proofs.Ytnpaoeemgglaaaa
/- THE CELL 'sum', in the pinned program and in every row, IS THE sha256 OF THE DUMP (.gsa) THAT YtnpaoeemgglaaaaProg.lean LOADS. Nothing in Lean hashes anything: it is a label: what it is worth is what the hold of that sum in a sandbox is worth. -/
noncomputable def Try.pinned : Pinned := { name := "ytnpaoeemgglaaaa", sum := "a4370865b49c45c751eca15884879028911e1d13ed982a5ac8a1128fb7474a45", checked := Try.checked }
namespace Rows
def none {H : Type} : Left H := { results := [], args := [] }

/-- 'laws.FnExactValidFees': WHATEVER THE INPUT: true; the input reads as it did. -/
def fnExactValidFeesSpec : ChangeSpec := { name := "fnExactValidFees", fn := fun _ => fun
  | [d] => { results := [.lit (.bool true)], args := [d] }
  | _ => none }
def fnExactValidFeesRow : OpenClaim := { program := "ytnpaoeemgglaaaa", sum := "a4370865b49c45c751eca15884879028911e1d13ed982a5ac8a1128fb7474a45", func := "loop.example/g01400/laws.FnExactValidFees", spec := "fnExactValidFees", apart := false }
def FnExactValidFeesSaid : Prop := fnExactValidFeesRow.holds Try.pinned (OpenSpec.ofChange fnExactValidFeesSpec)

/-- ITS FALSE NEIGHBOUR: 'it returns false'. Refute it at one input. -/
def fnExactValidFeesWrong : ChangeSpec := { name := "fnExactValidFees", fn := fun _ => fun
  | [d] => { results := [.lit (.bool false)], args := [d] }
  | _ => none }
def FnExactValidFeesWrongFalsely : Prop := fnExactValidFeesRow.holds Try.pinned (OpenSpec.ofChange fnExactValidFeesWrong)

/-- 'laws.FnExactValidStay': WHATEVER THE INPUT: true; the input reads as it did. -/
def fnExactValidStaySpec : ChangeSpec := { name := "fnExactValidStay", fn := fun _ => fun
  | [d] => { results := [.lit (.bool true)], args := [d] }
  | _ => none }
def fnExactValidStayRow : OpenClaim := { program := "ytnpaoeemgglaaaa", sum := "a4370865b49c45c751eca15884879028911e1d13ed982a5ac8a1128fb7474a45", func := "loop.example/g01400/laws.FnExactValidStay", spec := "fnExactValidStay", apart := false }
def FnExactValidStaySaid : Prop := fnExactValidStayRow.holds Try.pinned (OpenSpec.ofChange fnExactValidStaySpec)

/-- ITS FALSE NEIGHBOUR: 'it returns false'. Refute it at one input. -/
def fnExactValidStayWrong : ChangeSpec := { name := "fnExactValidStay", fn := fun _ => fun
  | [d] => { results := [.lit (.bool false)], args := [d] }
  | _ => none }
def FnExactValidStayWrongFalsely : Prop := fnExactValidStayRow.holds Try.pinned (OpenSpec.ofChange fnExactValidStayWrong)

/-- 'laws.FnExactOverlap': WHATEVER THE INPUT: true; the input reads as it did. -/
def fnExactOverlapSpec : ChangeSpec := { name := "fnExactOverlap", fn := fun _ => fun
  | [d1, d2] => { results := [.lit (.bool true)], args := [d1, d2] }
  | _ => none }
def fnExactOverlapRow : OpenClaim := { program := "ytnpaoeemgglaaaa", sum := "a4370865b49c45c751eca15884879028911e1d13ed982a5ac8a1128fb7474a45", func := "loop.example/g01400/laws.FnExactOverlap", spec := "fnExactOverlap", apart := false }
def FnExactOverlapSaid : Prop := fnExactOverlapRow.holds Try.pinned (OpenSpec.ofChange fnExactOverlapSpec)

/-- ITS FALSE NEIGHBOUR: 'it returns false'. Refute it at one input. -/
def fnExactOverlapWrong : ChangeSpec := { name := "fnExactOverlap", fn := fun _ => fun
  | [d1, d2] => { results := [.lit (.bool false)], args := [d1, d2] }
  | _ => none }
def FnExactOverlapWrongFalsely : Prop := fnExactOverlapRow.holds Try.pinned (OpenSpec.ofChange fnExactOverlapWrong)

/-- 'laws.FnExactWatchAt': WHATEVER THE INPUT: true; the input reads as it did. -/
def fnExactWatchAtSpec : ChangeSpec := { name := "fnExactWatchAt", fn := fun _ => fun
  | [d1, d2, d3] => { results := [.lit (.bool true)], args := [d1, d2, d3] }
  | _ => none }
def fnExactWatchAtRow : OpenClaim := { program := "ytnpaoeemgglaaaa", sum := "a4370865b49c45c751eca15884879028911e1d13ed982a5ac8a1128fb7474a45", func := "loop.example/g01400/laws.FnExactWatchAt", spec := "fnExactWatchAt", apart := false }
def FnExactWatchAtSaid : Prop := fnExactWatchAtRow.holds Try.pinned (OpenSpec.ofChange fnExactWatchAtSpec)

/-- ITS FALSE NEIGHBOUR: 'it returns false'. Refute it at one input. -/
def fnExactWatchAtWrong : ChangeSpec := { name := "fnExactWatchAt", fn := fun _ => fun
  | [d1, d2, d3] => { results := [.lit (.bool false)], args := [d1, d2, d3] }
  | _ => none }
def FnExactWatchAtWrongFalsely : Prop := fnExactWatchAtRow.holds Try.pinned (OpenSpec.ofChange fnExactWatchAtWrong)

/-- 'laws.FnExactFeeOf': WHATEVER THE INPUT: true; the input reads as it did. -/
def fnExactFeeOfSpec : ChangeSpec := { name := "fnExactFeeOf", fn := fun _ => fun
  | [d1, d2] => { results := [.lit (.bool true)], args := [d1, d2] }
  | _ => none }
def fnExactFeeOfRow : OpenClaim := { program := "ytnpaoeemgglaaaa", sum := "a4370865b49c45c751eca15884879028911e1d13ed982a5ac8a1128fb7474a45", func := "loop.example/g01400/laws.FnExactFeeOf", spec := "fnExactFeeOf", apart := false }
def FnExactFeeOfSaid : Prop := fnExactFeeOfRow.holds Try.pinned (OpenSpec.ofChange fnExactFeeOfSpec)

/-- ITS FALSE NEIGHBOUR: 'it returns false'. Refute it at one input. -/
def fnExactFeeOfWrong : ChangeSpec := { name := "fnExactFeeOf", fn := fun _ => fun
  | [d1, d2] => { results := [.lit (.bool false)], args := [d1, d2] }
  | _ => none }
def FnExactFeeOfWrongFalsely : Prop := fnExactFeeOfRow.holds Try.pinned (OpenSpec.ofChange fnExactFeeOfWrong)

/-- 'laws.FnExactShareNight': WHATEVER THE INPUT: true; the input reads as it did. -/
def fnExactShareNightSpec : ChangeSpec := { name := "fnExactShareNight", fn := fun _ => fun
  | [d1, d2] => { results := [.lit (.bool true)], args := [d1, d2] }
  | _ => none }
def fnExactShareNightRow : OpenClaim := { program := "ytnpaoeemgglaaaa", sum := "a4370865b49c45c751eca15884879028911e1d13ed982a5ac8a1128fb7474a45", func := "loop.example/g01400/laws.FnExactShareNight", spec := "fnExactShareNight", apart := false }
def FnExactShareNightSaid : Prop := fnExactShareNightRow.holds Try.pinned (OpenSpec.ofChange fnExactShareNightSpec)

/-- ITS FALSE NEIGHBOUR: 'it returns false'. Refute it at one input. -/
def fnExactShareNightWrong : ChangeSpec := { name := "fnExactShareNight", fn := fun _ => fun
  | [d1, d2] => { results := [.lit (.bool false)], args := [d1, d2] }
  | _ => none }
def FnExactShareNightWrongFalsely : Prop := fnExactShareNightRow.holds Try.pinned (OpenSpec.ofChange fnExactShareNightWrong)

/-- 'laws.FnExactBalances': WHATEVER THE INPUT: true; the input reads as it did. -/
def fnExactBalancesSpec : ChangeSpec := { name := "fnExactBalances", fn := fun _ => fun
  | [d] => { results := [.lit (.bool true)], args := [d] }
  | _ => none }
def fnExactBalancesRow : OpenClaim := { program := "ytnpaoeemgglaaaa", sum := "a4370865b49c45c751eca15884879028911e1d13ed982a5ac8a1128fb7474a45", func := "loop.example/g01400/laws.FnExactBalances", spec := "fnExactBalances", apart := false }
def FnExactBalancesSaid : Prop := fnExactBalancesRow.holds Try.pinned (OpenSpec.ofChange fnExactBalancesSpec)

/-- ITS FALSE NEIGHBOUR: 'it returns false'. Refute it at one input. -/
def fnExactBalancesWrong : ChangeSpec := { name := "fnExactBalances", fn := fun _ => fun
  | [d] => { results := [.lit (.bool false)], args := [d] }
  | _ => none }
def FnExactBalancesWrongFalsely : Prop := fnExactBalancesRow.holds Try.pinned (OpenSpec.ofChange fnExactBalancesWrong)

/-- 'laws.FnExactFullestNight': WHATEVER THE INPUT: true; the input reads as it did. -/
def fnExactFullestNightSpec : ChangeSpec := { name := "fnExactFullestNight", fn := fun _ => fun
  | [d] => { results := [.lit (.bool true)], args := [d] }
  | _ => none }
def fnExactFullestNightRow : OpenClaim := { program := "ytnpaoeemgglaaaa", sum := "a4370865b49c45c751eca15884879028911e1d13ed982a5ac8a1128fb7474a45", func := "loop.example/g01400/laws.FnExactFullestNight", spec := "fnExactFullestNight", apart := false }
def FnExactFullestNightSaid : Prop := fnExactFullestNightRow.holds Try.pinned (OpenSpec.ofChange fnExactFullestNightSpec)

/-- ITS FALSE NEIGHBOUR: 'it returns false'. Refute it at one input. -/
def fnExactFullestNightWrong : ChangeSpec := { name := "fnExactFullestNight", fn := fun _ => fun
  | [d] => { results := [.lit (.bool false)], args := [d] }
  | _ => none }
def FnExactFullestNightWrongFalsely : Prop := fnExactFullestNightRow.holds Try.pinned (OpenSpec.ofChange fnExactFullestNightWrong)

/-- 'laws.FnExactFeesOf': WHATEVER THE INPUT: true; the input reads as it did. -/
def fnExactFeesOfSpec : ChangeSpec := { name := "fnExactFeesOf", fn := fun _ => fun
  | [d1, d2] => { results := [.lit (.bool true)], args := [d1, d2] }
  | _ => none }
def fnExactFeesOfRow : OpenClaim := { program := "ytnpaoeemgglaaaa", sum := "a4370865b49c45c751eca15884879028911e1d13ed982a5ac8a1128fb7474a45", func := "loop.example/g01400/laws.FnExactFeesOf", spec := "fnExactFeesOf", apart := false }
def FnExactFeesOfSaid : Prop := fnExactFeesOfRow.holds Try.pinned (OpenSpec.ofChange fnExactFeesOfSpec)

/-- ITS FALSE NEIGHBOUR: 'it returns false'. Refute it at one input. -/
def fnExactFeesOfWrong : ChangeSpec := { name := "fnExactFeesOf", fn := fun _ => fun
  | [d1, d2] => { results := [.lit (.bool false)], args := [d1, d2] }
  | _ => none }
def FnExactFeesOfWrongFalsely : Prop := fnExactFeesOfRow.holds Try.pinned (OpenSpec.ofChange fnExactFeesOfWrong)

/-- 'laws.FnExactCheckPlaces': WHATEVER THE INPUT: true; the input reads as it did. -/
def fnExactCheckPlacesSpec : ChangeSpec := { name := "fnExactCheckPlaces", fn := fun _ => fun
  | [d1, d2] => { results := [.lit (.bool true)], args := [d1, d2] }
  | _ => none }
def fnExactCheckPlacesRow : OpenClaim := { program := "ytnpaoeemgglaaaa", sum := "a4370865b49c45c751eca15884879028911e1d13ed982a5ac8a1128fb7474a45", func := "loop.example/g01400/laws.FnExactCheckPlaces", spec := "fnExactCheckPlaces", apart := false }
def FnExactCheckPlacesSaid : Prop := fnExactCheckPlacesRow.holds Try.pinned (OpenSpec.ofChange fnExactCheckPlacesSpec)

/-- ITS FALSE NEIGHBOUR: 'it returns false'. Refute it at one input. -/
def fnExactCheckPlacesWrong : ChangeSpec := { name := "fnExactCheckPlaces", fn := fun _ => fun
  | [d1, d2] => { results := [.lit (.bool false)], args := [d1, d2] }
  | _ => none }
def FnExactCheckPlacesWrongFalsely : Prop := fnExactCheckPlacesRow.holds Try.pinned (OpenSpec.ofChange fnExactCheckPlacesWrong)

/-- 'laws.FnExactCheapestFees': WHATEVER THE INPUT: true; the input reads as it did. -/
def fnExactCheapestFeesSpec : ChangeSpec := { name := "fnExactCheapestFees", fn := fun _ => fun
  | [d1, d2] => { results := [.lit (.bool true)], args := [d1, d2] }
  | _ => none }
def fnExactCheapestFeesRow : OpenClaim := { program := "ytnpaoeemgglaaaa", sum := "a4370865b49c45c751eca15884879028911e1d13ed982a5ac8a1128fb7474a45", func := "loop.example/g01400/laws.FnExactCheapestFees", spec := "fnExactCheapestFees", apart := false }
def FnExactCheapestFeesSaid : Prop := fnExactCheapestFeesRow.holds Try.pinned (OpenSpec.ofChange fnExactCheapestFeesSpec)

/-- ITS FALSE NEIGHBOUR: 'it returns false'. Refute it at one input. -/
def fnExactCheapestFeesWrong : ChangeSpec := { name := "fnExactCheapestFees", fn := fun _ => fun
  | [d1, d2] => { results := [.lit (.bool false)], args := [d1, d2] }
  | _ => none }
def FnExactCheapestFeesWrongFalsely : Prop := fnExactCheapestFeesRow.holds Try.pinned (OpenSpec.ofChange fnExactCheapestFeesWrong)

/-- 'laws.FnExactValidWinds': WHATEVER THE INPUT: true; the input reads as it did. -/
def fnExactValidWindsSpec : ChangeSpec := { name := "fnExactValidWinds", fn := fun _ => fun
  | [d] => { results := [.lit (.bool true)], args := [d] }
  | _ => none }
def fnExactValidWindsRow : OpenClaim := { program := "ytnpaoeemgglaaaa", sum := "a4370865b49c45c751eca15884879028911e1d13ed982a5ac8a1128fb7474a45", func := "loop.example/g01400/laws.FnExactValidWinds", spec := "fnExactValidWinds", apart := false }
def FnExactValidWindsSaid : Prop := fnExactValidWindsRow.holds Try.pinned (OpenSpec.ofChange fnExactValidWindsSpec)

/-- ITS FALSE NEIGHBOUR: 'it returns false'. Refute it at one input. -/
def fnExactValidWindsWrong : ChangeSpec := { name := "fnExactValidWinds", fn := fun _ => fun
  | [d] => { results := [.lit (.bool false)], args := [d] }
  | _ => none }
def FnExactValidWindsWrongFalsely : Prop := fnExactValidWindsRow.holds Try.pinned (OpenSpec.ofChange fnExactValidWindsWrong)

/- THE SECOND FORM. 'bulk': how many values and letters a reading holds, each counted each time it is reached (what is shared counts as often as it is met; a slice's spare places count too). A statement '..UptoSaid' is the law's where the arguments, and the package variables that the reading takes, are together of bulk at most 1048576: NARROWER than '..Said'. Prove '..Said' where nothing that the law and all that it calls make is longer than what came in: it says more and counts as full. Else prove '..UptoSaid'. A law counts once. -/
mutual
def uptoBulk {H : Type} : DataW H → Nat
  | .lit (.string bytes) => bytes.length + 1
  | .lit _ => 1
  | .nil => 1
  | .ptr d => uptoBulk d + 1
  | .slice elems spare => uptoBulkAll elems + uptoBulkAll spare + 1
  | .agg parts => uptoBulkAll parts + 1
  | .iface _ d => uptoBulk d + 1
  | .map entries => uptoBulkEntries entries + 1
  | .held _ => 1
def uptoBulkAll {H : Type} : List (DataW H) → Nat
  | [] => 0
  | d :: r => uptoBulk d + uptoBulkAll r
def uptoBulkEntries {H : Type} : List (Lit × DataW H) → Nat
  | [] => 0
  | x :: r => uptoBulkEntry x + uptoBulkEntries r
def uptoBulkEntry {H : Type} : Lit × DataW H → Nat
  | (.string bytes, d) => bytes.length + uptoBulk d + 1
  | (_, d) => uptoBulk d + 1
 end
def uptoSmall : (H : Type) → List (DataW H) → Bool := fun _ ds => decide (uptoBulkAll ds ≤ 1048576)
def OpenSpec.upto (s : _root_.Go.ChangeSpec) : _root_.Go.OpenSpec := { _root_.Go.OpenSpec.ofChange s with cond := some uptoSmall }

/-- 'laws.FnExactValidFees', WHERE WHAT IT READS IS OF BULK AT MOST 1048576: true; the input reads as it did. -/
def fnExactValidFeesUptoRow : OpenClaim := { program := "ytnpaoeemgglaaaa", sum := "a4370865b49c45c751eca15884879028911e1d13ed982a5ac8a1128fb7474a45", func := "loop.example/g01400/laws.FnExactValidFees", spec := "fnExactValidFees", apart := false, narrowed := true }
def FnExactValidFeesUptoSaid : Prop := fnExactValidFeesUptoRow.holds Try.pinned (OpenSpec.upto fnExactValidFeesSpec)

/-- 'laws.FnExactValidStay', WHERE WHAT IT READS IS OF BULK AT MOST 1048576: true; the input reads as it did. -/
def fnExactValidStayUptoRow : OpenClaim := { program := "ytnpaoeemgglaaaa", sum := "a4370865b49c45c751eca15884879028911e1d13ed982a5ac8a1128fb7474a45", func := "loop.example/g01400/laws.FnExactValidStay", spec := "fnExactValidStay", apart := false, narrowed := true }
def FnExactValidStayUptoSaid : Prop := fnExactValidStayUptoRow.holds Try.pinned (OpenSpec.upto fnExactValidStaySpec)

/-- 'laws.FnExactOverlap', WHERE WHAT IT READS IS OF BULK AT MOST 1048576: true; the input reads as it did. -/
def fnExactOverlapUptoRow : OpenClaim := { program := "ytnpaoeemgglaaaa", sum := "a4370865b49c45c751eca15884879028911e1d13ed982a5ac8a1128fb7474a45", func := "loop.example/g01400/laws.FnExactOverlap", spec := "fnExactOverlap", apart := false, narrowed := true }
def FnExactOverlapUptoSaid : Prop := fnExactOverlapUptoRow.holds Try.pinned (OpenSpec.upto fnExactOverlapSpec)

/-- 'laws.FnExactWatchAt', WHERE WHAT IT READS IS OF BULK AT MOST 1048576: true; the input reads as it did. -/
def fnExactWatchAtUptoRow : OpenClaim := { program := "ytnpaoeemgglaaaa", sum := "a4370865b49c45c751eca15884879028911e1d13ed982a5ac8a1128fb7474a45", func := "loop.example/g01400/laws.FnExactWatchAt", spec := "fnExactWatchAt", apart := false, narrowed := true }
def FnExactWatchAtUptoSaid : Prop := fnExactWatchAtUptoRow.holds Try.pinned (OpenSpec.upto fnExactWatchAtSpec)

/-- 'laws.FnExactFeeOf', WHERE WHAT IT READS IS OF BULK AT MOST 1048576: true; the input reads as it did. -/
def fnExactFeeOfUptoRow : OpenClaim := { program := "ytnpaoeemgglaaaa", sum := "a4370865b49c45c751eca15884879028911e1d13ed982a5ac8a1128fb7474a45", func := "loop.example/g01400/laws.FnExactFeeOf", spec := "fnExactFeeOf", apart := false, narrowed := true }
def FnExactFeeOfUptoSaid : Prop := fnExactFeeOfUptoRow.holds Try.pinned (OpenSpec.upto fnExactFeeOfSpec)

/-- 'laws.FnExactShareNight', WHERE WHAT IT READS IS OF BULK AT MOST 1048576: true; the input reads as it did. -/
def fnExactShareNightUptoRow : OpenClaim := { program := "ytnpaoeemgglaaaa", sum := "a4370865b49c45c751eca15884879028911e1d13ed982a5ac8a1128fb7474a45", func := "loop.example/g01400/laws.FnExactShareNight", spec := "fnExactShareNight", apart := false, narrowed := true }
def FnExactShareNightUptoSaid : Prop := fnExactShareNightUptoRow.holds Try.pinned (OpenSpec.upto fnExactShareNightSpec)

/-- 'laws.FnExactBalances', WHERE WHAT IT READS IS OF BULK AT MOST 1048576: true; the input reads as it did. -/
def fnExactBalancesUptoRow : OpenClaim := { program := "ytnpaoeemgglaaaa", sum := "a4370865b49c45c751eca15884879028911e1d13ed982a5ac8a1128fb7474a45", func := "loop.example/g01400/laws.FnExactBalances", spec := "fnExactBalances", apart := false, narrowed := true }
def FnExactBalancesUptoSaid : Prop := fnExactBalancesUptoRow.holds Try.pinned (OpenSpec.upto fnExactBalancesSpec)

/-- 'laws.FnExactFullestNight', WHERE WHAT IT READS IS OF BULK AT MOST 1048576: true; the input reads as it did. -/
def fnExactFullestNightUptoRow : OpenClaim := { program := "ytnpaoeemgglaaaa", sum := "a4370865b49c45c751eca15884879028911e1d13ed982a5ac8a1128fb7474a45", func := "loop.example/g01400/laws.FnExactFullestNight", spec := "fnExactFullestNight", apart := false, narrowed := true }
def FnExactFullestNightUptoSaid : Prop := fnExactFullestNightUptoRow.holds Try.pinned (OpenSpec.upto fnExactFullestNightSpec)

/-- 'laws.FnExactFeesOf', WHERE WHAT IT READS IS OF BULK AT MOST 1048576: true; the input reads as it did. -/
def fnExactFeesOfUptoRow : OpenClaim := { program := "ytnpaoeemgglaaaa", sum := "a4370865b49c45c751eca15884879028911e1d13ed982a5ac8a1128fb7474a45", func := "loop.example/g01400/laws.FnExactFeesOf", spec := "fnExactFeesOf", apart := false, narrowed := true }
def FnExactFeesOfUptoSaid : Prop := fnExactFeesOfUptoRow.holds Try.pinned (OpenSpec.upto fnExactFeesOfSpec)

/-- 'laws.FnExactCheckPlaces', WHERE WHAT IT READS IS OF BULK AT MOST 1048576: true; the input reads as it did. -/
def fnExactCheckPlacesUptoRow : OpenClaim := { program := "ytnpaoeemgglaaaa", sum := "a4370865b49c45c751eca15884879028911e1d13ed982a5ac8a1128fb7474a45", func := "loop.example/g01400/laws.FnExactCheckPlaces", spec := "fnExactCheckPlaces", apart := false, narrowed := true }
def FnExactCheckPlacesUptoSaid : Prop := fnExactCheckPlacesUptoRow.holds Try.pinned (OpenSpec.upto fnExactCheckPlacesSpec)

/-- 'laws.FnExactCheapestFees', WHERE WHAT IT READS IS OF BULK AT MOST 1048576: true; the input reads as it did. -/
def fnExactCheapestFeesUptoRow : OpenClaim := { program := "ytnpaoeemgglaaaa", sum := "a4370865b49c45c751eca15884879028911e1d13ed982a5ac8a1128fb7474a45", func := "loop.example/g01400/laws.FnExactCheapestFees", spec := "fnExactCheapestFees", apart := false, narrowed := true }
def FnExactCheapestFeesUptoSaid : Prop := fnExactCheapestFeesUptoRow.holds Try.pinned (OpenSpec.upto fnExactCheapestFeesSpec)

/-- 'laws.FnExactValidWinds', WHERE WHAT IT READS IS OF BULK AT MOST 1048576: true; the input reads as it did. -/
def fnExactValidWindsUptoRow : OpenClaim := { program := "ytnpaoeemgglaaaa", sum := "a4370865b49c45c751eca15884879028911e1d13ed982a5ac8a1128fb7474a45", func := "loop.example/g01400/laws.FnExactValidWinds", spec := "fnExactValidWinds", apart := false, narrowed := true }
def FnExactValidWindsUptoSaid : Prop := fnExactValidWindsUptoRow.holds Try.pinned (OpenSpec.upto fnExactValidWindsSpec)

end Rows
end Go.Proofs.Ytnpaoeemgglaaaa
