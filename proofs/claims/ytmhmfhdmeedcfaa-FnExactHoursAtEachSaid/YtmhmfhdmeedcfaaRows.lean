/-
  No cell of these rows narrows 'for every input' (looked for: loops, veiled, ifaces, maps, wideKeys, modest, calm, conditions, laid).
  DERIVED. THE GIVEN ROWS OF THIS SEAT. 5 by the template 'for every input the law returns true; each argument reads behind the call as it read before'; 0 by the template 'total and deterministic' (their statements: YtmhmfhdmeedcfaaTotals.lean).
  GIVEN WITH THE SEED: the statements are not yours to turn. If you find one false, say at which input.
  Laid BY PROGRAM, IN A SANDBOX (cutbox-rows.mjs): the forced cells as the released guide's own fill.sh prints them over the translation fe32b30300e42c1a… (all of the seat's roots in one cut). By AI agents, Wed Nov 11 2026. No macro, syntax, notation, axiom, sorry.
-/
import Derived.Test.YtmhmfhdmeedcfaaChecked
import GoSem.Claim
import GoSem.ClaimJoined
import GoSem.ClaimMapViews
import Derived.JoinedTies
import Derived.KernelRfl
namespace Go.Proofs.Ytmhmfhdmeedcfaa
/- THE CELL 'sum', in the pinned program and in every row, IS THE sha256 OF THE DUMP (.gsa) THAT YtmhmfhdmeedcfaaProg.lean LOADS. Nothing in Lean hashes anything: it is a label: what it is worth is what the hold of that sum in a sandbox is worth. -/
noncomputable def Try.pinned : Pinned := { name := "ytmhmfhdmeedcfaa", sum := "fe32b30300e42c1a1429065416ea31e03b4949922c4fcf340db954dc72bb331e", checked := Try.checked }
namespace Rows
def none {H : Type} : Left H := { results := [], args := [] }

/-- 'laws.FnExactDriftAll': WHATEVER THE INPUT: true; the input reads as it did. -/
def fnExactDriftAllSpec : ChangeSpec := { name := "fnExactDriftAll", fn := fun _ => fun
  | [d1, d2, d3, d4] => { results := [.lit (.bool true)], args := [d1, d2, d3, d4] }
  | _ => none }
def fnExactDriftAllRow : OpenClaim := { program := "ytmhmfhdmeedcfaa", sum := "fe32b30300e42c1a1429065416ea31e03b4949922c4fcf340db954dc72bb331e", func := "loop.example/g01400/laws.FnExactDriftAll", spec := "fnExactDriftAll", apart := false }
def FnExactDriftAllSaid : Prop := fnExactDriftAllRow.holds Try.pinned (OpenSpec.ofChange fnExactDriftAllSpec)

/-- ITS FALSE NEIGHBOUR: 'it returns false'. Refute it at one input. -/
def fnExactDriftAllWrong : ChangeSpec := { name := "fnExactDriftAll", fn := fun _ => fun
  | [d1, d2, d3, d4] => { results := [.lit (.bool false)], args := [d1, d2, d3, d4] }
  | _ => none }
def FnExactDriftAllWrongFalsely : Prop := fnExactDriftAllRow.holds Try.pinned (OpenSpec.ofChange fnExactDriftAllWrong)

/-- 'laws.FnExactFirstDrag': WHATEVER THE INPUT: true; the input reads as it did. -/
def fnExactFirstDragSpec : ChangeSpec := { name := "fnExactFirstDrag", fn := fun _ => fun
  | [d1, d2, d3, d4] => { results := [.lit (.bool true)], args := [d1, d2, d3, d4] }
  | _ => none }
def fnExactFirstDragRow : OpenClaim := { program := "ytmhmfhdmeedcfaa", sum := "fe32b30300e42c1a1429065416ea31e03b4949922c4fcf340db954dc72bb331e", func := "loop.example/g01400/laws.FnExactFirstDrag", spec := "fnExactFirstDrag", unfollowed := true, recurses := true, apart := false }
def FnExactFirstDragSaid : Prop := fnExactFirstDragRow.holds Try.pinned (OpenSpec.ofChange fnExactFirstDragSpec)

/-- ITS FALSE NEIGHBOUR: 'it returns false'. Refute it at one input. -/
def fnExactFirstDragWrong : ChangeSpec := { name := "fnExactFirstDrag", fn := fun _ => fun
  | [d1, d2, d3, d4] => { results := [.lit (.bool false)], args := [d1, d2, d3, d4] }
  | _ => none }
def FnExactFirstDragWrongFalsely : Prop := fnExactFirstDragRow.holds Try.pinned (OpenSpec.ofChange fnExactFirstDragWrong)

/-- 'laws.FnExactAgroundAt': WHATEVER THE INPUT: true; the input reads as it did. -/
def fnExactAgroundAtSpec : ChangeSpec := { name := "fnExactAgroundAt", fn := fun _ => fun
  | [d1, d2, d3, d4] => { results := [.lit (.bool true)], args := [d1, d2, d3, d4] }
  | _ => none }
def fnExactAgroundAtRow : OpenClaim := { program := "ytmhmfhdmeedcfaa", sum := "fe32b30300e42c1a1429065416ea31e03b4949922c4fcf340db954dc72bb331e", func := "loop.example/g01400/laws.FnExactAgroundAt", spec := "fnExactAgroundAt", unfollowed := true, recurses := true, apart := false }
def FnExactAgroundAtSaid : Prop := fnExactAgroundAtRow.holds Try.pinned (OpenSpec.ofChange fnExactAgroundAtSpec)

/-- ITS FALSE NEIGHBOUR: 'it returns false'. Refute it at one input. -/
def fnExactAgroundAtWrong : ChangeSpec := { name := "fnExactAgroundAt", fn := fun _ => fun
  | [d1, d2, d3, d4] => { results := [.lit (.bool false)], args := [d1, d2, d3, d4] }
  | _ => none }
def FnExactAgroundAtWrongFalsely : Prop := fnExactAgroundAtRow.holds Try.pinned (OpenSpec.ofChange fnExactAgroundAtWrong)

/-- 'laws.FnExactHoursAtEach': WHATEVER THE INPUT: true; the input reads as it did. -/
def fnExactHoursAtEachSpec : ChangeSpec := { name := "fnExactHoursAtEach", fn := fun _ => fun
  | [d1, d2, d3, d4] => { results := [.lit (.bool true)], args := [d1, d2, d3, d4] }
  | _ => none }
def fnExactHoursAtEachRow : OpenClaim := { program := "ytmhmfhdmeedcfaa", sum := "fe32b30300e42c1a1429065416ea31e03b4949922c4fcf340db954dc72bb331e", func := "loop.example/g01400/laws.FnExactHoursAtEach", spec := "fnExactHoursAtEach", apart := false }
def FnExactHoursAtEachSaid : Prop := fnExactHoursAtEachRow.holds Try.pinned (OpenSpec.ofChange fnExactHoursAtEachSpec)

/-- ITS FALSE NEIGHBOUR: 'it returns false'. Refute it at one input. -/
def fnExactHoursAtEachWrong : ChangeSpec := { name := "fnExactHoursAtEach", fn := fun _ => fun
  | [d1, d2, d3, d4] => { results := [.lit (.bool false)], args := [d1, d2, d3, d4] }
  | _ => none }
def FnExactHoursAtEachWrongFalsely : Prop := fnExactHoursAtEachRow.holds Try.pinned (OpenSpec.ofChange fnExactHoursAtEachWrong)

/-- 'laws.FnExactFirstTouch': WHATEVER THE INPUT: true; the input reads as it did. -/
def fnExactFirstTouchSpec : ChangeSpec := { name := "fnExactFirstTouch", fn := fun _ => fun
  | [d1, d2, d3, d4] => { results := [.lit (.bool true)], args := [d1, d2, d3, d4] }
  | _ => none }
def fnExactFirstTouchRow : OpenClaim := { program := "ytmhmfhdmeedcfaa", sum := "fe32b30300e42c1a1429065416ea31e03b4949922c4fcf340db954dc72bb331e", func := "loop.example/g01400/laws.FnExactFirstTouch", spec := "fnExactFirstTouch", apart := false }
def FnExactFirstTouchSaid : Prop := fnExactFirstTouchRow.holds Try.pinned (OpenSpec.ofChange fnExactFirstTouchSpec)

/-- ITS FALSE NEIGHBOUR: 'it returns false'. Refute it at one input. -/
def fnExactFirstTouchWrong : ChangeSpec := { name := "fnExactFirstTouch", fn := fun _ => fun
  | [d1, d2, d3, d4] => { results := [.lit (.bool false)], args := [d1, d2, d3, d4] }
  | _ => none }
def FnExactFirstTouchWrongFalsely : Prop := fnExactFirstTouchRow.holds Try.pinned (OpenSpec.ofChange fnExactFirstTouchWrong)

/- THE SECOND FORM. 'bulk': how many values and letters a reading holds, each counted each time it is reached (what is shared counts as often as it is met; a slice's spare places count too). A statement '..UptoSaid' is the law's where the arguments, and the package variables that the reading takes, are together of bulk at most 1048576: NARROWER than '..Said'. Prove '..Said' where nothing that the law and all that it calls make is longer than what came in: it says more and counts as full. Else prove '..UptoSaid'. A law counts once. -/
mutual
def uptoBulk {H : Type} : DataW H → Nat
  | .lit (.string bytes) => bytes.length + 1
  | .lit _ => 1
  | .nil => 1
  | .ptr d => uptoBulk d + 1
  | .slice elems spare => uptoBulkAll elems + uptoBulkAll spare + 1
  | .agg parts => uptoBulkAll parts + 1
  | .iface _ d => uptoBulk d + 1
  | .map entries => uptoBulkEntries entries + 1
  | .held _ => 1
def uptoBulkAll {H : Type} : List (DataW H) → Nat
  | [] => 0
  | d :: r => uptoBulk d + uptoBulkAll r
def uptoBulkEntries {H : Type} : List (Lit × DataW H) → Nat
  | [] => 0
  | x :: r => uptoBulkEntry x + uptoBulkEntries r
def uptoBulkEntry {H : Type} : Lit × DataW H → Nat
  | (.string bytes, d) => bytes.length + uptoBulk d + 1
  | (_, d) => uptoBulk d + 1
 end
def uptoSmall : (H : Type) → List (DataW H) → Bool := fun _ ds => decide (uptoBulkAll ds ≤ 1048576)
def OpenSpec.upto (s : _root_.Go.ChangeSpec) : _root_.Go.OpenSpec := { _root_.Go.OpenSpec.ofChange s with cond := some uptoSmall }

/-- 'laws.FnExactDriftAll', WHERE WHAT IT READS IS OF BULK AT MOST 1048576: true; the input reads as it did. -/
def fnExactDriftAllUptoRow : OpenClaim := { program := "ytmhmfhdmeedcfaa", sum := "fe32b30300e42c1a1429065416ea31e03b4949922c4fcf340db954dc72bb331e", func := "loop.example/g01400/laws.FnExactDriftAll", spec := "fnExactDriftAll", apart := false, narrowed := true }
def FnExactDriftAllUptoSaid : Prop := fnExactDriftAllUptoRow.holds Try.pinned (OpenSpec.upto fnExactDriftAllSpec)

/-- 'laws.FnExactFirstDrag', WHERE WHAT IT READS IS OF BULK AT MOST 1048576: true; the input reads as it did. -/
def fnExactFirstDragUptoRow : OpenClaim := { program := "ytmhmfhdmeedcfaa", sum := "fe32b30300e42c1a1429065416ea31e03b4949922c4fcf340db954dc72bb331e", func := "loop.example/g01400/laws.FnExactFirstDrag", spec := "fnExactFirstDrag", unfollowed := true, recurses := true, apart := false, narrowed := true }
def FnExactFirstDragUptoSaid : Prop := fnExactFirstDragUptoRow.holds Try.pinned (OpenSpec.upto fnExactFirstDragSpec)

/-- 'laws.FnExactAgroundAt', WHERE WHAT IT READS IS OF BULK AT MOST 1048576: true; the input reads as it did. -/
def fnExactAgroundAtUptoRow : OpenClaim := { program := "ytmhmfhdmeedcfaa", sum := "fe32b30300e42c1a1429065416ea31e03b4949922c4fcf340db954dc72bb331e", func := "loop.example/g01400/laws.FnExactAgroundAt", spec := "fnExactAgroundAt", unfollowed := true, recurses := true, apart := false, narrowed := true }
def FnExactAgroundAtUptoSaid : Prop := fnExactAgroundAtUptoRow.holds Try.pinned (OpenSpec.upto fnExactAgroundAtSpec)

/-- 'laws.FnExactHoursAtEach', WHERE WHAT IT READS IS OF BULK AT MOST 1048576: true; the input reads as it did. -/
def fnExactHoursAtEachUptoRow : OpenClaim := { program := "ytmhmfhdmeedcfaa", sum := "fe32b30300e42c1a1429065416ea31e03b4949922c4fcf340db954dc72bb331e", func := "loop.example/g01400/laws.FnExactHoursAtEach", spec := "fnExactHoursAtEach", apart := false, narrowed := true }
def FnExactHoursAtEachUptoSaid : Prop := fnExactHoursAtEachUptoRow.holds Try.pinned (OpenSpec.upto fnExactHoursAtEachSpec)

/-- 'laws.FnExactFirstTouch', WHERE WHAT IT READS IS OF BULK AT MOST 1048576: true; the input reads as it did. -/
def fnExactFirstTouchUptoRow : OpenClaim := { program := "ytmhmfhdmeedcfaa", sum := "fe32b30300e42c1a1429065416ea31e03b4949922c4fcf340db954dc72bb331e", func := "loop.example/g01400/laws.FnExactFirstTouch", spec := "fnExactFirstTouch", apart := false, narrowed := true }
def FnExactFirstTouchUptoSaid : Prop := fnExactFirstTouchUptoRow.holds Try.pinned (OpenSpec.upto fnExactFirstTouchSpec)

end Rows
end Go.Proofs.Ytmhmfhdmeedcfaa
