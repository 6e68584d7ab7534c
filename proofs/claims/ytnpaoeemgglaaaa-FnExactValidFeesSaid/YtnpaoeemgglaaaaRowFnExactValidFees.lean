/- FnExactValidFees returns true, whatever the input, and leaves its arguments as they were. -/
import Derived.Test.YtnpaoeemgglaaaaRows
import Derived.Test.YtnpaoeemgglaaaaGF3
import Derived.Test.YtnpaoeemgglaaaaPureFnExactValidFees
import Derived.Test.YtnpaoeemgglaaaaRowLib
import Derived.WalkKit
import Derived.ProofKit
import Derived.OpenShut
import Derived.ShutString
import Derived.ChangeOld
import Derived.Below
import Derived.SizedLaws
namespace Go.Proofs.Ytnpaoeemgglaaaa.rowFnExactValidFees
open Go.ChangeShapes Go.WideShapes Go.ChangeAt Go.RowKit G Go.Proofs.YtnpaoeemgglaaaaW.PrintWords
open Go.ChangeMaps (open_string shut_string)
set_option linter.unusedVariables false
theorem own : ownKnob Try.prog.godebug = none := by kernel_rfl
theorem laidOut : laidOutB Try.prog = true := by kernel_rfl
set_option maxRecDepth 100000 in
theorem lifted (os : Os) (started : os.Started) (H : Type) (enc : TypeId × Value → H) :
    ReturnsInHanded {} Try.checked os 3 .any (Rows.fnExactValidFeesSpec.pre6 enc Try.prog Try.f3 Rows.fnExactValidFeesRow.domain false) (Rows.fnExactValidFeesSpec.post enc Try.prog Try.f3 false true false false) := by
  refine returnsInHanded_of_change_sized (C := Try.checked) own started (by kernel_rfl) Try.func3
    (ChangeSpec.witness6 (enc := enc) (C := Try.checked) false ⟨#[], #[.agg #[.int .i16 0, .int .i16 0, .int .i8 0]], []⟩ 8 (by kernel_rfl) (by kernel_rfl) (by kernel_rfl) (by kernel_rfl)) ?_
  intro W base args ds gs before hval0 hW hcnd hsz0 _
  have hsz : (DataW.weightsEach Try.prog (Try.f3.params.toList ++ Rows.fnExactValidFeesSpec.plain.varTypes Try.prog) (ds ++ gs)).all (· ≤ reachBytes) = true := hsz0
  have hval : ∀ (j : Nat) t v, Try.f3.params[j]? = some t → args[j]? = some v → Value.okWide Try.prog W .any base t v := hval0
  have hW' := hW
  obtain ⟨p, q, hA0, hV, rfl, hfz, hnd⟩ := hW
  have hA : DataW.TrodAll enc Try.prog W 0 (fun _ => true) true Try.f3.params.toList args.toList ds p := hA0
  rw [Try.params3] at hA hval hsz
  obtain ⟨v0, vs0, d0, ds0, p0, q0, hargs, rfl, rfl, h0, r0⟩ := trodAll_cons hA
  obtain ⟨rfl, rfl, rfl⟩ := trodAll_nil r0
  obtain rfl : args = #[v0] := by cases args; simp_all
  obtain ⟨rfl, rfl⟩ := trodVars_none hV
  have k0_ := h0
  have lt0 : ∀ x ∈ p0, x.block < W.heap.size := by obtain ⟨m, hm⟩ := k0_; exact DataW.trod_lt m _ _ _ hm
  obtain ⟨a0_0, a0_1, a0_2, rfl, w0_0, w0_1, w0_2⟩ : ∃ a0_0 a0_1 a0_2 : Int, v0 = .agg #[.int .i16 a0_0, .int .i16 a0_1, .int .i8 a0_2] ∧ (Lit.int .i16 a0_0).wf = true ∧ (Lit.int .i16 a0_1).wf = true ∧ (Lit.int .i8 a0_2).wf = true := by
    obtain ⟨z, e, hw⟩ := RL.flat_value 3 [.i16, .i16, .i8] (by kernel_rfl) (by kernel_rfl) (okWide_struct Try.underlying25 (hval 0 25 v0 rfl rfl)) h0
    exact ⟨z 0, z 1, z 2, e, hw 0 (by omega), hw 1 (by omega), hw 2 (by omega)⟩
  clear hA0 hval0 hsz0 hsz
  have hp := Pure.FnExactValidFees a0_0 a0_1 a0_2 w0_0 w0_1 w0_2
  refine (laws_FnExactValidFees.calls a0_0 a0_1 a0_2 true W  hp).mono fun e W' ⟨he, bel⟩ => ?_
  subst he
  exact ⟨_, rfl, _, _, _, [], _, [], hW', trodAll_mk1 (shut_bool Try.underlying4 _), (trodAll_cons_mk (Below.trod laidOut (by kernel_rfl) (of_decide_eq_true (by kernel_rfl)) k0_ bel lt0) trodAll_mk0), rfl, bel.frame _, fun h => by cases h⟩
set_option maxHeartbeats 8000000 in
theorem closed : joinedFacts Try.pinned.checked.prog 3 Try.f3 Rows.fnExactValidFeesSpec Rows.fnExactValidFeesRow = true := by
  unfold joinedFacts
  repeat' (with_reducible refine Bool.and_eq_true_iff.mpr ⟨?_, ?_⟩)
  all_goals (as_aux_lemma => kernel_rfl)
theorem named : Try.pinned.checked.prog.funcNamed Rows.fnExactValidFeesRow.func = some 3 := by kernel_rfl
theorem inst : Try.f3.isInstance Try.pinned.checked.prog Rows.fnExactValidFeesRow.origin Rows.fnExactValidFeesRow.targs := of_decide_eq_true (by kernel_rfl)
theorem wrapper : Try.f3.isWrapper Try.pinned.checked.prog Rows.fnExactValidFeesRow.wrapper Rows.fnExactValidFeesRow.mainSum := by unfold Func.isWrapper; first | (rw [if_pos (by decide +kernel)]; kernel_rfl) | (rw [if_neg (by decide +kernel)]; exact ⟨rfl, rfl⟩)
theorem over : Rows.fnExactValidFeesRow.holds Try.pinned (OpenSpec.ofChange Rows.fnExactValidFeesSpec) :=
  OpenClaim.holds_of_wide 3 Try.f3 rfl rfl rfl rfl rfl rfl rfl ⟨rfl, rfl, rfl, rfl, rfl⟩ rfl rfl rfl rfl rfl named Try.func3 closed inst wrapper
    (fun os started H enc _ => lifted os started H enc)
theorem proved : Rows.FnExactValidFeesSaid := over
#print axioms proved
end Go.Proofs.Ytnpaoeemgglaaaa.rowFnExactValidFees
namespace Go.Proofs.Ytnpaoeemgglaaaa
/-- The row, under a short name, for the claim. -/
theorem fnExactValidFees_holds : Rows.FnExactValidFeesSaid := rowFnExactValidFees.proved
end Go.Proofs.Ytnpaoeemgglaaaa
