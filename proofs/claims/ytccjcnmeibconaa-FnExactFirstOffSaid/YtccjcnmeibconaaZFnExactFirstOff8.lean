/- FnExactFirstOff returns true, whatever the input, and leaves its arguments as they were. -/
import Derived.Test.YtccjcnmeibconaaProg
import Derived.Below
import Derived.Deep.Draws
import Derived.Deep.AppendLies
import Derived.Maps.AppendAt
import Derived.OwnWalk
import Derived.Laws.BytesArg
import Derived.Laws.MakeOwn
import Derived.Laws.OwnMore
import Derived.Deep.OwnRows
import Derived.Tactics
import Derived.Lib.ConvBytes
import Derived.Laws.Slices
import Derived.WalkKit
import Derived.KernelRfl
import Derived.RowKit3
import Derived.Deep.LoopGhost
import Derived.Deep.QuietTactic
import Derived.BigQuiet
import Derived.WideLaws
import Derived.Deep.DeepCutAuto
import Derived.Deep.CutBlock
import Derived.Deep.RegionHeld3
import Derived.Laws.Rows
import Derived.Lib.AppendStr
import Derived.ArgAppend
import Derived.Laws.IdiomCopy
import Derived.OrdersHeld
import Derived.Laws.BitsLemmas
import Derived.RowKit
import Derived.Laws.StructEq
import Derived.Deep.Slices
import Derived.ChangeSame
import Derived.ChangeArms
import Derived.OpenShut
import Derived.ProofKit
import Derived.Laws.Tables
import Derived.Lib.Hide
import Derived.Laws.CopyOwn
import Derived.Laws.CopyRow
import Derived.Test.YtccjcnmeibconaaRows
import Derived.ShutString
import Derived.ChangeOld
import Derived.SizedLaws
import Derived.Test.YtccjcnmeibconaaZFnExactFirstOff1
import Derived.Test.YtccjcnmeibconaaZFnExactFirstOff2
import Derived.Test.YtccjcnmeibconaaZFnExactFirstOff3
import Derived.Test.YtccjcnmeibconaaZFnExactFirstOff4
import Derived.Test.YtccjcnmeibconaaZFnExactFirstOff5
import Derived.Test.YtccjcnmeibconaaZFnExactFirstOff6
import Derived.Test.YtccjcnmeibconaaZFnExactFirstOff7
section
namespace Go.Proofs.Ytccjcnmeibconaa.G.Pure
open Go.RowKit M Go.Proofs.Ytccjcnmeibconaa.PL Go.Proofs.Ytccjcnmeibconaa.G.PB Go.Proofs.Ytccjcnmeibconaa.G.PS
set_option linter.unusedSimpArgs false
set_option linter.unusedVariables false
def ansV (b : PB.Bay) (x y ch lo dr ki : Int) (l : List PlL) : Int × Int := if loggedV b x y ch lo dr ki l true = 0 then (if offV b x y ch lo l < 0 then (0, 6) else (offV b x y ch lo l, 0)) else (0, loggedV b x y ch lo dr ki l true)
theorem spec_tells {b : PB.Bay} {x y ch lo dr ki : Int} (hx : b8 x) (hy : b8 y) (hc : b8 ch) (hlo : b8 lo) (hd : b8 dr) (hki : b8 ki) {l : List PlL} (hl : l.length ≤ 10000000) (hok : l.all okP = true) {k : Nat} (hk : l.length + 60 < k) : spec_FirstOff.f k b x y ch lo dr ki l = some (ansV b x y ch lo dr ki l) := by
  unfold spec_FirstOff.f ansV
  rw [spec_logged_tells hx hy hc hlo hd hki hl hok true hk]
  simp only [Option.bind_some]
  by_cases h : loggedV b x y ch lo dr ki l true = 0
  · rw [if_pos h, if_pos h]
    have hv : (bayB b && boatV b x y ch lo dr ki) = true := by
      cases hv : (bayB b && boatV b x y ch lo dr ki)
      · unfold loggedV at h; rw [hv] at h; simp at h
      · rfl
    obtain ⟨h1, h2⟩ := valid_two hv
    rw [spec_off_tells h1 h2 hl hok (by omega) (by omega)]
    simp only [Option.bind_some]
    split <;> rfl
  · rw [if_neg h, if_neg h]
theorem impl_tells {b : PB.Bay} {x y ch lo dr ki : Int} {l : List PlL} (hl : l.length ≤ 10000000) (hok : l.all okP = true) {k : Nat} (hk : l.length + 60 < k) : impl_FirstOff.f k b x y ch lo dr ki l = some (ansV b x y ch lo dr ki l) := by
  unfold impl_FirstOff.f ansV
  rw [impl_fits_tells hl hk]
  simp only [Option.bind_some]
  by_cases h : loggedV b x y ch lo dr ki l true = 0
  · rw [if_pos h, if_pos h]
    have hv : (bayB b && boatV b x y ch lo dr ki) = true := by
      cases hv : (bayB b && boatV b x y ch lo dr ki)
      · unfold loggedV at h; rw [hv] at h; simp at h
      · rfl
    obtain ⟨h1, h2⟩ := valid_two hv
    rw [impl_off_tells h1 h2 hl hok (by omega) (by omega)]
    simp only [Option.bind_some]
    split <;> rfl
  · rw [if_neg h, if_neg h]
theorem FnExactFirstOff : ∀ (o0 : O26) (a1_0 a1_1 a1_2 a1_3 a1_4 a1_5 : Int) (l2 : List S30), (Lit.int .i8 a1_0).wf = true → (Lit.int .i8 a1_1).wf = true → (Lit.int .i8 a1_2).wf = true → (Lit.int .i8 a1_3).wf = true → (Lit.int .i8 a1_4).wf = true → (Lit.int .i8 a1_5).wf = true → l2.length ≤ 9223372036854775807 → (∀ x ∈ l2, ∃ z : Nat → Int, x = (⟨z 0, z 1⟩ : S30) ∧ ∀ j, j < 2 → (Lit.int (([.i8, .i8] : List IntKind).getD j .i64) (z j)).wf = true) → ∃ k, laws_FnExactFirstOff.f k o0 a1_0 a1_1 a1_2 a1_3 a1_4 a1_5 l2 = some true := by
  intro b x y ch lo dr ki l hx hy hc hlo hd hk hl hxs
  have hok := places_ok hxs
  unfold laws_FnExactFirstOff.f laws_szPlaceS.f
  rw [sz_tellsP hl]
  by_cases hbig : (1048576 : Int) - (l.length : Int) < 0
  · exact ⟨0, by rw [if_pos hbig]; rfl⟩
  obtain ⟨K, hK⟩ : ∃ K, K = 3000000 := ⟨_, rfl⟩
  refine ⟨K + 1, ?_⟩
  rw [if_neg hbig]
  simp only [Option.bind_some]
  rw [if_neg hbig, toPlace_tells (by omega) (by omega)]
  simp only [Option.bind_some, laws_toBay.f, laws_toBoat.f, laws_toPlace.f]
  rw [spec_tells (b8_of' hx) (b8_of' hy) (b8_of' hc) (b8_of' hlo) (b8_of' hd) (b8_of' hk) (by rw [List.length_map]; omega) hok (by rw [List.length_map]; omega)]
  simp only [Option.bind_some]
  rw [impl_tells (by rw [List.length_map]; omega) hok (by rw [List.length_map]; omega)]
  simp only [Option.bind_some, if_true, bne_self_eq_false, laws_FnExactFirstOff.j0, Bool.false_eq_true, if_false]
  rw [toPlace_tells (by omega) (by omega)]
  simp only [Option.bind_some]
  rw [eqPlace_tells (by rw [List.length_map]; omega) (by rw [List.length_map]; omega)]
  simp
end Go.Proofs.Ytccjcnmeibconaa.G.Pure
end
namespace Go.Proofs.Ytccjcnmeibconaa.rowFnExactFirstOff
open Go.ChangeShapes Go.WideShapes Go.ChangeAt Go.RowKit G Go.Proofs.YtccjcnmeibconaaW.PrintWords
open Go.ChangeMaps (open_string shut_string)
set_option linter.unusedVariables false
theorem own : ownKnob Try.prog.godebug = none := by kernel_rfl
theorem laidOut : laidOutB Try.prog = true := by kernel_rfl
set_option maxRecDepth 100000 in
theorem lifted (os : Os) (started : os.Started) (H : Type) (enc : TypeId × Value → H) :
    ReturnsInHanded {} Try.checked os 5 .any (Rows.fnExactFirstOffSpec.pre6 enc Try.prog Try.f5 Rows.fnExactFirstOffRow.domain false) (Rows.fnExactFirstOffSpec.post enc Try.prog Try.f5 false true false false) := by
  refine returnsInHanded_of_change_sized (C := Try.checked) own started (by kernel_rfl) Try.func5
    (ChangeSpec.witness6 (enc := enc) (C := Try.checked) false ⟨#[], #[.agg (Array.mk [.int .i8 0, .int .i8 0, .int .i8 0, .int .i8 0, .int .i8 0, .int .i8 0, .int .i8 0, .int .i8 0, .int .i8 0, .int .i8 0, .int .i8 0, .int .i8 0, .int .i8 0, .int .i8 0, .int .i8 0, .int .i8 0, .int .i8 0, .int .i8 0, .int .i8 0, .int .i8 0, .int .i8 0, .int .i8 0, .int .i8 0, .int .i8 0, .int .i8 0, .int .i8 0, .int .i8 0, .int .i8 0, .int .i8 0, .int .i8 0, .int .i8 0, .int .i8 0, .int .i8 0, .int .i8 0, .int .i8 0, .int .i8 0, .int .i8 0, .int .i8 0, .int .i8 0, .int .i8 0, .int .i8 0, .int .i8 0, .int .i8 0, .int .i8 0, .int .i8 0, .int .i8 0, .int .i8 0, .int .i8 0, .int .i8 0, .int .i8 0, .int .i8 0, .int .i8 0, .int .i8 0, .int .i8 0, .int .i8 0, .int .i8 0, .int .i8 0, .int .i8 0, .int .i8 0, .int .i8 0, .int .i8 0, .int .i8 0, .int .i8 0, .int .i8 0, .int .i8 0, .int .i8 0, .int .i8 0, .int .i8 0, .int .i8 0, .int .i8 0, .int .i8 0, .int .i8 0, .int .i8 0, .int .i8 0, .int .i8 0, .int .i8 0, .int .i8 0, .int .i8 0, .int .i8 0, .int .i8 0, .int .i8 0, .int .i8 0, .int .i8 0, .int .i8 0, .int .i8 0, .int .i8 0, .int .i8 0, .int .i8 0, .int .i8 0, .int .i8 0, .int .i8 0, .int .i8 0, .int .i8 0, .int .i8 0, .int .i8 0, .int .i8 0, .int .i8 0, .int .i8 0, .int .i8 0, .int .i8 0, .int .i8 0, .int .i8 0, .int .i8 0, .int .i8 0, .int .i8 0, .int .i8 0, .int .i8 0, .int .i8 0, .int .i8 0, .int .i8 0, .int .i8 0, .int .i8 0, .int .i8 0, .int .i8 0, .int .i8 0, .int .i8 0, .int .i8 0, .int .i8 0, .int .i8 0, .int .i8 0, .int .i8 0, .int .i8 0, .int .i8 0, .int .i8 0, .int .i8 0, .int .i8 0, .int .i8 0, .int .i8 0, .int .i8 0, .int .i8 0, .int .i8 0, .int .i8 0, .int .i8 0, .int .i8 0, .int .i8 0, .int .i8 0, .int .i8 0, .int .i8 0, .int .i8 0, .int .i8 0, .int .i8 0, .int .i8 0, .int .i8 0, .int .i8 0, .int .i8 0, .int .i8 0, .int .i8 0, .int .i8 0, .int .i8 0, .int .i8 0, .int .i8 0, .int .i8 0, .int .i8 0, .int .i8 0, .int .i8 0, .int .i8 0, .int .i8 0, .int .i8 0, .int .i8 0, .int .i8 0, .int .i8 0, .int .i8 0, .int .i8 0, .int .i8 0, .int .i8 0, .int .i8 0, .int .i8 0, .int .i8 0, .int .i8 0, .int .i8 0, .int .i8 0, .int .i8 0, .int .i8 0, .int .i8 0, .int .i8 0, .int .i8 0, .int .i8 0, .int .i8 0, .int .i8 0, .int .i8 0, .int .i8 0, .int .i8 0, .int .i8 0, .int .i8 0, .int .i8 0, .int .i8 0, .int .i8 0, .int .i8 0, .int .i8 0, .int .i8 0, .int .i8 0, .int .i8 0, .int .i8 0, .int .i8 0, .int .i8 0, .int .i8 0, .int .i8 0, .int .i8 0, .int .i8 0, .int .i8 0, .int .i8 0, .int .i8 0, .int .i8 0, .int .i8 0, .int .i8 0, .int .i8 0, .int .i8 0, .int .i8 0, .int .i8 0, .int .i8 0, .int .i8 0, .int .i8 0, .int .i8 0, .int .i8 0, .int .i8 0, .int .i8 0, .int .i8 0, .int .i8 0, .int .i8 0, .int .i8 0, .int .i8 0, .int .i8 0, .int .i8 0, .int .i8 0, .int .i8 0, .int .i8 0, .int .i8 0, .int .i8 0, .int .i8 0, .int .i8 0, .int .i8 0, .int .i8 0, .int .i8 0, .int .i8 0, .int .i8 0, .int .i8 0, .int .i8 0, .int .i8 0, .int .i8 0, .int .i8 0, .int .i8 0, .int .i8 0, .int .i8 0, .int .i8 0, .int .i8 0, .int .i8 0, .int .i8 0, .int .i8 0, .int .i8 0, .int .i8 0, .int .i8 0, .int .i8 0, .int .i8 0, .int .i8 0, .int .i8 0, .int .i8 0, .int .i8 0, .int .i8 0]), .agg #[.int .i8 0, .int .i8 0, .int .i8 0, .int .i8 0, .int .i8 0, .int .i8 0], .slice none 0 0], []⟩ 8 (by kernel_rfl) (by kernel_rfl) (by kernel_rfl) (by kernel_rfl)) ?_
  intro W base args ds gs before hval0 hW hcnd hsz0 _
  have hsz : (DataW.weightsEach Try.prog (Try.f5.params.toList ++ Rows.fnExactFirstOffSpec.plain.varTypes Try.prog) (ds ++ gs)).all (· ≤ reachBytes) = true := hsz0
  have hval : ∀ (j : Nat) t v, Try.f5.params[j]? = some t → args[j]? = some v → Value.okWide Try.prog W .any base t v := hval0
  have hW' := hW
  obtain ⟨p, q, hA0, hV, rfl, hfz, hnd⟩ := hW
  have hA : DataW.TrodAll enc Try.prog W 0 (fun _ => true) true Try.f5.params.toList args.toList ds p := hA0
  rw [Try.params5] at hA hval hsz
  obtain ⟨v0, vs0, d0, ds0, p0, q0, hargs, rfl, rfl, h0, r0⟩ := trodAll_cons hA
  obtain ⟨v1, vs1, d1, ds1, p1, q1, rfl, rfl, rfl, h1, r1⟩ := trodAll_cons r0
  obtain ⟨v2, vs2, d2, ds2, p2, q2, rfl, rfl, rfl, h2, r2⟩ := trodAll_cons r1
  obtain ⟨rfl, rfl, rfl⟩ := trodAll_nil r2
  obtain rfl : args = #[v0, v1, v2] := by cases args; simp_all
  obtain ⟨rfl, rfl⟩ := trodVars_none hV
  have k0_ := h0
  have lt0 : ∀ x ∈ p0, x.block < W.heap.size := by obtain ⟨m, hm⟩ := k0_; exact DataW.trod_lt m _ _ _ hm
  obtain ⟨o0, rfl⟩ : ∃ o : O26, v0 = VO26 o := by
    obtain ⟨z, e, hw⟩ := RL.flat_value 258 KSO26 (by kernel_rfl) (by kernel_rfl) (okWide_struct Try.underlying26 (hval 0 26 v0 rfl rfl)) h0
    obtain ⟨o, ho⟩ := openO26 z hw
    exact ⟨o, by first | (rw [e, ho]; done) | (rw [e, ho]; rfl)⟩
  have k1_ := h1
  have lt1 : ∀ x ∈ p1, x.block < W.heap.size := by obtain ⟨m, hm⟩ := k1_; exact DataW.trod_lt m _ _ _ hm
  obtain ⟨a1_0, a1_1, a1_2, a1_3, a1_4, a1_5, rfl, w1_0, w1_1, w1_2, w1_3, w1_4, w1_5⟩ : ∃ a1_0 a1_1 a1_2 a1_3 a1_4 a1_5 : Int, v1 = .agg #[.int .i8 a1_0, .int .i8 a1_1, .int .i8 a1_2, .int .i8 a1_3, .int .i8 a1_4, .int .i8 a1_5] ∧ (Lit.int .i8 a1_0).wf = true ∧ (Lit.int .i8 a1_1).wf = true ∧ (Lit.int .i8 a1_2).wf = true ∧ (Lit.int .i8 a1_3).wf = true ∧ (Lit.int .i8 a1_4).wf = true ∧ (Lit.int .i8 a1_5).wf = true := by
    obtain ⟨z, e, hw⟩ := RL.flat_value 6 [.i8, .i8, .i8, .i8, .i8, .i8] (by kernel_rfl) (by kernel_rfl) (okWide_struct Try.underlying32 (hval 1 32 v1 rfl rfl)) h1
    exact ⟨z 0, z 1, z 2, z 3, z 4, z 5, e, hw 0 (by omega), hw 1 (by omega), hw 2 (by omega), hw 3 (by omega), hw 4 (by omega), hw 5 (by omega)⟩
  have k2_ := h2
  have lt2 : ∀ x ∈ p2, x.block < W.heap.size := by obtain ⟨m, hm⟩ := k2_; exact DataW.trod_lt m _ _ _ hm
  obtain ⟨A2, len2, c2, rfl⟩ := okWide_slice Try.underlying53 (hval 2 53 v2 rfl rfl)
  obtain ⟨l2, rfl, C2, g2, m2, y2⟩ := RL.slice_C k30 (fun z => (⟨z 0, z 1⟩ : S30)) 2 [.i8, .i8] rfl (fun z => ⟨[.int .i8 (z 0)], [.int .i8 (z 1)], rfl, rfl, rfl⟩) Try.underlying53 (by kernel_rfl) (by kernel_rfl) h2
  clear hA0 hval0 hsz0 hsz
  obtain ⟨k, hp⟩ := Pure.FnExactFirstOff o0 a1_0 a1_1 a1_2 a1_3 a1_4 a1_5 l2 w1_0 w1_1 w1_2 w1_3 w1_4 w1_5 m2 y2
  refine (laws_FnExactFirstOff.calls k o0 a1_0 a1_1 a1_2 a1_3 a1_4 a1_5 A2 c2 l2 true W C2 g2 hp).mono fun e W' ⟨he, bel⟩ => ?_
  subst he
  exact ⟨_, rfl, _, _, _, [], _, [], hW', trodAll_mk1 (shut_bool Try.underlying4 _), (trodAll_cons_mk (Below.trod laidOut (by kernel_rfl) (of_decide_eq_true (by kernel_rfl)) k0_ bel lt0) (trodAll_cons_mk (Below.trod laidOut (by kernel_rfl) (of_decide_eq_true (by kernel_rfl)) k1_ bel lt1) (trodAll_cons_mk (Below.trod laidOut (by kernel_rfl) (of_decide_eq_true (by kernel_rfl)) k2_ bel lt2) trodAll_mk0))), rfl, bel.frame _, fun h => by cases h⟩
set_option maxHeartbeats 8000000 in
theorem closed : joinedFacts Try.pinned.checked.prog 5 Try.f5 Rows.fnExactFirstOffSpec Rows.fnExactFirstOffRow = true := by
  kernel_rfl
theorem named : Try.pinned.checked.prog.funcNamed Rows.fnExactFirstOffRow.func = some 5 := by kernel_rfl
theorem inst : Try.f5.isInstance Try.pinned.checked.prog Rows.fnExactFirstOffRow.origin Rows.fnExactFirstOffRow.targs := of_decide_eq_true (by kernel_rfl)
theorem wrapper : Try.f5.isWrapper Try.pinned.checked.prog Rows.fnExactFirstOffRow.wrapper Rows.fnExactFirstOffRow.mainSum := by unfold Func.isWrapper; first | (rw [if_pos (by decide +kernel)]; kernel_rfl) | (rw [if_neg (by decide +kernel)]; exact ⟨rfl, rfl⟩)
theorem over : Rows.fnExactFirstOffRow.holds Try.pinned (OpenSpec.ofChange Rows.fnExactFirstOffSpec) :=
  OpenClaim.holds_of_wide 5 Try.f5 rfl rfl rfl rfl rfl rfl rfl ⟨rfl, rfl, rfl, rfl, rfl⟩ rfl rfl rfl rfl rfl named Try.func5 closed inst wrapper
    (fun os started H enc _ => lifted os started H enc)
theorem proved : Rows.FnExactFirstOffSaid := over
#print axioms proved
end Go.Proofs.Ytccjcnmeibconaa.rowFnExactFirstOff
namespace Go.Proofs.Ytccjcnmeibconaa
theorem fnExactFirstOff_holds : Rows.FnExactFirstOffSaid := rowFnExactFirstOff.proved
end Go.Proofs.Ytccjcnmeibconaa
