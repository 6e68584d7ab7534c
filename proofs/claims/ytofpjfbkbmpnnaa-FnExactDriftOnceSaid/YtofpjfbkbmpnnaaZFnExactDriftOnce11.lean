/- A part of the proof of: FnExactDriftOnce returns true, whatever the input, and leaves its arguments as they were. -/
import Derived.Test.YtofpjfbkbmpnnaaProg
import Derived.Below
import Derived.Deep.Draws
import Derived.Deep.AppendLies
import Derived.Maps.AppendAt
import Derived.OwnWalk
import Derived.Laws.BytesArg
import Derived.Laws.MakeOwn
import Derived.Laws.OwnMore
import Derived.Deep.OwnRows
import Derived.Tactics
import Derived.Lib.ConvBytes
import Derived.Laws.Slices
import Derived.WalkKit
import Derived.KernelRfl
import Derived.RowKit3
import Derived.Deep.LoopGhost
import Derived.Deep.QuietTactic
import Derived.BigQuiet
import Derived.WideLaws
import Derived.Deep.DeepCutAuto
import Derived.Deep.CutBlock
import Derived.Deep.RegionHeld3
import Derived.Laws.Rows
import Derived.Lib.AppendStr
import Derived.ArgAppend
import Derived.Laws.IdiomCopy
import Derived.OrdersHeld
import Derived.Laws.BitsLemmas
import Derived.RowKit
import Derived.Laws.StructEq
import Derived.Deep.Slices
import Derived.ChangeSame
import Derived.ChangeArms
import Derived.OpenShut
import Derived.ProofKit
import Derived.Laws.Tables
import Derived.Lib.Hide
import Derived.Laws.CopyOwn
import Derived.Laws.CopyRow
import Derived.Test.YtofpjfbkbmpnnaaZFnExactDriftOnce1
import Derived.Test.YtofpjfbkbmpnnaaZFnExactDriftOnce2
import Derived.Test.YtofpjfbkbmpnnaaZFnExactDriftOnce3
import Derived.Test.YtofpjfbkbmpnnaaZFnExactDriftOnce4
import Derived.Test.YtofpjfbkbmpnnaaZFnExactDriftOnce5
import Derived.Test.YtofpjfbkbmpnnaaZFnExactDriftOnce6
import Derived.Test.YtofpjfbkbmpnnaaZFnExactDriftOnce7
import Derived.Test.YtofpjfbkbmpnnaaZFnExactDriftOnce8
import Derived.Test.YtofpjfbkbmpnnaaZFnExactDriftOnce9
import Derived.Test.YtofpjfbkbmpnnaaZFnExactDriftOnce10
section
namespace Go.Proofs.Ytofpjfbkbmpnnaa.G
open Go.RowKit Go.Proofs.YtofpjfbkbmpnnaaW.PrintWords Go.Proofs.YtofpjfbkbmpnnaaW.PrintLast Go.Proofs.YtofpjfbkbmpnnaaW.PrintMore
attribute [local go_sem] max2_int min2_int max_two min_two max_three min_three max_four min_four   -- for this text's walks alone
set_option linter.unusedVariables false
set_option linter.unusedSimpArgs false
def laws_FnExactDriftOnce.f (k : Nat) (a0 : O26) (a1 : O28) (a2_0 : Int) (a2_1 : Int) (a2_2 : Int) (a2_3 : Int) (a2_4 : Int) (a2_5 : Int) (a3_0 : Int) (a3_1 : Int) : Option (Bool) := (laws_toBay.f a0).bind fun t240 => ((laws_toGrounds.f a1).bind fun t241 => ((laws_toBoat.f a2_0 a2_1 a2_2 a2_3 a2_4 a2_5).bind fun bt242 => ((laws_toWind.f a3_0 a3_1).bind fun bt248 => ((spec_DriftOnce.f k t240 t241 bt242.1 bt242.2.1 bt242.2.2.1 bt242.2.2.2.1 bt242.2.2.2.2.1 bt242.2.2.2.2.2 bt248.1 bt248.2).bind fun bt250 => ((laws_toBay.f a0).bind fun t259 => ((laws_toGrounds.f a1).bind fun t260 => ((laws_toBoat.f a2_0 a2_1 a2_2 a2_3 a2_4 a2_5).bind fun bt261 => ((laws_toWind.f a3_0 a3_1).bind fun bt267 => ((impl_DriftOnce.f k t259 t260 bt261.1 bt261.2.1 bt261.2.2.1 bt261.2.2.2.1 bt261.2.2.2.2.1 bt261.2.2.2.2.2 bt267.1 bt267.2).bind fun bt269 => ((laws_eqBoat.f bt269.1 bt269.2.1 bt269.2.2.1 bt269.2.2.2.1 bt269.2.2.2.2.1 bt269.2.2.2.2.2.1 bt250.1 bt250.2.1 bt250.2.2.1 bt250.2.2.2.1 bt250.2.2.2.2.1 bt250.2.2.2.2.2.1).bind fun t278 => (if t278 = true then (if (bt269.2.2.2.2.2.2.1 != bt250.2.2.2.2.2.2.1) = true then (some false) else (if bt269.2.2.2.2.2.2.2 = bt250.2.2.2.2.2.2.2 then (some true) else (some false))) else (some false))))))))))))
def laws_FnExactDriftOnce.T1 : Bool × List (List Nat × List Nat) := (true, [([], []), ([0], [0]), ([], []), ([2, 1], [2]), ([], []), ([4, 3], [4]), ([], []), ([6, 5], [6]), ([1, 3, 5, 7, 7], [1, 3, 5, 7]), ([8], [8]), ([9], [9]), ([9], [9]), ([9], [9]), ([], []), ([13, 10, 8, 0, 1, 2, 3, 4, 5, 6, 7, 8, 9, 10, 13], [10, 13]), ([11, 14, 0, 1, 2, 3, 4, 5, 6, 7, 8, 9, 10, 11, 13, 14], [11]), ([12, 15, 0, 1, 2, 3, 4, 5, 6, 7, 8, 9, 10, 11, 12, 13, 14, 15], [12])])
def laws_FnExactDriftOnce.B1 : List Nat := [0, 1, 0, 7, 0, 31, 0, 127, 255, 511, 1023, 1023, 1023, 0, 10239, 28671, 65535]
theorem laws_FnExactDriftOnce.tab1 : rtab .any (opsOf Try.f5 1) = laws_FnExactDriftOnce.T1 := by kernel_rfl
theorem laws_FnExactDriftOnce.bits1 : waitsOk laws_FnExactDriftOnce.T1.2 laws_FnExactDriftOnce.B1 = true := by kernel_rfl
def laws_FnExactDriftOnce.T2 : Bool × List (List Nat × List Nat) := (true, [([], []), ([0], [0]), ([], []), ([2, 1], [2]), ([], []), ([4, 3], [4]), ([], []), ([6, 5], [6]), ([1, 3, 5, 7, 7], [1, 3, 5, 7]), ([8], [8]), ([9], [9]), ([9], [9]), ([9], [9]), ([], []), ([13, 10, 8, 0, 1, 2, 3, 4, 5, 6, 7, 8, 9, 10, 13], [10, 13]), ([11, 14, 0, 1, 2, 3, 4, 5, 6, 7, 8, 9, 10, 11, 13, 14], [11]), ([12, 15, 0, 1, 2, 3, 4, 5, 6, 7, 8, 9, 10, 11, 12, 13, 14, 15], [12])])
def laws_FnExactDriftOnce.B2 : List Nat := [0, 1, 0, 7, 0, 31, 0, 127, 255, 511, 1023, 1023, 1023, 0, 10239, 28671, 65535]
theorem laws_FnExactDriftOnce.tab2 : rtab .any (opsOf Try.f5 2) = laws_FnExactDriftOnce.T2 := by kernel_rfl
theorem laws_FnExactDriftOnce.bits2 : waitsOk laws_FnExactDriftOnce.T2.2 laws_FnExactDriftOnce.B2 = true := by kernel_rfl
set_option maxHeartbeats 8000000 in
set_option maxRecDepth 100000 in
theorem laws_FnExactDriftOnce.calls (k : Nat) (a0 : O26) (a1 : O28) (a2_0 : Int) (a2_1 : Int) (a2_2 : Int) (a2_3 : Int) (a2_4 : Int) (a2_5 : Int) (a3_0 : Int) (a3_1 : Int) (r : Bool) (w : World) (hr0_ : r = true) (h : laws_FnExactDriftOnce.f k a0 a1 a2_0 a2_1 a2_2 a2_3 a2_4 a2_5 a3_0 a3_1 = some r) :
    Calls Try.prog 5 #[VO26 a0, VO28 a1, .agg #[.int .i8 a2_0, .int .i8 a2_1, .int .i8 a2_2, .int .i8 a2_3, .int .i8 a2_4, .int .i8 a2_5], .agg #[.int .i8 a3_0, .int .i8 a3_1]] w fun e w' => e = .returned (.bool r) ∧ Below w.heap.size w w' := by
  have hu38 := Try.underlying38
  have hu47 := Try.underlying47
  have hu43 := Try.underlying43
  have hr_ := Aside0.mk hr0_
  clear hr0_
  have HB := Aside0.mk (Below.refl w.heap.size w)
  have H : ((laws_toBay.f a0).bind fun t240 => ((laws_toGrounds.f a1).bind fun t241 => ((laws_toBoat.f a2_0 a2_1 a2_2 a2_3 a2_4 a2_5).bind fun bt242 => ((laws_toWind.f a3_0 a3_1).bind fun bt248 => ((spec_DriftOnce.f k t240 t241 bt242.1 bt242.2.1 bt242.2.2.1 bt242.2.2.2.1 bt242.2.2.2.2.1 bt242.2.2.2.2.2 bt248.1 bt248.2).bind fun bt250 => ((laws_toBay.f a0).bind fun t259 => ((laws_toGrounds.f a1).bind fun t260 => ((laws_toBoat.f a2_0 a2_1 a2_2 a2_3 a2_4 a2_5).bind fun bt261 => ((laws_toWind.f a3_0 a3_1).bind fun bt267 => ((impl_DriftOnce.f k t259 t260 bt261.1 bt261.2.1 bt261.2.2.1 bt261.2.2.2.1 bt261.2.2.2.2.1 bt261.2.2.2.2.2 bt267.1 bt267.2).bind fun bt269 => ((laws_eqBoat.f bt269.1 bt269.2.1 bt269.2.2.1 bt269.2.2.2.1 bt269.2.2.2.2.1 bt269.2.2.2.2.2.1 bt250.1 bt250.2.1 bt250.2.2.1 bt250.2.2.2.1 bt250.2.2.2.2.1 bt250.2.2.2.2.2.1).bind fun t278 => (if t278 = true then (if (bt269.2.2.2.2.2.2.1 != bt250.2.2.2.2.2.2.1) = true then (some false) else (if bt269.2.2.2.2.2.2.2 = bt250.2.2.2.2.2.2.2 then (some true) else (some false))) else (some false))))))))))))) = some r := h
  clear h
  replace H := Option.bind_eq_some_iff.mp H
  obtain ⟨t240, A50, H⟩ := H
  replace H : ((laws_toGrounds.f a1).bind fun t241 => ((laws_toBoat.f a2_0 a2_1 a2_2 a2_3 a2_4 a2_5).bind fun bt242 => ((laws_toWind.f a3_0 a3_1).bind fun bt248 => ((spec_DriftOnce.f k t240 t241 bt242.1 bt242.2.1 bt242.2.2.1 bt242.2.2.2.1 bt242.2.2.2.2.1 bt242.2.2.2.2.2 bt248.1 bt248.2).bind fun bt250 => ((laws_toBay.f a0).bind fun t259 => ((laws_toGrounds.f a1).bind fun t260 => ((laws_toBoat.f a2_0 a2_1 a2_2 a2_3 a2_4 a2_5).bind fun bt261 => ((laws_toWind.f a3_0 a3_1).bind fun bt267 => ((impl_DriftOnce.f k t259 t260 bt261.1 bt261.2.1 bt261.2.2.1 bt261.2.2.2.1 bt261.2.2.2.2.1 bt261.2.2.2.2.2 bt267.1 bt267.2).bind fun bt269 => ((laws_eqBoat.f bt269.1 bt269.2.1 bt269.2.2.1 bt269.2.2.2.1 bt269.2.2.2.2.1 bt269.2.2.2.2.2.1 bt250.1 bt250.2.1 bt250.2.2.1 bt250.2.2.2.1 bt250.2.2.2.2.1 bt250.2.2.2.2.2.1).bind fun t278 => (if t278 = true then (if (bt269.2.2.2.2.2.2.1 != bt250.2.2.2.2.2.2.1) = true then (some false) else (if bt269.2.2.2.2.2.2.2 = bt250.2.2.2.2.2.2.2 then (some true) else (some false))) else (some false)))))))))))) = some r := H
  have A5 := Aside0.mk A50
  clear A50
  replace H := Option.bind_eq_some_iff.mp H
  obtain ⟨t241, A60, H⟩ := H
  replace H : ((laws_toBoat.f a2_0 a2_1 a2_2 a2_3 a2_4 a2_5).bind fun bt242 => ((laws_toWind.f a3_0 a3_1).bind fun bt248 => ((spec_DriftOnce.f k t240 t241 bt242.1 bt242.2.1 bt242.2.2.1 bt242.2.2.2.1 bt242.2.2.2.2.1 bt242.2.2.2.2.2 bt248.1 bt248.2).bind fun bt250 => ((laws_toBay.f a0).bind fun t259 => ((laws_toGrounds.f a1).bind fun t260 => ((laws_toBoat.f a2_0 a2_1 a2_2 a2_3 a2_4 a2_5).bind fun bt261 => ((laws_toWind.f a3_0 a3_1).bind fun bt267 => ((impl_DriftOnce.f k t259 t260 bt261.1 bt261.2.1 bt261.2.2.1 bt261.2.2.2.1 bt261.2.2.2.2.1 bt261.2.2.2.2.2 bt267.1 bt267.2).bind fun bt269 => ((laws_eqBoat.f bt269.1 bt269.2.1 bt269.2.2.1 bt269.2.2.2.1 bt269.2.2.2.2.1 bt269.2.2.2.2.2.1 bt250.1 bt250.2.1 bt250.2.2.1 bt250.2.2.2.1 bt250.2.2.2.2.1 bt250.2.2.2.2.2.1).bind fun t278 => (if t278 = true then (if (bt269.2.2.2.2.2.2.1 != bt250.2.2.2.2.2.2.1) = true then (some false) else (if bt269.2.2.2.2.2.2.2 = bt250.2.2.2.2.2.2.2 then (some true) else (some false))) else (some false))))))))))) = some r := H
  have A6 := Aside0.mk A60
  clear A60
  replace H := Option.bind_eq_some_iff.mp H
  obtain ⟨⟨t242, t243, t244, t245, t246, t247⟩, A70, H⟩ := H
  replace H : ((laws_toWind.f a3_0 a3_1).bind fun bt248 => ((spec_DriftOnce.f k t240 t241 t242 t243 t244 t245 t246 t247 bt248.1 bt248.2).bind fun bt250 => ((laws_toBay.f a0).bind fun t259 => ((laws_toGrounds.f a1).bind fun t260 => ((laws_toBoat.f a2_0 a2_1 a2_2 a2_3 a2_4 a2_5).bind fun bt261 => ((laws_toWind.f a3_0 a3_1).bind fun bt267 => ((impl_DriftOnce.f k t259 t260 bt261.1 bt261.2.1 bt261.2.2.1 bt261.2.2.2.1 bt261.2.2.2.2.1 bt261.2.2.2.2.2 bt267.1 bt267.2).bind fun bt269 => ((laws_eqBoat.f bt269.1 bt269.2.1 bt269.2.2.1 bt269.2.2.2.1 bt269.2.2.2.2.1 bt269.2.2.2.2.2.1 bt250.1 bt250.2.1 bt250.2.2.1 bt250.2.2.2.1 bt250.2.2.2.2.1 bt250.2.2.2.2.2.1).bind fun t278 => (if t278 = true then (if (bt269.2.2.2.2.2.2.1 != bt250.2.2.2.2.2.2.1) = true then (some false) else (if bt269.2.2.2.2.2.2.2 = bt250.2.2.2.2.2.2.2 then (some true) else (some false))) else (some false)))))))))) = some r := H
  have A7 := Aside0.mk A70
  clear A70
  replace H := Option.bind_eq_some_iff.mp H
  obtain ⟨⟨t248, t249⟩, A80, H⟩ := H
  replace H : ((spec_DriftOnce.f k t240 t241 t242 t243 t244 t245 t246 t247 t248 t249).bind fun bt250 => ((laws_toBay.f a0).bind fun t259 => ((laws_toGrounds.f a1).bind fun t260 => ((laws_toBoat.f a2_0 a2_1 a2_2 a2_3 a2_4 a2_5).bind fun bt261 => ((laws_toWind.f a3_0 a3_1).bind fun bt267 => ((impl_DriftOnce.f k t259 t260 bt261.1 bt261.2.1 bt261.2.2.1 bt261.2.2.2.1 bt261.2.2.2.2.1 bt261.2.2.2.2.2 bt267.1 bt267.2).bind fun bt269 => ((laws_eqBoat.f bt269.1 bt269.2.1 bt269.2.2.1 bt269.2.2.2.1 bt269.2.2.2.2.1 bt269.2.2.2.2.2.1 bt250.1 bt250.2.1 bt250.2.2.1 bt250.2.2.2.1 bt250.2.2.2.2.1 bt250.2.2.2.2.2.1).bind fun t278 => (if t278 = true then (if (bt269.2.2.2.2.2.2.1 != bt250.2.2.2.2.2.2.1) = true then (some false) else (if bt269.2.2.2.2.2.2.2 = bt250.2.2.2.2.2.2.2 then (some true) else (some false))) else (some false))))))))) = some r := H
  have A8 := Aside0.mk A80
  clear A80
  replace H := Option.bind_eq_some_iff.mp H
  obtain ⟨⟨t250, t251, t252, t253, t254, t255, t256, t257⟩, A90, H⟩ := H
  replace H : ((laws_toBay.f a0).bind fun t259 => ((laws_toGrounds.f a1).bind fun t260 => ((laws_toBoat.f a2_0 a2_1 a2_2 a2_3 a2_4 a2_5).bind fun bt261 => ((laws_toWind.f a3_0 a3_1).bind fun bt267 => ((impl_DriftOnce.f k t259 t260 bt261.1 bt261.2.1 bt261.2.2.1 bt261.2.2.2.1 bt261.2.2.2.2.1 bt261.2.2.2.2.2 bt267.1 bt267.2).bind fun bt269 => ((laws_eqBoat.f bt269.1 bt269.2.1 bt269.2.2.1 bt269.2.2.2.1 bt269.2.2.2.2.1 bt269.2.2.2.2.2.1 t250 t251 t252 t253 t254 t255).bind fun t278 => (if t278 = true then (if (bt269.2.2.2.2.2.2.1 != t256) = true then (some false) else (if bt269.2.2.2.2.2.2.2 = t257 then (some true) else (some false))) else (some false)))))))) = some r := H
  have A9 := Aside0.mk A90
  clear A90
  replace H := Option.bind_eq_some_iff.mp H
  obtain ⟨t259, A100, H⟩ := H
  replace H : ((laws_toGrounds.f a1).bind fun t260 => ((laws_toBoat.f a2_0 a2_1 a2_2 a2_3 a2_4 a2_5).bind fun bt261 => ((laws_toWind.f a3_0 a3_1).bind fun bt267 => ((impl_DriftOnce.f k t259 t260 bt261.1 bt261.2.1 bt261.2.2.1 bt261.2.2.2.1 bt261.2.2.2.2.1 bt261.2.2.2.2.2 bt267.1 bt267.2).bind fun bt269 => ((laws_eqBoat.f bt269.1 bt269.2.1 bt269.2.2.1 bt269.2.2.2.1 bt269.2.2.2.2.1 bt269.2.2.2.2.2.1 t250 t251 t252 t253 t254 t255).bind fun t278 => (if t278 = true then (if (bt269.2.2.2.2.2.2.1 != t256) = true then (some false) else (if bt269.2.2.2.2.2.2.2 = t257 then (some true) else (some false))) else (some false))))))) = some r := H
  have A10 := Aside0.mk A100
  clear A100
  replace H := Option.bind_eq_some_iff.mp H
  obtain ⟨t260, A110, H⟩ := H
  replace H : ((laws_toBoat.f a2_0 a2_1 a2_2 a2_3 a2_4 a2_5).bind fun bt261 => ((laws_toWind.f a3_0 a3_1).bind fun bt267 => ((impl_DriftOnce.f k t259 t260 bt261.1 bt261.2.1 bt261.2.2.1 bt261.2.2.2.1 bt261.2.2.2.2.1 bt261.2.2.2.2.2 bt267.1 bt267.2).bind fun bt269 => ((laws_eqBoat.f bt269.1 bt269.2.1 bt269.2.2.1 bt269.2.2.2.1 bt269.2.2.2.2.1 bt269.2.2.2.2.2.1 t250 t251 t252 t253 t254 t255).bind fun t278 => (if t278 = true then (if (bt269.2.2.2.2.2.2.1 != t256) = true then (some false) else (if bt269.2.2.2.2.2.2.2 = t257 then (some true) else (some false))) else (some false)))))) = some r := H
  have A11 := Aside0.mk A110
  clear A110
  replace H := Option.bind_eq_some_iff.mp H
  obtain ⟨⟨t261, t262, t263, t264, t265, t266⟩, A120, H⟩ := H
  replace H : ((laws_toWind.f a3_0 a3_1).bind fun bt267 => ((impl_DriftOnce.f k t259 t260 t261 t262 t263 t264 t265 t266 bt267.1 bt267.2).bind fun bt269 => ((laws_eqBoat.f bt269.1 bt269.2.1 bt269.2.2.1 bt269.2.2.2.1 bt269.2.2.2.2.1 bt269.2.2.2.2.2.1 t250 t251 t252 t253 t254 t255).bind fun t278 => (if t278 = true then (if (bt269.2.2.2.2.2.2.1 != t256) = true then (some false) else (if bt269.2.2.2.2.2.2.2 = t257 then (some true) else (some false))) else (some false))))) = some r := H
  have A12 := Aside0.mk A120
  clear A120
  replace H := Option.bind_eq_some_iff.mp H
  obtain ⟨⟨t267, t268⟩, A130, H⟩ := H
  replace H : ((impl_DriftOnce.f k t259 t260 t261 t262 t263 t264 t265 t266 t267 t268).bind fun bt269 => ((laws_eqBoat.f bt269.1 bt269.2.1 bt269.2.2.1 bt269.2.2.2.1 bt269.2.2.2.2.1 bt269.2.2.2.2.2.1 t250 t251 t252 t253 t254 t255).bind fun t278 => (if t278 = true then (if (bt269.2.2.2.2.2.2.1 != t256) = true then (some false) else (if bt269.2.2.2.2.2.2.2 = t257 then (some true) else (some false))) else (some false)))) = some r := H
  have A13 := Aside0.mk A130
  clear A130
  replace H := Option.bind_eq_some_iff.mp H
  obtain ⟨⟨t269, t270, t271, t272, t273, t274, t275, t276⟩, A140, H⟩ := H
  replace H : ((laws_eqBoat.f t269 t270 t271 t272 t273 t274 t250 t251 t252 t253 t254 t255).bind fun t278 => (if t278 = true then (if (t275 != t256) = true then (some false) else (if t276 = t257 then (some true) else (some false))) else (some false))) = some r := H
  have A14 := Aside0.mk A140
  clear A140
  replace H := Option.bind_eq_some_iff.mp H
  obtain ⟨t278, A150, H⟩ := H
  replace H : (if t278 = true then (if (t275 != t256) = true then (some false) else (if t276 = t257 then (some true) else (some false))) else (some false)) = some r := H
  have A15 := Aside0.mk A150
  clear A150
  by_cases c16 : t278 = true
  · subst c16
    have H1 : (if (t275 != t256) = true then (some false) else (if t276 = t257 then (some true) else (some false))) = some r := by rw [if_pos rfl] at H; exact H
    clear H
    have H := H1
    clear H1
    by_cases c17 : (t275 != t256) = true
    · rw [if_pos c17] at H
      have c17b0 : (t275 != t256) = true := c17
      (try (have c17b1 : decide (t275 = t256) = false := by simpa using c17))
      (try (have c17b2 : (t275 == t256) = false := by simpa using c17))
      (try (have c17b3 : ¬ (t275 = t256) := by simpa using c17))
      clear c17
      exact absurd (Option.some.inj H) (by rw [hr_.out]; decide)
    · rw [if_neg c17] at H
      have c17b0 : (t275 != t256) = false := by simpa using c17
      (try (have c17b1 : decide (t275 = t256) = true := by simpa using c17))
      (try (have c17b2 : (t275 == t256) = true := by simpa using c17))
      clear c17
      by_cases c18 : t276 = t257
      · rw [if_pos c18] at H
        have c18b0 : (t276 == t257) = true := beq_iff_eq.mpr c18
        have c18b1 : (t276 != t257) = false := bne_eq_false_iff_eq.mpr c18
        clear c18
        obtain rfl := Option.some.inj H
        go_enter Try.func5, Try.ntmps5
        try go_wp2_with (first | ((with_reducible refine gate_dst (N := 4) rfl ?_); refine box_event ?hg (N := 4) ?hd (cs := (a0).A) (t := 26) ?hr ?_; (case hd => rfl); (case hg => rfl); (case hr => first | exact AR.run_box_row rfl rfl | (go_simp; done) | (go_simp; rfl)); intro gb236 hg w19 hbox hb; have n0_ := Aside0.mk (below_step (by repeat (first | (with_reducible first | exact HB.out | apply below_alloc | apply pw_below_drewN | apply below_drew1) | exact HB.out)) hb); have n1_ := Aside0.mk (hbox); have n2_ := Aside0.mk ((by rw [hg]; exact (below_size (by repeat (first | (with_reducible first | exact HB.out | apply below_alloc | apply pw_below_drewN | apply below_drew1) | exact HB.out))) : w.heap.size ≤ gb236)); have n3_ := Aside0.mk ((by rw [hg]; exact (below_size (by repeat (first | (with_reducible first | exact HB.out | apply below_alloc | apply pw_below_drewN | apply below_drew1) | exact HB.out))) : w.heap.size ≤ gb236)); clear HB; have HB := n0_; have BK236 := n1_; have GW236 := n2_; have GE236 := n3_; clear n0_ n1_ n2_ n3_; clear hb hbox hg) | ((with_reducible refine gate_dst (N := 5) rfl ?_); refine box_event ?hg (N := 5) ?hd (cs := (a1).A) (t := 28) ?hr ?_; (case hd => rfl); (case hg => rfl); (case hr => first | exact AR.run_box_row rfl rfl | (go_simp; done) | (go_simp; rfl)); intro gb237 hg w20 hbox hb; have n0_ := Aside0.mk (blk_below (g := gb236) (o := .cells (a0).A 26 (0, 0)) (by (with_reducible repeat (first | refine blk_drewN ?_ _ | refine blk_drew ?_ | refine blk_alloc ?_ _)); exact BK236.out) hb); have n1_ := Aside0.mk (below_step (by repeat (first | (with_reducible first | exact HB.out | apply below_alloc | apply pw_below_drewN | apply below_drew1 | refine below_set ?_ GE236.out) | exact HB.out)) hb); have n2_ := Aside0.mk (hbox); have n3_ := Aside0.mk ((by rw [hg]; exact (below_size (by repeat (first | (with_reducible first | exact HB.out | apply below_alloc | apply pw_below_drewN | apply below_drew1 | refine below_set ?_ GE236.out) | exact HB.out))) : w.heap.size ≤ gb237)); have n4_ := Aside0.mk ((by rw [hg]; exact (below_size (by repeat (first | (with_reducible first | exact HB.out | apply below_alloc | apply pw_below_drewN | apply below_drew1 | refine below_set ?_ GE236.out) | exact HB.out))) : w.heap.size ≤ gb237)); have n5_ := Aside0.mk ((by rw [hg]; exact Nat.ne_of_lt (blk_lt (g := gb236) (o := .cells (a0).A 26 (0, 0)) (by (with_reducible repeat (first | refine blk_drewN ?_ _ | refine blk_drew ?_ | refine blk_alloc ?_ _)); exact BK236.out)) : gb236 ≠ gb237)); have n6_ := Aside0.mk ((by rw [hg]; exact Nat.ne_of_gt (blk_lt (g := gb236) (o := .cells (a0).A 26 (0, 0)) (by (with_reducible repeat (first | refine blk_drewN ?_ _ | refine blk_drew ?_ | refine blk_alloc ?_ _)); exact BK236.out)) : gb237 ≠ gb236)); clear BK236; clear HB; have BK236 := n0_; have HB := n1_; have BK237 := n2_; have GW237 := n3_; have GE237 := n4_; have NB236_237 := n5_; have NB237_236 := n6_; clear n0_ n1_ n2_ n3_ n4_ n5_ n6_; clear hb hbox hg) | ((with_reducible refine gate_dst (N := 6) rfl ?_); refine box_event ?hg (N := 6) ?hd (cs := #[.int .i8 a2_0, .int .i8 a2_1, .int .i8 a2_2, .int .i8 a2_3, .int .i8 a2_4, .int .i8 a2_5]) (t := 38) ?hr ?_; (case hd => rfl); (case hg => rfl); (case hr => first | (go_simp; done) | (go_simp; rfl)); intro gb238 hg w21 hbox hb; have n0_ := Aside0.mk (blk_below (g := gb236) (o := .cells (a0).A 26 (0, 0)) (by (with_reducible repeat (first | refine blk_drewN ?_ _ | refine blk_drew ?_ | refine blk_alloc ?_ _)); exact BK236.out) hb); have n1_ := Aside0.mk (blk_below (g := gb237) (o := .cells (a1).A 28 (0, 0)) (by (with_reducible repeat (first | refine blk_drewN ?_ _ | refine blk_drew ?_ | refine blk_alloc ?_ _)); exact BK237.out) hb); have n2_ := Aside0.mk (below_step (by repeat (first | (with_reducible first | exact HB.out | apply below_alloc | apply pw_below_drewN | apply below_drew1 | refine below_set ?_ GE236.out | refine below_set ?_ GE237.out) | exact HB.out)) hb); have n3_ := Aside0.mk (hbox); have n4_ := Aside0.mk ((by rw [hg]; exact (below_size (by repeat (first | (with_reducible first | exact HB.out | apply below_alloc | apply pw_below_drewN | apply below_drew1 | refine below_set ?_ GE236.out | refine below_set ?_ GE237.out) | exact HB.out))) : w.heap.size ≤ gb238)); have n5_ := Aside0.mk ((by rw [hg]; exact (below_size (by repeat (first | (with_reducible first | exact HB.out | apply below_alloc | apply pw_below_drewN | apply below_drew1 | refine below_set ?_ GE236.out | refine below_set ?_ GE237.out) | exact HB.out))) : w.heap.size ≤ gb238)); have n6_ := Aside0.mk ((by rw [hg]; exact Nat.ne_of_lt (blk_lt (g := gb236) (o := .cells (a0).A 26 (0, 0)) (by (with_reducible repeat (first | refine blk_drewN ?_ _ | refine blk_drew ?_ | refine blk_alloc ?_ _)); exact BK236.out)) : gb236 ≠ gb238)); have n7_ := Aside0.mk ((by rw [hg]; exact Nat.ne_of_gt (blk_lt (g := gb236) (o := .cells (a0).A 26 (0, 0)) (by (with_reducible repeat (first | refine blk_drewN ?_ _ | refine blk_drew ?_ | refine blk_alloc ?_ _)); exact BK236.out)) : gb238 ≠ gb236)); have n8_ := Aside0.mk ((by rw [hg]; exact Nat.ne_of_lt (blk_lt (g := gb237) (o := .cells (a1).A 28 (0, 0)) (by (with_reducible repeat (first | refine blk_drewN ?_ _ | refine blk_drew ?_ | refine blk_alloc ?_ _)); exact BK237.out)) : gb237 ≠ gb238)); have n9_ := Aside0.mk ((by rw [hg]; exact Nat.ne_of_gt (blk_lt (g := gb237) (o := .cells (a1).A 28 (0, 0)) (by (with_reducible repeat (first | refine blk_drewN ?_ _ | refine blk_drew ?_ | refine blk_alloc ?_ _)); exact BK237.out)) : gb238 ≠ gb237)); clear BK236; clear BK237; clear HB; have BK236 := n0_; have BK237 := n1_; have HB := n2_; have BK238 := n3_; have GW238 := n4_; have GE238 := n5_; have NB236_238 := n6_; have NB238_236 := n7_; have NB237_238 := n8_; have NB238_237 := n9_; clear n0_ n1_ n2_ n3_ n4_ n5_ n6_ n7_ n8_ n9_; clear hb hbox hg) | ((with_reducible refine gate_dst (N := 7) rfl ?_); refine box_event ?hg (N := 7) ?hd (cs := #[.int .i8 a3_0, .int .i8 a3_1]) (t := 47) ?hr ?_; (case hd => rfl); (case hg => rfl); (case hr => first | (go_simp; done) | (go_simp; rfl)); intro gb239 hg w22 hbox hb; have n0_ := Aside0.mk (blk_below (g := gb236) (o := .cells (a0).A 26 (0, 0)) (by (with_reducible repeat (first | refine blk_drewN ?_ _ | refine blk_drew ?_ | refine blk_alloc ?_ _)); exact BK236.out) hb); have n1_ := Aside0.mk (blk_below (g := gb237) (o := .cells (a1).A 28 (0, 0)) (by (with_reducible repeat (first | refine blk_drewN ?_ _ | refine blk_drew ?_ | refine blk_alloc ?_ _)); exact BK237.out) hb); have n2_ := Aside0.mk (blk_below (g := gb238) (o := .cells #[.int .i8 a2_0, .int .i8 a2_1, .int .i8 a2_2, .int .i8 a2_3, .int .i8 a2_4, .int .i8 a2_5] 38 (0, 0)) (by (with_reducible repeat (first | refine blk_drewN ?_ _ | refine blk_drew ?_ | refine blk_alloc ?_ _)); exact BK238.out) hb); have n3_ := Aside0.mk (below_step (by repeat (first | (with_reducible first | exact HB.out | apply below_alloc | apply pw_below_drewN | apply below_drew1 | refine below_set ?_ GE236.out | refine below_set ?_ GE237.out | refine below_set ?_ GE238.out) | exact HB.out)) hb); have n4_ := Aside0.mk (hbox); have n5_ := Aside0.mk ((by rw [hg]; exact (below_size (by repeat (first | (with_reducible first | exact HB.out | apply below_alloc | apply pw_below_drewN | apply below_drew1 | refine below_set ?_ GE236.out | refine below_set ?_ GE237.out | refine below_set ?_ GE238.out) | exact HB.out))) : w.heap.size ≤ gb239)); have n6_ := Aside0.mk ((by rw [hg]; exact (below_size (by repeat (first | (with_reducible first | exact HB.out | apply below_alloc | apply pw_below_drewN | apply below_drew1 | refine below_set ?_ GE236.out | refine below_set ?_ GE237.out | refine below_set ?_ GE238.out) | exact HB.out))) : w.heap.size ≤ gb239)); have n7_ := Aside0.mk ((by rw [hg]; exact Nat.ne_of_lt (blk_lt (g := gb236) (o := .cells (a0).A 26 (0, 0)) (by (with_reducible repeat (first | refine blk_drewN ?_ _ | refine blk_drew ?_ | refine blk_alloc ?_ _)); exact BK236.out)) : gb236 ≠ gb239)); have n8_ := Aside0.mk ((by rw [hg]; exact Nat.ne_of_gt (blk_lt (g := gb236) (o := .cells (a0).A 26 (0, 0)) (by (with_reducible repeat (first | refine blk_drewN ?_ _ | refine blk_drew ?_ | refine blk_alloc ?_ _)); exact BK236.out)) : gb239 ≠ gb236)); have n9_ := Aside0.mk ((by rw [hg]; exact Nat.ne_of_lt (blk_lt (g := gb237) (o := .cells (a1).A 28 (0, 0)) (by (with_reducible repeat (first | refine blk_drewN ?_ _ | refine blk_drew ?_ | refine blk_alloc ?_ _)); exact BK237.out)) : gb237 ≠ gb239)); have n10_ := Aside0.mk ((by rw [hg]; exact Nat.ne_of_gt (blk_lt (g := gb237) (o := .cells (a1).A 28 (0, 0)) (by (with_reducible repeat (first | refine blk_drewN ?_ _ | refine blk_drew ?_ | refine blk_alloc ?_ _)); exact BK237.out)) : gb239 ≠ gb237)); have n11_ := Aside0.mk ((by rw [hg]; exact Nat.ne_of_lt (blk_lt (g := gb238) (o := .cells #[.int .i8 a2_0, .int .i8 a2_1, .int .i8 a2_2, .int .i8 a2_3, .int .i8 a2_4, .int .i8 a2_5] 38 (0, 0)) (by (with_reducible repeat (first | refine blk_drewN ?_ _ | refine blk_drew ?_ | refine blk_alloc ?_ _)); exact BK238.out)) : gb238 ≠ gb239)); have n12_ := Aside0.mk ((by rw [hg]; exact Nat.ne_of_gt (blk_lt (g := gb238) (o := .cells #[.int .i8 a2_0, .int .i8 a2_1, .int .i8 a2_2, .int .i8 a2_3, .int .i8 a2_4, .int .i8 a2_5] 38 (0, 0)) (by (with_reducible repeat (first | refine blk_drewN ?_ _ | refine blk_drew ?_ | refine blk_alloc ?_ _)); exact BK238.out)) : gb239 ≠ gb238)); clear BK236; clear BK237; clear BK238; clear HB; have BK236 := n0_; have BK237 := n1_; have BK238 := n2_; have HB := n3_; have BK239 := n4_; have GW239 := n5_; have GE239 := n6_; have NB236_239 := n7_; have NB239_236 := n8_; have NB237_239 := n9_; have NB239_237 := n10_; have NB238_239 := n11_; have NB239_238 := n12_; clear n0_ n1_ n2_ n3_ n4_ n5_ n6_ n7_ n8_ n9_ n10_ n11_ n12_; clear hb hbox hg))
        have n0_ := Aside0.mk (blk_drew BK236.out)
        have n1_ := Aside0.mk (blk_drew BK237.out)
        have n2_ := Aside0.mk (blk_drew BK238.out)
        have n3_ := Aside0.mk (blk_drew BK239.out)
        have n4_ := Aside0.mk (below_drew1 HB.out)
        clear BK236
        clear BK237
        clear BK238
        clear BK239
        clear HB
        have BK236 := n0_
        have BK237 := n1_
        have BK238 := n2_
        have BK239 := n3_
        have HB := n4_
        clear n0_ n1_ n2_ n3_ n4_
        refine start_ (n := 17) (S := fun w' => True) (ds := []) #[false, false, false, false, false, false, false, false, false, false, false, false, false, false, false, false, false] (by kernel_rfl) rfl rfl trivial (fun hHeld => ?_); refine with_tabW laws_FnExactDriftOnce.tab1 laws_FnExactDriftOnce.bits1 (fun HT_ HW_ => ?_)
        generalize w22.drew = w23 at BK236 BK237 BK238 BK239 HB hHeld ⊢
        refine inv_at [0, 1, 2, 3, 4, 5, 6, 7, 8, 9, 10, 11, 12, 13, 14, 15, 16] (fun a0_ b a w' => ∃ (gb258 : Nat) (m13_ : Value), a = putSel a0_ b [(0, 16, VO26 a0), (1, 17, VO30 t240), (2, 18, VO28 a1), (3, 19, VO32 t241), (4, 20, .agg #[.int .i8 a2_0, .int .i8 a2_1, .int .i8 a2_2, .int .i8 a2_3, .int .i8 a2_4, .int .i8 a2_5]), (5, 21, .agg #[.int .i8 t242, .int .i8 t243, .int .i8 t244, .int .i8 t245, .int .i8 t246, .int .i8 t247]), (6, 22, .agg #[.int .i8 a3_0, .int .i8 a3_1]), (7, 23, .agg #[.int .i8 t248, .int .i8 t249]), (8, 24, .tuple #[.agg #[.int .i8 t250, .int .i8 t251, .int .i8 t252, .int .i8 t253, .int .i8 t254, .int .i8 t255], .bool t256, .int .i64 t257]), (9, 15, .tuple #[.agg #[.int .i8 t250, .int .i8 t251, .int .i8 t252, .int .i8 t253, .int .i8 t254, .int .i8 t255], .bool t256, .int .i64 t257]), (10, 25, .agg #[.int .i8 t250, .int .i8 t251, .int .i8 t252, .int .i8 t253, .int .i8 t254, .int .i8 t255]), (11, 26, .bool t256), (12, 27, .int .i64 t257), (13, 9, m13_), (15, 10, .bool t256), (16, 11, .int .i64 t257)] ∧ (w'.heap[gb236]? = some (.cells (a0).A 26 (0, 0))) ∧ (w'.heap[gb237]? = some (.cells (a1).A 28 (0, 0))) ∧ (w'.heap[gb238]? = some (.cells #[.int .i8 a2_0, .int .i8 a2_1, .int .i8 a2_2, .int .i8 a2_3, .int .i8 a2_4, .int .i8 a2_5] 38 (0, 0))) ∧ (w'.heap[gb239]? = some (.cells #[.int .i8 a3_0, .int .i8 a3_1] 47 (0, 0))) ∧ (Below w.heap.size w w') ∧ (b 13 = true → b 14 = false → w'.heap[gb258]? = some (.cells #[.int .i8 0, .int .i8 0, .int .i8 0, .int .i8 0, .int .i8 0, .int .i8 0] 43 (0, 0))) ∧ (b 13 = true → w.heap.size ≤ gb258) ∧ (b 13 = true → w.heap.size ≤ gb258) ∧ (b 13 = true → gb236 ≠ gb258) ∧ (b 13 = true → gb258 ≠ gb236) ∧ (b 13 = true → gb237 ≠ gb258) ∧ (b 13 = true → gb258 ≠ gb237) ∧ (b 13 = true → gb238 ≠ gb258) ∧ (b 13 = true → gb258 ≠ gb238) ∧ (b 13 = true → gb239 ≠ gb258) ∧ (b 13 = true → gb258 ≠ gb239) ∧ (b 14 = true → w'.heap[gb258]? = some (.cells #[.int .i8 t250, .int .i8 t251, .int .i8 t252, .int .i8 t253, .int .i8 t254, .int .i8 t255] 43 (0, 0))) ∧ (b 13 = true → (m13_ : Value) = .pointer (some ⟨gb258, 0, none⟩))) HT_.out HW_.out (by kernel_rfl) (by kernel_rfl) ?_ ?_ ?_
        · exact ⟨0, .bool false, by simp only [putSel, Bool.false_eq_true, if_false], BK236.out, BK237.out, BK238.out, BK239.out, HB.out, fun h_ => absurd h_ (by decide), fun h_ => absurd h_ (by decide), fun h_ => absurd h_ (by decide), fun h_ => absurd h_ (by decide), fun h_ => absurd h_ (by decide), fun h_ => absurd h_ (by decide), fun h_ => absurd h_ (by decide), fun h_ => absurd h_ (by decide), fun h_ => absurd h_ (by decide), fun h_ => absurd h_ (by decide), fun h_ => absurd h_ (by decide), fun h_ => absurd h_ (by decide), fun h_ => absurd h_ (by decide)⟩
        · skip
          clear BK236 BK237 BK238 BK239 HB
          refine steps_cons ?_ ?_
          · rintro b a w' ⟨gb258, m13_, ha, Q_BK236, Q_BK237, Q_BK238, Q_BK239, Q_HB, Q_BK258, Q_GW258, Q_GE258, Q_NB236_258, Q_NB258_236, Q_NB237_258, Q_NB258_237, Q_NB238_258, Q_NB258_238, Q_NB239_258, Q_NB258_239, Q_BK258_e14, Q_X13_⟩ hb_ hon hoff
            refine ⟨_, rfl, fun K hK => ?_⟩
            have e4 : a.tmps[4]? = some (.pointer (some ⟨gb236, 0, none⟩)) := by rw [ha]; exact (putSel_off rfl).trans rfl
            replace ha := Aside0.mk ha
            have BK236 := Aside0.mk Q_BK236
            have BK237 := Aside0.mk Q_BK237
            have BK238 := Aside0.mk Q_BK238
            have BK239 := Aside0.mk Q_BK239
            have HB := Aside0.mk Q_HB
            have hc0_ : w'.heap[gb236]? = some (.cells (a0).A 26 (0, 0)) := BK236.out
            refine value_ (w1 := w') (v := VO26 a0) (by rfl) rfl ?_ ?_
            · first | (refine Eq.trans (AR.exec_load_blk rfl (by first | (go_simp; done) | (go_simp; rfl)) hc0_ Try.underlying26 rfl (szO26 _)) ?_; rfl) | (go_simp; (try simp only [i64_w]); try rfl)
            refine hK.out _ _ ⟨gb258, m13_, (by rw [ha.out]; exact putSel_upk 0 hb_ rfl rfl rfl), Q_BK236, Q_BK237, Q_BK238, Q_BK239, Q_HB, Q_BK258, Q_GW258, Q_GE258, Q_NB236_258, Q_NB258_236, Q_NB237_258, Q_NB258_237, Q_NB238_258, Q_NB258_238, Q_NB239_258, Q_NB258_239, fun h0_ => absurd ((hoff 14 (by kernel_rfl)).symm.trans h0_) (by decide), Q_X13_⟩
          refine steps_cons ?_ ?_
          · rintro b a w' ⟨gb258, m13_, ha, Q_BK236, Q_BK237, Q_BK238, Q_BK239, Q_HB, Q_BK258, Q_GW258, Q_GE258, Q_NB236_258, Q_NB258_236, Q_NB237_258, Q_NB258_237, Q_NB238_258, Q_NB258_238, Q_NB239_258, Q_NB258_239, Q_BK258_e14, Q_X13_⟩ hb_ hon hoff
            refine ⟨_, rfl, fun K hK => ?_⟩
            have e16 : a.tmps[16]? = some (VO26 a0) := by rw [ha]; exact putSel_on (e := (0, 16, VO26 a0)) 0 rfl rfl (hon 0 (by kernel_rfl)) rfl
            replace ha := Aside0.mk ha
            have BK236 := Aside0.mk Q_BK236
            have BK237 := Aside0.mk Q_BK237
            have BK238 := Aside0.mk Q_BK238
            have BK239 := Aside0.mk Q_BK239
            have HB := Aside0.mk Q_HB
            refine goes_ Try.func8 (by kernel_rfl) rfl #[VO26 a0] (by rfl) rfl rfl (by first | (simp only [List.map_toArray, List.map_cons, List.map_nil, Act.eval, Array.getD_eq_getD_getElem?, Option.getD_some, e16]; done) | (simp only [List.map_toArray, List.map_cons, List.map_nil, Act.eval, Array.getD_eq_getD_getElem?, Option.getD_some, e16]; rfl)) ?_
            with_reducible refine (laws_toBay.calls a0 t240 _ A5.out).mono ?_
            rintro e w24 ⟨rfl, hb⟩
            refine ⟨_, rfl, ?_⟩
            have n0_ := Aside0.mk (blk_below (g := gb236) (o := .cells (a0).A 26 (0, 0)) (by (with_reducible repeat (first | refine blk_drewN ?_ _ | refine blk_drew ?_ | refine blk_alloc ?_ _)); exact BK236.out) hb)
            have n1_ := Aside0.mk (blk_below (g := gb237) (o := .cells (a1).A 28 (0, 0)) (by (with_reducible repeat (first | refine blk_drewN ?_ _ | refine blk_drew ?_ | refine blk_alloc ?_ _)); exact BK237.out) hb)
            have n2_ := Aside0.mk (blk_below (g := gb238) (o := .cells #[.int .i8 a2_0, .int .i8 a2_1, .int .i8 a2_2, .int .i8 a2_3, .int .i8 a2_4, .int .i8 a2_5] 38 (0, 0)) (by (with_reducible repeat (first | refine blk_drewN ?_ _ | refine blk_drew ?_ | refine blk_alloc ?_ _)); exact BK238.out) hb)
            have n3_ := Aside0.mk (blk_below (g := gb239) (o := .cells #[.int .i8 a3_0, .int .i8 a3_1] 47 (0, 0)) (by (with_reducible repeat (first | refine blk_drewN ?_ _ | refine blk_drew ?_ | refine blk_alloc ?_ _)); exact BK239.out) hb)
            have n4_ := Aside0.mk (below_step (by repeat (first | (with_reducible first | exact HB.out | apply below_alloc | apply pw_below_drewN | apply below_drew1 | refine below_set ?_ GE236.out | refine below_set ?_ GE237.out | refine below_set ?_ GE238.out | refine below_set ?_ GE239.out) | exact HB.out)) hb)
            have z_BK258 := fun (h0_ : b 13 = true) (h1_ : b 14 = false) => (show w24.heap[gb258]? = some (.cells #[.int .i8 0, .int .i8 0, .int .i8 0, .int .i8 0, .int .i8 0, .int .i8 0] 43 (0, 0)) from by first | exact (blk_below (g := gb258) (o := .cells #[.int .i8 0, .int .i8 0, .int .i8 0, .int .i8 0, .int .i8 0, .int .i8 0] 43 (0, 0)) (by (with_reducible repeat (first | refine blk_drewN ?_ _ | refine blk_drew ?_ | refine blk_alloc ?_ _)); exact (Q_BK258 h0_ h1_)) hb))
            clear BK236
            clear BK237
            clear BK238
            clear BK239
            clear HB
            have BK236 := n0_
            have BK237 := n1_
            have BK238 := n2_
            have BK239 := n3_
            have HB := n4_
            clear n0_ n1_ n2_ n3_ n4_
            (try clear hb)
            (try clear hb2)
            (try clear hk)
            (try clear hi)
            refine hK.out _ _ ⟨gb258, m13_, (by rw [ha.out]; exact putSel_upk 1 hb_ rfl rfl rfl), (by (with_reducible repeat (first | refine blk_drewN ?_ _ | refine blk_drew ?_ | refine blk_alloc ?_ _)); exact BK236.out), (by (with_reducible repeat (first | refine blk_drewN ?_ _ | refine blk_drew ?_ | refine blk_alloc ?_ _)); exact BK237.out), (by (with_reducible repeat (first | refine blk_drewN ?_ _ | refine blk_drew ?_ | refine blk_alloc ?_ _)); exact BK238.out), (by (with_reducible repeat (first | refine blk_drewN ?_ _ | refine blk_drew ?_ | refine blk_alloc ?_ _)); exact BK239.out), (by repeat (first | (with_reducible first | exact HB.out | apply below_alloc | apply pw_below_drewN | apply below_drew1 | refine below_set ?_ GE236.out | refine below_set ?_ GE237.out | refine below_set ?_ GE238.out | refine below_set ?_ GE239.out) | exact HB.out)), z_BK258, Q_GW258, Q_GE258, Q_NB236_258, Q_NB258_236, Q_NB237_258, Q_NB258_237, Q_NB238_258, Q_NB258_238, Q_NB239_258, Q_NB258_239, fun h0_ => absurd ((hoff 14 (by kernel_rfl)).symm.trans h0_) (by decide), Q_X13_⟩
          refine steps_cons ?_ ?_
          · rintro b a w' ⟨gb258, m13_, ha, Q_BK236, Q_BK237, Q_BK238, Q_BK239, Q_HB, Q_BK258, Q_GW258, Q_GE258, Q_NB236_258, Q_NB258_236, Q_NB237_258, Q_NB258_237, Q_NB238_258, Q_NB258_238, Q_NB239_258, Q_NB258_239, Q_BK258_e14, Q_X13_⟩ hb_ hon hoff
            refine ⟨_, rfl, fun K hK => ?_⟩
            have e5 : a.tmps[5]? = some (.pointer (some ⟨gb237, 0, none⟩)) := by rw [ha]; exact (putSel_off rfl).trans rfl
            replace ha := Aside0.mk ha
            have BK236 := Aside0.mk Q_BK236
            have BK237 := Aside0.mk Q_BK237
            have BK238 := Aside0.mk Q_BK238
            have BK239 := Aside0.mk Q_BK239
            have HB := Aside0.mk Q_HB
            have hc0_ : w'.heap[gb237]? = some (.cells (a1).A 28 (0, 0)) := BK237.out
            refine value_ (w1 := w') (v := VO28 a1) (by rfl) rfl ?_ ?_
            · first | (refine Eq.trans (AR.exec_load_blk rfl (by first | (go_simp; done) | (go_simp; rfl)) hc0_ Try.underlying28 rfl (szO28 _)) ?_; rfl) | (go_simp; (try simp only [i64_w]); try rfl)
            refine hK.out _ _ ⟨gb258, m13_, (by rw [ha.out]; exact putSel_upk 2 hb_ rfl rfl rfl), Q_BK236, Q_BK237, Q_BK238, Q_BK239, Q_HB, Q_BK258, Q_GW258, Q_GE258, Q_NB236_258, Q_NB258_236, Q_NB237_258, Q_NB258_237, Q_NB238_258, Q_NB258_238, Q_NB239_258, Q_NB258_239, fun h0_ => absurd ((hoff 14 (by kernel_rfl)).symm.trans h0_) (by decide), Q_X13_⟩
          refine steps_cons ?_ ?_
          · rintro b a w' ⟨gb258, m13_, ha, Q_BK236, Q_BK237, Q_BK238, Q_BK239, Q_HB, Q_BK258, Q_GW258, Q_GE258, Q_NB236_258, Q_NB258_236, Q_NB237_258, Q_NB258_237, Q_NB238_258, Q_NB258_238, Q_NB239_258, Q_NB258_239, Q_BK258_e14, Q_X13_⟩ hb_ hon hoff
            refine ⟨_, rfl, fun K hK => ?_⟩
            have e18 : a.tmps[18]? = some (VO28 a1) := by rw [ha]; exact putSel_on (e := (2, 18, VO28 a1)) 2 rfl rfl (hon 2 (by kernel_rfl)) rfl
            replace ha := Aside0.mk ha
            have BK236 := Aside0.mk Q_BK236
            have BK237 := Aside0.mk Q_BK237
            have BK238 := Aside0.mk Q_BK238
            have BK239 := Aside0.mk Q_BK239
            have HB := Aside0.mk Q_HB
            refine goes_ Try.func9 (by kernel_rfl) rfl #[VO28 a1] (by rfl) rfl rfl (by first | (simp only [List.map_toArray, List.map_cons, List.map_nil, Act.eval, Array.getD_eq_getD_getElem?, Option.getD_some, e18]; done) | (simp only [List.map_toArray, List.map_cons, List.map_nil, Act.eval, Array.getD_eq_getD_getElem?, Option.getD_some, e18]; rfl)) ?_
            with_reducible refine (laws_toGrounds.calls a1 t241 _ A6.out).mono ?_
            rintro e w26 ⟨rfl, hb⟩
            refine ⟨_, rfl, ?_⟩
            have n0_ := Aside0.mk (blk_below (g := gb236) (o := .cells (a0).A 26 (0, 0)) (by (with_reducible repeat (first | refine blk_drewN ?_ _ | refine blk_drew ?_ | refine blk_alloc ?_ _)); exact BK236.out) hb)
            have n1_ := Aside0.mk (blk_below (g := gb237) (o := .cells (a1).A 28 (0, 0)) (by (with_reducible repeat (first | refine blk_drewN ?_ _ | refine blk_drew ?_ | refine blk_alloc ?_ _)); exact BK237.out) hb)
            have n2_ := Aside0.mk (blk_below (g := gb238) (o := .cells #[.int .i8 a2_0, .int .i8 a2_1, .int .i8 a2_2, .int .i8 a2_3, .int .i8 a2_4, .int .i8 a2_5] 38 (0, 0)) (by (with_reducible repeat (first | refine blk_drewN ?_ _ | refine blk_drew ?_ | refine blk_alloc ?_ _)); exact BK238.out) hb)
            have n3_ := Aside0.mk (blk_below (g := gb239) (o := .cells #[.int .i8 a3_0, .int .i8 a3_1] 47 (0, 0)) (by (with_reducible repeat (first | refine blk_drewN ?_ _ | refine blk_drew ?_ | refine blk_alloc ?_ _)); exact BK239.out) hb)
            have n4_ := Aside0.mk (below_step (by repeat (first | (with_reducible first | exact HB.out | apply below_alloc | apply pw_below_drewN | apply below_drew1 | refine below_set ?_ GE236.out | refine below_set ?_ GE237.out | refine below_set ?_ GE238.out | refine below_set ?_ GE239.out) | exact HB.out)) hb)
            have z_BK258 := fun (h0_ : b 13 = true) (h1_ : b 14 = false) => (show w26.heap[gb258]? = some (.cells #[.int .i8 0, .int .i8 0, .int .i8 0, .int .i8 0, .int .i8 0, .int .i8 0] 43 (0, 0)) from by first | exact (blk_below (g := gb258) (o := .cells #[.int .i8 0, .int .i8 0, .int .i8 0, .int .i8 0, .int .i8 0, .int .i8 0] 43 (0, 0)) (by (with_reducible repeat (first | refine blk_drewN ?_ _ | refine blk_drew ?_ | refine blk_alloc ?_ _)); exact (Q_BK258 h0_ h1_)) hb))
            clear BK236
            clear BK237
            clear BK238
            clear BK239
            clear HB
            have BK236 := n0_
            have BK237 := n1_
            have BK238 := n2_
            have BK239 := n3_
            have HB := n4_
            clear n0_ n1_ n2_ n3_ n4_
            (try clear hb)
            (try clear hb2)
            (try clear hk)
            (try clear hi)
            refine hK.out _ _ ⟨gb258, m13_, (by rw [ha.out]; exact putSel_upk 3 hb_ rfl rfl rfl), (by (with_reducible repeat (first | refine blk_drewN ?_ _ | refine blk_drew ?_ | refine blk_alloc ?_ _)); exact BK236.out), (by (with_reducible repeat (first | refine blk_drewN ?_ _ | refine blk_drew ?_ | refine blk_alloc ?_ _)); exact BK237.out), (by (with_reducible repeat (first | refine blk_drewN ?_ _ | refine blk_drew ?_ | refine blk_alloc ?_ _)); exact BK238.out), (by (with_reducible repeat (first | refine blk_drewN ?_ _ | refine blk_drew ?_ | refine blk_alloc ?_ _)); exact BK239.out), (by repeat (first | (with_reducible first | exact HB.out | apply below_alloc | apply pw_below_drewN | apply below_drew1 | refine below_set ?_ GE236.out | refine below_set ?_ GE237.out | refine below_set ?_ GE238.out | refine below_set ?_ GE239.out) | exact HB.out)), z_BK258, Q_GW258, Q_GE258, Q_NB236_258, Q_NB258_236, Q_NB237_258, Q_NB258_237, Q_NB238_258, Q_NB258_238, Q_NB239_258, Q_NB258_239, fun h0_ => absurd ((hoff 14 (by kernel_rfl)).symm.trans h0_) (by decide), Q_X13_⟩
          refine steps_cons ?_ ?_
          · rintro b a w' ⟨gb258, m13_, ha, Q_BK236, Q_BK237, Q_BK238, Q_BK239, Q_HB, Q_BK258, Q_GW258, Q_GE258, Q_NB236_258, Q_NB258_236, Q_NB237_258, Q_NB258_237, Q_NB238_258, Q_NB258_238, Q_NB239_258, Q_NB258_239, Q_BK258_e14, Q_X13_⟩ hb_ hon hoff
            refine ⟨_, rfl, fun K hK => ?_⟩
            have e6 : a.tmps[6]? = some (.pointer (some ⟨gb238, 0, none⟩)) := by rw [ha]; exact (putSel_off rfl).trans rfl
            replace ha := Aside0.mk ha
            have BK236 := Aside0.mk Q_BK236
            have BK237 := Aside0.mk Q_BK237
            have BK238 := Aside0.mk Q_BK238
            have BK239 := Aside0.mk Q_BK239
            have HB := Aside0.mk Q_HB
            have hc0_ : w'.cell? ⟨gb238, 0, none⟩ = some (.int .i8 a2_0) := (blk_cell BK238.out 0).trans rfl
            have hc1_ : w'.cell? ⟨gb238, 1, none⟩ = some (.int .i8 a2_1) := (blk_cell BK238.out 1).trans rfl
            have hc2_ : w'.cell? ⟨gb238, 2, none⟩ = some (.int .i8 a2_2) := (blk_cell BK238.out 2).trans rfl
            have hc3_ : w'.cell? ⟨gb238, 3, none⟩ = some (.int .i8 a2_3) := (blk_cell BK238.out 3).trans rfl
            have hc4_ : w'.cell? ⟨gb238, 4, none⟩ = some (.int .i8 a2_4) := (blk_cell BK238.out 4).trans rfl
            have hc5_ : w'.cell? ⟨gb238, 5, none⟩ = some (.int .i8 a2_5) := (blk_cell BK238.out 5).trans rfl
            refine value_ (w1 := w') (v := .agg #[.int .i8 a2_0, .int .i8 a2_1, .int .i8 a2_2, .int .i8 a2_3, .int .i8 a2_4, .int .i8 a2_5]) (by rfl) rfl ?_ ?_
            · go_simp
              (try simp only [i64_w])
              try rfl
            refine hK.out _ _ ⟨gb258, m13_, (by rw [ha.out]; exact putSel_upk 4 hb_ rfl rfl rfl), Q_BK236, Q_BK237, Q_BK238, Q_BK239, Q_HB, Q_BK258, Q_GW258, Q_GE258, Q_NB236_258, Q_NB258_236, Q_NB237_258, Q_NB258_237, Q_NB238_258, Q_NB258_238, Q_NB239_258, Q_NB258_239, fun h0_ => absurd ((hoff 14 (by kernel_rfl)).symm.trans h0_) (by decide), Q_X13_⟩
          refine steps_cons ?_ ?_
          · rintro b a w' ⟨gb258, m13_, ha, Q_BK236, Q_BK237, Q_BK238, Q_BK239, Q_HB, Q_BK258, Q_GW258, Q_GE258, Q_NB236_258, Q_NB258_236, Q_NB237_258, Q_NB258_237, Q_NB238_258, Q_NB258_238, Q_NB239_258, Q_NB258_239, Q_BK258_e14, Q_X13_⟩ hb_ hon hoff
            refine ⟨_, rfl, fun K hK => ?_⟩
            have e20 : a.tmps[20]? = some (.agg #[.int .i8 a2_0, .int .i8 a2_1, .int .i8 a2_2, .int .i8 a2_3, .int .i8 a2_4, .int .i8 a2_5]) := by rw [ha]; exact putSel_on (e := (4, 20, .agg #[.int .i8 a2_0, .int .i8 a2_1, .int .i8 a2_2, .int .i8 a2_3, .int .i8 a2_4, .int .i8 a2_5])) 4 rfl rfl (hon 4 (by kernel_rfl)) rfl
            replace ha := Aside0.mk ha
            have BK236 := Aside0.mk Q_BK236
            have BK237 := Aside0.mk Q_BK237
            have BK238 := Aside0.mk Q_BK238
            have BK239 := Aside0.mk Q_BK239
            have HB := Aside0.mk Q_HB
            refine goes_ Try.func12 (by kernel_rfl) rfl #[.agg #[.int .i8 a2_0, .int .i8 a2_1, .int .i8 a2_2, .int .i8 a2_3, .int .i8 a2_4, .int .i8 a2_5]] (by rfl) rfl rfl (by first | (simp only [List.map_toArray, List.map_cons, List.map_nil, Act.eval, Array.getD_eq_getD_getElem?, Option.getD_some, e20]; done) | (simp only [List.map_toArray, List.map_cons, List.map_nil, Act.eval, Array.getD_eq_getD_getElem?, Option.getD_some, e20]; rfl)) ?_
            with_reducible refine (laws_toBoat.calls a2_0 a2_1 a2_2 a2_3 a2_4 a2_5 t242 t243 t244 t245 t246 t247 _ A7.out).mono ?_
            rintro e w27 ⟨rfl, hb⟩
            refine ⟨_, rfl, ?_⟩
            have n0_ := Aside0.mk (blk_below (g := gb236) (o := .cells (a0).A 26 (0, 0)) (by (with_reducible repeat (first | refine blk_drewN ?_ _ | refine blk_drew ?_ | refine blk_alloc ?_ _)); exact BK236.out) hb)
            have n1_ := Aside0.mk (blk_below (g := gb237) (o := .cells (a1).A 28 (0, 0)) (by (with_reducible repeat (first | refine blk_drewN ?_ _ | refine blk_drew ?_ | refine blk_alloc ?_ _)); exact BK237.out) hb)
            have n2_ := Aside0.mk (blk_below (g := gb238) (o := .cells #[.int .i8 a2_0, .int .i8 a2_1, .int .i8 a2_2, .int .i8 a2_3, .int .i8 a2_4, .int .i8 a2_5] 38 (0, 0)) (by (with_reducible repeat (first | refine blk_drewN ?_ _ | refine blk_drew ?_ | refine blk_alloc ?_ _)); exact BK238.out) hb)
            have n3_ := Aside0.mk (blk_below (g := gb239) (o := .cells #[.int .i8 a3_0, .int .i8 a3_1] 47 (0, 0)) (by (with_reducible repeat (first | refine blk_drewN ?_ _ | refine blk_drew ?_ | refine blk_alloc ?_ _)); exact BK239.out) hb)
            have n4_ := Aside0.mk (below_step (by repeat (first | (with_reducible first | exact HB.out | apply below_alloc | apply pw_below_drewN | apply below_drew1 | refine below_set ?_ GE236.out | refine below_set ?_ GE237.out | refine below_set ?_ GE238.out | refine below_set ?_ GE239.out) | exact HB.out)) hb)
            have z_BK258 := fun (h0_ : b 13 = true) (h1_ : b 14 = false) => (show w27.heap[gb258]? = some (.cells #[.int .i8 0, .int .i8 0, .int .i8 0, .int .i8 0, .int .i8 0, .int .i8 0] 43 (0, 0)) from by first | exact (blk_below (g := gb258) (o := .cells #[.int .i8 0, .int .i8 0, .int .i8 0, .int .i8 0, .int .i8 0, .int .i8 0] 43 (0, 0)) (by (with_reducible repeat (first | refine blk_drewN ?_ _ | refine blk_drew ?_ | refine blk_alloc ?_ _)); exact (Q_BK258 h0_ h1_)) hb))
            clear BK236
            clear BK237
            clear BK238
            clear BK239
            clear HB
            have BK236 := n0_
            have BK237 := n1_
            have BK238 := n2_
            have BK239 := n3_
            have HB := n4_
            clear n0_ n1_ n2_ n3_ n4_
            (try clear hb)
            (try clear hb2)
            (try clear hk)
            (try clear hi)
            refine hK.out _ _ ⟨gb258, m13_, (by rw [ha.out]; exact putSel_upk 5 hb_ rfl rfl rfl), (by (with_reducible repeat (first | refine blk_drewN ?_ _ | refine blk_drew ?_ | refine blk_alloc ?_ _)); exact BK236.out), (by (with_reducible repeat (first | refine blk_drewN ?_ _ | refine blk_drew ?_ | refine blk_alloc ?_ _)); exact BK237.out), (by (with_reducible repeat (first | refine blk_drewN ?_ _ | refine blk_drew ?_ | refine blk_alloc ?_ _)); exact BK238.out), (by (with_reducible repeat (first | refine blk_drewN ?_ _ | refine blk_drew ?_ | refine blk_alloc ?_ _)); exact BK239.out), (by repeat (first | (with_reducible first | exact HB.out | apply below_alloc | apply pw_below_drewN | apply below_drew1 | refine below_set ?_ GE236.out | refine below_set ?_ GE237.out | refine below_set ?_ GE238.out | refine below_set ?_ GE239.out) | exact HB.out)), z_BK258, Q_GW258, Q_GE258, Q_NB236_258, Q_NB258_236, Q_NB237_258, Q_NB258_237, Q_NB238_258, Q_NB258_238, Q_NB239_258, Q_NB258_239, fun h0_ => absurd ((hoff 14 (by kernel_rfl)).symm.trans h0_) (by decide), Q_X13_⟩
          refine steps_cons ?_ ?_
          · rintro b a w' ⟨gb258, m13_, ha, Q_BK236, Q_BK237, Q_BK238, Q_BK239, Q_HB, Q_BK258, Q_GW258, Q_GE258, Q_NB236_258, Q_NB258_236, Q_NB237_258, Q_NB258_237, Q_NB238_258, Q_NB258_238, Q_NB239_258, Q_NB258_239, Q_BK258_e14, Q_X13_⟩ hb_ hon hoff
            refine ⟨_, rfl, fun K hK => ?_⟩
            have e7 : a.tmps[7]? = some (.pointer (some ⟨gb239, 0, none⟩)) := by rw [ha]; exact (putSel_off rfl).trans rfl
            replace ha := Aside0.mk ha
            have BK236 := Aside0.mk Q_BK236
            have BK237 := Aside0.mk Q_BK237
            have BK238 := Aside0.mk Q_BK238
            have BK239 := Aside0.mk Q_BK239
            have HB := Aside0.mk Q_HB
            have hc0_ : w'.cell? ⟨gb239, 0, none⟩ = some (.int .i8 a3_0) := (blk_cell BK239.out 0).trans rfl
            have hc1_ : w'.cell? ⟨gb239, 1, none⟩ = some (.int .i8 a3_1) := (blk_cell BK239.out 1).trans rfl
            refine value_ (w1 := w') (v := .agg #[.int .i8 a3_0, .int .i8 a3_1]) (by rfl) rfl ?_ ?_
            · go_simp
              (try simp only [i64_w])
              try rfl
            refine hK.out _ _ ⟨gb258, m13_, (by rw [ha.out]; exact putSel_upk 6 hb_ rfl rfl rfl), Q_BK236, Q_BK237, Q_BK238, Q_BK239, Q_HB, Q_BK258, Q_GW258, Q_GE258, Q_NB236_258, Q_NB258_236, Q_NB237_258, Q_NB258_237, Q_NB238_258, Q_NB258_238, Q_NB239_258, Q_NB258_239, fun h0_ => absurd ((hoff 14 (by kernel_rfl)).symm.trans h0_) (by decide), Q_X13_⟩
          refine steps_cons ?_ ?_
          · rintro b a w' ⟨gb258, m13_, ha, Q_BK236, Q_BK237, Q_BK238, Q_BK239, Q_HB, Q_BK258, Q_GW258, Q_GE258, Q_NB236_258, Q_NB258_236, Q_NB237_258, Q_NB258_237, Q_NB238_258, Q_NB258_238, Q_NB239_258, Q_NB258_239, Q_BK258_e14, Q_X13_⟩ hb_ hon hoff
            refine ⟨_, rfl, fun K hK => ?_⟩
            have e22 : a.tmps[22]? = some (.agg #[.int .i8 a3_0, .int .i8 a3_1]) := by rw [ha]; exact putSel_on (e := (6, 22, .agg #[.int .i8 a3_0, .int .i8 a3_1])) 6 rfl rfl (hon 6 (by kernel_rfl)) rfl
            replace ha := Aside0.mk ha
            have BK236 := Aside0.mk Q_BK236
            have BK237 := Aside0.mk Q_BK237
            have BK238 := Aside0.mk Q_BK238
            have BK239 := Aside0.mk Q_BK239
            have HB := Aside0.mk Q_HB
            refine goes_ Try.func15 (by kernel_rfl) rfl #[.agg #[.int .i8 a3_0, .int .i8 a3_1]] (by rfl) rfl rfl (by first | (simp only [List.map_toArray, List.map_cons, List.map_nil, Act.eval, Array.getD_eq_getD_getElem?, Option.getD_some, e22]; done) | (simp only [List.map_toArray, List.map_cons, List.map_nil, Act.eval, Array.getD_eq_getD_getElem?, Option.getD_some, e22]; rfl)) ?_
            with_reducible refine (laws_toWind.calls a3_0 a3_1 t248 t249 _ A8.out).mono ?_
            rintro e w28 ⟨rfl, hb⟩
            refine ⟨_, rfl, ?_⟩
            have n0_ := Aside0.mk (blk_below (g := gb236) (o := .cells (a0).A 26 (0, 0)) (by (with_reducible repeat (first | refine blk_drewN ?_ _ | refine blk_drew ?_ | refine blk_alloc ?_ _)); exact BK236.out) hb)
            have n1_ := Aside0.mk (blk_below (g := gb237) (o := .cells (a1).A 28 (0, 0)) (by (with_reducible repeat (first | refine blk_drewN ?_ _ | refine blk_drew ?_ | refine blk_alloc ?_ _)); exact BK237.out) hb)
            have n2_ := Aside0.mk (blk_below (g := gb238) (o := .cells #[.int .i8 a2_0, .int .i8 a2_1, .int .i8 a2_2, .int .i8 a2_3, .int .i8 a2_4, .int .i8 a2_5] 38 (0, 0)) (by (with_reducible repeat (first | refine blk_drewN ?_ _ | refine blk_drew ?_ | refine blk_alloc ?_ _)); exact BK238.out) hb)
            have n3_ := Aside0.mk (blk_below (g := gb239) (o := .cells #[.int .i8 a3_0, .int .i8 a3_1] 47 (0, 0)) (by (with_reducible repeat (first | refine blk_drewN ?_ _ | refine blk_drew ?_ | refine blk_alloc ?_ _)); exact BK239.out) hb)
            have n4_ := Aside0.mk (below_step (by repeat (first | (with_reducible first | exact HB.out | apply below_alloc | apply pw_below_drewN | apply below_drew1 | refine below_set ?_ GE236.out | refine below_set ?_ GE237.out | refine below_set ?_ GE238.out | refine below_set ?_ GE239.out) | exact HB.out)) hb)
            have z_BK258 := fun (h0_ : b 13 = true) (h1_ : b 14 = false) => (show w28.heap[gb258]? = some (.cells #[.int .i8 0, .int .i8 0, .int .i8 0, .int .i8 0, .int .i8 0, .int .i8 0] 43 (0, 0)) from by first | exact (blk_below (g := gb258) (o := .cells #[.int .i8 0, .int .i8 0, .int .i8 0, .int .i8 0, .int .i8 0, .int .i8 0] 43 (0, 0)) (by (with_reducible repeat (first | refine blk_drewN ?_ _ | refine blk_drew ?_ | refine blk_alloc ?_ _)); exact (Q_BK258 h0_ h1_)) hb))
            clear BK236
            clear BK237
            clear BK238
            clear BK239
            clear HB
            have BK236 := n0_
            have BK237 := n1_
            have BK238 := n2_
            have BK239 := n3_
            have HB := n4_
            clear n0_ n1_ n2_ n3_ n4_
            (try clear hb)
            (try clear hb2)
            (try clear hk)
            (try clear hi)
            refine hK.out _ _ ⟨gb258, m13_, (by rw [ha.out]; exact putSel_upk 7 hb_ rfl rfl rfl), (by (with_reducible repeat (first | refine blk_drewN ?_ _ | refine blk_drew ?_ | refine blk_alloc ?_ _)); exact BK236.out), (by (with_reducible repeat (first | refine blk_drewN ?_ _ | refine blk_drew ?_ | refine blk_alloc ?_ _)); exact BK237.out), (by (with_reducible repeat (first | refine blk_drewN ?_ _ | refine blk_drew ?_ | refine blk_alloc ?_ _)); exact BK238.out), (by (with_reducible repeat (first | refine blk_drewN ?_ _ | refine blk_drew ?_ | refine blk_alloc ?_ _)); exact BK239.out), (by repeat (first | (with_reducible first | exact HB.out | apply below_alloc | apply pw_below_drewN | apply below_drew1 | refine below_set ?_ GE236.out | refine below_set ?_ GE237.out | refine below_set ?_ GE238.out | refine below_set ?_ GE239.out) | exact HB.out)), z_BK258, Q_GW258, Q_GE258, Q_NB236_258, Q_NB258_236, Q_NB237_258, Q_NB258_237, Q_NB238_258, Q_NB258_238, Q_NB239_258, Q_NB258_239, fun h0_ => absurd ((hoff 14 (by kernel_rfl)).symm.trans h0_) (by decide), Q_X13_⟩
          refine steps_cons ?_ ?_
          · rintro b a w' ⟨gb258, m13_, ha, Q_BK236, Q_BK237, Q_BK238, Q_BK239, Q_HB, Q_BK258, Q_GW258, Q_GE258, Q_NB236_258, Q_NB258_236, Q_NB237_258, Q_NB258_237, Q_NB238_258, Q_NB258_238, Q_NB239_258, Q_NB258_239, Q_BK258_e14, Q_X13_⟩ hb_ hon hoff
            refine ⟨_, rfl, fun K hK => ?_⟩
            have e17 : a.tmps[17]? = some (VO30 t240) := by rw [ha]; exact putSel_on (e := (1, 17, VO30 t240)) 1 rfl rfl (hon 1 (by kernel_rfl)) rfl
            have e19 : a.tmps[19]? = some (VO32 t241) := by rw [ha]; exact putSel_on (e := (3, 19, VO32 t241)) 3 rfl rfl (hon 3 (by kernel_rfl)) rfl
            have e21 : a.tmps[21]? = some (.agg #[.int .i8 t242, .int .i8 t243, .int .i8 t244, .int .i8 t245, .int .i8 t246, .int .i8 t247]) := by rw [ha]; exact putSel_on (e := (5, 21, .agg #[.int .i8 t242, .int .i8 t243, .int .i8 t244, .int .i8 t245, .int .i8 t246, .int .i8 t247])) 5 rfl rfl (hon 5 (by kernel_rfl)) rfl
            have e23 : a.tmps[23]? = some (.agg #[.int .i8 t248, .int .i8 t249]) := by rw [ha]; exact putSel_on (e := (7, 23, .agg #[.int .i8 t248, .int .i8 t249])) 7 rfl rfl (hon 7 (by kernel_rfl)) rfl
            replace ha := Aside0.mk ha
            have BK236 := Aside0.mk Q_BK236
            have BK237 := Aside0.mk Q_BK237
            have BK238 := Aside0.mk Q_BK238
            have BK239 := Aside0.mk Q_BK239
            have HB := Aside0.mk Q_HB
            refine goes_ Try.func14 (by kernel_rfl) rfl #[VO30 t240, VO32 t241, .agg #[.int .i8 t242, .int .i8 t243, .int .i8 t244, .int .i8 t245, .int .i8 t246, .int .i8 t247], .agg #[.int .i8 t248, .int .i8 t249]] (by rfl) rfl rfl (by first | (simp only [List.map_toArray, List.map_cons, List.map_nil, Act.eval, Array.getD_eq_getD_getElem?, Option.getD_some, e17, e19, e21, e23]; done) | (simp only [List.map_toArray, List.map_cons, List.map_nil, Act.eval, Array.getD_eq_getD_getElem?, Option.getD_some, e17, e19, e21, e23]; rfl)) ?_
            with_reducible refine (spec_DriftOnce.calls k t240 t241 t242 t243 t244 t245 t246 t247 t248 t249 t250 t251 t252 t253 t254 t255 t256 t257 _ A9.out).mono ?_
            rintro e w29 ⟨rfl, hb⟩
            refine ⟨_, rfl, ?_⟩
            have n0_ := Aside0.mk (blk_below (g := gb236) (o := .cells (a0).A 26 (0, 0)) (by (with_reducible repeat (first | refine blk_drewN ?_ _ | refine blk_drew ?_ | refine blk_alloc ?_ _)); exact BK236.out) hb)
            have n1_ := Aside0.mk (blk_below (g := gb237) (o := .cells (a1).A 28 (0, 0)) (by (with_reducible repeat (first | refine blk_drewN ?_ _ | refine blk_drew ?_ | refine blk_alloc ?_ _)); exact BK237.out) hb)
            have n2_ := Aside0.mk (blk_below (g := gb238) (o := .cells #[.int .i8 a2_0, .int .i8 a2_1, .int .i8 a2_2, .int .i8 a2_3, .int .i8 a2_4, .int .i8 a2_5] 38 (0, 0)) (by (with_reducible repeat (first | refine blk_drewN ?_ _ | refine blk_drew ?_ | refine blk_alloc ?_ _)); exact BK238.out) hb)
            have n3_ := Aside0.mk (blk_below (g := gb239) (o := .cells #[.int .i8 a3_0, .int .i8 a3_1] 47 (0, 0)) (by (with_reducible repeat (first | refine blk_drewN ?_ _ | refine blk_drew ?_ | refine blk_alloc ?_ _)); exact BK239.out) hb)
            have n4_ := Aside0.mk (below_step (by repeat (first | (with_reducible first | exact HB.out | apply below_alloc | apply pw_below_drewN | apply below_drew1 | refine below_set ?_ GE236.out | refine below_set ?_ GE237.out | refine below_set ?_ GE238.out | refine below_set ?_ GE239.out) | exact HB.out)) hb)
            have z_BK258 := fun (h0_ : b 13 = true) (h1_ : b 14 = false) => (show w29.heap[gb258]? = some (.cells #[.int .i8 0, .int .i8 0, .int .i8 0, .int .i8 0, .int .i8 0, .int .i8 0] 43 (0, 0)) from by first | exact (blk_below (g := gb258) (o := .cells #[.int .i8 0, .int .i8 0, .int .i8 0, .int .i8 0, .int .i8 0, .int .i8 0] 43 (0, 0)) (by (with_reducible repeat (first | refine blk_drewN ?_ _ | refine blk_drew ?_ | refine blk_alloc ?_ _)); exact (Q_BK258 h0_ h1_)) hb))
            clear BK236
            clear BK237
            clear BK238
            clear BK239
            clear HB
            have BK236 := n0_
            have BK237 := n1_
            have BK238 := n2_
            have BK239 := n3_
            have HB := n4_
            clear n0_ n1_ n2_ n3_ n4_
            (try clear hb)
            (try clear hb2)
            (try clear hk)
            (try clear hi)
            refine hK.out _ _ ⟨gb258, m13_, (by rw [ha.out]; exact putSel_upk 8 hb_ rfl rfl rfl), (by (with_reducible repeat (first | refine blk_drewN ?_ _ | refine blk_drew ?_ | refine blk_alloc ?_ _)); exact BK236.out), (by (with_reducible repeat (first | refine blk_drewN ?_ _ | refine blk_drew ?_ | refine blk_alloc ?_ _)); exact BK237.out), (by (with_reducible repeat (first | refine blk_drewN ?_ _ | refine blk_drew ?_ | refine blk_alloc ?_ _)); exact BK238.out), (by (with_reducible repeat (first | refine blk_drewN ?_ _ | refine blk_drew ?_ | refine blk_alloc ?_ _)); exact BK239.out), (by repeat (first | (with_reducible first | exact HB.out | apply below_alloc | apply pw_below_drewN | apply below_drew1 | refine below_set ?_ GE236.out | refine below_set ?_ GE237.out | refine below_set ?_ GE238.out | refine below_set ?_ GE239.out) | exact HB.out)), z_BK258, Q_GW258, Q_GE258, Q_NB236_258, Q_NB258_236, Q_NB237_258, Q_NB258_237, Q_NB238_258, Q_NB258_238, Q_NB239_258, Q_NB258_239, fun h0_ => absurd ((hoff 14 (by kernel_rfl)).symm.trans h0_) (by decide), Q_X13_⟩
          refine steps_cons ?_ ?_
          · rintro b a w' ⟨gb258, m13_, ha, Q_BK236, Q_BK237, Q_BK238, Q_BK239, Q_HB, Q_BK258, Q_GW258, Q_GE258, Q_NB236_258, Q_NB258_236, Q_NB237_258, Q_NB258_237, Q_NB238_258, Q_NB258_238, Q_NB239_258, Q_NB258_239, Q_BK258_e14, Q_X13_⟩ hb_ hon hoff
            refine ⟨_, rfl, fun K hK => ?_⟩
            have e24 : a.tmps[24]? = some (.tuple #[.agg #[.int .i8 t250, .int .i8 t251, .int .i8 t252, .int .i8 t253, .int .i8 t254, .int .i8 t255], .bool t256, .int .i64 t257]) := by rw [ha]; exact putSel_on (e := (8, 24, .tuple #[.agg #[.int .i8 t250, .int .i8 t251, .int .i8 t252, .int .i8 t253, .int .i8 t254, .int .i8 t255], .bool t256, .int .i64 t257])) 8 rfl rfl (hon 8 (by kernel_rfl)) rfl
            replace ha := Aside0.mk ha
            have BK236 := Aside0.mk Q_BK236
            have BK237 := Aside0.mk Q_BK237
            have BK238 := Aside0.mk Q_BK238
            have BK239 := Aside0.mk Q_BK239
            have HB := Aside0.mk Q_HB
            refine value_ (w1 := w') (v := .tuple #[.agg #[.int .i8 t250, .int .i8 t251, .int .i8 t252, .int .i8 t253, .int .i8 t254, .int .i8 t255], .bool t256, .int .i64 t257]) (by rfl) rfl ?_ ?_
            · go_simp
              (try simp only [i64_w])
              try rfl
            refine hK.out _ _ ⟨gb258, m13_, (by rw [ha.out]; exact putSel_upk 9 hb_ rfl rfl rfl), Q_BK236, Q_BK237, Q_BK238, Q_BK239, Q_HB, Q_BK258, Q_GW258, Q_GE258, Q_NB236_258, Q_NB258_236, Q_NB237_258, Q_NB258_237, Q_NB238_258, Q_NB258_238, Q_NB239_258, Q_NB258_239, fun h0_ => absurd ((hoff 14 (by kernel_rfl)).symm.trans h0_) (by decide), Q_X13_⟩
          refine steps_cons ?_ ?_
          · rintro b a w' ⟨gb258, m13_, ha, Q_BK236, Q_BK237, Q_BK238, Q_BK239, Q_HB, Q_BK258, Q_GW258, Q_GE258, Q_NB236_258, Q_NB258_236, Q_NB237_258, Q_NB258_237, Q_NB238_258, Q_NB258_238, Q_NB239_258, Q_NB258_239, Q_BK258_e14, Q_X13_⟩ hb_ hon hoff
            refine ⟨_, rfl, fun K hK => ?_⟩
            have e15 : a.tmps[15]? = some (.tuple #[.agg #[.int .i8 t250, .int .i8 t251, .int .i8 t252, .int .i8 t253, .int .i8 t254, .int .i8 t255], .bool t256, .int .i64 t257]) := by rw [ha]; exact putSel_on (e := (9, 15, .tuple #[.agg #[.int .i8 t250, .int .i8 t251, .int .i8 t252, .int .i8 t253, .int .i8 t254, .int .i8 t255], .bool t256, .int .i64 t257])) 9 rfl rfl (hon 9 (by kernel_rfl)) rfl
            replace ha := Aside0.mk ha
            have BK236 := Aside0.mk Q_BK236
            have BK237 := Aside0.mk Q_BK237
            have BK238 := Aside0.mk Q_BK238
            have BK239 := Aside0.mk Q_BK239
            have HB := Aside0.mk Q_HB
            refine value_ (w1 := w') (v := .agg #[.int .i8 t250, .int .i8 t251, .int .i8 t252, .int .i8 t253, .int .i8 t254, .int .i8 t255]) (by rfl) rfl ?_ ?_
            · go_simp
              (try simp only [i64_w])
              try rfl
            refine hK.out _ _ ⟨gb258, m13_, (by rw [ha.out]; exact putSel_upk 10 hb_ rfl rfl rfl), Q_BK236, Q_BK237, Q_BK238, Q_BK239, Q_HB, Q_BK258, Q_GW258, Q_GE258, Q_NB236_258, Q_NB258_236, Q_NB237_258, Q_NB258_237, Q_NB238_258, Q_NB258_238, Q_NB239_258, Q_NB258_239, fun h0_ => absurd ((hoff 14 (by kernel_rfl)).symm.trans h0_) (by decide), Q_X13_⟩
          refine steps_cons ?_ ?_
          · rintro b a w' ⟨gb258, m13_, ha, Q_BK236, Q_BK237, Q_BK238, Q_BK239, Q_HB, Q_BK258, Q_GW258, Q_GE258, Q_NB236_258, Q_NB258_236, Q_NB237_258, Q_NB258_237, Q_NB238_258, Q_NB258_238, Q_NB239_258, Q_NB258_239, Q_BK258_e14, Q_X13_⟩ hb_ hon hoff
            refine ⟨_, rfl, fun K hK => ?_⟩
            have e15 : a.tmps[15]? = some (.tuple #[.agg #[.int .i8 t250, .int .i8 t251, .int .i8 t252, .int .i8 t253, .int .i8 t254, .int .i8 t255], .bool t256, .int .i64 t257]) := by rw [ha]; exact putSel_on (e := (9, 15, .tuple #[.agg #[.int .i8 t250, .int .i8 t251, .int .i8 t252, .int .i8 t253, .int .i8 t254, .int .i8 t255], .bool t256, .int .i64 t257])) 9 rfl rfl (hon 9 (by kernel_rfl)) rfl
            replace ha := Aside0.mk ha
            have BK236 := Aside0.mk Q_BK236
            have BK237 := Aside0.mk Q_BK237
            have BK238 := Aside0.mk Q_BK238
            have BK239 := Aside0.mk Q_BK239
            have HB := Aside0.mk Q_HB
            refine value_ (w1 := w') (v := .bool t256) (by rfl) rfl ?_ ?_
            · go_simp
              (try simp only [i64_w])
              try rfl
            refine hK.out _ _ ⟨gb258, m13_, (by rw [ha.out]; exact putSel_upk 11 hb_ rfl rfl rfl), Q_BK236, Q_BK237, Q_BK238, Q_BK239, Q_HB, Q_BK258, Q_GW258, Q_GE258, Q_NB236_258, Q_NB258_236, Q_NB237_258, Q_NB258_237, Q_NB238_258, Q_NB258_238, Q_NB239_258, Q_NB258_239, Q_BK258_e14, Q_X13_⟩
          refine steps_cons ?_ ?_
          · rintro b a w' ⟨gb258, m13_, ha, Q_BK236, Q_BK237, Q_BK238, Q_BK239, Q_HB, Q_BK258, Q_GW258, Q_GE258, Q_NB236_258, Q_NB258_236, Q_NB237_258, Q_NB258_237, Q_NB238_258, Q_NB258_238, Q_NB239_258, Q_NB258_239, Q_BK258_e14, Q_X13_⟩ hb_ hon hoff
            refine ⟨_, rfl, fun K hK => ?_⟩
            have e15 : a.tmps[15]? = some (.tuple #[.agg #[.int .i8 t250, .int .i8 t251, .int .i8 t252, .int .i8 t253, .int .i8 t254, .int .i8 t255], .bool t256, .int .i64 t257]) := by rw [ha]; exact putSel_on (e := (9, 15, .tuple #[.agg #[.int .i8 t250, .int .i8 t251, .int .i8 t252, .int .i8 t253, .int .i8 t254, .int .i8 t255], .bool t256, .int .i64 t257])) 9 rfl rfl (hon 9 (by kernel_rfl)) rfl
            replace ha := Aside0.mk ha
            have BK236 := Aside0.mk Q_BK236
            have BK237 := Aside0.mk Q_BK237
            have BK238 := Aside0.mk Q_BK238
            have BK239 := Aside0.mk Q_BK239
            have HB := Aside0.mk Q_HB
            refine value_ (w1 := w') (v := .int .i64 t257) (by rfl) rfl ?_ ?_
            · go_simp
              (try simp only [i64_w])
              try rfl
            refine hK.out _ _ ⟨gb258, m13_, (by rw [ha.out]; exact putSel_upk 12 hb_ rfl rfl rfl), Q_BK236, Q_BK237, Q_BK238, Q_BK239, Q_HB, Q_BK258, Q_GW258, Q_GE258, Q_NB236_258, Q_NB258_236, Q_NB237_258, Q_NB258_237, Q_NB238_258, Q_NB258_238, Q_NB239_258, Q_NB258_239, Q_BK258_e14, Q_X13_⟩
          refine steps_cons ?_ ?_
          · rintro b a w' ⟨gb258, m13_, ha, Q_BK236, Q_BK237, Q_BK238, Q_BK239, Q_HB, Q_BK258, Q_GW258, Q_GE258, Q_NB236_258, Q_NB258_236, Q_NB237_258, Q_NB258_237, Q_NB238_258, Q_NB258_238, Q_NB239_258, Q_NB258_239, Q_BK258_e14, Q_X13_⟩ hb_ hon hoff
            refine ⟨_, rfl, fun K hK => ?_⟩
            replace ha := Aside0.mk ha
            have BK236 := Aside0.mk Q_BK236
            have BK237 := Aside0.mk Q_BK237
            have BK238 := Aside0.mk Q_BK238
            have BK239 := Aside0.mk Q_BK239
            have HB := Aside0.mk Q_HB
            refine box_step ?hg (N := 9) ?hd (cs := #[.int .i8 0, .int .i8 0, .int .i8 0, .int .i8 0, .int .i8 0, .int .i8 0]) (t := 43) ?hr ?_; (case hd => rfl); (case hg => rfl); (case hr => first | (go_simp; done) | (go_simp; rfl))
            intro gb258 hg w24 hbox hb
            have n0_ := Aside0.mk (blk_below (g := gb236) (o := .cells (a0).A 26 (0, 0)) (by (with_reducible repeat (first | refine blk_drewN ?_ _ | refine blk_drew ?_ | refine blk_alloc ?_ _)); exact BK236.out) hb)
            have n1_ := Aside0.mk (blk_below (g := gb237) (o := .cells (a1).A 28 (0, 0)) (by (with_reducible repeat (first | refine blk_drewN ?_ _ | refine blk_drew ?_ | refine blk_alloc ?_ _)); exact BK237.out) hb)
            have n2_ := Aside0.mk (blk_below (g := gb238) (o := .cells #[.int .i8 a2_0, .int .i8 a2_1, .int .i8 a2_2, .int .i8 a2_3, .int .i8 a2_4, .int .i8 a2_5] 38 (0, 0)) (by (with_reducible repeat (first | refine blk_drewN ?_ _ | refine blk_drew ?_ | refine blk_alloc ?_ _)); exact BK238.out) hb)
            have n3_ := Aside0.mk (blk_below (g := gb239) (o := .cells #[.int .i8 a3_0, .int .i8 a3_1] 47 (0, 0)) (by (with_reducible repeat (first | refine blk_drewN ?_ _ | refine blk_drew ?_ | refine blk_alloc ?_ _)); exact BK239.out) hb)
            have n4_ := Aside0.mk (below_step (by repeat (first | (with_reducible first | exact HB.out | apply below_alloc | apply pw_below_drewN | apply below_drew1 | refine below_set ?_ GE236.out | refine below_set ?_ GE237.out | refine below_set ?_ GE238.out | refine below_set ?_ GE239.out) | exact HB.out)) hb)
            have n5_ := Aside0.mk (hbox)
            have n6_ := Aside0.mk ((by rw [hg]; exact (below_size (by repeat (first | (with_reducible first | exact HB.out | apply below_alloc | apply pw_below_drewN | apply below_drew1 | refine below_set ?_ GE236.out | refine below_set ?_ GE237.out | refine below_set ?_ GE238.out | refine below_set ?_ GE239.out) | exact HB.out))) : w.heap.size ≤ gb258))
            have n7_ := Aside0.mk ((by rw [hg]; exact (below_size (by repeat (first | (with_reducible first | exact HB.out | apply below_alloc | apply pw_below_drewN | apply below_drew1 | refine below_set ?_ GE236.out | refine below_set ?_ GE237.out | refine below_set ?_ GE238.out | refine below_set ?_ GE239.out) | exact HB.out))) : w.heap.size ≤ gb258))
            have n8_ := Aside0.mk ((by rw [hg]; exact Nat.ne_of_lt (blk_lt (g := gb236) (o := .cells (a0).A 26 (0, 0)) (by (with_reducible repeat (first | refine blk_drewN ?_ _ | refine blk_drew ?_ | refine blk_alloc ?_ _)); exact BK236.out)) : gb236 ≠ gb258))
            have n9_ := Aside0.mk ((by rw [hg]; exact Nat.ne_of_gt (blk_lt (g := gb236) (o := .cells (a0).A 26 (0, 0)) (by (with_reducible repeat (first | refine blk_drewN ?_ _ | refine blk_drew ?_ | refine blk_alloc ?_ _)); exact BK236.out)) : gb258 ≠ gb236))
            have n10_ := Aside0.mk ((by rw [hg]; exact Nat.ne_of_lt (blk_lt (g := gb237) (o := .cells (a1).A 28 (0, 0)) (by (with_reducible repeat (first | refine blk_drewN ?_ _ | refine blk_drew ?_ | refine blk_alloc ?_ _)); exact BK237.out)) : gb237 ≠ gb258))
            have n11_ := Aside0.mk ((by rw [hg]; exact Nat.ne_of_gt (blk_lt (g := gb237) (o := .cells (a1).A 28 (0, 0)) (by (with_reducible repeat (first | refine blk_drewN ?_ _ | refine blk_drew ?_ | refine blk_alloc ?_ _)); exact BK237.out)) : gb258 ≠ gb237))
            have n12_ := Aside0.mk ((by rw [hg]; exact Nat.ne_of_lt (blk_lt (g := gb238) (o := .cells #[.int .i8 a2_0, .int .i8 a2_1, .int .i8 a2_2, .int .i8 a2_3, .int .i8 a2_4, .int .i8 a2_5] 38 (0, 0)) (by (with_reducible repeat (first | refine blk_drewN ?_ _ | refine blk_drew ?_ | refine blk_alloc ?_ _)); exact BK238.out)) : gb238 ≠ gb258))
            have n13_ := Aside0.mk ((by rw [hg]; exact Nat.ne_of_gt (blk_lt (g := gb238) (o := .cells #[.int .i8 a2_0, .int .i8 a2_1, .int .i8 a2_2, .int .i8 a2_3, .int .i8 a2_4, .int .i8 a2_5] 38 (0, 0)) (by (with_reducible repeat (first | refine blk_drewN ?_ _ | refine blk_drew ?_ | refine blk_alloc ?_ _)); exact BK238.out)) : gb258 ≠ gb238))
            have n14_ := Aside0.mk ((by rw [hg]; exact Nat.ne_of_lt (blk_lt (g := gb239) (o := .cells #[.int .i8 a3_0, .int .i8 a3_1] 47 (0, 0)) (by (with_reducible repeat (first | refine blk_drewN ?_ _ | refine blk_drew ?_ | refine blk_alloc ?_ _)); exact BK239.out)) : gb239 ≠ gb258))
            have n15_ := Aside0.mk ((by rw [hg]; exact Nat.ne_of_gt (blk_lt (g := gb239) (o := .cells #[.int .i8 a3_0, .int .i8 a3_1] 47 (0, 0)) (by (with_reducible repeat (first | refine blk_drewN ?_ _ | refine blk_drew ?_ | refine blk_alloc ?_ _)); exact BK239.out)) : gb258 ≠ gb239))
            clear BK236
            clear BK237
            clear BK238
            clear BK239
            clear HB
            have BK236 := n0_
            have BK237 := n1_
            have BK238 := n2_
            have BK239 := n3_
            have HB := n4_
            have BK258 := n5_
            have GW258 := n6_
            have GE258 := n7_
            have NB236_258 := n8_
            have NB258_236 := n9_
            have NB237_258 := n10_
            have NB258_237 := n11_
            have NB238_258 := n12_
            have NB258_238 := n13_
            have NB239_258 := n14_
            have NB258_239 := n15_
            clear n0_ n1_ n2_ n3_ n4_ n5_ n6_ n7_ n8_ n9_ n10_ n11_ n12_ n13_ n14_ n15_
            clear hb hbox hg
            refine hK.out _ _ ⟨gb258, (.pointer (some ⟨gb258, 0, none⟩)), (by rw [ha.out]; exact putSel_upk 13 hb_ rfl rfl rfl), (by (with_reducible repeat (first | refine blk_drewN ?_ _ | refine blk_drew ?_ | refine blk_alloc ?_ _)); exact BK236.out), (by (with_reducible repeat (first | refine blk_drewN ?_ _ | refine blk_drew ?_ | refine blk_alloc ?_ _)); exact BK237.out), (by (with_reducible repeat (first | refine blk_drewN ?_ _ | refine blk_drew ?_ | refine blk_alloc ?_ _)); exact BK238.out), (by (with_reducible repeat (first | refine blk_drewN ?_ _ | refine blk_drew ?_ | refine blk_alloc ?_ _)); exact BK239.out), (by repeat (first | (with_reducible first | exact HB.out | apply below_alloc | apply pw_below_drewN | apply below_drew1 | refine below_set ?_ GE236.out | refine below_set ?_ GE237.out | refine below_set ?_ GE238.out | refine below_set ?_ GE239.out | refine below_set ?_ GE258.out) | exact HB.out)), fun _ _ => (by (with_reducible repeat (first | refine blk_drewN ?_ _ | refine blk_drew ?_ | refine blk_alloc ?_ _)); exact BK258.out), fun _ => GW258.out, fun _ => GE258.out, fun _ => NB236_258.out, fun _ => NB258_236.out, fun _ => NB237_258.out, fun _ => NB258_237.out, fun _ => NB238_258.out, fun _ => NB258_238.out, fun _ => NB239_258.out, fun _ => NB258_239.out, fun h0_ => absurd ((hoff 14 (by kernel_rfl)).symm.trans h0_) (by decide), fun _ => rfl⟩
          refine steps_cons ?_ ?_
          · rintro b a w' ⟨gb258, m13_, ha, Q_BK236, Q_BK237, Q_BK238, Q_BK239, Q_HB, Q_BK258, Q_GW258, Q_GE258, Q_NB236_258, Q_NB258_236, Q_NB237_258, Q_NB258_237, Q_NB238_258, Q_NB258_238, Q_NB239_258, Q_NB258_239, Q_BK258_e14, Q_X13_⟩ hb_ hon hoff
            refine ⟨_, rfl, fun K hK => ?_⟩
            have e9 : a.tmps[9]? = some (m13_) := by rw [ha]; exact putSel_on (e := (13, 9, m13_)) 13 rfl rfl (hon 13 (by kernel_rfl)) rfl
            rw [Q_X13_ (hon 13 (by kernel_rfl))] at e9
            have e25 : a.tmps[25]? = some (.agg #[.int .i8 t250, .int .i8 t251, .int .i8 t252, .int .i8 t253, .int .i8 t254, .int .i8 t255]) := by rw [ha]; exact putSel_on (e := (10, 25, .agg #[.int .i8 t250, .int .i8 t251, .int .i8 t252, .int .i8 t253, .int .i8 t254, .int .i8 t255])) 10 rfl rfl (hon 10 (by kernel_rfl)) rfl
            replace ha := Aside0.mk ha
            have BK236 := Aside0.mk Q_BK236
            have BK237 := Aside0.mk Q_BK237
            have BK238 := Aside0.mk Q_BK238
            have BK239 := Aside0.mk Q_BK239
            have HB := Aside0.mk Q_HB
            have BK258 := Aside0.mk (Q_BK258 (hon 13 (by kernel_rfl)) hb_)
            have GW258 := Aside0.mk (Q_GW258 (hon 13 (by kernel_rfl)))
            have GE258 := Aside0.mk (Q_GE258 (hon 13 (by kernel_rfl)))
            have NB236_258 := Aside0.mk (Q_NB236_258 (hon 13 (by kernel_rfl)))
            have NB258_236 := Aside0.mk (Q_NB258_236 (hon 13 (by kernel_rfl)))
            have NB237_258 := Aside0.mk (Q_NB237_258 (hon 13 (by kernel_rfl)))
            have NB258_237 := Aside0.mk (Q_NB258_237 (hon 13 (by kernel_rfl)))
            have NB238_258 := Aside0.mk (Q_NB238_258 (hon 13 (by kernel_rfl)))
            have NB258_238 := Aside0.mk (Q_NB258_238 (hon 13 (by kernel_rfl)))
            have NB239_258 := Aside0.mk (Q_NB239_258 (hon 13 (by kernel_rfl)))
            have NB258_239 := Aside0.mk (Q_NB258_239 (hon 13 (by kernel_rfl)))
            have hs31 : w'.cell? ⟨gb258, 0, none⟩ = some (.int .i8 0) := (blk_cell BK258.out 0).trans rfl
            have hfs31 := blk_frozen BK258.out 0
            have hns31_0 := NB236_258.out
            have hns31_1 := NB237_258.out
            have hns31_2 := NB238_258.out
            have hns31_3 := NB239_258.out
            have hms31_0 := NB258_236.out
            have hms31_1 := NB258_237.out
            have hms31_2 := NB258_238.out
            have hms31_3 := NB258_239.out
            have hs32 : w'.cell? ⟨gb258, 1, none⟩ = some (.int .i8 0) := (blk_cell BK258.out 1).trans rfl
            have hfs32 := blk_frozen BK258.out 1
            have hns32_0 := NB236_258.out
            have hns32_1 := NB237_258.out
            have hns32_2 := NB238_258.out
            have hns32_3 := NB239_258.out
            have hms32_0 := NB258_236.out
            have hms32_1 := NB258_237.out
            have hms32_2 := NB258_238.out
            have hms32_3 := NB258_239.out
            have hs33 : w'.cell? ⟨gb258, 2, none⟩ = some (.int .i8 0) := (blk_cell BK258.out 2).trans rfl
            have hfs33 := blk_frozen BK258.out 2
            have hns33_0 := NB236_258.out
            have hns33_1 := NB237_258.out
            have hns33_2 := NB238_258.out
            have hns33_3 := NB239_258.out
            have hms33_0 := NB258_236.out
            have hms33_1 := NB258_237.out
            have hms33_2 := NB258_238.out
            have hms33_3 := NB258_239.out
            have hs34 : w'.cell? ⟨gb258, 3, none⟩ = some (.int .i8 0) := (blk_cell BK258.out 3).trans rfl
            have hfs34 := blk_frozen BK258.out 3
            have hns34_0 := NB236_258.out
            have hns34_1 := NB237_258.out
            have hns34_2 := NB238_258.out
            have hns34_3 := NB239_258.out
            have hms34_0 := NB258_236.out
            have hms34_1 := NB258_237.out
            have hms34_2 := NB258_238.out
            have hms34_3 := NB258_239.out
            have hs35 : w'.cell? ⟨gb258, 4, none⟩ = some (.int .i8 0) := (blk_cell BK258.out 4).trans rfl
            have hfs35 := blk_frozen BK258.out 4
            have hns35_0 := NB236_258.out
            have hns35_1 := NB237_258.out
            have hns35_2 := NB238_258.out
            have hns35_3 := NB239_258.out
            have hms35_0 := NB258_236.out
            have hms35_1 := NB258_237.out
            have hms35_2 := NB258_238.out
            have hms35_3 := NB258_239.out
            have hs36 : w'.cell? ⟨gb258, 5, none⟩ = some (.int .i8 0) := (blk_cell BK258.out 5).trans rfl
            have hfs36 := blk_frozen BK258.out 5
            have hns36_0 := NB236_258.out
            have hns36_1 := NB237_258.out
            have hns36_2 := NB238_258.out
            have hns36_3 := NB239_258.out
            have hms36_0 := NB258_236.out
            have hms36_1 := NB258_237.out
            have hms36_2 := NB258_238.out
            have hms36_3 := NB258_239.out
            refine skip_ (w1 := ?_) (by rfl) rfl ?_ ?_
            rotate_left
            · go_simp
              rfl
            refine hK.out _ _ ⟨gb258, m13_, (by rw [ha.out]; exact putSel_none (v := undef) rfl), (by (with_reducible repeat (first | refine blk_drewN ?_ _ | refine blk_drew ?_ | refine blk_alloc ?_ _)); refine blk_far ?_ NB236_258.out _; (with_reducible repeat (first | refine blk_drewN ?_ _ | refine blk_drew ?_ | refine blk_alloc ?_ _)); refine blk_far ?_ NB236_258.out _; (with_reducible repeat (first | refine blk_drewN ?_ _ | refine blk_drew ?_ | refine blk_alloc ?_ _)); refine blk_far ?_ NB236_258.out _; (with_reducible repeat (first | refine blk_drewN ?_ _ | refine blk_drew ?_ | refine blk_alloc ?_ _)); refine blk_far ?_ NB236_258.out _; (with_reducible repeat (first | refine blk_drewN ?_ _ | refine blk_drew ?_ | refine blk_alloc ?_ _)); refine blk_far ?_ NB236_258.out _; (with_reducible repeat (first | refine blk_drewN ?_ _ | refine blk_drew ?_ | refine blk_alloc ?_ _)); refine blk_far ?_ NB236_258.out _; (with_reducible repeat (first | refine blk_drewN ?_ _ | refine blk_drew ?_ | refine blk_alloc ?_ _)); exact BK236.out), (by (with_reducible repeat (first | refine blk_drewN ?_ _ | refine blk_drew ?_ | refine blk_alloc ?_ _)); refine blk_far ?_ NB237_258.out _; (with_reducible repeat (first | refine blk_drewN ?_ _ | refine blk_drew ?_ | refine blk_alloc ?_ _)); refine blk_far ?_ NB237_258.out _; (with_reducible repeat (first | refine blk_drewN ?_ _ | refine blk_drew ?_ | refine blk_alloc ?_ _)); refine blk_far ?_ NB237_258.out _; (with_reducible repeat (first | refine blk_drewN ?_ _ | refine blk_drew ?_ | refine blk_alloc ?_ _)); refine blk_far ?_ NB237_258.out _; (with_reducible repeat (first | refine blk_drewN ?_ _ | refine blk_drew ?_ | refine blk_alloc ?_ _)); refine blk_far ?_ NB237_258.out _; (with_reducible repeat (first | refine blk_drewN ?_ _ | refine blk_drew ?_ | refine blk_alloc ?_ _)); refine blk_far ?_ NB237_258.out _; (with_reducible repeat (first | refine blk_drewN ?_ _ | refine blk_drew ?_ | refine blk_alloc ?_ _)); exact BK237.out), (by (with_reducible repeat (first | refine blk_drewN ?_ _ | refine blk_drew ?_ | refine blk_alloc ?_ _)); refine blk_far ?_ NB238_258.out _; (with_reducible repeat (first | refine blk_drewN ?_ _ | refine blk_drew ?_ | refine blk_alloc ?_ _)); refine blk_far ?_ NB238_258.out _; (with_reducible repeat (first | refine blk_drewN ?_ _ | refine blk_drew ?_ | refine blk_alloc ?_ _)); refine blk_far ?_ NB238_258.out _; (with_reducible repeat (first | refine blk_drewN ?_ _ | refine blk_drew ?_ | refine blk_alloc ?_ _)); refine blk_far ?_ NB238_258.out _; (with_reducible repeat (first | refine blk_drewN ?_ _ | refine blk_drew ?_ | refine blk_alloc ?_ _)); refine blk_far ?_ NB238_258.out _; (with_reducible repeat (first | refine blk_drewN ?_ _ | refine blk_drew ?_ | refine blk_alloc ?_ _)); refine blk_far ?_ NB238_258.out _; (with_reducible repeat (first | refine blk_drewN ?_ _ | refine blk_drew ?_ | refine blk_alloc ?_ _)); exact BK238.out), (by (with_reducible repeat (first | refine blk_drewN ?_ _ | refine blk_drew ?_ | refine blk_alloc ?_ _)); refine blk_far ?_ NB239_258.out _; (with_reducible repeat (first | refine blk_drewN ?_ _ | refine blk_drew ?_ | refine blk_alloc ?_ _)); refine blk_far ?_ NB239_258.out _; (with_reducible repeat (first | refine blk_drewN ?_ _ | refine blk_drew ?_ | refine blk_alloc ?_ _)); refine blk_far ?_ NB239_258.out _; (with_reducible repeat (first | refine blk_drewN ?_ _ | refine blk_drew ?_ | refine blk_alloc ?_ _)); refine blk_far ?_ NB239_258.out _; (with_reducible repeat (first | refine blk_drewN ?_ _ | refine blk_drew ?_ | refine blk_alloc ?_ _)); refine blk_far ?_ NB239_258.out _; (with_reducible repeat (first | refine blk_drewN ?_ _ | refine blk_drew ?_ | refine blk_alloc ?_ _)); refine blk_far ?_ NB239_258.out _; (with_reducible repeat (first | refine blk_drewN ?_ _ | refine blk_drew ?_ | refine blk_alloc ?_ _)); exact BK239.out), (by repeat (first | (with_reducible first | exact HB.out | apply below_alloc | apply pw_below_drewN | apply below_drew1 | refine below_set ?_ GE236.out | refine below_set ?_ GE237.out | refine below_set ?_ GE238.out | refine below_set ?_ GE239.out | refine below_set ?_ GE258.out) | exact HB.out)), fun _ h1_ => absurd ((up_self b 14).symm.trans h1_) (by decide), fun _ => GW258.out, fun _ => GE258.out, fun _ => NB236_258.out, fun _ => NB258_236.out, fun _ => NB237_258.out, fun _ => NB258_237.out, fun _ => NB238_258.out, fun _ => NB258_238.out, fun _ => NB239_258.out, fun _ => NB258_239.out, fun _ => (by (with_reducible repeat (first | refine blk_drewN ?_ _ | refine blk_drew ?_ | refine blk_alloc ?_ _)); refine blk_put (cs := #[.int .i8 t250, .int .i8 t251, .int .i8 t252, .int .i8 t253, .int .i8 t254, .int .i8 0]) ?_ 5 _ rfl; (with_reducible repeat (first | refine blk_drewN ?_ _ | refine blk_drew ?_ | refine blk_alloc ?_ _)); refine blk_put (cs := #[.int .i8 t250, .int .i8 t251, .int .i8 t252, .int .i8 t253, .int .i8 0, .int .i8 0]) ?_ 4 _ rfl; (with_reducible repeat (first | refine blk_drewN ?_ _ | refine blk_drew ?_ | refine blk_alloc ?_ _)); refine blk_put (cs := #[.int .i8 t250, .int .i8 t251, .int .i8 t252, .int .i8 0, .int .i8 0, .int .i8 0]) ?_ 3 _ rfl; (with_reducible repeat (first | refine blk_drewN ?_ _ | refine blk_drew ?_ | refine blk_alloc ?_ _)); refine blk_put (cs := #[.int .i8 t250, .int .i8 t251, .int .i8 0, .int .i8 0, .int .i8 0, .int .i8 0]) ?_ 2 _ rfl; (with_reducible repeat (first | refine blk_drewN ?_ _ | refine blk_drew ?_ | refine blk_alloc ?_ _)); refine blk_put (cs := #[.int .i8 t250, .int .i8 0, .int .i8 0, .int .i8 0, .int .i8 0, .int .i8 0]) ?_ 1 _ rfl; (with_reducible repeat (first | refine blk_drewN ?_ _ | refine blk_drew ?_ | refine blk_alloc ?_ _)); refine blk_put (cs := #[.int .i8 0, .int .i8 0, .int .i8 0, .int .i8 0, .int .i8 0, .int .i8 0]) ?_ 0 _ rfl; (with_reducible repeat (first | refine blk_drewN ?_ _ | refine blk_drew ?_ | refine blk_alloc ?_ _)); exact BK258.out), Q_X13_⟩
          refine steps_cons ?_ ?_
          · rintro b a w' ⟨gb258, m13_, ha, Q_BK236, Q_BK237, Q_BK238, Q_BK239, Q_HB, Q_BK258, Q_GW258, Q_GE258, Q_NB236_258, Q_NB258_236, Q_NB237_258, Q_NB258_237, Q_NB238_258, Q_NB258_238, Q_NB239_258, Q_NB258_239, Q_BK258_e14, Q_X13_⟩ hb_ hon hoff
            refine ⟨_, rfl, fun K hK => ?_⟩
            have e26 : a.tmps[26]? = some (.bool t256) := by rw [ha]; exact putSel_on (e := (11, 26, .bool t256)) 11 rfl rfl (hon 11 (by kernel_rfl)) rfl
            replace ha := Aside0.mk ha
            have BK236 := Aside0.mk Q_BK236
            have BK237 := Aside0.mk Q_BK237
            have BK238 := Aside0.mk Q_BK238
            have BK239 := Aside0.mk Q_BK239
            have HB := Aside0.mk Q_HB
            have GW258 := Aside0.mk (Q_GW258 (hon 13 (by kernel_rfl)))
            have GE258 := Aside0.mk (Q_GE258 (hon 13 (by kernel_rfl)))
            have NB236_258 := Aside0.mk (Q_NB236_258 (hon 13 (by kernel_rfl)))
            have NB258_236 := Aside0.mk (Q_NB258_236 (hon 13 (by kernel_rfl)))
            have NB237_258 := Aside0.mk (Q_NB237_258 (hon 13 (by kernel_rfl)))
            have NB258_237 := Aside0.mk (Q_NB258_237 (hon 13 (by kernel_rfl)))
            have NB238_258 := Aside0.mk (Q_NB238_258 (hon 13 (by kernel_rfl)))
            have NB258_238 := Aside0.mk (Q_NB258_238 (hon 13 (by kernel_rfl)))
            have NB239_258 := Aside0.mk (Q_NB239_258 (hon 13 (by kernel_rfl)))
            have NB258_239 := Aside0.mk (Q_NB258_239 (hon 13 (by kernel_rfl)))
            have BK258 := Aside0.mk (Q_BK258_e14 (hon 14 (by kernel_rfl)))
            refine value_ (w1 := w') (v := .bool t256) (by rfl) rfl ?_ ?_
            · go_simp
              (try simp only [i64_w])
              try rfl
            refine hK.out _ _ ⟨gb258, m13_, (by rw [ha.out]; exact putSel_upk 14 hb_ rfl rfl rfl), Q_BK236, Q_BK237, Q_BK238, Q_BK239, Q_HB, fun _ h1_ => absurd ((hon 14 (by kernel_rfl)).symm.trans h1_) (by decide), Q_GW258, Q_GE258, Q_NB236_258, Q_NB258_236, Q_NB237_258, Q_NB258_237, Q_NB238_258, Q_NB258_238, Q_NB239_258, Q_NB258_239, Q_BK258_e14, Q_X13_⟩
          refine steps_cons ?_ ?_
          · rintro b a w' ⟨gb258, m13_, ha, Q_BK236, Q_BK237, Q_BK238, Q_BK239, Q_HB, Q_BK258, Q_GW258, Q_GE258, Q_NB236_258, Q_NB258_236, Q_NB237_258, Q_NB258_237, Q_NB238_258, Q_NB258_238, Q_NB239_258, Q_NB258_239, Q_BK258_e14, Q_X13_⟩ hb_ hon hoff
            refine ⟨_, rfl, fun K hK => ?_⟩
            have e27 : a.tmps[27]? = some (.int .i64 t257) := by rw [ha]; exact putSel_on (e := (12, 27, .int .i64 t257)) 12 rfl rfl (hon 12 (by kernel_rfl)) rfl
            replace ha := Aside0.mk ha
            have BK236 := Aside0.mk Q_BK236
            have BK237 := Aside0.mk Q_BK237
            have BK238 := Aside0.mk Q_BK238
            have BK239 := Aside0.mk Q_BK239
            have HB := Aside0.mk Q_HB
            have GW258 := Aside0.mk (Q_GW258 (hon 13 (by kernel_rfl)))
            have GE258 := Aside0.mk (Q_GE258 (hon 13 (by kernel_rfl)))
            have NB236_258 := Aside0.mk (Q_NB236_258 (hon 13 (by kernel_rfl)))
            have NB258_236 := Aside0.mk (Q_NB258_236 (hon 13 (by kernel_rfl)))
            have NB237_258 := Aside0.mk (Q_NB237_258 (hon 13 (by kernel_rfl)))
            have NB258_237 := Aside0.mk (Q_NB258_237 (hon 13 (by kernel_rfl)))
            have NB238_258 := Aside0.mk (Q_NB238_258 (hon 13 (by kernel_rfl)))
            have NB258_238 := Aside0.mk (Q_NB258_238 (hon 13 (by kernel_rfl)))
            have NB239_258 := Aside0.mk (Q_NB239_258 (hon 13 (by kernel_rfl)))
            have NB258_239 := Aside0.mk (Q_NB258_239 (hon 13 (by kernel_rfl)))
            have BK258 := Aside0.mk (Q_BK258_e14 (hon 14 (by kernel_rfl)))
            refine value_ (w1 := w') (v := .int .i64 t257) (by rfl) rfl ?_ ?_
            · go_simp
              (try simp only [i64_w])
              try rfl
            refine hK.out _ _ ⟨gb258, m13_, (by rw [ha.out]; exact putSel_upk 15 hb_ rfl rfl rfl), Q_BK236, Q_BK237, Q_BK238, Q_BK239, Q_HB, fun _ h1_ => absurd ((hon 14 (by kernel_rfl)).symm.trans h1_) (by decide), Q_GW258, Q_GE258, Q_NB236_258, Q_NB258_236, Q_NB237_258, Q_NB258_237, Q_NB238_258, Q_NB258_238, Q_NB239_258, Q_NB258_239, Q_BK258_e14, Q_X13_⟩
          exact steps_nil
        rintro b a w36 hall ⟨gb258, m13_, ha, Q_BK236, Q_BK237, Q_BK238, Q_BK239, Q_HB, Q_BK258, Q_GW258, Q_GE258, Q_NB236_258, Q_NB258_236, Q_NB237_258, Q_NB258_237, Q_NB238_258, Q_NB258_238, Q_NB239_258, Q_NB258_239, Q_BK258_e14, Q_X13_⟩
        clear BK236 BK237 BK238 BK239 HB
        have hb0_ := hall 0 (by kernel_rfl)
        have hb1_ := hall 1 (by kernel_rfl)
        have hb2_ := hall 2 (by kernel_rfl)
        have hb3_ := hall 3 (by kernel_rfl)
        have hb4_ := hall 4 (by kernel_rfl)
        have hb5_ := hall 5 (by kernel_rfl)
        have hb6_ := hall 6 (by kernel_rfl)
        have hb7_ := hall 7 (by kernel_rfl)
        have hb8_ := hall 8 (by kernel_rfl)
        have hb9_ := hall 9 (by kernel_rfl)
        have hb10_ := hall 10 (by kernel_rfl)
        have hb11_ := hall 11 (by kernel_rfl)
        have hb12_ := hall 12 (by kernel_rfl)
        have hb13_ := hall 13 (by kernel_rfl)
        have hb14_ := hall 14 (by kernel_rfl)
        have hb15_ := hall 15 (by kernel_rfl)
        have hb16_ := hall 16 (by kernel_rfl)
        subst ha
        obtain rfl := Q_X13_ hb13_
        simp only [putSel, hb0_, hb1_, hb2_, hb3_, hb4_, hb5_, hb6_, hb7_, hb8_, hb9_, hb10_, hb11_, hb12_, hb13_, hb14_, hb15_, hb16_, if_true, Act.put, List.setIfInBounds_toArray, List.set_cons_zero, List.set_cons_succ]
        have BK236 := Aside0.mk Q_BK236
        clear Q_BK236
        have BK237 := Aside0.mk Q_BK237
        clear Q_BK237
        have BK238 := Aside0.mk Q_BK238
        clear Q_BK238
        have BK239 := Aside0.mk Q_BK239
        clear Q_BK239
        have HB := Aside0.mk Q_HB
        clear Q_HB
        clear Q_BK258
        have GW258 := Aside0.mk (Q_GW258 hb13_)
        clear Q_GW258
        have GE258 := Aside0.mk (Q_GE258 hb13_)
        clear Q_GE258
        have NB236_258 := Aside0.mk (Q_NB236_258 hb13_)
        clear Q_NB236_258
        have NB258_236 := Aside0.mk (Q_NB258_236 hb13_)
        clear Q_NB258_236
        have NB237_258 := Aside0.mk (Q_NB237_258 hb13_)
        clear Q_NB237_258
        have NB258_237 := Aside0.mk (Q_NB258_237 hb13_)
        clear Q_NB258_237
        have NB238_258 := Aside0.mk (Q_NB238_258 hb13_)
        clear Q_NB238_258
        have NB258_238 := Aside0.mk (Q_NB258_238 hb13_)
        clear Q_NB258_238
        have NB239_258 := Aside0.mk (Q_NB239_258 hb13_)
        clear Q_NB239_258
        have NB258_239 := Aside0.mk (Q_NB258_239 hb13_)
        clear Q_NB258_239
        have BK258 := Aside0.mk (Q_BK258_e14 hb14_)
        clear Q_BK258_e14
        clear hall hb0_ hb1_ hb2_ hb3_ hb4_ hb5_ hb6_ hb7_ hb8_ hb9_ hb10_ hb11_ hb12_ hb13_ hb14_ hb15_ hb16_
        try go_wp2
        have n0_ := Aside0.mk (blk_drew BK236.out)
        have n1_ := Aside0.mk (blk_drew BK237.out)
        have n2_ := Aside0.mk (blk_drew BK238.out)
        have n3_ := Aside0.mk (blk_drew BK239.out)
        have n4_ := Aside0.mk (blk_drew BK258.out)
        have n5_ := Aside0.mk (below_drew1 HB.out)
        clear BK236
        clear BK237
        clear BK238
        clear BK239
        clear BK258
        clear HB
        have BK236 := n0_
        have BK237 := n1_
        have BK238 := n2_
        have BK239 := n3_
        have BK258 := n4_
        have HB := n5_
        clear n0_ n1_ n2_ n3_ n4_ n5_
        refine start_ (n := 17) (S := fun w' => True) (ds := []) #[false, false, false, false, false, false, false, false, false, false, false, false, false, false, false, false, false] (by kernel_rfl) rfl rfl trivial (fun hHeld => ?_); refine with_tabW laws_FnExactDriftOnce.tab2 laws_FnExactDriftOnce.bits2 (fun HT_ HW_ => ?_)
        generalize w36.drew = w37 at BK236 BK237 BK238 BK239 BK258 HB hHeld ⊢
        refine inv_at [0, 1, 2, 3, 4, 5, 6, 7, 8, 9, 10, 11, 12, 13, 14, 15, 16] (fun a0_ b a w' => ∃ (gb277 : Nat) (m13_ : Value), a = putSel a0_ b [(0, 29, VO26 a0), (1, 30, VO30 t259), (2, 31, VO28 a1), (3, 32, VO32 t260), (4, 33, .agg #[.int .i8 a2_0, .int .i8 a2_1, .int .i8 a2_2, .int .i8 a2_3, .int .i8 a2_4, .int .i8 a2_5]), (5, 34, .agg #[.int .i8 t261, .int .i8 t262, .int .i8 t263, .int .i8 t264, .int .i8 t265, .int .i8 t266]), (6, 35, .agg #[.int .i8 a3_0, .int .i8 a3_1]), (7, 36, .agg #[.int .i8 t267, .int .i8 t268]), (8, 37, .tuple #[.agg #[.int .i8 t269, .int .i8 t270, .int .i8 t271, .int .i8 t272, .int .i8 t273, .int .i8 t274], .bool t275, .int .i64 t276]), (9, 28, .tuple #[.agg #[.int .i8 t269, .int .i8 t270, .int .i8 t271, .int .i8 t272, .int .i8 t273, .int .i8 t274], .bool t275, .int .i64 t276]), (10, 38, .agg #[.int .i8 t269, .int .i8 t270, .int .i8 t271, .int .i8 t272, .int .i8 t273, .int .i8 t274]), (11, 39, .bool t275), (12, 40, .int .i64 t276), (13, 12, m13_), (15, 13, .bool t275), (16, 14, .int .i64 t276)] ∧ (w'.heap[gb236]? = some (.cells (a0).A 26 (0, 0))) ∧ (w'.heap[gb237]? = some (.cells (a1).A 28 (0, 0))) ∧ (w'.heap[gb238]? = some (.cells #[.int .i8 a2_0, .int .i8 a2_1, .int .i8 a2_2, .int .i8 a2_3, .int .i8 a2_4, .int .i8 a2_5] 38 (0, 0))) ∧ (w'.heap[gb239]? = some (.cells #[.int .i8 a3_0, .int .i8 a3_1] 47 (0, 0))) ∧ (w'.heap[gb258]? = some (.cells #[.int .i8 t250, .int .i8 t251, .int .i8 t252, .int .i8 t253, .int .i8 t254, .int .i8 t255] 43 (0, 0))) ∧ (Below w.heap.size w w') ∧ (b 13 = true → b 14 = false → w'.heap[gb277]? = some (.cells #[.int .i8 0, .int .i8 0, .int .i8 0, .int .i8 0, .int .i8 0, .int .i8 0] 43 (0, 0))) ∧ (b 13 = true → w.heap.size ≤ gb277) ∧ (b 13 = true → w.heap.size ≤ gb277) ∧ (b 13 = true → gb236 ≠ gb277) ∧ (b 13 = true → gb277 ≠ gb236) ∧ (b 13 = true → gb237 ≠ gb277) ∧ (b 13 = true → gb277 ≠ gb237) ∧ (b 13 = true → gb238 ≠ gb277) ∧ (b 13 = true → gb277 ≠ gb238) ∧ (b 13 = true → gb239 ≠ gb277) ∧ (b 13 = true → gb277 ≠ gb239) ∧ (b 13 = true → gb258 ≠ gb277) ∧ (b 13 = true → gb277 ≠ gb258) ∧ (b 14 = true → w'.heap[gb277]? = some (.cells #[.int .i8 t269, .int .i8 t270, .int .i8 t271, .int .i8 t272, .int .i8 t273, .int .i8 t274] 43 (0, 0))) ∧ (b 13 = true → (m13_ : Value) = .pointer (some ⟨gb277, 0, none⟩))) HT_.out HW_.out (by kernel_rfl) (by kernel_rfl) ?_ ?_ ?_
        · exact ⟨0, .bool false, by simp only [putSel, Bool.false_eq_true, if_false], BK236.out, BK237.out, BK238.out, BK239.out, BK258.out, HB.out, fun h_ => absurd h_ (by decide), fun h_ => absurd h_ (by decide), fun h_ => absurd h_ (by decide), fun h_ => absurd h_ (by decide), fun h_ => absurd h_ (by decide), fun h_ => absurd h_ (by decide), fun h_ => absurd h_ (by decide), fun h_ => absurd h_ (by decide), fun h_ => absurd h_ (by decide), fun h_ => absurd h_ (by decide), fun h_ => absurd h_ (by decide), fun h_ => absurd h_ (by decide), fun h_ => absurd h_ (by decide), fun h_ => absurd h_ (by decide), fun h_ => absurd h_ (by decide)⟩
        · skip
          clear BK236 BK237 BK238 BK239 BK258 HB
          refine steps_cons ?_ ?_
          · rintro b a w' ⟨gb277, m13_, ha, Q_BK236, Q_BK237, Q_BK238, Q_BK239, Q_BK258, Q_HB, Q_BK277, Q_GW277, Q_GE277, Q_NB236_277, Q_NB277_236, Q_NB237_277, Q_NB277_237, Q_NB238_277, Q_NB277_238, Q_NB239_277, Q_NB277_239, Q_NB258_277, Q_NB277_258, Q_BK277_e14, Q_X13_⟩ hb_ hon hoff
            refine ⟨_, rfl, fun K hK => ?_⟩
            have e4 : a.tmps[4]? = some (.pointer (some ⟨gb236, 0, none⟩)) := by rw [ha]; exact (putSel_off rfl).trans rfl
            replace ha := Aside0.mk ha
            have BK236 := Aside0.mk Q_BK236
            have BK237 := Aside0.mk Q_BK237
            have BK238 := Aside0.mk Q_BK238
            have BK239 := Aside0.mk Q_BK239
            have BK258 := Aside0.mk Q_BK258
            have HB := Aside0.mk Q_HB
            have hc0_ : w'.heap[gb236]? = some (.cells (a0).A 26 (0, 0)) := BK236.out
            refine value_ (w1 := w') (v := VO26 a0) (by rfl) rfl ?_ ?_
            · first | (refine Eq.trans (AR.exec_load_blk rfl (by first | (go_simp; done) | (go_simp; rfl)) hc0_ Try.underlying26 rfl (szO26 _)) ?_; rfl) | (go_simp; (try simp only [i64_w]); try rfl)
            refine hK.out _ _ ⟨gb277, m13_, (by rw [ha.out]; exact putSel_upk 0 hb_ rfl rfl rfl), Q_BK236, Q_BK237, Q_BK238, Q_BK239, Q_BK258, Q_HB, Q_BK277, Q_GW277, Q_GE277, Q_NB236_277, Q_NB277_236, Q_NB237_277, Q_NB277_237, Q_NB238_277, Q_NB277_238, Q_NB239_277, Q_NB277_239, Q_NB258_277, Q_NB277_258, fun h0_ => absurd ((hoff 14 (by kernel_rfl)).symm.trans h0_) (by decide), Q_X13_⟩
          refine steps_cons ?_ ?_
          · rintro b a w' ⟨gb277, m13_, ha, Q_BK236, Q_BK237, Q_BK238, Q_BK239, Q_BK258, Q_HB, Q_BK277, Q_GW277, Q_GE277, Q_NB236_277, Q_NB277_236, Q_NB237_277, Q_NB277_237, Q_NB238_277, Q_NB277_238, Q_NB239_277, Q_NB277_239, Q_NB258_277, Q_NB277_258, Q_BK277_e14, Q_X13_⟩ hb_ hon hoff
            refine ⟨_, rfl, fun K hK => ?_⟩
            have e29 : a.tmps[29]? = some (VO26 a0) := by rw [ha]; exact putSel_on (e := (0, 29, VO26 a0)) 0 rfl rfl (hon 0 (by kernel_rfl)) rfl
            replace ha := Aside0.mk ha
            have BK236 := Aside0.mk Q_BK236
            have BK237 := Aside0.mk Q_BK237
            have BK238 := Aside0.mk Q_BK238
            have BK239 := Aside0.mk Q_BK239
            have BK258 := Aside0.mk Q_BK258
            have HB := Aside0.mk Q_HB
            refine goes_ Try.func8 (by kernel_rfl) rfl #[VO26 a0] (by rfl) rfl rfl (by first | (simp only [List.map_toArray, List.map_cons, List.map_nil, Act.eval, Array.getD_eq_getD_getElem?, Option.getD_some, e29]; done) | (simp only [List.map_toArray, List.map_cons, List.map_nil, Act.eval, Array.getD_eq_getD_getElem?, Option.getD_some, e29]; rfl)) ?_
            with_reducible refine (laws_toBay.calls a0 t259 _ A10.out).mono ?_
            rintro e w38 ⟨rfl, hb⟩
            refine ⟨_, rfl, ?_⟩
            have n0_ := Aside0.mk (blk_below (g := gb236) (o := .cells (a0).A 26 (0, 0)) (by (with_reducible repeat (first | refine blk_drewN ?_ _ | refine blk_drew ?_ | refine blk_alloc ?_ _)); exact BK236.out) hb)
            have n1_ := Aside0.mk (blk_below (g := gb237) (o := .cells (a1).A 28 (0, 0)) (by (with_reducible repeat (first | refine blk_drewN ?_ _ | refine blk_drew ?_ | refine blk_alloc ?_ _)); exact BK237.out) hb)
            have n2_ := Aside0.mk (blk_below (g := gb238) (o := .cells #[.int .i8 a2_0, .int .i8 a2_1, .int .i8 a2_2, .int .i8 a2_3, .int .i8 a2_4, .int .i8 a2_5] 38 (0, 0)) (by (with_reducible repeat (first | refine blk_drewN ?_ _ | refine blk_drew ?_ | refine blk_alloc ?_ _)); exact BK238.out) hb)
            have n3_ := Aside0.mk (blk_below (g := gb239) (o := .cells #[.int .i8 a3_0, .int .i8 a3_1] 47 (0, 0)) (by (with_reducible repeat (first | refine blk_drewN ?_ _ | refine blk_drew ?_ | refine blk_alloc ?_ _)); exact BK239.out) hb)
            have n4_ := Aside0.mk (blk_below (g := gb258) (o := .cells #[.int .i8 t250, .int .i8 t251, .int .i8 t252, .int .i8 t253, .int .i8 t254, .int .i8 t255] 43 (0, 0)) (by (with_reducible repeat (first | refine blk_drewN ?_ _ | refine blk_drew ?_ | refine blk_alloc ?_ _)); exact BK258.out) hb)
            have n5_ := Aside0.mk (below_step (by repeat (first | (with_reducible first | exact HB.out | apply below_alloc | apply pw_below_drewN | apply below_drew1 | refine below_set ?_ GE236.out | refine below_set ?_ GE237.out | refine below_set ?_ GE238.out | refine below_set ?_ GE239.out | refine below_set ?_ GE258.out) | exact HB.out)) hb)
            have z_BK277 := fun (h0_ : b 13 = true) (h1_ : b 14 = false) => (show w38.heap[gb277]? = some (.cells #[.int .i8 0, .int .i8 0, .int .i8 0, .int .i8 0, .int .i8 0, .int .i8 0] 43 (0, 0)) from by first | exact (blk_below (g := gb277) (o := .cells #[.int .i8 0, .int .i8 0, .int .i8 0, .int .i8 0, .int .i8 0, .int .i8 0] 43 (0, 0)) (by (with_reducible repeat (first | refine blk_drewN ?_ _ | refine blk_drew ?_ | refine blk_alloc ?_ _)); exact (Q_BK277 h0_ h1_)) hb))
            clear BK236
            clear BK237
            clear BK238
            clear BK239
            clear BK258
            clear HB
            have BK236 := n0_
            have BK237 := n1_
            have BK238 := n2_
            have BK239 := n3_
            have BK258 := n4_
            have HB := n5_
            clear n0_ n1_ n2_ n3_ n4_ n5_
            (try clear hb)
            (try clear hb2)
            (try clear hk)
            (try clear hi)
            refine hK.out _ _ ⟨gb277, m13_, (by rw [ha.out]; exact putSel_upk 1 hb_ rfl rfl rfl), (by (with_reducible repeat (first | refine blk_drewN ?_ _ | refine blk_drew ?_ | refine blk_alloc ?_ _)); exact BK236.out), (by (with_reducible repeat (first | refine blk_drewN ?_ _ | refine blk_drew ?_ | refine blk_alloc ?_ _)); exact BK237.out), (by (with_reducible repeat (first | refine blk_drewN ?_ _ | refine blk_drew ?_ | refine blk_alloc ?_ _)); exact BK238.out), (by (with_reducible repeat (first | refine blk_drewN ?_ _ | refine blk_drew ?_ | refine blk_alloc ?_ _)); exact BK239.out), (by (with_reducible repeat (first | refine blk_drewN ?_ _ | refine blk_drew ?_ | refine blk_alloc ?_ _)); exact BK258.out), (by repeat (first | (with_reducible first | exact HB.out | apply below_alloc | apply pw_below_drewN | apply below_drew1 | refine below_set ?_ GE236.out | refine below_set ?_ GE237.out | refine below_set ?_ GE238.out | refine below_set ?_ GE239.out | refine below_set ?_ GE258.out) | exact HB.out)), z_BK277, Q_GW277, Q_GE277, Q_NB236_277, Q_NB277_236, Q_NB237_277, Q_NB277_237, Q_NB238_277, Q_NB277_238, Q_NB239_277, Q_NB277_239, Q_NB258_277, Q_NB277_258, fun h0_ => absurd ((hoff 14 (by kernel_rfl)).symm.trans h0_) (by decide), Q_X13_⟩
          refine steps_cons ?_ ?_
          · rintro b a w' ⟨gb277, m13_, ha, Q_BK236, Q_BK237, Q_BK238, Q_BK239, Q_BK258, Q_HB, Q_BK277, Q_GW277, Q_GE277, Q_NB236_277, Q_NB277_236, Q_NB237_277, Q_NB277_237, Q_NB238_277, Q_NB277_238, Q_NB239_277, Q_NB277_239, Q_NB258_277, Q_NB277_258, Q_BK277_e14, Q_X13_⟩ hb_ hon hoff
            refine ⟨_, rfl, fun K hK => ?_⟩
            have e5 : a.tmps[5]? = some (.pointer (some ⟨gb237, 0, none⟩)) := by rw [ha]; exact (putSel_off rfl).trans rfl
            replace ha := Aside0.mk ha
            have BK236 := Aside0.mk Q_BK236
            have BK237 := Aside0.mk Q_BK237
            have BK238 := Aside0.mk Q_BK238
            have BK239 := Aside0.mk Q_BK239
            have BK258 := Aside0.mk Q_BK258
            have HB := Aside0.mk Q_HB
            have hc0_ : w'.heap[gb237]? = some (.cells (a1).A 28 (0, 0)) := BK237.out
            refine value_ (w1 := w') (v := VO28 a1) (by rfl) rfl ?_ ?_
            · first | (refine Eq.trans (AR.exec_load_blk rfl (by first | (go_simp; done) | (go_simp; rfl)) hc0_ Try.underlying28 rfl (szO28 _)) ?_; rfl) | (go_simp; (try simp only [i64_w]); try rfl)
            refine hK.out _ _ ⟨gb277, m13_, (by rw [ha.out]; exact putSel_upk 2 hb_ rfl rfl rfl), Q_BK236, Q_BK237, Q_BK238, Q_BK239, Q_BK258, Q_HB, Q_BK277, Q_GW277, Q_GE277, Q_NB236_277, Q_NB277_236, Q_NB237_277, Q_NB277_237, Q_NB238_277, Q_NB277_238, Q_NB239_277, Q_NB277_239, Q_NB258_277, Q_NB277_258, fun h0_ => absurd ((hoff 14 (by kernel_rfl)).symm.trans h0_) (by decide), Q_X13_⟩
          refine steps_cons ?_ ?_
          · rintro b a w' ⟨gb277, m13_, ha, Q_BK236, Q_BK237, Q_BK238, Q_BK239, Q_BK258, Q_HB, Q_BK277, Q_GW277, Q_GE277, Q_NB236_277, Q_NB277_236, Q_NB237_277, Q_NB277_237, Q_NB238_277, Q_NB277_238, Q_NB239_277, Q_NB277_239, Q_NB258_277, Q_NB277_258, Q_BK277_e14, Q_X13_⟩ hb_ hon hoff
            refine ⟨_, rfl, fun K hK => ?_⟩
            have e31 : a.tmps[31]? = some (VO28 a1) := by rw [ha]; exact putSel_on (e := (2, 31, VO28 a1)) 2 rfl rfl (hon 2 (by kernel_rfl)) rfl
            replace ha := Aside0.mk ha
            have BK236 := Aside0.mk Q_BK236
            have BK237 := Aside0.mk Q_BK237
            have BK238 := Aside0.mk Q_BK238
            have BK239 := Aside0.mk Q_BK239
            have BK258 := Aside0.mk Q_BK258
            have HB := Aside0.mk Q_HB
            refine goes_ Try.func9 (by kernel_rfl) rfl #[VO28 a1] (by rfl) rfl rfl (by first | (simp only [List.map_toArray, List.map_cons, List.map_nil, Act.eval, Array.getD_eq_getD_getElem?, Option.getD_some, e31]; done) | (simp only [List.map_toArray, List.map_cons, List.map_nil, Act.eval, Array.getD_eq_getD_getElem?, Option.getD_some, e31]; rfl)) ?_
            with_reducible refine (laws_toGrounds.calls a1 t260 _ A11.out).mono ?_
            rintro e w40 ⟨rfl, hb⟩
            refine ⟨_, rfl, ?_⟩
            have n0_ := Aside0.mk (blk_below (g := gb236) (o := .cells (a0).A 26 (0, 0)) (by (with_reducible repeat (first | refine blk_drewN ?_ _ | refine blk_drew ?_ | refine blk_alloc ?_ _)); exact BK236.out) hb)
            have n1_ := Aside0.mk (blk_below (g := gb237) (o := .cells (a1).A 28 (0, 0)) (by (with_reducible repeat (first | refine blk_drewN ?_ _ | refine blk_drew ?_ | refine blk_alloc ?_ _)); exact BK237.out) hb)
            have n2_ := Aside0.mk (blk_below (g := gb238) (o := .cells #[.int .i8 a2_0, .int .i8 a2_1, .int .i8 a2_2, .int .i8 a2_3, .int .i8 a2_4, .int .i8 a2_5] 38 (0, 0)) (by (with_reducible repeat (first | refine blk_drewN ?_ _ | refine blk_drew ?_ | refine blk_alloc ?_ _)); exact BK238.out) hb)
            have n3_ := Aside0.mk (blk_below (g := gb239) (o := .cells #[.int .i8 a3_0, .int .i8 a3_1] 47 (0, 0)) (by (with_reducible repeat (first | refine blk_drewN ?_ _ | refine blk_drew ?_ | refine blk_alloc ?_ _)); exact BK239.out) hb)
            have n4_ := Aside0.mk (blk_below (g := gb258) (o := .cells #[.int .i8 t250, .int .i8 t251, .int .i8 t252, .int .i8 t253, .int .i8 t254, .int .i8 t255] 43 (0, 0)) (by (with_reducible repeat (first | refine blk_drewN ?_ _ | refine blk_drew ?_ | refine blk_alloc ?_ _)); exact BK258.out) hb)
            have n5_ := Aside0.mk (below_step (by repeat (first | (with_reducible first | exact HB.out | apply below_alloc | apply pw_below_drewN | apply below_drew1 | refine below_set ?_ GE236.out | refine below_set ?_ GE237.out | refine below_set ?_ GE238.out | refine below_set ?_ GE239.out | refine below_set ?_ GE258.out) | exact HB.out)) hb)
            have z_BK277 := fun (h0_ : b 13 = true) (h1_ : b 14 = false) => (show w40.heap[gb277]? = some (.cells #[.int .i8 0, .int .i8 0, .int .i8 0, .int .i8 0, .int .i8 0, .int .i8 0] 43 (0, 0)) from by first | exact (blk_below (g := gb277) (o := .cells #[.int .i8 0, .int .i8 0, .int .i8 0, .int .i8 0, .int .i8 0, .int .i8 0] 43 (0, 0)) (by (with_reducible repeat (first | refine blk_drewN ?_ _ | refine blk_drew ?_ | refine blk_alloc ?_ _)); exact (Q_BK277 h0_ h1_)) hb))
            clear BK236
            clear BK237
            clear BK238
            clear BK239
            clear BK258
            clear HB
            have BK236 := n0_
            have BK237 := n1_
            have BK238 := n2_
            have BK239 := n3_
            have BK258 := n4_
            have HB := n5_
            clear n0_ n1_ n2_ n3_ n4_ n5_
            (try clear hb)
            (try clear hb2)
            (try clear hk)
            (try clear hi)
            refine hK.out _ _ ⟨gb277, m13_, (by rw [ha.out]; exact putSel_upk 3 hb_ rfl rfl rfl), (by (with_reducible repeat (first | refine blk_drewN ?_ _ | refine blk_drew ?_ | refine blk_alloc ?_ _)); exact BK236.out), (by (with_reducible repeat (first | refine blk_drewN ?_ _ | refine blk_drew ?_ | refine blk_alloc ?_ _)); exact BK237.out), (by (with_reducible repeat (first | refine blk_drewN ?_ _ | refine blk_drew ?_ | refine blk_alloc ?_ _)); exact BK238.out), (by (with_reducible repeat (first | refine blk_drewN ?_ _ | refine blk_drew ?_ | refine blk_alloc ?_ _)); exact BK239.out), (by (with_reducible repeat (first | refine blk_drewN ?_ _ | refine blk_drew ?_ | refine blk_alloc ?_ _)); exact BK258.out), (by repeat (first | (with_reducible first | exact HB.out | apply below_alloc | apply pw_below_drewN | apply below_drew1 | refine below_set ?_ GE236.out | refine below_set ?_ GE237.out | refine below_set ?_ GE238.out | refine below_set ?_ GE239.out | refine below_set ?_ GE258.out) | exact HB.out)), z_BK277, Q_GW277, Q_GE277, Q_NB236_277, Q_NB277_236, Q_NB237_277, Q_NB277_237, Q_NB238_277, Q_NB277_238, Q_NB239_277, Q_NB277_239, Q_NB258_277, Q_NB277_258, fun h0_ => absurd ((hoff 14 (by kernel_rfl)).symm.trans h0_) (by decide), Q_X13_⟩
          refine steps_cons ?_ ?_
          · rintro b a w' ⟨gb277, m13_, ha, Q_BK236, Q_BK237, Q_BK238, Q_BK239, Q_BK258, Q_HB, Q_BK277, Q_GW277, Q_GE277, Q_NB236_277, Q_NB277_236, Q_NB237_277, Q_NB277_237, Q_NB238_277, Q_NB277_238, Q_NB239_277, Q_NB277_239, Q_NB258_277, Q_NB277_258, Q_BK277_e14, Q_X13_⟩ hb_ hon hoff
            refine ⟨_, rfl, fun K hK => ?_⟩
            have e6 : a.tmps[6]? = some (.pointer (some ⟨gb238, 0, none⟩)) := by rw [ha]; exact (putSel_off rfl).trans rfl
            replace ha := Aside0.mk ha
            have BK236 := Aside0.mk Q_BK236
            have BK237 := Aside0.mk Q_BK237
            have BK238 := Aside0.mk Q_BK238
            have BK239 := Aside0.mk Q_BK239
            have BK258 := Aside0.mk Q_BK258
            have HB := Aside0.mk Q_HB
            have hc0_ : w'.cell? ⟨gb238, 0, none⟩ = some (.int .i8 a2_0) := (blk_cell BK238.out 0).trans rfl
            have hc1_ : w'.cell? ⟨gb238, 1, none⟩ = some (.int .i8 a2_1) := (blk_cell BK238.out 1).trans rfl
            have hc2_ : w'.cell? ⟨gb238, 2, none⟩ = some (.int .i8 a2_2) := (blk_cell BK238.out 2).trans rfl
            have hc3_ : w'.cell? ⟨gb238, 3, none⟩ = some (.int .i8 a2_3) := (blk_cell BK238.out 3).trans rfl
            have hc4_ : w'.cell? ⟨gb238, 4, none⟩ = some (.int .i8 a2_4) := (blk_cell BK238.out 4).trans rfl
            have hc5_ : w'.cell? ⟨gb238, 5, none⟩ = some (.int .i8 a2_5) := (blk_cell BK238.out 5).trans rfl
            refine value_ (w1 := w') (v := .agg #[.int .i8 a2_0, .int .i8 a2_1, .int .i8 a2_2, .int .i8 a2_3, .int .i8 a2_4, .int .i8 a2_5]) (by rfl) rfl ?_ ?_
            · go_simp
              (try simp only [i64_w])
              try rfl
            refine hK.out _ _ ⟨gb277, m13_, (by rw [ha.out]; exact putSel_upk 4 hb_ rfl rfl rfl), Q_BK236, Q_BK237, Q_BK238, Q_BK239, Q_BK258, Q_HB, Q_BK277, Q_GW277, Q_GE277, Q_NB236_277, Q_NB277_236, Q_NB237_277, Q_NB277_237, Q_NB238_277, Q_NB277_238, Q_NB239_277, Q_NB277_239, Q_NB258_277, Q_NB277_258, fun h0_ => absurd ((hoff 14 (by kernel_rfl)).symm.trans h0_) (by decide), Q_X13_⟩
          refine steps_cons ?_ ?_
          · rintro b a w' ⟨gb277, m13_, ha, Q_BK236, Q_BK237, Q_BK238, Q_BK239, Q_BK258, Q_HB, Q_BK277, Q_GW277, Q_GE277, Q_NB236_277, Q_NB277_236, Q_NB237_277, Q_NB277_237, Q_NB238_277, Q_NB277_238, Q_NB239_277, Q_NB277_239, Q_NB258_277, Q_NB277_258, Q_BK277_e14, Q_X13_⟩ hb_ hon hoff
            refine ⟨_, rfl, fun K hK => ?_⟩
            have e33 : a.tmps[33]? = some (.agg #[.int .i8 a2_0, .int .i8 a2_1, .int .i8 a2_2, .int .i8 a2_3, .int .i8 a2_4, .int .i8 a2_5]) := by rw [ha]; exact putSel_on (e := (4, 33, .agg #[.int .i8 a2_0, .int .i8 a2_1, .int .i8 a2_2, .int .i8 a2_3, .int .i8 a2_4, .int .i8 a2_5])) 4 rfl rfl (hon 4 (by kernel_rfl)) rfl
            replace ha := Aside0.mk ha
            have BK236 := Aside0.mk Q_BK236
            have BK237 := Aside0.mk Q_BK237
            have BK238 := Aside0.mk Q_BK238
            have BK239 := Aside0.mk Q_BK239
            have BK258 := Aside0.mk Q_BK258
            have HB := Aside0.mk Q_HB
            refine goes_ Try.func12 (by kernel_rfl) rfl #[.agg #[.int .i8 a2_0, .int .i8 a2_1, .int .i8 a2_2, .int .i8 a2_3, .int .i8 a2_4, .int .i8 a2_5]] (by rfl) rfl rfl (by first | (simp only [List.map_toArray, List.map_cons, List.map_nil, Act.eval, Array.getD_eq_getD_getElem?, Option.getD_some, e33]; done) | (simp only [List.map_toArray, List.map_cons, List.map_nil, Act.eval, Array.getD_eq_getD_getElem?, Option.getD_some, e33]; rfl)) ?_
            with_reducible refine (laws_toBoat.calls a2_0 a2_1 a2_2 a2_3 a2_4 a2_5 t261 t262 t263 t264 t265 t266 _ A12.out).mono ?_
            rintro e w41 ⟨rfl, hb⟩
            refine ⟨_, rfl, ?_⟩
            have n0_ := Aside0.mk (blk_below (g := gb236) (o := .cells (a0).A 26 (0, 0)) (by (with_reducible repeat (first | refine blk_drewN ?_ _ | refine blk_drew ?_ | refine blk_alloc ?_ _)); exact BK236.out) hb)
            have n1_ := Aside0.mk (blk_below (g := gb237) (o := .cells (a1).A 28 (0, 0)) (by (with_reducible repeat (first | refine blk_drewN ?_ _ | refine blk_drew ?_ | refine blk_alloc ?_ _)); exact BK237.out) hb)
            have n2_ := Aside0.mk (blk_below (g := gb238) (o := .cells #[.int .i8 a2_0, .int .i8 a2_1, .int .i8 a2_2, .int .i8 a2_3, .int .i8 a2_4, .int .i8 a2_5] 38 (0, 0)) (by (with_reducible repeat (first | refine blk_drewN ?_ _ | refine blk_drew ?_ | refine blk_alloc ?_ _)); exact BK238.out) hb)
            have n3_ := Aside0.mk (blk_below (g := gb239) (o := .cells #[.int .i8 a3_0, .int .i8 a3_1] 47 (0, 0)) (by (with_reducible repeat (first | refine blk_drewN ?_ _ | refine blk_drew ?_ | refine blk_alloc ?_ _)); exact BK239.out) hb)
            have n4_ := Aside0.mk (blk_below (g := gb258) (o := .cells #[.int .i8 t250, .int .i8 t251, .int .i8 t252, .int .i8 t253, .int .i8 t254, .int .i8 t255] 43 (0, 0)) (by (with_reducible repeat (first | refine blk_drewN ?_ _ | refine blk_drew ?_ | refine blk_alloc ?_ _)); exact BK258.out) hb)
            have n5_ := Aside0.mk (below_step (by repeat (first | (with_reducible first | exact HB.out | apply below_alloc | apply pw_below_drewN | apply below_drew1 | refine below_set ?_ GE236.out | refine below_set ?_ GE237.out | refine below_set ?_ GE238.out | refine below_set ?_ GE239.out | refine below_set ?_ GE258.out) | exact HB.out)) hb)
            have z_BK277 := fun (h0_ : b 13 = true) (h1_ : b 14 = false) => (show w41.heap[gb277]? = some (.cells #[.int .i8 0, .int .i8 0, .int .i8 0, .int .i8 0, .int .i8 0, .int .i8 0] 43 (0, 0)) from by first | exact (blk_below (g := gb277) (o := .cells #[.int .i8 0, .int .i8 0, .int .i8 0, .int .i8 0, .int .i8 0, .int .i8 0] 43 (0, 0)) (by (with_reducible repeat (first | refine blk_drewN ?_ _ | refine blk_drew ?_ | refine blk_alloc ?_ _)); exact (Q_BK277 h0_ h1_)) hb))
            clear BK236
            clear BK237
            clear BK238
            clear BK239
            clear BK258
            clear HB
            have BK236 := n0_
            have BK237 := n1_
            have BK238 := n2_
            have BK239 := n3_
            have BK258 := n4_
            have HB := n5_
            clear n0_ n1_ n2_ n3_ n4_ n5_
            (try clear hb)
            (try clear hb2)
            (try clear hk)
            (try clear hi)
            refine hK.out _ _ ⟨gb277, m13_, (by rw [ha.out]; exact putSel_upk 5 hb_ rfl rfl rfl), (by (with_reducible repeat (first | refine blk_drewN ?_ _ | refine blk_drew ?_ | refine blk_alloc ?_ _)); exact BK236.out), (by (with_reducible repeat (first | refine blk_drewN ?_ _ | refine blk_drew ?_ | refine blk_alloc ?_ _)); exact BK237.out), (by (with_reducible repeat (first | refine blk_drewN ?_ _ | refine blk_drew ?_ | refine blk_alloc ?_ _)); exact BK238.out), (by (with_reducible repeat (first | refine blk_drewN ?_ _ | refine blk_drew ?_ | refine blk_alloc ?_ _)); exact BK239.out), (by (with_reducible repeat (first | refine blk_drewN ?_ _ | refine blk_drew ?_ | refine blk_alloc ?_ _)); exact BK258.out), (by repeat (first | (with_reducible first | exact HB.out | apply below_alloc | apply pw_below_drewN | apply below_drew1 | refine below_set ?_ GE236.out | refine below_set ?_ GE237.out | refine below_set ?_ GE238.out | refine below_set ?_ GE239.out | refine below_set ?_ GE258.out) | exact HB.out)), z_BK277, Q_GW277, Q_GE277, Q_NB236_277, Q_NB277_236, Q_NB237_277, Q_NB277_237, Q_NB238_277, Q_NB277_238, Q_NB239_277, Q_NB277_239, Q_NB258_277, Q_NB277_258, fun h0_ => absurd ((hoff 14 (by kernel_rfl)).symm.trans h0_) (by decide), Q_X13_⟩
          refine steps_cons ?_ ?_
          · rintro b a w' ⟨gb277, m13_, ha, Q_BK236, Q_BK237, Q_BK238, Q_BK239, Q_BK258, Q_HB, Q_BK277, Q_GW277, Q_GE277, Q_NB236_277, Q_NB277_236, Q_NB237_277, Q_NB277_237, Q_NB238_277, Q_NB277_238, Q_NB239_277, Q_NB277_239, Q_NB258_277, Q_NB277_258, Q_BK277_e14, Q_X13_⟩ hb_ hon hoff
            refine ⟨_, rfl, fun K hK => ?_⟩
            have e7 : a.tmps[7]? = some (.pointer (some ⟨gb239, 0, none⟩)) := by rw [ha]; exact (putSel_off rfl).trans rfl
            replace ha := Aside0.mk ha
            have BK236 := Aside0.mk Q_BK236
            have BK237 := Aside0.mk Q_BK237
            have BK238 := Aside0.mk Q_BK238
            have BK239 := Aside0.mk Q_BK239
            have BK258 := Aside0.mk Q_BK258
            have HB := Aside0.mk Q_HB
            have hc0_ : w'.cell? ⟨gb239, 0, none⟩ = some (.int .i8 a3_0) := (blk_cell BK239.out 0).trans rfl
            have hc1_ : w'.cell? ⟨gb239, 1, none⟩ = some (.int .i8 a3_1) := (blk_cell BK239.out 1).trans rfl
            refine value_ (w1 := w') (v := .agg #[.int .i8 a3_0, .int .i8 a3_1]) (by rfl) rfl ?_ ?_
            · go_simp
              (try simp only [i64_w])
              try rfl
            refine hK.out _ _ ⟨gb277, m13_, (by rw [ha.out]; exact putSel_upk 6 hb_ rfl rfl rfl), Q_BK236, Q_BK237, Q_BK238, Q_BK239, Q_BK258, Q_HB, Q_BK277, Q_GW277, Q_GE277, Q_NB236_277, Q_NB277_236, Q_NB237_277, Q_NB277_237, Q_NB238_277, Q_NB277_238, Q_NB239_277, Q_NB277_239, Q_NB258_277, Q_NB277_258, fun h0_ => absurd ((hoff 14 (by kernel_rfl)).symm.trans h0_) (by decide), Q_X13_⟩
          refine steps_cons ?_ ?_
          · rintro b a w' ⟨gb277, m13_, ha, Q_BK236, Q_BK237, Q_BK238, Q_BK239, Q_BK258, Q_HB, Q_BK277, Q_GW277, Q_GE277, Q_NB236_277, Q_NB277_236, Q_NB237_277, Q_NB277_237, Q_NB238_277, Q_NB277_238, Q_NB239_277, Q_NB277_239, Q_NB258_277, Q_NB277_258, Q_BK277_e14, Q_X13_⟩ hb_ hon hoff
            refine ⟨_, rfl, fun K hK => ?_⟩
            have e35 : a.tmps[35]? = some (.agg #[.int .i8 a3_0, .int .i8 a3_1]) := by rw [ha]; exact putSel_on (e := (6, 35, .agg #[.int .i8 a3_0, .int .i8 a3_1])) 6 rfl rfl (hon 6 (by kernel_rfl)) rfl
            replace ha := Aside0.mk ha
            have BK236 := Aside0.mk Q_BK236
            have BK237 := Aside0.mk Q_BK237
            have BK238 := Aside0.mk Q_BK238
            have BK239 := Aside0.mk Q_BK239
            have BK258 := Aside0.mk Q_BK258
            have HB := Aside0.mk Q_HB
            refine goes_ Try.func15 (by kernel_rfl) rfl #[.agg #[.int .i8 a3_0, .int .i8 a3_1]] (by rfl) rfl rfl (by first | (simp only [List.map_toArray, List.map_cons, List.map_nil, Act.eval, Array.getD_eq_getD_getElem?, Option.getD_some, e35]; done) | (simp only [List.map_toArray, List.map_cons, List.map_nil, Act.eval, Array.getD_eq_getD_getElem?, Option.getD_some, e35]; rfl)) ?_
            with_reducible refine (laws_toWind.calls a3_0 a3_1 t267 t268 _ A13.out).mono ?_
            rintro e w42 ⟨rfl, hb⟩
            refine ⟨_, rfl, ?_⟩
            have n0_ := Aside0.mk (blk_below (g := gb236) (o := .cells (a0).A 26 (0, 0)) (by (with_reducible repeat (first | refine blk_drewN ?_ _ | refine blk_drew ?_ | refine blk_alloc ?_ _)); exact BK236.out) hb)
            have n1_ := Aside0.mk (blk_below (g := gb237) (o := .cells (a1).A 28 (0, 0)) (by (with_reducible repeat (first | refine blk_drewN ?_ _ | refine blk_drew ?_ | refine blk_alloc ?_ _)); exact BK237.out) hb)
            have n2_ := Aside0.mk (blk_below (g := gb238) (o := .cells #[.int .i8 a2_0, .int .i8 a2_1, .int .i8 a2_2, .int .i8 a2_3, .int .i8 a2_4, .int .i8 a2_5] 38 (0, 0)) (by (with_reducible repeat (first | refine blk_drewN ?_ _ | refine blk_drew ?_ | refine blk_alloc ?_ _)); exact BK238.out) hb)
            have n3_ := Aside0.mk (blk_below (g := gb239) (o := .cells #[.int .i8 a3_0, .int .i8 a3_1] 47 (0, 0)) (by (with_reducible repeat (first | refine blk_drewN ?_ _ | refine blk_drew ?_ | refine blk_alloc ?_ _)); exact BK239.out) hb)
            have n4_ := Aside0.mk (blk_below (g := gb258) (o := .cells #[.int .i8 t250, .int .i8 t251, .int .i8 t252, .int .i8 t253, .int .i8 t254, .int .i8 t255] 43 (0, 0)) (by (with_reducible repeat (first | refine blk_drewN ?_ _ | refine blk_drew ?_ | refine blk_alloc ?_ _)); exact BK258.out) hb)
            have n5_ := Aside0.mk (below_step (by repeat (first | (with_reducible first | exact HB.out | apply below_alloc | apply pw_below_drewN | apply below_drew1 | refine below_set ?_ GE236.out | refine below_set ?_ GE237.out | refine below_set ?_ GE238.out | refine below_set ?_ GE239.out | refine below_set ?_ GE258.out) | exact HB.out)) hb)
            have z_BK277 := fun (h0_ : b 13 = true) (h1_ : b 14 = false) => (show w42.heap[gb277]? = some (.cells #[.int .i8 0, .int .i8 0, .int .i8 0, .int .i8 0, .int .i8 0, .int .i8 0] 43 (0, 0)) from by first | exact (blk_below (g := gb277) (o := .cells #[.int .i8 0, .int .i8 0, .int .i8 0, .int .i8 0, .int .i8 0, .int .i8 0] 43 (0, 0)) (by (with_reducible repeat (first | refine blk_drewN ?_ _ | refine blk_drew ?_ | refine blk_alloc ?_ _)); exact (Q_BK277 h0_ h1_)) hb))
            clear BK236
            clear BK237
            clear BK238
            clear BK239
            clear BK258
            clear HB
            have BK236 := n0_
            have BK237 := n1_
            have BK238 := n2_
            have BK239 := n3_
            have BK258 := n4_
            have HB := n5_
            clear n0_ n1_ n2_ n3_ n4_ n5_
            (try clear hb)
            (try clear hb2)
            (try clear hk)
            (try clear hi)
            refine hK.out _ _ ⟨gb277, m13_, (by rw [ha.out]; exact putSel_upk 7 hb_ rfl rfl rfl), (by (with_reducible repeat (first | refine blk_drewN ?_ _ | refine blk_drew ?_ | refine blk_alloc ?_ _)); exact BK236.out), (by (with_reducible repeat (first | refine blk_drewN ?_ _ | refine blk_drew ?_ | refine blk_alloc ?_ _)); exact BK237.out), (by (with_reducible repeat (first | refine blk_drewN ?_ _ | refine blk_drew ?_ | refine blk_alloc ?_ _)); exact BK238.out), (by (with_reducible repeat (first | refine blk_drewN ?_ _ | refine blk_drew ?_ | refine blk_alloc ?_ _)); exact BK239.out), (by (with_reducible repeat (first | refine blk_drewN ?_ _ | refine blk_drew ?_ | refine blk_alloc ?_ _)); exact BK258.out), (by repeat (first | (with_reducible first | exact HB.out | apply below_alloc | apply pw_below_drewN | apply below_drew1 | refine below_set ?_ GE236.out | refine below_set ?_ GE237.out | refine below_set ?_ GE238.out | refine below_set ?_ GE239.out | refine below_set ?_ GE258.out) | exact HB.out)), z_BK277, Q_GW277, Q_GE277, Q_NB236_277, Q_NB277_236, Q_NB237_277, Q_NB277_237, Q_NB238_277, Q_NB277_238, Q_NB239_277, Q_NB277_239, Q_NB258_277, Q_NB277_258, fun h0_ => absurd ((hoff 14 (by kernel_rfl)).symm.trans h0_) (by decide), Q_X13_⟩
          refine steps_cons ?_ ?_
          · rintro b a w' ⟨gb277, m13_, ha, Q_BK236, Q_BK237, Q_BK238, Q_BK239, Q_BK258, Q_HB, Q_BK277, Q_GW277, Q_GE277, Q_NB236_277, Q_NB277_236, Q_NB237_277, Q_NB277_237, Q_NB238_277, Q_NB277_238, Q_NB239_277, Q_NB277_239, Q_NB258_277, Q_NB277_258, Q_BK277_e14, Q_X13_⟩ hb_ hon hoff
            refine ⟨_, rfl, fun K hK => ?_⟩
            have e30 : a.tmps[30]? = some (VO30 t259) := by rw [ha]; exact putSel_on (e := (1, 30, VO30 t259)) 1 rfl rfl (hon 1 (by kernel_rfl)) rfl
            have e32 : a.tmps[32]? = some (VO32 t260) := by rw [ha]; exact putSel_on (e := (3, 32, VO32 t260)) 3 rfl rfl (hon 3 (by kernel_rfl)) rfl
            have e34 : a.tmps[34]? = some (.agg #[.int .i8 t261, .int .i8 t262, .int .i8 t263, .int .i8 t264, .int .i8 t265, .int .i8 t266]) := by rw [ha]; exact putSel_on (e := (5, 34, .agg #[.int .i8 t261, .int .i8 t262, .int .i8 t263, .int .i8 t264, .int .i8 t265, .int .i8 t266])) 5 rfl rfl (hon 5 (by kernel_rfl)) rfl
            have e36 : a.tmps[36]? = some (.agg #[.int .i8 t267, .int .i8 t268]) := by rw [ha]; exact putSel_on (e := (7, 36, .agg #[.int .i8 t267, .int .i8 t268])) 7 rfl rfl (hon 7 (by kernel_rfl)) rfl
            replace ha := Aside0.mk ha
            have BK236 := Aside0.mk Q_BK236
            have BK237 := Aside0.mk Q_BK237
            have BK238 := Aside0.mk Q_BK238
            have BK239 := Aside0.mk Q_BK239
            have BK258 := Aside0.mk Q_BK258
            have HB := Aside0.mk Q_HB
            refine goes_ Try.func16 (by kernel_rfl) rfl #[VO30 t259, VO32 t260, .agg #[.int .i8 t261, .int .i8 t262, .int .i8 t263, .int .i8 t264, .int .i8 t265, .int .i8 t266], .agg #[.int .i8 t267, .int .i8 t268]] (by rfl) rfl rfl (by first | (simp only [List.map_toArray, List.map_cons, List.map_nil, Act.eval, Array.getD_eq_getD_getElem?, Option.getD_some, e30, e32, e34, e36]; done) | (simp only [List.map_toArray, List.map_cons, List.map_nil, Act.eval, Array.getD_eq_getD_getElem?, Option.getD_some, e30, e32, e34, e36]; rfl)) ?_
            with_reducible refine (impl_DriftOnce.calls k t259 t260 t261 t262 t263 t264 t265 t266 t267 t268 t269 t270 t271 t272 t273 t274 t275 t276 _ A14.out).mono ?_
            rintro e w43 ⟨rfl, hb⟩
            refine ⟨_, rfl, ?_⟩
            have n0_ := Aside0.mk (blk_below (g := gb236) (o := .cells (a0).A 26 (0, 0)) (by (with_reducible repeat (first | refine blk_drewN ?_ _ | refine blk_drew ?_ | refine blk_alloc ?_ _)); exact BK236.out) hb)
            have n1_ := Aside0.mk (blk_below (g := gb237) (o := .cells (a1).A 28 (0, 0)) (by (with_reducible repeat (first | refine blk_drewN ?_ _ | refine blk_drew ?_ | refine blk_alloc ?_ _)); exact BK237.out) hb)
            have n2_ := Aside0.mk (blk_below (g := gb238) (o := .cells #[.int .i8 a2_0, .int .i8 a2_1, .int .i8 a2_2, .int .i8 a2_3, .int .i8 a2_4, .int .i8 a2_5] 38 (0, 0)) (by (with_reducible repeat (first | refine blk_drewN ?_ _ | refine blk_drew ?_ | refine blk_alloc ?_ _)); exact BK238.out) hb)
            have n3_ := Aside0.mk (blk_below (g := gb239) (o := .cells #[.int .i8 a3_0, .int .i8 a3_1] 47 (0, 0)) (by (with_reducible repeat (first | refine blk_drewN ?_ _ | refine blk_drew ?_ | refine blk_alloc ?_ _)); exact BK239.out) hb)
            have n4_ := Aside0.mk (blk_below (g := gb258) (o := .cells #[.int .i8 t250, .int .i8 t251, .int .i8 t252, .int .i8 t253, .int .i8 t254, .int .i8 t255] 43 (0, 0)) (by (with_reducible repeat (first | refine blk_drewN ?_ _ | refine blk_drew ?_ | refine blk_alloc ?_ _)); exact BK258.out) hb)
            have n5_ := Aside0.mk (below_step (by repeat (first | (with_reducible first | exact HB.out | apply below_alloc | apply pw_below_drewN | apply below_drew1 | refine below_set ?_ GE236.out | refine below_set ?_ GE237.out | refine below_set ?_ GE238.out | refine below_set ?_ GE239.out | refine below_set ?_ GE258.out) | exact HB.out)) hb)
            have z_BK277 := fun (h0_ : b 13 = true) (h1_ : b 14 = false) => (show w43.heap[gb277]? = some (.cells #[.int .i8 0, .int .i8 0, .int .i8 0, .int .i8 0, .int .i8 0, .int .i8 0] 43 (0, 0)) from by first | exact (blk_below (g := gb277) (o := .cells #[.int .i8 0, .int .i8 0, .int .i8 0, .int .i8 0, .int .i8 0, .int .i8 0] 43 (0, 0)) (by (with_reducible repeat (first | refine blk_drewN ?_ _ | refine blk_drew ?_ | refine blk_alloc ?_ _)); exact (Q_BK277 h0_ h1_)) hb))
            clear BK236
            clear BK237
            clear BK238
            clear BK239
            clear BK258
            clear HB
            have BK236 := n0_
            have BK237 := n1_
            have BK238 := n2_
            have BK239 := n3_
            have BK258 := n4_
            have HB := n5_
            clear n0_ n1_ n2_ n3_ n4_ n5_
            (try clear hb)
            (try clear hb2)
            (try clear hk)
            (try clear hi)
            refine hK.out _ _ ⟨gb277, m13_, (by rw [ha.out]; exact putSel_upk 8 hb_ rfl rfl rfl), (by (with_reducible repeat (first | refine blk_drewN ?_ _ | refine blk_drew ?_ | refine blk_alloc ?_ _)); exact BK236.out), (by (with_reducible repeat (first | refine blk_drewN ?_ _ | refine blk_drew ?_ | refine blk_alloc ?_ _)); exact BK237.out), (by (with_reducible repeat (first | refine blk_drewN ?_ _ | refine blk_drew ?_ | refine blk_alloc ?_ _)); exact BK238.out), (by (with_reducible repeat (first | refine blk_drewN ?_ _ | refine blk_drew ?_ | refine blk_alloc ?_ _)); exact BK239.out), (by (with_reducible repeat (first | refine blk_drewN ?_ _ | refine blk_drew ?_ | refine blk_alloc ?_ _)); exact BK258.out), (by repeat (first | (with_reducible first | exact HB.out | apply below_alloc | apply pw_below_drewN | apply below_drew1 | refine below_set ?_ GE236.out | refine below_set ?_ GE237.out | refine below_set ?_ GE238.out | refine below_set ?_ GE239.out | refine below_set ?_ GE258.out) | exact HB.out)), z_BK277, Q_GW277, Q_GE277, Q_NB236_277, Q_NB277_236, Q_NB237_277, Q_NB277_237, Q_NB238_277, Q_NB277_238, Q_NB239_277, Q_NB277_239, Q_NB258_277, Q_NB277_258, fun h0_ => absurd ((hoff 14 (by kernel_rfl)).symm.trans h0_) (by decide), Q_X13_⟩
          refine steps_cons ?_ ?_
          · rintro b a w' ⟨gb277, m13_, ha, Q_BK236, Q_BK237, Q_BK238, Q_BK239, Q_BK258, Q_HB, Q_BK277, Q_GW277, Q_GE277, Q_NB236_277, Q_NB277_236, Q_NB237_277, Q_NB277_237, Q_NB238_277, Q_NB277_238, Q_NB239_277, Q_NB277_239, Q_NB258_277, Q_NB277_258, Q_BK277_e14, Q_X13_⟩ hb_ hon hoff
            refine ⟨_, rfl, fun K hK => ?_⟩
            have e37 : a.tmps[37]? = some (.tuple #[.agg #[.int .i8 t269, .int .i8 t270, .int .i8 t271, .int .i8 t272, .int .i8 t273, .int .i8 t274], .bool t275, .int .i64 t276]) := by rw [ha]; exact putSel_on (e := (8, 37, .tuple #[.agg #[.int .i8 t269, .int .i8 t270, .int .i8 t271, .int .i8 t272, .int .i8 t273, .int .i8 t274], .bool t275, .int .i64 t276])) 8 rfl rfl (hon 8 (by kernel_rfl)) rfl
            replace ha := Aside0.mk ha
            have BK236 := Aside0.mk Q_BK236
            have BK237 := Aside0.mk Q_BK237
            have BK238 := Aside0.mk Q_BK238
            have BK239 := Aside0.mk Q_BK239
            have BK258 := Aside0.mk Q_BK258
            have HB := Aside0.mk Q_HB
            refine value_ (w1 := w') (v := .tuple #[.agg #[.int .i8 t269, .int .i8 t270, .int .i8 t271, .int .i8 t272, .int .i8 t273, .int .i8 t274], .bool t275, .int .i64 t276]) (by rfl) rfl ?_ ?_
            · go_simp
              (try simp only [i64_w])
              try rfl
            refine hK.out _ _ ⟨gb277, m13_, (by rw [ha.out]; exact putSel_upk 9 hb_ rfl rfl rfl), Q_BK236, Q_BK237, Q_BK238, Q_BK239, Q_BK258, Q_HB, Q_BK277, Q_GW277, Q_GE277, Q_NB236_277, Q_NB277_236, Q_NB237_277, Q_NB277_237, Q_NB238_277, Q_NB277_238, Q_NB239_277, Q_NB277_239, Q_NB258_277, Q_NB277_258, fun h0_ => absurd ((hoff 14 (by kernel_rfl)).symm.trans h0_) (by decide), Q_X13_⟩
          refine steps_cons ?_ ?_
          · rintro b a w' ⟨gb277, m13_, ha, Q_BK236, Q_BK237, Q_BK238, Q_BK239, Q_BK258, Q_HB, Q_BK277, Q_GW277, Q_GE277, Q_NB236_277, Q_NB277_236, Q_NB237_277, Q_NB277_237, Q_NB238_277, Q_NB277_238, Q_NB239_277, Q_NB277_239, Q_NB258_277, Q_NB277_258, Q_BK277_e14, Q_X13_⟩ hb_ hon hoff
            refine ⟨_, rfl, fun K hK => ?_⟩
            have e28 : a.tmps[28]? = some (.tuple #[.agg #[.int .i8 t269, .int .i8 t270, .int .i8 t271, .int .i8 t272, .int .i8 t273, .int .i8 t274], .bool t275, .int .i64 t276]) := by rw [ha]; exact putSel_on (e := (9, 28, .tuple #[.agg #[.int .i8 t269, .int .i8 t270, .int .i8 t271, .int .i8 t272, .int .i8 t273, .int .i8 t274], .bool t275, .int .i64 t276])) 9 rfl rfl (hon 9 (by kernel_rfl)) rfl
            replace ha := Aside0.mk ha
            have BK236 := Aside0.mk Q_BK236
            have BK237 := Aside0.mk Q_BK237
            have BK238 := Aside0.mk Q_BK238
            have BK239 := Aside0.mk Q_BK239
            have BK258 := Aside0.mk Q_BK258
            have HB := Aside0.mk Q_HB
            refine value_ (w1 := w') (v := .agg #[.int .i8 t269, .int .i8 t270, .int .i8 t271, .int .i8 t272, .int .i8 t273, .int .i8 t274]) (by rfl) rfl ?_ ?_
            · go_simp
              (try simp only [i64_w])
              try rfl
            refine hK.out _ _ ⟨gb277, m13_, (by rw [ha.out]; exact putSel_upk 10 hb_ rfl rfl rfl), Q_BK236, Q_BK237, Q_BK238, Q_BK239, Q_BK258, Q_HB, Q_BK277, Q_GW277, Q_GE277, Q_NB236_277, Q_NB277_236, Q_NB237_277, Q_NB277_237, Q_NB238_277, Q_NB277_238, Q_NB239_277, Q_NB277_239, Q_NB258_277, Q_NB277_258, fun h0_ => absurd ((hoff 14 (by kernel_rfl)).symm.trans h0_) (by decide), Q_X13_⟩
          refine steps_cons ?_ ?_
          · rintro b a w' ⟨gb277, m13_, ha, Q_BK236, Q_BK237, Q_BK238, Q_BK239, Q_BK258, Q_HB, Q_BK277, Q_GW277, Q_GE277, Q_NB236_277, Q_NB277_236, Q_NB237_277, Q_NB277_237, Q_NB238_277, Q_NB277_238, Q_NB239_277, Q_NB277_239, Q_NB258_277, Q_NB277_258, Q_BK277_e14, Q_X13_⟩ hb_ hon hoff
            refine ⟨_, rfl, fun K hK => ?_⟩
            have e28 : a.tmps[28]? = some (.tuple #[.agg #[.int .i8 t269, .int .i8 t270, .int .i8 t271, .int .i8 t272, .int .i8 t273, .int .i8 t274], .bool t275, .int .i64 t276]) := by rw [ha]; exact putSel_on (e := (9, 28, .tuple #[.agg #[.int .i8 t269, .int .i8 t270, .int .i8 t271, .int .i8 t272, .int .i8 t273, .int .i8 t274], .bool t275, .int .i64 t276])) 9 rfl rfl (hon 9 (by kernel_rfl)) rfl
            replace ha := Aside0.mk ha
            have BK236 := Aside0.mk Q_BK236
            have BK237 := Aside0.mk Q_BK237
            have BK238 := Aside0.mk Q_BK238
            have BK239 := Aside0.mk Q_BK239
            have BK258 := Aside0.mk Q_BK258
            have HB := Aside0.mk Q_HB
            refine value_ (w1 := w') (v := .bool t275) (by rfl) rfl ?_ ?_
            · go_simp
              (try simp only [i64_w])
              try rfl
            refine hK.out _ _ ⟨gb277, m13_, (by rw [ha.out]; exact putSel_upk 11 hb_ rfl rfl rfl), Q_BK236, Q_BK237, Q_BK238, Q_BK239, Q_BK258, Q_HB, Q_BK277, Q_GW277, Q_GE277, Q_NB236_277, Q_NB277_236, Q_NB237_277, Q_NB277_237, Q_NB238_277, Q_NB277_238, Q_NB239_277, Q_NB277_239, Q_NB258_277, Q_NB277_258, Q_BK277_e14, Q_X13_⟩
          refine steps_cons ?_ ?_
          · rintro b a w' ⟨gb277, m13_, ha, Q_BK236, Q_BK237, Q_BK238, Q_BK239, Q_BK258, Q_HB, Q_BK277, Q_GW277, Q_GE277, Q_NB236_277, Q_NB277_236, Q_NB237_277, Q_NB277_237, Q_NB238_277, Q_NB277_238, Q_NB239_277, Q_NB277_239, Q_NB258_277, Q_NB277_258, Q_BK277_e14, Q_X13_⟩ hb_ hon hoff
            refine ⟨_, rfl, fun K hK => ?_⟩
            have e28 : a.tmps[28]? = some (.tuple #[.agg #[.int .i8 t269, .int .i8 t270, .int .i8 t271, .int .i8 t272, .int .i8 t273, .int .i8 t274], .bool t275, .int .i64 t276]) := by rw [ha]; exact putSel_on (e := (9, 28, .tuple #[.agg #[.int .i8 t269, .int .i8 t270, .int .i8 t271, .int .i8 t272, .int .i8 t273, .int .i8 t274], .bool t275, .int .i64 t276])) 9 rfl rfl (hon 9 (by kernel_rfl)) rfl
            replace ha := Aside0.mk ha
            have BK236 := Aside0.mk Q_BK236
            have BK237 := Aside0.mk Q_BK237
            have BK238 := Aside0.mk Q_BK238
            have BK239 := Aside0.mk Q_BK239
            have BK258 := Aside0.mk Q_BK258
            have HB := Aside0.mk Q_HB
            refine value_ (w1 := w') (v := .int .i64 t276) (by rfl) rfl ?_ ?_
            · go_simp
              (try simp only [i64_w])
              try rfl
            refine hK.out _ _ ⟨gb277, m13_, (by rw [ha.out]; exact putSel_upk 12 hb_ rfl rfl rfl), Q_BK236, Q_BK237, Q_BK238, Q_BK239, Q_BK258, Q_HB, Q_BK277, Q_GW277, Q_GE277, Q_NB236_277, Q_NB277_236, Q_NB237_277, Q_NB277_237, Q_NB238_277, Q_NB277_238, Q_NB239_277, Q_NB277_239, Q_NB258_277, Q_NB277_258, Q_BK277_e14, Q_X13_⟩
          refine steps_cons ?_ ?_
          · rintro b a w' ⟨gb277, m13_, ha, Q_BK236, Q_BK237, Q_BK238, Q_BK239, Q_BK258, Q_HB, Q_BK277, Q_GW277, Q_GE277, Q_NB236_277, Q_NB277_236, Q_NB237_277, Q_NB277_237, Q_NB238_277, Q_NB277_238, Q_NB239_277, Q_NB277_239, Q_NB258_277, Q_NB277_258, Q_BK277_e14, Q_X13_⟩ hb_ hon hoff
            refine ⟨_, rfl, fun K hK => ?_⟩
            replace ha := Aside0.mk ha
            have BK236 := Aside0.mk Q_BK236
            have BK237 := Aside0.mk Q_BK237
            have BK238 := Aside0.mk Q_BK238
            have BK239 := Aside0.mk Q_BK239
            have BK258 := Aside0.mk Q_BK258
            have HB := Aside0.mk Q_HB
            refine box_step ?hg (N := 12) ?hd (cs := #[.int .i8 0, .int .i8 0, .int .i8 0, .int .i8 0, .int .i8 0, .int .i8 0]) (t := 43) ?hr ?_; (case hd => rfl); (case hg => rfl); (case hr => first | (go_simp; done) | (go_simp; rfl))
            intro gb277 hg w38 hbox hb
            have n0_ := Aside0.mk (blk_below (g := gb236) (o := .cells (a0).A 26 (0, 0)) (by (with_reducible repeat (first | refine blk_drewN ?_ _ | refine blk_drew ?_ | refine blk_alloc ?_ _)); exact BK236.out) hb)
            have n1_ := Aside0.mk (blk_below (g := gb237) (o := .cells (a1).A 28 (0, 0)) (by (with_reducible repeat (first | refine blk_drewN ?_ _ | refine blk_drew ?_ | refine blk_alloc ?_ _)); exact BK237.out) hb)
            have n2_ := Aside0.mk (blk_below (g := gb238) (o := .cells #[.int .i8 a2_0, .int .i8 a2_1, .int .i8 a2_2, .int .i8 a2_3, .int .i8 a2_4, .int .i8 a2_5] 38 (0, 0)) (by (with_reducible repeat (first | refine blk_drewN ?_ _ | refine blk_drew ?_ | refine blk_alloc ?_ _)); exact BK238.out) hb)
            have n3_ := Aside0.mk (blk_below (g := gb239) (o := .cells #[.int .i8 a3_0, .int .i8 a3_1] 47 (0, 0)) (by (with_reducible repeat (first | refine blk_drewN ?_ _ | refine blk_drew ?_ | refine blk_alloc ?_ _)); exact BK239.out) hb)
            have n4_ := Aside0.mk (blk_below (g := gb258) (o := .cells #[.int .i8 t250, .int .i8 t251, .int .i8 t252, .int .i8 t253, .int .i8 t254, .int .i8 t255] 43 (0, 0)) (by (with_reducible repeat (first | refine blk_drewN ?_ _ | refine blk_drew ?_ | refine blk_alloc ?_ _)); exact BK258.out) hb)
            have n5_ := Aside0.mk (below_step (by repeat (first | (with_reducible first | exact HB.out | apply below_alloc | apply pw_below_drewN | apply below_drew1 | refine below_set ?_ GE236.out | refine below_set ?_ GE237.out | refine below_set ?_ GE238.out | refine below_set ?_ GE239.out | refine below_set ?_ GE258.out) | exact HB.out)) hb)
            have n6_ := Aside0.mk (hbox)
            have n7_ := Aside0.mk ((by rw [hg]; exact (below_size (by repeat (first | (with_reducible first | exact HB.out | apply below_alloc | apply pw_below_drewN | apply below_drew1 | refine below_set ?_ GE236.out | refine below_set ?_ GE237.out | refine below_set ?_ GE238.out | refine below_set ?_ GE239.out | refine below_set ?_ GE258.out) | exact HB.out))) : w.heap.size ≤ gb277))
            have n8_ := Aside0.mk ((by rw [hg]; exact (below_size (by repeat (first | (with_reducible first | exact HB.out | apply below_alloc | apply pw_below_drewN | apply below_drew1 | refine below_set ?_ GE236.out | refine below_set ?_ GE237.out | refine below_set ?_ GE238.out | refine below_set ?_ GE239.out | refine below_set ?_ GE258.out) | exact HB.out))) : w.heap.size ≤ gb277))
            have n9_ := Aside0.mk ((by rw [hg]; exact Nat.ne_of_lt (blk_lt (g := gb236) (o := .cells (a0).A 26 (0, 0)) (by (with_reducible repeat (first | refine blk_drewN ?_ _ | refine blk_drew ?_ | refine blk_alloc ?_ _)); exact BK236.out)) : gb236 ≠ gb277))
            have n10_ := Aside0.mk ((by rw [hg]; exact Nat.ne_of_gt (blk_lt (g := gb236) (o := .cells (a0).A 26 (0, 0)) (by (with_reducible repeat (first | refine blk_drewN ?_ _ | refine blk_drew ?_ | refine blk_alloc ?_ _)); exact BK236.out)) : gb277 ≠ gb236))
            have n11_ := Aside0.mk ((by rw [hg]; exact Nat.ne_of_lt (blk_lt (g := gb237) (o := .cells (a1).A 28 (0, 0)) (by (with_reducible repeat (first | refine blk_drewN ?_ _ | refine blk_drew ?_ | refine blk_alloc ?_ _)); exact BK237.out)) : gb237 ≠ gb277))
            have n12_ := Aside0.mk ((by rw [hg]; exact Nat.ne_of_gt (blk_lt (g := gb237) (o := .cells (a1).A 28 (0, 0)) (by (with_reducible repeat (first | refine blk_drewN ?_ _ | refine blk_drew ?_ | refine blk_alloc ?_ _)); exact BK237.out)) : gb277 ≠ gb237))
            have n13_ := Aside0.mk ((by rw [hg]; exact Nat.ne_of_lt (blk_lt (g := gb238) (o := .cells #[.int .i8 a2_0, .int .i8 a2_1, .int .i8 a2_2, .int .i8 a2_3, .int .i8 a2_4, .int .i8 a2_5] 38 (0, 0)) (by (with_reducible repeat (first | refine blk_drewN ?_ _ | refine blk_drew ?_ | refine blk_alloc ?_ _)); exact BK238.out)) : gb238 ≠ gb277))
            have n14_ := Aside0.mk ((by rw [hg]; exact Nat.ne_of_gt (blk_lt (g := gb238) (o := .cells #[.int .i8 a2_0, .int .i8 a2_1, .int .i8 a2_2, .int .i8 a2_3, .int .i8 a2_4, .int .i8 a2_5] 38 (0, 0)) (by (with_reducible repeat (first | refine blk_drewN ?_ _ | refine blk_drew ?_ | refine blk_alloc ?_ _)); exact BK238.out)) : gb277 ≠ gb238))
            have n15_ := Aside0.mk ((by rw [hg]; exact Nat.ne_of_lt (blk_lt (g := gb239) (o := .cells #[.int .i8 a3_0, .int .i8 a3_1] 47 (0, 0)) (by (with_reducible repeat (first | refine blk_drewN ?_ _ | refine blk_drew ?_ | refine blk_alloc ?_ _)); exact BK239.out)) : gb239 ≠ gb277))
            have n16_ := Aside0.mk ((by rw [hg]; exact Nat.ne_of_gt (blk_lt (g := gb239) (o := .cells #[.int .i8 a3_0, .int .i8 a3_1] 47 (0, 0)) (by (with_reducible repeat (first | refine blk_drewN ?_ _ | refine blk_drew ?_ | refine blk_alloc ?_ _)); exact BK239.out)) : gb277 ≠ gb239))
            have n17_ := Aside0.mk ((by rw [hg]; exact Nat.ne_of_lt (blk_lt (g := gb258) (o := .cells #[.int .i8 t250, .int .i8 t251, .int .i8 t252, .int .i8 t253, .int .i8 t254, .int .i8 t255] 43 (0, 0)) (by (with_reducible repeat (first | refine blk_drewN ?_ _ | refine blk_drew ?_ | refine blk_alloc ?_ _)); exact BK258.out)) : gb258 ≠ gb277))
            have n18_ := Aside0.mk ((by rw [hg]; exact Nat.ne_of_gt (blk_lt (g := gb258) (o := .cells #[.int .i8 t250, .int .i8 t251, .int .i8 t252, .int .i8 t253, .int .i8 t254, .int .i8 t255] 43 (0, 0)) (by (with_reducible repeat (first | refine blk_drewN ?_ _ | refine blk_drew ?_ | refine blk_alloc ?_ _)); exact BK258.out)) : gb277 ≠ gb258))
            clear BK236
            clear BK237
            clear BK238
            clear BK239
            clear BK258
            clear HB
            have BK236 := n0_
            have BK237 := n1_
            have BK238 := n2_
            have BK239 := n3_
            have BK258 := n4_
            have HB := n5_
            have BK277 := n6_
            have GW277 := n7_
            have GE277 := n8_
            have NB236_277 := n9_
            have NB277_236 := n10_
            have NB237_277 := n11_
            have NB277_237 := n12_
            have NB238_277 := n13_
            have NB277_238 := n14_
            have NB239_277 := n15_
            have NB277_239 := n16_
            have NB258_277 := n17_
            have NB277_258 := n18_
            clear n0_ n1_ n2_ n3_ n4_ n5_ n6_ n7_ n8_ n9_ n10_ n11_ n12_ n13_ n14_ n15_ n16_ n17_ n18_
            clear hb hbox hg
            refine hK.out _ _ ⟨gb277, (.pointer (some ⟨gb277, 0, none⟩)), (by rw [ha.out]; exact putSel_upk 13 hb_ rfl rfl rfl), (by (with_reducible repeat (first | refine blk_drewN ?_ _ | refine blk_drew ?_ | refine blk_alloc ?_ _)); exact BK236.out), (by (with_reducible repeat (first | refine blk_drewN ?_ _ | refine blk_drew ?_ | refine blk_alloc ?_ _)); exact BK237.out), (by (with_reducible repeat (first | refine blk_drewN ?_ _ | refine blk_drew ?_ | refine blk_alloc ?_ _)); exact BK238.out), (by (with_reducible repeat (first | refine blk_drewN ?_ _ | refine blk_drew ?_ | refine blk_alloc ?_ _)); exact BK239.out), (by (with_reducible repeat (first | refine blk_drewN ?_ _ | refine blk_drew ?_ | refine blk_alloc ?_ _)); exact BK258.out), (by repeat (first | (with_reducible first | exact HB.out | apply below_alloc | apply pw_below_drewN | apply below_drew1 | refine below_set ?_ GE236.out | refine below_set ?_ GE237.out | refine below_set ?_ GE238.out | refine below_set ?_ GE239.out | refine below_set ?_ GE258.out | refine below_set ?_ GE277.out) | exact HB.out)), fun _ _ => (by (with_reducible repeat (first | refine blk_drewN ?_ _ | refine blk_drew ?_ | refine blk_alloc ?_ _)); exact BK277.out), fun _ => GW277.out, fun _ => GE277.out, fun _ => NB236_277.out, fun _ => NB277_236.out, fun _ => NB237_277.out, fun _ => NB277_237.out, fun _ => NB238_277.out, fun _ => NB277_238.out, fun _ => NB239_277.out, fun _ => NB277_239.out, fun _ => NB258_277.out, fun _ => NB277_258.out, fun h0_ => absurd ((hoff 14 (by kernel_rfl)).symm.trans h0_) (by decide), fun _ => rfl⟩
          refine steps_cons ?_ ?_
          · rintro b a w' ⟨gb277, m13_, ha, Q_BK236, Q_BK237, Q_BK238, Q_BK239, Q_BK258, Q_HB, Q_BK277, Q_GW277, Q_GE277, Q_NB236_277, Q_NB277_236, Q_NB237_277, Q_NB277_237, Q_NB238_277, Q_NB277_238, Q_NB239_277, Q_NB277_239, Q_NB258_277, Q_NB277_258, Q_BK277_e14, Q_X13_⟩ hb_ hon hoff
            refine ⟨_, rfl, fun K hK => ?_⟩
            have e12 : a.tmps[12]? = some (m13_) := by rw [ha]; exact putSel_on (e := (13, 12, m13_)) 13 rfl rfl (hon 13 (by kernel_rfl)) rfl
            rw [Q_X13_ (hon 13 (by kernel_rfl))] at e12
            have e38 : a.tmps[38]? = some (.agg #[.int .i8 t269, .int .i8 t270, .int .i8 t271, .int .i8 t272, .int .i8 t273, .int .i8 t274]) := by rw [ha]; exact putSel_on (e := (10, 38, .agg #[.int .i8 t269, .int .i8 t270, .int .i8 t271, .int .i8 t272, .int .i8 t273, .int .i8 t274])) 10 rfl rfl (hon 10 (by kernel_rfl)) rfl
            replace ha := Aside0.mk ha
            have BK236 := Aside0.mk Q_BK236
            have BK237 := Aside0.mk Q_BK237
            have BK238 := Aside0.mk Q_BK238
            have BK239 := Aside0.mk Q_BK239
            have BK258 := Aside0.mk Q_BK258
            have HB := Aside0.mk Q_HB
            have BK277 := Aside0.mk (Q_BK277 (hon 13 (by kernel_rfl)) hb_)
            have GW277 := Aside0.mk (Q_GW277 (hon 13 (by kernel_rfl)))
            have GE277 := Aside0.mk (Q_GE277 (hon 13 (by kernel_rfl)))
            have NB236_277 := Aside0.mk (Q_NB236_277 (hon 13 (by kernel_rfl)))
            have NB277_236 := Aside0.mk (Q_NB277_236 (hon 13 (by kernel_rfl)))
            have NB237_277 := Aside0.mk (Q_NB237_277 (hon 13 (by kernel_rfl)))
            have NB277_237 := Aside0.mk (Q_NB277_237 (hon 13 (by kernel_rfl)))
            have NB238_277 := Aside0.mk (Q_NB238_277 (hon 13 (by kernel_rfl)))
            have NB277_238 := Aside0.mk (Q_NB277_238 (hon 13 (by kernel_rfl)))
            have NB239_277 := Aside0.mk (Q_NB239_277 (hon 13 (by kernel_rfl)))
            have NB277_239 := Aside0.mk (Q_NB277_239 (hon 13 (by kernel_rfl)))
            have NB258_277 := Aside0.mk (Q_NB258_277 (hon 13 (by kernel_rfl)))
            have NB277_258 := Aside0.mk (Q_NB277_258 (hon 13 (by kernel_rfl)))
            have hs45 : w'.cell? ⟨gb277, 0, none⟩ = some (.int .i8 0) := (blk_cell BK277.out 0).trans rfl
            have hfs45 := blk_frozen BK277.out 0
            have hns45_0 := NB236_277.out
            have hns45_1 := NB237_277.out
            have hns45_2 := NB238_277.out
            have hns45_3 := NB239_277.out
            have hns45_4 := NB258_277.out
            have hms45_0 := NB277_236.out
            have hms45_1 := NB277_237.out
            have hms45_2 := NB277_238.out
            have hms45_3 := NB277_239.out
            have hms45_4 := NB277_258.out
            have hs46 : w'.cell? ⟨gb277, 1, none⟩ = some (.int .i8 0) := (blk_cell BK277.out 1).trans rfl
            have hfs46 := blk_frozen BK277.out 1
            have hns46_0 := NB236_277.out
            have hns46_1 := NB237_277.out
            have hns46_2 := NB238_277.out
            have hns46_3 := NB239_277.out
            have hns46_4 := NB258_277.out
            have hms46_0 := NB277_236.out
            have hms46_1 := NB277_237.out
            have hms46_2 := NB277_238.out
            have hms46_3 := NB277_239.out
            have hms46_4 := NB277_258.out
            have hs47 : w'.cell? ⟨gb277, 2, none⟩ = some (.int .i8 0) := (blk_cell BK277.out 2).trans rfl
            have hfs47 := blk_frozen BK277.out 2
            have hns47_0 := NB236_277.out
            have hns47_1 := NB237_277.out
            have hns47_2 := NB238_277.out
            have hns47_3 := NB239_277.out
            have hns47_4 := NB258_277.out
            have hms47_0 := NB277_236.out
            have hms47_1 := NB277_237.out
            have hms47_2 := NB277_238.out
            have hms47_3 := NB277_239.out
            have hms47_4 := NB277_258.out
            have hs48 : w'.cell? ⟨gb277, 3, none⟩ = some (.int .i8 0) := (blk_cell BK277.out 3).trans rfl
            have hfs48 := blk_frozen BK277.out 3
            have hns48_0 := NB236_277.out
            have hns48_1 := NB237_277.out
            have hns48_2 := NB238_277.out
            have hns48_3 := NB239_277.out
            have hns48_4 := NB258_277.out
            have hms48_0 := NB277_236.out
            have hms48_1 := NB277_237.out
            have hms48_2 := NB277_238.out
            have hms48_3 := NB277_239.out
            have hms48_4 := NB277_258.out
            have hs49 : w'.cell? ⟨gb277, 4, none⟩ = some (.int .i8 0) := (blk_cell BK277.out 4).trans rfl
            have hfs49 := blk_frozen BK277.out 4
            have hns49_0 := NB236_277.out
            have hns49_1 := NB237_277.out
            have hns49_2 := NB238_277.out
            have hns49_3 := NB239_277.out
            have hns49_4 := NB258_277.out
            have hms49_0 := NB277_236.out
            have hms49_1 := NB277_237.out
            have hms49_2 := NB277_238.out
            have hms49_3 := NB277_239.out
            have hms49_4 := NB277_258.out
            have hs50 : w'.cell? ⟨gb277, 5, none⟩ = some (.int .i8 0) := (blk_cell BK277.out 5).trans rfl
            have hfs50 := blk_frozen BK277.out 5
            have hns50_0 := NB236_277.out
            have hns50_1 := NB237_277.out
            have hns50_2 := NB238_277.out
            have hns50_3 := NB239_277.out
            have hns50_4 := NB258_277.out
            have hms50_0 := NB277_236.out
            have hms50_1 := NB277_237.out
            have hms50_2 := NB277_238.out
            have hms50_3 := NB277_239.out
            have hms50_4 := NB277_258.out
            refine skip_ (w1 := ?_) (by rfl) rfl ?_ ?_
            rotate_left
            · go_simp
              rfl
            refine hK.out _ _ ⟨gb277, m13_, (by rw [ha.out]; exact putSel_none (v := undef) rfl), (by (with_reducible repeat (first | refine blk_drewN ?_ _ | refine blk_drew ?_ | refine blk_alloc ?_ _)); refine blk_far ?_ NB236_277.out _; (with_reducible repeat (first | refine blk_drewN ?_ _ | refine blk_drew ?_ | refine blk_alloc ?_ _)); refine blk_far ?_ NB236_277.out _; (with_reducible repeat (first | refine blk_drewN ?_ _ | refine blk_drew ?_ | refine blk_alloc ?_ _)); refine blk_far ?_ NB236_277.out _; (with_reducible repeat (first | refine blk_drewN ?_ _ | refine blk_drew ?_ | refine blk_alloc ?_ _)); refine blk_far ?_ NB236_277.out _; (with_reducible repeat (first | refine blk_drewN ?_ _ | refine blk_drew ?_ | refine blk_alloc ?_ _)); refine blk_far ?_ NB236_277.out _; (with_reducible repeat (first | refine blk_drewN ?_ _ | refine blk_drew ?_ | refine blk_alloc ?_ _)); refine blk_far ?_ NB236_277.out _; (with_reducible repeat (first | refine blk_drewN ?_ _ | refine blk_drew ?_ | refine blk_alloc ?_ _)); exact BK236.out), (by (with_reducible repeat (first | refine blk_drewN ?_ _ | refine blk_drew ?_ | refine blk_alloc ?_ _)); refine blk_far ?_ NB237_277.out _; (with_reducible repeat (first | refine blk_drewN ?_ _ | refine blk_drew ?_ | refine blk_alloc ?_ _)); refine blk_far ?_ NB237_277.out _; (with_reducible repeat (first | refine blk_drewN ?_ _ | refine blk_drew ?_ | refine blk_alloc ?_ _)); refine blk_far ?_ NB237_277.out _; (with_reducible repeat (first | refine blk_drewN ?_ _ | refine blk_drew ?_ | refine blk_alloc ?_ _)); refine blk_far ?_ NB237_277.out _; (with_reducible repeat (first | refine blk_drewN ?_ _ | refine blk_drew ?_ | refine blk_alloc ?_ _)); refine blk_far ?_ NB237_277.out _; (with_reducible repeat (first | refine blk_drewN ?_ _ | refine blk_drew ?_ | refine blk_alloc ?_ _)); refine blk_far ?_ NB237_277.out _; (with_reducible repeat (first | refine blk_drewN ?_ _ | refine blk_drew ?_ | refine blk_alloc ?_ _)); exact BK237.out), (by (with_reducible repeat (first | refine blk_drewN ?_ _ | refine blk_drew ?_ | refine blk_alloc ?_ _)); refine blk_far ?_ NB238_277.out _; (with_reducible repeat (first | refine blk_drewN ?_ _ | refine blk_drew ?_ | refine blk_alloc ?_ _)); refine blk_far ?_ NB238_277.out _; (with_reducible repeat (first | refine blk_drewN ?_ _ | refine blk_drew ?_ | refine blk_alloc ?_ _)); refine blk_far ?_ NB238_277.out _; (with_reducible repeat (first | refine blk_drewN ?_ _ | refine blk_drew ?_ | refine blk_alloc ?_ _)); refine blk_far ?_ NB238_277.out _; (with_reducible repeat (first | refine blk_drewN ?_ _ | refine blk_drew ?_ | refine blk_alloc ?_ _)); refine blk_far ?_ NB238_277.out _; (with_reducible repeat (first | refine blk_drewN ?_ _ | refine blk_drew ?_ | refine blk_alloc ?_ _)); refine blk_far ?_ NB238_277.out _; (with_reducible repeat (first | refine blk_drewN ?_ _ | refine blk_drew ?_ | refine blk_alloc ?_ _)); exact BK238.out), (by (with_reducible repeat (first | refine blk_drewN ?_ _ | refine blk_drew ?_ | refine blk_alloc ?_ _)); refine blk_far ?_ NB239_277.out _; (with_reducible repeat (first | refine blk_drewN ?_ _ | refine blk_drew ?_ | refine blk_alloc ?_ _)); refine blk_far ?_ NB239_277.out _; (with_reducible repeat (first | refine blk_drewN ?_ _ | refine blk_drew ?_ | refine blk_alloc ?_ _)); refine blk_far ?_ NB239_277.out _; (with_reducible repeat (first | refine blk_drewN ?_ _ | refine blk_drew ?_ | refine blk_alloc ?_ _)); refine blk_far ?_ NB239_277.out _; (with_reducible repeat (first | refine blk_drewN ?_ _ | refine blk_drew ?_ | refine blk_alloc ?_ _)); refine blk_far ?_ NB239_277.out _; (with_reducible repeat (first | refine blk_drewN ?_ _ | refine blk_drew ?_ | refine blk_alloc ?_ _)); refine blk_far ?_ NB239_277.out _; (with_reducible repeat (first | refine blk_drewN ?_ _ | refine blk_drew ?_ | refine blk_alloc ?_ _)); exact BK239.out), (by (with_reducible repeat (first | refine blk_drewN ?_ _ | refine blk_drew ?_ | refine blk_alloc ?_ _)); refine blk_far ?_ NB258_277.out _; (with_reducible repeat (first | refine blk_drewN ?_ _ | refine blk_drew ?_ | refine blk_alloc ?_ _)); refine blk_far ?_ NB258_277.out _; (with_reducible repeat (first | refine blk_drewN ?_ _ | refine blk_drew ?_ | refine blk_alloc ?_ _)); refine blk_far ?_ NB258_277.out _; (with_reducible repeat (first | refine blk_drewN ?_ _ | refine blk_drew ?_ | refine blk_alloc ?_ _)); refine blk_far ?_ NB258_277.out _; (with_reducible repeat (first | refine blk_drewN ?_ _ | refine blk_drew ?_ | refine blk_alloc ?_ _)); refine blk_far ?_ NB258_277.out _; (with_reducible repeat (first | refine blk_drewN ?_ _ | refine blk_drew ?_ | refine blk_alloc ?_ _)); refine blk_far ?_ NB258_277.out _; (with_reducible repeat (first | refine blk_drewN ?_ _ | refine blk_drew ?_ | refine blk_alloc ?_ _)); exact BK258.out), (by repeat (first | (with_reducible first | exact HB.out | apply below_alloc | apply pw_below_drewN | apply below_drew1 | refine below_set ?_ GE236.out | refine below_set ?_ GE237.out | refine below_set ?_ GE238.out | refine below_set ?_ GE239.out | refine below_set ?_ GE258.out | refine below_set ?_ GE277.out) | exact HB.out)), fun _ h1_ => absurd ((up_self b 14).symm.trans h1_) (by decide), fun _ => GW277.out, fun _ => GE277.out, fun _ => NB236_277.out, fun _ => NB277_236.out, fun _ => NB237_277.out, fun _ => NB277_237.out, fun _ => NB238_277.out, fun _ => NB277_238.out, fun _ => NB239_277.out, fun _ => NB277_239.out, fun _ => NB258_277.out, fun _ => NB277_258.out, fun _ => (by (with_reducible repeat (first | refine blk_drewN ?_ _ | refine blk_drew ?_ | refine blk_alloc ?_ _)); refine blk_put (cs := #[.int .i8 t269, .int .i8 t270, .int .i8 t271, .int .i8 t272, .int .i8 t273, .int .i8 0]) ?_ 5 _ rfl; (with_reducible repeat (first | refine blk_drewN ?_ _ | refine blk_drew ?_ | refine blk_alloc ?_ _)); refine blk_put (cs := #[.int .i8 t269, .int .i8 t270, .int .i8 t271, .int .i8 t272, .int .i8 0, .int .i8 0]) ?_ 4 _ rfl; (with_reducible repeat (first | refine blk_drewN ?_ _ | refine blk_drew ?_ | refine blk_alloc ?_ _)); refine blk_put (cs := #[.int .i8 t269, .int .i8 t270, .int .i8 t271, .int .i8 0, .int .i8 0, .int .i8 0]) ?_ 3 _ rfl; (with_reducible repeat (first | refine blk_drewN ?_ _ | refine blk_drew ?_ | refine blk_alloc ?_ _)); refine blk_put (cs := #[.int .i8 t269, .int .i8 t270, .int .i8 0, .int .i8 0, .int .i8 0, .int .i8 0]) ?_ 2 _ rfl; (with_reducible repeat (first | refine blk_drewN ?_ _ | refine blk_drew ?_ | refine blk_alloc ?_ _)); refine blk_put (cs := #[.int .i8 t269, .int .i8 0, .int .i8 0, .int .i8 0, .int .i8 0, .int .i8 0]) ?_ 1 _ rfl; (with_reducible repeat (first | refine blk_drewN ?_ _ | refine blk_drew ?_ | refine blk_alloc ?_ _)); refine blk_put (cs := #[.int .i8 0, .int .i8 0, .int .i8 0, .int .i8 0, .int .i8 0, .int .i8 0]) ?_ 0 _ rfl; (with_reducible repeat (first | refine blk_drewN ?_ _ | refine blk_drew ?_ | refine blk_alloc ?_ _)); exact BK277.out), Q_X13_⟩
          refine steps_cons ?_ ?_
          · rintro b a w' ⟨gb277, m13_, ha, Q_BK236, Q_BK237, Q_BK238, Q_BK239, Q_BK258, Q_HB, Q_BK277, Q_GW277, Q_GE277, Q_NB236_277, Q_NB277_236, Q_NB237_277, Q_NB277_237, Q_NB238_277, Q_NB277_238, Q_NB239_277, Q_NB277_239, Q_NB258_277, Q_NB277_258, Q_BK277_e14, Q_X13_⟩ hb_ hon hoff
            refine ⟨_, rfl, fun K hK => ?_⟩
            have e39 : a.tmps[39]? = some (.bool t275) := by rw [ha]; exact putSel_on (e := (11, 39, .bool t275)) 11 rfl rfl (hon 11 (by kernel_rfl)) rfl
            replace ha := Aside0.mk ha
            have BK236 := Aside0.mk Q_BK236
            have BK237 := Aside0.mk Q_BK237
            have BK238 := Aside0.mk Q_BK238
            have BK239 := Aside0.mk Q_BK239
            have BK258 := Aside0.mk Q_BK258
            have HB := Aside0.mk Q_HB
            have GW277 := Aside0.mk (Q_GW277 (hon 13 (by kernel_rfl)))
            have GE277 := Aside0.mk (Q_GE277 (hon 13 (by kernel_rfl)))
            have NB236_277 := Aside0.mk (Q_NB236_277 (hon 13 (by kernel_rfl)))
            have NB277_236 := Aside0.mk (Q_NB277_236 (hon 13 (by kernel_rfl)))
            have NB237_277 := Aside0.mk (Q_NB237_277 (hon 13 (by kernel_rfl)))
            have NB277_237 := Aside0.mk (Q_NB277_237 (hon 13 (by kernel_rfl)))
            have NB238_277 := Aside0.mk (Q_NB238_277 (hon 13 (by kernel_rfl)))
            have NB277_238 := Aside0.mk (Q_NB277_238 (hon 13 (by kernel_rfl)))
            have NB239_277 := Aside0.mk (Q_NB239_277 (hon 13 (by kernel_rfl)))
            have NB277_239 := Aside0.mk (Q_NB277_239 (hon 13 (by kernel_rfl)))
            have NB258_277 := Aside0.mk (Q_NB258_277 (hon 13 (by kernel_rfl)))
            have NB277_258 := Aside0.mk (Q_NB277_258 (hon 13 (by kernel_rfl)))
            have BK277 := Aside0.mk (Q_BK277_e14 (hon 14 (by kernel_rfl)))
            refine value_ (w1 := w') (v := .bool t275) (by rfl) rfl ?_ ?_
            · go_simp
              (try simp only [i64_w])
              try rfl
            refine hK.out _ _ ⟨gb277, m13_, (by rw [ha.out]; exact putSel_upk 14 hb_ rfl rfl rfl), Q_BK236, Q_BK237, Q_BK238, Q_BK239, Q_BK258, Q_HB, fun _ h1_ => absurd ((hon 14 (by kernel_rfl)).symm.trans h1_) (by decide), Q_GW277, Q_GE277, Q_NB236_277, Q_NB277_236, Q_NB237_277, Q_NB277_237, Q_NB238_277, Q_NB277_238, Q_NB239_277, Q_NB277_239, Q_NB258_277, Q_NB277_258, Q_BK277_e14, Q_X13_⟩
          refine steps_cons ?_ ?_
          · rintro b a w' ⟨gb277, m13_, ha, Q_BK236, Q_BK237, Q_BK238, Q_BK239, Q_BK258, Q_HB, Q_BK277, Q_GW277, Q_GE277, Q_NB236_277, Q_NB277_236, Q_NB237_277, Q_NB277_237, Q_NB238_277, Q_NB277_238, Q_NB239_277, Q_NB277_239, Q_NB258_277, Q_NB277_258, Q_BK277_e14, Q_X13_⟩ hb_ hon hoff
            refine ⟨_, rfl, fun K hK => ?_⟩
            have e40 : a.tmps[40]? = some (.int .i64 t276) := by rw [ha]; exact putSel_on (e := (12, 40, .int .i64 t276)) 12 rfl rfl (hon 12 (by kernel_rfl)) rfl
            replace ha := Aside0.mk ha
            have BK236 := Aside0.mk Q_BK236
            have BK237 := Aside0.mk Q_BK237
            have BK238 := Aside0.mk Q_BK238
            have BK239 := Aside0.mk Q_BK239
            have BK258 := Aside0.mk Q_BK258
            have HB := Aside0.mk Q_HB
            have GW277 := Aside0.mk (Q_GW277 (hon 13 (by kernel_rfl)))
            have GE277 := Aside0.mk (Q_GE277 (hon 13 (by kernel_rfl)))
            have NB236_277 := Aside0.mk (Q_NB236_277 (hon 13 (by kernel_rfl)))
            have NB277_236 := Aside0.mk (Q_NB277_236 (hon 13 (by kernel_rfl)))
            have NB237_277 := Aside0.mk (Q_NB237_277 (hon 13 (by kernel_rfl)))
            have NB277_237 := Aside0.mk (Q_NB277_237 (hon 13 (by kernel_rfl)))
            have NB238_277 := Aside0.mk (Q_NB238_277 (hon 13 (by kernel_rfl)))
            have NB277_238 := Aside0.mk (Q_NB277_238 (hon 13 (by kernel_rfl)))
            have NB239_277 := Aside0.mk (Q_NB239_277 (hon 13 (by kernel_rfl)))
            have NB277_239 := Aside0.mk (Q_NB277_239 (hon 13 (by kernel_rfl)))
            have NB258_277 := Aside0.mk (Q_NB258_277 (hon 13 (by kernel_rfl)))
            have NB277_258 := Aside0.mk (Q_NB277_258 (hon 13 (by kernel_rfl)))
            have BK277 := Aside0.mk (Q_BK277_e14 (hon 14 (by kernel_rfl)))
            refine value_ (w1 := w') (v := .int .i64 t276) (by rfl) rfl ?_ ?_
            · go_simp
              (try simp only [i64_w])
              try rfl
            refine hK.out _ _ ⟨gb277, m13_, (by rw [ha.out]; exact putSel_upk 15 hb_ rfl rfl rfl), Q_BK236, Q_BK237, Q_BK238, Q_BK239, Q_BK258, Q_HB, fun _ h1_ => absurd ((hon 14 (by kernel_rfl)).symm.trans h1_) (by decide), Q_GW277, Q_GE277, Q_NB236_277, Q_NB277_236, Q_NB237_277, Q_NB277_237, Q_NB238_277, Q_NB277_238, Q_NB239_277, Q_NB277_239, Q_NB258_277, Q_NB277_258, Q_BK277_e14, Q_X13_⟩
          exact steps_nil
        rintro b a w50 hall ⟨gb277, m13_, ha, Q_BK236, Q_BK237, Q_BK238, Q_BK239, Q_BK258, Q_HB, Q_BK277, Q_GW277, Q_GE277, Q_NB236_277, Q_NB277_236, Q_NB237_277, Q_NB277_237, Q_NB238_277, Q_NB277_238, Q_NB239_277, Q_NB277_239, Q_NB258_277, Q_NB277_258, Q_BK277_e14, Q_X13_⟩
        clear BK236 BK237 BK238 BK239 BK258 HB
        have hb0_ := hall 0 (by kernel_rfl)
        have hb1_ := hall 1 (by kernel_rfl)
        have hb2_ := hall 2 (by kernel_rfl)
        have hb3_ := hall 3 (by kernel_rfl)
        have hb4_ := hall 4 (by kernel_rfl)
        have hb5_ := hall 5 (by kernel_rfl)
        have hb6_ := hall 6 (by kernel_rfl)
        have hb7_ := hall 7 (by kernel_rfl)
        have hb8_ := hall 8 (by kernel_rfl)
        have hb9_ := hall 9 (by kernel_rfl)
        have hb10_ := hall 10 (by kernel_rfl)
        have hb11_ := hall 11 (by kernel_rfl)
        have hb12_ := hall 12 (by kernel_rfl)
        have hb13_ := hall 13 (by kernel_rfl)
        have hb14_ := hall 14 (by kernel_rfl)
        have hb15_ := hall 15 (by kernel_rfl)
        have hb16_ := hall 16 (by kernel_rfl)
        subst ha
        obtain rfl := Q_X13_ hb13_
        simp only [putSel, hb0_, hb1_, hb2_, hb3_, hb4_, hb5_, hb6_, hb7_, hb8_, hb9_, hb10_, hb11_, hb12_, hb13_, hb14_, hb15_, hb16_, if_true, Act.put, List.setIfInBounds_toArray, List.set_cons_zero, List.set_cons_succ]
        have BK236 := Aside0.mk Q_BK236
        clear Q_BK236
        have BK237 := Aside0.mk Q_BK237
        clear Q_BK237
        have BK238 := Aside0.mk Q_BK238
        clear Q_BK238
        have BK239 := Aside0.mk Q_BK239
        clear Q_BK239
        have BK258 := Aside0.mk Q_BK258
        clear Q_BK258
        have HB := Aside0.mk Q_HB
        clear Q_HB
        clear Q_BK277
        have GW277 := Aside0.mk (Q_GW277 hb13_)
        clear Q_GW277
        have GE277 := Aside0.mk (Q_GE277 hb13_)
        clear Q_GE277
        have NB236_277 := Aside0.mk (Q_NB236_277 hb13_)
        clear Q_NB236_277
        have NB277_236 := Aside0.mk (Q_NB277_236 hb13_)
        clear Q_NB277_236
        have NB237_277 := Aside0.mk (Q_NB237_277 hb13_)
        clear Q_NB237_277
        have NB277_237 := Aside0.mk (Q_NB277_237 hb13_)
        clear Q_NB277_237
        have NB238_277 := Aside0.mk (Q_NB238_277 hb13_)
        clear Q_NB238_277
        have NB277_238 := Aside0.mk (Q_NB277_238 hb13_)
        clear Q_NB277_238
        have NB239_277 := Aside0.mk (Q_NB239_277 hb13_)
        clear Q_NB239_277
        have NB277_239 := Aside0.mk (Q_NB277_239 hb13_)
        clear Q_NB277_239
        have NB258_277 := Aside0.mk (Q_NB258_277 hb13_)
        clear Q_NB258_277
        have NB277_258 := Aside0.mk (Q_NB277_258 hb13_)
        clear Q_NB277_258
        have BK277 := Aside0.mk (Q_BK277_e14 hb14_)
        clear Q_BK277_e14
        clear hall hb0_ hb1_ hb2_ hb3_ hb4_ hb5_ hb6_ hb7_ hb8_ hb9_ hb10_ hb11_ hb12_ hb13_ hb14_ hb15_ hb16_
        have hnb51 := NB277_236.out
        have hnc51 := NB236_277.out
        have hnb52 := NB277_237.out
        have hnc52 := NB237_277.out
        have hnb53 := NB277_238.out
        have hnc53 := NB238_277.out
        have hnb54 := NB277_239.out
        have hnc54 := NB239_277.out
        have hnb55 := NB277_258.out
        have hnc55 := NB258_277.out
        have hcz56_0 : w50.cell? ⟨gb277, 0, none⟩ = some (.int .i8 t269) := (blk_cell BK277.out 0).trans rfl
        have hcz56_1 : w50.cell? ⟨gb277, 1, none⟩ = some (.int .i8 t270) := (blk_cell BK277.out 1).trans rfl
        have hcz56_2 : w50.cell? ⟨gb277, 2, none⟩ = some (.int .i8 t271) := (blk_cell BK277.out 2).trans rfl
        have hcz56_3 : w50.cell? ⟨gb277, 3, none⟩ = some (.int .i8 t272) := (blk_cell BK277.out 3).trans rfl
        have hcz56_4 : w50.cell? ⟨gb277, 4, none⟩ = some (.int .i8 t273) := (blk_cell BK277.out 4).trans rfl
        have hcz56_5 : w50.cell? ⟨gb277, 5, none⟩ = some (.int .i8 t274) := (blk_cell BK277.out 5).trans rfl
        have hfz56_0 := blk_frozen BK277.out 0
        have hfz56_1 := blk_frozen BK277.out 1
        have hfz56_2 := blk_frozen BK277.out 2
        have hfz56_3 := blk_frozen BK277.out 3
        have hfz56_4 := blk_frozen BK277.out 4
        have hfz56_5 := blk_frozen BK277.out 5
        have hnb57 := NB258_236.out
        have hnc57 := NB236_258.out
        have hnb58 := NB258_237.out
        have hnc58 := NB237_258.out
        have hnb59 := NB258_238.out
        have hnc59 := NB238_258.out
        have hnb60 := NB258_239.out
        have hnc60 := NB239_258.out
        have hcz61_0 : w50.cell? ⟨gb258, 0, none⟩ = some (.int .i8 t250) := (blk_cell BK258.out 0).trans rfl
        have hcz61_1 : w50.cell? ⟨gb258, 1, none⟩ = some (.int .i8 t251) := (blk_cell BK258.out 1).trans rfl
        have hcz61_2 : w50.cell? ⟨gb258, 2, none⟩ = some (.int .i8 t252) := (blk_cell BK258.out 2).trans rfl
        have hcz61_3 : w50.cell? ⟨gb258, 3, none⟩ = some (.int .i8 t253) := (blk_cell BK258.out 3).trans rfl
        have hcz61_4 : w50.cell? ⟨gb258, 4, none⟩ = some (.int .i8 t254) := (blk_cell BK258.out 4).trans rfl
        have hcz61_5 : w50.cell? ⟨gb258, 5, none⟩ = some (.int .i8 t255) := (blk_cell BK258.out 5).trans rfl
        have hfz61_0 := blk_frozen BK258.out 0
        have hfz61_1 := blk_frozen BK258.out 1
        have hfz61_2 := blk_frozen BK258.out 2
        have hfz61_3 := blk_frozen BK258.out 3
        have hfz61_4 := blk_frozen BK258.out 4
        have hfz61_5 := blk_frozen BK258.out 5
        try go_wp2_with (first | ((with_reducible refine gate_callee (f := 17) rfl ?_); refine goesL_ (some 43) rfl rfl Try.func17 (by kernel_rfl) rfl #[.agg #[.int .i8 t269, .int .i8 t270, .int .i8 t271, .int .i8 t272, .int .i8 t273, .int .i8 t274], .agg #[.int .i8 t250, .int .i8 t251, .int .i8 t252, .int .i8 t253, .int .i8 t254, .int .i8 t255]] rfl (by (try simp only [List.map_toArray, List.map_cons, List.map_nil]); first | done | rfl | (simp only [List.length_drop, List.length_take]; rfl)) ?_; (with_reducible refine (laws_eqBoat.calls t269 t270 t271 t272 t273 t274 t250 t251 t252 t253 t254 t255 true _ A15.out).mono ?_); rintro e w62 ⟨rfl, hb⟩; refine ⟨_, rfl, ?_⟩; have n0_ := Aside0.mk (blk_below (g := gb236) (o := .cells (a0).A 26 (0, 0)) (by (with_reducible repeat (first | refine blk_drewN ?_ _ | refine blk_drew ?_ | refine blk_alloc ?_ _)); exact BK236.out) hb); have n1_ := Aside0.mk (blk_below (g := gb237) (o := .cells (a1).A 28 (0, 0)) (by (with_reducible repeat (first | refine blk_drewN ?_ _ | refine blk_drew ?_ | refine blk_alloc ?_ _)); exact BK237.out) hb); have n2_ := Aside0.mk (blk_below (g := gb238) (o := .cells #[.int .i8 a2_0, .int .i8 a2_1, .int .i8 a2_2, .int .i8 a2_3, .int .i8 a2_4, .int .i8 a2_5] 38 (0, 0)) (by (with_reducible repeat (first | refine blk_drewN ?_ _ | refine blk_drew ?_ | refine blk_alloc ?_ _)); exact BK238.out) hb); have n3_ := Aside0.mk (blk_below (g := gb239) (o := .cells #[.int .i8 a3_0, .int .i8 a3_1] 47 (0, 0)) (by (with_reducible repeat (first | refine blk_drewN ?_ _ | refine blk_drew ?_ | refine blk_alloc ?_ _)); exact BK239.out) hb); have n4_ := Aside0.mk (blk_below (g := gb258) (o := .cells #[.int .i8 t250, .int .i8 t251, .int .i8 t252, .int .i8 t253, .int .i8 t254, .int .i8 t255] 43 (0, 0)) (by (with_reducible repeat (first | refine blk_drewN ?_ _ | refine blk_drew ?_ | refine blk_alloc ?_ _)); exact BK258.out) hb); have n5_ := Aside0.mk (blk_below (g := gb277) (o := .cells #[.int .i8 t269, .int .i8 t270, .int .i8 t271, .int .i8 t272, .int .i8 t273, .int .i8 t274] 43 (0, 0)) (by (with_reducible repeat (first | refine blk_drewN ?_ _ | refine blk_drew ?_ | refine blk_alloc ?_ _)); exact BK277.out) hb); have n6_ := Aside0.mk (below_step (by repeat (first | (with_reducible first | exact HB.out | apply below_alloc | apply pw_below_drewN | apply below_drew1 | refine below_set ?_ GE236.out | refine below_set ?_ GE237.out | refine below_set ?_ GE238.out | refine below_set ?_ GE239.out | refine below_set ?_ GE258.out | refine below_set ?_ GE277.out) | exact HB.out)) hb); clear BK236; clear BK237; clear BK238; clear BK239; clear BK258; clear BK277; clear HB; have BK236 := n0_; have BK237 := n1_; have BK238 := n2_; have BK239 := n3_; have BK258 := n4_; have BK277 := n5_; have HB := n6_; clear n0_ n1_ n2_ n3_ n4_ n5_ n6_; (try clear hb); (try clear hb2); (try clear hk); (try clear hi)))
        go_ret
        exact ⟨by first | rfl | (simp [errW_none, errW_some] <;> rfl) | (simp [*, errW_none, errW_some] <;> rfl), by repeat (first | (with_reducible first | exact HB.out | apply below_alloc | apply pw_below_drewN | apply below_drew1 | refine below_set ?_ GE236.out | refine below_set ?_ GE237.out | refine below_set ?_ GE238.out | refine below_set ?_ GE239.out | refine below_set ?_ GE258.out | refine below_set ?_ GE277.out) | exact HB.out)⟩
      · rw [if_neg c18] at H
        have c18b0 : (t276 == t257) = false := beq_eq_false_iff_ne.mpr c18
        have c18b1 : (t276 != t257) = true := bne_iff_ne.mpr c18
        exact absurd (Option.some.inj H) (by rw [hr_.out]; decide)
  · replace c16 := Bool.eq_false_iff.mpr c16
    subst c16
    have H1 : (some false) = some r := by rw [if_neg (show ¬ (false = true) by decide)] at H; exact H
    clear H
    have H := H1
    clear H1
    exact absurd (Option.some.inj H) (by rw [hr_.out]; decide)
end Go.Proofs.Ytofpjfbkbmpnnaa.G
end
