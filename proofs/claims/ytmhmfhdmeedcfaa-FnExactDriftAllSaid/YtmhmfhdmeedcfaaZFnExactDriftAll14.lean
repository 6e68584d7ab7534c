/- A part of the proof of: FnExactDriftAll returns true, whatever the input, and leaves its arguments as they were. -/
import Derived.Test.YtmhmfhdmeedcfaaProg
import Derived.Below
import Derived.Deep.Draws
import Derived.Deep.AppendLies
import Derived.Maps.AppendAt
import Derived.OwnWalk
import Derived.Laws.BytesArg
import Derived.Laws.MakeOwn
import Derived.Laws.OwnMore
import Derived.Deep.OwnRows
import Derived.Tactics
import Derived.Lib.ConvBytes
import Derived.Laws.Slices
import Derived.WalkKit
import Derived.KernelRfl
import Derived.RowKit3
import Derived.Deep.LoopGhost
import Derived.Deep.QuietTactic
import Derived.BigQuiet
import Derived.WideLaws
import Derived.Deep.DeepCutAuto
import Derived.Deep.CutBlock
import Derived.Deep.RegionHeld3
import Derived.Laws.Rows
import Derived.Lib.AppendStr
import Derived.ArgAppend
import Derived.Laws.IdiomCopy
import Derived.OrdersHeld
import Derived.Laws.BitsLemmas
import Derived.RowKit
import Derived.Laws.StructEq
import Derived.Deep.Slices
import Derived.ChangeSame
import Derived.ChangeArms
import Derived.OpenShut
import Derived.ProofKit
import Derived.Laws.Tables
import Derived.Lib.Hide
import Derived.Laws.CopyOwn
import Derived.Laws.CopyRow
import Derived.Test.YtmhmfhdmeedcfaaZFnExactDriftAll1
import Derived.Test.YtmhmfhdmeedcfaaZFnExactDriftAll2
import Derived.Test.YtmhmfhdmeedcfaaZFnExactDriftAll3
import Derived.Test.YtmhmfhdmeedcfaaZFnExactDriftAll4
import Derived.Test.YtmhmfhdmeedcfaaZFnExactDriftAll5
import Derived.Test.YtmhmfhdmeedcfaaZFnExactDriftAll6
import Derived.Test.YtmhmfhdmeedcfaaZFnExactDriftAll7
import Derived.Test.YtmhmfhdmeedcfaaZFnExactDriftAll8
import Derived.Test.YtmhmfhdmeedcfaaZFnExactDriftAll9
import Derived.Test.YtmhmfhdmeedcfaaZFnExactDriftAll10
import Derived.Test.YtmhmfhdmeedcfaaZFnExactDriftAll11
import Derived.Test.YtmhmfhdmeedcfaaZFnExactDriftAll12
import Derived.Test.YtmhmfhdmeedcfaaZFnExactDriftAll13
section
namespace Go.Proofs.Ytmhmfhdmeedcfaa.G
open Go.RowKit Go.Proofs.YtmhmfhdmeedcfaaW.PrintWords Go.Proofs.YtmhmfhdmeedcfaaW.PrintLast Go.Proofs.YtmhmfhdmeedcfaaW.PrintMore
attribute [local go_sem] max2_int min2_int max_two min_two max_three min_three max_four min_four   -- for this text's walks alone
set_option linter.unusedVariables false
set_option linter.unusedSimpArgs false
mutual
def laws_FnExactDriftAll.j0 : Nat → List (S80) → List (S42) → Int → List (S78) → List (S42) → Int → Bool → O26 → O28 → Int → Int → Int → Int → Int → Int → Option (Bool)
 | 0, _, _, _, _, _, _, _, _, _, _, _, _, _, _, _ => none
 | k + 1, x3, x10, x11, x12, x13, x14, x58, x267000, x268000, x269000, x269001, x269002, x269003, x269004, x269005 => if x58 = true then (some false) else ((laws_toWindS.f k x3).bind fun t301 => ((laws_eqWindS.f k x12 t301).bind fun t304 => (if t304 = true then ((laws_markWindS.f k x12 1).bind fun bt305 => (if bt305.1 < 0 then (laws_FnExactDriftAll.j1 k x3 x10 x11 x13 true x267000 x268000 x269000 x269001 x269002 x269003 x269004 x269005) else ((laws_eqPlaceS.f k x13 x10).bind fun t307 => (if t307 = true then (laws_FnExactDriftAll.j1 k x3 x10 x11 x13 (x14 != x11) x267000 x268000 x269000 x269001 x269002 x269003 x269004 x269005) else (laws_FnExactDriftAll.j1 k x3 x10 x11 x13 true x267000 x268000 x269000 x269001 x269002 x269003 x269004 x269005))))) else (some false))))
def laws_FnExactDriftAll.j1 : Nat → List (S80) → List (S42) → Int → List (S42) → Bool → O26 → O28 → Int → Int → Int → Int → Int → Int → Option (Bool)
 | 0, _, _, _, _, _, _, _, _, _, _, _, _, _ => none
 | k + 1, x3, x10, x11, x13, x79, x267000, x268000, x269000, x269001, x269002, x269003, x269004, x269005 => if x79 = true then (some false) else ((laws_markPlaceS.f k x13 1).bind fun bt308 => ((laws_heldPlaceS.f k bt308.2 1).bind fun t310 => (if t310 < 0 then (some false) else (if t310 = bt308.1 then ((laws_toBay.f x267000).bind fun t311 => ((laws_toGrounds.f x268000).bind fun t312 => ((laws_toBoat.f x269000 x269001 x269002 x269003 x269004 x269005).bind fun bt313 => ((laws_toWindS.f k x3).bind fun t319 => ((impl_DriftAll.f k t311 t312 bt313.1 bt313.2.1 bt313.2.2.1 bt313.2.2.2.1 bt313.2.2.2.2.1 bt313.2.2.2.2.2 t319).bind fun bt322 => ((laws_eqPlaceS.f k bt322.1 x10).bind fun t326 => (if t326 = true then (laws_FnExactDriftAll.j2 k bt308.2 bt308.1 (bt322.2 != x11)) else (laws_FnExactDriftAll.j2 k bt308.2 bt308.1 true)))))))) else (some false)))))
def laws_FnExactDriftAll.j2 : Nat → List (S42) → Int → Bool → Option (Bool)
 | 0, _, _, _ => none
 | k + 1, x13, x16, x111 => if x111 = true then (some false) else ((laws_heldPlaceS.f k x13 1).bind fun t327 => (if t327 < 0 then (some false) else (if t327 = x16 then (some true) else (some false))))
end
def laws_FnExactDriftAll.f (k : Nat) (a0 : O26) (a1 : O28) (a2_0 : Int) (a2_1 : Int) (a2_2 : Int) (a2_3 : Int) (a2_4 : Int) (a2_5 : Int) (l3 : List (S80)) : Option (Bool) := (laws_szWindS.f l3 1048576).bind fun t269 => (if t269 < 0 then (some true) else ((laws_toBay.f a0).bind fun t270 => ((laws_toGrounds.f a1).bind fun t271 => ((laws_toBoat.f a2_0 a2_1 a2_2 a2_3 a2_4 a2_5).bind fun bt272 => ((laws_toWindS.f k l3).bind fun t278 => ((spec_DriftAll.f k t270 t271 bt272.1 bt272.2.1 bt272.2.2.1 bt272.2.2.2.1 bt272.2.2.2.2.1 bt272.2.2.2.2.2 t278).bind fun bt281 => ((laws_toWindS.f k l3).bind fun t285 => ((laws_toBay.f a0).bind fun t288 => ((laws_toGrounds.f a1).bind fun t289 => ((laws_toBoat.f a2_0 a2_1 a2_2 a2_3 a2_4 a2_5).bind fun bt290 => ((impl_DriftAll.f k t288 t289 bt290.1 bt290.2.1 bt290.2.2.1 bt290.2.2.2.1 bt290.2.2.2.2.1 bt290.2.2.2.2.2 t285).bind fun bt296 => ((laws_eqPlaceS.f k bt296.1 bt281.1).bind fun t300 => (if t300 = true then (laws_FnExactDriftAll.j0 k l3 bt281.1 bt281.2 t285 bt296.1 bt296.2 (bt296.2 != bt281.2) a0 a1 a2_0 a2_1 a2_2 a2_3 a2_4 a2_5) else (laws_FnExactDriftAll.j0 k l3 bt281.1 bt281.2 t285 bt296.1 bt296.2 true a0 a1 a2_0 a2_1 a2_2 a2_3 a2_4 a2_5))))))))))))))
def laws_FnExactDriftAll.T5 : Bool × List (List Nat × List Nat) := (true, [([], []), ([0], [0]), ([], []), ([2, 1], [2]), ([], []), ([4, 3], [4]), ([], []), ([6, 5], [6]), ([1, 3, 5, 7, 7], [1, 3, 5, 7]), ([8], [8]), ([9], [9]), ([9], [9]), ([10, 8, 0, 1, 2, 3, 4, 5, 6, 7, 8, 9, 10], [10]), ([11, 12, 0, 1, 2, 3, 4, 5, 6, 7, 8, 9, 10, 11, 12], [11])])
def laws_FnExactDriftAll.B5 : List Nat := [0, 1, 0, 7, 0, 31, 0, 127, 255, 511, 1023, 1023, 2047, 8191]
theorem laws_FnExactDriftAll.tab5 : rtab .any (opsOf Try.f3 5) = laws_FnExactDriftAll.T5 := by kernel_rfl
theorem laws_FnExactDriftAll.bits5 : waitsOk laws_FnExactDriftAll.T5.2 laws_FnExactDriftAll.B5 = true := by kernel_rfl
def laws_FnExactDriftAll.T7 : Bool × List (List Nat × List Nat) := (true, [([], []), ([0], [0]), ([], []), ([2, 1], [2]), ([], []), ([4, 3], [4]), ([], []), ([1, 3, 5, 6, 5], [1, 3, 5, 6]), ([7], [7]), ([8], [8]), ([8], [8]), ([9, 7, 0, 1, 2, 3, 4, 5, 6, 7, 8, 9], [9]), ([10, 11, 0, 1, 2, 3, 4, 5, 6, 7, 8, 9, 10, 11], [10])])
def laws_FnExactDriftAll.B7 : List Nat := [0, 1, 0, 7, 0, 31, 0, 127, 255, 511, 511, 1023, 4095]
theorem laws_FnExactDriftAll.tab7 : rtab .any (opsOf Try.f3 7) = laws_FnExactDriftAll.T7 := by kernel_rfl
theorem laws_FnExactDriftAll.bits7 : waitsOk laws_FnExactDriftAll.T7.2 laws_FnExactDriftAll.B7 = true := by kernel_rfl
def laws_FnExactDriftAll.T24 : Bool × List (List Nat × List Nat) := (true, [([], []), ([0], [0]), ([], []), ([2, 1], [2]), ([], []), ([4, 3], [4]), ([], []), ([6, 5], [6]), ([1, 3, 5, 7, 7], [1, 3, 5, 7]), ([8], [8]), ([9], [9]), ([9], [9]), ([10, 8, 0, 1, 2, 3, 4, 5, 6, 7, 8, 9, 10], [10]), ([11, 12, 0, 1, 2, 3, 4, 5, 6, 7, 8, 9, 10, 11, 12], [11])])
def laws_FnExactDriftAll.B24 : List Nat := [0, 1, 0, 7, 0, 31, 0, 127, 255, 511, 1023, 1023, 2047, 8191]
theorem laws_FnExactDriftAll.tab24 : rtab .any (opsOf Try.f3 24) = laws_FnExactDriftAll.T24 := by kernel_rfl
theorem laws_FnExactDriftAll.bits24 : waitsOk laws_FnExactDriftAll.T24.2 laws_FnExactDriftAll.B24 = true := by kernel_rfl
set_option maxHeartbeats 8000000 in
set_option maxRecDepth 100000 in
theorem laws_FnExactDriftAll.calls (k : Nat) (a0 : O26) (a1 : O28) (a2_0 : Int) (a2_1 : Int) (a2_2 : Int) (a2_3 : Int) (a2_4 : Int) (a2_5 : Int) (A3 : Option Addr) (c3 : Nat) (l3 : List (S80)) (r : Bool) (w : World) (hr0_ : r = true) (hr3 : Kd.C k80 w A3 l3.length l3) (hc3 : l3.length ≤ c3) (h : laws_FnExactDriftAll.f k a0 a1 a2_0 a2_1 a2_2 a2_3 a2_4 a2_5 l3 = some r) :
  Calls Try.prog 3 #[VO26 a0, VO28 a1, .agg #[.int .i8 a2_0, .int .i8 a2_1, .int .i8 a2_2, .int .i8 a2_3, .int .i8 a2_4, .int .i8 a2_5], .slice A3 l3.length c3] w fun e w' => e = .returned (.bool r) ∧ Below w.heap.size w w' := by
 have hu32 := Try.underlying32
 have HR3 := Aside0.mk hr3
 have HC3 := Aside0.mk hc3
 clear hr3 hc3
 have hr_ := Aside0.mk hr0_
 clear hr0_
 have HB := Aside0.mk (Below.refl w.heap.size w)
 have H : ((laws_szWindS.f l3 1048576).bind fun t269 => (if t269 < 0 then (some true) else ((laws_toBay.f a0).bind fun t270 => ((laws_toGrounds.f a1).bind fun t271 => ((laws_toBoat.f a2_0 a2_1 a2_2 a2_3 a2_4 a2_5).bind fun bt272 => ((laws_toWindS.f k l3).bind fun t278 => ((spec_DriftAll.f k t270 t271 bt272.1 bt272.2.1 bt272.2.2.1 bt272.2.2.2.1 bt272.2.2.2.2.1 bt272.2.2.2.2.2 t278).bind fun bt281 => ((laws_toWindS.f k l3).bind fun t285 => ((laws_toBay.f a0).bind fun t288 => ((laws_toGrounds.f a1).bind fun t289 => ((laws_toBoat.f a2_0 a2_1 a2_2 a2_3 a2_4 a2_5).bind fun bt290 => ((impl_DriftAll.f k t288 t289 bt290.1 bt290.2.1 bt290.2.2.1 bt290.2.2.2.1 bt290.2.2.2.2.1 bt290.2.2.2.2.2 t285).bind fun bt296 => ((laws_eqPlaceS.f k bt296.1 bt281.1).bind fun t300 => (if t300 = true then (laws_FnExactDriftAll.j0 k l3 bt281.1 bt281.2 t285 bt296.1 bt296.2 (bt296.2 != bt281.2) a0 a1 a2_0 a2_1 a2_2 a2_3 a2_4 a2_5) else (laws_FnExactDriftAll.j0 k l3 bt281.1 bt281.2 t285 bt296.1 bt296.2 true a0 a1 a2_0 a2_1 a2_2 a2_3 a2_4 a2_5))))))))))))))) = some r := h
 clear h
 replace H := Option.bind_eq_some_iff.mp H
 obtain ⟨t269, A50, H⟩ := H
 replace H : (if t269 < 0 then (some true) else ((laws_toBay.f a0).bind fun t270 => ((laws_toGrounds.f a1).bind fun t271 => ((laws_toBoat.f a2_0 a2_1 a2_2 a2_3 a2_4 a2_5).bind fun bt272 => ((laws_toWindS.f k l3).bind fun t278 => ((spec_DriftAll.f k t270 t271 bt272.1 bt272.2.1 bt272.2.2.1 bt272.2.2.2.1 bt272.2.2.2.2.1 bt272.2.2.2.2.2 t278).bind fun bt281 => ((laws_toWindS.f k l3).bind fun t285 => ((laws_toBay.f a0).bind fun t288 => ((laws_toGrounds.f a1).bind fun t289 => ((laws_toBoat.f a2_0 a2_1 a2_2 a2_3 a2_4 a2_5).bind fun bt290 => ((impl_DriftAll.f k t288 t289 bt290.1 bt290.2.1 bt290.2.2.1 bt290.2.2.2.1 bt290.2.2.2.2.1 bt290.2.2.2.2.2 t285).bind fun bt296 => ((laws_eqPlaceS.f k bt296.1 bt281.1).bind fun t300 => (if t300 = true then (laws_FnExactDriftAll.j0 k l3 bt281.1 bt281.2 t285 bt296.1 bt296.2 (bt296.2 != bt281.2) a0 a1 a2_0 a2_1 a2_2 a2_3 a2_4 a2_5) else (laws_FnExactDriftAll.j0 k l3 bt281.1 bt281.2 t285 bt296.1 bt296.2 true a0 a1 a2_0 a2_1 a2_2 a2_3 a2_4 a2_5)))))))))))))) = some r := H
 have A5 := Aside0.mk A50
 clear A50
 by_cases c6 : t269 < 0
 ·rw [if_pos c6] at H
  have c6b0 : decide (t269 < 0) = true := decide_eq_true c6
  clear c6
  obtain rfl := Option.some.inj H
  go_enter Try.func3, Try.ntmps3
  go_wp2_with (first | ((with_reducible refine gate_dst (N := 4) rfl ?_); refine box_event ?hg (N := 4) ?hd (cs := (a0).A) (t := 26) ?hr ?_; (case hd => rfl); (case hg => rfl); (case hr => first | exact AR.run_box_row rfl rfl | (go_simp; done) | (go_simp; rfl)); intro gb266 hg w7 hbox hb; have n0_ := Aside0.mk (sqH HB.out hb); have n1_ := Aside0.mk (hbox); have n2_ := Aside0.mk ((by rw [hg]; exact (below_size (by repeat (first | (with_reducible first | exact HB.out | apply below_alloc | apply pw_below_drewN | apply below_drew1) | exact HB.out))) : w.heap.size ≤ gb266)); have n3_ := n2_; clear HB; have HB := n0_; have BK266 := n1_; have GW266 := n2_; have GE266 := n3_; clear n0_ n1_ n2_ n3_; clear hb hbox hg) | ((with_reducible refine gate_dst (N := 5) rfl ?_); refine box_event ?hg (N := 5) ?hd (cs := (a1).A) (t := 28) ?hr ?_; (case hd => rfl); (case hg => rfl); (case hr => first | exact AR.run_box_row rfl rfl | (go_simp; done) | (go_simp; rfl)); intro gb267 hg w8 hbox hb; have n0_ := Aside0.mk (sqB BK266.out hb); have n1_ := Aside0.mk (sqH HB.out hb); have n2_ := Aside0.mk (hbox); have n3_ := Aside0.mk ((by rw [hg]; exact (below_size (by repeat (first | (with_reducible first | exact HB.out | apply below_alloc | apply pw_below_drewN | apply below_drew1 | refine below_set ?_ GE266.out) | exact HB.out))) : w.heap.size ≤ gb267)); have n4_ := n3_; have n5_ := Aside0.mk ((by rw [hg]; exact Nat.ne_of_lt (blk_lt (g := gb266) (o := .cells (a0).A 26 (0, 0)) (sqO BK266.out)) : gb266 ≠ gb267)); have n6_ := Aside0.mk (Ne.symm n5_.out); clear BK266; clear HB; have BK266 := n0_; have HB := n1_; have BK267 := n2_; have GW267 := n3_; have GE267 := n4_; have NB266_267 := n5_; have NB267_266 := n6_; clear n0_ n1_ n2_ n3_ n4_ n5_ n6_; clear hb hbox hg) | ((with_reducible refine gate_dst (N := 6) rfl ?_); refine box_event ?hg (N := 6) ?hd (cs := #[.int .i8 a2_0, .int .i8 a2_1, .int .i8 a2_2, .int .i8 a2_3, .int .i8 a2_4, .int .i8 a2_5]) (t := 32) ?hr ?_; (case hd => rfl); (case hg => rfl); (case hr => first | (go_simp; done) | (go_simp; rfl)); intro gb268 hg w9 hbox hb; have n0_ := Aside0.mk (sqB BK266.out hb); have n1_ := Aside0.mk (sqB BK267.out hb); have n2_ := Aside0.mk (sqH HB.out hb); have n3_ := Aside0.mk (hbox); have n4_ := Aside0.mk ((by rw [hg]; exact (below_size (by repeat (first | (with_reducible first | exact HB.out | apply below_alloc | apply pw_below_drewN | apply below_drew1 | refine below_set ?_ GE266.out | refine below_set ?_ GE267.out) | exact HB.out))) : w.heap.size ≤ gb268)); have n5_ := n4_; have n6_ := Aside0.mk ((by rw [hg]; exact Nat.ne_of_lt (blk_lt (g := gb266) (o := .cells (a0).A 26 (0, 0)) (sqO BK266.out)) : gb266 ≠ gb268)); have n7_ := Aside0.mk (Ne.symm n6_.out); have n8_ := Aside0.mk ((by rw [hg]; exact Nat.ne_of_lt (blk_lt (g := gb267) (o := .cells (a1).A 28 (0, 0)) (sqO BK267.out)) : gb267 ≠ gb268)); have n9_ := Aside0.mk (Ne.symm n8_.out); clear BK266; clear BK267; clear HB; have BK266 := n0_; have BK267 := n1_; have HB := n2_; have BK268 := n3_; have GW268 := n4_; have GE268 := n5_; have NB266_268 := n6_; have NB268_266 := n7_; have NB267_268 := n8_; have NB268_267 := n9_; clear n0_ n1_ n2_ n3_ n4_ n5_ n6_ n7_ n8_ n9_; clear hb hbox hg) | ((with_reducible refine gate_callee (f := 8) rfl ?_); refine goesL_ (some 22) rfl rfl Try.func8 (by kernel_rfl) rfl #[.slice A3 l3.length c3, .int .i64 1048576] rfl (by (try simp only [List.map_toArray, List.map_cons, List.map_nil]); first | done | rfl | (simp only [List.length_drop, List.length_take]; rfl)) ?_; (with_reducible refine (laws_szWindS.calls _ _ l3 1048576 t269 _ ?side1 ?side2 A5.out).mono ?_); (case side1 => repeat (first | exact (Kd.C_below HR3.out HB.out) | (with_reducible refine Kd.C_alloc ?_ _) | (with_reducible refine Kd.C_drewN ?_ _) | (with_reducible refine Kd.C_drew ?_))); (case side2 => exact HC3.out); rintro e w' ⟨rfl, ⟨nd, rfl⟩⟩; refine ⟨_, rfl, ?_⟩))
  go_ret
  exact ⟨by first | rfl | (simp [errW_none, errW_some] <;> rfl) | (simp [*, errW_none, errW_some] <;> rfl), by repeat (first | (with_reducible first | exact HB.out | apply below_alloc | apply pw_below_drewN | apply below_drew1 | refine below_set ?_ GE266.out | refine below_set ?_ GE267.out | refine below_set ?_ GE268.out) | exact HB.out)⟩
 ·rw [if_neg c6] at H
  have c6b0 : decide (t269 < 0) = false := decide_eq_false c6
  clear c6
  replace H := Option.bind_eq_some_iff.mp H
  obtain ⟨t270, A100, H⟩ := H
  replace H : ((laws_toGrounds.f a1).bind fun t271 => ((laws_toBoat.f a2_0 a2_1 a2_2 a2_3 a2_4 a2_5).bind fun bt272 => ((laws_toWindS.f k l3).bind fun t278 => ((spec_DriftAll.f k t270 t271 bt272.1 bt272.2.1 bt272.2.2.1 bt272.2.2.2.1 bt272.2.2.2.2.1 bt272.2.2.2.2.2 t278).bind fun bt281 => ((laws_toWindS.f k l3).bind fun t285 => ((laws_toBay.f a0).bind fun t288 => ((laws_toGrounds.f a1).bind fun t289 => ((laws_toBoat.f a2_0 a2_1 a2_2 a2_3 a2_4 a2_5).bind fun bt290 => ((impl_DriftAll.f k t288 t289 bt290.1 bt290.2.1 bt290.2.2.1 bt290.2.2.2.1 bt290.2.2.2.2.1 bt290.2.2.2.2.2 t285).bind fun bt296 => ((laws_eqPlaceS.f k bt296.1 bt281.1).bind fun t300 => (if t300 = true then (laws_FnExactDriftAll.j0 k l3 bt281.1 bt281.2 t285 bt296.1 bt296.2 (bt296.2 != bt281.2) a0 a1 a2_0 a2_1 a2_2 a2_3 a2_4 a2_5) else (laws_FnExactDriftAll.j0 k l3 bt281.1 bt281.2 t285 bt296.1 bt296.2 true a0 a1 a2_0 a2_1 a2_2 a2_3 a2_4 a2_5)))))))))))) = some r := H
  have A10 := Aside0.mk A100
  clear A100
  replace H := Option.bind_eq_some_iff.mp H
  obtain ⟨t271, A110, H⟩ := H
  replace H : ((laws_toBoat.f a2_0 a2_1 a2_2 a2_3 a2_4 a2_5).bind fun bt272 => ((laws_toWindS.f k l3).bind fun t278 => ((spec_DriftAll.f k t270 t271 bt272.1 bt272.2.1 bt272.2.2.1 bt272.2.2.2.1 bt272.2.2.2.2.1 bt272.2.2.2.2.2 t278).bind fun bt281 => ((laws_toWindS.f k l3).bind fun t285 => ((laws_toBay.f a0).bind fun t288 => ((laws_toGrounds.f a1).bind fun t289 => ((laws_toBoat.f a2_0 a2_1 a2_2 a2_3 a2_4 a2_5).bind fun bt290 => ((impl_DriftAll.f k t288 t289 bt290.1 bt290.2.1 bt290.2.2.1 bt290.2.2.2.1 bt290.2.2.2.2.1 bt290.2.2.2.2.2 t285).bind fun bt296 => ((laws_eqPlaceS.f k bt296.1 bt281.1).bind fun t300 => (if t300 = true then (laws_FnExactDriftAll.j0 k l3 bt281.1 bt281.2 t285 bt296.1 bt296.2 (bt296.2 != bt281.2) a0 a1 a2_0 a2_1 a2_2 a2_3 a2_4 a2_5) else (laws_FnExactDriftAll.j0 k l3 bt281.1 bt281.2 t285 bt296.1 bt296.2 true a0 a1 a2_0 a2_1 a2_2 a2_3 a2_4 a2_5))))))))))) = some r := H
  have A11 := Aside0.mk A110
  clear A110
  replace H := Option.bind_eq_some_iff.mp H
  obtain ⟨⟨t272, t273, t274, t275, t276, t277⟩, A120, H⟩ := H
  replace H : ((laws_toWindS.f k l3).bind fun t278 => ((spec_DriftAll.f k t270 t271 t272 t273 t274 t275 t276 t277 t278).bind fun bt281 => ((laws_toWindS.f k l3).bind fun t285 => ((laws_toBay.f a0).bind fun t288 => ((laws_toGrounds.f a1).bind fun t289 => ((laws_toBoat.f a2_0 a2_1 a2_2 a2_3 a2_4 a2_5).bind fun bt290 => ((impl_DriftAll.f k t288 t289 bt290.1 bt290.2.1 bt290.2.2.1 bt290.2.2.2.1 bt290.2.2.2.2.1 bt290.2.2.2.2.2 t285).bind fun bt296 => ((laws_eqPlaceS.f k bt296.1 bt281.1).bind fun t300 => (if t300 = true then (laws_FnExactDriftAll.j0 k l3 bt281.1 bt281.2 t285 bt296.1 bt296.2 (bt296.2 != bt281.2) a0 a1 a2_0 a2_1 a2_2 a2_3 a2_4 a2_5) else (laws_FnExactDriftAll.j0 k l3 bt281.1 bt281.2 t285 bt296.1 bt296.2 true a0 a1 a2_0 a2_1 a2_2 a2_3 a2_4 a2_5)))))))))) = some r := H
  have A12 := Aside0.mk A120
  clear A120
  replace H := Option.bind_eq_some_iff.mp H
  obtain ⟨t278, A130, H⟩ := H
  replace H : ((spec_DriftAll.f k t270 t271 t272 t273 t274 t275 t276 t277 t278).bind fun bt281 => ((laws_toWindS.f k l3).bind fun t285 => ((laws_toBay.f a0).bind fun t288 => ((laws_toGrounds.f a1).bind fun t289 => ((laws_toBoat.f a2_0 a2_1 a2_2 a2_3 a2_4 a2_5).bind fun bt290 => ((impl_DriftAll.f k t288 t289 bt290.1 bt290.2.1 bt290.2.2.1 bt290.2.2.2.1 bt290.2.2.2.2.1 bt290.2.2.2.2.2 t285).bind fun bt296 => ((laws_eqPlaceS.f k bt296.1 bt281.1).bind fun t300 => (if t300 = true then (laws_FnExactDriftAll.j0 k l3 bt281.1 bt281.2 t285 bt296.1 bt296.2 (bt296.2 != bt281.2) a0 a1 a2_0 a2_1 a2_2 a2_3 a2_4 a2_5) else (laws_FnExactDriftAll.j0 k l3 bt281.1 bt281.2 t285 bt296.1 bt296.2 true a0 a1 a2_0 a2_1 a2_2 a2_3 a2_4 a2_5))))))))) = some r := H
  have A13 := Aside0.mk A130
  clear A130
  replace H := Option.bind_eq_some_iff.mp H
  obtain ⟨⟨t281, t284⟩, A140, H⟩ := H
  replace H : ((laws_toWindS.f k l3).bind fun t285 => ((laws_toBay.f a0).bind fun t288 => ((laws_toGrounds.f a1).bind fun t289 => ((laws_toBoat.f a2_0 a2_1 a2_2 a2_3 a2_4 a2_5).bind fun bt290 => ((impl_DriftAll.f k t288 t289 bt290.1 bt290.2.1 bt290.2.2.1 bt290.2.2.2.1 bt290.2.2.2.2.1 bt290.2.2.2.2.2 t285).bind fun bt296 => ((laws_eqPlaceS.f k bt296.1 t281).bind fun t300 => (if t300 = true then (laws_FnExactDriftAll.j0 k l3 t281 t284 t285 bt296.1 bt296.2 (bt296.2 != t284) a0 a1 a2_0 a2_1 a2_2 a2_3 a2_4 a2_5) else (laws_FnExactDriftAll.j0 k l3 t281 t284 t285 bt296.1 bt296.2 true a0 a1 a2_0 a2_1 a2_2 a2_3 a2_4 a2_5)))))))) = some r := H
  have A14 := Aside0.mk A140
  clear A140
  replace H := Option.bind_eq_some_iff.mp H
  obtain ⟨t285, A150, H⟩ := H
  replace H : ((laws_toBay.f a0).bind fun t288 => ((laws_toGrounds.f a1).bind fun t289 => ((laws_toBoat.f a2_0 a2_1 a2_2 a2_3 a2_4 a2_5).bind fun bt290 => ((impl_DriftAll.f k t288 t289 bt290.1 bt290.2.1 bt290.2.2.1 bt290.2.2.2.1 bt290.2.2.2.2.1 bt290.2.2.2.2.2 t285).bind fun bt296 => ((laws_eqPlaceS.f k bt296.1 t281).bind fun t300 => (if t300 = true then (laws_FnExactDriftAll.j0 k l3 t281 t284 t285 bt296.1 bt296.2 (bt296.2 != t284) a0 a1 a2_0 a2_1 a2_2 a2_3 a2_4 a2_5) else (laws_FnExactDriftAll.j0 k l3 t281 t284 t285 bt296.1 bt296.2 true a0 a1 a2_0 a2_1 a2_2 a2_3 a2_4 a2_5))))))) = some r := H
  have A15 := Aside0.mk A150
  clear A150
  replace H := Option.bind_eq_some_iff.mp H
  obtain ⟨t288, A160, H⟩ := H
  replace H : ((laws_toGrounds.f a1).bind fun t289 => ((laws_toBoat.f a2_0 a2_1 a2_2 a2_3 a2_4 a2_5).bind fun bt290 => ((impl_DriftAll.f k t288 t289 bt290.1 bt290.2.1 bt290.2.2.1 bt290.2.2.2.1 bt290.2.2.2.2.1 bt290.2.2.2.2.2 t285).bind fun bt296 => ((laws_eqPlaceS.f k bt296.1 t281).bind fun t300 => (if t300 = true then (laws_FnExactDriftAll.j0 k l3 t281 t284 t285 bt296.1 bt296.2 (bt296.2 != t284) a0 a1 a2_0 a2_1 a2_2 a2_3 a2_4 a2_5) else (laws_FnExactDriftAll.j0 k l3 t281 t284 t285 bt296.1 bt296.2 true a0 a1 a2_0 a2_1 a2_2 a2_3 a2_4 a2_5)))))) = some r := H
  have A16 := Aside0.mk A160
  clear A160
  replace H := Option.bind_eq_some_iff.mp H
  obtain ⟨t289, A170, H⟩ := H
  replace H : ((laws_toBoat.f a2_0 a2_1 a2_2 a2_3 a2_4 a2_5).bind fun bt290 => ((impl_DriftAll.f k t288 t289 bt290.1 bt290.2.1 bt290.2.2.1 bt290.2.2.2.1 bt290.2.2.2.2.1 bt290.2.2.2.2.2 t285).bind fun bt296 => ((laws_eqPlaceS.f k bt296.1 t281).bind fun t300 => (if t300 = true then (laws_FnExactDriftAll.j0 k l3 t281 t284 t285 bt296.1 bt296.2 (bt296.2 != t284) a0 a1 a2_0 a2_1 a2_2 a2_3 a2_4 a2_5) else (laws_FnExactDriftAll.j0 k l3 t281 t284 t285 bt296.1 bt296.2 true a0 a1 a2_0 a2_1 a2_2 a2_3 a2_4 a2_5))))) = some r := H
  have A17 := Aside0.mk A170
  clear A170
  replace H := Option.bind_eq_some_iff.mp H
  obtain ⟨⟨t290, t291, t292, t293, t294, t295⟩, A180, H⟩ := H
  replace H : ((impl_DriftAll.f k t288 t289 t290 t291 t292 t293 t294 t295 t285).bind fun bt296 => ((laws_eqPlaceS.f k bt296.1 t281).bind fun t300 => (if t300 = true then (laws_FnExactDriftAll.j0 k l3 t281 t284 t285 bt296.1 bt296.2 (bt296.2 != t284) a0 a1 a2_0 a2_1 a2_2 a2_3 a2_4 a2_5) else (laws_FnExactDriftAll.j0 k l3 t281 t284 t285 bt296.1 bt296.2 true a0 a1 a2_0 a2_1 a2_2 a2_3 a2_4 a2_5)))) = some r := H
  have A18 := Aside0.mk A180
  clear A180
  replace H := Option.bind_eq_some_iff.mp H
  obtain ⟨⟨t296, t299⟩, A190, H⟩ := H
  replace H : ((laws_eqPlaceS.f k t296 t281).bind fun t300 => (if t300 = true then (laws_FnExactDriftAll.j0 k l3 t281 t284 t285 t296 t299 (t299 != t284) a0 a1 a2_0 a2_1 a2_2 a2_3 a2_4 a2_5) else (laws_FnExactDriftAll.j0 k l3 t281 t284 t285 t296 t299 true a0 a1 a2_0 a2_1 a2_2 a2_3 a2_4 a2_5))) = some r := H
  have A19 := Aside0.mk A190
  clear A190
  have HC20 := Aside0.mk H
  clear H
  go_enter Try.func3, Try.ntmps3
  try go_wp2_with (first | ((with_reducible refine gate_dst (N := 4) rfl ?_); refine box_event ?hg (N := 4) ?hd (cs := (a0).A) (t := 26) ?hr ?_; (case hd => rfl); (case hg => rfl); (case hr => first | exact AR.run_box_row rfl rfl | (go_simp; done) | (go_simp; rfl)); intro gb266 hg w21 hbox hb; have n0_ := Aside0.mk (sqH HB.out hb); have n1_ := Aside0.mk (hbox); have n2_ := Aside0.mk ((by rw [hg]; exact (below_size (by repeat (first | (with_reducible first | exact HB.out | apply below_alloc | apply pw_below_drewN | apply below_drew1) | exact HB.out))) : w.heap.size ≤ gb266)); have n3_ := n2_; clear HB; have HB := n0_; have BK266 := n1_; have GW266 := n2_; have GE266 := n3_; clear n0_ n1_ n2_ n3_; clear hb hbox hg) | ((with_reducible refine gate_dst (N := 5) rfl ?_); refine box_event ?hg (N := 5) ?hd (cs := (a1).A) (t := 28) ?hr ?_; (case hd => rfl); (case hg => rfl); (case hr => first | exact AR.run_box_row rfl rfl | (go_simp; done) | (go_simp; rfl)); intro gb267 hg w22 hbox hb; have n0_ := Aside0.mk (sqB BK266.out hb); have n1_ := Aside0.mk (sqH HB.out hb); have n2_ := Aside0.mk (hbox); have n3_ := Aside0.mk ((by rw [hg]; exact (below_size (by repeat (first | (with_reducible first | exact HB.out | apply below_alloc | apply pw_below_drewN | apply below_drew1 | refine below_set ?_ GE266.out) | exact HB.out))) : w.heap.size ≤ gb267)); have n4_ := n3_; have n5_ := Aside0.mk ((by rw [hg]; exact Nat.ne_of_lt (blk_lt (g := gb266) (o := .cells (a0).A 26 (0, 0)) (sqO BK266.out)) : gb266 ≠ gb267)); have n6_ := Aside0.mk (Ne.symm n5_.out); clear BK266; clear HB; have BK266 := n0_; have HB := n1_; have BK267 := n2_; have GW267 := n3_; have GE267 := n4_; have NB266_267 := n5_; have NB267_266 := n6_; clear n0_ n1_ n2_ n3_ n4_ n5_ n6_; clear hb hbox hg) | ((with_reducible refine gate_dst (N := 6) rfl ?_); refine box_event ?hg (N := 6) ?hd (cs := #[.int .i8 a2_0, .int .i8 a2_1, .int .i8 a2_2, .int .i8 a2_3, .int .i8 a2_4, .int .i8 a2_5]) (t := 32) ?hr ?_; (case hd => rfl); (case hg => rfl); (case hr => first | (go_simp; done) | (go_simp; rfl)); intro gb268 hg w23 hbox hb; have n0_ := Aside0.mk (sqB BK266.out hb); have n1_ := Aside0.mk (sqB BK267.out hb); have n2_ := Aside0.mk (sqH HB.out hb); have n3_ := Aside0.mk (hbox); have n4_ := Aside0.mk ((by rw [hg]; exact (below_size (by repeat (first | (with_reducible first | exact HB.out | apply below_alloc | apply pw_below_drewN | apply below_drew1 | refine below_set ?_ GE266.out | refine below_set ?_ GE267.out) | exact HB.out))) : w.heap.size ≤ gb268)); have n5_ := n4_; have n6_ := Aside0.mk ((by rw [hg]; exact Nat.ne_of_lt (blk_lt (g := gb266) (o := .cells (a0).A 26 (0, 0)) (sqO BK266.out)) : gb266 ≠ gb268)); have n7_ := Aside0.mk (Ne.symm n6_.out); have n8_ := Aside0.mk ((by rw [hg]; exact Nat.ne_of_lt (blk_lt (g := gb267) (o := .cells (a1).A 28 (0, 0)) (sqO BK267.out)) : gb267 ≠ gb268)); have n9_ := Aside0.mk (Ne.symm n8_.out); clear BK266; clear BK267; clear HB; have BK266 := n0_; have BK267 := n1_; have HB := n2_; have BK268 := n3_; have GW268 := n4_; have GE268 := n5_; have NB266_268 := n6_; have NB268_266 := n7_; have NB267_268 := n8_; have NB268_267 := n9_; clear n0_ n1_ n2_ n3_ n4_ n5_ n6_ n7_ n8_ n9_; clear hb hbox hg) | ((with_reducible refine gate_callee (f := 8) rfl ?_); refine goesL_ (some 22) rfl rfl Try.func8 (by kernel_rfl) rfl #[.slice A3 l3.length c3, .int .i64 1048576] rfl (by (try simp only [List.map_toArray, List.map_cons, List.map_nil]); first | done | rfl | (simp only [List.length_drop, List.length_take]; rfl)) ?_; (with_reducible refine (laws_szWindS.calls _ _ l3 1048576 t269 _ ?side1 ?side2 A5.out).mono ?_); (case side1 => repeat (first | exact (Kd.C_below HR3.out HB.out) | (with_reducible refine Kd.C_alloc ?_ _) | (with_reducible refine Kd.C_drewN ?_ _) | (with_reducible refine Kd.C_drew ?_))); (case side2 => exact HC3.out); rintro e w' ⟨rfl, ⟨nd, rfl⟩⟩; refine ⟨_, rfl, ?_⟩))
  (try (rw [drewN_self w23]; generalize hq_ : World.drewN w23 _ = w23; have n0_ : Aside0 (w23.heap[gb266]? = some (.cells (a0).A 26 (0, 0))) := ⟨by rw [← hq_]; exact (sqO BK266.out)⟩; have n1_ : Aside0 (w23.heap[gb267]? = some (.cells (a1).A 28 (0, 0))) := ⟨by rw [← hq_]; exact (sqO BK267.out)⟩; have n2_ : Aside0 (w23.heap[gb268]? = some (.cells #[.int .i8 a2_0, .int .i8 a2_1, .int .i8 a2_2, .int .i8 a2_3, .int .i8 a2_4, .int .i8 a2_5] 32 (0, 0))) := ⟨by rw [← hq_]; exact (sqO BK268.out)⟩; have n3_ : Aside0 (Below w.heap.size w w23) := ⟨by rw [← hq_]; exact (by repeat (first | (with_reducible first | exact HB.out | apply below_alloc | apply pw_below_drewN | apply below_drew1 | refine below_set ?_ GE266.out | refine below_set ?_ GE267.out | refine below_set ?_ GE268.out) | exact HB.out))⟩; clear BK266 BK267 BK268 HB hq_; have BK266 := n0_; have BK267 := n1_; have BK268 := n2_; have HB := n3_; clear n0_ n1_ n2_ n3_))
  have n0_ := Aside0.mk (blk_drew BK266.out)
  have n1_ := Aside0.mk (blk_drew BK267.out)
  have n2_ := Aside0.mk (blk_drew BK268.out)
  have n3_ := Aside0.mk (below_drew1 HB.out)
  clear BK266
  clear BK267
  clear BK268
  clear HB
  have BK266 := n0_
  have BK267 := n1_
  have BK268 := n2_
  have HB := n3_
  clear n0_ n1_ n2_ n3_
  refine start_ (n := 14) (S := fun w' => w'.heap[gb266]? = some (.cells (a0).A 26 (0, 0)) ∧ w'.heap[gb267]? = some (.cells (a1).A 28 (0, 0)) ∧ w'.cell? ⟨gb268, 0, none⟩ = some (.int .i8 a2_0) ∧ w'.cell? ⟨gb268, 1, none⟩ = some (.int .i8 a2_1) ∧ w'.cell? ⟨gb268, 2, none⟩ = some (.int .i8 a2_2) ∧ w'.cell? ⟨gb268, 3, none⟩ = some (.int .i8 a2_3) ∧ w'.cell? ⟨gb268, 4, none⟩ = some (.int .i8 a2_4) ∧ w'.cell? ⟨gb268, 5, none⟩ = some (.int .i8 a2_5)) (ds := []) #[false, false, false, false, false, false, false, false, false, false, false, false, false, false] (by kernel_rfl) rfl rfl ⟨BK266.out, BK267.out, (blk_cell BK268.out 0).trans rfl, (blk_cell BK268.out 1).trans rfl, (blk_cell BK268.out 2).trans rfl, (blk_cell BK268.out 3).trans rfl, (blk_cell BK268.out 4).trans rfl, (blk_cell BK268.out 5).trans rfl⟩ (fun hHeld => ?_); refine with_tabW laws_FnExactDriftAll.tab5 laws_FnExactDriftAll.bits5 (fun HT_ HW_ => ?_)
  generalize w23.drew = w24 at BK266 BK267 BK268 HB hHeld ⊢
  refine pure_ (i := 6) (N := some 32) (v := ?_) (a' := ?_) #[false, false, false, false, false, false, true, false, false, false, false, false, false, false] rfl rfl (any_of HT_.out (by kernel_rfl)) (fun _ _ _ h => h) (Or.inl ⟨by rfl, ?_⟩) ?_ ?_
  rotate_left
  ·intro w'
   go_simp
   with_reducible rfl
  rotate_left
  ·simp only [Act.put, List.setIfInBounds_toArray, List.set_cons_zero, List.set_cons_succ, i64_w, i32_w]
   rfl
  refine take_ (i := 0) (N := some 26) (v := ?_) (a' := ?_) #[true, false, false, false, false, false, true, false, false, false, false, false, false, false] rfl rfl (take_ofW HT_.out HW_.out (by kernel_rfl)) (fun _ _ _ h => h) (Or.inl ⟨by rfl, ?_⟩) hHeld ?_ ?_
  rotate_left
  ·rintro w' ⟨s0, s1, s2, s3, s4, s5, s6, s7⟩
   skip
   first | (refine Eq.trans (AR.exec_load_blk rfl rfl s0 Try.underlying26 rfl (szO26 _)) ?_; with_reducible rfl) | (refine Eq.trans (AR.exec_load_blk rfl rfl s1 Try.underlying28 rfl (szO28 _)) ?_; with_reducible rfl) | (go_simp; with_reducible rfl)
  rotate_left
  ·simp only [Act.put, List.setIfInBounds_toArray, List.set_cons_zero, List.set_cons_succ, i64_w, i32_w]
   rfl
  refine take_ (i := 2) (N := some 28) (v := ?_) (a' := ?_) #[true, false, true, false, false, false, true, false, false, false, false, false, false, false] rfl rfl (take_ofW HT_.out HW_.out (by kernel_rfl)) (fun _ _ _ h => h) (Or.inl ⟨by rfl, ?_⟩) hHeld ?_ ?_
  rotate_left
  ·rintro w' ⟨s0, s1, s2, s3, s4, s5, s6, s7⟩
   skip
   first | (refine Eq.trans (AR.exec_load_blk rfl rfl s0 Try.underlying26 rfl (szO26 _)) ?_; with_reducible rfl) | (refine Eq.trans (AR.exec_load_blk rfl rfl s1 Try.underlying28 rfl (szO28 _)) ?_; with_reducible rfl) | (go_simp; with_reducible rfl)
  rotate_left
  ·simp only [Act.put, List.setIfInBounds_toArray, List.set_cons_zero, List.set_cons_succ, i64_w, i32_w]
   rfl
  refine take_ (i := 4) (N := some 30) (v := ?_) (a' := ?_) #[true, false, true, false, true, false, true, false, false, false, false, false, false, false] rfl rfl (take_ofW HT_.out HW_.out (by kernel_rfl)) (fun _ _ _ h => h) (Or.inl ⟨by rfl, ?_⟩) hHeld ?_ ?_
  rotate_left
  ·rintro w' ⟨s0, s1, s2, s3, s4, s5, s6, s7⟩
   skip
   first | (refine Eq.trans (AR.exec_load_blk rfl rfl s0 Try.underlying26 rfl (szO26 _)) ?_; with_reducible rfl) | (refine Eq.trans (AR.exec_load_blk rfl rfl s1 Try.underlying28 rfl (szO28 _)) ?_; with_reducible rfl) | (go_simp; with_reducible rfl)
  rotate_left
  ·simp only [Act.put, List.setIfInBounds_toArray, List.set_cons_zero, List.set_cons_succ, i64_w, i32_w]
   rfl
  refine one_ (i := 1) (N := some 27) #[true, true, true, false, true, false, true, false, false, false, false, false, false, false] rfl rfl (one_of HT_.out (by kernel_rfl)) (by decide) (fun K hK => ?_)
  refine goes_ Try.func10 (by kernel_rfl) rfl #[VO26 a0] (by rfl) rfl rfl (by (try simp only [List.map_toArray, List.map_cons, List.map_nil]); first | done | rfl | (simp only [List.length_drop, List.length_take]; rfl)) ?_
  with_reducible refine (laws_toBay.calls a0 t270 _ A10.out).mono ?_
  rintro e w25 ⟨rfl, hb⟩
  refine ⟨_, rfl, ?_⟩
  have n0_ := Aside0.mk (sqB BK266.out hb)
  have n1_ := Aside0.mk (sqB BK267.out hb)
  have n2_ := Aside0.mk (sqB BK268.out hb)
  have n3_ := Aside0.mk (sqH HB.out hb)
  clear BK266
  clear BK267
  clear BK268
  clear HB
  have BK266 := n0_
  have BK267 := n1_
  have BK268 := n2_
  have HB := n3_
  clear n0_ n1_ n2_ n3_
  (try clear hb)
  (try clear hb2)
  (try clear hk)
  (try clear hi)
  refine hK.out _ _ ⟨BK266.out, BK267.out, (blk_cell BK268.out 0).trans rfl, (blk_cell BK268.out 1).trans rfl, (blk_cell BK268.out 2).trans rfl, (blk_cell BK268.out 3).trans rfl, (blk_cell BK268.out 4).trans rfl, (blk_cell BK268.out 5).trans rfl⟩ (fun hHeld => ?_)
  clear hK K
  refine norm_ (a' := ?_) ?_ ?_
  rotate_left
  ·show Act.put _ (some 27) _ = _
   simp only [Act.put, List.setIfInBounds_toArray, List.set_cons_zero, List.set_cons_succ, i64_w, i32_w]
   rfl
  refine one_ (i := 3) (N := some 29) #[true, true, true, true, true, false, true, false, false, false, false, false, false, false] rfl rfl (one_of HT_.out (by kernel_rfl)) (by decide) (fun K hK => ?_)
  refine goes_ Try.func11 (by kernel_rfl) rfl #[VO28 a1] (by rfl) rfl rfl (by (try simp only [List.map_toArray, List.map_cons, List.map_nil]); first | done | rfl | (simp only [List.length_drop, List.length_take]; rfl)) ?_
  with_reducible refine (laws_toGrounds.calls a1 t271 _ A11.out).mono ?_
  rintro e w26 ⟨rfl, hb⟩
  refine ⟨_, rfl, ?_⟩
  have n0_ := Aside0.mk (sqB BK266.out hb)
  have n1_ := Aside0.mk (sqB BK267.out hb)
  have n2_ := Aside0.mk (sqB BK268.out hb)
  have n3_ := Aside0.mk (sqH HB.out hb)
  clear BK266
  clear BK267
  clear BK268
  clear HB
  have BK266 := n0_
  have BK267 := n1_
  have BK268 := n2_
  have HB := n3_
  clear n0_ n1_ n2_ n3_
  (try clear hb)
  (try clear hb2)
  (try clear hk)
  (try clear hi)
  refine hK.out _ _ ⟨BK266.out, BK267.out, (blk_cell BK268.out 0).trans rfl, (blk_cell BK268.out 1).trans rfl, (blk_cell BK268.out 2).trans rfl, (blk_cell BK268.out 3).trans rfl, (blk_cell BK268.out 4).trans rfl, (blk_cell BK268.out 5).trans rfl⟩ (fun hHeld => ?_)
  clear hK K
  refine norm_ (a' := ?_) ?_ ?_
  rotate_left
  ·show Act.put _ (some 29) _ = _
   simp only [Act.put, List.setIfInBounds_toArray, List.set_cons_zero, List.set_cons_succ, i64_w, i32_w]
   rfl
  refine one_ (i := 5) (N := some 31) #[true, true, true, true, true, true, true, false, false, false, false, false, false, false] rfl rfl (one_of HT_.out (by kernel_rfl)) (by decide) (fun K hK => ?_)
  refine goes_ Try.func12 (by kernel_rfl) rfl #[.agg #[.int .i8 a2_0, .int .i8 a2_1, .int .i8 a2_2, .int .i8 a2_3, .int .i8 a2_4, .int .i8 a2_5]] (by rfl) rfl rfl (by (try simp only [List.map_toArray, List.map_cons, List.map_nil]); first | done | rfl | (simp only [List.length_drop, List.length_take]; rfl)) ?_
  with_reducible refine (laws_toBoat.calls a2_0 a2_1 a2_2 a2_3 a2_4 a2_5 t272 t273 t274 t275 t276 t277 _ A12.out).mono ?_
  rintro e w27 ⟨rfl, hb⟩
  refine ⟨_, rfl, ?_⟩
  have n0_ := Aside0.mk (sqB BK266.out hb)
  have n1_ := Aside0.mk (sqB BK267.out hb)
  have n2_ := Aside0.mk (sqB BK268.out hb)
  have n3_ := Aside0.mk (sqH HB.out hb)
  clear BK266
  clear BK267
  clear BK268
  clear HB
  have BK266 := n0_
  have BK267 := n1_
  have BK268 := n2_
  have HB := n3_
  clear n0_ n1_ n2_ n3_
  (try clear hb)
  (try clear hb2)
  (try clear hk)
  (try clear hi)
  refine hK.out _ _ ⟨BK266.out, BK267.out, (blk_cell BK268.out 0).trans rfl, (blk_cell BK268.out 1).trans rfl, (blk_cell BK268.out 2).trans rfl, (blk_cell BK268.out 3).trans rfl, (blk_cell BK268.out 4).trans rfl, (blk_cell BK268.out 5).trans rfl⟩ (fun hHeld => ?_)
  clear hK K
  refine norm_ (a' := ?_) ?_ ?_
  rotate_left
  ·show Act.put _ (some 31) _ = _
   simp only [Act.put, List.setIfInBounds_toArray, List.set_cons_zero, List.set_cons_succ, i64_w, i32_w]
   rfl
  refine one_ (i := 7) (N := some 33) #[true, true, true, true, true, true, true, true, false, false, false, false, false, false] rfl rfl (one_of HT_.out (by kernel_rfl)) (by decide) (fun K hK => ?_)
  refine goes_ Try.func13 (by kernel_rfl) rfl #[.slice A3 l3.length c3] (by rfl) rfl rfl (by (try simp only [List.map_toArray, List.map_cons, List.map_nil]); first | done | rfl | (simp only [List.length_drop, List.length_take]; rfl)) ?_
  with_reducible refine (laws_toWindS.calls k _ _ l3 t278 _ ?side1 ?side2 A13.out).mono ?_
  (case side1 => repeat (first | exact (Kd.C_below HR3.out HB.out) | (with_reducible refine Kd.C_alloc ?_ _) | (with_reducible refine Kd.C_drewN ?_ _) | (with_reducible refine Kd.C_drew ?_)))
  (case side2 => exact HC3.out)
  rintro e w28 ⟨v279, rfl, ho0, hb⟩
  refine ⟨_, rfl, ?_⟩
  have n0_ := Aside0.mk (Kd.R_lower ho0 (below_size (by repeat (first | (with_reducible first | exact HB.out | apply below_alloc | apply pw_below_drewN | apply below_drew1 | refine below_set ?_ GE266.out | refine below_set ?_ GE267.out | refine below_set ?_ GE268.out) | exact HB.out))))
  have n1_ := Aside0.mk (sqB BK266.out hb)
  have n2_ := Aside0.mk (sqB BK267.out hb)
  have n3_ := Aside0.mk (sqB BK268.out hb)
  have n4_ := Aside0.mk (sqH HB.out hb)
  clear BK266
  clear BK267
  clear BK268
  clear HB
  have HO280 := n0_
  have BK266 := n1_
  have BK267 := n2_
  have BK268 := n3_
  have HB := n4_
  clear n0_ n1_ n2_ n3_ n4_
  (try clear hb)
  (try clear hb2)
  (try clear hk)
  (try clear hi)
  (try clear ho0)
  obtain ⟨Ao29, co29, eo29⟩ := Kd.R_slice HO280.out
  (first | subst eo29 | (injection eo29 with f1_ f2_ f3_; have f4_ := f1_.symm; have f5_ := f3_.symm; clear f1_ f2_ f3_; subst f4_; subst f5_))
  refine hK.out _ _ ⟨BK266.out, BK267.out, (blk_cell BK268.out 0).trans rfl, (blk_cell BK268.out 1).trans rfl, (blk_cell BK268.out 2).trans rfl, (blk_cell BK268.out 3).trans rfl, (blk_cell BK268.out 4).trans rfl, (blk_cell BK268.out 5).trans rfl⟩ (fun hHeld => ?_)
  clear hK K
  refine norm_ (a' := ?_) ?_ ?_
  rotate_left
  ·show Act.put _ (some 33) _ = _
   simp only [Act.put, List.setIfInBounds_toArray, List.set_cons_zero, List.set_cons_succ, i64_w, i32_w]
   rfl
  refine one_ (i := 8) (N := some 34) #[true, true, true, true, true, true, true, true, true, false, false, false, false, false] rfl rfl (one_of HT_.out (by kernel_rfl)) (by decide) (fun K hK => ?_)
  refine goes_ Try.func9 (by kernel_rfl) rfl #[VO38 t270, VO40 t271, .agg #[.int .i8 t272, .int .i8 t273, .int .i8 t274, .int .i8 t275, .int .i8 t276, .int .i8 t277], .slice Ao29 t278.length co29] (by rfl) rfl rfl (by (try simp only [List.map_toArray, List.map_cons, List.map_nil]); first | done | rfl | (simp only [List.length_drop, List.length_take]; rfl)) ?_
  with_reducible refine (spec_DriftAll.calls k t270 t271 t272 t273 t274 t275 t276 t277 _ _ t278 t281 t284 _ ?side1 ?side2 A14.out).mono ?_
  (case side1 => repeat (first | exact (Kd.R_reads' HO280.out).2.2 | (with_reducible refine Kd.C_alloc ?_ _) | (with_reducible refine Kd.C_drewN ?_ _) | (with_reducible refine Kd.C_drew ?_)))
  (case side2 => exact (Kd.R_reads' HO280.out).2.1)
  rintro e w30 ⟨v282, rfl, ho0, hb⟩
  refine ⟨_, rfl, ?_⟩
  have n0_ := Aside0.mk (Kd.R_below (by (with_reducible repeat (first | apply Kd.R_alloc | apply Kd.R_drewN | apply Kd.R_drew)); exact HO280.out) hb)
  have n1_ := Aside0.mk (Kd.R_lower ho0 (below_size (by repeat (first | (with_reducible first | exact HB.out | apply below_alloc | apply pw_below_drewN | apply below_drew1 | refine below_set ?_ GE266.out | refine below_set ?_ GE267.out | refine below_set ?_ GE268.out) | exact HB.out))))
  have n2_ := Aside0.mk (sqB BK266.out hb)
  have n3_ := Aside0.mk (sqB BK267.out hb)
  have n4_ := Aside0.mk (sqB BK268.out hb)
  have n5_ := Aside0.mk (sqH HB.out hb)
  clear HO280
  clear BK266
  clear BK267
  clear BK268
  clear HB
  have HO280 := n0_
  have HO283 := n1_
  have BK266 := n2_
  have BK267 := n3_
  have BK268 := n4_
  have HB := n5_
  clear n0_ n1_ n2_ n3_ n4_ n5_
  (try clear hb)
  (try clear hb2)
  (try clear hk)
  (try clear hi)
  (try clear ho0)
  refine hK.out _ _ ⟨BK266.out, BK267.out, (blk_cell BK268.out 0).trans rfl, (blk_cell BK268.out 1).trans rfl, (blk_cell BK268.out 2).trans rfl, (blk_cell BK268.out 3).trans rfl, (blk_cell BK268.out 4).trans rfl, (blk_cell BK268.out 5).trans rfl⟩ (fun hHeld => ?_)
  clear hK K
  refine norm_ (a' := ?_) ?_ ?_
  rotate_left
  ·show Act.put _ (some 34) _ = _
   simp only [Act.put, List.setIfInBounds_toArray, List.set_cons_zero, List.set_cons_succ, i64_w, i32_w]
   rfl
  refine pure_ (i := 9) (N := some 25) (v := ?_) (a' := ?_) #[true, true, true, true, true, true, true, true, true, true, false, false, false, false] rfl rfl (any_of HT_.out (by kernel_rfl)) (fun _ _ _ h => h) (Or.inl ⟨by rfl, ?_⟩) ?_ ?_
  rotate_left
  ·intro w'
   go_simp
   with_reducible rfl
  rotate_left
  ·simp only [Act.put, List.setIfInBounds_toArray, List.set_cons_zero, List.set_cons_succ, i64_w, i32_w]
   rfl
  refine pure_ (i := 10) (N := some 35) (v := ?_) (a' := ?_) #[true, true, true, true, true, true, true, true, true, true, true, false, false, false] rfl rfl (any_of HT_.out (by kernel_rfl)) (fun _ _ _ h => h) (Or.inl ⟨by rfl, ?_⟩) ?_ ?_
  rotate_left
  ·intro w'
   go_simp
   with_reducible rfl
  rotate_left
  ·simp only [Act.put, List.setIfInBounds_toArray, List.set_cons_zero, List.set_cons_succ, i64_w, i32_w]
   rfl
  refine pure_ (i := 11) (N := some 36) (v := ?_) (a' := ?_) #[true, true, true, true, true, true, true, true, true, true, true, true, false, false] rfl rfl (any_of HT_.out (by kernel_rfl)) (fun _ _ _ h => h) (Or.inl ⟨by rfl, ?_⟩) ?_ ?_
  rotate_left
  ·intro w'
   go_simp
   with_reducible rfl
  rotate_left
  ·simp only [Act.put, List.setIfInBounds_toArray, List.set_cons_zero, List.set_cons_succ, i64_w, i32_w]
   rfl
  refine pure_ (i := 12) (N := some 10) (v := ?_) (a' := ?_) #[true, true, true, true, true, true, true, true, true, true, true, true, true, false] rfl rfl (any_of HT_.out (by kernel_rfl)) (fun _ _ _ h => h) (Or.inl ⟨by rfl, ?_⟩) ?_ ?_
  rotate_left
  ·intro w'
   go_simp
   with_reducible rfl
  rotate_left
  ·simp only [Act.put, List.setIfInBounds_toArray, List.set_cons_zero, List.set_cons_succ, i64_w, i32_w]
   rfl
  refine pure_ (i := 13) (N := some 11) (v := ?_) (a' := ?_) #[true, true, true, true, true, true, true, true, true, true, true, true, true, true] rfl rfl (any_of HT_.out (by kernel_rfl)) (fun _ _ _ h => h) (Or.inl ⟨by rfl, ?_⟩) ?_ ?_
  rotate_left
  ·intro w'
   go_simp
   with_reducible rfl
  rotate_left
  ·simp only [Act.put, List.setIfInBounds_toArray, List.set_cons_zero, List.set_cons_succ, i64_w, i32_w]
   rfl
  refine done_ (done_of HT_.out (by kernel_rfl)) ?_
  try go_wp2_with (first | ((with_reducible refine gate_callee (f := 13) rfl ?_); refine goesL_ (some 38) rfl rfl Try.func13 (by kernel_rfl) rfl #[.slice A3 l3.length c3] rfl (by (try simp only [List.map_toArray, List.map_cons, List.map_nil]); first | done | rfl | (simp only [List.length_drop, List.length_take]; rfl)) ?_; (with_reducible refine (laws_toWindS.calls k _ _ l3 t285 _ ?side1 ?side2 A15.out).mono ?_); (case side1 => repeat (first | exact (Kd.C_below HR3.out HB.out) | (with_reducible refine Kd.C_alloc ?_ _) | (with_reducible refine Kd.C_drewN ?_ _) | (with_reducible refine Kd.C_drew ?_))); (case side2 => exact HC3.out); rintro e w31 ⟨v286, rfl, ho0, hb⟩; refine ⟨_, rfl, ?_⟩; have n0_ := Aside0.mk (Kd.R_elder' (by (with_reducible repeat (first | apply Kd.R_alloc | apply Kd.R_drewN | apply Kd.R_drew)); exact HO280.out) (Kd.R_base ho0) hb); have n1_ := Aside0.mk (Kd.R_below (by (with_reducible repeat (first | apply Kd.R_alloc | apply Kd.R_drewN | apply Kd.R_drew)); exact HO283.out) hb); have n2_ := Aside0.mk (Kd.R_lower (Kd.R_new' ho0 (Kd.R_lt (by (with_reducible repeat (first | apply Kd.R_alloc | apply Kd.R_drewN | apply Kd.R_drew)); exact HO280.out))) (below_size (by repeat (first | (with_reducible first | exact HB.out | apply below_alloc | apply pw_below_drewN | apply below_drew1 | refine below_set ?_ GE266.out | refine below_set ?_ GE267.out | refine below_set ?_ GE268.out) | exact HB.out)))); have n3_ := Aside0.mk (sqB BK266.out hb); have n4_ := Aside0.mk (sqB BK267.out hb); have n5_ := Aside0.mk (sqB BK268.out hb); have n6_ := Aside0.mk (sqH HB.out hb); clear HO280; clear HO283; clear BK266; clear BK267; clear BK268; clear HB; have HO280 := n0_; have HO283 := n1_; have HO287 := n2_; have BK266 := n3_; have BK267 := n4_; have BK268 := n5_; have HB := n6_; clear n0_ n1_ n2_ n3_ n4_ n5_ n6_; (try clear hb); (try clear hb2); (try clear hk); (try clear hi); (try clear ho0)))
  have n0_ := Aside0.mk (Kd.R_drew HO280.out)
  have n1_ := Aside0.mk (Kd.R_drew HO283.out)
  have n2_ := Aside0.mk (Kd.R_drew HO287.out)
  have n3_ := Aside0.mk (blk_drew BK266.out)
  have n4_ := Aside0.mk (blk_drew BK267.out)
  have n5_ := Aside0.mk (blk_drew BK268.out)
  have n6_ := Aside0.mk (below_drew1 HB.out)
  clear HO280
  clear HO283
  clear HO287
  clear BK266
  clear BK267
  clear BK268
  clear HB
  have HO280 := n0_
  have HO283 := n1_
  have HO287 := n2_
  have BK266 := n3_
  have BK267 := n4_
  have BK268 := n5_
  have HB := n6_
  clear n0_ n1_ n2_ n3_ n4_ n5_ n6_
  refine start_ (n := 13) (S := fun w' => w'.heap[gb266]? = some (.cells (a0).A 26 (0, 0)) ∧ w'.heap[gb267]? = some (.cells (a1).A 28 (0, 0)) ∧ w'.cell? ⟨gb268, 0, none⟩ = some (.int .i8 a2_0) ∧ w'.cell? ⟨gb268, 1, none⟩ = some (.int .i8 a2_1) ∧ w'.cell? ⟨gb268, 2, none⟩ = some (.int .i8 a2_2) ∧ w'.cell? ⟨gb268, 3, none⟩ = some (.int .i8 a2_3) ∧ w'.cell? ⟨gb268, 4, none⟩ = some (.int .i8 a2_4) ∧ w'.cell? ⟨gb268, 5, none⟩ = some (.int .i8 a2_5)) (ds := []) #[false, false, false, false, false, false, false, false, false, false, false, false, false] (by kernel_rfl) rfl rfl ⟨BK266.out, BK267.out, (blk_cell BK268.out 0).trans rfl, (blk_cell BK268.out 1).trans rfl, (blk_cell BK268.out 2).trans rfl, (blk_cell BK268.out 3).trans rfl, (blk_cell BK268.out 4).trans rfl, (blk_cell BK268.out 5).trans rfl⟩ (fun hHeld => ?_); refine with_tabW laws_FnExactDriftAll.tab7 laws_FnExactDriftAll.bits7 (fun HT_ HW_ => ?_)
  generalize w31.drew = w32 at HO280 HO283 HO287 BK266 BK267 BK268 HB hHeld ⊢
  refine pure_ (i := 6) (N := some 46) (v := ?_) (a' := ?_) #[false, false, false, false, false, false, true, false, false, false, false, false, false] rfl rfl (any_of HT_.out (by kernel_rfl)) (fun _ _ _ h => h) (Or.inl ⟨by rfl, ?_⟩) ?_ ?_
  rotate_left
  ·intro w'
   go_simp
   with_reducible rfl
  rotate_left
  ·simp only [Act.put, List.setIfInBounds_toArray, List.set_cons_zero, List.set_cons_succ, i64_w, i32_w]
   rfl
  refine take_ (i := 0) (N := some 40) (v := ?_) (a' := ?_) #[true, false, false, false, false, false, true, false, false, false, false, false, false] rfl rfl (take_ofW HT_.out HW_.out (by kernel_rfl)) (fun _ _ _ h => h) (Or.inl ⟨by rfl, ?_⟩) hHeld ?_ ?_
  rotate_left
  ·rintro w' ⟨s0, s1, s2, s3, s4, s5, s6, s7⟩
   skip
   first | (refine Eq.trans (AR.exec_load_blk rfl rfl s0 Try.underlying26 rfl (szO26 _)) ?_; with_reducible rfl) | (refine Eq.trans (AR.exec_load_blk rfl rfl s1 Try.underlying28 rfl (szO28 _)) ?_; with_reducible rfl) | (go_simp; with_reducible rfl)
  rotate_left
  ·simp only [Act.put, List.setIfInBounds_toArray, List.set_cons_zero, List.set_cons_succ, i64_w, i32_w]
   rfl
  refine take_ (i := 2) (N := some 42) (v := ?_) (a' := ?_) #[true, false, true, false, false, false, true, false, false, false, false, false, false] rfl rfl (take_ofW HT_.out HW_.out (by kernel_rfl)) (fun _ _ _ h => h) (Or.inl ⟨by rfl, ?_⟩) hHeld ?_ ?_
  rotate_left
  ·rintro w' ⟨s0, s1, s2, s3, s4, s5, s6, s7⟩
   skip
   first | (refine Eq.trans (AR.exec_load_blk rfl rfl s0 Try.underlying26 rfl (szO26 _)) ?_; with_reducible rfl) | (refine Eq.trans (AR.exec_load_blk rfl rfl s1 Try.underlying28 rfl (szO28 _)) ?_; with_reducible rfl) | (go_simp; with_reducible rfl)
  rotate_left
  ·simp only [Act.put, List.setIfInBounds_toArray, List.set_cons_zero, List.set_cons_succ, i64_w, i32_w]
   rfl
  refine take_ (i := 4) (N := some 44) (v := ?_) (a' := ?_) #[true, false, true, false, true, false, true, false, false, false, false, false, false] rfl rfl (take_ofW HT_.out HW_.out (by kernel_rfl)) (fun _ _ _ h => h) (Or.inl ⟨by rfl, ?_⟩) hHeld ?_ ?_
  rotate_left
  ·rintro w' ⟨s0, s1, s2, s3, s4, s5, s6, s7⟩
   skip
   first | (refine Eq.trans (AR.exec_load_blk rfl rfl s0 Try.underlying26 rfl (szO26 _)) ?_; with_reducible rfl) | (refine Eq.trans (AR.exec_load_blk rfl rfl s1 Try.underlying28 rfl (szO28 _)) ?_; with_reducible rfl) | (go_simp; with_reducible rfl)
  rotate_left
  ·simp only [Act.put, List.setIfInBounds_toArray, List.set_cons_zero, List.set_cons_succ, i64_w, i32_w]
   rfl
  refine one_ (i := 1) (N := some 41) #[true, true, true, false, true, false, true, false, false, false, false, false, false] rfl rfl (one_of HT_.out (by kernel_rfl)) (by decide) (fun K hK => ?_)
  refine goes_ Try.func10 (by kernel_rfl) rfl #[VO26 a0] (by rfl) rfl rfl (by (try simp only [List.map_toArray, List.map_cons, List.map_nil]); first | done | rfl | (simp only [List.length_drop, List.length_take]; rfl)) ?_
  with_reducible refine (laws_toBay.calls a0 t288 _ A16.out).mono ?_
  rintro e w33 ⟨rfl, hb⟩
  refine ⟨_, rfl, ?_⟩
  have n0_ := Aside0.mk (Kd.R_below (by (with_reducible repeat (first | apply Kd.R_alloc | apply Kd.R_drewN | apply Kd.R_drew)); exact HO280.out) hb)
  have n1_ := Aside0.mk (Kd.R_below (by (with_reducible repeat (first | apply Kd.R_alloc | apply Kd.R_drewN | apply Kd.R_drew)); exact HO283.out) hb)
  have n2_ := Aside0.mk (Kd.R_below (by (with_reducible repeat (first | apply Kd.R_alloc | apply Kd.R_drewN | apply Kd.R_drew)); exact HO287.out) hb)
  have n3_ := Aside0.mk (sqB BK266.out hb)
  have n4_ := Aside0.mk (sqB BK267.out hb)
  have n5_ := Aside0.mk (sqB BK268.out hb)
  have n6_ := Aside0.mk (sqH HB.out hb)
  clear HO280
  clear HO283
  clear HO287
  clear BK266
  clear BK267
  clear BK268
  clear HB
  have HO280 := n0_
  have HO283 := n1_
  have HO287 := n2_
  have BK266 := n3_
  have BK267 := n4_
  have BK268 := n5_
  have HB := n6_
  clear n0_ n1_ n2_ n3_ n4_ n5_ n6_
  (try clear hb)
  (try clear hb2)
  (try clear hk)
  (try clear hi)
  refine hK.out _ _ ⟨BK266.out, BK267.out, (blk_cell BK268.out 0).trans rfl, (blk_cell BK268.out 1).trans rfl, (blk_cell BK268.out 2).trans rfl, (blk_cell BK268.out 3).trans rfl, (blk_cell BK268.out 4).trans rfl, (blk_cell BK268.out 5).trans rfl⟩ (fun hHeld => ?_)
  clear hK K
  refine norm_ (a' := ?_) ?_ ?_
  rotate_left
  ·show Act.put _ (some 41) _ = _
   simp only [Act.put, List.setIfInBounds_toArray, List.set_cons_zero, List.set_cons_succ, i64_w, i32_w]
   rfl
  refine one_ (i := 3) (N := some 43) #[true, true, true, true, true, false, true, false, false, false, false, false, false] rfl rfl (one_of HT_.out (by kernel_rfl)) (by decide) (fun K hK => ?_)
  refine goes_ Try.func11 (by kernel_rfl) rfl #[VO28 a1] (by rfl) rfl rfl (by (try simp only [List.map_toArray, List.map_cons, List.map_nil]); first | done | rfl | (simp only [List.length_drop, List.length_take]; rfl)) ?_
  with_reducible refine (laws_toGrounds.calls a1 t289 _ A17.out).mono ?_
  rintro e w34 ⟨rfl, hb⟩
  refine ⟨_, rfl, ?_⟩
  have n0_ := Aside0.mk (Kd.R_below (by (with_reducible repeat (first | apply Kd.R_alloc | apply Kd.R_drewN | apply Kd.R_drew)); exact HO280.out) hb)
  have n1_ := Aside0.mk (Kd.R_below (by (with_reducible repeat (first | apply Kd.R_alloc | apply Kd.R_drewN | apply Kd.R_drew)); exact HO283.out) hb)
  have n2_ := Aside0.mk (Kd.R_below (by (with_reducible repeat (first | apply Kd.R_alloc | apply Kd.R_drewN | apply Kd.R_drew)); exact HO287.out) hb)
  have n3_ := Aside0.mk (sqB BK266.out hb)
  have n4_ := Aside0.mk (sqB BK267.out hb)
  have n5_ := Aside0.mk (sqB BK268.out hb)
  have n6_ := Aside0.mk (sqH HB.out hb)
  clear HO280
  clear HO283
  clear HO287
  clear BK266
  clear BK267
  clear BK268
  clear HB
  have HO280 := n0_
  have HO283 := n1_
  have HO287 := n2_
  have BK266 := n3_
  have BK267 := n4_
  have BK268 := n5_
  have HB := n6_
  clear n0_ n1_ n2_ n3_ n4_ n5_ n6_
  (try clear hb)
  (try clear hb2)
  (try clear hk)
  (try clear hi)
  refine hK.out _ _ ⟨BK266.out, BK267.out, (blk_cell BK268.out 0).trans rfl, (blk_cell BK268.out 1).trans rfl, (blk_cell BK268.out 2).trans rfl, (blk_cell BK268.out 3).trans rfl, (blk_cell BK268.out 4).trans rfl, (blk_cell BK268.out 5).trans rfl⟩ (fun hHeld => ?_)
  clear hK K
  refine norm_ (a' := ?_) ?_ ?_
  rotate_left
  ·show Act.put _ (some 43) _ = _
   simp only [Act.put, List.setIfInBounds_toArray, List.set_cons_zero, List.set_cons_succ, i64_w, i32_w]
   rfl
  refine one_ (i := 5) (N := some 45) #[true, true, true, true, true, true, true, false, false, false, false, false, false] rfl rfl (one_of HT_.out (by kernel_rfl)) (by decide) (fun K hK => ?_)
  refine goes_ Try.func12 (by kernel_rfl) rfl #[.agg #[.int .i8 a2_0, .int .i8 a2_1, .int .i8 a2_2, .int .i8 a2_3, .int .i8 a2_4, .int .i8 a2_5]] (by rfl) rfl rfl (by (try simp only [List.map_toArray, List.map_cons, List.map_nil]); first | done | rfl | (simp only [List.length_drop, List.length_take]; rfl)) ?_
  with_reducible refine (laws_toBoat.calls a2_0 a2_1 a2_2 a2_3 a2_4 a2_5 t290 t291 t292 t293 t294 t295 _ A18.out).mono ?_
  rintro e w35 ⟨rfl, hb⟩
  refine ⟨_, rfl, ?_⟩
  have n0_ := Aside0.mk (Kd.R_below (by (with_reducible repeat (first | apply Kd.R_alloc | apply Kd.R_drewN | apply Kd.R_drew)); exact HO280.out) hb)
  have n1_ := Aside0.mk (Kd.R_below (by (with_reducible repeat (first | apply Kd.R_alloc | apply Kd.R_drewN | apply Kd.R_drew)); exact HO283.out) hb)
  have n2_ := Aside0.mk (Kd.R_below (by (with_reducible repeat (first | apply Kd.R_alloc | apply Kd.R_drewN | apply Kd.R_drew)); exact HO287.out) hb)
  have n3_ := Aside0.mk (sqB BK266.out hb)
  have n4_ := Aside0.mk (sqB BK267.out hb)
  have n5_ := Aside0.mk (sqB BK268.out hb)
  have n6_ := Aside0.mk (sqH HB.out hb)
  clear HO280
  clear HO283
  clear HO287
  clear BK266
  clear BK267
  clear BK268
  clear HB
  have HO280 := n0_
  have HO283 := n1_
  have HO287 := n2_
  have BK266 := n3_
  have BK267 := n4_
  have BK268 := n5_
  have HB := n6_
  clear n0_ n1_ n2_ n3_ n4_ n5_ n6_
  (try clear hb)
  (try clear hb2)
  (try clear hk)
  (try clear hi)
  obtain ⟨Ao36, co36, eo36⟩ := Kd.R_slice HO287.out
  (first | subst eo36 | (injection eo36 with f1_ f2_ f3_; have f4_ := f1_.symm; have f5_ := f3_.symm; clear f1_ f2_ f3_; subst f4_; subst f5_))
  refine hK.out _ _ ⟨BK266.out, BK267.out, (blk_cell BK268.out 0).trans rfl, (blk_cell BK268.out 1).trans rfl, (blk_cell BK268.out 2).trans rfl, (blk_cell BK268.out 3).trans rfl, (blk_cell BK268.out 4).trans rfl, (blk_cell BK268.out 5).trans rfl⟩ (fun hHeld => ?_)
  clear hK K
  refine norm_ (a' := ?_) ?_ ?_
  rotate_left
  ·show Act.put _ (some 45) _ = _
   simp only [Act.put, List.setIfInBounds_toArray, List.set_cons_zero, List.set_cons_succ, i64_w, i32_w]
   rfl
  refine one_ (i := 7) (N := some 47) #[true, true, true, true, true, true, true, true, false, false, false, false, false] rfl rfl (one_of HT_.out (by kernel_rfl)) (by decide) (fun K hK => ?_)
  refine goes_ Try.func14 (by kernel_rfl) rfl #[VO38 t288, VO40 t289, .agg #[.int .i8 t290, .int .i8 t291, .int .i8 t292, .int .i8 t293, .int .i8 t294, .int .i8 t295], .slice Ao36 t285.length co36] (by rfl) rfl rfl (by (try simp only [List.map_toArray, List.map_cons, List.map_nil]); first | done | rfl | (simp only [List.length_drop, List.length_take]; rfl)) ?_
  with_reducible refine (impl_DriftAll.calls k t288 t289 t290 t291 t292 t293 t294 t295 _ _ t285 t296 t299 _ ?side1 ?side2 A19.out).mono ?_
  (case side1 => repeat (first | exact (Kd.R_reads' HO287.out).2.2 | (with_reducible refine Kd.C_alloc ?_ _) | (with_reducible refine Kd.C_drewN ?_ _) | (with_reducible refine Kd.C_drew ?_)))
  (case side2 => exact (Kd.R_reads' HO287.out).2.1)
  rintro e w37 ⟨v297, rfl, ho0, hb⟩
  refine ⟨_, rfl, ?_⟩
  have n0_ := Aside0.mk (Kd.R_below (by (with_reducible repeat (first | apply Kd.R_alloc | apply Kd.R_drewN | apply Kd.R_drew)); exact HO280.out) hb)
  have n1_ := Aside0.mk (Kd.R_elder' (by (with_reducible repeat (first | apply Kd.R_alloc | apply Kd.R_drewN | apply Kd.R_drew)); exact HO283.out) (Kd.R_base ho0) hb)
  have n2_ := Aside0.mk (Kd.R_below (by (with_reducible repeat (first | apply Kd.R_alloc | apply Kd.R_drewN | apply Kd.R_drew)); exact HO287.out) hb)
  have n3_ := Aside0.mk (Kd.R_lower (Kd.R_new' ho0 (Kd.R_lt (by (with_reducible repeat (first | apply Kd.R_alloc | apply Kd.R_drewN | apply Kd.R_drew)); exact HO283.out))) (below_size (by repeat (first | (with_reducible first | exact HB.out | apply below_alloc | apply pw_below_drewN | apply below_drew1 | refine below_set ?_ GE266.out | refine below_set ?_ GE267.out | refine below_set ?_ GE268.out) | exact HB.out))))
  have n4_ := Aside0.mk (sqB BK266.out hb)
  have n5_ := Aside0.mk (sqB BK267.out hb)
  have n6_ := Aside0.mk (sqB BK268.out hb)
  have n7_ := Aside0.mk (sqH HB.out hb)
  clear HO280
  clear HO283
  clear HO287
  clear BK266
  clear BK267
  clear BK268
  clear HB
  have HO280 := n0_
  have HO283 := n1_
  have HO287 := n2_
  have HO298 := n3_
  have BK266 := n4_
  have BK267 := n5_
  have BK268 := n6_
  have HB := n7_
  clear n0_ n1_ n2_ n3_ n4_ n5_ n6_ n7_
  (try clear hb)
  (try clear hb2)
  (try clear hk)
  (try clear hi)
  (try clear ho0)
  refine hK.out _ _ ⟨BK266.out, BK267.out, (blk_cell BK268.out 0).trans rfl, (blk_cell BK268.out 1).trans rfl, (blk_cell BK268.out 2).trans rfl, (blk_cell BK268.out 3).trans rfl, (blk_cell BK268.out 4).trans rfl, (blk_cell BK268.out 5).trans rfl⟩ (fun hHeld => ?_)
  clear hK K
  refine norm_ (a' := ?_) ?_ ?_
  rotate_left
  ·show Act.put _ (some 47) _ = _
   simp only [Act.put, List.setIfInBounds_toArray, List.set_cons_zero, List.set_cons_succ, i64_w, i32_w]
   rfl
  refine pure_ (i := 8) (N := some 39) (v := ?_) (a' := ?_) #[true, true, true, true, true, true, true, true, true, false, false, false, false] rfl rfl (any_of HT_.out (by kernel_rfl)) (fun _ _ _ h => h) (Or.inl ⟨by rfl, ?_⟩) ?_ ?_
  rotate_left
  ·intro w'
   go_simp
   with_reducible rfl
  rotate_left
  ·simp only [Act.put, List.setIfInBounds_toArray, List.set_cons_zero, List.set_cons_succ, i64_w, i32_w]
   rfl
  refine pure_ (i := 9) (N := some 48) (v := ?_) (a' := ?_) #[true, true, true, true, true, true, true, true, true, true, false, false, false] rfl rfl (any_of HT_.out (by kernel_rfl)) (fun _ _ _ h => h) (Or.inl ⟨by rfl, ?_⟩) ?_ ?_
  rotate_left
  ·intro w'
   go_simp
   with_reducible rfl
  rotate_left
  ·simp only [Act.put, List.setIfInBounds_toArray, List.set_cons_zero, List.set_cons_succ, i64_w, i32_w]
   rfl
  refine pure_ (i := 10) (N := some 49) (v := ?_) (a' := ?_) #[true, true, true, true, true, true, true, true, true, true, true, false, false] rfl rfl (any_of HT_.out (by kernel_rfl)) (fun _ _ _ h => h) (Or.inl ⟨by rfl, ?_⟩) ?_ ?_
  rotate_left
  ·intro w'
   go_simp
   with_reducible rfl
  rotate_left
  ·simp only [Act.put, List.setIfInBounds_toArray, List.set_cons_zero, List.set_cons_succ, i64_w, i32_w]
   rfl
  refine pure_ (i := 11) (N := some 13) (v := ?_) (a' := ?_) #[true, true, true, true, true, true, true, true, true, true, true, true, false] rfl rfl (any_of HT_.out (by kernel_rfl)) (fun _ _ _ h => h) (Or.inl ⟨by rfl, ?_⟩) ?_ ?_
  rotate_left
  ·intro w'
   go_simp
   with_reducible rfl
  rotate_left
  ·simp only [Act.put, List.setIfInBounds_toArray, List.set_cons_zero, List.set_cons_succ, i64_w, i32_w]
   rfl
  refine pure_ (i := 12) (N := some 14) (v := ?_) (a' := ?_) #[true, true, true, true, true, true, true, true, true, true, true, true, true] rfl rfl (any_of HT_.out (by kernel_rfl)) (fun _ _ _ h => h) (Or.inl ⟨by rfl, ?_⟩) ?_ ?_
  rotate_left
  ·intro w'
   go_simp
   with_reducible rfl
  rotate_left
  ·simp only [Act.put, List.setIfInBounds_toArray, List.set_cons_zero, List.set_cons_succ, i64_w, i32_w]
   rfl
  refine done_ (done_of HT_.out (by kernel_rfl)) ?_
  go_upto_region 8 with (fail)
  go_cut [58] (fun v58 wc => ∃ (kq : Nat) (x58_19 : Bool), v58 = .bool x58_19 ∧ Aside0 (laws_FnExactDriftAll.j0 kq l3 t281 t284 t285 t296 t299 x58_19 a0 a1 a2_0 a2_1 a2_2 a2_3 a2_4 a2_5 = some r) ∧ Aside0 (kq ≤ k) ∧ Aside0 (Kd.R k42 42 wc w.heap.size (fun k_ => some k_ ≠ (v297 : Value).ownBlock) v282 t281) ∧ Aside0 (Kd.R k78 78 wc w.heap.size (fun _ => True) (.slice Ao36 t285.length co36) t285) ∧ Aside0 (Kd.R k42 42 wc w.heap.size (fun k_ => some k_ ≠ (v282 : Value).ownBlock) v297 t296) ∧ Aside0 (wc.heap[gb266]? = some (.cells (a0).A 26 (0, 0))) ∧ Aside0 (wc.heap[gb267]? = some (.cells (a1).A 28 (0, 0))) ∧ Aside0 (wc.heap[gb268]? = some (.cells #[.int .i8 a2_0, .int .i8 a2_1, .int .i8 a2_2, .int .i8 a2_3, .int .i8 a2_4, .int .i8 a2_5] 32 (0, 0))) ∧ Aside0 (Below w.heap.size w wc))
  case first =>
   have H := HC20.out
   clear HC20
   replace H := Option.bind_eq_some_iff.mp H
   obtain ⟨t300, A380, H⟩ := H
   replace H : (if t300 = true then (laws_FnExactDriftAll.j0 k l3 t281 t284 t285 t296 t299 (t299 != t284) a0 a1 a2_0 a2_1 a2_2 a2_3 a2_4 a2_5) else (laws_FnExactDriftAll.j0 k l3 t281 t284 t285 t296 t299 true a0 a1 a2_0 a2_1 a2_2 a2_3 a2_4 a2_5)) = some r := H
   have A38 := Aside0.mk A380
   clear A380
   by_cases c39 : t300 = true
   ·subst c39
    have H1 : (laws_FnExactDriftAll.j0 k l3 t281 t284 t285 t296 t299 (t299 != t284) a0 a1 a2_0 a2_1 a2_2 a2_3 a2_4 a2_5) = some r := by rw [if_pos rfl] at H; exact H
    clear H
    have H := H1
    clear H1
    have H' := Aside0.mk H
    clear H
    obtain ⟨Ao40, co40, eo40⟩ := Kd.R_slice HO298.out
    subst eo40
    obtain ⟨Ao41, co41, eo41⟩ := Kd.R_slice HO283.out
    subst eo41
    go_wp2_with (first | ((with_reducible refine gate_callee (f := 15) rfl ?_); refine goesL_ (some 52) rfl rfl Try.func15 (by kernel_rfl) rfl #[.slice Ao40 t296.length co40, .slice Ao41 t281.length co41] rfl (by (try simp only [List.map_toArray, List.map_cons, List.map_nil]); first | done | rfl | (simp only [List.length_drop, List.length_take]; rfl)) ?_; (with_reducible refine (laws_eqPlaceS.calls k _ _ t296 _ _ t281 true _ ?side1 ?side2 ?side3 ?side4 A38.out).mono ?_); (case side1 => repeat (first | exact (Kd.R_reads' HO298.out).2.2 | (with_reducible refine Kd.C_alloc ?_ _) | (with_reducible refine Kd.C_drewN ?_ _) | (with_reducible refine Kd.C_drew ?_))); (case side2 => exact (Kd.R_reads' HO298.out).2.1); (case side3 => repeat (first | exact (Kd.R_reads' HO283.out).2.2 | (with_reducible refine Kd.C_alloc ?_ _) | (with_reducible refine Kd.C_drewN ?_ _) | (with_reducible refine Kd.C_drew ?_))); (case side4 => exact (Kd.R_reads' HO283.out).2.1); rintro e w42 ⟨rfl, hb⟩; refine ⟨_, rfl, ?_⟩; have n0_ := Aside0.mk (Kd.R_below (by (with_reducible repeat (first | apply Kd.R_alloc | apply Kd.R_drewN | apply Kd.R_drew)); exact HO280.out) hb); have n1_ := Aside0.mk (Kd.R_below (by (with_reducible repeat (first | apply Kd.R_alloc | apply Kd.R_drewN | apply Kd.R_drew)); exact HO283.out) hb); have n2_ := Aside0.mk (Kd.R_below (by (with_reducible repeat (first | apply Kd.R_alloc | apply Kd.R_drewN | apply Kd.R_drew)); exact HO287.out) hb); have n3_ := Aside0.mk (Kd.R_below (by (with_reducible repeat (first | apply Kd.R_alloc | apply Kd.R_drewN | apply Kd.R_drew)); exact HO298.out) hb); have n4_ := Aside0.mk (sqB BK266.out hb); have n5_ := Aside0.mk (sqB BK267.out hb); have n6_ := Aside0.mk (sqB BK268.out hb); have n7_ := Aside0.mk (sqH HB.out hb); clear HO280; clear HO283; clear HO287; clear HO298; clear BK266; clear BK267; clear BK268; clear HB; have HO280 := n0_; have HO283 := n1_; have HO287 := n2_; have HO298 := n3_; have BK266 := n4_; have BK267 := n5_; have BK268 := n6_; have HB := n7_; clear n0_ n1_ n2_ n3_ n4_ n5_ n6_ n7_; (try clear hb); (try clear hb2); (try clear hk); (try clear hi)))
    go_meet
    case rel => exact ⟨_, ((t299 != t284)), (by first | rfl | (simp; done) | (simp [*]; done)), H', ⟨by first | omega | exact Nat.le_refl _⟩, ⟨by (with_reducible repeat (first | apply Kd.R_alloc | apply Kd.R_drewN | apply Kd.R_drew)); exact Kd.R_mono HO283.out (fun _ hk => hk.2)⟩, ⟨by (with_reducible repeat (first | apply Kd.R_alloc | apply Kd.R_drewN | apply Kd.R_drew)); exact Kd.R_mono HO287.out (fun _ hk => trivial)⟩, ⟨by (with_reducible repeat (first | apply Kd.R_alloc | apply Kd.R_drewN | apply Kd.R_drew)); exact Kd.R_mono HO298.out (fun _ hk => hk.2)⟩, ⟨by (with_reducible repeat (first | refine blk_drewN ?_ _ | refine blk_drew ?_ | refine blk_alloc ?_ _)); exact BK266.out⟩, ⟨by (with_reducible repeat (first | refine blk_drewN ?_ _ | refine blk_drew ?_ | refine blk_alloc ?_ _)); exact BK267.out⟩, ⟨by (with_reducible repeat (first | refine blk_drewN ?_ _ | refine blk_drew ?_ | refine blk_alloc ?_ _)); exact BK268.out⟩, ⟨by repeat (first | (with_reducible first | exact HB.out | apply below_alloc | apply pw_below_drewN | apply below_drew1 | refine below_set ?_ GE266.out | refine below_set ?_ GE267.out | refine below_set ?_ GE268.out) | exact HB.out)⟩⟩
   ·replace c39 := Bool.eq_false_iff.mpr c39
    subst c39
    have H1 : (laws_FnExactDriftAll.j0 k l3 t281 t284 t285 t296 t299 true a0 a1 a2_0 a2_1 a2_2 a2_3 a2_4 a2_5) = some r := by rw [if_neg (show ¬ (false = true) by decide)] at H; exact H
    clear H
    have H := H1
    clear H1
    have H' := Aside0.mk H
    clear H
    obtain ⟨Ao43, co43, eo43⟩ := Kd.R_slice HO298.out
    subst eo43
    obtain ⟨Ao44, co44, eo44⟩ := Kd.R_slice HO283.out
    subst eo44
    go_wp2_with (first | ((with_reducible refine gate_callee (f := 15) rfl ?_); refine goesL_ (some 52) rfl rfl Try.func15 (by kernel_rfl) rfl #[.slice Ao43 t296.length co43, .slice Ao44 t281.length co44] rfl (by (try simp only [List.map_toArray, List.map_cons, List.map_nil]); first | done | rfl | (simp only [List.length_drop, List.length_take]; rfl)) ?_; (with_reducible refine (laws_eqPlaceS.calls k _ _ t296 _ _ t281 false _ ?side1 ?side2 ?side3 ?side4 A38.out).mono ?_); (case side1 => repeat (first | exact (Kd.R_reads' HO298.out).2.2 | (with_reducible refine Kd.C_alloc ?_ _) | (with_reducible refine Kd.C_drewN ?_ _) | (with_reducible refine Kd.C_drew ?_))); (case side2 => exact (Kd.R_reads' HO298.out).2.1); (case side3 => repeat (first | exact (Kd.R_reads' HO283.out).2.2 | (with_reducible refine Kd.C_alloc ?_ _) | (with_reducible refine Kd.C_drewN ?_ _) | (with_reducible refine Kd.C_drew ?_))); (case side4 => exact (Kd.R_reads' HO283.out).2.1); rintro e w45 ⟨rfl, hb⟩; refine ⟨_, rfl, ?_⟩; have n0_ := Aside0.mk (Kd.R_below (by (with_reducible repeat (first | apply Kd.R_alloc | apply Kd.R_drewN | apply Kd.R_drew)); exact HO280.out) hb); have n1_ := Aside0.mk (Kd.R_below (by (with_reducible repeat (first | apply Kd.R_alloc | apply Kd.R_drewN | apply Kd.R_drew)); exact HO283.out) hb); have n2_ := Aside0.mk (Kd.R_below (by (with_reducible repeat (first | apply Kd.R_alloc | apply Kd.R_drewN | apply Kd.R_drew)); exact HO287.out) hb); have n3_ := Aside0.mk (Kd.R_below (by (with_reducible repeat (first | apply Kd.R_alloc | apply Kd.R_drewN | apply Kd.R_drew)); exact HO298.out) hb); have n4_ := Aside0.mk (sqB BK266.out hb); have n5_ := Aside0.mk (sqB BK267.out hb); have n6_ := Aside0.mk (sqB BK268.out hb); have n7_ := Aside0.mk (sqH HB.out hb); clear HO280; clear HO283; clear HO287; clear HO298; clear BK266; clear BK267; clear BK268; clear HB; have HO280 := n0_; have HO283 := n1_; have HO287 := n2_; have HO298 := n3_; have BK266 := n4_; have BK267 := n5_; have BK268 := n6_; have HB := n7_; clear n0_ n1_ n2_ n3_ n4_ n5_ n6_ n7_; (try clear hb); (try clear hb2); (try clear hk); (try clear hi)))
    go_meet
    case rel => exact ⟨_, (true), (by first | rfl | (simp; done) | (simp [*]; done)), H', ⟨by first | omega | exact Nat.le_refl _⟩, ⟨by (with_reducible repeat (first | apply Kd.R_alloc | apply Kd.R_drewN | apply Kd.R_drew)); exact Kd.R_mono HO283.out (fun _ hk => hk.2)⟩, ⟨by (with_reducible repeat (first | apply Kd.R_alloc | apply Kd.R_drewN | apply Kd.R_drew)); exact Kd.R_mono HO287.out (fun _ hk => trivial)⟩, ⟨by (with_reducible repeat (first | apply Kd.R_alloc | apply Kd.R_drewN | apply Kd.R_drew)); exact Kd.R_mono HO298.out (fun _ hk => hk.2)⟩, ⟨by (with_reducible repeat (first | refine blk_drewN ?_ _ | refine blk_drew ?_ | refine blk_alloc ?_ _)); exact BK266.out⟩, ⟨by (with_reducible repeat (first | refine blk_drewN ?_ _ | refine blk_drew ?_ | refine blk_alloc ?_ _)); exact BK267.out⟩, ⟨by (with_reducible repeat (first | refine blk_drewN ?_ _ | refine blk_drew ?_ | refine blk_alloc ?_ _)); exact BK268.out⟩, ⟨by repeat (first | (with_reducible first | exact HB.out | apply below_alloc | apply pw_below_drewN | apply below_drew1 | refine below_set ?_ GE266.out | refine below_set ?_ GE267.out | refine below_set ?_ GE268.out) | exact HB.out)⟩⟩
  case rest =>
   clear HC20
   try clear c1
   try clear p2
   try clear c3
   try clear c8
   try clear c9
   try clear c10
   try clear c11
   try clear c12
   try clear c13
   try clear c14
   try clear c15
   try clear c39
   obtain ⟨kq, x58_19, rfl, HA, HJ19, HO_10, HO_12, HO_13, BK266, BK267, BK268, HB⟩ := hcut
   cases kq with
   | zero => exact absurd HA.out (by simp [laws_FnExactDriftAll.j0])
   | succ kj19 =>
    have H := HA.out
    clear HA
    simp only [laws_FnExactDriftAll.j0] at H
    by_cases c46 : x58_19 = true
    ·subst c46
     have H1 : (some false) = some r := by rw [if_pos rfl] at H; exact H
     clear H
     have H := H1
     clear H1
     exact absurd (Option.some.inj H) (by rw [hr_.out]; decide)
    ·replace c46 := Bool.eq_false_iff.mpr c46
     subst c46
     have H1 : ((laws_toWindS.f kj19 l3).bind fun t301 => ((laws_eqWindS.f kj19 t285 t301).bind fun t304 => (if t304 = true then ((laws_markWindS.f kj19 t285 1).bind fun bt305 => (if bt305.1 < 0 then (laws_FnExactDriftAll.j1 kj19 l3 t281 t284 t296 true a0 a1 a2_0 a2_1 a2_2 a2_3 a2_4 a2_5) else ((laws_eqPlaceS.f kj19 t296 t281).bind fun t307 => (if t307 = true then (laws_FnExactDriftAll.j1 kj19 l3 t281 t284 t296 (t299 != t284) a0 a1 a2_0 a2_1 a2_2 a2_3 a2_4 a2_5) else (laws_FnExactDriftAll.j1 kj19 l3 t281 t284 t296 true a0 a1 a2_0 a2_1 a2_2 a2_3 a2_4 a2_5))))) else (some false)))) = some r := by rw [if_neg (show ¬ (false = true) by decide)] at H; exact H
     clear H
     have H := H1
     clear H1
     replace H := Option.bind_eq_some_iff.mp H
     obtain ⟨t301, A470, H⟩ := H
     replace H : ((laws_eqWindS.f kj19 t285 t301).bind fun t304 => (if t304 = true then ((laws_markWindS.f kj19 t285 1).bind fun bt305 => (if bt305.1 < 0 then (laws_FnExactDriftAll.j1 kj19 l3 t281 t284 t296 true a0 a1 a2_0 a2_1 a2_2 a2_3 a2_4 a2_5) else ((laws_eqPlaceS.f kj19 t296 t281).bind fun t307 => (if t307 = true then (laws_FnExactDriftAll.j1 kj19 l3 t281 t284 t296 (t299 != t284) a0 a1 a2_0 a2_1 a2_2 a2_3 a2_4 a2_5) else (laws_FnExactDriftAll.j1 kj19 l3 t281 t284 t296 true a0 a1 a2_0 a2_1 a2_2 a2_3 a2_4 a2_5))))) else (some false))) = some r := H
     have A47 := Aside0.mk A470
     clear A470
     replace H := Option.bind_eq_some_iff.mp H
     obtain ⟨t304, A480, H⟩ := H
     replace H : (if t304 = true then ((laws_markWindS.f kj19 t285 1).bind fun bt305 => (if bt305.1 < 0 then (laws_FnExactDriftAll.j1 kj19 l3 t281 t284 t296 true a0 a1 a2_0 a2_1 a2_2 a2_3 a2_4 a2_5) else ((laws_eqPlaceS.f kj19 t296 t281).bind fun t307 => (if t307 = true then (laws_FnExactDriftAll.j1 kj19 l3 t281 t284 t296 (t299 != t284) a0 a1 a2_0 a2_1 a2_2 a2_3 a2_4 a2_5) else (laws_FnExactDriftAll.j1 kj19 l3 t281 t284 t296 true a0 a1 a2_0 a2_1 a2_2 a2_3 a2_4 a2_5))))) else (some false)) = some r := H
     have A48 := Aside0.mk A480
     clear A480
     by_cases c49 : t304 = true
     ·subst c49
      have H1 : ((laws_markWindS.f kj19 t285 1).bind fun bt305 => (if bt305.1 < 0 then (laws_FnExactDriftAll.j1 kj19 l3 t281 t284 t296 true a0 a1 a2_0 a2_1 a2_2 a2_3 a2_4 a2_5) else ((laws_eqPlaceS.f kj19 t296 t281).bind fun t307 => (if t307 = true then (laws_FnExactDriftAll.j1 kj19 l3 t281 t284 t296 (t299 != t284) a0 a1 a2_0 a2_1 a2_2 a2_3 a2_4 a2_5) else (laws_FnExactDriftAll.j1 kj19 l3 t281 t284 t296 true a0 a1 a2_0 a2_1 a2_2 a2_3 a2_4 a2_5))))) = some r := by rw [if_pos rfl] at H; exact H
      clear H
      have H := H1
      clear H1
      replace H := Option.bind_eq_some_iff.mp H
      obtain ⟨⟨t305, t306⟩, A500, H⟩ := H
      replace H : (if t305 < 0 then (laws_FnExactDriftAll.j1 kj19 l3 t281 t284 t296 true a0 a1 a2_0 a2_1 a2_2 a2_3 a2_4 a2_5) else ((laws_eqPlaceS.f kj19 t296 t281).bind fun t307 => (if t307 = true then (laws_FnExactDriftAll.j1 kj19 l3 t281 t284 t296 (t299 != t284) a0 a1 a2_0 a2_1 a2_2 a2_3 a2_4 a2_5) else (laws_FnExactDriftAll.j1 kj19 l3 t281 t284 t296 true a0 a1 a2_0 a2_1 a2_2 a2_3 a2_4 a2_5)))) = some r := H
      have A50 := Aside0.mk A500
      clear A500
      have HC51 := Aside0.mk H
      clear H
      go_upto_region 14 with (first | ((with_reducible refine gate_callee (f := 13) rfl ?_); refine goesL_ (some 61) rfl rfl Try.func13 (by kernel_rfl) rfl #[.slice A3 l3.length c3] rfl (by (try simp only [List.map_toArray, List.map_cons, List.map_nil]); first | done | rfl | (simp only [List.length_drop, List.length_take]; rfl)) ?_; (with_reducible refine (laws_toWindS.calls kj19 _ _ l3 t301 _ ?side1 ?side2 A47.out).mono ?_); (case side1 => repeat (first | exact (Kd.C_below HR3.out HB.out) | (with_reducible refine Kd.C_alloc ?_ _) | (with_reducible refine Kd.C_drewN ?_ _) | (with_reducible refine Kd.C_drew ?_))); (case side2 => exact HC3.out); rintro e w52 ⟨v302, rfl, ho0, hb⟩; refine ⟨_, rfl, ?_⟩; have n0_ := Aside0.mk (Kd.R_below (by (with_reducible repeat (first | apply Kd.R_alloc | apply Kd.R_drewN | apply Kd.R_drew)); exact HO_10.out) hb); have n1_ := Aside0.mk (Kd.R_elder' (by (with_reducible repeat (first | apply Kd.R_alloc | apply Kd.R_drewN | apply Kd.R_drew)); exact HO_12.out) (Kd.R_base ho0) hb); have n2_ := Aside0.mk (Kd.R_below (by (with_reducible repeat (first | apply Kd.R_alloc | apply Kd.R_drewN | apply Kd.R_drew)); exact HO_13.out) hb); have n3_ := Aside0.mk (Kd.R_lower (Kd.R_new' ho0 (Kd.R_lt (by (with_reducible repeat (first | apply Kd.R_alloc | apply Kd.R_drewN | apply Kd.R_drew)); exact HO_12.out))) (below_size (by repeat (first | (with_reducible first | exact HB.out | apply below_alloc | apply pw_below_drewN | apply below_drew1 | refine below_set ?_ GE266.out | refine below_set ?_ GE267.out | refine below_set ?_ GE268.out) | exact HB.out)))); have n4_ := Aside0.mk (sqB BK266.out hb); have n5_ := Aside0.mk (sqB BK267.out hb); have n6_ := Aside0.mk (sqB BK268.out hb); have n7_ := Aside0.mk (sqH HB.out hb); clear HO_10; clear HO_12; clear HO_13; clear BK266; clear BK267; clear BK268; clear HB; have HO_10 := n0_; have HO_12 := n1_; have HO_13 := n2_; have HO303 := n3_; have BK266 := n4_; have BK267 := n5_; have BK268 := n6_; have HB := n7_; clear n0_ n1_ n2_ n3_ n4_ n5_ n6_ n7_; (try clear hb); (try clear hb2); (try clear hk); (try clear hi); (try clear ho0); obtain ⟨Ao53, co53, eo53⟩ := Kd.R_slice HO303.out; subst eo53) | ((with_reducible refine gate_callee (f := 16) rfl ?_); refine goesL_ (some 62) rfl rfl Try.func16 (by kernel_rfl) rfl #[.slice Ao36 t285.length co36, .slice Ao53 t301.length co53] rfl (by (try simp only [List.map_toArray, List.map_cons, List.map_nil]); first | done | rfl | (simp only [List.length_drop, List.length_take]; rfl)) ?_; (with_reducible refine (laws_eqWindS.calls kj19 _ _ t285 _ _ t301 true _ ?side1 ?side2 ?side3 ?side4 A48.out).mono ?_); (case side1 => repeat (first | exact (Kd.R_reads' HO_12.out).2.2 | (with_reducible refine Kd.C_alloc ?_ _) | (with_reducible refine Kd.C_drewN ?_ _) | (with_reducible refine Kd.C_drew ?_))); (case side2 => exact (Kd.R_reads' HO_12.out).2.1); (case side3 => repeat (first | exact (Kd.R_reads' HO303.out).2.2 | (with_reducible refine Kd.C_alloc ?_ _) | (with_reducible refine Kd.C_drewN ?_ _) | (with_reducible refine Kd.C_drew ?_))); (case side4 => exact (Kd.R_reads' HO303.out).2.1); rintro e w54 ⟨rfl, hb⟩; refine ⟨_, rfl, ?_⟩; have n0_ := Aside0.mk (Kd.R_below (by (with_reducible repeat (first | apply Kd.R_alloc | apply Kd.R_drewN | apply Kd.R_drew)); exact HO_10.out) hb); have n1_ := Aside0.mk (Kd.R_below (by (with_reducible repeat (first | apply Kd.R_alloc | apply Kd.R_drewN | apply Kd.R_drew)); exact HO_12.out) hb); have n2_ := Aside0.mk (Kd.R_below (by (with_reducible repeat (first | apply Kd.R_alloc | apply Kd.R_drewN | apply Kd.R_drew)); exact HO_13.out) hb); have n3_ := Aside0.mk (Kd.R_below (by (with_reducible repeat (first | apply Kd.R_alloc | apply Kd.R_drewN | apply Kd.R_drew)); exact HO303.out) hb); have n4_ := Aside0.mk (sqB BK266.out hb); have n5_ := Aside0.mk (sqB BK267.out hb); have n6_ := Aside0.mk (sqB BK268.out hb); have n7_ := Aside0.mk (sqH HB.out hb); clear HO_10; clear HO_12; clear HO_13; clear HO303; clear BK266; clear BK267; clear BK268; clear HB; have HO_10 := n0_; have HO_12 := n1_; have HO_13 := n2_; have HO303 := n3_; have BK266 := n4_; have BK267 := n5_; have BK268 := n6_; have HB := n7_; clear n0_ n1_ n2_ n3_ n4_ n5_ n6_ n7_; (try clear hb); (try clear hb2); (try clear hk); (try clear hi)) | ((with_reducible refine gate_callee (f := 17) rfl ?_); refine goesL_ (some 66) rfl rfl Try.func17 (by kernel_rfl) rfl #[.slice Ao36 t285.length co36, .int .i64 1] rfl (by (try simp only [List.map_toArray, List.map_cons, List.map_nil]); first | done | rfl | (simp only [List.length_drop, List.length_take]; rfl)) ?_; (with_reducible refine (laws_markWindS.calls kj19 (fun k_ => some k_ = (.slice Ao36 t285.length co36 : Value).ownBlock) (.slice Ao36 t285.length co36) t285 1 t305 t306 w _ ?side1 ?side2 A50.out).mono ?_); (case side1 => repeat (first | (with_reducible first | exact HB.out | apply below_alloc | apply pw_below_drewN | apply below_drew1 | refine below_set ?_ GE266.out | refine below_set ?_ GE267.out | refine below_set ?_ GE268.out) | exact HB.out)); (case side2 => exact Kd.R_tight rfl HO_12.out); rintro e w55 ⟨rfl, hy0, hb, hkp⟩; refine ⟨_, rfl, ?_⟩; have n0_ := Aside0.mk (Kd.R_mono (ok' := fun k_ => some k_ ≠ (v297 : Value).ownBlock) (Kd.R_keptB ((Kd.R_apart' HO_10.out (Kd.R_typed HO_12.out) (by decide))) hkp (fun k_ hk_ hs_ => (hk_.2) hs_)) (fun k_ hk_ => hk_.1.1)); have n1_ := Aside0.mk (Kd.R_reok rfl hy0 (fun k_ e_ => HO_12.out.1 k_ e_)); have n2_ := Aside0.mk (Kd.R_mono (ok' := fun k_ => some k_ ≠ (v282 : Value).ownBlock) (Kd.R_keptB ((Kd.R_apart' HO_13.out (Kd.R_typed HO_12.out) (by decide))) hkp (fun k_ hk_ hs_ => (hk_.2) hs_)) (fun k_ hk_ => hk_.1.1)); have n3_ := Aside0.mk (blk_kept (sqO BK266.out) hkp (fun hs_ => (fun e_ => (Kd.R_ne HO_12.out BK266.out (by decide)) e_) hs_)); have n4_ := Aside0.mk (blk_kept (sqO BK267.out) hkp (fun hs_ => (fun e_ => (Kd.R_ne HO_12.out BK267.out (by decide)) e_) hs_)); have n5_ := Aside0.mk (blk_kept (sqO BK268.out) hkp (fun hs_ => (fun e_ => (Kd.R_ne HO_12.out BK268.out (by decide)) e_) hs_)); have n6_ := Aside0.mk (Kd.R_mono (ok' := fun k_ => some k_ ≠ (.slice Ao36 t285.length co36 : Value).ownBlock) (Kd.R_keptB (HO303.out) hkp (fun k_ hk_ hs_ => (hk_.2) hs_)) (fun k_ hk_ => hk_.1.2)); have n7_ := Aside0.mk (hb); clear HO_10; clear HO_12; clear HO_13; clear BK266; clear BK267; clear BK268; clear HO303; clear HB; have HO_10 := n0_; have HO_12 := n1_; have HO_13 := n2_; have BK266 := n3_; have BK267 := n4_; have BK268 := n5_; have HO303 := n6_; have HB := n7_; clear n0_ n1_ n2_ n3_ n4_ n5_ n6_ n7_; (try clear hb); (try clear hkp); (try clear hy0)))
      (try simp only [Act.put, List.setIfInBounds_toArray, List.set_cons_zero, List.set_cons_succ])
      go_cut [79] (fun v79 wc => ∃ (kq : Nat) (x79_50 : Bool), v79 = .bool x79_50 ∧ Aside0 (laws_FnExactDriftAll.j1 kq l3 t281 t284 t296 x79_50 a0 a1 a2_0 a2_1 a2_2 a2_3 a2_4 a2_5 = some r) ∧ Aside0 (kq ≤ kj19) ∧ Aside0 (Kd.R k42 42 wc w.heap.size (fun k_ => some k_ ≠ (v297 : Value).ownBlock) v282 t281) ∧ Aside0 (Kd.R k42 42 wc w.heap.size (fun k_ => some k_ ≠ (v282 : Value).ownBlock) v297 t296) ∧ Aside0 (wc.heap[gb266]? = some (.cells (a0).A 26 (0, 0))) ∧ Aside0 (wc.heap[gb267]? = some (.cells (a1).A 28 (0, 0))) ∧ Aside0 (wc.heap[gb268]? = some (.cells #[.int .i8 a2_0, .int .i8 a2_1, .int .i8 a2_2, .int .i8 a2_3, .int .i8 a2_4, .int .i8 a2_5] 32 (0, 0))) ∧ Aside0 (Below w.heap.size w wc))
      case first =>
       have H := HC51.out
       clear HC51
       by_cases c56 : t305 < 0
       ·rw [if_pos c56] at H
        have c56b0 : decide (t305 < 0) = true := decide_eq_true c56
        clear c56
        (first | rw [c56b0] | (simp only [i64_w, i32_w]; rw [c56b0]) | skip)
        have H' := Aside0.mk H
        clear H
        go_wp2
        go_meet
        case rel => exact ⟨_, (true), (by first | rfl | (simp; done) | (simp [*]; done)), H', ⟨by have := HJ19.out; first | omega | exact Nat.le_refl _⟩, ⟨by (with_reducible repeat (first | apply Kd.R_alloc | apply Kd.R_drewN | apply Kd.R_drew)); exact HO_10.out⟩, ⟨by (with_reducible repeat (first | apply Kd.R_alloc | apply Kd.R_drewN | apply Kd.R_drew)); exact HO_13.out⟩, ⟨by (with_reducible repeat (first | refine blk_drewN ?_ _ | refine blk_drew ?_ | refine blk_alloc ?_ _)); exact BK266.out⟩, ⟨by (with_reducible repeat (first | refine blk_drewN ?_ _ | refine blk_drew ?_ | refine blk_alloc ?_ _)); exact BK267.out⟩, ⟨by (with_reducible repeat (first | refine blk_drewN ?_ _ | refine blk_drew ?_ | refine blk_alloc ?_ _)); exact BK268.out⟩, ⟨by repeat (first | (with_reducible first | exact HB.out | apply below_alloc | apply pw_below_drewN | apply below_drew1 | refine below_set ?_ GE266.out | refine below_set ?_ GE267.out | refine below_set ?_ GE268.out) | exact HB.out)⟩⟩
       ·rw [if_neg c56] at H
        have c56b0 : decide (t305 < 0) = false := decide_eq_false c56
        clear c56
        (first | rw [c56b0] | (simp only [i64_w, i32_w]; rw [c56b0]) | skip)
        replace H := Option.bind_eq_some_iff.mp H
        obtain ⟨t307, A570, H⟩ := H
        replace H : (if t307 = true then (laws_FnExactDriftAll.j1 kj19 l3 t281 t284 t296 (t299 != t284) a0 a1 a2_0 a2_1 a2_2 a2_3 a2_4 a2_5) else (laws_FnExactDriftAll.j1 kj19 l3 t281 t284 t296 true a0 a1 a2_0 a2_1 a2_2 a2_3 a2_4 a2_5)) = some r := H
        have A57 := Aside0.mk A570
        clear A570
        by_cases c58 : t307 = true
        ·subst c58
         have H1 : (laws_FnExactDriftAll.j1 kj19 l3 t281 t284 t296 (t299 != t284) a0 a1 a2_0 a2_1 a2_2 a2_3 a2_4 a2_5) = some r := by rw [if_pos rfl] at H; exact H
         clear H
         have H := H1
         clear H1
         have H' := Aside0.mk H
         clear H
         obtain ⟨Ao59, co59, eo59⟩ := Kd.R_slice HO_13.out
         subst eo59
         obtain ⟨Ao60, co60, eo60⟩ := Kd.R_slice HO_10.out
         subst eo60
         go_wp2_with (first | (go_at_call 15; (with_reducible refine (laws_eqPlaceS.calls kj19 _ _ t296 _ _ t281 true _ ?side1 ?side2 ?side3 ?side4 A57.out).mono ?_); (case side1 => repeat (first | exact (Kd.R_reads' HO_13.out).2.2 | (with_reducible refine Kd.C_alloc ?_ _) | (with_reducible refine Kd.C_drewN ?_ _) | (with_reducible refine Kd.C_drew ?_))); (case side2 => exact (Kd.R_reads' HO_13.out).2.1); (case side3 => repeat (first | exact (Kd.R_reads' HO_10.out).2.2 | (with_reducible refine Kd.C_alloc ?_ _) | (with_reducible refine Kd.C_drewN ?_ _) | (with_reducible refine Kd.C_drew ?_))); (case side4 => exact (Kd.R_reads' HO_10.out).2.1); rintro e w61 ⟨rfl, hb⟩; have n0_ := Aside0.mk (Kd.R_below (by (with_reducible repeat (first | apply Kd.R_alloc | apply Kd.R_drewN | apply Kd.R_drew)); exact HO_10.out) hb); have n1_ := Aside0.mk (Kd.R_below (by (with_reducible repeat (first | apply Kd.R_alloc | apply Kd.R_drewN | apply Kd.R_drew)); exact HO_12.out) hb); have n2_ := Aside0.mk (Kd.R_below (by (with_reducible repeat (first | apply Kd.R_alloc | apply Kd.R_drewN | apply Kd.R_drew)); exact HO_13.out) hb); have n3_ := Aside0.mk (Kd.R_below (by (with_reducible repeat (first | apply Kd.R_alloc | apply Kd.R_drewN | apply Kd.R_drew)); exact HO303.out) hb); have n4_ := Aside0.mk (sqB BK266.out hb); have n5_ := Aside0.mk (sqB BK267.out hb); have n6_ := Aside0.mk (sqB BK268.out hb); have n7_ := Aside0.mk (sqH HB.out hb); clear HO_10; clear HO_12; clear HO_13; clear HO303; clear BK266; clear BK267; clear BK268; clear HB; have HO_10 := n0_; have HO_12 := n1_; have HO_13 := n2_; have HO303 := n3_; have BK266 := n4_; have BK267 := n5_; have BK268 := n6_; have HB := n7_; clear n0_ n1_ n2_ n3_ n4_ n5_ n6_ n7_; (try clear hb); (try clear hb2); (try clear hk); (try clear hi)))
         go_meet
         case rel => exact ⟨_, ((t299 != t284)), (by first | rfl | (simp; done) | (simp [*]; done)), H', ⟨by have := HJ19.out; first | omega | exact Nat.le_refl _⟩, ⟨by (with_reducible repeat (first | apply Kd.R_alloc | apply Kd.R_drewN | apply Kd.R_drew)); exact HO_10.out⟩, ⟨by (with_reducible repeat (first | apply Kd.R_alloc | apply Kd.R_drewN | apply Kd.R_drew)); exact HO_13.out⟩, ⟨by (with_reducible repeat (first | refine blk_drewN ?_ _ | refine blk_drew ?_ | refine blk_alloc ?_ _)); exact BK266.out⟩, ⟨by (with_reducible repeat (first | refine blk_drewN ?_ _ | refine blk_drew ?_ | refine blk_alloc ?_ _)); exact BK267.out⟩, ⟨by (with_reducible repeat (first | refine blk_drewN ?_ _ | refine blk_drew ?_ | refine blk_alloc ?_ _)); exact BK268.out⟩, ⟨by repeat (first | (with_reducible first | exact HB.out | apply below_alloc | apply pw_below_drewN | apply below_drew1 | refine below_set ?_ GE266.out | refine below_set ?_ GE267.out | refine below_set ?_ GE268.out) | exact HB.out)⟩⟩
        ·replace c58 := Bool.eq_false_iff.mpr c58
         subst c58
         have H1 : (laws_FnExactDriftAll.j1 kj19 l3 t281 t284 t296 true a0 a1 a2_0 a2_1 a2_2 a2_3 a2_4 a2_5) = some r := by rw [if_neg (show ¬ (false = true) by decide)] at H; exact H
         clear H
         have H := H1
         clear H1
         have H' := Aside0.mk H
         clear H
         obtain ⟨Ao62, co62, eo62⟩ := Kd.R_slice HO_13.out
         subst eo62
         obtain ⟨Ao63, co63, eo63⟩ := Kd.R_slice HO_10.out
         subst eo63
         go_wp2_with (first | (go_at_call 15; (with_reducible refine (laws_eqPlaceS.calls kj19 _ _ t296 _ _ t281 false _ ?side1 ?side2 ?side3 ?side4 A57.out).mono ?_); (case side1 => repeat (first | exact (Kd.R_reads' HO_13.out).2.2 | (with_reducible refine Kd.C_alloc ?_ _) | (with_reducible refine Kd.C_drewN ?_ _) | (with_reducible refine Kd.C_drew ?_))); (case side2 => exact (Kd.R_reads' HO_13.out).2.1); (case side3 => repeat (first | exact (Kd.R_reads' HO_10.out).2.2 | (with_reducible refine Kd.C_alloc ?_ _) | (with_reducible refine Kd.C_drewN ?_ _) | (with_reducible refine Kd.C_drew ?_))); (case side4 => exact (Kd.R_reads' HO_10.out).2.1); rintro e w64 ⟨rfl, hb⟩; have n0_ := Aside0.mk (Kd.R_below (by (with_reducible repeat (first | apply Kd.R_alloc | apply Kd.R_drewN | apply Kd.R_drew)); exact HO_10.out) hb); have n1_ := Aside0.mk (Kd.R_below (by (with_reducible repeat (first | apply Kd.R_alloc | apply Kd.R_drewN | apply Kd.R_drew)); exact HO_12.out) hb); have n2_ := Aside0.mk (Kd.R_below (by (with_reducible repeat (first | apply Kd.R_alloc | apply Kd.R_drewN | apply Kd.R_drew)); exact HO_13.out) hb); have n3_ := Aside0.mk (Kd.R_below (by (with_reducible repeat (first | apply Kd.R_alloc | apply Kd.R_drewN | apply Kd.R_drew)); exact HO303.out) hb); have n4_ := Aside0.mk (sqB BK266.out hb); have n5_ := Aside0.mk (sqB BK267.out hb); have n6_ := Aside0.mk (sqB BK268.out hb); have n7_ := Aside0.mk (sqH HB.out hb); clear HO_10; clear HO_12; clear HO_13; clear HO303; clear BK266; clear BK267; clear BK268; clear HB; have HO_10 := n0_; have HO_12 := n1_; have HO_13 := n2_; have HO303 := n3_; have BK266 := n4_; have BK267 := n5_; have BK268 := n6_; have HB := n7_; clear n0_ n1_ n2_ n3_ n4_ n5_ n6_ n7_; (try clear hb); (try clear hb2); (try clear hk); (try clear hi)))
         go_meet
         case rel => exact ⟨_, (true), (by first | rfl | (simp; done) | (simp [*]; done)), H', ⟨by have := HJ19.out; first | omega | exact Nat.le_refl _⟩, ⟨by (with_reducible repeat (first | apply Kd.R_alloc | apply Kd.R_drewN | apply Kd.R_drew)); exact HO_10.out⟩, ⟨by (with_reducible repeat (first | apply Kd.R_alloc | apply Kd.R_drewN | apply Kd.R_drew)); exact HO_13.out⟩, ⟨by (with_reducible repeat (first | refine blk_drewN ?_ _ | refine blk_drew ?_ | refine blk_alloc ?_ _)); exact BK266.out⟩, ⟨by (with_reducible repeat (first | refine blk_drewN ?_ _ | refine blk_drew ?_ | refine blk_alloc ?_ _)); exact BK267.out⟩, ⟨by (with_reducible repeat (first | refine blk_drewN ?_ _ | refine blk_drew ?_ | refine blk_alloc ?_ _)); exact BK268.out⟩, ⟨by repeat (first | (with_reducible first | exact HB.out | apply below_alloc | apply pw_below_drewN | apply below_drew1 | refine below_set ?_ GE266.out | refine below_set ?_ GE267.out | refine below_set ?_ GE268.out) | exact HB.out)⟩⟩
      case rest =>
       clear HC51
       try clear c1
       try clear p2
       try clear c3
       try clear c4
       try clear c5
       try clear c8
       try clear c9
       try clear c10
       try clear c11
       try clear c12
       try clear c13
       try clear c14
       try clear c15
       try clear c16
       try clear c17
       try clear c39
       try clear c46
       try clear c49
       try clear c56
       try clear c56b0
       try clear c58
       try clear p2
       obtain ⟨kq, x79_50, rfl, HA, HJ50, HO_10, HO_13, BK266, BK267, BK268, HB⟩ := hcut
       cases kq with
       | zero => exact absurd HA.out (by simp [laws_FnExactDriftAll.j1])
       | succ kj50 =>
        have H := HA.out
        clear HA
        simp only [laws_FnExactDriftAll.j1] at H
        by_cases c65 : x79_50 = true
        ·subst c65
         have H1 : (some false) = some r := by rw [if_pos rfl] at H; exact H
         clear H
         have H := H1
         clear H1
         exact absurd (Option.some.inj H) (by rw [hr_.out]; decide)
        ·replace c65 := Bool.eq_false_iff.mpr c65
         subst c65
         have H1 : ((laws_markPlaceS.f kj50 t296 1).bind fun bt308 => ((laws_heldPlaceS.f kj50 bt308.2 1).bind fun t310 => (if t310 < 0 then (some false) else (if t310 = bt308.1 then ((laws_toBay.f a0).bind fun t311 => ((laws_toGrounds.f a1).bind fun t312 => ((laws_toBoat.f a2_0 a2_1 a2_2 a2_3 a2_4 a2_5).bind fun bt313 => ((laws_toWindS.f kj50 l3).bind fun t319 => ((impl_DriftAll.f kj50 t311 t312 bt313.1 bt313.2.1 bt313.2.2.1 bt313.2.2.2.1 bt313.2.2.2.2.1 bt313.2.2.2.2.2 t319).bind fun bt322 => ((laws_eqPlaceS.f kj50 bt322.1 t281).bind fun t326 => (if t326 = true then (laws_FnExactDriftAll.j2 kj50 bt308.2 bt308.1 (bt322.2 != t284)) else (laws_FnExactDriftAll.j2 kj50 bt308.2 bt308.1 true)))))))) else (some false))))) = some r := by rw [if_neg (show ¬ (false = true) by decide)] at H; exact H
         clear H
         have H := H1
         clear H1
         replace H := Option.bind_eq_some_iff.mp H
         obtain ⟨⟨t308, t309⟩, A660, H⟩ := H
         replace H : ((laws_heldPlaceS.f kj50 t309 1).bind fun t310 => (if t310 < 0 then (some false) else (if t310 = t308 then ((laws_toBay.f a0).bind fun t311 => ((laws_toGrounds.f a1).bind fun t312 => ((laws_toBoat.f a2_0 a2_1 a2_2 a2_3 a2_4 a2_5).bind fun bt313 => ((laws_toWindS.f kj50 l3).bind fun t319 => ((impl_DriftAll.f kj50 t311 t312 bt313.1 bt313.2.1 bt313.2.2.1 bt313.2.2.2.1 bt313.2.2.2.2.1 bt313.2.2.2.2.2 t319).bind fun bt322 => ((laws_eqPlaceS.f kj50 bt322.1 t281).bind fun t326 => (if t326 = true then (laws_FnExactDriftAll.j2 kj50 t309 t308 (bt322.2 != t284)) else (laws_FnExactDriftAll.j2 kj50 t309 t308 true)))))))) else (some false)))) = some r := H
         have A66 := Aside0.mk A660
         clear A660
         replace H := Option.bind_eq_some_iff.mp H
         obtain ⟨t310, A670, H⟩ := H
         replace H : (if t310 < 0 then (some false) else (if t310 = t308 then ((laws_toBay.f a0).bind fun t311 => ((laws_toGrounds.f a1).bind fun t312 => ((laws_toBoat.f a2_0 a2_1 a2_2 a2_3 a2_4 a2_5).bind fun bt313 => ((laws_toWindS.f kj50 l3).bind fun t319 => ((impl_DriftAll.f kj50 t311 t312 bt313.1 bt313.2.1 bt313.2.2.1 bt313.2.2.2.1 bt313.2.2.2.2.1 bt313.2.2.2.2.2 t319).bind fun bt322 => ((laws_eqPlaceS.f kj50 bt322.1 t281).bind fun t326 => (if t326 = true then (laws_FnExactDriftAll.j2 kj50 t309 t308 (bt322.2 != t284)) else (laws_FnExactDriftAll.j2 kj50 t309 t308 true)))))))) else (some false))) = some r := H
         have A67 := Aside0.mk A670
         clear A670
         by_cases c68 : t310 < 0
         ·rw [if_pos c68] at H
          have c68b0 : decide (t310 < 0) = true := decide_eq_true c68
          clear c68
          exact absurd (Option.some.inj H) (by rw [hr_.out]; decide)
         ·rw [if_neg c68] at H
          have c68b0 : decide (t310 < 0) = false := decide_eq_false c68
          clear c68
          by_cases c69 : t310 = t308
          ·rw [if_pos c69] at H
           have c69b0 : (t310 == t308) = true := beq_iff_eq.mpr c69
           have c69b1 : (t310 != t308) = false := bne_eq_false_iff_eq.mpr c69
           clear c69
           replace H := Option.bind_eq_some_iff.mp H
           obtain ⟨t311, A700, H⟩ := H
           replace H : ((laws_toGrounds.f a1).bind fun t312 => ((laws_toBoat.f a2_0 a2_1 a2_2 a2_3 a2_4 a2_5).bind fun bt313 => ((laws_toWindS.f kj50 l3).bind fun t319 => ((impl_DriftAll.f kj50 t311 t312 bt313.1 bt313.2.1 bt313.2.2.1 bt313.2.2.2.1 bt313.2.2.2.2.1 bt313.2.2.2.2.2 t319).bind fun bt322 => ((laws_eqPlaceS.f kj50 bt322.1 t281).bind fun t326 => (if t326 = true then (laws_FnExactDriftAll.j2 kj50 t309 t308 (bt322.2 != t284)) else (laws_FnExactDriftAll.j2 kj50 t309 t308 true))))))) = some r := H
           have A70 := Aside0.mk A700
           clear A700
           replace H := Option.bind_eq_some_iff.mp H
           obtain ⟨t312, A710, H⟩ := H
           replace H : ((laws_toBoat.f a2_0 a2_1 a2_2 a2_3 a2_4 a2_5).bind fun bt313 => ((laws_toWindS.f kj50 l3).bind fun t319 => ((impl_DriftAll.f kj50 t311 t312 bt313.1 bt313.2.1 bt313.2.2.1 bt313.2.2.2.1 bt313.2.2.2.2.1 bt313.2.2.2.2.2 t319).bind fun bt322 => ((laws_eqPlaceS.f kj50 bt322.1 t281).bind fun t326 => (if t326 = true then (laws_FnExactDriftAll.j2 kj50 t309 t308 (bt322.2 != t284)) else (laws_FnExactDriftAll.j2 kj50 t309 t308 true)))))) = some r := H
           have A71 := Aside0.mk A710
           clear A710
           replace H := Option.bind_eq_some_iff.mp H
           obtain ⟨⟨t313, t314, t315, t316, t317, t318⟩, A720, H⟩ := H
           replace H : ((laws_toWindS.f kj50 l3).bind fun t319 => ((impl_DriftAll.f kj50 t311 t312 t313 t314 t315 t316 t317 t318 t319).bind fun bt322 => ((laws_eqPlaceS.f kj50 bt322.1 t281).bind fun t326 => (if t326 = true then (laws_FnExactDriftAll.j2 kj50 t309 t308 (bt322.2 != t284)) else (laws_FnExactDriftAll.j2 kj50 t309 t308 true))))) = some r := H
           have A72 := Aside0.mk A720
           clear A720
           replace H := Option.bind_eq_some_iff.mp H
           obtain ⟨t319, A730, H⟩ := H
           replace H : ((impl_DriftAll.f kj50 t311 t312 t313 t314 t315 t316 t317 t318 t319).bind fun bt322 => ((laws_eqPlaceS.f kj50 bt322.1 t281).bind fun t326 => (if t326 = true then (laws_FnExactDriftAll.j2 kj50 t309 t308 (bt322.2 != t284)) else (laws_FnExactDriftAll.j2 kj50 t309 t308 true)))) = some r := H
           have A73 := Aside0.mk A730
           clear A730
           replace H := Option.bind_eq_some_iff.mp H
           obtain ⟨⟨t322, t325⟩, A740, H⟩ := H
           replace H : ((laws_eqPlaceS.f kj50 t322 t281).bind fun t326 => (if t326 = true then (laws_FnExactDriftAll.j2 kj50 t309 t308 (t325 != t284)) else (laws_FnExactDriftAll.j2 kj50 t309 t308 true))) = some r := H
           have A74 := Aside0.mk A740
           clear A740
           have HC75 := Aside0.mk H
           clear H
           obtain ⟨Ao76, co76, eo76⟩ := Kd.R_slice HO_13.out
           subst eo76
           try go_wp2_with (first | ((with_reducible refine gate_callee (f := 18) rfl ?_); refine goesL_ (some 82) rfl rfl Try.func18 (by kernel_rfl) rfl #[.slice Ao76 t296.length co76, .int .i64 1] rfl (by (try simp only [List.map_toArray, List.map_cons, List.map_nil]); first | done | rfl | (simp only [List.length_drop, List.length_take]; rfl)) ?_; (with_reducible refine (laws_markPlaceS.calls kj50 (fun k_ => some k_ = (.slice Ao76 t296.length co76 : Value).ownBlock) (.slice Ao76 t296.length co76) t296 1 t308 t309 w _ ?side1 ?side2 A66.out).mono ?_); (case side1 => repeat (first | (with_reducible first | exact HB.out | apply below_alloc | apply pw_below_drewN | apply below_drew1 | refine below_set ?_ GE266.out | refine below_set ?_ GE267.out | refine below_set ?_ GE268.out) | exact HB.out)); (case side2 => exact Kd.R_tight rfl HO_13.out); rintro e w77 ⟨rfl, hy0, hb, hkp⟩; refine ⟨_, rfl, ?_⟩; have n0_ := Aside0.mk (Kd.R_mono (ok' := fun k_ => some k_ ≠ (.slice Ao76 t296.length co76 : Value).ownBlock) (Kd.R_keptB (HO_10.out) hkp (fun k_ hk_ hs_ => (hk_) hs_)) (fun k_ hk_ => hk_.1)); have n1_ := Aside0.mk (Kd.R_reok rfl hy0 (fun k_ e_ => HO_13.out.1 k_ e_)); have n2_ := Aside0.mk (blk_kept (sqO BK266.out) hkp (fun hs_ => (fun e_ => (Kd.R_ne HO_13.out BK266.out (by decide)) e_) hs_)); have n3_ := Aside0.mk (blk_kept (sqO BK267.out) hkp (fun hs_ => (fun e_ => (Kd.R_ne HO_13.out BK267.out (by decide)) e_) hs_)); have n4_ := Aside0.mk (blk_kept (sqO BK268.out) hkp (fun hs_ => (fun e_ => (Kd.R_ne HO_13.out BK268.out (by decide)) e_) hs_)); have n5_ := Aside0.mk (hb); clear HO_10; clear HO_13; clear BK266; clear BK267; clear BK268; clear HB; have HO_10 := n0_; have HO_13 := n1_; have BK266 := n2_; have BK267 := n3_; have BK268 := n4_; have HB := n5_; clear n0_ n1_ n2_ n3_ n4_ n5_; (try clear hb); (try clear hkp); (try clear hy0)) | ((with_reducible refine gate_callee (f := 19) rfl ?_); refine goesL_ (some 85) rfl rfl Try.func19 (by kernel_rfl) rfl #[.slice Ao76 t309.length co76, .int .i64 1] rfl (by (try simp only [List.map_toArray, List.map_cons, List.map_nil]); first | done | (rw [show t309.length = t296.length from (Kd.R_reads' HO_13.out).1.symm] <;> rfl) | rfl | (simp only [List.length_drop, List.length_take]; rfl)) ?_; (with_reducible refine (laws_heldPlaceS.calls kj50 _ _ t309 1 t310 _ ?side1 ?side2 A67.out).mono ?_); (case side1 => repeat (first | exact (Kd.R_reads' HO_13.out).2.2 | (with_reducible refine Kd.C_alloc ?_ _) | (with_reducible refine Kd.C_drewN ?_ _) | (with_reducible refine Kd.C_drew ?_))); (case side2 => rw [show t309.length = t296.length from (Kd.R_reads' HO_13.out).1.symm]; exact (Kd.R_reads' HO_13.out).2.1); rintro e w' ⟨rfl, ⟨nd, rfl⟩⟩; refine ⟨_, rfl, ?_⟩))
           (try (rw [drewN_self w77]; generalize hq_ : World.drewN w77 _ = w77; have n0_ : Aside0 (Kd.R k42 42 w77 w.heap.size (fun k_ => some k_ ≠ (.slice Ao76 t296.length co76 : Value).ownBlock) v282 t281) := ⟨by rw [← hq_]; exact (by (with_reducible repeat (first | apply Kd.R_alloc | apply Kd.R_drewN | apply Kd.R_drew)); exact HO_10.out)⟩; have n1_ : Aside0 (Kd.R k42 42 w77 w.heap.size (fun k_ => some k_ ≠ (v282 : Value).ownBlock) (.slice Ao76 t296.length co76) t309) := ⟨by rw [← hq_]; exact (by (with_reducible repeat (first | apply Kd.R_alloc | apply Kd.R_drewN | apply Kd.R_drew)); exact HO_13.out)⟩; have n2_ : Aside0 (w77.heap[gb266]? = some (.cells (a0).A 26 (0, 0))) := ⟨by rw [← hq_]; exact (sqO BK266.out)⟩; have n3_ : Aside0 (w77.heap[gb267]? = some (.cells (a1).A 28 (0, 0))) := ⟨by rw [← hq_]; exact (sqO BK267.out)⟩; have n4_ : Aside0 (w77.heap[gb268]? = some (.cells #[.int .i8 a2_0, .int .i8 a2_1, .int .i8 a2_2, .int .i8 a2_3, .int .i8 a2_4, .int .i8 a2_5] 32 (0, 0))) := ⟨by rw [← hq_]; exact (sqO BK268.out)⟩; have n5_ : Aside0 (Below w.heap.size w w77) := ⟨by rw [← hq_]; exact (by repeat (first | (with_reducible first | exact HB.out | apply below_alloc | apply pw_below_drewN | apply below_drew1 | refine below_set ?_ GE266.out | refine below_set ?_ GE267.out | refine below_set ?_ GE268.out) | exact HB.out))⟩; clear HO_10 HO_13 BK266 BK267 BK268 HB hq_; have HO_10 := n0_; have HO_13 := n1_; have BK266 := n2_; have BK267 := n3_; have BK268 := n4_; have HB := n5_; clear n0_ n1_ n2_ n3_ n4_ n5_))
           have n0_ := Aside0.mk (Kd.R_drew HO_10.out)
           have n1_ := Aside0.mk (Kd.R_drew HO_13.out)
           have n2_ := Aside0.mk (blk_drew BK266.out)
           have n3_ := Aside0.mk (blk_drew BK267.out)
           have n4_ := Aside0.mk (blk_drew BK268.out)
           have n5_ := Aside0.mk (below_drew1 HB.out)
           clear HO_10
           clear HO_13
           clear BK266
           clear BK267
           clear BK268
           clear HB
           have HO_10 := n0_
           have HO_13 := n1_
           have BK266 := n2_
           have BK267 := n3_
           have BK268 := n4_
           have HB := n5_
           clear n0_ n1_ n2_ n3_ n4_ n5_
           refine start_ (n := 14) (S := fun w' => w'.heap[gb266]? = some (.cells (a0).A 26 (0, 0)) ∧ w'.heap[gb267]? = some (.cells (a1).A 28 (0, 0)) ∧ w'.cell? ⟨gb268, 0, none⟩ = some (.int .i8 a2_0) ∧ w'.cell? ⟨gb268, 1, none⟩ = some (.int .i8 a2_1) ∧ w'.cell? ⟨gb268, 2, none⟩ = some (.int .i8 a2_2) ∧ w'.cell? ⟨gb268, 3, none⟩ = some (.int .i8 a2_3) ∧ w'.cell? ⟨gb268, 4, none⟩ = some (.int .i8 a2_4) ∧ w'.cell? ⟨gb268, 5, none⟩ = some (.int .i8 a2_5)) (ds := []) #[false, false, false, false, false, false, false, false, false, false, false, false, false, false] (by kernel_rfl) rfl rfl ⟨BK266.out, BK267.out, (blk_cell BK268.out 0).trans rfl, (blk_cell BK268.out 1).trans rfl, (blk_cell BK268.out 2).trans rfl, (blk_cell BK268.out 3).trans rfl, (blk_cell BK268.out 4).trans rfl, (blk_cell BK268.out 5).trans rfl⟩ (fun hHeld => ?_); refine with_tabW laws_FnExactDriftAll.tab24 laws_FnExactDriftAll.bits24 (fun HT_ HW_ => ?_)
           generalize w77.drew = w78 at HO_10 HO_13 BK266 BK267 BK268 HB hHeld ⊢
           refine pure_ (i := 6) (N := some 98) (v := ?_) (a' := ?_) #[false, false, false, false, false, false, true, false, false, false, false, false, false, false] rfl rfl (any_of HT_.out (by kernel_rfl)) (fun _ _ _ h => h) (Or.inl ⟨by rfl, ?_⟩) ?_ ?_
           rotate_left
           ·intro w'
            go_simp
            with_reducible rfl
           rotate_left
           ·simp only [Act.put, List.setIfInBounds_toArray, List.set_cons_zero, List.set_cons_succ, i64_w, i32_w]
            rfl
           refine take_ (i := 0) (N := some 92) (v := ?_) (a' := ?_) #[true, false, false, false, false, false, true, false, false, false, false, false, false, false] rfl rfl (take_ofW HT_.out HW_.out (by kernel_rfl)) (fun _ _ _ h => h) (Or.inl ⟨by rfl, ?_⟩) hHeld ?_ ?_
           rotate_left
           ·rintro w' ⟨s0, s1, s2, s3, s4, s5, s6, s7⟩
            skip
            first | (refine Eq.trans (AR.exec_load_blk rfl rfl s0 Try.underlying26 rfl (szO26 _)) ?_; with_reducible rfl) | (refine Eq.trans (AR.exec_load_blk rfl rfl s1 Try.underlying28 rfl (szO28 _)) ?_; with_reducible rfl) | (go_simp; with_reducible rfl)
           rotate_left
           ·simp only [Act.put, List.setIfInBounds_toArray, List.set_cons_zero, List.set_cons_succ, i64_w, i32_w]
            rfl
           refine take_ (i := 2) (N := some 94) (v := ?_) (a' := ?_) #[true, false, true, false, false, false, true, false, false, false, false, false, false, false] rfl rfl (take_ofW HT_.out HW_.out (by kernel_rfl)) (fun _ _ _ h => h) (Or.inl ⟨by rfl, ?_⟩) hHeld ?_ ?_
           rotate_left
           ·rintro w' ⟨s0, s1, s2, s3, s4, s5, s6, s7⟩
            skip
            first | (refine Eq.trans (AR.exec_load_blk rfl rfl s0 Try.underlying26 rfl (szO26 _)) ?_; with_reducible rfl) | (refine Eq.trans (AR.exec_load_blk rfl rfl s1 Try.underlying28 rfl (szO28 _)) ?_; with_reducible rfl) | (go_simp; with_reducible rfl)
           rotate_left
           ·simp only [Act.put, List.setIfInBounds_toArray, List.set_cons_zero, List.set_cons_succ, i64_w, i32_w]
            rfl
           refine take_ (i := 4) (N := some 96) (v := ?_) (a' := ?_) #[true, false, true, false, true, false, true, false, false, false, false, false, false, false] rfl rfl (take_ofW HT_.out HW_.out (by kernel_rfl)) (fun _ _ _ h => h) (Or.inl ⟨by rfl, ?_⟩) hHeld ?_ ?_
           rotate_left
           ·rintro w' ⟨s0, s1, s2, s3, s4, s5, s6, s7⟩
            skip
            first | (refine Eq.trans (AR.exec_load_blk rfl rfl s0 Try.underlying26 rfl (szO26 _)) ?_; with_reducible rfl) | (refine Eq.trans (AR.exec_load_blk rfl rfl s1 Try.underlying28 rfl (szO28 _)) ?_; with_reducible rfl) | (go_simp; with_reducible rfl)
           rotate_left
           ·simp only [Act.put, List.setIfInBounds_toArray, List.set_cons_zero, List.set_cons_succ, i64_w, i32_w]
            rfl
           refine one_ (i := 1) (N := some 93) #[true, true, true, false, true, false, true, false, false, false, false, false, false, false] rfl rfl (one_of HT_.out (by kernel_rfl)) (by decide) (fun K hK => ?_)
           refine goes_ Try.func10 (by kernel_rfl) rfl #[VO26 a0] (by rfl) rfl rfl (by (try simp only [List.map_toArray, List.map_cons, List.map_nil]); first | done | rfl | (simp only [List.length_drop, List.length_take]; rfl)) ?_
           with_reducible refine (laws_toBay.calls a0 t311 _ A70.out).mono ?_
           rintro e w79 ⟨rfl, hb⟩
           refine ⟨_, rfl, ?_⟩
           have n0_ := Aside0.mk (Kd.R_below (by (with_reducible repeat (first | apply Kd.R_alloc | apply Kd.R_drewN | apply Kd.R_drew)); exact HO_10.out) hb)
           have n1_ := Aside0.mk (Kd.R_below (by (with_reducible repeat (first | apply Kd.R_alloc | apply Kd.R_drewN | apply Kd.R_drew)); exact HO_13.out) hb)
           have n2_ := Aside0.mk (sqB BK266.out hb)
           have n3_ := Aside0.mk (sqB BK267.out hb)
           have n4_ := Aside0.mk (sqB BK268.out hb)
           have n5_ := Aside0.mk (sqH HB.out hb)
           clear HO_10
           clear HO_13
           clear BK266
           clear BK267
           clear BK268
           clear HB
           have HO_10 := n0_
           have HO_13 := n1_
           have BK266 := n2_
           have BK267 := n3_
           have BK268 := n4_
           have HB := n5_
           clear n0_ n1_ n2_ n3_ n4_ n5_
           (try clear hb)
           (try clear hb2)
           (try clear hk)
           (try clear hi)
           refine hK.out _ _ ⟨BK266.out, BK267.out, (blk_cell BK268.out 0).trans rfl, (blk_cell BK268.out 1).trans rfl, (blk_cell BK268.out 2).trans rfl, (blk_cell BK268.out 3).trans rfl, (blk_cell BK268.out 4).trans rfl, (blk_cell BK268.out 5).trans rfl⟩ (fun hHeld => ?_)
           clear hK K
           refine norm_ (a' := ?_) ?_ ?_
           rotate_left
           ·show Act.put _ (some 93) _ = _
            simp only [Act.put, List.setIfInBounds_toArray, List.set_cons_zero, List.set_cons_succ, i64_w, i32_w]
            rfl
           refine one_ (i := 3) (N := some 95) #[true, true, true, true, true, false, true, false, false, false, false, false, false, false] rfl rfl (one_of HT_.out (by kernel_rfl)) (by decide) (fun K hK => ?_)
           refine goes_ Try.func11 (by kernel_rfl) rfl #[VO28 a1] (by rfl) rfl rfl (by (try simp only [List.map_toArray, List.map_cons, List.map_nil]); first | done | rfl | (simp only [List.length_drop, List.length_take]; rfl)) ?_
           with_reducible refine (laws_toGrounds.calls a1 t312 _ A71.out).mono ?_
           rintro e w80 ⟨rfl, hb⟩
           refine ⟨_, rfl, ?_⟩
           have n0_ := Aside0.mk (Kd.R_below (by (with_reducible repeat (first | apply Kd.R_alloc | apply Kd.R_drewN | apply Kd.R_drew)); exact HO_10.out) hb)
           have n1_ := Aside0.mk (Kd.R_below (by (with_reducible repeat (first | apply Kd.R_alloc | apply Kd.R_drewN | apply Kd.R_drew)); exact HO_13.out) hb)
           have n2_ := Aside0.mk (sqB BK266.out hb)
           have n3_ := Aside0.mk (sqB BK267.out hb)
           have n4_ := Aside0.mk (sqB BK268.out hb)
           have n5_ := Aside0.mk (sqH HB.out hb)
           clear HO_10
           clear HO_13
           clear BK266
           clear BK267
           clear BK268
           clear HB
           have HO_10 := n0_
           have HO_13 := n1_
           have BK266 := n2_
           have BK267 := n3_
           have BK268 := n4_
           have HB := n5_
           clear n0_ n1_ n2_ n3_ n4_ n5_
           (try clear hb)
           (try clear hb2)
           (try clear hk)
           (try clear hi)
           refine hK.out _ _ ⟨BK266.out, BK267.out, (blk_cell BK268.out 0).trans rfl, (blk_cell BK268.out 1).trans rfl, (blk_cell BK268.out 2).trans rfl, (blk_cell BK268.out 3).trans rfl, (blk_cell BK268.out 4).trans rfl, (blk_cell BK268.out 5).trans rfl⟩ (fun hHeld => ?_)
           clear hK K
           refine norm_ (a' := ?_) ?_ ?_
           rotate_left
           ·show Act.put _ (some 95) _ = _
            simp only [Act.put, List.setIfInBounds_toArray, List.set_cons_zero, List.set_cons_succ, i64_w, i32_w]
            rfl
           refine one_ (i := 5) (N := some 97) #[true, true, true, true, true, true, true, false, false, false, false, false, false, false] rfl rfl (one_of HT_.out (by kernel_rfl)) (by decide) (fun K hK => ?_)
           refine goes_ Try.func12 (by kernel_rfl) rfl #[.agg #[.int .i8 a2_0, .int .i8 a2_1, .int .i8 a2_2, .int .i8 a2_3, .int .i8 a2_4, .int .i8 a2_5]] (by rfl) rfl rfl (by (try simp only [List.map_toArray, List.map_cons, List.map_nil]); first | done | rfl | (simp only [List.length_drop, List.length_take]; rfl)) ?_
           with_reducible refine (laws_toBoat.calls a2_0 a2_1 a2_2 a2_3 a2_4 a2_5 t313 t314 t315 t316 t317 t318 _ A72.out).mono ?_
           rintro e w81 ⟨rfl, hb⟩
           refine ⟨_, rfl, ?_⟩
           have n0_ := Aside0.mk (Kd.R_below (by (with_reducible repeat (first | apply Kd.R_alloc | apply Kd.R_drewN | apply Kd.R_drew)); exact HO_10.out) hb)
           have n1_ := Aside0.mk (Kd.R_below (by (with_reducible repeat (first | apply Kd.R_alloc | apply Kd.R_drewN | apply Kd.R_drew)); exact HO_13.out) hb)
           have n2_ := Aside0.mk (sqB BK266.out hb)
           have n3_ := Aside0.mk (sqB BK267.out hb)
           have n4_ := Aside0.mk (sqB BK268.out hb)
           have n5_ := Aside0.mk (sqH HB.out hb)
           clear HO_10
           clear HO_13
           clear BK266
           clear BK267
           clear BK268
           clear HB
           have HO_10 := n0_
           have HO_13 := n1_
           have BK266 := n2_
           have BK267 := n3_
           have BK268 := n4_
           have HB := n5_
           clear n0_ n1_ n2_ n3_ n4_ n5_
           (try clear hb)
           (try clear hb2)
           (try clear hk)
           (try clear hi)
           refine hK.out _ _ ⟨BK266.out, BK267.out, (blk_cell BK268.out 0).trans rfl, (blk_cell BK268.out 1).trans rfl, (blk_cell BK268.out 2).trans rfl, (blk_cell BK268.out 3).trans rfl, (blk_cell BK268.out 4).trans rfl, (blk_cell BK268.out 5).trans rfl⟩ (fun hHeld => ?_)
           clear hK K
           refine norm_ (a' := ?_) ?_ ?_
           rotate_left
           ·show Act.put _ (some 97) _ = _
            simp only [Act.put, List.setIfInBounds_toArray, List.set_cons_zero, List.set_cons_succ, i64_w, i32_w]
            rfl
           refine one_ (i := 7) (N := some 99) #[true, true, true, true, true, true, true, true, false, false, false, false, false, false] rfl rfl (one_of HT_.out (by kernel_rfl)) (by decide) (fun K hK => ?_)
           refine goes_ Try.func13 (by kernel_rfl) rfl #[.slice A3 l3.length c3] (by rfl) rfl rfl (by (try simp only [List.map_toArray, List.map_cons, List.map_nil]); first | done | rfl | (simp only [List.length_drop, List.length_take]; rfl)) ?_
           with_reducible refine (laws_toWindS.calls kj50 _ _ l3 t319 _ ?side1 ?side2 A73.out).mono ?_
           (case side1 => repeat (first | exact (Kd.C_below HR3.out HB.out) | (with_reducible refine Kd.C_alloc ?_ _) | (with_reducible refine Kd.C_drewN ?_ _) | (with_reducible refine Kd.C_drew ?_)))
           (case side2 => exact HC3.out)
           rintro e w82 ⟨v320, rfl, ho0, hb⟩
           refine ⟨_, rfl, ?_⟩
           have n0_ := Aside0.mk (Kd.R_below (by (with_reducible repeat (first | apply Kd.R_alloc | apply Kd.R_drewN | apply Kd.R_drew)); exact HO_10.out) hb)
           have n1_ := Aside0.mk (Kd.R_below (by (with_reducible repeat (first | apply Kd.R_alloc | apply Kd.R_drewN | apply Kd.R_drew)); exact HO_13.out) hb)
           have n2_ := Aside0.mk (Kd.R_lower ho0 (below_size (by repeat (first | (with_reducible first | exact HB.out | apply below_alloc | apply pw_below_drewN | apply below_drew1 | refine below_set ?_ GE266.out | refine below_set ?_ GE267.out | refine below_set ?_ GE268.out) | exact HB.out))))
           have n3_ := Aside0.mk (sqB BK266.out hb)
           have n4_ := Aside0.mk (sqB BK267.out hb)
           have n5_ := Aside0.mk (sqB BK268.out hb)
           have n6_ := Aside0.mk (sqH HB.out hb)
           clear HO_10
           clear HO_13
           clear BK266
           clear BK267
           clear BK268
           clear HB
           have HO_10 := n0_
           have HO_13 := n1_
           have HO321 := n2_
           have BK266 := n3_
           have BK267 := n4_
           have BK268 := n5_
           have HB := n6_
           clear n0_ n1_ n2_ n3_ n4_ n5_ n6_
           (try clear hb)
           (try clear hb2)
           (try clear hk)
           (try clear hi)
           (try clear ho0)
           obtain ⟨Ao83, co83, eo83⟩ := Kd.R_slice HO321.out
           (first | subst eo83 | (injection eo83 with f1_ f2_ f3_; have f4_ := f1_.symm; have f5_ := f3_.symm; clear f1_ f2_ f3_; subst f4_; subst f5_))
           refine hK.out _ _ ⟨BK266.out, BK267.out, (blk_cell BK268.out 0).trans rfl, (blk_cell BK268.out 1).trans rfl, (blk_cell BK268.out 2).trans rfl, (blk_cell BK268.out 3).trans rfl, (blk_cell BK268.out 4).trans rfl, (blk_cell BK268.out 5).trans rfl⟩ (fun hHeld => ?_)
           clear hK K
           refine norm_ (a' := ?_) ?_ ?_
           rotate_left
           ·show Act.put _ (some 99) _ = _
            simp only [Act.put, List.setIfInBounds_toArray, List.set_cons_zero, List.set_cons_succ, i64_w, i32_w]
            rfl
           refine one_ (i := 8) (N := some 100) #[true, true, true, true, true, true, true, true, true, false, false, false, false, false] rfl rfl (one_of HT_.out (by kernel_rfl)) (by decide) (fun K hK => ?_)
           refine goes_ Try.func14 (by kernel_rfl) rfl #[VO38 t311, VO40 t312, .agg #[.int .i8 t313, .int .i8 t314, .int .i8 t315, .int .i8 t316, .int .i8 t317, .int .i8 t318], .slice Ao83 t319.length co83] (by rfl) rfl rfl (by (try simp only [List.map_toArray, List.map_cons, List.map_nil]); first | done | rfl | (simp only [List.length_drop, List.length_take]; rfl)) ?_
           with_reducible refine (impl_DriftAll.calls kj50 t311 t312 t313 t314 t315 t316 t317 t318 _ _ t319 t322 t325 _ ?side1 ?side2 A74.out).mono ?_
           (case side1 => repeat (first | exact (Kd.R_reads' HO321.out).2.2 | (with_reducible refine Kd.C_alloc ?_ _) | (with_reducible refine Kd.C_drewN ?_ _) | (with_reducible refine Kd.C_drew ?_)))
           (case side2 => exact (Kd.R_reads' HO321.out).2.1)
           rintro e w84 ⟨v323, rfl, ho0, hb⟩
           refine ⟨_, rfl, ?_⟩
           have n0_ := Aside0.mk (Kd.R_elder' (by (with_reducible repeat (first | apply Kd.R_alloc | apply Kd.R_drewN | apply Kd.R_drew)); exact HO_10.out) (Kd.R_base ho0) hb)
           have n1_ := Aside0.mk (Kd.R_elder' (by (with_reducible repeat (first | apply Kd.R_alloc | apply Kd.R_drewN | apply Kd.R_drew)); exact HO_13.out) (Kd.R_base ho0) hb)
           have n2_ := Aside0.mk (Kd.R_below (by (with_reducible repeat (first | apply Kd.R_alloc | apply Kd.R_drewN | apply Kd.R_drew)); exact HO321.out) hb)
           have n3_ := Aside0.mk (Kd.R_lower (Kd.R_new' (Kd.R_new' ho0 (Kd.R_lt (by (with_reducible repeat (first | apply Kd.R_alloc | apply Kd.R_drewN | apply Kd.R_drew)); exact HO_10.out))) (Kd.R_lt (by (with_reducible repeat (first | apply Kd.R_alloc | apply Kd.R_drewN | apply Kd.R_drew)); exact HO_13.out))) (below_size (by repeat (first | (with_reducible first | exact HB.out | apply below_alloc | apply pw_below_drewN | apply below_drew1 | refine below_set ?_ GE266.out | refine below_set ?_ GE267.out | refine below_set ?_ GE268.out) | exact HB.out))))
           have n4_ := Aside0.mk (sqB BK266.out hb)
           have n5_ := Aside0.mk (sqB BK267.out hb)
           have n6_ := Aside0.mk (sqB BK268.out hb)
           have n7_ := Aside0.mk (sqH HB.out hb)
           clear HO_10
           clear HO_13
           clear HO321
           clear BK266
           clear BK267
           clear BK268
           clear HB
           have HO_10 := n0_
           have HO_13 := n1_
           have HO321 := n2_
           have HO324 := n3_
           have BK266 := n4_
           have BK267 := n5_
           have BK268 := n6_
           have HB := n7_
           clear n0_ n1_ n2_ n3_ n4_ n5_ n6_ n7_
           (try clear hb)
           (try clear hb2)
           (try clear hk)
           (try clear hi)
           (try clear ho0)
           refine hK.out _ _ ⟨BK266.out, BK267.out, (blk_cell BK268.out 0).trans rfl, (blk_cell BK268.out 1).trans rfl, (blk_cell BK268.out 2).trans rfl, (blk_cell BK268.out 3).trans rfl, (blk_cell BK268.out 4).trans rfl, (blk_cell BK268.out 5).trans rfl⟩ (fun hHeld => ?_)
           clear hK K
           refine norm_ (a' := ?_) ?_ ?_
           rotate_left
           ·show Act.put _ (some 100) _ = _
            simp only [Act.put, List.setIfInBounds_toArray, List.set_cons_zero, List.set_cons_succ, i64_w, i32_w]
            rfl
           refine pure_ (i := 9) (N := some 91) (v := ?_) (a' := ?_) #[true, true, true, true, true, true, true, true, true, true, false, false, false, false] rfl rfl (any_of HT_.out (by kernel_rfl)) (fun _ _ _ h => h) (Or.inl ⟨by rfl, ?_⟩) ?_ ?_
           rotate_left
           ·intro w'
            go_simp
            with_reducible rfl
           rotate_left
           ·simp only [Act.put, List.setIfInBounds_toArray, List.set_cons_zero, List.set_cons_succ, i64_w, i32_w]
            rfl
           refine pure_ (i := 10) (N := some 101) (v := ?_) (a' := ?_) #[true, true, true, true, true, true, true, true, true, true, true, false, false, false] rfl rfl (any_of HT_.out (by kernel_rfl)) (fun _ _ _ h => h) (Or.inl ⟨by rfl, ?_⟩) ?_ ?_
           rotate_left
           ·intro w'
            go_simp
            with_reducible rfl
           rotate_left
           ·simp only [Act.put, List.setIfInBounds_toArray, List.set_cons_zero, List.set_cons_succ, i64_w, i32_w]
            rfl
           refine pure_ (i := 11) (N := some 102) (v := ?_) (a' := ?_) #[true, true, true, true, true, true, true, true, true, true, true, true, false, false] rfl rfl (any_of HT_.out (by kernel_rfl)) (fun _ _ _ h => h) (Or.inl ⟨by rfl, ?_⟩) ?_ ?_
           rotate_left
           ·intro w'
            go_simp
            with_reducible rfl
           rotate_left
           ·simp only [Act.put, List.setIfInBounds_toArray, List.set_cons_zero, List.set_cons_succ, i64_w, i32_w]
            rfl
           refine pure_ (i := 12) (N := some 18) (v := ?_) (a' := ?_) #[true, true, true, true, true, true, true, true, true, true, true, true, true, false] rfl rfl (any_of HT_.out (by kernel_rfl)) (fun _ _ _ h => h) (Or.inl ⟨by rfl, ?_⟩) ?_ ?_
           rotate_left
           ·intro w'
            go_simp
            with_reducible rfl
           rotate_left
           ·simp only [Act.put, List.setIfInBounds_toArray, List.set_cons_zero, List.set_cons_succ, i64_w, i32_w]
            rfl
           refine pure_ (i := 13) (N := some 19) (v := ?_) (a' := ?_) #[true, true, true, true, true, true, true, true, true, true, true, true, true, true] rfl rfl (any_of HT_.out (by kernel_rfl)) (fun _ _ _ h => h) (Or.inl ⟨by rfl, ?_⟩) ?_ ?_
           rotate_left
           ·intro w'
            go_simp
            with_reducible rfl
           rotate_left
           ·simp only [Act.put, List.setIfInBounds_toArray, List.set_cons_zero, List.set_cons_succ, i64_w, i32_w]
            rfl
           refine done_ (done_of HT_.out (by kernel_rfl)) ?_
           go_upto_region 25 with (fail)
           go_cut [111] (fun v111 wc => ∃ (kq : Nat) (x111_74 : Bool), v111 = .bool x111_74 ∧ Aside0 (laws_FnExactDriftAll.j2 kq t309 t308 x111_74 = some r) ∧ Aside0 (kq ≤ kj50) ∧ Aside0 (Kd.R k42 42 wc w.heap.size (fun _ => True) (.slice Ao76 t296.length co76) t309) ∧ Aside0 (wc.heap[gb266]? = some (.cells (a0).A 26 (0, 0))) ∧ Aside0 (wc.heap[gb267]? = some (.cells (a1).A 28 (0, 0))) ∧ Aside0 (wc.heap[gb268]? = some (.cells #[.int .i8 a2_0, .int .i8 a2_1, .int .i8 a2_2, .int .i8 a2_3, .int .i8 a2_4, .int .i8 a2_5] 32 (0, 0))) ∧ Aside0 (Below w.heap.size w wc))
           case first =>
            have H := HC75.out
            clear HC75
            replace H := Option.bind_eq_some_iff.mp H
            obtain ⟨t326, A850, H⟩ := H
            replace H : (if t326 = true then (laws_FnExactDriftAll.j2 kj50 t309 t308 (t325 != t284)) else (laws_FnExactDriftAll.j2 kj50 t309 t308 true)) = some r := H
            have A85 := Aside0.mk A850
            clear A850
            by_cases c86 : t326 = true
            ·subst c86
             have H1 : (laws_FnExactDriftAll.j2 kj50 t309 t308 (t325 != t284)) = some r := by rw [if_pos rfl] at H; exact H
             clear H
             have H := H1
             clear H1
             have H' := Aside0.mk H
             clear H
             obtain ⟨Ao87, co87, eo87⟩ := Kd.R_slice HO324.out
             subst eo87
             obtain ⟨Ao88, co88, eo88⟩ := Kd.R_slice HO_10.out
             subst eo88
             go_wp2_with (first | ((with_reducible refine gate_callee (f := 15) rfl ?_); refine goesL_ (some 105) rfl rfl Try.func15 (by kernel_rfl) rfl #[.slice Ao87 t322.length co87, .slice Ao88 t281.length co88] rfl (by (try simp only [List.map_toArray, List.map_cons, List.map_nil]); first | done | rfl | (simp only [List.length_drop, List.length_take]; rfl)) ?_; (with_reducible refine (laws_eqPlaceS.calls kj50 _ _ t322 _ _ t281 true _ ?side1 ?side2 ?side3 ?side4 A85.out).mono ?_); (case side1 => repeat (first | exact (Kd.R_reads' HO324.out).2.2 | (with_reducible refine Kd.C_alloc ?_ _) | (with_reducible refine Kd.C_drewN ?_ _) | (with_reducible refine Kd.C_drew ?_))); (case side2 => exact (Kd.R_reads' HO324.out).2.1); (case side3 => repeat (first | exact (Kd.R_reads' HO_10.out).2.2 | (with_reducible refine Kd.C_alloc ?_ _) | (with_reducible refine Kd.C_drewN ?_ _) | (with_reducible refine Kd.C_drew ?_))); (case side4 => exact (Kd.R_reads' HO_10.out).2.1); rintro e w89 ⟨rfl, hb⟩; refine ⟨_, rfl, ?_⟩; have n0_ := Aside0.mk (Kd.R_below (by (with_reducible repeat (first | apply Kd.R_alloc | apply Kd.R_drewN | apply Kd.R_drew)); exact HO_10.out) hb); have n1_ := Aside0.mk (Kd.R_below (by (with_reducible repeat (first | apply Kd.R_alloc | apply Kd.R_drewN | apply Kd.R_drew)); exact HO_13.out) hb); have n2_ := Aside0.mk (Kd.R_below (by (with_reducible repeat (first | apply Kd.R_alloc | apply Kd.R_drewN | apply Kd.R_drew)); exact HO321.out) hb); have n3_ := Aside0.mk (Kd.R_below (by (with_reducible repeat (first | apply Kd.R_alloc | apply Kd.R_drewN | apply Kd.R_drew)); exact HO324.out) hb); have n4_ := Aside0.mk (sqB BK266.out hb); have n5_ := Aside0.mk (sqB BK267.out hb); have n6_ := Aside0.mk (sqB BK268.out hb); have n7_ := Aside0.mk (sqH HB.out hb); clear HO_10; clear HO_13; clear HO321; clear HO324; clear BK266; clear BK267; clear BK268; clear HB; have HO_10 := n0_; have HO_13 := n1_; have HO321 := n2_; have HO324 := n3_; have BK266 := n4_; have BK267 := n5_; have BK268 := n6_; have HB := n7_; clear n0_ n1_ n2_ n3_ n4_ n5_ n6_ n7_; (try clear hb); (try clear hb2); (try clear hk); (try clear hi)))
             go_meet
             case rel => exact ⟨_, ((t325 != t284)), (by first | rfl | (simp; done) | (simp [*]; done)), H', ⟨by have := HJ19.out; have := HJ50.out; first | omega | exact Nat.le_refl _⟩, ⟨by (with_reducible repeat (first | apply Kd.R_alloc | apply Kd.R_drewN | apply Kd.R_drew)); exact Kd.R_mono HO_13.out (fun _ hk => trivial)⟩, ⟨by (with_reducible repeat (first | refine blk_drewN ?_ _ | refine blk_drew ?_ | refine blk_alloc ?_ _)); exact BK266.out⟩, ⟨by (with_reducible repeat (first | refine blk_drewN ?_ _ | refine blk_drew ?_ | refine blk_alloc ?_ _)); exact BK267.out⟩, ⟨by (with_reducible repeat (first | refine blk_drewN ?_ _ | refine blk_drew ?_ | refine blk_alloc ?_ _)); exact BK268.out⟩, ⟨by repeat (first | (with_reducible first | exact HB.out | apply below_alloc | apply pw_below_drewN | apply below_drew1 | refine below_set ?_ GE266.out | refine below_set ?_ GE267.out | refine below_set ?_ GE268.out) | exact HB.out)⟩⟩
            ·replace c86 := Bool.eq_false_iff.mpr c86
             subst c86
             have H1 : (laws_FnExactDriftAll.j2 kj50 t309 t308 true) = some r := by rw [if_neg (show ¬ (false = true) by decide)] at H; exact H
             clear H
             have H := H1
             clear H1
             have H' := Aside0.mk H
             clear H
             obtain ⟨Ao90, co90, eo90⟩ := Kd.R_slice HO324.out
             subst eo90
             obtain ⟨Ao91, co91, eo91⟩ := Kd.R_slice HO_10.out
             subst eo91
             go_wp2_with (first | ((with_reducible refine gate_callee (f := 15) rfl ?_); refine goesL_ (some 105) rfl rfl Try.func15 (by kernel_rfl) rfl #[.slice Ao90 t322.length co90, .slice Ao91 t281.length co91] rfl (by (try simp only [List.map_toArray, List.map_cons, List.map_nil]); first | done | rfl | (simp only [List.length_drop, List.length_take]; rfl)) ?_; (with_reducible refine (laws_eqPlaceS.calls kj50 _ _ t322 _ _ t281 false _ ?side1 ?side2 ?side3 ?side4 A85.out).mono ?_); (case side1 => repeat (first | exact (Kd.R_reads' HO324.out).2.2 | (with_reducible refine Kd.C_alloc ?_ _) | (with_reducible refine Kd.C_drewN ?_ _) | (with_reducible refine Kd.C_drew ?_))); (case side2 => exact (Kd.R_reads' HO324.out).2.1); (case side3 => repeat (first | exact (Kd.R_reads' HO_10.out).2.2 | (with_reducible refine Kd.C_alloc ?_ _) | (with_reducible refine Kd.C_drewN ?_ _) | (with_reducible refine Kd.C_drew ?_))); (case side4 => exact (Kd.R_reads' HO_10.out).2.1); rintro e w92 ⟨rfl, hb⟩; refine ⟨_, rfl, ?_⟩; have n0_ := Aside0.mk (Kd.R_below (by (with_reducible repeat (first | apply Kd.R_alloc | apply Kd.R_drewN | apply Kd.R_drew)); exact HO_10.out) hb); have n1_ := Aside0.mk (Kd.R_below (by (with_reducible repeat (first | apply Kd.R_alloc | apply Kd.R_drewN | apply Kd.R_drew)); exact HO_13.out) hb); have n2_ := Aside0.mk (Kd.R_below (by (with_reducible repeat (first | apply Kd.R_alloc | apply Kd.R_drewN | apply Kd.R_drew)); exact HO321.out) hb); have n3_ := Aside0.mk (Kd.R_below (by (with_reducible repeat (first | apply Kd.R_alloc | apply Kd.R_drewN | apply Kd.R_drew)); exact HO324.out) hb); have n4_ := Aside0.mk (sqB BK266.out hb); have n5_ := Aside0.mk (sqB BK267.out hb); have n6_ := Aside0.mk (sqB BK268.out hb); have n7_ := Aside0.mk (sqH HB.out hb); clear HO_10; clear HO_13; clear HO321; clear HO324; clear BK266; clear BK267; clear BK268; clear HB; have HO_10 := n0_; have HO_13 := n1_; have HO321 := n2_; have HO324 := n3_; have BK266 := n4_; have BK267 := n5_; have BK268 := n6_; have HB := n7_; clear n0_ n1_ n2_ n3_ n4_ n5_ n6_ n7_; (try clear hb); (try clear hb2); (try clear hk); (try clear hi)))
             go_meet
             case rel => exact ⟨_, (true), (by first | rfl | (simp; done) | (simp [*]; done)), H', ⟨by have := HJ19.out; have := HJ50.out; first | omega | exact Nat.le_refl _⟩, ⟨by (with_reducible repeat (first | apply Kd.R_alloc | apply Kd.R_drewN | apply Kd.R_drew)); exact Kd.R_mono HO_13.out (fun _ hk => trivial)⟩, ⟨by (with_reducible repeat (first | refine blk_drewN ?_ _ | refine blk_drew ?_ | refine blk_alloc ?_ _)); exact BK266.out⟩, ⟨by (with_reducible repeat (first | refine blk_drewN ?_ _ | refine blk_drew ?_ | refine blk_alloc ?_ _)); exact BK267.out⟩, ⟨by (with_reducible repeat (first | refine blk_drewN ?_ _ | refine blk_drew ?_ | refine blk_alloc ?_ _)); exact BK268.out⟩, ⟨by repeat (first | (with_reducible first | exact HB.out | apply below_alloc | apply pw_below_drewN | apply below_drew1 | refine below_set ?_ GE266.out | refine below_set ?_ GE267.out | refine below_set ?_ GE268.out) | exact HB.out)⟩⟩
           case rest =>
            clear HC75
            try clear c1
            try clear p2
            try clear c3
            try clear c4
            try clear c5
            try clear c6
            try clear c8
            try clear c9
            try clear c10
            try clear c11
            try clear c12
            try clear c13
            try clear c14
            try clear c15
            try clear c16
            try clear c17
            try clear c18
            try clear c19
            try clear c39
            try clear c46
            try clear c49
            try clear c56
            try clear c56b0
            try clear c58
            try clear c65
            try clear c68
            try clear c68b0
            try clear c69
            try clear c69b0
            try clear c69b1
            try clear c86
            try clear p2
            obtain ⟨kq, x111_74, rfl, HA, HJ74, HO_13, BK266, BK267, BK268, HB⟩ := hcut
            have hl13_74 := (Kd.R_reads' HO_13.out).1
            rw [hl13_74] at HO_13
            (try simp only [hl13_74])
            (try simp only [hl13_74] at BK266)
            (try simp only [hl13_74] at BK267)
            (try simp only [hl13_74] at BK268)
            cases kq with
            | zero => exact absurd HA.out (by simp [laws_FnExactDriftAll.j2])
            | succ kj74 =>
             have H := HA.out
             clear HA
             simp only [laws_FnExactDriftAll.j2] at H
             by_cases c93 : x111_74 = true
             ·subst c93
              have H1 : (some false) = some r := by rw [if_pos rfl] at H; exact H
              clear H
              have H := H1
              clear H1
              exact absurd (Option.some.inj H) (by rw [hr_.out]; decide)
             ·replace c93 := Bool.eq_false_iff.mpr c93
              subst c93
              have H1 : ((laws_heldPlaceS.f kj74 t309 1).bind fun t327 => (if t327 < 0 then (some false) else (if t327 = t308 then (some true) else (some false)))) = some r := by rw [if_neg (show ¬ (false = true) by decide)] at H; exact H
              clear H
              have H := H1
              clear H1
              replace H := Option.bind_eq_some_iff.mp H
              obtain ⟨t327, A940, H⟩ := H
              replace H : (if t327 < 0 then (some false) else (if t327 = t308 then (some true) else (some false))) = some r := H
              have A94 := Aside0.mk A940
              clear A940
              by_cases c95 : t327 < 0
              ·rw [if_pos c95] at H
               have c95b0 : decide (t327 < 0) = true := decide_eq_true c95
               clear c95
               exact absurd (Option.some.inj H) (by rw [hr_.out]; decide)
              ·rw [if_neg c95] at H
               have c95b0 : decide (t327 < 0) = false := decide_eq_false c95
               clear c95
               by_cases c96 : t327 = t308
               ·rw [if_pos c96] at H
                have c96b0 : (t327 == t308) = true := beq_iff_eq.mpr c96
                have c96b1 : (t327 != t308) = false := bne_eq_false_iff_eq.mpr c96
                clear c96
                obtain rfl := Option.some.inj H
                go_wp2_with (first | ((with_reducible refine gate_callee (f := 19) rfl ?_); refine goesL_ (some 114) rfl rfl Try.func19 (by kernel_rfl) rfl #[.slice Ao76 t309.length co76, .int .i64 1] rfl (by (try simp only [List.map_toArray, List.map_cons, List.map_nil]); first | done | rfl | (simp only [List.length_drop, List.length_take]; rfl)) ?_; (with_reducible refine (laws_heldPlaceS.calls kj74 _ _ t309 1 t327 _ ?side1 ?side2 A94.out).mono ?_); (case side1 => repeat (first | exact (Kd.R_reads' HO_13.out).2.2 | (with_reducible refine Kd.C_alloc ?_ _) | (with_reducible refine Kd.C_drewN ?_ _) | (with_reducible refine Kd.C_drew ?_))); (case side2 => exact (Kd.R_reads' HO_13.out).2.1); rintro e w' ⟨rfl, ⟨nd, rfl⟩⟩; refine ⟨_, rfl, ?_⟩))
                go_ret
                exact ⟨by first | rfl | (simp [errW_none, errW_some] <;> rfl) | (simp [*, errW_none, errW_some] <;> rfl), by repeat (first | (with_reducible first | exact HB.out | apply below_alloc | apply pw_below_drewN | apply below_drew1 | refine below_set ?_ GE266.out | refine below_set ?_ GE267.out | refine below_set ?_ GE268.out) | exact HB.out)⟩
               ·rw [if_neg c96] at H
                have c96b0 : (t327 == t308) = false := beq_eq_false_iff_ne.mpr c96
                have c96b1 : (t327 != t308) = true := bne_iff_ne.mpr c96
                exact absurd (Option.some.inj H) (by rw [hr_.out]; decide)
          ·rw [if_neg c69] at H
           have c69b0 : (t310 == t308) = false := beq_eq_false_iff_ne.mpr c69
           have c69b1 : (t310 != t308) = true := bne_iff_ne.mpr c69
           exact absurd (Option.some.inj H) (by rw [hr_.out]; decide)
     ·replace c49 := Bool.eq_false_iff.mpr c49
      subst c49
      have H1 : (some false) = some r := by rw [if_neg (show ¬ (false = true) by decide)] at H; exact H
      clear H
      have H := H1
      clear H1
      exact absurd (Option.some.inj H) (by rw [hr_.out]; decide)
end Go.Proofs.Ytmhmfhdmeedcfaa.G
end
