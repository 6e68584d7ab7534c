/- A part of the proof of: FnExactHoursAtEach returns true, whatever the input, and leaves its arguments as they were. -/
import Derived.Test.YtmhmfhdmeedcfaaProg
import Derived.Below
import Derived.Deep.Draws
import Derived.Deep.AppendLies
import Derived.Maps.AppendAt
import Derived.OwnWalk
import Derived.Laws.BytesArg
import Derived.Laws.MakeOwn
import Derived.Laws.OwnMore
import Derived.Deep.OwnRows
import Derived.Tactics
import Derived.Lib.ConvBytes
import Derived.Laws.Slices
import Derived.WalkKit
import Derived.KernelRfl
import Derived.RowKit3
import Derived.Deep.LoopGhost
import Derived.Deep.QuietTactic
import Derived.BigQuiet
import Derived.WideLaws
import Derived.Deep.DeepCutAuto
import Derived.Deep.CutBlock
import Derived.Deep.RegionHeld3
import Derived.Laws.Rows
import Derived.Lib.AppendStr
import Derived.ArgAppend
import Derived.Laws.IdiomCopy
import Derived.OrdersHeld
import Derived.Laws.BitsLemmas
import Derived.RowKit
import Derived.Laws.StructEq
import Derived.Deep.Slices
import Derived.ChangeSame
import Derived.ChangeArms
import Derived.OpenShut
import Derived.ProofKit
import Derived.Laws.Tables
import Derived.Lib.Hide
import Derived.Laws.CopyOwn
import Derived.Laws.CopyRow
import Derived.Test.YtmhmfhdmeedcfaaZFnExactHoursAtEach1
import Derived.Test.YtmhmfhdmeedcfaaZFnExactHoursAtEach2
import Derived.Test.YtmhmfhdmeedcfaaZFnExactHoursAtEach3
import Derived.Test.YtmhmfhdmeedcfaaZFnExactHoursAtEach4
import Derived.Test.YtmhmfhdmeedcfaaZFnExactHoursAtEach5
import Derived.Test.YtmhmfhdmeedcfaaZFnExactHoursAtEach6
import Derived.Test.YtmhmfhdmeedcfaaZFnExactHoursAtEach7
section
namespace Go.Proofs.Ytmhmfhdmeedcfaa.G
open Go.RowKit Go.Proofs.YtmhmfhdmeedcfaaW.PrintWords Go.Proofs.YtmhmfhdmeedcfaaW.PrintLast Go.Proofs.YtmhmfhdmeedcfaaW.PrintMore
attribute [local go_sem] max2_int min2_int max_two min_two max_three min_three max_four min_four   -- for this text's walks alone
set_option linter.unusedVariables false
set_option linter.unusedSimpArgs false
mutual
def laws_FnExactHoursAtEach.j0 : Nat → List (S80) → List (S42) → List Int → Int → List (S78) → List (S42) → List Int → Int → Bool → O26 → O28 → Int → Int → Int → Int → Int → Int → Option (Bool)
 | 0, _, _, _, _, _, _, _, _, _, _, _, _, _, _, _, _, _ => none
 | k + 1, x3, x10, x11, x12, x13, x14, x15, x16, x69, x408000, x409000, x410000, x410001, x410002, x410003, x410004, x410005 => if x69 = true then (some false) else ((laws_toWindS.f k x3).bind fun t449 => ((laws_eqWindS.f k x13 t449).bind fun t452 => (if t452 = true then ((laws_markWindS.f k x13 1).bind fun bt453 => (if bt453.1 < 0 then (laws_FnExactHoursAtEach.j1 k x3 x10 x11 x12 x14 x15 true x408000 x409000 x410000 x410001 x410002 x410003 x410004 x410005) else ((laws_eqPlaceS.f k x14 x10).bind fun t455 => (if t455 = true then ((laws_eqInt64S.f k x15 x11).bind fun t456 => (if t456 = true then (laws_FnExactHoursAtEach.j1 k x3 x10 x11 x12 x14 x15 (x16 != x12) x408000 x409000 x410000 x410001 x410002 x410003 x410004 x410005) else (laws_FnExactHoursAtEach.j1 k x3 x10 x11 x12 x14 x15 true x408000 x409000 x410000 x410001 x410002 x410003 x410004 x410005))) else (laws_FnExactHoursAtEach.j1 k x3 x10 x11 x12 x14 x15 true x408000 x409000 x410000 x410001 x410002 x410003 x410004 x410005))))) else (some false))))
def laws_FnExactHoursAtEach.j1 : Nat → List (S80) → List (S42) → List Int → Int → List (S42) → List Int → Bool → O26 → O28 → Int → Int → Int → Int → Int → Int → Option (Bool)
 | 0, _, _, _, _, _, _, _, _, _, _, _, _, _, _, _ => none
 | k + 1, x3, x10, x11, x12, x14, x15, x96, x408000, x409000, x410000, x410001, x410002, x410003, x410004, x410005 => if x96 = true then (some false) else ((laws_markPlaceS.f k x14 1).bind fun bt457 => ((laws_markInt64S.f k x15 bt457.1).bind fun bt459 => ((laws_heldPlaceS.f k bt457.2 1).bind fun t461 => (if t461 < 0 then (some false) else ((laws_heldInt64S.f k bt459.2 t461).bind fun t462 => (if t462 < 0 then (some false) else (if t462 = bt459.1 then ((laws_toBay.f x408000).bind fun t463 => ((laws_toGrounds.f x409000).bind fun t464 => ((laws_toBoat.f x410000 x410001 x410002 x410003 x410004 x410005).bind fun bt465 => ((laws_toWindS.f k x3).bind fun t471 => ((impl_HoursAtEach.f k t463 t464 bt465.1 bt465.2.1 bt465.2.2.1 bt465.2.2.2.1 bt465.2.2.2.2.1 bt465.2.2.2.2.2 t471).bind fun bt474 => ((laws_eqPlaceS.f k bt474.1 x10).bind fun t481 => (if t481 = true then ((laws_eqInt64S.f k bt474.2.1 x11).bind fun t482 => (if t482 = true then (laws_FnExactHoursAtEach.j2 k bt457.2 bt459.2 bt459.1 (bt474.2.2 != x12)) else (laws_FnExactHoursAtEach.j2 k bt457.2 bt459.2 bt459.1 true))) else (laws_FnExactHoursAtEach.j2 k bt457.2 bt459.2 bt459.1 true)))))))) else (some false))))))))
def laws_FnExactHoursAtEach.j2 : Nat → List (S42) → List Int → Int → Bool → Option (Bool)
 | 0, _, _, _, _ => none
 | k + 1, x14, x15, x18, x143 => if x143 = true then (some false) else ((laws_heldPlaceS.f k x14 1).bind fun t483 => (if t483 < 0 then (some false) else ((laws_heldInt64S.f k x15 t483).bind fun t484 => (if t484 < 0 then (some false) else (if t484 = x18 then (some true) else (some false))))))
end
def laws_FnExactHoursAtEach.f (k : Nat) (a0 : O26) (a1 : O28) (a2_0 : Int) (a2_1 : Int) (a2_2 : Int) (a2_3 : Int) (a2_4 : Int) (a2_5 : Int) (l3 : List (S80)) : Option (Bool) := (laws_szWindS.f l3 1048576).bind fun t410 => (if t410 < 0 then (some true) else ((laws_toBay.f a0).bind fun t411 => ((laws_toGrounds.f a1).bind fun t412 => ((laws_toBoat.f a2_0 a2_1 a2_2 a2_3 a2_4 a2_5).bind fun bt413 => ((laws_toWindS.f k l3).bind fun t419 => ((spec_HoursAtEach.f k t411 t412 bt413.1 bt413.2.1 bt413.2.2.1 bt413.2.2.2.1 bt413.2.2.2.2.1 bt413.2.2.2.2.2 t419).bind fun bt422 => ((laws_toWindS.f k l3).bind fun t429 => ((laws_toBay.f a0).bind fun t432 => ((laws_toGrounds.f a1).bind fun t433 => ((laws_toBoat.f a2_0 a2_1 a2_2 a2_3 a2_4 a2_5).bind fun bt434 => ((impl_HoursAtEach.f k t432 t433 bt434.1 bt434.2.1 bt434.2.2.1 bt434.2.2.2.1 bt434.2.2.2.2.1 bt434.2.2.2.2.2 t429).bind fun bt440 => ((laws_eqPlaceS.f k bt440.1 bt422.1).bind fun t447 => (if t447 = true then ((laws_eqInt64S.f k bt440.2.1 bt422.2.1).bind fun t448 => (if t448 = true then (laws_FnExactHoursAtEach.j0 k l3 bt422.1 bt422.2.1 bt422.2.2 t429 bt440.1 bt440.2.1 bt440.2.2 (bt440.2.2 != bt422.2.2) a0 a1 a2_0 a2_1 a2_2 a2_3 a2_4 a2_5) else (laws_FnExactHoursAtEach.j0 k l3 bt422.1 bt422.2.1 bt422.2.2 t429 bt440.1 bt440.2.1 bt440.2.2 true a0 a1 a2_0 a2_1 a2_2 a2_3 a2_4 a2_5))) else (laws_FnExactHoursAtEach.j0 k l3 bt422.1 bt422.2.1 bt422.2.2 t429 bt440.1 bt440.2.1 bt440.2.2 true a0 a1 a2_0 a2_1 a2_2 a2_3 a2_4 a2_5))))))))))))))
def laws_FnExactHoursAtEach.T5 : Bool × List (List Nat × List Nat) := (true, [([], []), ([0], [0]), ([], []), ([2, 1], [2]), ([], []), ([4, 3], [4]), ([], []), ([6, 5], [6]), ([1, 3, 5, 7, 7], [1, 3, 5, 7]), ([8], [8]), ([9], [9]), ([9], [9]), ([9], [9]), ([10, 8, 0, 1, 2, 3, 4, 5, 6, 7, 8, 9, 10], [10]), ([11, 13, 0, 1, 2, 3, 4, 5, 6, 7, 8, 9, 10, 11, 13], [11]), ([12, 14, 0, 1, 2, 3, 4, 5, 6, 7, 8, 9, 10, 11, 12, 13, 14], [12])])
def laws_FnExactHoursAtEach.B5 : List Nat := [0, 1, 0, 7, 0, 31, 0, 127, 255, 511, 1023, 1023, 1023, 2047, 12287, 32767]
theorem laws_FnExactHoursAtEach.tab5 : rtab .any (opsOf Try.f6 5) = laws_FnExactHoursAtEach.T5 := by kernel_rfl
theorem laws_FnExactHoursAtEach.bits5 : waitsOk laws_FnExactHoursAtEach.T5.2 laws_FnExactHoursAtEach.B5 = true := by kernel_rfl
def laws_FnExactHoursAtEach.T7 : Bool × List (List Nat × List Nat) := (true, [([], []), ([0], [0]), ([], []), ([2, 1], [2]), ([], []), ([4, 3], [4]), ([], []), ([1, 3, 5, 6, 5], [1, 3, 5, 6]), ([7], [7]), ([8], [8]), ([8], [8]), ([8], [8]), ([9, 7, 0, 1, 2, 3, 4, 5, 6, 7, 8, 9], [9]), ([10, 12, 0, 1, 2, 3, 4, 5, 6, 7, 8, 9, 10, 12], [10]), ([11, 13, 0, 1, 2, 3, 4, 5, 6, 7, 8, 9, 10, 11, 12, 13], [11])])
def laws_FnExactHoursAtEach.B7 : List Nat := [0, 1, 0, 7, 0, 31, 0, 127, 255, 511, 511, 511, 1023, 6143, 16383]
theorem laws_FnExactHoursAtEach.tab7 : rtab .any (opsOf Try.f6 7) = laws_FnExactHoursAtEach.T7 := by kernel_rfl
theorem laws_FnExactHoursAtEach.bits7 : waitsOk laws_FnExactHoursAtEach.T7.2 laws_FnExactHoursAtEach.B7 = true := by kernel_rfl
def laws_FnExactHoursAtEach.T28 : Bool × List (List Nat × List Nat) := (true, [([], []), ([0], [0]), ([], []), ([2, 1], [2]), ([], []), ([4, 3], [4]), ([], []), ([6, 5], [6]), ([1, 3, 5, 7, 7], [1, 3, 5, 7]), ([8], [8]), ([9], [9]), ([9], [9]), ([9], [9]), ([10, 8, 0, 1, 2, 3, 4, 5, 6, 7, 8, 9, 10], [10]), ([11, 13, 0, 1, 2, 3, 4, 5, 6, 7, 8, 9, 10, 11, 13], [11]), ([12, 14, 0, 1, 2, 3, 4, 5, 6, 7, 8, 9, 10, 11, 12, 13, 14], [12])])
def laws_FnExactHoursAtEach.B28 : List Nat := [0, 1, 0, 7, 0, 31, 0, 127, 255, 511, 1023, 1023, 1023, 2047, 12287, 32767]
theorem laws_FnExactHoursAtEach.tab28 : rtab .any (opsOf Try.f6 28) = laws_FnExactHoursAtEach.T28 := by kernel_rfl
theorem laws_FnExactHoursAtEach.bits28 : waitsOk laws_FnExactHoursAtEach.T28.2 laws_FnExactHoursAtEach.B28 = true := by kernel_rfl
set_option maxHeartbeats 8000000 in
set_option maxRecDepth 100000 in
theorem laws_FnExactHoursAtEach.calls (k : Nat) (a0 : O26) (a1 : O28) (a2_0 : Int) (a2_1 : Int) (a2_2 : Int) (a2_3 : Int) (a2_4 : Int) (a2_5 : Int) (A3 : Option Addr) (c3 : Nat) (l3 : List (S80)) (r : Bool) (w : World) (hr0_ : r = true) (hr3 : Kd.C k80 w A3 l3.length l3) (hc3 : l3.length ≤ c3) (h : laws_FnExactHoursAtEach.f k a0 a1 a2_0 a2_1 a2_2 a2_3 a2_4 a2_5 l3 = some r) :
  Calls Try.prog 6 #[VO26 a0, VO28 a1, .agg #[.int .i8 a2_0, .int .i8 a2_1, .int .i8 a2_2, .int .i8 a2_3, .int .i8 a2_4, .int .i8 a2_5], .slice A3 l3.length c3] w fun e w' => e = .returned (.bool r) ∧ Below w.heap.size w w' := by
 have hu32 := Try.underlying32
 have HR3 := Aside0.mk hr3
 have HC3 := Aside0.mk hc3
 clear hr3 hc3
 have hr_ := Aside0.mk hr0_
 clear hr0_
 have HB := Aside0.mk (Below.refl w.heap.size w)
 have H : ((laws_szWindS.f l3 1048576).bind fun t410 => (if t410 < 0 then (some true) else ((laws_toBay.f a0).bind fun t411 => ((laws_toGrounds.f a1).bind fun t412 => ((laws_toBoat.f a2_0 a2_1 a2_2 a2_3 a2_4 a2_5).bind fun bt413 => ((laws_toWindS.f k l3).bind fun t419 => ((spec_HoursAtEach.f k t411 t412 bt413.1 bt413.2.1 bt413.2.2.1 bt413.2.2.2.1 bt413.2.2.2.2.1 bt413.2.2.2.2.2 t419).bind fun bt422 => ((laws_toWindS.f k l3).bind fun t429 => ((laws_toBay.f a0).bind fun t432 => ((laws_toGrounds.f a1).bind fun t433 => ((laws_toBoat.f a2_0 a2_1 a2_2 a2_3 a2_4 a2_5).bind fun bt434 => ((impl_HoursAtEach.f k t432 t433 bt434.1 bt434.2.1 bt434.2.2.1 bt434.2.2.2.1 bt434.2.2.2.2.1 bt434.2.2.2.2.2 t429).bind fun bt440 => ((laws_eqPlaceS.f k bt440.1 bt422.1).bind fun t447 => (if t447 = true then ((laws_eqInt64S.f k bt440.2.1 bt422.2.1).bind fun t448 => (if t448 = true then (laws_FnExactHoursAtEach.j0 k l3 bt422.1 bt422.2.1 bt422.2.2 t429 bt440.1 bt440.2.1 bt440.2.2 (bt440.2.2 != bt422.2.2) a0 a1 a2_0 a2_1 a2_2 a2_3 a2_4 a2_5) else (laws_FnExactHoursAtEach.j0 k l3 bt422.1 bt422.2.1 bt422.2.2 t429 bt440.1 bt440.2.1 bt440.2.2 true a0 a1 a2_0 a2_1 a2_2 a2_3 a2_4 a2_5))) else (laws_FnExactHoursAtEach.j0 k l3 bt422.1 bt422.2.1 bt422.2.2 t429 bt440.1 bt440.2.1 bt440.2.2 true a0 a1 a2_0 a2_1 a2_2 a2_3 a2_4 a2_5))))))))))))))) = some r := h
 clear h
 replace H := Option.bind_eq_some_iff.mp H
 obtain ⟨t410, A50, H⟩ := H
 replace H : (if t410 < 0 then (some true) else ((laws_toBay.f a0).bind fun t411 => ((laws_toGrounds.f a1).bind fun t412 => ((laws_toBoat.f a2_0 a2_1 a2_2 a2_3 a2_4 a2_5).bind fun bt413 => ((laws_toWindS.f k l3).bind fun t419 => ((spec_HoursAtEach.f k t411 t412 bt413.1 bt413.2.1 bt413.2.2.1 bt413.2.2.2.1 bt413.2.2.2.2.1 bt413.2.2.2.2.2 t419).bind fun bt422 => ((laws_toWindS.f k l3).bind fun t429 => ((laws_toBay.f a0).bind fun t432 => ((laws_toGrounds.f a1).bind fun t433 => ((laws_toBoat.f a2_0 a2_1 a2_2 a2_3 a2_4 a2_5).bind fun bt434 => ((impl_HoursAtEach.f k t432 t433 bt434.1 bt434.2.1 bt434.2.2.1 bt434.2.2.2.1 bt434.2.2.2.2.1 bt434.2.2.2.2.2 t429).bind fun bt440 => ((laws_eqPlaceS.f k bt440.1 bt422.1).bind fun t447 => (if t447 = true then ((laws_eqInt64S.f k bt440.2.1 bt422.2.1).bind fun t448 => (if t448 = true then (laws_FnExactHoursAtEach.j0 k l3 bt422.1 bt422.2.1 bt422.2.2 t429 bt440.1 bt440.2.1 bt440.2.2 (bt440.2.2 != bt422.2.2) a0 a1 a2_0 a2_1 a2_2 a2_3 a2_4 a2_5) else (laws_FnExactHoursAtEach.j0 k l3 bt422.1 bt422.2.1 bt422.2.2 t429 bt440.1 bt440.2.1 bt440.2.2 true a0 a1 a2_0 a2_1 a2_2 a2_3 a2_4 a2_5))) else (laws_FnExactHoursAtEach.j0 k l3 bt422.1 bt422.2.1 bt422.2.2 t429 bt440.1 bt440.2.1 bt440.2.2 true a0 a1 a2_0 a2_1 a2_2 a2_3 a2_4 a2_5)))))))))))))) = some r := H
 have A5 := Aside0.mk A50
 clear A50
 by_cases c6 : t410 < 0
 ·rw [if_pos c6] at H
  have c6b0 : decide (t410 < 0) = true := decide_eq_true c6
  clear c6
  obtain rfl := Option.some.inj H
  go_enter Try.func6, Try.ntmps6
  go_wp2_with (first | ((with_reducible refine gate_dst (N := 4) rfl ?_); refine box_event ?hg (N := 4) ?hd (cs := (a0).A) (t := 26) ?hr ?_; (case hd => rfl); (case hg => rfl); (case hr => first | exact AR.run_box_row rfl rfl | (go_simp; done) | (go_simp; rfl)); intro gb407 hg w7 hbox hb; have BK407 := Aside0.mk (hbox); have GW407 := Aside0.mk (sqS HB.out hg); replace HB := Aside0.mk (sqH HB.out hb); have GE407 := GW407; clear hb hbox hg) | ((with_reducible refine gate_dst (N := 5) rfl ?_); refine box_event ?hg (N := 5) ?hd (cs := (a1).A) (t := 28) ?hr ?_; (case hd => rfl); (case hg => rfl); (case hr => first | exact AR.run_box_row rfl rfl | (go_simp; done) | (go_simp; rfl)); intro gb408 hg w8 hbox hb; have BK408 := Aside0.mk (hbox); have GW408 := Aside0.mk (sqS HB.out hg); replace HB := Aside0.mk (sqH HB.out hb); have GE408 := GW408; have NB407_408 := Aside0.mk (sqN BK407.out hg); replace BK407 := Aside0.mk (sqB BK407.out hb); have NB408_407 := Aside0.mk (Ne.symm NB407_408.out); clear hb hbox hg) | ((with_reducible refine gate_dst (N := 6) rfl ?_); refine box_event ?hg (N := 6) ?hd (cs := #[.int .i8 a2_0, .int .i8 a2_1, .int .i8 a2_2, .int .i8 a2_3, .int .i8 a2_4, .int .i8 a2_5]) (t := 32) ?hr ?_; (case hd => rfl); (case hg => rfl); (case hr => first | (go_simp; done) | (go_simp; rfl)); intro gb409 hg w9 hbox hb; have BK409 := Aside0.mk (hbox); have GW409 := Aside0.mk (sqS HB.out hg); replace HB := Aside0.mk (sqH HB.out hb); have GE409 := GW409; have NB407_409 := Aside0.mk (sqN BK407.out hg); replace BK407 := Aside0.mk (sqB BK407.out hb); have NB409_407 := Aside0.mk (Ne.symm NB407_409.out); have NB408_409 := Aside0.mk (sqN BK408.out hg); replace BK408 := Aside0.mk (sqB BK408.out hb); have NB409_408 := Aside0.mk (Ne.symm NB408_409.out); clear hb hbox hg) | ((with_reducible refine gate_callee (f := 8) rfl ?_); refine goesL_ (some 25) rfl rfl Try.func8 (by kernel_rfl) rfl #[.slice A3 l3.length c3, .int .i64 1048576] rfl (by (try simp only [List.map_toArray, List.map_cons, List.map_nil]); first | done | rfl | (simp only [List.length_drop, List.length_take]; rfl)) ?_; (with_reducible refine (laws_szWindS.calls _ _ l3 1048576 t410 _ ?side1 ?side2 A5.out).mono ?_); (case side1 => repeat (first | exact (Kd.C_below HR3.out HB.out) | (with_reducible refine Kd.C_alloc ?_ _) | (with_reducible refine Kd.C_drewN ?_ _) | (with_reducible refine Kd.C_drew ?_))); (case side2 => exact HC3.out); rintro e w' ⟨rfl, ⟨nd, rfl⟩⟩; refine ⟨_, rfl, ?_⟩))
  go_ret
  exact ⟨by first | rfl | (simp [errW_none, errW_some] <;> rfl) | (simp [*, errW_none, errW_some] <;> rfl), by repeat (first | (with_reducible first | exact HB.out | apply below_alloc | apply pw_below_drewN | apply below_drew1 | refine below_set ?_ GE407.out | refine below_set ?_ GE408.out | refine below_set ?_ GE409.out) | exact HB.out)⟩
 ·rw [if_neg c6] at H
  have c6b0 : decide (t410 < 0) = false := decide_eq_false c6
  clear c6
  replace H := Option.bind_eq_some_iff.mp H
  obtain ⟨t411, A100, H⟩ := H
  replace H : ((laws_toGrounds.f a1).bind fun t412 => ((laws_toBoat.f a2_0 a2_1 a2_2 a2_3 a2_4 a2_5).bind fun bt413 => ((laws_toWindS.f k l3).bind fun t419 => ((spec_HoursAtEach.f k t411 t412 bt413.1 bt413.2.1 bt413.2.2.1 bt413.2.2.2.1 bt413.2.2.2.2.1 bt413.2.2.2.2.2 t419).bind fun bt422 => ((laws_toWindS.f k l3).bind fun t429 => ((laws_toBay.f a0).bind fun t432 => ((laws_toGrounds.f a1).bind fun t433 => ((laws_toBoat.f a2_0 a2_1 a2_2 a2_3 a2_4 a2_5).bind fun bt434 => ((impl_HoursAtEach.f k t432 t433 bt434.1 bt434.2.1 bt434.2.2.1 bt434.2.2.2.1 bt434.2.2.2.2.1 bt434.2.2.2.2.2 t429).bind fun bt440 => ((laws_eqPlaceS.f k bt440.1 bt422.1).bind fun t447 => (if t447 = true then ((laws_eqInt64S.f k bt440.2.1 bt422.2.1).bind fun t448 => (if t448 = true then (laws_FnExactHoursAtEach.j0 k l3 bt422.1 bt422.2.1 bt422.2.2 t429 bt440.1 bt440.2.1 bt440.2.2 (bt440.2.2 != bt422.2.2) a0 a1 a2_0 a2_1 a2_2 a2_3 a2_4 a2_5) else (laws_FnExactHoursAtEach.j0 k l3 bt422.1 bt422.2.1 bt422.2.2 t429 bt440.1 bt440.2.1 bt440.2.2 true a0 a1 a2_0 a2_1 a2_2 a2_3 a2_4 a2_5))) else (laws_FnExactHoursAtEach.j0 k l3 bt422.1 bt422.2.1 bt422.2.2 t429 bt440.1 bt440.2.1 bt440.2.2 true a0 a1 a2_0 a2_1 a2_2 a2_3 a2_4 a2_5)))))))))))) = some r := H
  have A10 := Aside0.mk A100
  clear A100
  replace H := Option.bind_eq_some_iff.mp H
  obtain ⟨t412, A110, H⟩ := H
  replace H : ((laws_toBoat.f a2_0 a2_1 a2_2 a2_3 a2_4 a2_5).bind fun bt413 => ((laws_toWindS.f k l3).bind fun t419 => ((spec_HoursAtEach.f k t411 t412 bt413.1 bt413.2.1 bt413.2.2.1 bt413.2.2.2.1 bt413.2.2.2.2.1 bt413.2.2.2.2.2 t419).bind fun bt422 => ((laws_toWindS.f k l3).bind fun t429 => ((laws_toBay.f a0).bind fun t432 => ((laws_toGrounds.f a1).bind fun t433 => ((laws_toBoat.f a2_0 a2_1 a2_2 a2_3 a2_4 a2_5).bind fun bt434 => ((impl_HoursAtEach.f k t432 t433 bt434.1 bt434.2.1 bt434.2.2.1 bt434.2.2.2.1 bt434.2.2.2.2.1 bt434.2.2.2.2.2 t429).bind fun bt440 => ((laws_eqPlaceS.f k bt440.1 bt422.1).bind fun t447 => (if t447 = true then ((laws_eqInt64S.f k bt440.2.1 bt422.2.1).bind fun t448 => (if t448 = true then (laws_FnExactHoursAtEach.j0 k l3 bt422.1 bt422.2.1 bt422.2.2 t429 bt440.1 bt440.2.1 bt440.2.2 (bt440.2.2 != bt422.2.2) a0 a1 a2_0 a2_1 a2_2 a2_3 a2_4 a2_5) else (laws_FnExactHoursAtEach.j0 k l3 bt422.1 bt422.2.1 bt422.2.2 t429 bt440.1 bt440.2.1 bt440.2.2 true a0 a1 a2_0 a2_1 a2_2 a2_3 a2_4 a2_5))) else (laws_FnExactHoursAtEach.j0 k l3 bt422.1 bt422.2.1 bt422.2.2 t429 bt440.1 bt440.2.1 bt440.2.2 true a0 a1 a2_0 a2_1 a2_2 a2_3 a2_4 a2_5))))))))))) = some r := H
  have A11 := Aside0.mk A110
  clear A110
  replace H := Option.bind_eq_some_iff.mp H
  obtain ⟨⟨t413, t414, t415, t416, t417, t418⟩, A120, H⟩ := H
  replace H : ((laws_toWindS.f k l3).bind fun t419 => ((spec_HoursAtEach.f k t411 t412 t413 t414 t415 t416 t417 t418 t419).bind fun bt422 => ((laws_toWindS.f k l3).bind fun t429 => ((laws_toBay.f a0).bind fun t432 => ((laws_toGrounds.f a1).bind fun t433 => ((laws_toBoat.f a2_0 a2_1 a2_2 a2_3 a2_4 a2_5).bind fun bt434 => ((impl_HoursAtEach.f k t432 t433 bt434.1 bt434.2.1 bt434.2.2.1 bt434.2.2.2.1 bt434.2.2.2.2.1 bt434.2.2.2.2.2 t429).bind fun bt440 => ((laws_eqPlaceS.f k bt440.1 bt422.1).bind fun t447 => (if t447 = true then ((laws_eqInt64S.f k bt440.2.1 bt422.2.1).bind fun t448 => (if t448 = true then (laws_FnExactHoursAtEach.j0 k l3 bt422.1 bt422.2.1 bt422.2.2 t429 bt440.1 bt440.2.1 bt440.2.2 (bt440.2.2 != bt422.2.2) a0 a1 a2_0 a2_1 a2_2 a2_3 a2_4 a2_5) else (laws_FnExactHoursAtEach.j0 k l3 bt422.1 bt422.2.1 bt422.2.2 t429 bt440.1 bt440.2.1 bt440.2.2 true a0 a1 a2_0 a2_1 a2_2 a2_3 a2_4 a2_5))) else (laws_FnExactHoursAtEach.j0 k l3 bt422.1 bt422.2.1 bt422.2.2 t429 bt440.1 bt440.2.1 bt440.2.2 true a0 a1 a2_0 a2_1 a2_2 a2_3 a2_4 a2_5)))))))))) = some r := H
  have A12 := Aside0.mk A120
  clear A120
  replace H := Option.bind_eq_some_iff.mp H
  obtain ⟨t419, A130, H⟩ := H
  replace H : ((spec_HoursAtEach.f k t411 t412 t413 t414 t415 t416 t417 t418 t419).bind fun bt422 => ((laws_toWindS.f k l3).bind fun t429 => ((laws_toBay.f a0).bind fun t432 => ((laws_toGrounds.f a1).bind fun t433 => ((laws_toBoat.f a2_0 a2_1 a2_2 a2_3 a2_4 a2_5).bind fun bt434 => ((impl_HoursAtEach.f k t432 t433 bt434.1 bt434.2.1 bt434.2.2.1 bt434.2.2.2.1 bt434.2.2.2.2.1 bt434.2.2.2.2.2 t429).bind fun bt440 => ((laws_eqPlaceS.f k bt440.1 bt422.1).bind fun t447 => (if t447 = true then ((laws_eqInt64S.f k bt440.2.1 bt422.2.1).bind fun t448 => (if t448 = true then (laws_FnExactHoursAtEach.j0 k l3 bt422.1 bt422.2.1 bt422.2.2 t429 bt440.1 bt440.2.1 bt440.2.2 (bt440.2.2 != bt422.2.2) a0 a1 a2_0 a2_1 a2_2 a2_3 a2_4 a2_5) else (laws_FnExactHoursAtEach.j0 k l3 bt422.1 bt422.2.1 bt422.2.2 t429 bt440.1 bt440.2.1 bt440.2.2 true a0 a1 a2_0 a2_1 a2_2 a2_3 a2_4 a2_5))) else (laws_FnExactHoursAtEach.j0 k l3 bt422.1 bt422.2.1 bt422.2.2 t429 bt440.1 bt440.2.1 bt440.2.2 true a0 a1 a2_0 a2_1 a2_2 a2_3 a2_4 a2_5))))))))) = some r := H
  have A13 := Aside0.mk A130
  clear A130
  replace H := Option.bind_eq_some_iff.mp H
  obtain ⟨⟨t422, t425, t428⟩, A140, H⟩ := H
  replace H : ((laws_toWindS.f k l3).bind fun t429 => ((laws_toBay.f a0).bind fun t432 => ((laws_toGrounds.f a1).bind fun t433 => ((laws_toBoat.f a2_0 a2_1 a2_2 a2_3 a2_4 a2_5).bind fun bt434 => ((impl_HoursAtEach.f k t432 t433 bt434.1 bt434.2.1 bt434.2.2.1 bt434.2.2.2.1 bt434.2.2.2.2.1 bt434.2.2.2.2.2 t429).bind fun bt440 => ((laws_eqPlaceS.f k bt440.1 t422).bind fun t447 => (if t447 = true then ((laws_eqInt64S.f k bt440.2.1 t425).bind fun t448 => (if t448 = true then (laws_FnExactHoursAtEach.j0 k l3 t422 t425 t428 t429 bt440.1 bt440.2.1 bt440.2.2 (bt440.2.2 != t428) a0 a1 a2_0 a2_1 a2_2 a2_3 a2_4 a2_5) else (laws_FnExactHoursAtEach.j0 k l3 t422 t425 t428 t429 bt440.1 bt440.2.1 bt440.2.2 true a0 a1 a2_0 a2_1 a2_2 a2_3 a2_4 a2_5))) else (laws_FnExactHoursAtEach.j0 k l3 t422 t425 t428 t429 bt440.1 bt440.2.1 bt440.2.2 true a0 a1 a2_0 a2_1 a2_2 a2_3 a2_4 a2_5)))))))) = some r := H
  have A14 := Aside0.mk A140
  clear A140
  replace H := Option.bind_eq_some_iff.mp H
  obtain ⟨t429, A150, H⟩ := H
  replace H : ((laws_toBay.f a0).bind fun t432 => ((laws_toGrounds.f a1).bind fun t433 => ((laws_toBoat.f a2_0 a2_1 a2_2 a2_3 a2_4 a2_5).bind fun bt434 => ((impl_HoursAtEach.f k t432 t433 bt434.1 bt434.2.1 bt434.2.2.1 bt434.2.2.2.1 bt434.2.2.2.2.1 bt434.2.2.2.2.2 t429).bind fun bt440 => ((laws_eqPlaceS.f k bt440.1 t422).bind fun t447 => (if t447 = true then ((laws_eqInt64S.f k bt440.2.1 t425).bind fun t448 => (if t448 = true then (laws_FnExactHoursAtEach.j0 k l3 t422 t425 t428 t429 bt440.1 bt440.2.1 bt440.2.2 (bt440.2.2 != t428) a0 a1 a2_0 a2_1 a2_2 a2_3 a2_4 a2_5) else (laws_FnExactHoursAtEach.j0 k l3 t422 t425 t428 t429 bt440.1 bt440.2.1 bt440.2.2 true a0 a1 a2_0 a2_1 a2_2 a2_3 a2_4 a2_5))) else (laws_FnExactHoursAtEach.j0 k l3 t422 t425 t428 t429 bt440.1 bt440.2.1 bt440.2.2 true a0 a1 a2_0 a2_1 a2_2 a2_3 a2_4 a2_5))))))) = some r := H
  have A15 := Aside0.mk A150
  clear A150
  replace H := Option.bind_eq_some_iff.mp H
  obtain ⟨t432, A160, H⟩ := H
  replace H : ((laws_toGrounds.f a1).bind fun t433 => ((laws_toBoat.f a2_0 a2_1 a2_2 a2_3 a2_4 a2_5).bind fun bt434 => ((impl_HoursAtEach.f k t432 t433 bt434.1 bt434.2.1 bt434.2.2.1 bt434.2.2.2.1 bt434.2.2.2.2.1 bt434.2.2.2.2.2 t429).bind fun bt440 => ((laws_eqPlaceS.f k bt440.1 t422).bind fun t447 => (if t447 = true then ((laws_eqInt64S.f k bt440.2.1 t425).bind fun t448 => (if t448 = true then (laws_FnExactHoursAtEach.j0 k l3 t422 t425 t428 t429 bt440.1 bt440.2.1 bt440.2.2 (bt440.2.2 != t428) a0 a1 a2_0 a2_1 a2_2 a2_3 a2_4 a2_5) else (laws_FnExactHoursAtEach.j0 k l3 t422 t425 t428 t429 bt440.1 bt440.2.1 bt440.2.2 true a0 a1 a2_0 a2_1 a2_2 a2_3 a2_4 a2_5))) else (laws_FnExactHoursAtEach.j0 k l3 t422 t425 t428 t429 bt440.1 bt440.2.1 bt440.2.2 true a0 a1 a2_0 a2_1 a2_2 a2_3 a2_4 a2_5)))))) = some r := H
  have A16 := Aside0.mk A160
  clear A160
  replace H := Option.bind_eq_some_iff.mp H
  obtain ⟨t433, A170, H⟩ := H
  replace H : ((laws_toBoat.f a2_0 a2_1 a2_2 a2_3 a2_4 a2_5).bind fun bt434 => ((impl_HoursAtEach.f k t432 t433 bt434.1 bt434.2.1 bt434.2.2.1 bt434.2.2.2.1 bt434.2.2.2.2.1 bt434.2.2.2.2.2 t429).bind fun bt440 => ((laws_eqPlaceS.f k bt440.1 t422).bind fun t447 => (if t447 = true then ((laws_eqInt64S.f k bt440.2.1 t425).bind fun t448 => (if t448 = true then (laws_FnExactHoursAtEach.j0 k l3 t422 t425 t428 t429 bt440.1 bt440.2.1 bt440.2.2 (bt440.2.2 != t428) a0 a1 a2_0 a2_1 a2_2 a2_3 a2_4 a2_5) else (laws_FnExactHoursAtEach.j0 k l3 t422 t425 t428 t429 bt440.1 bt440.2.1 bt440.2.2 true a0 a1 a2_0 a2_1 a2_2 a2_3 a2_4 a2_5))) else (laws_FnExactHoursAtEach.j0 k l3 t422 t425 t428 t429 bt440.1 bt440.2.1 bt440.2.2 true a0 a1 a2_0 a2_1 a2_2 a2_3 a2_4 a2_5))))) = some r := H
  have A17 := Aside0.mk A170
  clear A170
  replace H := Option.bind_eq_some_iff.mp H
  obtain ⟨⟨t434, t435, t436, t437, t438, t439⟩, A180, H⟩ := H
  replace H : ((impl_HoursAtEach.f k t432 t433 t434 t435 t436 t437 t438 t439 t429).bind fun bt440 => ((laws_eqPlaceS.f k bt440.1 t422).bind fun t447 => (if t447 = true then ((laws_eqInt64S.f k bt440.2.1 t425).bind fun t448 => (if t448 = true then (laws_FnExactHoursAtEach.j0 k l3 t422 t425 t428 t429 bt440.1 bt440.2.1 bt440.2.2 (bt440.2.2 != t428) a0 a1 a2_0 a2_1 a2_2 a2_3 a2_4 a2_5) else (laws_FnExactHoursAtEach.j0 k l3 t422 t425 t428 t429 bt440.1 bt440.2.1 bt440.2.2 true a0 a1 a2_0 a2_1 a2_2 a2_3 a2_4 a2_5))) else (laws_FnExactHoursAtEach.j0 k l3 t422 t425 t428 t429 bt440.1 bt440.2.1 bt440.2.2 true a0 a1 a2_0 a2_1 a2_2 a2_3 a2_4 a2_5)))) = some r := H
  have A18 := Aside0.mk A180
  clear A180
  replace H := Option.bind_eq_some_iff.mp H
  obtain ⟨⟨t440, t443, t446⟩, A190, H⟩ := H
  replace H : ((laws_eqPlaceS.f k t440 t422).bind fun t447 => (if t447 = true then ((laws_eqInt64S.f k t443 t425).bind fun t448 => (if t448 = true then (laws_FnExactHoursAtEach.j0 k l3 t422 t425 t428 t429 t440 t443 t446 (t446 != t428) a0 a1 a2_0 a2_1 a2_2 a2_3 a2_4 a2_5) else (laws_FnExactHoursAtEach.j0 k l3 t422 t425 t428 t429 t440 t443 t446 true a0 a1 a2_0 a2_1 a2_2 a2_3 a2_4 a2_5))) else (laws_FnExactHoursAtEach.j0 k l3 t422 t425 t428 t429 t440 t443 t446 true a0 a1 a2_0 a2_1 a2_2 a2_3 a2_4 a2_5))) = some r := H
  have A19 := Aside0.mk A190
  clear A190
  have HC20 := Aside0.mk H
  clear H
  go_enter Try.func6, Try.ntmps6
  try go_wp2_with (first | ((with_reducible refine gate_dst (N := 4) rfl ?_); refine box_event ?hg (N := 4) ?hd (cs := (a0).A) (t := 26) ?hr ?_; (case hd => rfl); (case hg => rfl); (case hr => first | exact AR.run_box_row rfl rfl | (go_simp; done) | (go_simp; rfl)); intro gb407 hg w21 hbox hb; have BK407 := Aside0.mk (hbox); have GW407 := Aside0.mk (sqS HB.out hg); replace HB := Aside0.mk (sqH HB.out hb); have GE407 := GW407; clear hb hbox hg) | ((with_reducible refine gate_dst (N := 5) rfl ?_); refine box_event ?hg (N := 5) ?hd (cs := (a1).A) (t := 28) ?hr ?_; (case hd => rfl); (case hg => rfl); (case hr => first | exact AR.run_box_row rfl rfl | (go_simp; done) | (go_simp; rfl)); intro gb408 hg w22 hbox hb; have BK408 := Aside0.mk (hbox); have GW408 := Aside0.mk (sqS HB.out hg); replace HB := Aside0.mk (sqH HB.out hb); have GE408 := GW408; have NB407_408 := Aside0.mk (sqN BK407.out hg); replace BK407 := Aside0.mk (sqB BK407.out hb); have NB408_407 := Aside0.mk (Ne.symm NB407_408.out); clear hb hbox hg) | ((with_reducible refine gate_dst (N := 6) rfl ?_); refine box_event ?hg (N := 6) ?hd (cs := #[.int .i8 a2_0, .int .i8 a2_1, .int .i8 a2_2, .int .i8 a2_3, .int .i8 a2_4, .int .i8 a2_5]) (t := 32) ?hr ?_; (case hd => rfl); (case hg => rfl); (case hr => first | (go_simp; done) | (go_simp; rfl)); intro gb409 hg w23 hbox hb; have BK409 := Aside0.mk (hbox); have GW409 := Aside0.mk (sqS HB.out hg); replace HB := Aside0.mk (sqH HB.out hb); have GE409 := GW409; have NB407_409 := Aside0.mk (sqN BK407.out hg); replace BK407 := Aside0.mk (sqB BK407.out hb); have NB409_407 := Aside0.mk (Ne.symm NB407_409.out); have NB408_409 := Aside0.mk (sqN BK408.out hg); replace BK408 := Aside0.mk (sqB BK408.out hb); have NB409_408 := Aside0.mk (Ne.symm NB408_409.out); clear hb hbox hg) | ((with_reducible refine gate_callee (f := 8) rfl ?_); refine goesL_ (some 25) rfl rfl Try.func8 (by kernel_rfl) rfl #[.slice A3 l3.length c3, .int .i64 1048576] rfl (by (try simp only [List.map_toArray, List.map_cons, List.map_nil]); first | done | rfl | (simp only [List.length_drop, List.length_take]; rfl)) ?_; (with_reducible refine (laws_szWindS.calls _ _ l3 1048576 t410 _ ?side1 ?side2 A5.out).mono ?_); (case side1 => repeat (first | exact (Kd.C_below HR3.out HB.out) | (with_reducible refine Kd.C_alloc ?_ _) | (with_reducible refine Kd.C_drewN ?_ _) | (with_reducible refine Kd.C_drew ?_))); (case side2 => exact HC3.out); rintro e w' ⟨rfl, ⟨nd, rfl⟩⟩; refine ⟨_, rfl, ?_⟩))
  (try (rw [drewN_self w23]; generalize hq_ : World.drewN w23 _ = w23; have n0_ : Aside0 (w23.heap[gb407]? = some (.cells (a0).A 26 (0, 0))) := ⟨by rw [← hq_]; exact (sqO BK407.out)⟩; have n1_ : Aside0 (w23.heap[gb408]? = some (.cells (a1).A 28 (0, 0))) := ⟨by rw [← hq_]; exact (sqO BK408.out)⟩; have n2_ : Aside0 (w23.heap[gb409]? = some (.cells #[.int .i8 a2_0, .int .i8 a2_1, .int .i8 a2_2, .int .i8 a2_3, .int .i8 a2_4, .int .i8 a2_5] 32 (0, 0))) := ⟨by rw [← hq_]; exact (sqO BK409.out)⟩; have n3_ : Aside0 (Below w.heap.size w w23) := ⟨by rw [← hq_]; exact (sqI HB.out)⟩; clear BK407 BK408 BK409 HB hq_; have BK407 := n0_; have BK408 := n1_; have BK409 := n2_; have HB := n3_; clear n0_ n1_ n2_ n3_))
  replace BK407 := Aside0.mk (blk_drew BK407.out)
  replace BK408 := Aside0.mk (blk_drew BK408.out)
  replace BK409 := Aside0.mk (blk_drew BK409.out)
  replace HB := Aside0.mk (below_drew1 HB.out)
  refine start_ (n := 16) (S := fun w' => w'.heap[gb407]? = some (.cells (a0).A 26 (0, 0)) ∧ w'.heap[gb408]? = some (.cells (a1).A 28 (0, 0)) ∧ w'.cell? ⟨gb409, 0, none⟩ = some (.int .i8 a2_0) ∧ w'.cell? ⟨gb409, 1, none⟩ = some (.int .i8 a2_1) ∧ w'.cell? ⟨gb409, 2, none⟩ = some (.int .i8 a2_2) ∧ w'.cell? ⟨gb409, 3, none⟩ = some (.int .i8 a2_3) ∧ w'.cell? ⟨gb409, 4, none⟩ = some (.int .i8 a2_4) ∧ w'.cell? ⟨gb409, 5, none⟩ = some (.int .i8 a2_5)) (ds := []) #[false, false, false, false, false, false, false, false, false, false, false, false, false, false, false, false] (by kernel_rfl) rfl rfl ⟨BK407.out, BK408.out, (blk_cell BK409.out 0).trans rfl, (blk_cell BK409.out 1).trans rfl, (blk_cell BK409.out 2).trans rfl, (blk_cell BK409.out 3).trans rfl, (blk_cell BK409.out 4).trans rfl, (blk_cell BK409.out 5).trans rfl⟩ (fun hHeld => ?_); refine with_tabW laws_FnExactHoursAtEach.tab5 laws_FnExactHoursAtEach.bits5 (fun HT_ HW_ => ?_)
  generalize w23.drew = w24 at BK407 BK408 BK409 HB hHeld ⊢
  refine pure_ (i := 6) (N := some 35) (v := ?_) (a' := ?_) #[false, false, false, false, false, false, true, false, false, false, false, false, false, false, false, false] rfl rfl (any_of HT_.out (by kernel_rfl)) (fun _ _ _ h => h) (Or.inl ⟨by rfl, ?_⟩) ?_ ?_
  rotate_left
  ·intro w'
   go_simp
   with_reducible rfl
  rotate_left
  ·simp only [Act.put, List.setIfInBounds_toArray, List.set_cons_zero, List.set_cons_succ, i64_w, i32_w]
   rfl
  refine take_ (i := 0) (N := some 29) (v := ?_) (a' := ?_) #[true, false, false, false, false, false, true, false, false, false, false, false, false, false, false, false] rfl rfl (take_ofW HT_.out HW_.out (by kernel_rfl)) (fun _ _ _ h => h) (Or.inl ⟨by rfl, ?_⟩) hHeld ?_ ?_
  rotate_left
  ·rintro w' ⟨s0, s1, s2, s3, s4, s5, s6, s7⟩
   skip
   first | (refine Eq.trans (AR.exec_load_blk rfl rfl s0 Try.underlying26 rfl (szO26 _)) ?_; with_reducible rfl) | (refine Eq.trans (AR.exec_load_blk rfl rfl s1 Try.underlying28 rfl (szO28 _)) ?_; with_reducible rfl) | (go_simp; with_reducible rfl)
  rotate_left
  ·simp only [Act.put, List.setIfInBounds_toArray, List.set_cons_zero, List.set_cons_succ, i64_w, i32_w]
   rfl
  refine take_ (i := 2) (N := some 31) (v := ?_) (a' := ?_) #[true, false, true, false, false, false, true, false, false, false, false, false, false, false, false, false] rfl rfl (take_ofW HT_.out HW_.out (by kernel_rfl)) (fun _ _ _ h => h) (Or.inl ⟨by rfl, ?_⟩) hHeld ?_ ?_
  rotate_left
  ·rintro w' ⟨s0, s1, s2, s3, s4, s5, s6, s7⟩
   skip
   first | (refine Eq.trans (AR.exec_load_blk rfl rfl s0 Try.underlying26 rfl (szO26 _)) ?_; with_reducible rfl) | (refine Eq.trans (AR.exec_load_blk rfl rfl s1 Try.underlying28 rfl (szO28 _)) ?_; with_reducible rfl) | (go_simp; with_reducible rfl)
  rotate_left
  ·simp only [Act.put, List.setIfInBounds_toArray, List.set_cons_zero, List.set_cons_succ, i64_w, i32_w]
   rfl
  refine take_ (i := 4) (N := some 33) (v := ?_) (a' := ?_) #[true, false, true, false, true, false, true, false, false, false, false, false, false, false, false, false] rfl rfl (take_ofW HT_.out HW_.out (by kernel_rfl)) (fun _ _ _ h => h) (Or.inl ⟨by rfl, ?_⟩) hHeld ?_ ?_
  rotate_left
  ·rintro w' ⟨s0, s1, s2, s3, s4, s5, s6, s7⟩
   skip
   first | (refine Eq.trans (AR.exec_load_blk rfl rfl s0 Try.underlying26 rfl (szO26 _)) ?_; with_reducible rfl) | (refine Eq.trans (AR.exec_load_blk rfl rfl s1 Try.underlying28 rfl (szO28 _)) ?_; with_reducible rfl) | (go_simp; with_reducible rfl)
  rotate_left
  ·simp only [Act.put, List.setIfInBounds_toArray, List.set_cons_zero, List.set_cons_succ, i64_w, i32_w]
   rfl
  refine one_ (i := 1) (N := some 30) #[true, true, true, false, true, false, true, false, false, false, false, false, false, false, false, false] rfl rfl (one_of HT_.out (by kernel_rfl)) (by decide) (fun K hK => ?_)
  refine goes_ Try.func10 (by kernel_rfl) rfl #[VO26 a0] (by rfl) rfl rfl (by (try simp only [List.map_toArray, List.map_cons, List.map_nil]); first | done | rfl | (simp only [List.length_drop, List.length_take]; rfl)) ?_
  with_reducible refine (laws_toBay.calls a0 t411 _ A10.out).mono ?_
  rintro e w25 ⟨rfl, hb⟩
  refine ⟨_, rfl, ?_⟩
  replace BK407 := Aside0.mk (sqB BK407.out hb)
  replace BK408 := Aside0.mk (sqB BK408.out hb)
  replace BK409 := Aside0.mk (sqB BK409.out hb)
  replace HB := Aside0.mk (sqH HB.out hb)
  (try clear hb)
  (try clear hb2)
  (try clear hk)
  (try clear hi)
  refine hK.out _ _ ⟨BK407.out, BK408.out, (blk_cell BK409.out 0).trans rfl, (blk_cell BK409.out 1).trans rfl, (blk_cell BK409.out 2).trans rfl, (blk_cell BK409.out 3).trans rfl, (blk_cell BK409.out 4).trans rfl, (blk_cell BK409.out 5).trans rfl⟩ (fun hHeld => ?_)
  clear hK K
  refine norm_ (a' := ?_) ?_ ?_
  rotate_left
  ·show Act.put _ (some 30) _ = _
   simp only [Act.put, List.setIfInBounds_toArray, List.set_cons_zero, List.set_cons_succ, i64_w, i32_w]
   rfl
  refine one_ (i := 3) (N := some 32) #[true, true, true, true, true, false, true, false, false, false, false, false, false, false, false, false] rfl rfl (one_of HT_.out (by kernel_rfl)) (by decide) (fun K hK => ?_)
  refine goes_ Try.func11 (by kernel_rfl) rfl #[VO28 a1] (by rfl) rfl rfl (by (try simp only [List.map_toArray, List.map_cons, List.map_nil]); first | done | rfl | (simp only [List.length_drop, List.length_take]; rfl)) ?_
  with_reducible refine (laws_toGrounds.calls a1 t412 _ A11.out).mono ?_
  rintro e w26 ⟨rfl, hb⟩
  refine ⟨_, rfl, ?_⟩
  replace BK407 := Aside0.mk (sqB BK407.out hb)
  replace BK408 := Aside0.mk (sqB BK408.out hb)
  replace BK409 := Aside0.mk (sqB BK409.out hb)
  replace HB := Aside0.mk (sqH HB.out hb)
  (try clear hb)
  (try clear hb2)
  (try clear hk)
  (try clear hi)
  refine hK.out _ _ ⟨BK407.out, BK408.out, (blk_cell BK409.out 0).trans rfl, (blk_cell BK409.out 1).trans rfl, (blk_cell BK409.out 2).trans rfl, (blk_cell BK409.out 3).trans rfl, (blk_cell BK409.out 4).trans rfl, (blk_cell BK409.out 5).trans rfl⟩ (fun hHeld => ?_)
  clear hK K
  refine norm_ (a' := ?_) ?_ ?_
  rotate_left
  ·show Act.put _ (some 32) _ = _
   simp only [Act.put, List.setIfInBounds_toArray, List.set_cons_zero, List.set_cons_succ, i64_w, i32_w]
   rfl
  refine one_ (i := 5) (N := some 34) #[true, true, true, true, true, true, true, false, false, false, false, false, false, false, false, false] rfl rfl (one_of HT_.out (by kernel_rfl)) (by decide) (fun K hK => ?_)
  refine goes_ Try.func12 (by kernel_rfl) rfl #[.agg #[.int .i8 a2_0, .int .i8 a2_1, .int .i8 a2_2, .int .i8 a2_3, .int .i8 a2_4, .int .i8 a2_5]] (by rfl) rfl rfl (by (try simp only [List.map_toArray, List.map_cons, List.map_nil]); first | done | rfl | (simp only [List.length_drop, List.length_take]; rfl)) ?_
  with_reducible refine (laws_toBoat.calls a2_0 a2_1 a2_2 a2_3 a2_4 a2_5 t413 t414 t415 t416 t417 t418 _ A12.out).mono ?_
  rintro e w27 ⟨rfl, hb⟩
  refine ⟨_, rfl, ?_⟩
  replace BK407 := Aside0.mk (sqB BK407.out hb)
  replace BK408 := Aside0.mk (sqB BK408.out hb)
  replace BK409 := Aside0.mk (sqB BK409.out hb)
  replace HB := Aside0.mk (sqH HB.out hb)
  (try clear hb)
  (try clear hb2)
  (try clear hk)
  (try clear hi)
  refine hK.out _ _ ⟨BK407.out, BK408.out, (blk_cell BK409.out 0).trans rfl, (blk_cell BK409.out 1).trans rfl, (blk_cell BK409.out 2).trans rfl, (blk_cell BK409.out 3).trans rfl, (blk_cell BK409.out 4).trans rfl, (blk_cell BK409.out 5).trans rfl⟩ (fun hHeld => ?_)
  clear hK K
  refine norm_ (a' := ?_) ?_ ?_
  rotate_left
  ·show Act.put _ (some 34) _ = _
   simp only [Act.put, List.setIfInBounds_toArray, List.set_cons_zero, List.set_cons_succ, i64_w, i32_w]
   rfl
  refine one_ (i := 7) (N := some 36) #[true, true, true, true, true, true, true, true, false, false, false, false, false, false, false, false] rfl rfl (one_of HT_.out (by kernel_rfl)) (by decide) (fun K hK => ?_)
  refine goes_ Try.func13 (by kernel_rfl) rfl #[.slice A3 l3.length c3] (by rfl) rfl rfl (by (try simp only [List.map_toArray, List.map_cons, List.map_nil]); first | done | rfl | (simp only [List.length_drop, List.length_take]; rfl)) ?_
  with_reducible refine (laws_toWindS.calls k _ _ l3 t419 _ ?side1 ?side2 A13.out).mono ?_
  (case side1 => repeat (first | exact (Kd.C_below HR3.out HB.out) | (with_reducible refine Kd.C_alloc ?_ _) | (with_reducible refine Kd.C_drewN ?_ _) | (with_reducible refine Kd.C_drew ?_)))
  (case side2 => exact HC3.out)
  rintro e w28 ⟨v420, rfl, ho0, hb⟩
  refine ⟨_, rfl, ?_⟩
  have HO421 := Aside0.mk (Kd.R_lower ho0 (sqW HB.out))
  replace BK407 := Aside0.mk (sqB BK407.out hb)
  replace BK408 := Aside0.mk (sqB BK408.out hb)
  replace BK409 := Aside0.mk (sqB BK409.out hb)
  replace HB := Aside0.mk (sqH HB.out hb)
  (try clear hb)
  (try clear hb2)
  (try clear hk)
  (try clear hi)
  (try clear ho0)
  obtain ⟨Ao29, co29, eo29⟩ := Kd.R_slice HO421.out
  (first | subst eo29 | (injection eo29 with f1_ f2_ f3_; have f4_ := f1_.symm; have f5_ := f3_.symm; clear f1_ f2_ f3_; subst f4_; subst f5_))
  refine hK.out _ _ ⟨BK407.out, BK408.out, (blk_cell BK409.out 0).trans rfl, (blk_cell BK409.out 1).trans rfl, (blk_cell BK409.out 2).trans rfl, (blk_cell BK409.out 3).trans rfl, (blk_cell BK409.out 4).trans rfl, (blk_cell BK409.out 5).trans rfl⟩ (fun hHeld => ?_)
  clear hK K
  refine norm_ (a' := ?_) ?_ ?_
  rotate_left
  ·show Act.put _ (some 36) _ = _
   simp only [Act.put, List.setIfInBounds_toArray, List.set_cons_zero, List.set_cons_succ, i64_w, i32_w]
   rfl
  refine one_ (i := 8) (N := some 37) #[true, true, true, true, true, true, true, true, true, false, false, false, false, false, false, false] rfl rfl (one_of HT_.out (by kernel_rfl)) (by decide) (fun K hK => ?_)
  refine goes_ Try.func24 (by kernel_rfl) rfl #[VO38 t411, VO40 t412, .agg #[.int .i8 t413, .int .i8 t414, .int .i8 t415, .int .i8 t416, .int .i8 t417, .int .i8 t418], .slice Ao29 t419.length co29] (by rfl) rfl rfl (by (try simp only [List.map_toArray, List.map_cons, List.map_nil]); first | done | rfl | (simp only [List.length_drop, List.length_take]; rfl)) ?_
  with_reducible refine (spec_HoursAtEach.calls k t411 t412 t413 t414 t415 t416 t417 t418 _ _ t419 t422 t425 t428 _ ?side1 ?side2 A14.out).mono ?_
  (case side1 => repeat (first | exact (Kd.R_reads' HO421.out).2.2 | (with_reducible refine Kd.C_alloc ?_ _) | (with_reducible refine Kd.C_drewN ?_ _) | (with_reducible refine Kd.C_drew ?_)))
  (case side2 => exact (Kd.R_reads' HO421.out).2.1)
  rintro e w30 ⟨v423, v426, rfl, ho0, ho1, hb⟩
  refine ⟨_, rfl, ?_⟩
  replace HO421 := Aside0.mk (sqR HO421.out hb)
  have HO424 := Aside0.mk (Kd.R_lower ho0 (sqW HB.out))
  have HO427 := Aside0.mk (Kd.R_lower ho1 (sqW HB.out))
  replace BK407 := Aside0.mk (sqB BK407.out hb)
  replace BK408 := Aside0.mk (sqB BK408.out hb)
  replace BK409 := Aside0.mk (sqB BK409.out hb)
  replace HB := Aside0.mk (sqH HB.out hb)
  (try clear hb)
  (try clear hb2)
  (try clear hk)
  (try clear hi)
  (try clear ho0)
  (try clear ho1)
  refine hK.out _ _ ⟨BK407.out, BK408.out, (blk_cell BK409.out 0).trans rfl, (blk_cell BK409.out 1).trans rfl, (blk_cell BK409.out 2).trans rfl, (blk_cell BK409.out 3).trans rfl, (blk_cell BK409.out 4).trans rfl, (blk_cell BK409.out 5).trans rfl⟩ (fun hHeld => ?_)
  clear hK K
  refine norm_ (a' := ?_) ?_ ?_
  rotate_left
  ·show Act.put _ (some 37) _ = _
   simp only [Act.put, List.setIfInBounds_toArray, List.set_cons_zero, List.set_cons_succ, i64_w, i32_w]
   rfl
  refine pure_ (i := 9) (N := some 28) (v := ?_) (a' := ?_) #[true, true, true, true, true, true, true, true, true, true, false, false, false, false, false, false] rfl rfl (any_of HT_.out (by kernel_rfl)) (fun _ _ _ h => h) (Or.inl ⟨by rfl, ?_⟩) ?_ ?_
  rotate_left
  ·intro w'
   go_simp
   with_reducible rfl
  rotate_left
  ·simp only [Act.put, List.setIfInBounds_toArray, List.set_cons_zero, List.set_cons_succ, i64_w, i32_w]
   rfl
  refine pure_ (i := 10) (N := some 38) (v := ?_) (a' := ?_) #[true, true, true, true, true, true, true, true, true, true, true, false, false, false, false, false] rfl rfl (any_of HT_.out (by kernel_rfl)) (fun _ _ _ h => h) (Or.inl ⟨by rfl, ?_⟩) ?_ ?_
  rotate_left
  ·intro w'
   go_simp
   with_reducible rfl
  rotate_left
  ·simp only [Act.put, List.setIfInBounds_toArray, List.set_cons_zero, List.set_cons_succ, i64_w, i32_w]
   rfl
  refine pure_ (i := 11) (N := some 39) (v := ?_) (a' := ?_) #[true, true, true, true, true, true, true, true, true, true, true, true, false, false, false, false] rfl rfl (any_of HT_.out (by kernel_rfl)) (fun _ _ _ h => h) (Or.inl ⟨by rfl, ?_⟩) ?_ ?_
  rotate_left
  ·intro w'
   go_simp
   with_reducible rfl
  rotate_left
  ·simp only [Act.put, List.setIfInBounds_toArray, List.set_cons_zero, List.set_cons_succ, i64_w, i32_w]
   rfl
  refine pure_ (i := 12) (N := some 40) (v := ?_) (a' := ?_) #[true, true, true, true, true, true, true, true, true, true, true, true, true, false, false, false] rfl rfl (any_of HT_.out (by kernel_rfl)) (fun _ _ _ h => h) (Or.inl ⟨by rfl, ?_⟩) ?_ ?_
  rotate_left
  ·intro w'
   go_simp
   with_reducible rfl
  rotate_left
  ·simp only [Act.put, List.setIfInBounds_toArray, List.set_cons_zero, List.set_cons_succ, i64_w, i32_w]
   rfl
  refine pure_ (i := 13) (N := some 10) (v := ?_) (a' := ?_) #[true, true, true, true, true, true, true, true, true, true, true, true, true, true, false, false] rfl rfl (any_of HT_.out (by kernel_rfl)) (fun _ _ _ h => h) (Or.inl ⟨by rfl, ?_⟩) ?_ ?_
  rotate_left
  ·intro w'
   go_simp
   with_reducible rfl
  rotate_left
  ·simp only [Act.put, List.setIfInBounds_toArray, List.set_cons_zero, List.set_cons_succ, i64_w, i32_w]
   rfl
  refine pure_ (i := 14) (N := some 11) (v := ?_) (a' := ?_) #[true, true, true, true, true, true, true, true, true, true, true, true, true, true, true, false] rfl rfl (any_of HT_.out (by kernel_rfl)) (fun _ _ _ h => h) (Or.inl ⟨by rfl, ?_⟩) ?_ ?_
  rotate_left
  ·intro w'
   go_simp
   with_reducible rfl
  rotate_left
  ·simp only [Act.put, List.setIfInBounds_toArray, List.set_cons_zero, List.set_cons_succ, i64_w, i32_w]
   rfl
  refine pure_ (i := 15) (N := some 12) (v := ?_) (a' := ?_) #[true, true, true, true, true, true, true, true, true, true, true, true, true, true, true, true] rfl rfl (any_of HT_.out (by kernel_rfl)) (fun _ _ _ h => h) (Or.inl ⟨by rfl, ?_⟩) ?_ ?_
  rotate_left
  ·intro w'
   go_simp
   with_reducible rfl
  rotate_left
  ·simp only [Act.put, List.setIfInBounds_toArray, List.set_cons_zero, List.set_cons_succ, i64_w, i32_w]
   rfl
  refine done_ (done_of HT_.out (by kernel_rfl)) ?_
  try go_wp2_with (first | ((with_reducible refine gate_callee (f := 13) rfl ?_); refine goesL_ (some 42) rfl rfl Try.func13 (by kernel_rfl) rfl #[.slice A3 l3.length c3] rfl (by (try simp only [List.map_toArray, List.map_cons, List.map_nil]); first | done | rfl | (simp only [List.length_drop, List.length_take]; rfl)) ?_; (with_reducible refine (laws_toWindS.calls k _ _ l3 t429 _ ?side1 ?side2 A15.out).mono ?_); (case side1 => repeat (first | exact (Kd.C_below HR3.out HB.out) | (with_reducible refine Kd.C_alloc ?_ _) | (with_reducible refine Kd.C_drewN ?_ _) | (with_reducible refine Kd.C_drew ?_))); (case side2 => exact HC3.out); rintro e w31 ⟨v430, rfl, ho0, hb⟩; refine ⟨_, rfl, ?_⟩; replace HO424 := Aside0.mk (sqR HO424.out hb); replace HO427 := Aside0.mk (sqR HO427.out hb); have HO431 := Aside0.mk (Kd.R_lower (Kd.R_new' ho0 (Kd.R_lt (by (with_reducible repeat (first | apply Kd.R_alloc | apply Kd.R_drewN | apply Kd.R_drew)); exact HO421.out))) (sqW HB.out)); replace HO421 := Aside0.mk (Kd.R_elder' (by (with_reducible repeat (first | apply Kd.R_alloc | apply Kd.R_drewN | apply Kd.R_drew)); exact HO421.out) (Kd.R_base ho0) hb); replace BK407 := Aside0.mk (sqB BK407.out hb); replace BK408 := Aside0.mk (sqB BK408.out hb); replace BK409 := Aside0.mk (sqB BK409.out hb); replace HB := Aside0.mk (sqH HB.out hb); (try clear hb); (try clear hb2); (try clear hk); (try clear hi); (try clear ho0)))
  replace HO421 := Aside0.mk (Kd.R_drew HO421.out)
  replace HO424 := Aside0.mk (Kd.R_drew HO424.out)
  replace HO427 := Aside0.mk (Kd.R_drew HO427.out)
  replace HO431 := Aside0.mk (Kd.R_drew HO431.out)
  replace BK407 := Aside0.mk (blk_drew BK407.out)
  replace BK408 := Aside0.mk (blk_drew BK408.out)
  replace BK409 := Aside0.mk (blk_drew BK409.out)
  replace HB := Aside0.mk (below_drew1 HB.out)
  refine start_ (n := 15) (S := fun w' => w'.heap[gb407]? = some (.cells (a0).A 26 (0, 0)) ∧ w'.heap[gb408]? = some (.cells (a1).A 28 (0, 0)) ∧ w'.cell? ⟨gb409, 0, none⟩ = some (.int .i8 a2_0) ∧ w'.cell? ⟨gb409, 1, none⟩ = some (.int .i8 a2_1) ∧ w'.cell? ⟨gb409, 2, none⟩ = some (.int .i8 a2_2) ∧ w'.cell? ⟨gb409, 3, none⟩ = some (.int .i8 a2_3) ∧ w'.cell? ⟨gb409, 4, none⟩ = some (.int .i8 a2_4) ∧ w'.cell? ⟨gb409, 5, none⟩ = some (.int .i8 a2_5)) (ds := []) #[false, false, false, false, false, false, false, false, false, false, false, false, false, false, false] (by kernel_rfl) rfl rfl ⟨BK407.out, BK408.out, (blk_cell BK409.out 0).trans rfl, (blk_cell BK409.out 1).trans rfl, (blk_cell BK409.out 2).trans rfl, (blk_cell BK409.out 3).trans rfl, (blk_cell BK409.out 4).trans rfl, (blk_cell BK409.out 5).trans rfl⟩ (fun hHeld => ?_); refine with_tabW laws_FnExactHoursAtEach.tab7 laws_FnExactHoursAtEach.bits7 (fun HT_ HW_ => ?_)
  generalize w31.drew = w32 at HO421 HO424 HO427 HO431 BK407 BK408 BK409 HB hHeld ⊢
  refine pure_ (i := 6) (N := some 50) (v := ?_) (a' := ?_) #[false, false, false, false, false, false, true, false, false, false, false, false, false, false, false] rfl rfl (any_of HT_.out (by kernel_rfl)) (fun _ _ _ h => h) (Or.inl ⟨by rfl, ?_⟩) ?_ ?_
  rotate_left
  ·intro w'
   go_simp
   with_reducible rfl
  rotate_left
  ·simp only [Act.put, List.setIfInBounds_toArray, List.set_cons_zero, List.set_cons_succ, i64_w, i32_w]
   rfl
  refine take_ (i := 0) (N := some 44) (v := ?_) (a' := ?_) #[true, false, false, false, false, false, true, false, false, false, false, false, false, false, false] rfl rfl (take_ofW HT_.out HW_.out (by kernel_rfl)) (fun _ _ _ h => h) (Or.inl ⟨by rfl, ?_⟩) hHeld ?_ ?_
  rotate_left
  ·rintro w' ⟨s0, s1, s2, s3, s4, s5, s6, s7⟩
   skip
   first | (refine Eq.trans (AR.exec_load_blk rfl rfl s0 Try.underlying26 rfl (szO26 _)) ?_; with_reducible rfl) | (refine Eq.trans (AR.exec_load_blk rfl rfl s1 Try.underlying28 rfl (szO28 _)) ?_; with_reducible rfl) | (go_simp; with_reducible rfl)
  rotate_left
  ·simp only [Act.put, List.setIfInBounds_toArray, List.set_cons_zero, List.set_cons_succ, i64_w, i32_w]
   rfl
  refine take_ (i := 2) (N := some 46) (v := ?_) (a' := ?_) #[true, false, true, false, false, false, true, false, false, false, false, false, false, false, false] rfl rfl (take_ofW HT_.out HW_.out (by kernel_rfl)) (fun _ _ _ h => h) (Or.inl ⟨by rfl, ?_⟩) hHeld ?_ ?_
  rotate_left
  ·rintro w' ⟨s0, s1, s2, s3, s4, s5, s6, s7⟩
   skip
   first | (refine Eq.trans (AR.exec_load_blk rfl rfl s0 Try.underlying26 rfl (szO26 _)) ?_; with_reducible rfl) | (refine Eq.trans (AR.exec_load_blk rfl rfl s1 Try.underlying28 rfl (szO28 _)) ?_; with_reducible rfl) | (go_simp; with_reducible rfl)
  rotate_left
  ·simp only [Act.put, List.setIfInBounds_toArray, List.set_cons_zero, List.set_cons_succ, i64_w, i32_w]
   rfl
  refine take_ (i := 4) (N := some 48) (v := ?_) (a' := ?_) #[true, false, true, false, true, false, true, false, false, false, false, false, false, false, false] rfl rfl (take_ofW HT_.out HW_.out (by kernel_rfl)) (fun _ _ _ h => h) (Or.inl ⟨by rfl, ?_⟩) hHeld ?_ ?_
  rotate_left
  ·rintro w' ⟨s0, s1, s2, s3, s4, s5, s6, s7⟩
   skip
   first | (refine Eq.trans (AR.exec_load_blk rfl rfl s0 Try.underlying26 rfl (szO26 _)) ?_; with_reducible rfl) | (refine Eq.trans (AR.exec_load_blk rfl rfl s1 Try.underlying28 rfl (szO28 _)) ?_; with_reducible rfl) | (go_simp; with_reducible rfl)
  rotate_left
  ·simp only [Act.put, List.setIfInBounds_toArray, List.set_cons_zero, List.set_cons_succ, i64_w, i32_w]
   rfl
  refine one_ (i := 1) (N := some 45) #[true, true, true, false, true, false, true, false, false, false, false, false, false, false, false] rfl rfl (one_of HT_.out (by kernel_rfl)) (by decide) (fun K hK => ?_)
  refine goes_ Try.func10 (by kernel_rfl) rfl #[VO26 a0] (by rfl) rfl rfl (by (try simp only [List.map_toArray, List.map_cons, List.map_nil]); first | done | rfl | (simp only [List.length_drop, List.length_take]; rfl)) ?_
  with_reducible refine (laws_toBay.calls a0 t432 _ A16.out).mono ?_
  rintro e w33 ⟨rfl, hb⟩
  refine ⟨_, rfl, ?_⟩
  replace HO421 := Aside0.mk (sqR HO421.out hb)
  replace HO424 := Aside0.mk (sqR HO424.out hb)
  replace HO427 := Aside0.mk (sqR HO427.out hb)
  replace HO431 := Aside0.mk (sqR HO431.out hb)
  replace BK407 := Aside0.mk (sqB BK407.out hb)
  replace BK408 := Aside0.mk (sqB BK408.out hb)
  replace BK409 := Aside0.mk (sqB BK409.out hb)
  replace HB := Aside0.mk (sqH HB.out hb)
  (try clear hb)
  (try clear hb2)
  (try clear hk)
  (try clear hi)
  refine hK.out _ _ ⟨BK407.out, BK408.out, (blk_cell BK409.out 0).trans rfl, (blk_cell BK409.out 1).trans rfl, (blk_cell BK409.out 2).trans rfl, (blk_cell BK409.out 3).trans rfl, (blk_cell BK409.out 4).trans rfl, (blk_cell BK409.out 5).trans rfl⟩ (fun hHeld => ?_)
  clear hK K
  refine norm_ (a' := ?_) ?_ ?_
  rotate_left
  ·show Act.put _ (some 45) _ = _
   simp only [Act.put, List.setIfInBounds_toArray, List.set_cons_zero, List.set_cons_succ, i64_w, i32_w]
   rfl
  refine one_ (i := 3) (N := some 47) #[true, true, true, true, true, false, true, false, false, false, false, false, false, false, false] rfl rfl (one_of HT_.out (by kernel_rfl)) (by decide) (fun K hK => ?_)
  refine goes_ Try.func11 (by kernel_rfl) rfl #[VO28 a1] (by rfl) rfl rfl (by (try simp only [List.map_toArray, List.map_cons, List.map_nil]); first | done | rfl | (simp only [List.length_drop, List.length_take]; rfl)) ?_
  with_reducible refine (laws_toGrounds.calls a1 t433 _ A17.out).mono ?_
  rintro e w34 ⟨rfl, hb⟩
  refine ⟨_, rfl, ?_⟩
  replace HO421 := Aside0.mk (sqR HO421.out hb)
  replace HO424 := Aside0.mk (sqR HO424.out hb)
  replace HO427 := Aside0.mk (sqR HO427.out hb)
  replace HO431 := Aside0.mk (sqR HO431.out hb)
  replace BK407 := Aside0.mk (sqB BK407.out hb)
  replace BK408 := Aside0.mk (sqB BK408.out hb)
  replace BK409 := Aside0.mk (sqB BK409.out hb)
  replace HB := Aside0.mk (sqH HB.out hb)
  (try clear hb)
  (try clear hb2)
  (try clear hk)
  (try clear hi)
  refine hK.out _ _ ⟨BK407.out, BK408.out, (blk_cell BK409.out 0).trans rfl, (blk_cell BK409.out 1).trans rfl, (blk_cell BK409.out 2).trans rfl, (blk_cell BK409.out 3).trans rfl, (blk_cell BK409.out 4).trans rfl, (blk_cell BK409.out 5).trans rfl⟩ (fun hHeld => ?_)
  clear hK K
  refine norm_ (a' := ?_) ?_ ?_
  rotate_left
  ·show Act.put _ (some 47) _ = _
   simp only [Act.put, List.setIfInBounds_toArray, List.set_cons_zero, List.set_cons_succ, i64_w, i32_w]
   rfl
  refine one_ (i := 5) (N := some 49) #[true, true, true, true, true, true, true, false, false, false, false, false, false, false, false] rfl rfl (one_of HT_.out (by kernel_rfl)) (by decide) (fun K hK => ?_)
  refine goes_ Try.func12 (by kernel_rfl) rfl #[.agg #[.int .i8 a2_0, .int .i8 a2_1, .int .i8 a2_2, .int .i8 a2_3, .int .i8 a2_4, .int .i8 a2_5]] (by rfl) rfl rfl (by (try simp only [List.map_toArray, List.map_cons, List.map_nil]); first | done | rfl | (simp only [List.length_drop, List.length_take]; rfl)) ?_
  with_reducible refine (laws_toBoat.calls a2_0 a2_1 a2_2 a2_3 a2_4 a2_5 t434 t435 t436 t437 t438 t439 _ A18.out).mono ?_
  rintro e w35 ⟨rfl, hb⟩
  refine ⟨_, rfl, ?_⟩
  replace HO421 := Aside0.mk (sqR HO421.out hb)
  replace HO424 := Aside0.mk (sqR HO424.out hb)
  replace HO427 := Aside0.mk (sqR HO427.out hb)
  replace HO431 := Aside0.mk (sqR HO431.out hb)
  replace BK407 := Aside0.mk (sqB BK407.out hb)
  replace BK408 := Aside0.mk (sqB BK408.out hb)
  replace BK409 := Aside0.mk (sqB BK409.out hb)
  replace HB := Aside0.mk (sqH HB.out hb)
  (try clear hb)
  (try clear hb2)
  (try clear hk)
  (try clear hi)
  obtain ⟨Ao36, co36, eo36⟩ := Kd.R_slice HO431.out
  (first | subst eo36 | (injection eo36 with f1_ f2_ f3_; have f4_ := f1_.symm; have f5_ := f3_.symm; clear f1_ f2_ f3_; subst f4_; subst f5_))
  refine hK.out _ _ ⟨BK407.out, BK408.out, (blk_cell BK409.out 0).trans rfl, (blk_cell BK409.out 1).trans rfl, (blk_cell BK409.out 2).trans rfl, (blk_cell BK409.out 3).trans rfl, (blk_cell BK409.out 4).trans rfl, (blk_cell BK409.out 5).trans rfl⟩ (fun hHeld => ?_)
  clear hK K
  refine norm_ (a' := ?_) ?_ ?_
  rotate_left
  ·show Act.put _ (some 49) _ = _
   simp only [Act.put, List.setIfInBounds_toArray, List.set_cons_zero, List.set_cons_succ, i64_w, i32_w]
   rfl
  refine one_ (i := 7) (N := some 51) #[true, true, true, true, true, true, true, true, false, false, false, false, false, false, false] rfl rfl (one_of HT_.out (by kernel_rfl)) (by decide) (fun K hK => ?_)
  refine goes_ Try.func25 (by kernel_rfl) rfl #[VO38 t432, VO40 t433, .agg #[.int .i8 t434, .int .i8 t435, .int .i8 t436, .int .i8 t437, .int .i8 t438, .int .i8 t439], .slice Ao36 t429.length co36] (by rfl) rfl rfl (by (try simp only [List.map_toArray, List.map_cons, List.map_nil]); first | done | rfl | (simp only [List.length_drop, List.length_take]; rfl)) ?_
  with_reducible refine (impl_HoursAtEach.calls k t432 t433 t434 t435 t436 t437 t438 t439 _ _ t429 t440 t443 t446 _ ?side1 ?side2 A19.out).mono ?_
  (case side1 => repeat (first | exact (Kd.R_reads' HO431.out).2.2 | (with_reducible refine Kd.C_alloc ?_ _) | (with_reducible refine Kd.C_drewN ?_ _) | (with_reducible refine Kd.C_drew ?_)))
  (case side2 => exact (Kd.R_reads' HO431.out).2.1)
  rintro e w37 ⟨v441, v444, rfl, ho0, ho1, hb⟩
  refine ⟨_, rfl, ?_⟩
  replace HO421 := Aside0.mk (sqR HO421.out hb)
  replace HO431 := Aside0.mk (sqR HO431.out hb)
  have HO442 := Aside0.mk (Kd.R_lower (Kd.R_new' ho0 (Kd.R_lt (by (with_reducible repeat (first | apply Kd.R_alloc | apply Kd.R_drewN | apply Kd.R_drew)); exact HO424.out))) (sqW HB.out))
  replace HO424 := Aside0.mk (Kd.R_elder' (by (with_reducible repeat (first | apply Kd.R_alloc | apply Kd.R_drewN | apply Kd.R_drew)); exact HO424.out) (Kd.R_base ho0) hb)
  have HO445 := Aside0.mk (Kd.R_lower (Kd.R_new' ho1 (Kd.R_lt (by (with_reducible repeat (first | apply Kd.R_alloc | apply Kd.R_drewN | apply Kd.R_drew)); exact HO427.out))) (sqW HB.out))
  replace HO427 := Aside0.mk (Kd.R_elder' (by (with_reducible repeat (first | apply Kd.R_alloc | apply Kd.R_drewN | apply Kd.R_drew)); exact HO427.out) (Kd.R_base ho1) hb)
  replace BK407 := Aside0.mk (sqB BK407.out hb)
  replace BK408 := Aside0.mk (sqB BK408.out hb)
  replace BK409 := Aside0.mk (sqB BK409.out hb)
  replace HB := Aside0.mk (sqH HB.out hb)
  (try clear hb)
  (try clear hb2)
  (try clear hk)
  (try clear hi)
  (try clear ho0)
  (try clear ho1)
  refine hK.out _ _ ⟨BK407.out, BK408.out, (blk_cell BK409.out 0).trans rfl, (blk_cell BK409.out 1).trans rfl, (blk_cell BK409.out 2).trans rfl, (blk_cell BK409.out 3).trans rfl, (blk_cell BK409.out 4).trans rfl, (blk_cell BK409.out 5).trans rfl⟩ (fun hHeld => ?_)
  clear hK K
  refine norm_ (a' := ?_) ?_ ?_
  rotate_left
  ·show Act.put _ (some 51) _ = _
   simp only [Act.put, List.setIfInBounds_toArray, List.set_cons_zero, List.set_cons_succ, i64_w, i32_w]
   rfl
  refine pure_ (i := 8) (N := some 43) (v := ?_) (a' := ?_) #[true, true, true, true, true, true, true, true, true, false, false, false, false, false, false] rfl rfl (any_of HT_.out (by kernel_rfl)) (fun _ _ _ h => h) (Or.inl ⟨by rfl, ?_⟩) ?_ ?_
  rotate_left
  ·intro w'
   go_simp
   with_reducible rfl
  rotate_left
  ·simp only [Act.put, List.setIfInBounds_toArray, List.set_cons_zero, List.set_cons_succ, i64_w, i32_w]
   rfl
  refine pure_ (i := 9) (N := some 52) (v := ?_) (a' := ?_) #[true, true, true, true, true, true, true, true, true, true, false, false, false, false, false] rfl rfl (any_of HT_.out (by kernel_rfl)) (fun _ _ _ h => h) (Or.inl ⟨by rfl, ?_⟩) ?_ ?_
  rotate_left
  ·intro w'
   go_simp
   with_reducible rfl
  rotate_left
  ·simp only [Act.put, List.setIfInBounds_toArray, List.set_cons_zero, List.set_cons_succ, i64_w, i32_w]
   rfl
  refine pure_ (i := 10) (N := some 53) (v := ?_) (a' := ?_) #[true, true, true, true, true, true, true, true, true, true, true, false, false, false, false] rfl rfl (any_of HT_.out (by kernel_rfl)) (fun _ _ _ h => h) (Or.inl ⟨by rfl, ?_⟩) ?_ ?_
  rotate_left
  ·intro w'
   go_simp
   with_reducible rfl
  rotate_left
  ·simp only [Act.put, List.setIfInBounds_toArray, List.set_cons_zero, List.set_cons_succ, i64_w, i32_w]
   rfl
  refine pure_ (i := 11) (N := some 54) (v := ?_) (a' := ?_) #[true, true, true, true, true, true, true, true, true, true, true, true, false, false, false] rfl rfl (any_of HT_.out (by kernel_rfl)) (fun _ _ _ h => h) (Or.inl ⟨by rfl, ?_⟩) ?_ ?_
  rotate_left
  ·intro w'
   go_simp
   with_reducible rfl
  rotate_left
  ·simp only [Act.put, List.setIfInBounds_toArray, List.set_cons_zero, List.set_cons_succ, i64_w, i32_w]
   rfl
  refine pure_ (i := 12) (N := some 14) (v := ?_) (a' := ?_) #[true, true, true, true, true, true, true, true, true, true, true, true, true, false, false] rfl rfl (any_of HT_.out (by kernel_rfl)) (fun _ _ _ h => h) (Or.inl ⟨by rfl, ?_⟩) ?_ ?_
  rotate_left
  ·intro w'
   go_simp
   with_reducible rfl
  rotate_left
  ·simp only [Act.put, List.setIfInBounds_toArray, List.set_cons_zero, List.set_cons_succ, i64_w, i32_w]
   rfl
  refine pure_ (i := 13) (N := some 15) (v := ?_) (a' := ?_) #[true, true, true, true, true, true, true, true, true, true, true, true, true, true, false] rfl rfl (any_of HT_.out (by kernel_rfl)) (fun _ _ _ h => h) (Or.inl ⟨by rfl, ?_⟩) ?_ ?_
  rotate_left
  ·intro w'
   go_simp
   with_reducible rfl
  rotate_left
  ·simp only [Act.put, List.setIfInBounds_toArray, List.set_cons_zero, List.set_cons_succ, i64_w, i32_w]
   rfl
  refine pure_ (i := 14) (N := some 16) (v := ?_) (a' := ?_) #[true, true, true, true, true, true, true, true, true, true, true, true, true, true, true] rfl rfl (any_of HT_.out (by kernel_rfl)) (fun _ _ _ h => h) (Or.inl ⟨by rfl, ?_⟩) ?_ ?_
  rotate_left
  ·intro w'
   go_simp
   with_reducible rfl
  rotate_left
  ·simp only [Act.put, List.setIfInBounds_toArray, List.set_cons_zero, List.set_cons_succ, i64_w, i32_w]
   rfl
  refine done_ (done_of HT_.out (by kernel_rfl)) ?_
  go_upto_region 8 with (fail)
  go_cut [69] (fun v69 wc => ∃ (kq : Nat) (x69_19 : Bool), v69 = .bool x69_19 ∧ Aside0 (laws_FnExactHoursAtEach.j0 kq l3 t422 t425 t428 t429 t440 t443 t446 x69_19 a0 a1 a2_0 a2_1 a2_2 a2_3 a2_4 a2_5 = some r) ∧ Aside0 (kq ≤ k) ∧ Aside0 (Kd.R k42 42 wc w.heap.size (fun k_ => some k_ ≠ (v441 : Value).ownBlock) v423 t422) ∧ Aside0 (Kd.R (Kd.int .i64) 2 wc w.heap.size (fun k_ => some k_ ≠ (v444 : Value).ownBlock) v426 t425) ∧ Aside0 (Kd.R k78 78 wc w.heap.size (fun _ => True) (.slice Ao36 t429.length co36) t429) ∧ Aside0 (Kd.R k42 42 wc w.heap.size (fun k_ => some k_ ≠ (v423 : Value).ownBlock) v441 t440) ∧ Aside0 (Kd.R (Kd.int .i64) 2 wc w.heap.size (fun k_ => some k_ ≠ (v426 : Value).ownBlock) v444 t443) ∧ Aside0 (wc.heap[gb407]? = some (.cells (a0).A 26 (0, 0))) ∧ Aside0 (wc.heap[gb408]? = some (.cells (a1).A 28 (0, 0))) ∧ Aside0 (wc.heap[gb409]? = some (.cells #[.int .i8 a2_0, .int .i8 a2_1, .int .i8 a2_2, .int .i8 a2_3, .int .i8 a2_4, .int .i8 a2_5] 32 (0, 0))) ∧ Aside0 (Below w.heap.size w wc))
  case first =>
   have H := HC20.out
   clear HC20
   replace H := Option.bind_eq_some_iff.mp H
   obtain ⟨t447, A380, H⟩ := H
   replace H : (if t447 = true then ((laws_eqInt64S.f k t443 t425).bind fun t448 => (if t448 = true then (laws_FnExactHoursAtEach.j0 k l3 t422 t425 t428 t429 t440 t443 t446 (t446 != t428) a0 a1 a2_0 a2_1 a2_2 a2_3 a2_4 a2_5) else (laws_FnExactHoursAtEach.j0 k l3 t422 t425 t428 t429 t440 t443 t446 true a0 a1 a2_0 a2_1 a2_2 a2_3 a2_4 a2_5))) else (laws_FnExactHoursAtEach.j0 k l3 t422 t425 t428 t429 t440 t443 t446 true a0 a1 a2_0 a2_1 a2_2 a2_3 a2_4 a2_5)) = some r := H
   have A38 := Aside0.mk A380
   clear A380
   by_cases c39 : t447 = true
   ·subst c39
    have H1 : ((laws_eqInt64S.f k t443 t425).bind fun t448 => (if t448 = true then (laws_FnExactHoursAtEach.j0 k l3 t422 t425 t428 t429 t440 t443 t446 (t446 != t428) a0 a1 a2_0 a2_1 a2_2 a2_3 a2_4 a2_5) else (laws_FnExactHoursAtEach.j0 k l3 t422 t425 t428 t429 t440 t443 t446 true a0 a1 a2_0 a2_1 a2_2 a2_3 a2_4 a2_5))) = some r := by rw [if_pos rfl] at H; exact H
    clear H
    have H := H1
    clear H1
    replace H := Option.bind_eq_some_iff.mp H
    obtain ⟨t448, A400, H⟩ := H
    replace H : (if t448 = true then (laws_FnExactHoursAtEach.j0 k l3 t422 t425 t428 t429 t440 t443 t446 (t446 != t428) a0 a1 a2_0 a2_1 a2_2 a2_3 a2_4 a2_5) else (laws_FnExactHoursAtEach.j0 k l3 t422 t425 t428 t429 t440 t443 t446 true a0 a1 a2_0 a2_1 a2_2 a2_3 a2_4 a2_5)) = some r := H
    have A40 := Aside0.mk A400
    clear A400
    by_cases c41 : t448 = true
    ·subst c41
     have H1 : (laws_FnExactHoursAtEach.j0 k l3 t422 t425 t428 t429 t440 t443 t446 (t446 != t428) a0 a1 a2_0 a2_1 a2_2 a2_3 a2_4 a2_5) = some r := by rw [if_pos rfl] at H; exact H
     clear H
     have H := H1
     clear H1
     have H' := Aside0.mk H
     clear H
     obtain ⟨Ao42, co42, eo42⟩ := Kd.R_slice HO442.out
     subst eo42
     obtain ⟨Ao43, co43, eo43⟩ := Kd.R_slice HO424.out
     subst eo43
     go_wp2_with (first | ((with_reducible refine gate_callee (f := 15) rfl ?_); refine goesL_ (some 57) rfl rfl Try.func15 (by kernel_rfl) rfl #[.slice Ao42 t440.length co42, .slice Ao43 t422.length co43] rfl (by (try simp only [List.map_toArray, List.map_cons, List.map_nil]); first | done | rfl | (simp only [List.length_drop, List.length_take]; rfl)) ?_; (with_reducible refine (laws_eqPlaceS.calls k _ _ t440 _ _ t422 true _ ?side1 ?side2 ?side3 ?side4 A38.out).mono ?_); (case side1 => repeat (first | exact (Kd.R_reads' HO442.out).2.2 | (with_reducible refine Kd.C_alloc ?_ _) | (with_reducible refine Kd.C_drewN ?_ _) | (with_reducible refine Kd.C_drew ?_))); (case side2 => exact (Kd.R_reads' HO442.out).2.1); (case side3 => repeat (first | exact (Kd.R_reads' HO424.out).2.2 | (with_reducible refine Kd.C_alloc ?_ _) | (with_reducible refine Kd.C_drewN ?_ _) | (with_reducible refine Kd.C_drew ?_))); (case side4 => exact (Kd.R_reads' HO424.out).2.1); rintro e w44 ⟨rfl, hb⟩; refine ⟨_, rfl, ?_⟩; replace HO421 := Aside0.mk (sqR HO421.out hb); replace HO424 := Aside0.mk (sqR HO424.out hb); replace HO427 := Aside0.mk (sqR HO427.out hb); replace HO431 := Aside0.mk (sqR HO431.out hb); replace HO442 := Aside0.mk (sqR HO442.out hb); replace HO445 := Aside0.mk (sqR HO445.out hb); replace BK407 := Aside0.mk (sqB BK407.out hb); replace BK408 := Aside0.mk (sqB BK408.out hb); replace BK409 := Aside0.mk (sqB BK409.out hb); replace HB := Aside0.mk (sqH HB.out hb); (try clear hb); (try clear hb2); (try clear hk); (try clear hi); obtain ⟨Ao45, co45, eo45⟩ := Kd.R_slice HO445.out; subst eo45; obtain ⟨Ao46, co46, eo46⟩ := Kd.R_slice HO427.out; subst eo46) | (go_at_call 26; (with_reducible refine (laws_eqInt64S.calls k _ _ t443 _ _ t425 true _ ?side1 ?side2 ?side3 ?side4 A40.out).mono ?_); (case side1 => repeat (first | exact (Kd.R_reads' HO445.out).2.2 | (with_reducible refine Kd.C_alloc ?_ _) | (with_reducible refine Kd.C_drewN ?_ _) | (with_reducible refine Kd.C_drew ?_))); (case side2 => exact (Kd.R_reads' HO445.out).2.1); (case side3 => repeat (first | exact (Kd.R_reads' HO427.out).2.2 | (with_reducible refine Kd.C_alloc ?_ _) | (with_reducible refine Kd.C_drewN ?_ _) | (with_reducible refine Kd.C_drew ?_))); (case side4 => exact (Kd.R_reads' HO427.out).2.1); rintro e w' ⟨rfl, ⟨nd, rfl⟩⟩))
     go_meet
     case rel => exact ⟨_, ((t446 != t428)), (by first | rfl | (simp; done) | (simp [*]; done)), H', ⟨by first | omega | exact Nat.le_refl _⟩, ⟨by (with_reducible repeat (first | apply Kd.R_alloc | apply Kd.R_drewN | apply Kd.R_drew)); exact Kd.R_mono HO424.out (fun _ hk => hk.2)⟩, ⟨by (with_reducible repeat (first | apply Kd.R_alloc | apply Kd.R_drewN | apply Kd.R_drew)); exact Kd.R_mono HO427.out (fun _ hk => hk.2)⟩, ⟨by (with_reducible repeat (first | apply Kd.R_alloc | apply Kd.R_drewN | apply Kd.R_drew)); exact Kd.R_mono HO431.out (fun _ hk => trivial)⟩, ⟨by (with_reducible repeat (first | apply Kd.R_alloc | apply Kd.R_drewN | apply Kd.R_drew)); exact Kd.R_mono HO442.out (fun _ hk => hk.2)⟩, ⟨by (with_reducible repeat (first | apply Kd.R_alloc | apply Kd.R_drewN | apply Kd.R_drew)); exact Kd.R_mono HO445.out (fun _ hk => hk.2)⟩, ⟨by (with_reducible repeat (first | refine blk_drewN ?_ _ | refine blk_drew ?_ | refine blk_alloc ?_ _)); exact BK407.out⟩, ⟨by (with_reducible repeat (first | refine blk_drewN ?_ _ | refine blk_drew ?_ | refine blk_alloc ?_ _)); exact BK408.out⟩, ⟨by (with_reducible repeat (first | refine blk_drewN ?_ _ | refine blk_drew ?_ | refine blk_alloc ?_ _)); exact BK409.out⟩, ⟨by repeat (first | (with_reducible first | exact HB.out | apply below_alloc | apply pw_below_drewN | apply below_drew1 | refine below_set ?_ GE407.out | refine below_set ?_ GE408.out | refine below_set ?_ GE409.out) | exact HB.out)⟩⟩
    ·replace c41 := Bool.eq_false_iff.mpr c41
     subst c41
     have H1 : (laws_FnExactHoursAtEach.j0 k l3 t422 t425 t428 t429 t440 t443 t446 true a0 a1 a2_0 a2_1 a2_2 a2_3 a2_4 a2_5) = some r := by rw [if_neg (show ¬ (false = true) by decide)] at H; exact H
     clear H
     have H := H1
     clear H1
     have H' := Aside0.mk H
     clear H
     obtain ⟨Ao47, co47, eo47⟩ := Kd.R_slice HO442.out
     subst eo47
     obtain ⟨Ao48, co48, eo48⟩ := Kd.R_slice HO424.out
     subst eo48
     go_wp2_with (first | ((with_reducible refine gate_callee (f := 15) rfl ?_); refine goesL_ (some 57) rfl rfl Try.func15 (by kernel_rfl) rfl #[.slice Ao47 t440.length co47, .slice Ao48 t422.length co48] rfl (by (try simp only [List.map_toArray, List.map_cons, List.map_nil]); first | done | rfl | (simp only [List.length_drop, List.length_take]; rfl)) ?_; (with_reducible refine (laws_eqPlaceS.calls k _ _ t440 _ _ t422 true _ ?side1 ?side2 ?side3 ?side4 A38.out).mono ?_); (case side1 => repeat (first | exact (Kd.R_reads' HO442.out).2.2 | (with_reducible refine Kd.C_alloc ?_ _) | (with_reducible refine Kd.C_drewN ?_ _) | (with_reducible refine Kd.C_drew ?_))); (case side2 => exact (Kd.R_reads' HO442.out).2.1); (case side3 => repeat (first | exact (Kd.R_reads' HO424.out).2.2 | (with_reducible refine Kd.C_alloc ?_ _) | (with_reducible refine Kd.C_drewN ?_ _) | (with_reducible refine Kd.C_drew ?_))); (case side4 => exact (Kd.R_reads' HO424.out).2.1); rintro e w49 ⟨rfl, hb⟩; refine ⟨_, rfl, ?_⟩; replace HO421 := Aside0.mk (sqR HO421.out hb); replace HO424 := Aside0.mk (sqR HO424.out hb); replace HO427 := Aside0.mk (sqR HO427.out hb); replace HO431 := Aside0.mk (sqR HO431.out hb); replace HO442 := Aside0.mk (sqR HO442.out hb); replace HO445 := Aside0.mk (sqR HO445.out hb); replace BK407 := Aside0.mk (sqB BK407.out hb); replace BK408 := Aside0.mk (sqB BK408.out hb); replace BK409 := Aside0.mk (sqB BK409.out hb); replace HB := Aside0.mk (sqH HB.out hb); (try clear hb); (try clear hb2); (try clear hk); (try clear hi); obtain ⟨Ao50, co50, eo50⟩ := Kd.R_slice HO445.out; subst eo50; obtain ⟨Ao51, co51, eo51⟩ := Kd.R_slice HO427.out; subst eo51) | (go_at_call 26; (with_reducible refine (laws_eqInt64S.calls k _ _ t443 _ _ t425 false _ ?side1 ?side2 ?side3 ?side4 A40.out).mono ?_); (case side1 => repeat (first | exact (Kd.R_reads' HO445.out).2.2 | (with_reducible refine Kd.C_alloc ?_ _) | (with_reducible refine Kd.C_drewN ?_ _) | (with_reducible refine Kd.C_drew ?_))); (case side2 => exact (Kd.R_reads' HO445.out).2.1); (case side3 => repeat (first | exact (Kd.R_reads' HO427.out).2.2 | (with_reducible refine Kd.C_alloc ?_ _) | (with_reducible refine Kd.C_drewN ?_ _) | (with_reducible refine Kd.C_drew ?_))); (case side4 => exact (Kd.R_reads' HO427.out).2.1); rintro e w' ⟨rfl, ⟨nd, rfl⟩⟩))
     go_meet
     case rel => exact ⟨_, (true), (by first | rfl | (simp; done) | (simp [*]; done)), H', ⟨by first | omega | exact Nat.le_refl _⟩, ⟨by (with_reducible repeat (first | apply Kd.R_alloc | apply Kd.R_drewN | apply Kd.R_drew)); exact Kd.R_mono HO424.out (fun _ hk => hk.2)⟩, ⟨by (with_reducible repeat (first | apply Kd.R_alloc | apply Kd.R_drewN | apply Kd.R_drew)); exact Kd.R_mono HO427.out (fun _ hk => hk.2)⟩, ⟨by (with_reducible repeat (first | apply Kd.R_alloc | apply Kd.R_drewN | apply Kd.R_drew)); exact Kd.R_mono HO431.out (fun _ hk => trivial)⟩, ⟨by (with_reducible repeat (first | apply Kd.R_alloc | apply Kd.R_drewN | apply Kd.R_drew)); exact Kd.R_mono HO442.out (fun _ hk => hk.2)⟩, ⟨by (with_reducible repeat (first | apply Kd.R_alloc | apply Kd.R_drewN | apply Kd.R_drew)); exact Kd.R_mono HO445.out (fun _ hk => hk.2)⟩, ⟨by (with_reducible repeat (first | refine blk_drewN ?_ _ | refine blk_drew ?_ | refine blk_alloc ?_ _)); exact BK407.out⟩, ⟨by (with_reducible repeat (first | refine blk_drewN ?_ _ | refine blk_drew ?_ | refine blk_alloc ?_ _)); exact BK408.out⟩, ⟨by (with_reducible repeat (first | refine blk_drewN ?_ _ | refine blk_drew ?_ | refine blk_alloc ?_ _)); exact BK409.out⟩, ⟨by repeat (first | (with_reducible first | exact HB.out | apply below_alloc | apply pw_below_drewN | apply below_drew1 | refine below_set ?_ GE407.out | refine below_set ?_ GE408.out | refine below_set ?_ GE409.out) | exact HB.out)⟩⟩
   ·replace c39 := Bool.eq_false_iff.mpr c39
    subst c39
    have H1 : (laws_FnExactHoursAtEach.j0 k l3 t422 t425 t428 t429 t440 t443 t446 true a0 a1 a2_0 a2_1 a2_2 a2_3 a2_4 a2_5) = some r := by rw [if_neg (show ¬ (false = true) by decide)] at H; exact H
    clear H
    have H := H1
    clear H1
    have H' := Aside0.mk H
    clear H
    obtain ⟨Ao52, co52, eo52⟩ := Kd.R_slice HO442.out
    subst eo52
    obtain ⟨Ao53, co53, eo53⟩ := Kd.R_slice HO424.out
    subst eo53
    go_wp2_with (first | ((with_reducible refine gate_callee (f := 15) rfl ?_); refine goesL_ (some 57) rfl rfl Try.func15 (by kernel_rfl) rfl #[.slice Ao52 t440.length co52, .slice Ao53 t422.length co53] rfl (by (try simp only [List.map_toArray, List.map_cons, List.map_nil]); first | done | rfl | (simp only [List.length_drop, List.length_take]; rfl)) ?_; (with_reducible refine (laws_eqPlaceS.calls k _ _ t440 _ _ t422 false _ ?side1 ?side2 ?side3 ?side4 A38.out).mono ?_); (case side1 => repeat (first | exact (Kd.R_reads' HO442.out).2.2 | (with_reducible refine Kd.C_alloc ?_ _) | (with_reducible refine Kd.C_drewN ?_ _) | (with_reducible refine Kd.C_drew ?_))); (case side2 => exact (Kd.R_reads' HO442.out).2.1); (case side3 => repeat (first | exact (Kd.R_reads' HO424.out).2.2 | (with_reducible refine Kd.C_alloc ?_ _) | (with_reducible refine Kd.C_drewN ?_ _) | (with_reducible refine Kd.C_drew ?_))); (case side4 => exact (Kd.R_reads' HO424.out).2.1); rintro e w54 ⟨rfl, hb⟩; refine ⟨_, rfl, ?_⟩; replace HO421 := Aside0.mk (sqR HO421.out hb); replace HO424 := Aside0.mk (sqR HO424.out hb); replace HO427 := Aside0.mk (sqR HO427.out hb); replace HO431 := Aside0.mk (sqR HO431.out hb); replace HO442 := Aside0.mk (sqR HO442.out hb); replace HO445 := Aside0.mk (sqR HO445.out hb); replace BK407 := Aside0.mk (sqB BK407.out hb); replace BK408 := Aside0.mk (sqB BK408.out hb); replace BK409 := Aside0.mk (sqB BK409.out hb); replace HB := Aside0.mk (sqH HB.out hb); (try clear hb); (try clear hb2); (try clear hk); (try clear hi)))
    go_meet
    case rel => exact ⟨_, (true), (by first | rfl | (simp; done) | (simp [*]; done)), H', ⟨by first | omega | exact Nat.le_refl _⟩, ⟨by (with_reducible repeat (first | apply Kd.R_alloc | apply Kd.R_drewN | apply Kd.R_drew)); exact Kd.R_mono HO424.out (fun _ hk => hk.2)⟩, ⟨by (with_reducible repeat (first | apply Kd.R_alloc | apply Kd.R_drewN | apply Kd.R_drew)); exact Kd.R_mono HO427.out (fun _ hk => hk.2)⟩, ⟨by (with_reducible repeat (first | apply Kd.R_alloc | apply Kd.R_drewN | apply Kd.R_drew)); exact Kd.R_mono HO431.out (fun _ hk => trivial)⟩, ⟨by (with_reducible repeat (first | apply Kd.R_alloc | apply Kd.R_drewN | apply Kd.R_drew)); exact Kd.R_mono HO442.out (fun _ hk => hk.2)⟩, ⟨by (with_reducible repeat (first | apply Kd.R_alloc | apply Kd.R_drewN | apply Kd.R_drew)); exact Kd.R_mono HO445.out (fun _ hk => hk.2)⟩, ⟨by (with_reducible repeat (first | refine blk_drewN ?_ _ | refine blk_drew ?_ | refine blk_alloc ?_ _)); exact BK407.out⟩, ⟨by (with_reducible repeat (first | refine blk_drewN ?_ _ | refine blk_drew ?_ | refine blk_alloc ?_ _)); exact BK408.out⟩, ⟨by (with_reducible repeat (first | refine blk_drewN ?_ _ | refine blk_drew ?_ | refine blk_alloc ?_ _)); exact BK409.out⟩, ⟨by repeat (first | (with_reducible first | exact HB.out | apply below_alloc | apply pw_below_drewN | apply below_drew1 | refine below_set ?_ GE407.out | refine below_set ?_ GE408.out | refine below_set ?_ GE409.out) | exact HB.out)⟩⟩
  case rest =>
   clear HC20
   try clear c1
   try clear c2
   try clear p2
   try clear c3
   try clear c4
   try clear c10
   try clear c11
   try clear c12
   try clear c13
   try clear c15
   try clear c24
   try clear c25
   try clear c39
   try clear c41
   obtain ⟨kq, x69_19, rfl, HA, HJ19, HO_10, HO_11, HO_13, HO_14, HO_15, BK407, BK408, BK409, HB⟩ := hcut
   cases kq with
   | zero => exact absurd HA.out (by simp [laws_FnExactHoursAtEach.j0])
   | succ kj19 =>
    have H := HA.out
    clear HA
    simp only [laws_FnExactHoursAtEach.j0] at H
    by_cases c55 : x69_19 = true
    ·subst c55
     have H1 : (some false) = some r := by rw [if_pos rfl] at H; exact H
     clear H
     have H := H1
     clear H1
     exact absurd (Option.some.inj H) (by rw [hr_.out]; decide)
    ·replace c55 := Bool.eq_false_iff.mpr c55
     subst c55
     have H1 : ((laws_toWindS.f kj19 l3).bind fun t449 => ((laws_eqWindS.f kj19 t429 t449).bind fun t452 => (if t452 = true then ((laws_markWindS.f kj19 t429 1).bind fun bt453 => (if bt453.1 < 0 then (laws_FnExactHoursAtEach.j1 kj19 l3 t422 t425 t428 t440 t443 true a0 a1 a2_0 a2_1 a2_2 a2_3 a2_4 a2_5) else ((laws_eqPlaceS.f kj19 t440 t422).bind fun t455 => (if t455 = true then ((laws_eqInt64S.f kj19 t443 t425).bind fun t456 => (if t456 = true then (laws_FnExactHoursAtEach.j1 kj19 l3 t422 t425 t428 t440 t443 (t446 != t428) a0 a1 a2_0 a2_1 a2_2 a2_3 a2_4 a2_5) else (laws_FnExactHoursAtEach.j1 kj19 l3 t422 t425 t428 t440 t443 true a0 a1 a2_0 a2_1 a2_2 a2_3 a2_4 a2_5))) else (laws_FnExactHoursAtEach.j1 kj19 l3 t422 t425 t428 t440 t443 true a0 a1 a2_0 a2_1 a2_2 a2_3 a2_4 a2_5))))) else (some false)))) = some r := by rw [if_neg (show ¬ (false = true) by decide)] at H; exact H
     clear H
     have H := H1
     clear H1
     replace H := Option.bind_eq_some_iff.mp H
     obtain ⟨t449, A560, H⟩ := H
     replace H : ((laws_eqWindS.f kj19 t429 t449).bind fun t452 => (if t452 = true then ((laws_markWindS.f kj19 t429 1).bind fun bt453 => (if bt453.1 < 0 then (laws_FnExactHoursAtEach.j1 kj19 l3 t422 t425 t428 t440 t443 true a0 a1 a2_0 a2_1 a2_2 a2_3 a2_4 a2_5) else ((laws_eqPlaceS.f kj19 t440 t422).bind fun t455 => (if t455 = true then ((laws_eqInt64S.f kj19 t443 t425).bind fun t456 => (if t456 = true then (laws_FnExactHoursAtEach.j1 kj19 l3 t422 t425 t428 t440 t443 (t446 != t428) a0 a1 a2_0 a2_1 a2_2 a2_3 a2_4 a2_5) else (laws_FnExactHoursAtEach.j1 kj19 l3 t422 t425 t428 t440 t443 true a0 a1 a2_0 a2_1 a2_2 a2_3 a2_4 a2_5))) else (laws_FnExactHoursAtEach.j1 kj19 l3 t422 t425 t428 t440 t443 true a0 a1 a2_0 a2_1 a2_2 a2_3 a2_4 a2_5))))) else (some false))) = some r := H
     have A56 := Aside0.mk A560
     clear A560
     replace H := Option.bind_eq_some_iff.mp H
     obtain ⟨t452, A570, H⟩ := H
     replace H : (if t452 = true then ((laws_markWindS.f kj19 t429 1).bind fun bt453 => (if bt453.1 < 0 then (laws_FnExactHoursAtEach.j1 kj19 l3 t422 t425 t428 t440 t443 true a0 a1 a2_0 a2_1 a2_2 a2_3 a2_4 a2_5) else ((laws_eqPlaceS.f kj19 t440 t422).bind fun t455 => (if t455 = true then ((laws_eqInt64S.f kj19 t443 t425).bind fun t456 => (if t456 = true then (laws_FnExactHoursAtEach.j1 kj19 l3 t422 t425 t428 t440 t443 (t446 != t428) a0 a1 a2_0 a2_1 a2_2 a2_3 a2_4 a2_5) else (laws_FnExactHoursAtEach.j1 kj19 l3 t422 t425 t428 t440 t443 true a0 a1 a2_0 a2_1 a2_2 a2_3 a2_4 a2_5))) else (laws_FnExactHoursAtEach.j1 kj19 l3 t422 t425 t428 t440 t443 true a0 a1 a2_0 a2_1 a2_2 a2_3 a2_4 a2_5))))) else (some false)) = some r := H
     have A57 := Aside0.mk A570
     clear A570
     by_cases c58 : t452 = true
     ·subst c58
      have H1 : ((laws_markWindS.f kj19 t429 1).bind fun bt453 => (if bt453.1 < 0 then (laws_FnExactHoursAtEach.j1 kj19 l3 t422 t425 t428 t440 t443 true a0 a1 a2_0 a2_1 a2_2 a2_3 a2_4 a2_5) else ((laws_eqPlaceS.f kj19 t440 t422).bind fun t455 => (if t455 = true then ((laws_eqInt64S.f kj19 t443 t425).bind fun t456 => (if t456 = true then (laws_FnExactHoursAtEach.j1 kj19 l3 t422 t425 t428 t440 t443 (t446 != t428) a0 a1 a2_0 a2_1 a2_2 a2_3 a2_4 a2_5) else (laws_FnExactHoursAtEach.j1 kj19 l3 t422 t425 t428 t440 t443 true a0 a1 a2_0 a2_1 a2_2 a2_3 a2_4 a2_5))) else (laws_FnExactHoursAtEach.j1 kj19 l3 t422 t425 t428 t440 t443 true a0 a1 a2_0 a2_1 a2_2 a2_3 a2_4 a2_5))))) = some r := by rw [if_pos rfl] at H; exact H
      clear H
      have H := H1
      clear H1
      replace H := Option.bind_eq_some_iff.mp H
      obtain ⟨⟨t453, t454⟩, A590, H⟩ := H
      replace H : (if t453 < 0 then (laws_FnExactHoursAtEach.j1 kj19 l3 t422 t425 t428 t440 t443 true a0 a1 a2_0 a2_1 a2_2 a2_3 a2_4 a2_5) else ((laws_eqPlaceS.f kj19 t440 t422).bind fun t455 => (if t455 = true then ((laws_eqInt64S.f kj19 t443 t425).bind fun t456 => (if t456 = true then (laws_FnExactHoursAtEach.j1 kj19 l3 t422 t425 t428 t440 t443 (t446 != t428) a0 a1 a2_0 a2_1 a2_2 a2_3 a2_4 a2_5) else (laws_FnExactHoursAtEach.j1 kj19 l3 t422 t425 t428 t440 t443 true a0 a1 a2_0 a2_1 a2_2 a2_3 a2_4 a2_5))) else (laws_FnExactHoursAtEach.j1 kj19 l3 t422 t425 t428 t440 t443 true a0 a1 a2_0 a2_1 a2_2 a2_3 a2_4 a2_5)))) = some r := H
      have A59 := Aside0.mk A590
      clear A590
      have HC60 := Aside0.mk H
      clear H
      go_upto_region 14 with (first | ((with_reducible refine gate_callee (f := 13) rfl ?_); refine goesL_ (some 72) rfl rfl Try.func13 (by kernel_rfl) rfl #[.slice A3 l3.length c3] rfl (by (try simp only [List.map_toArray, List.map_cons, List.map_nil]); first | done | rfl | (simp only [List.length_drop, List.length_take]; rfl)) ?_; (with_reducible refine (laws_toWindS.calls kj19 _ _ l3 t449 _ ?side1 ?side2 A56.out).mono ?_); (case side1 => repeat (first | exact (Kd.C_below HR3.out HB.out) | (with_reducible refine Kd.C_alloc ?_ _) | (with_reducible refine Kd.C_drewN ?_ _) | (with_reducible refine Kd.C_drew ?_))); (case side2 => exact HC3.out); rintro e w61 ⟨v450, rfl, ho0, hb⟩; refine ⟨_, rfl, ?_⟩; replace HO_10 := Aside0.mk (sqR HO_10.out hb); replace HO_11 := Aside0.mk (sqR HO_11.out hb); replace HO_14 := Aside0.mk (sqR HO_14.out hb); replace HO_15 := Aside0.mk (sqR HO_15.out hb); have HO451 := Aside0.mk (Kd.R_lower (Kd.R_new' ho0 (Kd.R_lt (by (with_reducible repeat (first | apply Kd.R_alloc | apply Kd.R_drewN | apply Kd.R_drew)); exact HO_13.out))) (sqW HB.out)); replace HO_13 := Aside0.mk (Kd.R_elder' (by (with_reducible repeat (first | apply Kd.R_alloc | apply Kd.R_drewN | apply Kd.R_drew)); exact HO_13.out) (Kd.R_base ho0) hb); replace BK407 := Aside0.mk (sqB BK407.out hb); replace BK408 := Aside0.mk (sqB BK408.out hb); replace BK409 := Aside0.mk (sqB BK409.out hb); replace HB := Aside0.mk (sqH HB.out hb); (try clear hb); (try clear hb2); (try clear hk); (try clear hi); (try clear ho0); obtain ⟨Ao62, co62, eo62⟩ := Kd.R_slice HO451.out; subst eo62) | ((with_reducible refine gate_callee (f := 16) rfl ?_); refine goesL_ (some 73) rfl rfl Try.func16 (by kernel_rfl) rfl #[.slice Ao36 t429.length co36, .slice Ao62 t449.length co62] rfl (by (try simp only [List.map_toArray, List.map_cons, List.map_nil]); first | done | rfl | (simp only [List.length_drop, List.length_take]; rfl)) ?_; (with_reducible refine (laws_eqWindS.calls kj19 _ _ t429 _ _ t449 true _ ?side1 ?side2 ?side3 ?side4 A57.out).mono ?_); (case side1 => repeat (first | exact (Kd.R_reads' HO_13.out).2.2 | (with_reducible refine Kd.C_alloc ?_ _) | (with_reducible refine Kd.C_drewN ?_ _) | (with_reducible refine Kd.C_drew ?_))); (case side2 => exact (Kd.R_reads' HO_13.out).2.1); (case side3 => repeat (first | exact (Kd.R_reads' HO451.out).2.2 | (with_reducible refine Kd.C_alloc ?_ _) | (with_reducible refine Kd.C_drewN ?_ _) | (with_reducible refine Kd.C_drew ?_))); (case side4 => exact (Kd.R_reads' HO451.out).2.1); rintro e w63 ⟨rfl, hb⟩; refine ⟨_, rfl, ?_⟩; replace HO_10 := Aside0.mk (sqR HO_10.out hb); replace HO_11 := Aside0.mk (sqR HO_11.out hb); replace HO_13 := Aside0.mk (sqR HO_13.out hb); replace HO_14 := Aside0.mk (sqR HO_14.out hb); replace HO_15 := Aside0.mk (sqR HO_15.out hb); replace HO451 := Aside0.mk (sqR HO451.out hb); replace BK407 := Aside0.mk (sqB BK407.out hb); replace BK408 := Aside0.mk (sqB BK408.out hb); replace BK409 := Aside0.mk (sqB BK409.out hb); replace HB := Aside0.mk (sqH HB.out hb); (try clear hb); (try clear hb2); (try clear hk); (try clear hi)) | ((with_reducible refine gate_callee (f := 17) rfl ?_); refine goesL_ (some 77) rfl rfl Try.func17 (by kernel_rfl) rfl #[.slice Ao36 t429.length co36, .int .i64 1] rfl (by (try simp only [List.map_toArray, List.map_cons, List.map_nil]); first | done | rfl | (simp only [List.length_drop, List.length_take]; rfl)) ?_; (with_reducible refine (laws_markWindS.calls kj19 (fun k_ => some k_ = (.slice Ao36 t429.length co36 : Value).ownBlock) (.slice Ao36 t429.length co36) t429 1 t453 t454 w _ ?side1 ?side2 A59.out).mono ?_); (case side1 => repeat (first | (with_reducible first | exact HB.out | apply below_alloc | apply pw_below_drewN | apply below_drew1 | refine below_set ?_ GE407.out | refine below_set ?_ GE408.out | refine below_set ?_ GE409.out) | exact HB.out)); (case side2 => exact Kd.R_tight rfl HO_13.out); rintro e w64 ⟨rfl, hy0, hb, hkp⟩; refine ⟨_, rfl, ?_⟩; replace HO_10 := Aside0.mk (Kd.R_mono (ok' := fun k_ => some k_ ≠ (v441 : Value).ownBlock) (Kd.R_keptB ((Kd.R_apart' HO_10.out (Kd.R_typed HO_13.out) (by decide))) hkp (fun k_ hk_ hs_ => (hk_.2) hs_)) (fun k_ hk_ => hk_.1.1)); replace HO_11 := Aside0.mk (Kd.R_mono (ok' := fun k_ => some k_ ≠ (v444 : Value).ownBlock) (Kd.R_keptB ((Kd.R_apart' HO_11.out (Kd.R_typed HO_13.out) (by decide))) hkp (fun k_ hk_ hs_ => (hk_.2) hs_)) (fun k_ hk_ => hk_.1.1)); replace HO_14 := Aside0.mk (Kd.R_mono (ok' := fun k_ => some k_ ≠ (v423 : Value).ownBlock) (Kd.R_keptB ((Kd.R_apart' HO_14.out (Kd.R_typed HO_13.out) (by decide))) hkp (fun k_ hk_ hs_ => (hk_.2) hs_)) (fun k_ hk_ => hk_.1.1)); replace HO_15 := Aside0.mk (Kd.R_mono (ok' := fun k_ => some k_ ≠ (v426 : Value).ownBlock) (Kd.R_keptB ((Kd.R_apart' HO_15.out (Kd.R_typed HO_13.out) (by decide))) hkp (fun k_ hk_ hs_ => (hk_.2) hs_)) (fun k_ hk_ => hk_.1.1)); replace BK407 := Aside0.mk (blk_kept (sqO BK407.out) hkp (fun hs_ => (fun e_ => (Kd.R_ne HO_13.out BK407.out (by decide)) e_) hs_)); replace BK408 := Aside0.mk (blk_kept (sqO BK408.out) hkp (fun hs_ => (fun e_ => (Kd.R_ne HO_13.out BK408.out (by decide)) e_) hs_)); replace BK409 := Aside0.mk (blk_kept (sqO BK409.out) hkp (fun hs_ => (fun e_ => (Kd.R_ne HO_13.out BK409.out (by decide)) e_) hs_)); replace HO_13 := Aside0.mk (Kd.R_reok rfl hy0 (fun k_ e_ => HO_13.out.1 k_ e_)); replace HO451 := Aside0.mk (Kd.R_mono (ok' := fun k_ => some k_ ≠ (.slice Ao36 t429.length co36 : Value).ownBlock) (Kd.R_keptB (HO451.out) hkp (fun k_ hk_ hs_ => (hk_.2) hs_)) (fun k_ hk_ => hk_.1.2)); replace HB := Aside0.mk (hb); (try clear hb); (try clear hkp); (try clear hy0)))
      (try simp only [Act.put, List.setIfInBounds_toArray, List.set_cons_zero, List.set_cons_succ])
      go_cut [96] (fun v96 wc => ∃ (kq : Nat) (x96_59 : Bool), v96 = .bool x96_59 ∧ Aside0 (laws_FnExactHoursAtEach.j1 kq l3 t422 t425 t428 t440 t443 x96_59 a0 a1 a2_0 a2_1 a2_2 a2_3 a2_4 a2_5 = some r) ∧ Aside0 (kq ≤ kj19) ∧ Aside0 (Kd.R k42 42 wc w.heap.size (fun k_ => some k_ ≠ (v441 : Value).ownBlock) v423 t422) ∧ Aside0 (Kd.R (Kd.int .i64) 2 wc w.heap.size (fun k_ => some k_ ≠ (v444 : Value).ownBlock) v426 t425) ∧ Aside0 (Kd.R k42 42 wc w.heap.size (fun k_ => some k_ ≠ (v423 : Value).ownBlock) v441 t440) ∧ Aside0 (Kd.R (Kd.int .i64) 2 wc w.heap.size (fun k_ => some k_ ≠ (v426 : Value).ownBlock) v444 t443) ∧ Aside0 (wc.heap[gb407]? = some (.cells (a0).A 26 (0, 0))) ∧ Aside0 (wc.heap[gb408]? = some (.cells (a1).A 28 (0, 0))) ∧ Aside0 (wc.heap[gb409]? = some (.cells #[.int .i8 a2_0, .int .i8 a2_1, .int .i8 a2_2, .int .i8 a2_3, .int .i8 a2_4, .int .i8 a2_5] 32 (0, 0))) ∧ Aside0 (Below w.heap.size w wc))
      case first =>
       have H := HC60.out
       clear HC60
       by_cases c65 : t453 < 0
       ·rw [if_pos c65] at H
        have c65b0 : decide (t453 < 0) = true := decide_eq_true c65
        clear c65
        (first | rw [c65b0] | (simp only [i64_w, i32_w]; rw [c65b0]) | skip)
        have H' := Aside0.mk H
        clear H
        go_wp2
        go_meet
        case rel => exact ⟨_, (true), (by first | rfl | (simp; done) | (simp [*]; done)), H', ⟨by have := HJ19.out; first | omega | exact Nat.le_refl _⟩, ⟨by (with_reducible repeat (first | apply Kd.R_alloc | apply Kd.R_drewN | apply Kd.R_drew)); exact HO_10.out⟩, ⟨by (with_reducible repeat (first | apply Kd.R_alloc | apply Kd.R_drewN | apply Kd.R_drew)); exact HO_11.out⟩, ⟨by (with_reducible repeat (first | apply Kd.R_alloc | apply Kd.R_drewN | apply Kd.R_drew)); exact HO_14.out⟩, ⟨by (with_reducible repeat (first | apply Kd.R_alloc | apply Kd.R_drewN | apply Kd.R_drew)); exact HO_15.out⟩, ⟨by (with_reducible repeat (first | refine blk_drewN ?_ _ | refine blk_drew ?_ | refine blk_alloc ?_ _)); exact BK407.out⟩, ⟨by (with_reducible repeat (first | refine blk_drewN ?_ _ | refine blk_drew ?_ | refine blk_alloc ?_ _)); exact BK408.out⟩, ⟨by (with_reducible repeat (first | refine blk_drewN ?_ _ | refine blk_drew ?_ | refine blk_alloc ?_ _)); exact BK409.out⟩, ⟨by repeat (first | (with_reducible first | exact HB.out | apply below_alloc | apply pw_below_drewN | apply below_drew1 | refine below_set ?_ GE407.out | refine below_set ?_ GE408.out | refine below_set ?_ GE409.out) | exact HB.out)⟩⟩
       ·rw [if_neg c65] at H
        have c65b0 : decide (t453 < 0) = false := decide_eq_false c65
        clear c65
        (first | rw [c65b0] | (simp only [i64_w, i32_w]; rw [c65b0]) | skip)
        replace H := Option.bind_eq_some_iff.mp H
        obtain ⟨t455, A660, H⟩ := H
        replace H : (if t455 = true then ((laws_eqInt64S.f kj19 t443 t425).bind fun t456 => (if t456 = true then (laws_FnExactHoursAtEach.j1 kj19 l3 t422 t425 t428 t440 t443 (t446 != t428) a0 a1 a2_0 a2_1 a2_2 a2_3 a2_4 a2_5) else (laws_FnExactHoursAtEach.j1 kj19 l3 t422 t425 t428 t440 t443 true a0 a1 a2_0 a2_1 a2_2 a2_3 a2_4 a2_5))) else (laws_FnExactHoursAtEach.j1 kj19 l3 t422 t425 t428 t440 t443 true a0 a1 a2_0 a2_1 a2_2 a2_3 a2_4 a2_5)) = some r := H
        have A66 := Aside0.mk A660
        clear A660
        by_cases c67 : t455 = true
        ·subst c67
         have H1 : ((laws_eqInt64S.f kj19 t443 t425).bind fun t456 => (if t456 = true then (laws_FnExactHoursAtEach.j1 kj19 l3 t422 t425 t428 t440 t443 (t446 != t428) a0 a1 a2_0 a2_1 a2_2 a2_3 a2_4 a2_5) else (laws_FnExactHoursAtEach.j1 kj19 l3 t422 t425 t428 t440 t443 true a0 a1 a2_0 a2_1 a2_2 a2_3 a2_4 a2_5))) = some r := by rw [if_pos rfl] at H; exact H
         clear H
         have H := H1
         clear H1
         replace H := Option.bind_eq_some_iff.mp H
         obtain ⟨t456, A680, H⟩ := H
         replace H : (if t456 = true then (laws_FnExactHoursAtEach.j1 kj19 l3 t422 t425 t428 t440 t443 (t446 != t428) a0 a1 a2_0 a2_1 a2_2 a2_3 a2_4 a2_5) else (laws_FnExactHoursAtEach.j1 kj19 l3 t422 t425 t428 t440 t443 true a0 a1 a2_0 a2_1 a2_2 a2_3 a2_4 a2_5)) = some r := H
         have A68 := Aside0.mk A680
         clear A680
         by_cases c69 : t456 = true
         ·subst c69
          have H1 : (laws_FnExactHoursAtEach.j1 kj19 l3 t422 t425 t428 t440 t443 (t446 != t428) a0 a1 a2_0 a2_1 a2_2 a2_3 a2_4 a2_5) = some r := by rw [if_pos rfl] at H; exact H
          clear H
          have H := H1
          clear H1
          have H' := Aside0.mk H
          clear H
          obtain ⟨Ao70, co70, eo70⟩ := Kd.R_slice HO_14.out
          subst eo70
          obtain ⟨Ao71, co71, eo71⟩ := Kd.R_slice HO_10.out
          subst eo71
          go_wp2_with (first | (go_at_call 15; (with_reducible refine (laws_eqPlaceS.calls kj19 _ _ t440 _ _ t422 true _ ?side1 ?side2 ?side3 ?side4 A66.out).mono ?_); (case side1 => repeat (first | exact (Kd.R_reads' HO_14.out).2.2 | (with_reducible refine Kd.C_alloc ?_ _) | (with_reducible refine Kd.C_drewN ?_ _) | (with_reducible refine Kd.C_drew ?_))); (case side2 => exact (Kd.R_reads' HO_14.out).2.1); (case side3 => repeat (first | exact (Kd.R_reads' HO_10.out).2.2 | (with_reducible refine Kd.C_alloc ?_ _) | (with_reducible refine Kd.C_drewN ?_ _) | (with_reducible refine Kd.C_drew ?_))); (case side4 => exact (Kd.R_reads' HO_10.out).2.1); rintro e w72 ⟨rfl, hb⟩; replace HO_10 := Aside0.mk (sqR HO_10.out hb); replace HO_11 := Aside0.mk (sqR HO_11.out hb); replace HO_13 := Aside0.mk (sqR HO_13.out hb); replace HO_14 := Aside0.mk (sqR HO_14.out hb); replace HO_15 := Aside0.mk (sqR HO_15.out hb); replace HO451 := Aside0.mk (sqR HO451.out hb); replace BK407 := Aside0.mk (sqB BK407.out hb); replace BK408 := Aside0.mk (sqB BK408.out hb); replace BK409 := Aside0.mk (sqB BK409.out hb); replace HB := Aside0.mk (sqH HB.out hb); (try clear hb); (try clear hb2); (try clear hk); (try clear hi); obtain ⟨Ao73, co73, eo73⟩ := Kd.R_slice HO_15.out; subst eo73; obtain ⟨Ao74, co74, eo74⟩ := Kd.R_slice HO_11.out; subst eo74) | (go_at_call 26; (with_reducible refine (laws_eqInt64S.calls kj19 _ _ t443 _ _ t425 true _ ?side1 ?side2 ?side3 ?side4 A68.out).mono ?_); (case side1 => repeat (first | exact (Kd.R_reads' HO_15.out).2.2 | (with_reducible refine Kd.C_alloc ?_ _) | (with_reducible refine Kd.C_drewN ?_ _) | (with_reducible refine Kd.C_drew ?_))); (case side2 => exact (Kd.R_reads' HO_15.out).2.1); (case side3 => repeat (first | exact (Kd.R_reads' HO_11.out).2.2 | (with_reducible refine Kd.C_alloc ?_ _) | (with_reducible refine Kd.C_drewN ?_ _) | (with_reducible refine Kd.C_drew ?_))); (case side4 => exact (Kd.R_reads' HO_11.out).2.1); rintro e w' ⟨rfl, ⟨nd, rfl⟩⟩))
          go_meet
          case rel => exact ⟨_, ((t446 != t428)), (by first | rfl | (simp; done) | (simp [*]; done)), H', ⟨by have := HJ19.out; first | omega | exact Nat.le_refl _⟩, ⟨by (with_reducible repeat (first | apply Kd.R_alloc | apply Kd.R_drewN | apply Kd.R_drew)); exact HO_10.out⟩, ⟨by (with_reducible repeat (first | apply Kd.R_alloc | apply Kd.R_drewN | apply Kd.R_drew)); exact HO_11.out⟩, ⟨by (with_reducible repeat (first | apply Kd.R_alloc | apply Kd.R_drewN | apply Kd.R_drew)); exact HO_14.out⟩, ⟨by (with_reducible repeat (first | apply Kd.R_alloc | apply Kd.R_drewN | apply Kd.R_drew)); exact HO_15.out⟩, ⟨by (with_reducible repeat (first | refine blk_drewN ?_ _ | refine blk_drew ?_ | refine blk_alloc ?_ _)); exact BK407.out⟩, ⟨by (with_reducible repeat (first | refine blk_drewN ?_ _ | refine blk_drew ?_ | refine blk_alloc ?_ _)); exact BK408.out⟩, ⟨by (with_reducible repeat (first | refine blk_drewN ?_ _ | refine blk_drew ?_ | refine blk_alloc ?_ _)); exact BK409.out⟩, ⟨by repeat (first | (with_reducible first | exact HB.out | apply below_alloc | apply pw_below_drewN | apply below_drew1 | refine below_set ?_ GE407.out | refine below_set ?_ GE408.out | refine below_set ?_ GE409.out) | exact HB.out)⟩⟩
         ·replace c69 := Bool.eq_false_iff.mpr c69
          subst c69
          have H1 : (laws_FnExactHoursAtEach.j1 kj19 l3 t422 t425 t428 t440 t443 true a0 a1 a2_0 a2_1 a2_2 a2_3 a2_4 a2_5) = some r := by rw [if_neg (show ¬ (false = true) by decide)] at H; exact H
          clear H
          have H := H1
          clear H1
          have H' := Aside0.mk H
          clear H
          obtain ⟨Ao75, co75, eo75⟩ := Kd.R_slice HO_14.out
          subst eo75
          obtain ⟨Ao76, co76, eo76⟩ := Kd.R_slice HO_10.out
          subst eo76
          go_wp2_with (first | (go_at_call 15; (with_reducible refine (laws_eqPlaceS.calls kj19 _ _ t440 _ _ t422 true _ ?side1 ?side2 ?side3 ?side4 A66.out).mono ?_); (case side1 => repeat (first | exact (Kd.R_reads' HO_14.out).2.2 | (with_reducible refine Kd.C_alloc ?_ _) | (with_reducible refine Kd.C_drewN ?_ _) | (with_reducible refine Kd.C_drew ?_))); (case side2 => exact (Kd.R_reads' HO_14.out).2.1); (case side3 => repeat (first | exact (Kd.R_reads' HO_10.out).2.2 | (with_reducible refine Kd.C_alloc ?_ _) | (with_reducible refine Kd.C_drewN ?_ _) | (with_reducible refine Kd.C_drew ?_))); (case side4 => exact (Kd.R_reads' HO_10.out).2.1); rintro e w77 ⟨rfl, hb⟩; replace HO_10 := Aside0.mk (sqR HO_10.out hb); replace HO_11 := Aside0.mk (sqR HO_11.out hb); replace HO_13 := Aside0.mk (sqR HO_13.out hb); replace HO_14 := Aside0.mk (sqR HO_14.out hb); replace HO_15 := Aside0.mk (sqR HO_15.out hb); replace HO451 := Aside0.mk (sqR HO451.out hb); replace BK407 := Aside0.mk (sqB BK407.out hb); replace BK408 := Aside0.mk (sqB BK408.out hb); replace BK409 := Aside0.mk (sqB BK409.out hb); replace HB := Aside0.mk (sqH HB.out hb); (try clear hb); (try clear hb2); (try clear hk); (try clear hi); obtain ⟨Ao78, co78, eo78⟩ := Kd.R_slice HO_15.out; subst eo78; obtain ⟨Ao79, co79, eo79⟩ := Kd.R_slice HO_11.out; subst eo79) | (go_at_call 26; (with_reducible refine (laws_eqInt64S.calls kj19 _ _ t443 _ _ t425 false _ ?side1 ?side2 ?side3 ?side4 A68.out).mono ?_); (case side1 => repeat (first | exact (Kd.R_reads' HO_15.out).2.2 | (with_reducible refine Kd.C_alloc ?_ _) | (with_reducible refine Kd.C_drewN ?_ _) | (with_reducible refine Kd.C_drew ?_))); (case side2 => exact (Kd.R_reads' HO_15.out).2.1); (case side3 => repeat (first | exact (Kd.R_reads' HO_11.out).2.2 | (with_reducible refine Kd.C_alloc ?_ _) | (with_reducible refine Kd.C_drewN ?_ _) | (with_reducible refine Kd.C_drew ?_))); (case side4 => exact (Kd.R_reads' HO_11.out).2.1); rintro e w' ⟨rfl, ⟨nd, rfl⟩⟩))
          go_meet
          case rel => exact ⟨_, (true), (by first | rfl | (simp; done) | (simp [*]; done)), H', ⟨by have := HJ19.out; first | omega | exact Nat.le_refl _⟩, ⟨by (with_reducible repeat (first | apply Kd.R_alloc | apply Kd.R_drewN | apply Kd.R_drew)); exact HO_10.out⟩, ⟨by (with_reducible repeat (first | apply Kd.R_alloc | apply Kd.R_drewN | apply Kd.R_drew)); exact HO_11.out⟩, ⟨by (with_reducible repeat (first | apply Kd.R_alloc | apply Kd.R_drewN | apply Kd.R_drew)); exact HO_14.out⟩, ⟨by (with_reducible repeat (first | apply Kd.R_alloc | apply Kd.R_drewN | apply Kd.R_drew)); exact HO_15.out⟩, ⟨by (with_reducible repeat (first | refine blk_drewN ?_ _ | refine blk_drew ?_ | refine blk_alloc ?_ _)); exact BK407.out⟩, ⟨by (with_reducible repeat (first | refine blk_drewN ?_ _ | refine blk_drew ?_ | refine blk_alloc ?_ _)); exact BK408.out⟩, ⟨by (with_reducible repeat (first | refine blk_drewN ?_ _ | refine blk_drew ?_ | refine blk_alloc ?_ _)); exact BK409.out⟩, ⟨by repeat (first | (with_reducible first | exact HB.out | apply below_alloc | apply pw_below_drewN | apply below_drew1 | refine below_set ?_ GE407.out | refine below_set ?_ GE408.out | refine below_set ?_ GE409.out) | exact HB.out)⟩⟩
        ·replace c67 := Bool.eq_false_iff.mpr c67
         subst c67
         have H1 : (laws_FnExactHoursAtEach.j1 kj19 l3 t422 t425 t428 t440 t443 true a0 a1 a2_0 a2_1 a2_2 a2_3 a2_4 a2_5) = some r := by rw [if_neg (show ¬ (false = true) by decide)] at H; exact H
         clear H
         have H := H1
         clear H1
         have H' := Aside0.mk H
         clear H
         obtain ⟨Ao80, co80, eo80⟩ := Kd.R_slice HO_14.out
         subst eo80
         obtain ⟨Ao81, co81, eo81⟩ := Kd.R_slice HO_10.out
         subst eo81
         go_wp2_with (first | (go_at_call 15; (with_reducible refine (laws_eqPlaceS.calls kj19 _ _ t440 _ _ t422 false _ ?side1 ?side2 ?side3 ?side4 A66.out).mono ?_); (case side1 => repeat (first | exact (Kd.R_reads' HO_14.out).2.2 | (with_reducible refine Kd.C_alloc ?_ _) | (with_reducible refine Kd.C_drewN ?_ _) | (with_reducible refine Kd.C_drew ?_))); (case side2 => exact (Kd.R_reads' HO_14.out).2.1); (case side3 => repeat (first | exact (Kd.R_reads' HO_10.out).2.2 | (with_reducible refine Kd.C_alloc ?_ _) | (with_reducible refine Kd.C_drewN ?_ _) | (with_reducible refine Kd.C_drew ?_))); (case side4 => exact (Kd.R_reads' HO_10.out).2.1); rintro e w82 ⟨rfl, hb⟩; replace HO_10 := Aside0.mk (sqR HO_10.out hb); replace HO_11 := Aside0.mk (sqR HO_11.out hb); replace HO_13 := Aside0.mk (sqR HO_13.out hb); replace HO_14 := Aside0.mk (sqR HO_14.out hb); replace HO_15 := Aside0.mk (sqR HO_15.out hb); replace HO451 := Aside0.mk (sqR HO451.out hb); replace BK407 := Aside0.mk (sqB BK407.out hb); replace BK408 := Aside0.mk (sqB BK408.out hb); replace BK409 := Aside0.mk (sqB BK409.out hb); replace HB := Aside0.mk (sqH HB.out hb); (try clear hb); (try clear hb2); (try clear hk); (try clear hi)))
         go_meet
         case rel => exact ⟨_, (true), (by first | rfl | (simp; done) | (simp [*]; done)), H', ⟨by have := HJ19.out; first | omega | exact Nat.le_refl _⟩, ⟨by (with_reducible repeat (first | apply Kd.R_alloc | apply Kd.R_drewN | apply Kd.R_drew)); exact HO_10.out⟩, ⟨by (with_reducible repeat (first | apply Kd.R_alloc | apply Kd.R_drewN | apply Kd.R_drew)); exact HO_11.out⟩, ⟨by (with_reducible repeat (first | apply Kd.R_alloc | apply Kd.R_drewN | apply Kd.R_drew)); exact HO_14.out⟩, ⟨by (with_reducible repeat (first | apply Kd.R_alloc | apply Kd.R_drewN | apply Kd.R_drew)); exact HO_15.out⟩, ⟨by (with_reducible repeat (first | refine blk_drewN ?_ _ | refine blk_drew ?_ | refine blk_alloc ?_ _)); exact BK407.out⟩, ⟨by (with_reducible repeat (first | refine blk_drewN ?_ _ | refine blk_drew ?_ | refine blk_alloc ?_ _)); exact BK408.out⟩, ⟨by (with_reducible repeat (first | refine blk_drewN ?_ _ | refine blk_drew ?_ | refine blk_alloc ?_ _)); exact BK409.out⟩, ⟨by repeat (first | (with_reducible first | exact HB.out | apply below_alloc | apply pw_below_drewN | apply below_drew1 | refine below_set ?_ GE407.out | refine below_set ?_ GE408.out | refine below_set ?_ GE409.out) | exact HB.out)⟩⟩
      case rest =>
       clear HC60
       try clear c1
       try clear c2
       try clear p2
       try clear c3
       try clear c4
       try clear c5
       try clear c6
       try clear c10
       try clear c11
       try clear c12
       try clear c13
       try clear c15
       try clear c16
       try clear c17
       try clear c24
       try clear c25
       try clear c39
       try clear c41
       try clear c55
       try clear c58
       try clear c65
       try clear c65b0
       try clear c67
       try clear c69
       try clear p2
       obtain ⟨kq, x96_59, rfl, HA, HJ59, HO_10, HO_11, HO_14, HO_15, BK407, BK408, BK409, HB⟩ := hcut
       cases kq with
       | zero => exact absurd HA.out (by simp [laws_FnExactHoursAtEach.j1])
       | succ kj59 =>
        have H := HA.out
        clear HA
        simp only [laws_FnExactHoursAtEach.j1] at H
        by_cases c83 : x96_59 = true
        ·subst c83
         have H1 : (some false) = some r := by rw [if_pos rfl] at H; exact H
         clear H
         have H := H1
         clear H1
         exact absurd (Option.some.inj H) (by rw [hr_.out]; decide)
        ·replace c83 := Bool.eq_false_iff.mpr c83
         subst c83
         have H1 : ((laws_markPlaceS.f kj59 t440 1).bind fun bt457 => ((laws_markInt64S.f kj59 t443 bt457.1).bind fun bt459 => ((laws_heldPlaceS.f kj59 bt457.2 1).bind fun t461 => (if t461 < 0 then (some false) else ((laws_heldInt64S.f kj59 bt459.2 t461).bind fun t462 => (if t462 < 0 then (some false) else (if t462 = bt459.1 then ((laws_toBay.f a0).bind fun t463 => ((laws_toGrounds.f a1).bind fun t464 => ((laws_toBoat.f a2_0 a2_1 a2_2 a2_3 a2_4 a2_5).bind fun bt465 => ((laws_toWindS.f kj59 l3).bind fun t471 => ((impl_HoursAtEach.f kj59 t463 t464 bt465.1 bt465.2.1 bt465.2.2.1 bt465.2.2.2.1 bt465.2.2.2.2.1 bt465.2.2.2.2.2 t471).bind fun bt474 => ((laws_eqPlaceS.f kj59 bt474.1 t422).bind fun t481 => (if t481 = true then ((laws_eqInt64S.f kj59 bt474.2.1 t425).bind fun t482 => (if t482 = true then (laws_FnExactHoursAtEach.j2 kj59 bt457.2 bt459.2 bt459.1 (bt474.2.2 != t428)) else (laws_FnExactHoursAtEach.j2 kj59 bt457.2 bt459.2 bt459.1 true))) else (laws_FnExactHoursAtEach.j2 kj59 bt457.2 bt459.2 bt459.1 true)))))))) else (some false)))))))) = some r := by rw [if_neg (show ¬ (false = true) by decide)] at H; exact H
         clear H
         have H := H1
         clear H1
         replace H := Option.bind_eq_some_iff.mp H
         obtain ⟨⟨t457, t458⟩, A840, H⟩ := H
         replace H : ((laws_markInt64S.f kj59 t443 t457).bind fun bt459 => ((laws_heldPlaceS.f kj59 t458 1).bind fun t461 => (if t461 < 0 then (some false) else ((laws_heldInt64S.f kj59 bt459.2 t461).bind fun t462 => (if t462 < 0 then (some false) else (if t462 = bt459.1 then ((laws_toBay.f a0).bind fun t463 => ((laws_toGrounds.f a1).bind fun t464 => ((laws_toBoat.f a2_0 a2_1 a2_2 a2_3 a2_4 a2_5).bind fun bt465 => ((laws_toWindS.f kj59 l3).bind fun t471 => ((impl_HoursAtEach.f kj59 t463 t464 bt465.1 bt465.2.1 bt465.2.2.1 bt465.2.2.2.1 bt465.2.2.2.2.1 bt465.2.2.2.2.2 t471).bind fun bt474 => ((laws_eqPlaceS.f kj59 bt474.1 t422).bind fun t481 => (if t481 = true then ((laws_eqInt64S.f kj59 bt474.2.1 t425).bind fun t482 => (if t482 = true then (laws_FnExactHoursAtEach.j2 kj59 t458 bt459.2 bt459.1 (bt474.2.2 != t428)) else (laws_FnExactHoursAtEach.j2 kj59 t458 bt459.2 bt459.1 true))) else (laws_FnExactHoursAtEach.j2 kj59 t458 bt459.2 bt459.1 true)))))))) else (some false))))))) = some r := H
         have A84 := Aside0.mk A840
         clear A840
         replace H := Option.bind_eq_some_iff.mp H
         obtain ⟨⟨t459, t460⟩, A850, H⟩ := H
         replace H : ((laws_heldPlaceS.f kj59 t458 1).bind fun t461 => (if t461 < 0 then (some false) else ((laws_heldInt64S.f kj59 t460 t461).bind fun t462 => (if t462 < 0 then (some false) else (if t462 = t459 then ((laws_toBay.f a0).bind fun t463 => ((laws_toGrounds.f a1).bind fun t464 => ((laws_toBoat.f a2_0 a2_1 a2_2 a2_3 a2_4 a2_5).bind fun bt465 => ((laws_toWindS.f kj59 l3).bind fun t471 => ((impl_HoursAtEach.f kj59 t463 t464 bt465.1 bt465.2.1 bt465.2.2.1 bt465.2.2.2.1 bt465.2.2.2.2.1 bt465.2.2.2.2.2 t471).bind fun bt474 => ((laws_eqPlaceS.f kj59 bt474.1 t422).bind fun t481 => (if t481 = true then ((laws_eqInt64S.f kj59 bt474.2.1 t425).bind fun t482 => (if t482 = true then (laws_FnExactHoursAtEach.j2 kj59 t458 t460 t459 (bt474.2.2 != t428)) else (laws_FnExactHoursAtEach.j2 kj59 t458 t460 t459 true))) else (laws_FnExactHoursAtEach.j2 kj59 t458 t460 t459 true)))))))) else (some false)))))) = some r := H
         have A85 := Aside0.mk A850
         clear A850
         replace H := Option.bind_eq_some_iff.mp H
         obtain ⟨t461, A860, H⟩ := H
         replace H : (if t461 < 0 then (some false) else ((laws_heldInt64S.f kj59 t460 t461).bind fun t462 => (if t462 < 0 then (some false) else (if t462 = t459 then ((laws_toBay.f a0).bind fun t463 => ((laws_toGrounds.f a1).bind fun t464 => ((laws_toBoat.f a2_0 a2_1 a2_2 a2_3 a2_4 a2_5).bind fun bt465 => ((laws_toWindS.f kj59 l3).bind fun t471 => ((impl_HoursAtEach.f kj59 t463 t464 bt465.1 bt465.2.1 bt465.2.2.1 bt465.2.2.2.1 bt465.2.2.2.2.1 bt465.2.2.2.2.2 t471).bind fun bt474 => ((laws_eqPlaceS.f kj59 bt474.1 t422).bind fun t481 => (if t481 = true then ((laws_eqInt64S.f kj59 bt474.2.1 t425).bind fun t482 => (if t482 = true then (laws_FnExactHoursAtEach.j2 kj59 t458 t460 t459 (bt474.2.2 != t428)) else (laws_FnExactHoursAtEach.j2 kj59 t458 t460 t459 true))) else (laws_FnExactHoursAtEach.j2 kj59 t458 t460 t459 true)))))))) else (some false))))) = some r := H
         have A86 := Aside0.mk A860
         clear A860
         by_cases c87 : t461 < 0
         ·rw [if_pos c87] at H
          have c87b0 : decide (t461 < 0) = true := decide_eq_true c87
          clear c87
          exact absurd (Option.some.inj H) (by rw [hr_.out]; decide)
         ·rw [if_neg c87] at H
          have c87b0 : decide (t461 < 0) = false := decide_eq_false c87
          clear c87
          replace H := Option.bind_eq_some_iff.mp H
          obtain ⟨t462, A880, H⟩ := H
          replace H : (if t462 < 0 then (some false) else (if t462 = t459 then ((laws_toBay.f a0).bind fun t463 => ((laws_toGrounds.f a1).bind fun t464 => ((laws_toBoat.f a2_0 a2_1 a2_2 a2_3 a2_4 a2_5).bind fun bt465 => ((laws_toWindS.f kj59 l3).bind fun t471 => ((impl_HoursAtEach.f kj59 t463 t464 bt465.1 bt465.2.1 bt465.2.2.1 bt465.2.2.2.1 bt465.2.2.2.2.1 bt465.2.2.2.2.2 t471).bind fun bt474 => ((laws_eqPlaceS.f kj59 bt474.1 t422).bind fun t481 => (if t481 = true then ((laws_eqInt64S.f kj59 bt474.2.1 t425).bind fun t482 => (if t482 = true then (laws_FnExactHoursAtEach.j2 kj59 t458 t460 t459 (bt474.2.2 != t428)) else (laws_FnExactHoursAtEach.j2 kj59 t458 t460 t459 true))) else (laws_FnExactHoursAtEach.j2 kj59 t458 t460 t459 true)))))))) else (some false))) = some r := H
          have A88 := Aside0.mk A880
          clear A880
          by_cases c89 : t462 < 0
          ·rw [if_pos c89] at H
           have c89b0 : decide (t462 < 0) = true := decide_eq_true c89
           clear c89
           exact absurd (Option.some.inj H) (by rw [hr_.out]; decide)
          ·rw [if_neg c89] at H
           have c89b0 : decide (t462 < 0) = false := decide_eq_false c89
           clear c89
           by_cases c90 : t462 = t459
           ·rw [if_pos c90] at H
            have c90b0 : (t462 == t459) = true := beq_iff_eq.mpr c90
            have c90b1 : (t462 != t459) = false := bne_eq_false_iff_eq.mpr c90
            clear c90
            replace H := Option.bind_eq_some_iff.mp H
            obtain ⟨t463, A910, H⟩ := H
            replace H : ((laws_toGrounds.f a1).bind fun t464 => ((laws_toBoat.f a2_0 a2_1 a2_2 a2_3 a2_4 a2_5).bind fun bt465 => ((laws_toWindS.f kj59 l3).bind fun t471 => ((impl_HoursAtEach.f kj59 t463 t464 bt465.1 bt465.2.1 bt465.2.2.1 bt465.2.2.2.1 bt465.2.2.2.2.1 bt465.2.2.2.2.2 t471).bind fun bt474 => ((laws_eqPlaceS.f kj59 bt474.1 t422).bind fun t481 => (if t481 = true then ((laws_eqInt64S.f kj59 bt474.2.1 t425).bind fun t482 => (if t482 = true then (laws_FnExactHoursAtEach.j2 kj59 t458 t460 t459 (bt474.2.2 != t428)) else (laws_FnExactHoursAtEach.j2 kj59 t458 t460 t459 true))) else (laws_FnExactHoursAtEach.j2 kj59 t458 t460 t459 true))))))) = some r := H
            have A91 := Aside0.mk A910
            clear A910
            replace H := Option.bind_eq_some_iff.mp H
            obtain ⟨t464, A920, H⟩ := H
            replace H : ((laws_toBoat.f a2_0 a2_1 a2_2 a2_3 a2_4 a2_5).bind fun bt465 => ((laws_toWindS.f kj59 l3).bind fun t471 => ((impl_HoursAtEach.f kj59 t463 t464 bt465.1 bt465.2.1 bt465.2.2.1 bt465.2.2.2.1 bt465.2.2.2.2.1 bt465.2.2.2.2.2 t471).bind fun bt474 => ((laws_eqPlaceS.f kj59 bt474.1 t422).bind fun t481 => (if t481 = true then ((laws_eqInt64S.f kj59 bt474.2.1 t425).bind fun t482 => (if t482 = true then (laws_FnExactHoursAtEach.j2 kj59 t458 t460 t459 (bt474.2.2 != t428)) else (laws_FnExactHoursAtEach.j2 kj59 t458 t460 t459 true))) else (laws_FnExactHoursAtEach.j2 kj59 t458 t460 t459 true)))))) = some r := H
            have A92 := Aside0.mk A920
            clear A920
            replace H := Option.bind_eq_some_iff.mp H
            obtain ⟨⟨t465, t466, t467, t468, t469, t470⟩, A930, H⟩ := H
            replace H : ((laws_toWindS.f kj59 l3).bind fun t471 => ((impl_HoursAtEach.f kj59 t463 t464 t465 t466 t467 t468 t469 t470 t471).bind fun bt474 => ((laws_eqPlaceS.f kj59 bt474.1 t422).bind fun t481 => (if t481 = true then ((laws_eqInt64S.f kj59 bt474.2.1 t425).bind fun t482 => (if t482 = true then (laws_FnExactHoursAtEach.j2 kj59 t458 t460 t459 (bt474.2.2 != t428)) else (laws_FnExactHoursAtEach.j2 kj59 t458 t460 t459 true))) else (laws_FnExactHoursAtEach.j2 kj59 t458 t460 t459 true))))) = some r := H
            have A93 := Aside0.mk A930
            clear A930
            replace H := Option.bind_eq_some_iff.mp H
            obtain ⟨t471, A940, H⟩ := H
            replace H : ((impl_HoursAtEach.f kj59 t463 t464 t465 t466 t467 t468 t469 t470 t471).bind fun bt474 => ((laws_eqPlaceS.f kj59 bt474.1 t422).bind fun t481 => (if t481 = true then ((laws_eqInt64S.f kj59 bt474.2.1 t425).bind fun t482 => (if t482 = true then (laws_FnExactHoursAtEach.j2 kj59 t458 t460 t459 (bt474.2.2 != t428)) else (laws_FnExactHoursAtEach.j2 kj59 t458 t460 t459 true))) else (laws_FnExactHoursAtEach.j2 kj59 t458 t460 t459 true)))) = some r := H
            have A94 := Aside0.mk A940
            clear A940
            replace H := Option.bind_eq_some_iff.mp H
            obtain ⟨⟨t474, t477, t480⟩, A950, H⟩ := H
            replace H : ((laws_eqPlaceS.f kj59 t474 t422).bind fun t481 => (if t481 = true then ((laws_eqInt64S.f kj59 t477 t425).bind fun t482 => (if t482 = true then (laws_FnExactHoursAtEach.j2 kj59 t458 t460 t459 (t480 != t428)) else (laws_FnExactHoursAtEach.j2 kj59 t458 t460 t459 true))) else (laws_FnExactHoursAtEach.j2 kj59 t458 t460 t459 true))) = some r := H
            have A95 := Aside0.mk A950
            clear A950
            have HC96 := Aside0.mk H
            clear H
            obtain ⟨Ao97, co97, eo97⟩ := Kd.R_slice HO_14.out
            subst eo97
            try go_wp2_with (first | ((with_reducible refine gate_callee (f := 18) rfl ?_); refine goesL_ (some 99) rfl rfl Try.func18 (by kernel_rfl) rfl #[.slice Ao97 t440.length co97, .int .i64 1] rfl (by (try simp only [List.map_toArray, List.map_cons, List.map_nil]); first | done | rfl | (simp only [List.length_drop, List.length_take]; rfl)) ?_; (with_reducible refine (laws_markPlaceS.calls kj59 (fun k_ => some k_ = (.slice Ao97 t440.length co97 : Value).ownBlock) (.slice Ao97 t440.length co97) t440 1 t457 t458 w _ ?side1 ?side2 A84.out).mono ?_); (case side1 => repeat (first | (with_reducible first | exact HB.out | apply below_alloc | apply pw_below_drewN | apply below_drew1 | refine below_set ?_ GE407.out | refine below_set ?_ GE408.out | refine below_set ?_ GE409.out) | exact HB.out)); (case side2 => exact Kd.R_tight rfl HO_14.out); rintro e w98 ⟨rfl, hy0, hb, hkp⟩; refine ⟨_, rfl, ?_⟩; replace HO_10 := Aside0.mk (Kd.R_mono (ok' := fun k_ => some k_ ≠ (.slice Ao97 t440.length co97 : Value).ownBlock) (Kd.R_keptB (HO_10.out) hkp (fun k_ hk_ hs_ => (hk_) hs_)) (fun k_ hk_ => hk_.1)); replace HO_11 := Aside0.mk (Kd.R_mono (ok' := fun k_ => some k_ ≠ (v444 : Value).ownBlock) (Kd.R_keptB ((Kd.R_apart' HO_11.out (Kd.R_typed HO_14.out) (by decide))) hkp (fun k_ hk_ hs_ => (hk_.2) hs_)) (fun k_ hk_ => hk_.1.1)); replace HO_15 := Aside0.mk (Kd.R_mono (ok' := fun k_ => some k_ ≠ (v426 : Value).ownBlock) (Kd.R_keptB ((Kd.R_apart' HO_15.out (Kd.R_typed HO_14.out) (by decide))) hkp (fun k_ hk_ hs_ => (hk_.2) hs_)) (fun k_ hk_ => hk_.1.1)); replace BK407 := Aside0.mk (blk_kept (sqO BK407.out) hkp (fun hs_ => (fun e_ => (Kd.R_ne HO_14.out BK407.out (by decide)) e_) hs_)); replace BK408 := Aside0.mk (blk_kept (sqO BK408.out) hkp (fun hs_ => (fun e_ => (Kd.R_ne HO_14.out BK408.out (by decide)) e_) hs_)); replace BK409 := Aside0.mk (blk_kept (sqO BK409.out) hkp (fun hs_ => (fun e_ => (Kd.R_ne HO_14.out BK409.out (by decide)) e_) hs_)); replace HO_14 := Aside0.mk (Kd.R_reok rfl hy0 (fun k_ e_ => HO_14.out.1 k_ e_)); replace HB := Aside0.mk (hb); (try clear hb); (try clear hkp); (try clear hy0); obtain ⟨Ao99, co99, eo99⟩ := Kd.R_slice HO_15.out; subst eo99) | ((with_reducible refine gate_callee (f := 27) rfl ?_); refine goesL_ (some 102) rfl rfl Try.func27 (by kernel_rfl) rfl #[.slice Ao99 t443.length co99, .int .i64 t457] rfl (by (try simp only [List.map_toArray, List.map_cons, List.map_nil]); first | done | rfl | (simp only [List.length_drop, List.length_take]; rfl)) ?_; (with_reducible refine (laws_markInt64S.calls kj59 (fun k_ => some k_ = (.slice Ao99 t443.length co99 : Value).ownBlock) (.slice Ao99 t443.length co99) t443 t457 t459 t460 w _ ?side1 ?side2 A85.out).mono ?_); (case side1 => repeat (first | (with_reducible first | exact HB.out | apply below_alloc | apply pw_below_drewN | apply below_drew1 | refine below_set ?_ GE407.out | refine below_set ?_ GE408.out | refine below_set ?_ GE409.out) | exact HB.out)); (case side2 => exact Kd.R_tight rfl HO_15.out); rintro e w100 ⟨rfl, hy0, hb, hkp⟩; refine ⟨_, rfl, ?_⟩; replace HO_10 := Aside0.mk (Kd.R_mono (ok' := fun k_ => some k_ ≠ (.slice Ao97 t440.length co97 : Value).ownBlock) (Kd.R_keptB ((Kd.R_apart' HO_10.out (Kd.R_typed HO_15.out) (by decide))) hkp (fun k_ hk_ hs_ => (hk_.2) hs_)) (fun k_ hk_ => hk_.1.1)); replace HO_11 := Aside0.mk (Kd.R_mono (ok' := fun k_ => some k_ ≠ (.slice Ao99 t443.length co99 : Value).ownBlock) (Kd.R_keptB (HO_11.out) hkp (fun k_ hk_ hs_ => (hk_) hs_)) (fun k_ hk_ => hk_.1)); replace HO_14 := Aside0.mk (Kd.R_mono (ok' := fun k_ => some k_ ≠ (v423 : Value).ownBlock) (Kd.R_keptB ((Kd.R_apart' HO_14.out (Kd.R_typed HO_15.out) (by decide))) hkp (fun k_ hk_ hs_ => (hk_.2) hs_)) (fun k_ hk_ => hk_.1.1)); replace BK407 := Aside0.mk (blk_kept (sqO BK407.out) hkp (fun hs_ => (fun e_ => (Kd.R_ne HO_15.out BK407.out (by decide)) e_) hs_)); replace BK408 := Aside0.mk (blk_kept (sqO BK408.out) hkp (fun hs_ => (fun e_ => (Kd.R_ne HO_15.out BK408.out (by decide)) e_) hs_)); replace BK409 := Aside0.mk (blk_kept (sqO BK409.out) hkp (fun hs_ => (fun e_ => (Kd.R_ne HO_15.out BK409.out (by decide)) e_) hs_)); replace HO_15 := Aside0.mk (Kd.R_reok rfl hy0 (fun k_ e_ => HO_15.out.1 k_ e_)); replace HB := Aside0.mk (hb); (try clear hb); (try clear hkp); (try clear hy0)) | ((with_reducible refine gate_callee (f := 19) rfl ?_); refine goesL_ (some 105) rfl rfl Try.func19 (by kernel_rfl) rfl #[.slice Ao97 t458.length co97, .int .i64 1] rfl (by (try simp only [List.map_toArray, List.map_cons, List.map_nil]); first | done | (rw [show t458.length = t440.length from (Kd.R_reads' HO_14.out).1.symm] <;> rfl) | rfl | (simp only [List.length_drop, List.length_take]; rfl)) ?_; (with_reducible refine (laws_heldPlaceS.calls kj59 _ _ t458 1 t461 _ ?side1 ?side2 A86.out).mono ?_); (case side1 => repeat (first | exact (Kd.R_reads' HO_14.out).2.2 | (with_reducible refine Kd.C_alloc ?_ _) | (with_reducible refine Kd.C_drewN ?_ _) | (with_reducible refine Kd.C_drew ?_))); (case side2 => rw [show t458.length = t440.length from (Kd.R_reads' HO_14.out).1.symm]; exact (Kd.R_reads' HO_14.out).2.1); rintro e w' ⟨rfl, ⟨nd, rfl⟩⟩; refine ⟨_, rfl, ?_⟩) | ((with_reducible refine gate_callee (f := 28) rfl ?_); refine goesL_ (some 110) rfl rfl Try.func28 (by kernel_rfl) rfl #[.slice Ao99 t460.length co99, .int .i64 t461] rfl (by (try simp only [List.map_toArray, List.map_cons, List.map_nil]); first | done | (rw [show t460.length = t443.length from (Kd.R_reads' HO_15.out).1.symm] <;> rfl) | rfl | (simp only [List.length_drop, List.length_take]; rfl)) ?_; (with_reducible refine (laws_heldInt64S.calls kj59 _ _ t460 t461 t462 _ ?side1 ?side2 A88.out).mono ?_); (case side1 => repeat (first | exact (Kd.R_reads' HO_15.out).2.2 | (with_reducible refine Kd.C_alloc ?_ _) | (with_reducible refine Kd.C_drewN ?_ _) | (with_reducible refine Kd.C_drew ?_))); (case side2 => rw [show t460.length = t443.length from (Kd.R_reads' HO_15.out).1.symm]; exact (Kd.R_reads' HO_15.out).2.1); rintro e w' ⟨rfl, ⟨nd, rfl⟩⟩; refine ⟨_, rfl, ?_⟩))
            (try (rw [drewN_self w100]; generalize hq_ : World.drewN w100 _ = w100; have n0_ : Aside0 (Kd.R k42 42 w100 w.heap.size (fun k_ => some k_ ≠ (.slice Ao97 t440.length co97 : Value).ownBlock) v423 t422) := ⟨by rw [← hq_]; exact (by (with_reducible repeat (first | apply Kd.R_alloc | apply Kd.R_drewN | apply Kd.R_drew)); exact HO_10.out)⟩; have n1_ : Aside0 (Kd.R (Kd.int .i64) 2 w100 w.heap.size (fun k_ => some k_ ≠ (.slice Ao99 t443.length co99 : Value).ownBlock) v426 t425) := ⟨by rw [← hq_]; exact (by (with_reducible repeat (first | apply Kd.R_alloc | apply Kd.R_drewN | apply Kd.R_drew)); exact HO_11.out)⟩; have n2_ : Aside0 (Kd.R k42 42 w100 w.heap.size (fun k_ => some k_ ≠ (v423 : Value).ownBlock) (.slice Ao97 t440.length co97) t458) := ⟨by rw [← hq_]; exact (by (with_reducible repeat (first | apply Kd.R_alloc | apply Kd.R_drewN | apply Kd.R_drew)); exact HO_14.out)⟩; have n3_ : Aside0 (Kd.R (Kd.int .i64) 2 w100 w.heap.size (fun k_ => some k_ ≠ (v426 : Value).ownBlock) (.slice Ao99 t443.length co99) t460) := ⟨by rw [← hq_]; exact (by (with_reducible repeat (first | apply Kd.R_alloc | apply Kd.R_drewN | apply Kd.R_drew)); exact HO_15.out)⟩; have n4_ : Aside0 (w100.heap[gb407]? = some (.cells (a0).A 26 (0, 0))) := ⟨by rw [← hq_]; exact (sqO BK407.out)⟩; have n5_ : Aside0 (w100.heap[gb408]? = some (.cells (a1).A 28 (0, 0))) := ⟨by rw [← hq_]; exact (sqO BK408.out)⟩; have n6_ : Aside0 (w100.heap[gb409]? = some (.cells #[.int .i8 a2_0, .int .i8 a2_1, .int .i8 a2_2, .int .i8 a2_3, .int .i8 a2_4, .int .i8 a2_5] 32 (0, 0))) := ⟨by rw [← hq_]; exact (sqO BK409.out)⟩; have n7_ : Aside0 (Below w.heap.size w w100) := ⟨by rw [← hq_]; exact (sqI HB.out)⟩; clear HO_10 HO_11 HO_14 HO_15 BK407 BK408 BK409 HB hq_; have HO_10 := n0_; have HO_11 := n1_; have HO_14 := n2_; have HO_15 := n3_; have BK407 := n4_; have BK408 := n5_; have BK409 := n6_; have HB := n7_; clear n0_ n1_ n2_ n3_ n4_ n5_ n6_ n7_))
            replace HO_10 := Aside0.mk (Kd.R_drew HO_10.out)
            replace HO_11 := Aside0.mk (Kd.R_drew HO_11.out)
            replace HO_14 := Aside0.mk (Kd.R_drew HO_14.out)
            replace HO_15 := Aside0.mk (Kd.R_drew HO_15.out)
            replace BK407 := Aside0.mk (blk_drew BK407.out)
            replace BK408 := Aside0.mk (blk_drew BK408.out)
            replace BK409 := Aside0.mk (blk_drew BK409.out)
            replace HB := Aside0.mk (below_drew1 HB.out)
            refine start_ (n := 16) (S := fun w' => w'.heap[gb407]? = some (.cells (a0).A 26 (0, 0)) ∧ w'.heap[gb408]? = some (.cells (a1).A 28 (0, 0)) ∧ w'.cell? ⟨gb409, 0, none⟩ = some (.int .i8 a2_0) ∧ w'.cell? ⟨gb409, 1, none⟩ = some (.int .i8 a2_1) ∧ w'.cell? ⟨gb409, 2, none⟩ = some (.int .i8 a2_2) ∧ w'.cell? ⟨gb409, 3, none⟩ = some (.int .i8 a2_3) ∧ w'.cell? ⟨gb409, 4, none⟩ = some (.int .i8 a2_4) ∧ w'.cell? ⟨gb409, 5, none⟩ = some (.int .i8 a2_5)) (ds := []) #[false, false, false, false, false, false, false, false, false, false, false, false, false, false, false, false] (by kernel_rfl) rfl rfl ⟨BK407.out, BK408.out, (blk_cell BK409.out 0).trans rfl, (blk_cell BK409.out 1).trans rfl, (blk_cell BK409.out 2).trans rfl, (blk_cell BK409.out 3).trans rfl, (blk_cell BK409.out 4).trans rfl, (blk_cell BK409.out 5).trans rfl⟩ (fun hHeld => ?_); refine with_tabW laws_FnExactHoursAtEach.tab28 laws_FnExactHoursAtEach.bits28 (fun HT_ HW_ => ?_)
            generalize w100.drew = w101 at HO_10 HO_11 HO_14 HO_15 BK407 BK408 BK409 HB hHeld ⊢
            refine pure_ (i := 6) (N := some 123) (v := ?_) (a' := ?_) #[false, false, false, false, false, false, true, false, false, false, false, false, false, false, false, false] rfl rfl (any_of HT_.out (by kernel_rfl)) (fun _ _ _ h => h) (Or.inl ⟨by rfl, ?_⟩) ?_ ?_
            rotate_left
            ·intro w'
             go_simp
             with_reducible rfl
            rotate_left
            ·simp only [Act.put, List.setIfInBounds_toArray, List.set_cons_zero, List.set_cons_succ, i64_w, i32_w]
             rfl
            refine take_ (i := 0) (N := some 117) (v := ?_) (a' := ?_) #[true, false, false, false, false, false, true, false, false, false, false, false, false, false, false, false] rfl rfl (take_ofW HT_.out HW_.out (by kernel_rfl)) (fun _ _ _ h => h) (Or.inl ⟨by rfl, ?_⟩) hHeld ?_ ?_
            rotate_left
            ·rintro w' ⟨s0, s1, s2, s3, s4, s5, s6, s7⟩
             skip
             first | (refine Eq.trans (AR.exec_load_blk rfl rfl s0 Try.underlying26 rfl (szO26 _)) ?_; with_reducible rfl) | (refine Eq.trans (AR.exec_load_blk rfl rfl s1 Try.underlying28 rfl (szO28 _)) ?_; with_reducible rfl) | (go_simp; with_reducible rfl)
            rotate_left
            ·simp only [Act.put, List.setIfInBounds_toArray, List.set_cons_zero, List.set_cons_succ, i64_w, i32_w]
             rfl
            refine take_ (i := 2) (N := some 119) (v := ?_) (a' := ?_) #[true, false, true, false, false, false, true, false, false, false, false, false, false, false, false, false] rfl rfl (take_ofW HT_.out HW_.out (by kernel_rfl)) (fun _ _ _ h => h) (Or.inl ⟨by rfl, ?_⟩) hHeld ?_ ?_
            rotate_left
            ·rintro w' ⟨s0, s1, s2, s3, s4, s5, s6, s7⟩
             skip
             first | (refine Eq.trans (AR.exec_load_blk rfl rfl s0 Try.underlying26 rfl (szO26 _)) ?_; with_reducible rfl) | (refine Eq.trans (AR.exec_load_blk rfl rfl s1 Try.underlying28 rfl (szO28 _)) ?_; with_reducible rfl) | (go_simp; with_reducible rfl)
            rotate_left
            ·simp only [Act.put, List.setIfInBounds_toArray, List.set_cons_zero, List.set_cons_succ, i64_w, i32_w]
             rfl
            refine take_ (i := 4) (N := some 121) (v := ?_) (a' := ?_) #[true, false, true, false, true, false, true, false, false, false, false, false, false, false, false, false] rfl rfl (take_ofW HT_.out HW_.out (by kernel_rfl)) (fun _ _ _ h => h) (Or.inl ⟨by rfl, ?_⟩) hHeld ?_ ?_
            rotate_left
            ·rintro w' ⟨s0, s1, s2, s3, s4, s5, s6, s7⟩
             skip
             first | (refine Eq.trans (AR.exec_load_blk rfl rfl s0 Try.underlying26 rfl (szO26 _)) ?_; with_reducible rfl) | (refine Eq.trans (AR.exec_load_blk rfl rfl s1 Try.underlying28 rfl (szO28 _)) ?_; with_reducible rfl) | (go_simp; with_reducible rfl)
            rotate_left
            ·simp only [Act.put, List.setIfInBounds_toArray, List.set_cons_zero, List.set_cons_succ, i64_w, i32_w]
             rfl
            refine one_ (i := 1) (N := some 118) #[true, true, true, false, true, false, true, false, false, false, false, false, false, false, false, false] rfl rfl (one_of HT_.out (by kernel_rfl)) (by decide) (fun K hK => ?_)
            refine goes_ Try.func10 (by kernel_rfl) rfl #[VO26 a0] (by rfl) rfl rfl (by (try simp only [List.map_toArray, List.map_cons, List.map_nil]); first | done | rfl | (simp only [List.length_drop, List.length_take]; rfl)) ?_
            with_reducible refine (laws_toBay.calls a0 t463 _ A91.out).mono ?_
            rintro e w102 ⟨rfl, hb⟩
            refine ⟨_, rfl, ?_⟩
            replace HO_10 := Aside0.mk (sqR HO_10.out hb)
            replace HO_11 := Aside0.mk (sqR HO_11.out hb)
            replace HO_14 := Aside0.mk (sqR HO_14.out hb)
            replace HO_15 := Aside0.mk (sqR HO_15.out hb)
            replace BK407 := Aside0.mk (sqB BK407.out hb)
            replace BK408 := Aside0.mk (sqB BK408.out hb)
            replace BK409 := Aside0.mk (sqB BK409.out hb)
            replace HB := Aside0.mk (sqH HB.out hb)
            (try clear hb)
            (try clear hb2)
            (try clear hk)
            (try clear hi)
            refine hK.out _ _ ⟨BK407.out, BK408.out, (blk_cell BK409.out 0).trans rfl, (blk_cell BK409.out 1).trans rfl, (blk_cell BK409.out 2).trans rfl, (blk_cell BK409.out 3).trans rfl, (blk_cell BK409.out 4).trans rfl, (blk_cell BK409.out 5).trans rfl⟩ (fun hHeld => ?_)
            clear hK K
            refine norm_ (a' := ?_) ?_ ?_
            rotate_left
            ·show Act.put _ (some 118) _ = _
             simp only [Act.put, List.setIfInBounds_toArray, List.set_cons_zero, List.set_cons_succ, i64_w, i32_w]
             rfl
            refine one_ (i := 3) (N := some 120) #[true, true, true, true, true, false, true, false, false, false, false, false, false, false, false, false] rfl rfl (one_of HT_.out (by kernel_rfl)) (by decide) (fun K hK => ?_)
            refine goes_ Try.func11 (by kernel_rfl) rfl #[VO28 a1] (by rfl) rfl rfl (by (try simp only [List.map_toArray, List.map_cons, List.map_nil]); first | done | rfl | (simp only [List.length_drop, List.length_take]; rfl)) ?_
            with_reducible refine (laws_toGrounds.calls a1 t464 _ A92.out).mono ?_
            rintro e w103 ⟨rfl, hb⟩
            refine ⟨_, rfl, ?_⟩
            replace HO_10 := Aside0.mk (sqR HO_10.out hb)
            replace HO_11 := Aside0.mk (sqR HO_11.out hb)
            replace HO_14 := Aside0.mk (sqR HO_14.out hb)
            replace HO_15 := Aside0.mk (sqR HO_15.out hb)
            replace BK407 := Aside0.mk (sqB BK407.out hb)
            replace BK408 := Aside0.mk (sqB BK408.out hb)
            replace BK409 := Aside0.mk (sqB BK409.out hb)
            replace HB := Aside0.mk (sqH HB.out hb)
            (try clear hb)
            (try clear hb2)
            (try clear hk)
            (try clear hi)
            refine hK.out _ _ ⟨BK407.out, BK408.out, (blk_cell BK409.out 0).trans rfl, (blk_cell BK409.out 1).trans rfl, (blk_cell BK409.out 2).trans rfl, (blk_cell BK409.out 3).trans rfl, (blk_cell BK409.out 4).trans rfl, (blk_cell BK409.out 5).trans rfl⟩ (fun hHeld => ?_)
            clear hK K
            refine norm_ (a' := ?_) ?_ ?_
            rotate_left
            ·show Act.put _ (some 120) _ = _
             simp only [Act.put, List.setIfInBounds_toArray, List.set_cons_zero, List.set_cons_succ, i64_w, i32_w]
             rfl
            refine one_ (i := 5) (N := some 122) #[true, true, true, true, true, true, true, false, false, false, false, false, false, false, false, false] rfl rfl (one_of HT_.out (by kernel_rfl)) (by decide) (fun K hK => ?_)
            refine goes_ Try.func12 (by kernel_rfl) rfl #[.agg #[.int .i8 a2_0, .int .i8 a2_1, .int .i8 a2_2, .int .i8 a2_3, .int .i8 a2_4, .int .i8 a2_5]] (by rfl) rfl rfl (by (try simp only [List.map_toArray, List.map_cons, List.map_nil]); first | done | rfl | (simp only [List.length_drop, List.length_take]; rfl)) ?_
            with_reducible refine (laws_toBoat.calls a2_0 a2_1 a2_2 a2_3 a2_4 a2_5 t465 t466 t467 t468 t469 t470 _ A93.out).mono ?_
            rintro e w104 ⟨rfl, hb⟩
            refine ⟨_, rfl, ?_⟩
            replace HO_10 := Aside0.mk (sqR HO_10.out hb)
            replace HO_11 := Aside0.mk (sqR HO_11.out hb)
            replace HO_14 := Aside0.mk (sqR HO_14.out hb)
            replace HO_15 := Aside0.mk (sqR HO_15.out hb)
            replace BK407 := Aside0.mk (sqB BK407.out hb)
            replace BK408 := Aside0.mk (sqB BK408.out hb)
            replace BK409 := Aside0.mk (sqB BK409.out hb)
            replace HB := Aside0.mk (sqH HB.out hb)
            (try clear hb)
            (try clear hb2)
            (try clear hk)
            (try clear hi)
            refine hK.out _ _ ⟨BK407.out, BK408.out, (blk_cell BK409.out 0).trans rfl, (blk_cell BK409.out 1).trans rfl, (blk_cell BK409.out 2).trans rfl, (blk_cell BK409.out 3).trans rfl, (blk_cell BK409.out 4).trans rfl, (blk_cell BK409.out 5).trans rfl⟩ (fun hHeld => ?_)
            clear hK K
            refine norm_ (a' := ?_) ?_ ?_
            rotate_left
            ·show Act.put _ (some 122) _ = _
             simp only [Act.put, List.setIfInBounds_toArray, List.set_cons_zero, List.set_cons_succ, i64_w, i32_w]
             rfl
            refine one_ (i := 7) (N := some 124) #[true, true, true, true, true, true, true, true, false, false, false, false, false, false, false, false] rfl rfl (one_of HT_.out (by kernel_rfl)) (by decide) (fun K hK => ?_)
            refine goes_ Try.func13 (by kernel_rfl) rfl #[.slice A3 l3.length c3] (by rfl) rfl rfl (by (try simp only [List.map_toArray, List.map_cons, List.map_nil]); first | done | rfl | (simp only [List.length_drop, List.length_take]; rfl)) ?_
            with_reducible refine (laws_toWindS.calls kj59 _ _ l3 t471 _ ?side1 ?side2 A94.out).mono ?_
            (case side1 => repeat (first | exact (Kd.C_below HR3.out HB.out) | (with_reducible refine Kd.C_alloc ?_ _) | (with_reducible refine Kd.C_drewN ?_ _) | (with_reducible refine Kd.C_drew ?_)))
            (case side2 => exact HC3.out)
            rintro e w105 ⟨v472, rfl, ho0, hb⟩
            refine ⟨_, rfl, ?_⟩
            replace HO_10 := Aside0.mk (sqR HO_10.out hb)
            replace HO_11 := Aside0.mk (sqR HO_11.out hb)
            replace HO_14 := Aside0.mk (sqR HO_14.out hb)
            replace HO_15 := Aside0.mk (sqR HO_15.out hb)
            have HO473 := Aside0.mk (Kd.R_lower ho0 (sqW HB.out))
            replace BK407 := Aside0.mk (sqB BK407.out hb)
            replace BK408 := Aside0.mk (sqB BK408.out hb)
            replace BK409 := Aside0.mk (sqB BK409.out hb)
            replace HB := Aside0.mk (sqH HB.out hb)
            (try clear hb)
            (try clear hb2)
            (try clear hk)
            (try clear hi)
            (try clear ho0)
            obtain ⟨Ao106, co106, eo106⟩ := Kd.R_slice HO473.out
            (first | subst eo106 | (injection eo106 with f1_ f2_ f3_; have f4_ := f1_.symm; have f5_ := f3_.symm; clear f1_ f2_ f3_; subst f4_; subst f5_))
            refine hK.out _ _ ⟨BK407.out, BK408.out, (blk_cell BK409.out 0).trans rfl, (blk_cell BK409.out 1).trans rfl, (blk_cell BK409.out 2).trans rfl, (blk_cell BK409.out 3).trans rfl, (blk_cell BK409.out 4).trans rfl, (blk_cell BK409.out 5).trans rfl⟩ (fun hHeld => ?_)
            clear hK K
            refine norm_ (a' := ?_) ?_ ?_
            rotate_left
            ·show Act.put _ (some 124) _ = _
             simp only [Act.put, List.setIfInBounds_toArray, List.set_cons_zero, List.set_cons_succ, i64_w, i32_w]
             rfl
            refine one_ (i := 8) (N := some 125) #[true, true, true, true, true, true, true, true, true, false, false, false, false, false, false, false] rfl rfl (one_of HT_.out (by kernel_rfl)) (by decide) (fun K hK => ?_)
            refine goes_ Try.func25 (by kernel_rfl) rfl #[VO38 t463, VO40 t464, .agg #[.int .i8 t465, .int .i8 t466, .int .i8 t467, .int .i8 t468, .int .i8 t469, .int .i8 t470], .slice Ao106 t471.length co106] (by rfl) rfl rfl (by (try simp only [List.map_toArray, List.map_cons, List.map_nil]); first | done | rfl | (simp only [List.length_drop, List.length_take]; rfl)) ?_
            with_reducible refine (impl_HoursAtEach.calls kj59 t463 t464 t465 t466 t467 t468 t469 t470 _ _ t471 t474 t477 t480 _ ?side1 ?side2 A95.out).mono ?_
            (case side1 => repeat (first | exact (Kd.R_reads' HO473.out).2.2 | (with_reducible refine Kd.C_alloc ?_ _) | (with_reducible refine Kd.C_drewN ?_ _) | (with_reducible refine Kd.C_drew ?_)))
            (case side2 => exact (Kd.R_reads' HO473.out).2.1)
            rintro e w107 ⟨v475, v478, rfl, ho0, ho1, hb⟩
            refine ⟨_, rfl, ?_⟩
            replace HO473 := Aside0.mk (sqR HO473.out hb)
            have HO476 := Aside0.mk (Kd.R_lower (Kd.R_new' (Kd.R_new' ho0 (Kd.R_lt (by (with_reducible repeat (first | apply Kd.R_alloc | apply Kd.R_drewN | apply Kd.R_drew)); exact HO_10.out))) (Kd.R_lt (by (with_reducible repeat (first | apply Kd.R_alloc | apply Kd.R_drewN | apply Kd.R_drew)); exact HO_14.out))) (sqW HB.out))
            replace HO_10 := Aside0.mk (Kd.R_elder' (by (with_reducible repeat (first | apply Kd.R_alloc | apply Kd.R_drewN | apply Kd.R_drew)); exact HO_10.out) (Kd.R_base ho0) hb)
            replace HO_14 := Aside0.mk (Kd.R_elder' (by (with_reducible repeat (first | apply Kd.R_alloc | apply Kd.R_drewN | apply Kd.R_drew)); exact HO_14.out) (Kd.R_base ho0) hb)
            have HO479 := Aside0.mk (Kd.R_lower (Kd.R_new' (Kd.R_new' ho1 (Kd.R_lt (by (with_reducible repeat (first | apply Kd.R_alloc | apply Kd.R_drewN | apply Kd.R_drew)); exact HO_11.out))) (Kd.R_lt (by (with_reducible repeat (first | apply Kd.R_alloc | apply Kd.R_drewN | apply Kd.R_drew)); exact HO_15.out))) (sqW HB.out))
            replace HO_11 := Aside0.mk (Kd.R_elder' (by (with_reducible repeat (first | apply Kd.R_alloc | apply Kd.R_drewN | apply Kd.R_drew)); exact HO_11.out) (Kd.R_base ho1) hb)
            replace HO_15 := Aside0.mk (Kd.R_elder' (by (with_reducible repeat (first | apply Kd.R_alloc | apply Kd.R_drewN | apply Kd.R_drew)); exact HO_15.out) (Kd.R_base ho1) hb)
            replace BK407 := Aside0.mk (sqB BK407.out hb)
            replace BK408 := Aside0.mk (sqB BK408.out hb)
            replace BK409 := Aside0.mk (sqB BK409.out hb)
            replace HB := Aside0.mk (sqH HB.out hb)
            (try clear hb)
            (try clear hb2)
            (try clear hk)
            (try clear hi)
            (try clear ho0)
            (try clear ho1)
            refine hK.out _ _ ⟨BK407.out, BK408.out, (blk_cell BK409.out 0).trans rfl, (blk_cell BK409.out 1).trans rfl, (blk_cell BK409.out 2).trans rfl, (blk_cell BK409.out 3).trans rfl, (blk_cell BK409.out 4).trans rfl, (blk_cell BK409.out 5).trans rfl⟩ (fun hHeld => ?_)
            clear hK K
            refine norm_ (a' := ?_) ?_ ?_
            rotate_left
            ·show Act.put _ (some 125) _ = _
             simp only [Act.put, List.setIfInBounds_toArray, List.set_cons_zero, List.set_cons_succ, i64_w, i32_w]
             rfl
            refine pure_ (i := 9) (N := some 116) (v := ?_) (a' := ?_) #[true, true, true, true, true, true, true, true, true, true, false, false, false, false, false, false] rfl rfl (any_of HT_.out (by kernel_rfl)) (fun _ _ _ h => h) (Or.inl ⟨by rfl, ?_⟩) ?_ ?_
            rotate_left
            ·intro w'
             go_simp
             with_reducible rfl
            rotate_left
            ·simp only [Act.put, List.setIfInBounds_toArray, List.set_cons_zero, List.set_cons_succ, i64_w, i32_w]
             rfl
            refine pure_ (i := 10) (N := some 126) (v := ?_) (a' := ?_) #[true, true, true, true, true, true, true, true, true, true, true, false, false, false, false, false] rfl rfl (any_of HT_.out (by kernel_rfl)) (fun _ _ _ h => h) (Or.inl ⟨by rfl, ?_⟩) ?_ ?_
            rotate_left
            ·intro w'
             go_simp
             with_reducible rfl
            rotate_left
            ·simp only [Act.put, List.setIfInBounds_toArray, List.set_cons_zero, List.set_cons_succ, i64_w, i32_w]
             rfl
            refine pure_ (i := 11) (N := some 127) (v := ?_) (a' := ?_) #[true, true, true, true, true, true, true, true, true, true, true, true, false, false, false, false] rfl rfl (any_of HT_.out (by kernel_rfl)) (fun _ _ _ h => h) (Or.inl ⟨by rfl, ?_⟩) ?_ ?_
            rotate_left
            ·intro w'
             go_simp
             with_reducible rfl
            rotate_left
            ·simp only [Act.put, List.setIfInBounds_toArray, List.set_cons_zero, List.set_cons_succ, i64_w, i32_w]
             rfl
            refine pure_ (i := 12) (N := some 128) (v := ?_) (a' := ?_) #[true, true, true, true, true, true, true, true, true, true, true, true, true, false, false, false] rfl rfl (any_of HT_.out (by kernel_rfl)) (fun _ _ _ h => h) (Or.inl ⟨by rfl, ?_⟩) ?_ ?_
            rotate_left
            ·intro w'
             go_simp
             with_reducible rfl
            rotate_left
            ·simp only [Act.put, List.setIfInBounds_toArray, List.set_cons_zero, List.set_cons_succ, i64_w, i32_w]
             rfl
            refine pure_ (i := 13) (N := some 20) (v := ?_) (a' := ?_) #[true, true, true, true, true, true, true, true, true, true, true, true, true, true, false, false] rfl rfl (any_of HT_.out (by kernel_rfl)) (fun _ _ _ h => h) (Or.inl ⟨by rfl, ?_⟩) ?_ ?_
            rotate_left
            ·intro w'
             go_simp
             with_reducible rfl
            rotate_left
            ·simp only [Act.put, List.setIfInBounds_toArray, List.set_cons_zero, List.set_cons_succ, i64_w, i32_w]
             rfl
            refine pure_ (i := 14) (N := some 21) (v := ?_) (a' := ?_) #[true, true, true, true, true, true, true, true, true, true, true, true, true, true, true, false] rfl rfl (any_of HT_.out (by kernel_rfl)) (fun _ _ _ h => h) (Or.inl ⟨by rfl, ?_⟩) ?_ ?_
            rotate_left
            ·intro w'
             go_simp
             with_reducible rfl
            rotate_left
            ·simp only [Act.put, List.setIfInBounds_toArray, List.set_cons_zero, List.set_cons_succ, i64_w, i32_w]
             rfl
            refine pure_ (i := 15) (N := some 22) (v := ?_) (a' := ?_) #[true, true, true, true, true, true, true, true, true, true, true, true, true, true, true, true] rfl rfl (any_of HT_.out (by kernel_rfl)) (fun _ _ _ h => h) (Or.inl ⟨by rfl, ?_⟩) ?_ ?_
            rotate_left
            ·intro w'
             go_simp
             with_reducible rfl
            rotate_left
            ·simp only [Act.put, List.setIfInBounds_toArray, List.set_cons_zero, List.set_cons_succ, i64_w, i32_w]
             rfl
            refine done_ (done_of HT_.out (by kernel_rfl)) ?_
            go_upto_region 29 with (fail)
            go_cut [143] (fun v143 wc => ∃ (kq : Nat) (x143_95 : Bool), v143 = .bool x143_95 ∧ Aside0 (laws_FnExactHoursAtEach.j2 kq t458 t460 t459 x143_95 = some r) ∧ Aside0 (kq ≤ kj59) ∧ Aside0 (Kd.R k42 42 wc w.heap.size (fun _ => True) (.slice Ao97 t440.length co97) t458) ∧ Aside0 (Kd.R (Kd.int .i64) 2 wc w.heap.size (fun _ => True) (.slice Ao99 t443.length co99) t460) ∧ Aside0 (wc.heap[gb407]? = some (.cells (a0).A 26 (0, 0))) ∧ Aside0 (wc.heap[gb408]? = some (.cells (a1).A 28 (0, 0))) ∧ Aside0 (wc.heap[gb409]? = some (.cells #[.int .i8 a2_0, .int .i8 a2_1, .int .i8 a2_2, .int .i8 a2_3, .int .i8 a2_4, .int .i8 a2_5] 32 (0, 0))) ∧ Aside0 (Below w.heap.size w wc))
            case first =>
             have H := HC96.out
             clear HC96
             replace H := Option.bind_eq_some_iff.mp H
             obtain ⟨t481, A1080, H⟩ := H
             replace H : (if t481 = true then ((laws_eqInt64S.f kj59 t477 t425).bind fun t482 => (if t482 = true then (laws_FnExactHoursAtEach.j2 kj59 t458 t460 t459 (t480 != t428)) else (laws_FnExactHoursAtEach.j2 kj59 t458 t460 t459 true))) else (laws_FnExactHoursAtEach.j2 kj59 t458 t460 t459 true)) = some r := H
             have A108 := Aside0.mk A1080
             clear A1080
             by_cases c109 : t481 = true
             ·subst c109
              have H1 : ((laws_eqInt64S.f kj59 t477 t425).bind fun t482 => (if t482 = true then (laws_FnExactHoursAtEach.j2 kj59 t458 t460 t459 (t480 != t428)) else (laws_FnExactHoursAtEach.j2 kj59 t458 t460 t459 true))) = some r := by rw [if_pos rfl] at H; exact H
              clear H
              have H := H1
              clear H1
              replace H := Option.bind_eq_some_iff.mp H
              obtain ⟨t482, A1100, H⟩ := H
              replace H : (if t482 = true then (laws_FnExactHoursAtEach.j2 kj59 t458 t460 t459 (t480 != t428)) else (laws_FnExactHoursAtEach.j2 kj59 t458 t460 t459 true)) = some r := H
              have A110 := Aside0.mk A1100
              clear A1100
              by_cases c111 : t482 = true
              ·subst c111
               have H1 : (laws_FnExactHoursAtEach.j2 kj59 t458 t460 t459 (t480 != t428)) = some r := by rw [if_pos rfl] at H; exact H
               clear H
               have H := H1
               clear H1
               have H' := Aside0.mk H
               clear H
               obtain ⟨Ao112, co112, eo112⟩ := Kd.R_slice HO476.out
               subst eo112
               obtain ⟨Ao113, co113, eo113⟩ := Kd.R_slice HO_10.out
               subst eo113
               go_wp2_with (first | ((with_reducible refine gate_callee (f := 15) rfl ?_); refine goesL_ (some 131) rfl rfl Try.func15 (by kernel_rfl) rfl #[.slice Ao112 t474.length co112, .slice Ao113 t422.length co113] rfl (by (try simp only [List.map_toArray, List.map_cons, List.map_nil]); first | done | rfl | (simp only [List.length_drop, List.length_take]; rfl)) ?_; (with_reducible refine (laws_eqPlaceS.calls kj59 _ _ t474 _ _ t422 true _ ?side1 ?side2 ?side3 ?side4 A108.out).mono ?_); (case side1 => repeat (first | exact (Kd.R_reads' HO476.out).2.2 | (with_reducible refine Kd.C_alloc ?_ _) | (with_reducible refine Kd.C_drewN ?_ _) | (with_reducible refine Kd.C_drew ?_))); (case side2 => exact (Kd.R_reads' HO476.out).2.1); (case side3 => repeat (first | exact (Kd.R_reads' HO_10.out).2.2 | (with_reducible refine Kd.C_alloc ?_ _) | (with_reducible refine Kd.C_drewN ?_ _) | (with_reducible refine Kd.C_drew ?_))); (case side4 => exact (Kd.R_reads' HO_10.out).2.1); rintro e w114 ⟨rfl, hb⟩; refine ⟨_, rfl, ?_⟩; replace HO_10 := Aside0.mk (sqR HO_10.out hb); replace HO_11 := Aside0.mk (sqR HO_11.out hb); replace HO_14 := Aside0.mk (sqR HO_14.out hb); replace HO_15 := Aside0.mk (sqR HO_15.out hb); replace HO473 := Aside0.mk (sqR HO473.out hb); replace HO476 := Aside0.mk (sqR HO476.out hb); replace HO479 := Aside0.mk (sqR HO479.out hb); replace BK407 := Aside0.mk (sqB BK407.out hb); replace BK408 := Aside0.mk (sqB BK408.out hb); replace BK409 := Aside0.mk (sqB BK409.out hb); replace HB := Aside0.mk (sqH HB.out hb); (try clear hb); (try clear hb2); (try clear hk); (try clear hi); obtain ⟨Ao115, co115, eo115⟩ := Kd.R_slice HO479.out; subst eo115; obtain ⟨Ao116, co116, eo116⟩ := Kd.R_slice HO_11.out; subst eo116) | (go_at_call 26; (with_reducible refine (laws_eqInt64S.calls kj59 _ _ t477 _ _ t425 true _ ?side1 ?side2 ?side3 ?side4 A110.out).mono ?_); (case side1 => repeat (first | exact (Kd.R_reads' HO479.out).2.2 | (with_reducible refine Kd.C_alloc ?_ _) | (with_reducible refine Kd.C_drewN ?_ _) | (with_reducible refine Kd.C_drew ?_))); (case side2 => exact (Kd.R_reads' HO479.out).2.1); (case side3 => repeat (first | exact (Kd.R_reads' HO_11.out).2.2 | (with_reducible refine Kd.C_alloc ?_ _) | (with_reducible refine Kd.C_drewN ?_ _) | (with_reducible refine Kd.C_drew ?_))); (case side4 => exact (Kd.R_reads' HO_11.out).2.1); rintro e w' ⟨rfl, ⟨nd, rfl⟩⟩))
               go_meet
               case rel => exact ⟨_, ((t480 != t428)), (by first | rfl | (simp; done) | (simp [*]; done)), H', ⟨by have := HJ19.out; have := HJ59.out; first | omega | exact Nat.le_refl _⟩, ⟨by (with_reducible repeat (first | apply Kd.R_alloc | apply Kd.R_drewN | apply Kd.R_drew)); exact Kd.R_mono HO_14.out (fun _ hk => trivial)⟩, ⟨by (with_reducible repeat (first | apply Kd.R_alloc | apply Kd.R_drewN | apply Kd.R_drew)); exact Kd.R_mono HO_15.out (fun _ hk => trivial)⟩, ⟨by (with_reducible repeat (first | refine blk_drewN ?_ _ | refine blk_drew ?_ | refine blk_alloc ?_ _)); exact BK407.out⟩, ⟨by (with_reducible repeat (first | refine blk_drewN ?_ _ | refine blk_drew ?_ | refine blk_alloc ?_ _)); exact BK408.out⟩, ⟨by (with_reducible repeat (first | refine blk_drewN ?_ _ | refine blk_drew ?_ | refine blk_alloc ?_ _)); exact BK409.out⟩, ⟨by repeat (first | (with_reducible first | exact HB.out | apply below_alloc | apply pw_below_drewN | apply below_drew1 | refine below_set ?_ GE407.out | refine below_set ?_ GE408.out | refine below_set ?_ GE409.out) | exact HB.out)⟩⟩
              ·replace c111 := Bool.eq_false_iff.mpr c111
               subst c111
               have H1 : (laws_FnExactHoursAtEach.j2 kj59 t458 t460 t459 true) = some r := by rw [if_neg (show ¬ (false = true) by decide)] at H; exact H
               clear H
               have H := H1
               clear H1
               have H' := Aside0.mk H
               clear H
               obtain ⟨Ao117, co117, eo117⟩ := Kd.R_slice HO476.out
               subst eo117
               obtain ⟨Ao118, co118, eo118⟩ := Kd.R_slice HO_10.out
               subst eo118
               go_wp2_with (first | ((with_reducible refine gate_callee (f := 15) rfl ?_); refine goesL_ (some 131) rfl rfl Try.func15 (by kernel_rfl) rfl #[.slice Ao117 t474.length co117, .slice Ao118 t422.length co118] rfl (by (try simp only [List.map_toArray, List.map_cons, List.map_nil]); first | done | rfl | (simp only [List.length_drop, List.length_take]; rfl)) ?_; (with_reducible refine (laws_eqPlaceS.calls kj59 _ _ t474 _ _ t422 true _ ?side1 ?side2 ?side3 ?side4 A108.out).mono ?_); (case side1 => repeat (first | exact (Kd.R_reads' HO476.out).2.2 | (with_reducible refine Kd.C_alloc ?_ _) | (with_reducible refine Kd.C_drewN ?_ _) | (with_reducible refine Kd.C_drew ?_))); (case side2 => exact (Kd.R_reads' HO476.out).2.1); (case side3 => repeat (first | exact (Kd.R_reads' HO_10.out).2.2 | (with_reducible refine Kd.C_alloc ?_ _) | (with_reducible refine Kd.C_drewN ?_ _) | (with_reducible refine Kd.C_drew ?_))); (case side4 => exact (Kd.R_reads' HO_10.out).2.1); rintro e w119 ⟨rfl, hb⟩; refine ⟨_, rfl, ?_⟩; replace HO_10 := Aside0.mk (sqR HO_10.out hb); replace HO_11 := Aside0.mk (sqR HO_11.out hb); replace HO_14 := Aside0.mk (sqR HO_14.out hb); replace HO_15 := Aside0.mk (sqR HO_15.out hb); replace HO473 := Aside0.mk (sqR HO473.out hb); replace HO476 := Aside0.mk (sqR HO476.out hb); replace HO479 := Aside0.mk (sqR HO479.out hb); replace BK407 := Aside0.mk (sqB BK407.out hb); replace BK408 := Aside0.mk (sqB BK408.out hb); replace BK409 := Aside0.mk (sqB BK409.out hb); replace HB := Aside0.mk (sqH HB.out hb); (try clear hb); (try clear hb2); (try clear hk); (try clear hi); obtain ⟨Ao120, co120, eo120⟩ := Kd.R_slice HO479.out; subst eo120; obtain ⟨Ao121, co121, eo121⟩ := Kd.R_slice HO_11.out; subst eo121) | (go_at_call 26; (with_reducible refine (laws_eqInt64S.calls kj59 _ _ t477 _ _ t425 false _ ?side1 ?side2 ?side3 ?side4 A110.out).mono ?_); (case side1 => repeat (first | exact (Kd.R_reads' HO479.out).2.2 | (with_reducible refine Kd.C_alloc ?_ _) | (with_reducible refine Kd.C_drewN ?_ _) | (with_reducible refine Kd.C_drew ?_))); (case side2 => exact (Kd.R_reads' HO479.out).2.1); (case side3 => repeat (first | exact (Kd.R_reads' HO_11.out).2.2 | (with_reducible refine Kd.C_alloc ?_ _) | (with_reducible refine Kd.C_drewN ?_ _) | (with_reducible refine Kd.C_drew ?_))); (case side4 => exact (Kd.R_reads' HO_11.out).2.1); rintro e w' ⟨rfl, ⟨nd, rfl⟩⟩))
               go_meet
               case rel => exact ⟨_, (true), (by first | rfl | (simp; done) | (simp [*]; done)), H', ⟨by have := HJ19.out; have := HJ59.out; first | omega | exact Nat.le_refl _⟩, ⟨by (with_reducible repeat (first | apply Kd.R_alloc | apply Kd.R_drewN | apply Kd.R_drew)); exact Kd.R_mono HO_14.out (fun _ hk => trivial)⟩, ⟨by (with_reducible repeat (first | apply Kd.R_alloc | apply Kd.R_drewN | apply Kd.R_drew)); exact Kd.R_mono HO_15.out (fun _ hk => trivial)⟩, ⟨by (with_reducible repeat (first | refine blk_drewN ?_ _ | refine blk_drew ?_ | refine blk_alloc ?_ _)); exact BK407.out⟩, ⟨by (with_reducible repeat (first | refine blk_drewN ?_ _ | refine blk_drew ?_ | refine blk_alloc ?_ _)); exact BK408.out⟩, ⟨by (with_reducible repeat (first | refine blk_drewN ?_ _ | refine blk_drew ?_ | refine blk_alloc ?_ _)); exact BK409.out⟩, ⟨by repeat (first | (with_reducible first | exact HB.out | apply below_alloc | apply pw_below_drewN | apply below_drew1 | refine below_set ?_ GE407.out | refine below_set ?_ GE408.out | refine below_set ?_ GE409.out) | exact HB.out)⟩⟩
             ·replace c109 := Bool.eq_false_iff.mpr c109
              subst c109
              have H1 : (laws_FnExactHoursAtEach.j2 kj59 t458 t460 t459 true) = some r := by rw [if_neg (show ¬ (false = true) by decide)] at H; exact H
              clear H
              have H := H1
              clear H1
              have H' := Aside0.mk H
              clear H
              obtain ⟨Ao122, co122, eo122⟩ := Kd.R_slice HO476.out
              subst eo122
              obtain ⟨Ao123, co123, eo123⟩ := Kd.R_slice HO_10.out
              subst eo123
              go_wp2_with (first | ((with_reducible refine gate_callee (f := 15) rfl ?_); refine goesL_ (some 131) rfl rfl Try.func15 (by kernel_rfl) rfl #[.slice Ao122 t474.length co122, .slice Ao123 t422.length co123] rfl (by (try simp only [List.map_toArray, List.map_cons, List.map_nil]); first | done | rfl | (simp only [List.length_drop, List.length_take]; rfl)) ?_; (with_reducible refine (laws_eqPlaceS.calls kj59 _ _ t474 _ _ t422 false _ ?side1 ?side2 ?side3 ?side4 A108.out).mono ?_); (case side1 => repeat (first | exact (Kd.R_reads' HO476.out).2.2 | (with_reducible refine Kd.C_alloc ?_ _) | (with_reducible refine Kd.C_drewN ?_ _) | (with_reducible refine Kd.C_drew ?_))); (case side2 => exact (Kd.R_reads' HO476.out).2.1); (case side3 => repeat (first | exact (Kd.R_reads' HO_10.out).2.2 | (with_reducible refine Kd.C_alloc ?_ _) | (with_reducible refine Kd.C_drewN ?_ _) | (with_reducible refine Kd.C_drew ?_))); (case side4 => exact (Kd.R_reads' HO_10.out).2.1); rintro e w124 ⟨rfl, hb⟩; refine ⟨_, rfl, ?_⟩; replace HO_10 := Aside0.mk (sqR HO_10.out hb); replace HO_11 := Aside0.mk (sqR HO_11.out hb); replace HO_14 := Aside0.mk (sqR HO_14.out hb); replace HO_15 := Aside0.mk (sqR HO_15.out hb); replace HO473 := Aside0.mk (sqR HO473.out hb); replace HO476 := Aside0.mk (sqR HO476.out hb); replace HO479 := Aside0.mk (sqR HO479.out hb); replace BK407 := Aside0.mk (sqB BK407.out hb); replace BK408 := Aside0.mk (sqB BK408.out hb); replace BK409 := Aside0.mk (sqB BK409.out hb); replace HB := Aside0.mk (sqH HB.out hb); (try clear hb); (try clear hb2); (try clear hk); (try clear hi)))
              go_meet
              case rel => exact ⟨_, (true), (by first | rfl | (simp; done) | (simp [*]; done)), H', ⟨by have := HJ19.out; have := HJ59.out; first | omega | exact Nat.le_refl _⟩, ⟨by (with_reducible repeat (first | apply Kd.R_alloc | apply Kd.R_drewN | apply Kd.R_drew)); exact Kd.R_mono HO_14.out (fun _ hk => trivial)⟩, ⟨by (with_reducible repeat (first | apply Kd.R_alloc | apply Kd.R_drewN | apply Kd.R_drew)); exact Kd.R_mono HO_15.out (fun _ hk => trivial)⟩, ⟨by (with_reducible repeat (first | refine blk_drewN ?_ _ | refine blk_drew ?_ | refine blk_alloc ?_ _)); exact BK407.out⟩, ⟨by (with_reducible repeat (first | refine blk_drewN ?_ _ | refine blk_drew ?_ | refine blk_alloc ?_ _)); exact BK408.out⟩, ⟨by (with_reducible repeat (first | refine blk_drewN ?_ _ | refine blk_drew ?_ | refine blk_alloc ?_ _)); exact BK409.out⟩, ⟨by repeat (first | (with_reducible first | exact HB.out | apply below_alloc | apply pw_below_drewN | apply below_drew1 | refine below_set ?_ GE407.out | refine below_set ?_ GE408.out | refine below_set ?_ GE409.out) | exact HB.out)⟩⟩
            case rest =>
             clear HC96
             try clear c1
             try clear c2
             try clear p2
             try clear c3
             try clear c4
             try clear c5
             try clear c6
             try clear c8
             try clear c9
             try clear c10
             try clear c11
             try clear c12
             try clear c13
             try clear c15
             try clear c16
             try clear c17
             try clear c18
             try clear c19
             try clear c24
             try clear c25
             try clear c27
             try clear c28
             try clear c39
             try clear c41
             try clear c55
             try clear c58
             try clear c65
             try clear c65b0
             try clear c67
             try clear c69
             try clear c83
             try clear c87
             try clear c87b0
             try clear c89
             try clear c89b0
             try clear c90
             try clear c90b0
             try clear c90b1
             try clear c109
             try clear c111
             try clear p2
             obtain ⟨kq, x143_95, rfl, HA, HJ95, HO_14, HO_15, BK407, BK408, BK409, HB⟩ := hcut
             have hl14_95 := (Kd.R_reads' HO_14.out).1
             rw [hl14_95] at HO_14
             (try simp only [hl14_95])
             (try simp only [hl14_95] at BK407)
             (try simp only [hl14_95] at BK408)
             (try simp only [hl14_95] at BK409)
             (try simp only [hl14_95] at HO_15)
             have hl15_95 := (Kd.R_reads' HO_15.out).1
             rw [hl15_95] at HO_15
             (try simp only [hl15_95])
             (try simp only [hl15_95] at BK407)
             (try simp only [hl15_95] at BK408)
             (try simp only [hl15_95] at BK409)
             (try simp only [hl15_95] at HO_14)
             cases kq with
             | zero => exact absurd HA.out (by simp [laws_FnExactHoursAtEach.j2])
             | succ kj95 =>
              have H := HA.out
              clear HA
              simp only [laws_FnExactHoursAtEach.j2] at H
              by_cases c125 : x143_95 = true
              ·subst c125
               have H1 : (some false) = some r := by rw [if_pos rfl] at H; exact H
               clear H
               have H := H1
               clear H1
               exact absurd (Option.some.inj H) (by rw [hr_.out]; decide)
              ·replace c125 := Bool.eq_false_iff.mpr c125
               subst c125
               have H1 : ((laws_heldPlaceS.f kj95 t458 1).bind fun t483 => (if t483 < 0 then (some false) else ((laws_heldInt64S.f kj95 t460 t483).bind fun t484 => (if t484 < 0 then (some false) else (if t484 = t459 then (some true) else (some false)))))) = some r := by rw [if_neg (show ¬ (false = true) by decide)] at H; exact H
               clear H
               have H := H1
               clear H1
               replace H := Option.bind_eq_some_iff.mp H
               obtain ⟨t483, A1260, H⟩ := H
               replace H : (if t483 < 0 then (some false) else ((laws_heldInt64S.f kj95 t460 t483).bind fun t484 => (if t484 < 0 then (some false) else (if t484 = t459 then (some true) else (some false))))) = some r := H
               have A126 := Aside0.mk A1260
               clear A1260
               by_cases c127 : t483 < 0
               ·rw [if_pos c127] at H
                have c127b0 : decide (t483 < 0) = true := decide_eq_true c127
                clear c127
                exact absurd (Option.some.inj H) (by rw [hr_.out]; decide)
               ·rw [if_neg c127] at H
                have c127b0 : decide (t483 < 0) = false := decide_eq_false c127
                clear c127
                replace H := Option.bind_eq_some_iff.mp H
                obtain ⟨t484, A1280, H⟩ := H
                replace H : (if t484 < 0 then (some false) else (if t484 = t459 then (some true) else (some false))) = some r := H
                have A128 := Aside0.mk A1280
                clear A1280
                by_cases c129 : t484 < 0
                ·rw [if_pos c129] at H
                 have c129b0 : decide (t484 < 0) = true := decide_eq_true c129
                 clear c129
                 exact absurd (Option.some.inj H) (by rw [hr_.out]; decide)
                ·rw [if_neg c129] at H
                 have c129b0 : decide (t484 < 0) = false := decide_eq_false c129
                 clear c129
                 by_cases c130 : t484 = t459
                 ·rw [if_pos c130] at H
                  have c130b0 : (t484 == t459) = true := beq_iff_eq.mpr c130
                  have c130b1 : (t484 != t459) = false := bne_eq_false_iff_eq.mpr c130
                  clear c130
                  obtain rfl := Option.some.inj H
                  go_wp2_with (first | ((with_reducible refine gate_callee (f := 19) rfl ?_); refine goesL_ (some 146) rfl rfl Try.func19 (by kernel_rfl) rfl #[.slice Ao97 t458.length co97, .int .i64 1] rfl (by (try simp only [List.map_toArray, List.map_cons, List.map_nil]); first | done | rfl | (simp only [List.length_drop, List.length_take]; rfl)) ?_; (with_reducible refine (laws_heldPlaceS.calls kj95 _ _ t458 1 t483 _ ?side1 ?side2 A126.out).mono ?_); (case side1 => repeat (first | exact (Kd.R_reads' HO_14.out).2.2 | (with_reducible refine Kd.C_alloc ?_ _) | (with_reducible refine Kd.C_drewN ?_ _) | (with_reducible refine Kd.C_drew ?_))); (case side2 => exact (Kd.R_reads' HO_14.out).2.1); rintro e w' ⟨rfl, ⟨nd, rfl⟩⟩; refine ⟨_, rfl, ?_⟩) | ((with_reducible refine gate_callee (f := 28) rfl ?_); refine goesL_ (some 151) rfl rfl Try.func28 (by kernel_rfl) rfl #[.slice Ao99 t460.length co99, .int .i64 t483] rfl (by (try simp only [List.map_toArray, List.map_cons, List.map_nil]); first | done | rfl | (simp only [List.length_drop, List.length_take]; rfl)) ?_; (with_reducible refine (laws_heldInt64S.calls kj95 _ _ t460 t483 t484 _ ?side1 ?side2 A128.out).mono ?_); (case side1 => repeat (first | exact (Kd.R_reads' HO_15.out).2.2 | (with_reducible refine Kd.C_alloc ?_ _) | (with_reducible refine Kd.C_drewN ?_ _) | (with_reducible refine Kd.C_drew ?_))); (case side2 => exact (Kd.R_reads' HO_15.out).2.1); rintro e w' ⟨rfl, ⟨nd, rfl⟩⟩; refine ⟨_, rfl, ?_⟩))
                  go_ret
                  exact ⟨by first | rfl | (simp [errW_none, errW_some] <;> rfl) | (simp [*, errW_none, errW_some] <;> rfl), by repeat (first | (with_reducible first | exact HB.out | apply below_alloc | apply pw_below_drewN | apply below_drew1 | refine below_set ?_ GE407.out | refine below_set ?_ GE408.out | refine below_set ?_ GE409.out) | exact HB.out)⟩
                 ·rw [if_neg c130] at H
                  have c130b0 : (t484 == t459) = false := beq_eq_false_iff_ne.mpr c130
                  have c130b1 : (t484 != t459) = true := bne_iff_ne.mpr c130
                  exact absurd (Option.some.inj H) (by rw [hr_.out]; decide)
           ·rw [if_neg c90] at H
            have c90b0 : (t462 == t459) = false := beq_eq_false_iff_ne.mpr c90
            have c90b1 : (t462 != t459) = true := bne_iff_ne.mpr c90
            exact absurd (Option.some.inj H) (by rw [hr_.out]; decide)
     ·replace c58 := Bool.eq_false_iff.mpr c58
      subst c58
      have H1 : (some false) = some r := by rw [if_neg (show ¬ (false = true) by decide)] at H; exact H
      clear H
      have H := H1
      clear H1
      exact absurd (Option.some.inj H) (by rw [hr_.out]; decide)
end Go.Proofs.Ytmhmfhdmeedcfaa.G
end
section
namespace Go.Proofs.Ytmhmfhdmeedcfaa.PL
open Go.RowKit M Go.Proofs.YtmhmfhdmeedcfaaW.PrintWords
theorem i8_wf {x : Int} (h : (Lit.int .i8 x).wf = true) : i8B x = true := by
 have := bounds_i8 h
 simp [i8B, inB]; omega
theorem wsm {x : Int} (h0 : -1000000000000 ≤ x) (h1 : x ≤ 1000000000000) : wrap64 x = x := by
 unfold wrap64; omega
theorem wnx {i : Nat} (h : i ≤ 10000000) : wrap64 ((i : Int) + 1) = ((i + 1 : Nat) : Int) := by
 rw [wsm (by omega) (by omega)]; omega
theorem rd_at {l : List Int} {i : Nat} (h : i < l.length) : rd l (i : Int) = l[i] := by simp [rd, h]
theorem i8_bounds {x : Int} (h : i8B x = true) : -128 ≤ x ∧ x ≤ 127 := inB_true h
end Go.Proofs.Ytmhmfhdmeedcfaa.PL
end
section
namespace Go.Proofs.Ytmhmfhdmeedcfaa.G.PB
open Go.RowKit M Go.Proofs.Ytmhmfhdmeedcfaa.PL Go.Proofs.YtmhmfhdmeedcfaaW.PrintWords Go.Proofs.YtmhmfhdmeedcfaaW.PrintMore
set_option linter.unusedSimpArgs false
set_option linter.unusedVariables false
abbrev Bay := Flat 258 .i8
def boatV (b : Bay) (x y ch lo dr ki : Int) : Bool := isW b x y && (inB ch 1 60 && (inB lo 0 5 && (inB dr 1 30 && inB ki 0 9)))
def b8 (x : Int) : Prop := -128 ≤ x ∧ x ≤ 127
theorem ws {x : Int} (h : b8 x) : wrap64 x = x := by obtain ⟨h0, h1⟩ := h; unfold wrap64; omega
theorem w8 {x : Int} (h0 : -128 ≤ x) (h1 : x ≤ 127) : IntKind.i8.wrap x = x := by
 unfold IntKind.wrap; simp [IntKind.signed, IntKind.bits]; omega
theorem spec_in (n lo hi : Int) : spec_l00In.f n lo hi = some (inB n lo hi) := by
 unfold spec_l00In.f inB
 by_cases h : lo ≤ n <;> simp [h]
theorem depO_in (b : Bay) {x y : Int} (hx0 : 0 ≤ x) (hx1 : x < 16) (hy0 : 0 ≤ y) (hy1 : y < 16) : depO b x y = some (dep b x y) := if_pos ⟨hx0, hx1, hy0, hy1⟩
theorem bay_small {b : Bay} (h : bayB b = true) : 1 ≤ b.z 0 ∧ b.z 0 ≤ 16 ∧ 1 ≤ b.z 1 ∧ b.z 1 ≤ 16 := by
 obtain ⟨h0, h1, _⟩ := bayB_true h; omega
theorem isP_16 {b : Bay} {x y : Int} (h : bayB b = true) (hp : isP b x y = true) : 0 ≤ x ∧ x < 16 ∧ 0 ≤ y ∧ y < 16 := by
 have := bay_small h; have := isP_bounds hp; omega
theorem isW_isP {b : Bay} {x y : Int} (h : isW b x y = true) : isP b x y = true ∧ 0 < dep b x y := by
 unfold isW at h; simp at h; exact h
theorem boatV_isW {b : Bay} {x y ch lo dr ki : Int} (h : boatV b x y ch lo dr ki = true) : isW b x y = true ∧ (1 ≤ ch ∧ ch ≤ 60) ∧ (0 ≤ lo ∧ lo ≤ 5) ∧ (1 ≤ dr ∧ dr ≤ 30) ∧ (0 ≤ ki ∧ ki ≤ 9) := by
 unfold boatV inB at h; simp at h; omega
theorem dep_30 {b : Bay} {x y : Int} (h : bayB b = true) (h0 : 0 ≤ x) (h1 : x < 16) (h2 : 0 ≤ y) (h3 : y < 16) : 0 ≤ dep b x y ∧ dep b x y ≤ 30 := by
 have := (bayB_true h).2.2 y.toNat (by omega) x.toNat (by omega)
 unfold okD at this
 rw [Bool.and_eq_true] at this
 have h4 := inB_true this.1
 rw [show ((x.toNat : Nat) : Int) = x by omega, show ((y.toNat : Nat) : Int) = y by omega] at h4
 exact h4
theorem impl_place (b : Bay) (x y : Int) : impl_isPlace.f b x y = some (isP b x y) := by
 unfold impl_isPlace.f isP
 by_cases h1 : 0 ≤ x <;> by_cases h2 : x < b.z 0 <;> by_cases h3 : 0 ≤ y <;> simp [h1, h2, h3]
theorem impl_water {b : Bay} (h : bayB b = true) (x y : Int) : impl_isWater.f b x y = some (isW b x y) := by
 unfold impl_isWater.f isW
 rw [impl_place]
 simp only [Option.bind_some]
 cases hp : isP b x y
 ·simp
 ·obtain ⟨h0, h1, h2, h3⟩ := isP_16 h hp
  unfold impl_depth.f
  rw [if_pos rfl, depO_in b h0 h1 h2 h3]
  simp
theorem impl_boat {b : Bay} (h : bayB b = true) (x y ch lo dr ki : Int) : impl_isBoat.f b x y ch lo dr ki = some (boatV b x y ch lo dr ki) := by
 unfold impl_isBoat.f boatV
 rw [impl_water h]
 simp only [Option.bind_some]
 cases isW b x y
 ·simp
 ·simp only [if_true, Bool.true_and, inB]
  by_cases h1 : 1 ≤ ch
  ·by_cases h2 : ch ≤ 60
   ·by_cases h3 : 0 ≤ lo
    ·by_cases h4 : lo ≤ 5
     ·by_cases h5 : 1 ≤ dr
      ·by_cases h6 : dr ≤ 30
       ·by_cases h7 : 0 ≤ ki <;> simp [h1, h2, h3, h4, h5, h6, h7]
       ·simp [h1, h2, h3, h4, h5, h6]
      ·simp [h1, h2, h3, h4, h5]
     ·simp [h1, h2, h3, h4]
    ·simp [h1, h2, h3]
   ·simp [h1, h2]
  ·simp [h1]
theorem spec_is (b : Bay) {x y : Int} (hx : b8 x) (hy : b8 y) : spec_l01Is.f b x y = some (isP b x y) := by
 have h0 : b8 (b.z 0) := bounds_i8 (b.ok 0 (by omega))
 have h1 : b8 (b.z 1) := bounds_i8 (b.ok 1 (by omega))
 unfold spec_l01Is.f
 rw [ws hx, ws hy, ws h0, ws h1, wsm (by have := h0.1; omega) (by have := h0.2; omega), wsm (by have := h1.1; omega) (by have := h1.2; omega), spec_in, spec_in, isP_in]
 simp only [Option.bind_some]
 cases inB x 0 (b.z 0 - 1) <;> simp
theorem spec_boat {b : Bay} (h : bayB b = true) {x y ch lo dr ki : Int} (hx : b8 x) (hy : b8 y) (hc : b8 ch) (hl : b8 lo) (hd : b8 dr) (hk : b8 ki) : spec_l01Boat.f b x y ch lo dr ki = some (boatV b x y ch lo dr ki) := by
 unfold spec_l01Boat.f boatV isW
 rw [spec_is b hx hy]
 simp only [Option.bind_some]
 cases hp : isP b x y
 ·simp
 ·obtain ⟨h0, h1, h2, h3⟩ := isP_16 h hp
  unfold spec_l01Depth.f
  rw [if_pos rfl, depO_in b h0 h1 h2 h3, ws hc, ws hl, ws hd, ws hk, spec_in, spec_in, spec_in, spec_in]
  simp only [Option.bind_some]
  by_cases hw : 0 < dep b x y
  ·rw [if_pos hw]
   cases inB ch 1 60 <;> cases inB lo 0 5 <;> cases inB dr 1 30 <;> simp [hw]
  ·rw [if_neg hw]; simp [hw]
end Go.Proofs.Ytmhmfhdmeedcfaa.G.PB
end
section
namespace Go.Proofs.Ytmhmfhdmeedcfaa.G.PB
open Go.RowKit M Go.Proofs.Ytmhmfhdmeedcfaa.PL Go.Proofs.YtmhmfhdmeedcfaaW.PrintWords Go.Proofs.YtmhmfhdmeedcfaaW.PrintMore
set_option linter.unusedSimpArgs false
set_option linter.unusedVariables false
abbrev Grd := Flat 256 .u8
def baseV (k : Int) : Int := if k = 0 then 2 else if k = 1 then 4 else if k = 2 then 6 else 1
theorem base_rd {k : Int} (h0 : 0 ≤ k) (h1 : k ≤ 3) : rd [2, 4, 6, 1] k = baseV k := by
 have : k = 0 ∨ k = 1 ∨ k = 2 ∨ k = 3 := by omega
 rcases this with rfl | rfl | rfl | rfl <;> rfl
theorem base_bounds (k : Int) : 1 ≤ baseV k ∧ baseV k ≤ 6 := by unfold baseV; split <;> (try split) <;> (try split) <;> omega
def holdV (b : Bay) (g : Grd) (x y ch : Int) : Int := baseV (g.z (y.toNat * 16 + x.toNat)) + (if 6 < ch / dep b x y then 6 else ch / dep b x y)
theorem ground_3 {b : Bay} {g : Grd} (h : groundsB b g = true) {x y : Int} (h0 : 0 ≤ x) (h1 : x < 16) (h2 : 0 ≤ y) (h3 : y < 16) : 0 ≤ g.z (y.toNat * 16 + x.toNat) ∧ g.z (y.toNat * 16 + x.toNat) ≤ 3 := by
 have := (groundsB_true h).2 y.toNat (by omega) x.toNat (by omega)
 unfold okG at this
 rw [Bool.and_eq_true] at this
 exact ⟨(bounds_u8 (g.ok (y.toNat * 16 + x.toNat) (by omega))).1, by simpa using this.1⟩
theorem impl_hold_tells {b : Bay} {g : Grd} (hg : groundsB b g = true) {x y ch : Int} (lo dr ki : Int) (hw : isW b x y = true) (hc0 : 0 ≤ ch) (hc1 : ch ≤ 127) : impl_hold.f b g x y ch lo dr ki = some (holdV b g x y ch) := by
 have hb := (groundsB_true hg).1
 obtain ⟨hp, hd⟩ := isW_isP hw
 obtain ⟨h0, h1, h2, h3⟩ := isP_16 hb hp
 obtain ⟨g0, g1⟩ := ground_3 hg h0 h1 h2 h3
 have q0 := Int.ediv_nonneg hc0 (Int.le_of_lt hd)
 have q1 : ch / dep b x y ≤ ch := Int.ediv_le_self _ hc0
 have hbb := base_bounds (g.z (y.toNat * 16 + x.toNat))
 unfold impl_hold.f impl_depth.f
 simp only [Option.bind_some]
 rw [if_pos h2, if_pos h3, if_pos h0, if_pos h1, if_pos g0, if_pos (by simp; omega), depO_in b h0 h1 h2 h3]
 simp only [Option.bind_some]
 rw [if_neg (by omega), base_rd g0 g1, wsm (x := ch) (by omega) (by omega), Int.tdiv_eq_ediv_of_nonneg hc0, wsm (x := ch / _) (by omega) (by omega)]
 unfold mn holdV
 split <;> (rw [wsm (by omega) (by omega)])
theorem spec_hold_tells {b : Bay} {g : Grd} (hg : groundsB b g = true) {x y ch : Int} (lo dr ki : Int) (hw : isW b x y = true) (hc0 : 0 ≤ ch) (hc1 : ch ≤ 127) : spec_l07Hold.f b g x y ch lo dr ki = some (holdV b g x y ch) := by
 have hb := (groundsB_true hg).1
 obtain ⟨hp, hd⟩ := isW_isP hw
 obtain ⟨h0, h1, h2, h3⟩ := isP_16 hb hp
 obtain ⟨g0, g1⟩ := ground_3 hg h0 h1 h2 h3
 have q0 := Int.ediv_nonneg hc0 (Int.le_of_lt hd)
 have q1 : ch / dep b x y ≤ ch := Int.ediv_le_self _ hc0
 have hbb := base_bounds (g.z (y.toNat * 16 + x.toNat))
 unfold spec_l07Hold.f spec_l01Depth.f spec_l00Min.f
 simp only [Option.bind_some]
 rw [depO_in b h0 h1 h2 h3]
 simp only [Option.bind_some]
 rw [if_neg (by omega), wsm (x := ch) (by omega) (by omega), Int.tdiv_eq_ediv_of_nonneg hc0, wsm (x := ch / _) (by omega) (by omega)]
 unfold holdV
 split <;> simp only [Option.bind_some, h2, h3, h0, h1, g0, if_true] <;> rw [if_pos (by simp; omega), base_rd g0 g1, wsm (by omega) (by omega)]
end Go.Proofs.Ytmhmfhdmeedcfaa.G.PB
end
section
namespace Go.Proofs.Ytmhmfhdmeedcfaa.G.PB
open Go.RowKit M Go.Proofs.Ytmhmfhdmeedcfaa.PL Go.Proofs.YtmhmfhdmeedcfaaW.PrintWords
set_option linter.unusedSimpArgs false
set_option linter.unusedVariables false
def windB (f t : Int) : Bool := inB f 0 12 && inB t 0 7
def vW (x : S78) : Bool := windB x.f0 x.f1
def okW (x : S78) : Bool := i8B x.f0 && i8B x.f1
theorem spec_wind {f t : Int} (hf : i8B f = true) (ht : i8B t = true) : spec_l07Wind.f f t = some (windB f t) := by
 obtain ⟨a, b⟩ := i8_bounds hf
 obtain ⟨c, d⟩ := i8_bounds ht
 unfold spec_l07Wind.f windB
 rw [wsm (by omega) (by omega), wsm (by omega) (by omega), spec_in, spec_in]
 cases inB f 0 12 <;> simp
theorem impl_wind (f t : Int) : impl_isWind.f f t = some (windB f t) := by
 unfold impl_isWind.f windB inB
 by_cases h1 : 0 ≤ f <;> by_cases h2 : f ≤ 12 <;> by_cases h3 : 0 ≤ t <;> simp [h1, h2, h3]
theorem rdW {l : List S78} {i : Nat} (h : i < l.length) : rd_T78 l (i : Int) = l[i] := by simp [rd_T78, h]
theorem spec_winds_loop (l : List S78) (hl : l.length ≤ 10000000) (hok : l.all okW = true) (d : Nat) : ∀ (k i : Nat), i + d = l.length → d < k → spec_l07Winds.l0 k l i = some ((l.drop i).all vW && decide (l.length ≤ 48)) := by
 induction d with
 | zero =>
  intro k i hi hk
  obtain ⟨k, rfl⟩ : ∃ m, k = m + 1 := ⟨k - 1, by omega⟩
  simp only [spec_l07Winds.l0]; rw [if_neg (by omega), List.drop_of_length_le (by omega)]; simp; omega
 | succ d ih =>
  intro k i hi hk
  obtain ⟨k, rfl⟩ : ∃ m, k = m + 1 := ⟨k - 1, by omega⟩
  have ho : okW (l[i]'(by omega)) = true := List.all_eq_true.mp hok _ (List.getElem_mem (by omega : i < l.length))
  simp only [okW, Bool.and_eq_true] at ho
  simp only [spec_l07Winds.l0]; rw [if_pos (by omega), if_pos (by omega), rdW (by omega), spec_wind ho.1 ho.2]
  rw [List.drop_eq_getElem_cons (by omega : i < l.length), List.all_cons]
  simp only [Option.bind_some]
  cases h : windB (l[i]'(by omega)).f0 (l[i]'(by omega)).f1
  ·simp [vW, h]
  ·rw [if_pos rfl, wnx (by omega), ih k (i + 1) (by omega) (by omega)]; simp [vW, h]
theorem impl_winds_loop (l : List S78) (hl : l.length ≤ 10000000) (d : Nat) : ∀ (k i : Nat), i + d = l.length → d < k → impl_ValidWinds.l0 k l l l.length i = some ((l.drop i).all vW && decide (l.length ≤ 48)) := by
 induction d with
 | zero =>
  intro k i hi hk
  obtain ⟨k, rfl⟩ : ∃ m, k = m + 1 := ⟨k - 1, by omega⟩
  simp only [impl_ValidWinds.l0]; rw [if_neg (by omega), List.drop_of_length_le (by omega)]; simp; omega
 | succ d ih =>
  intro k i hi hk
  obtain ⟨k, rfl⟩ : ∃ m, k = m + 1 := ⟨k - 1, by omega⟩
  simp only [impl_ValidWinds.l0]; rw [if_pos (by omega), if_pos (by omega), if_pos (by omega), rdW (by omega), impl_wind]
  rw [List.drop_eq_getElem_cons (by omega : i < l.length), List.all_cons]
  simp only [Option.bind_some]
  cases h : windB (l[i]'(by omega)).f0 (l[i]'(by omega)).f1
  ·simp [vW, h]
  ·rw [if_pos rfl, wnx (by omega), ih k (i + 1) (by omega) (by omega)]; simp [vW, h]
def windsV (l : List S78) : Bool := l.all vW && decide (l.length ≤ 48)
theorem spec_winds_tells {l : List S78} (hl : l.length ≤ 10000000) (hok : l.all okW = true) {k : Nat} (hk : l.length < k) : spec_l07Winds.f k l = some (windsV l) := by
 unfold spec_l07Winds.f windsV
 have := spec_winds_loop l hl hok l.length k 0 (by omega) hk
 rwa [List.drop_zero] at this
theorem impl_winds_tells {l : List S78} (hl : l.length ≤ 10000000) {k : Nat} (hk : l.length < k) : impl_ValidWinds.f k l = some (windsV l) := by
 unfold impl_ValidWinds.f windsV
 have := impl_winds_loop l hl l.length k 0 (by omega) hk
 rwa [List.drop_zero] at this
end Go.Proofs.Ytmhmfhdmeedcfaa.G.PB
end
section
namespace Go.Proofs.Ytmhmfhdmeedcfaa.G.PB
open Go.RowKit M Go.Proofs.Ytmhmfhdmeedcfaa.PL Go.Proofs.YtmhmfhdmeedcfaaW.PrintWords
set_option linter.unusedSimpArgs false
set_option linter.unusedVariables false
def validV (b : Bay) (g : Grd) (x y ch lo dr ki : Int) : Bool := groundsB b g && boatV b x y ch lo dr ki
theorem validV_true {b : Bay} {g : Grd} {x y ch lo dr ki : Int} (h : validV b g x y ch lo dr ki = true) : groundsB b g = true ∧ boatV b x y ch lo dr ki = true := by
 unfold validV at h; simpa using h
theorem spec_valid {b : Bay} {g : Grd} {x y ch lo dr ki : Int} {k : Nat} {l : List S78} {wv : Bool} (hw : spec_l07Winds.f k l = some wv) (hx : b8 x) (hy : b8 y) (hc : b8 ch) (hl : b8 lo) (hd : b8 dr) (hk : b8 ki) : spec_l07Valid.f k b g x y ch lo dr ki l = some (validV b g x y ch lo dr ki && wv) := by
 unfold spec_l07Valid.f spec_l07Grounds.f validV
 cases hg : groundsB b g
 ·simp
 ·simp only [Option.bind_some, if_true]
  rw [spec_boat (groundsB_true hg).1 hx hy hc hl hd hk]
  cases hb : boatV b x y ch lo dr ki
  ·simp
  ·simp [hw]
theorem b8_of {x : Int} (h : (Lit.int .i8 x).wf = true) : b8 x := bounds_i8 h
end Go.Proofs.Ytmhmfhdmeedcfaa.G.PB
end
section
namespace Go.Proofs.Ytmhmfhdmeedcfaa.G.PB
open Go.RowKit M Go.Proofs.Ytmhmfhdmeedcfaa.PL Go.Proofs.YtmhmfhdmeedcfaaW.PrintWords
set_option linter.unusedSimpArgs false
set_option linter.unusedVariables false
theorem impl_code {b : Bay} {g : Grd} {x y ch lo dr ki : Int} {k : Nat} {l : List S78} (hl : l.length ≤ 10000000) (hk : l.length < k) : impl_driftCode.f k b g x y ch lo dr ki l = some (if (validV b g x y ch lo dr ki && windsV l) = true then 0 else 1) := by
 unfold impl_driftCode.f impl_ValidGrounds.f validV
 cases hg : groundsB b g
 ·simp
 ·simp only [Option.bind_some, if_true]
  rw [impl_boat (groundsB_true hg).1]
  cases hb : boatV b x y ch lo dr ki
  ·simp
  ·simp only [Option.bind_some, if_true]
   rw [impl_winds_tells hl hk]
   cases windsV l <;> simp
end Go.Proofs.Ytmhmfhdmeedcfaa.G.PB
end
section
namespace Go.Proofs.Ytmhmfhdmeedcfaa.G.PS
open Go.RowKit Go.Proofs.Ytmhmfhdmeedcfaa.PL Go.Proofs.YtmhmfhdmeedcfaaW.PrintWords
set_option linter.unusedVariables false
set_option linter.unusedSimpArgs false
def convWind (x : S80) : S78 := ⟨x.f0, x.f1⟩
theorem toWind_loop (l : List S80) (hl : l.length ≤ 10000000) (d : Nat) : ∀ (k i : Nat) (o : List S78), o.length = l.length → o.take i = (l.map convWind).take i → i + d = l.length → d < k → laws_toWindS.l0 k l o i = some (l.map convWind) := by
 induction d with
 | zero =>
  intro k i o ho he hi hk
  obtain ⟨k, rfl⟩ : ∃ m, k = m + 1 := ⟨k - 1, by omega⟩
  rw [List.take_of_length_le (by omega), List.take_of_length_le (by rw [List.length_map]; omega)] at he
  simp only [laws_toWindS.l0]; rw [if_neg (by omega), he]
 | succ d ih =>
  intro k i o ho he hi hk
  obtain ⟨k, rfl⟩ : ∃ m, k = m + 1 := ⟨k - 1, by omega⟩
  simp only [laws_toWindS.l0]; rw [if_pos (by omega), if_pos (by omega)]
  simp only [laws_toWind.f, Option.bind_some]
  rw [if_pos (by omega), wnx (by omega)]
  refine ih k (i + 1) _ (by rw [List.length_set]; exact ho) ?_ (by omega) (by omega)
  rw [Int.toNat_natCast]
  have e2 : rd_T80 l (i : Int) = l[i]'(by omega) := by simp [rd_T80, show i < l.length by omega]
  simp only [e2]
  rw [List.take_add_one, List.take_set_of_le (Nat.le_refl _), List.getElem?_set_self (by omega), he, List.take_add_one (l := l.map convWind), List.getElem?_eq_getElem (by rw [List.length_map]; omega), List.getElem_map]
  rfl
theorem toWind_tells {l : List S80} (hl : l.length ≤ 1048576) {k : Nat} (hk : l.length < k) : laws_toWindS.f k l = some (l.map convWind) := by
 unfold laws_toWindS.f
 rw [if_pos (by omega), if_pos (by omega)]
 exact toWind_loop l (by omega) l.length k 0 _ (by simp) (by simp) (by omega) hk
theorem eqWind_loop (l : List S78) (hl : l.length ≤ 10000000) (d : Nat) : ∀ (k i : Nat), i + d = l.length → d < k → laws_eqWindS.l0 k l l i = some true := by
 induction d with
 | zero =>
  intro k i hi hk
  obtain ⟨k, rfl⟩ : ∃ m, k = m + 1 := ⟨k - 1, by omega⟩
  simp only [laws_eqWindS.l0]; rw [if_neg (by omega)]
 | succ d ih =>
  intro k i hi hk
  obtain ⟨k, rfl⟩ : ∃ m, k = m + 1 := ⟨k - 1, by omega⟩
  simp only [laws_eqWindS.l0]; rw [if_pos (by omega), if_pos (by omega), if_pos (by omega)]
  simp only [laws_eqWind.f, if_true, Option.bind_some]
  rw [wnx (by omega)]
  exact ih k (i + 1) (by omega) (by omega)
theorem eqWind_tells {l : List S78} (hl : l.length ≤ 10000000) {k : Nat} (hk : l.length < k) : laws_eqWindS.f k l l = some true := by
 unfold laws_eqWindS.f; rw [if_pos rfl]; exact eqWind_loop l hl l.length k 0 (by omega) hk
end Go.Proofs.Ytmhmfhdmeedcfaa.G.PS
end
section
namespace Go.Proofs.Ytmhmfhdmeedcfaa.G.PB
open Go.RowKit M Go.Proofs.Ytmhmfhdmeedcfaa.PL Go.Proofs.Ytmhmfhdmeedcfaa.G.PS Go.Proofs.YtmhmfhdmeedcfaaW.PrintWords
set_option linter.unusedSimpArgs false
set_option linter.unusedVariables false
theorem winds_ok {l : List S80} (h : ∀ x ∈ l, ∃ z : Nat → Int, x = (⟨z 0, z 1⟩ : S80) ∧ ∀ j, j < 2 → (Lit.int (([.i8, .i8] : List IntKind).getD j .i64) (z j)).wf = true) : (l.map convWind).all okW = true := by
 rw [List.all_eq_true]
 intro y hy
 rw [List.mem_map] at hy
 obtain ⟨x, hx, rfl⟩ := hy
 obtain ⟨z, rfl, hz⟩ := h x hx
 simp [okW, convWind, i8_wf (hz 0 (by omega)), i8_wf (hz 1 (by omega))]
theorem sz_tellsW {n : Nat} (h : n ≤ 9223372036854775807) : wrap64 (1048576 - (n : Int)) = 1048576 - (n : Int) := by unfold wrap64; omega
end Go.Proofs.Ytmhmfhdmeedcfaa.G.PB
end
section
namespace Go.Proofs.Ytmhmfhdmeedcfaa.G.PS
open Go.RowKit Go.Proofs.Ytmhmfhdmeedcfaa.PL Go.Proofs.YtmhmfhdmeedcfaaW.PrintWords
set_option linter.unusedVariables false
set_option linter.unusedSimpArgs false
theorem markWind_loop (L : Nat) (hl : L ≤ 10000000) (d : Nat) : ∀ (k i : Nat) (o : List S78) (a : Int), o.length = L → 0 ≤ a → a ≤ 1 + 2 * i → i + d = L → d < k → ∃ r, laws_markWindS.l0 k o a i = some (a + 2 * d, r) := by
 induction d with
 | zero =>
  intro k i o a ho ha0 ha1 hi hk
  obtain ⟨k, rfl⟩ : ∃ m, k = m + 1 := ⟨k - 1, by omega⟩
  exact ⟨o, by simp only [laws_markWindS.l0]; rw [if_neg (by omega)]; simp⟩
 | succ d ih =>
  intro k i o a ho ha0 ha1 hi hk
  obtain ⟨k, rfl⟩ : ∃ m, k = m + 1 := ⟨k - 1, by omega⟩
  have e : wrap64 ((wrap64 (a + 1)) + 1) = a + 2 := by rw [wsm (x := a + 1) (by omega) (by omega), wsm (x := a + 1 + 1) (by omega) (by omega)]; omega
  simp only [laws_markWindS.l0]; rw [if_pos (by omega), if_pos (by omega)]
  simp only [Option.bind_some]
  rw [e, wnx (by omega), show a + 2 * ((d + 1 : Nat) : Int) = a + 2 + 2 * (d : Int) by omega]
  exact ih k (i + 1) _ (a + 2) (by simp only [List.length_set]; exact ho) (by omega) (by omega) (by omega) (by omega)
theorem markWind_tells {l : List S78} (hl : l.length ≤ 10000000) {k : Nat} (hk : l.length < k) : ∃ r, laws_markWindS.f k l 1 = some (1 + 2 * (l.length : Int), r) := by
 obtain ⟨r, hr⟩ := markWind_loop l.length hl l.length k 0 l 1 rfl (by omega) (by omega) (by omega) hk
 exact ⟨r, hr⟩
end Go.Proofs.Ytmhmfhdmeedcfaa.G.PS
end
section
namespace Go.Proofs.Ytmhmfhdmeedcfaa.G.PB
open Go.RowKit Go.Proofs.Ytmhmfhdmeedcfaa.PL Go.Proofs.YtmhmfhdmeedcfaaW.PrintWords
set_option linter.unusedSimpArgs false
set_option linter.unusedVariables false
abbrev PlM := S42
theorem eqPlace0_loop (l : List PlM) (hl : l.length ≤ 10000000) (d : Nat) : ∀ (k i : Nat), i + d = l.length → d < k → laws_eqPlaceS.l0 k l l i = some true := by
 induction d with
 | zero =>
  intro k i hi hk
  obtain ⟨k, rfl⟩ : ∃ m, k = m + 1 := ⟨k - 1, by omega⟩
  simp only [laws_eqPlaceS.l0]; rw [if_neg (by omega)]
 | succ d ih =>
  intro k i hi hk
  obtain ⟨k, rfl⟩ : ∃ m, k = m + 1 := ⟨k - 1, by omega⟩
  simp only [laws_eqPlaceS.l0]; rw [if_pos (by omega), if_pos (by omega), if_pos (by omega)]
  simp only [laws_eqPlace.f, if_true, Option.bind_some]
  rw [wnx (by omega)]
  exact ih k (i + 1) (by omega) (by omega)
theorem eqP_tells {l : List PlM} (hl : l.length ≤ 10000000) {k : Nat} (hk : l.length < k) : laws_eqPlaceS.f k l l = some true := by
 unfold laws_eqPlaceS.f; rw [if_pos rfl]; exact eqPlace0_loop l hl l.length k 0 (by omega) hk
def upP (i : Nat) : PlM := ⟨IntKind.i8.wrap (1 + 2 * (i : Int)), IntKind.i8.wrap (2 + 2 * (i : Int))⟩
def upsP (m : Nat) : List PlM := (List.range m).map upP
theorem upsP_length (m : Nat) : (upsP m).length = m := by simp [upsP]
theorem upsP_succ (m : Nat) : upsP (m + 1) = upsP m ++ [upP m] := by simp [upsP, List.range_succ]
theorem markP_loop (l : List PlM) (hl : l.length ≤ 10000000) (d : Nat) : ∀ (k i : Nat), i + d = l.length → d < k → laws_markPlaceS.l0 k (upsP i ++ l.drop i) (1 + 2 * i) i = some (1 + 2 * (l.length : Int), upsP l.length) := by
 induction d with
 | zero =>
  intro k i hi hk
  obtain ⟨k, rfl⟩ : ∃ m, k = m + 1 := ⟨k - 1, by omega⟩
  have e : i = l.length := by omega
  subst e
  simp only [laws_markPlaceS.l0]; rw [if_neg (by simp [upsP_length])]; simp
 | succ d ih =>
  intro k i hi hk
  obtain ⟨k, rfl⟩ : ∃ m, k = m + 1 := ⟨k - 1, by omega⟩
  have hlen : (upsP i ++ l.drop i).length = l.length := by simp [upsP_length]; omega
  have hset : ∀ v, (upsP i ++ l.drop i).set i v = upsP i ++ v :: l.drop (i + 1) := fun v => by
   rw [List.set_append_right _ _ (by rw [upsP_length]; omega), upsP_length, Nat.sub_self, List.drop_eq_getElem_cons (by omega : i < l.length), List.set_cons_zero]
  have hset2 : ∀ u v, (upsP i ++ u :: l.drop (i + 1)).set i v = upsP i ++ v :: l.drop (i + 1) := fun u v => by
   rw [List.set_append_right _ _ (by rw [upsP_length]; omega), upsP_length, Nat.sub_self, List.set_cons_zero]
  have hrd : ∀ u, rd_T42 (upsP i ++ u :: l.drop (i + 1)) (i : Int) = u := fun u => by
   unfold rd_T42
   rw [Int.toNat_natCast, List.getD_eq_getElem?_getD, List.getElem?_append_right (by rw [upsP_length]; omega), upsP_length, Nat.sub_self]
   rfl
  simp only [laws_markPlaceS.l0]; rw [hlen, if_pos (by omega), if_pos (by omega)]
  simp only [Option.bind_some]
  rw [Int.toNat_natCast, hset, hrd, hset2, wnx (by omega), wsm (x := 1 + 2 * (i : Int) + 1) (by omega) (by omega), wsm (by omega) (by omega)]
  have := ih k (i + 1) (by omega) (by omega)
  rw [upsP_succ, List.append_assoc] at this
  rw [show (1 : Int) + 2 * i + 1 + 1 = 1 + 2 * ((i + 1 : Nat) : Int) by omega, show (1 : Int) + 2 * i + 1 = 2 + 2 * i by omega]
  exact this
theorem markP_tells {l : List PlM} (hl : l.length ≤ 10000000) {k : Nat} (hk : l.length < k) : laws_markPlaceS.f k l 1 = some (1 + 2 * (l.length : Int), upsP l.length) := by
 have := markP_loop l hl l.length k 0 (by omega) hk
 simpa [upsP, laws_markPlaceS.f] using this
theorem heldP_loop (m : Nat) (hl : m ≤ 10000000) (d : Nat) : ∀ (k i : Nat), i + d = m → d < k → laws_heldPlaceS.l0 k (upsP m) (1 + 2 * i) i = some (1 + 2 * (m : Int)) := by
 induction d with
 | zero =>
  intro k i hi hk
  obtain ⟨k, rfl⟩ : ∃ m, k = m + 1 := ⟨k - 1, by omega⟩
  have e : i = m := by omega
  subst e
  simp only [laws_heldPlaceS.l0]; rw [if_neg (by rw [upsP_length]; omega)]
 | succ d ih =>
  intro k i hi hk
  obtain ⟨k, rfl⟩ : ∃ m, k = m + 1 := ⟨k - 1, by omega⟩
  have hr : rd_T42 (upsP m) (i : Int) = upP i := by
   have : i < m := by omega
   simp [rd_T42, upsP, this]
  simp only [laws_heldPlaceS.l0]; rw [if_pos (by rw [upsP_length]; omega), if_pos (by omega), hr, wnx (by omega), wsm (x := 1 + 2 * (i : Int) + 1) (by omega) (by omega), wsm (by omega) (by omega)]
  have := ih k (i + 1) (by omega) (by omega)
  rw [show (1 : Int) + 2 * i + 1 + 1 = 1 + 2 * ((i + 1 : Nat) : Int) by omega, show (1 : Int) + 2 * i + 1 = 2 + 2 * i by omega]
  simp only [upP, if_true]
  exact this
theorem heldP_tells {m : Nat} (hl : m ≤ 10000000) {k : Nat} (hk : m < k) : laws_heldPlaceS.f k (upsP m) 1 = some (1 + 2 * (m : Int)) := by
 have := heldP_loop m hl m k 0 (by omega) hk
 simpa [laws_heldPlaceS.f] using this
end Go.Proofs.Ytmhmfhdmeedcfaa.G.PB
end
section
namespace Go.Proofs.Ytmhmfhdmeedcfaa.G.PB
open Go.RowKit M Go.Proofs.Ytmhmfhdmeedcfaa.PL Go.Proofs.YtmhmfhdmeedcfaaW.PrintWords Go.Proofs.YtmhmfhdmeedcfaaW.PrintMore
set_option linter.unusedSimpArgs false
set_option linter.unusedVariables false
def dxV (sd : Int) : Int := rd [0, 1, 1, 1, 0, (-1), (-1), (-1)] sd
def dyV (sd : Int) : Int := rd [(-1), (-1), 0, 1, 1, 1, 0, (-1)] sd
theorem sd_cases {sd : Int} (h0 : 0 ≤ sd) (h1 : sd ≤ 7) : sd = 0 ∨ sd = 1 ∨ sd = 2 ∨ sd = 3 ∨ sd = 4 ∨ sd = 5 ∨ sd = 6 ∨ sd = 7 := by omega
theorem dx_1 {sd : Int} (h0 : 0 ≤ sd) (h1 : sd ≤ 7) : (-1 ≤ dxV sd ∧ dxV sd ≤ 1) ∧ (-1 ≤ dyV sd ∧ dyV sd ≤ 1) := by
 rcases sd_cases h0 h1 with rfl | rfl | rfl | rfl | rfl | rfl | rfl | rfl <;> decide
theorem spec_side {x y sd : Int} (hx0 : 0 ≤ x) (hx1 : x < 16) (hy0 : 0 ≤ y) (hy1 : y < 16) (h0 : 0 ≤ sd) (h1 : sd ≤ 7) {k : Nat} (hk : 6 ≤ k) : spec_l07Side.f k x y sd = some (x + dxV sd, y + dyV sd) := by
 obtain ⟨m, rfl⟩ : ∃ m, k = m + 1 + 1 + 1 + 1 + 1 + 1 := ⟨k - 6, by omega⟩
 have e1 : IntKind.i8.wrap (y - 1) = y + -1 := by rw [w8 (by omega) (by omega)]; omega
 have e2 : IntKind.i8.wrap (y + 1) = y + 1 := w8 (by omega) (by omega)
 have e3 : IntKind.i8.wrap (x + 1) = x + 1 := w8 (by omega) (by omega)
 have e4 : IntKind.i8.wrap (x - 1) = x + -1 := by rw [w8 (by omega) (by omega)]; omega
 have d0 : dxV 0 = 0 ∧ dxV 1 = 1 ∧ dxV 2 = 1 ∧ dxV 3 = 1 ∧ dxV 4 = 0 ∧ dxV 5 = -1 ∧ dxV 6 = -1 ∧ dxV 7 = -1 := by decide
 have d1 : dyV 0 = -1 ∧ dyV 1 = -1 ∧ dyV 2 = 0 ∧ dyV 3 = 1 ∧ dyV 4 = 1 ∧ dyV 5 = 1 ∧ dyV 6 = 0 ∧ dyV 7 = -1 := by decide
 rcases sd_cases h0 h1 with rfl | rfl | rfl | rfl | rfl | rfl | rfl | rfl <;> simp [spec_l07Side.f, spec_l07Side.j0, spec_l07Side.j1, spec_l07Side.j2, spec_l07Side.j3, spec_l07Side.j4, e1, e2, e3, e4, d0, d1]
def driftV (b : Bay) (g : Grd) (x y ch f sd : Int) : Int × Int × Bool × Bool := if f ≤ holdV b g x y ch then (x, y, false, false) else if isW b (x + dxV sd) (y + dyV sd) = true then (x + dxV sd, y + dyV sd, true, false) else (x, y, true, true)
theorem impl_drift_tells {b : Bay} {g : Grd} (hg : groundsB b g = true) {x y ch : Int} (lo dr ki : Int) (hw : isW b x y = true) (hc0 : 0 ≤ ch) (hc1 : ch ≤ 127) {f sd : Int} (hf : b8 f) (h0 : 0 ≤ sd) (h1 : sd ≤ 7) :
  impl_drift.f b g x y ch lo dr ki f sd = some ((driftV b g x y ch f sd).1, (driftV b g x y ch f sd).2.1, ch, lo, dr, ki, (driftV b g x y ch f sd).2.2.1, (driftV b g x y ch f sd).2.2.2) := by
 have hb := (groundsB_true hg).1
 obtain ⟨x0, x1, y0, y1⟩ := isP_16 hb (isW_isP hw).1
 obtain ⟨⟨a, b'⟩, c, d⟩ := dx_1 h0 h1
 unfold impl_drift.f driftV
 rw [impl_hold_tells hg lo dr ki hw hc0 hc1]
 simp only [Option.bind_some]
 rw [ws hf]
 by_cases hh : f ≤ holdV b g x y ch
 ·rw [if_pos hh, if_pos hh]
 ·rw [if_neg hh, if_neg hh, if_pos h0, if_pos (by simp; omega), if_pos (by simp; omega), show rd [0, 1, 1, 1, 0, (-1), (-1), (-1)] sd = dxV sd from rfl, show rd [(-1), (-1), 0, 1, 1, 1, 0, (-1)] sd = dyV sd from rfl, w8 (by omega) (by omega), w8 (by omega) (by omega), impl_water hb]
  simp only [Option.bind_some]
  cases isW b (x + dxV sd) (y + dyV sd) <;> simp
theorem spec_once_tells {b : Bay} {g : Grd} (hg : groundsB b g = true) {x y ch : Int} (lo dr ki : Int) (hw : isW b x y = true) (hc0 : 0 ≤ ch) (hc1 : ch ≤ 127) {f sd : Int} (hf : b8 f) (h0 : 0 ≤ sd) (h1 : sd ≤ 7) {k : Nat} (hk : 6 ≤ k) :
  spec_l07Once.f k b g x y ch lo dr ki f sd = some ((driftV b g x y ch f sd).1, (driftV b g x y ch f sd).2.1, ch, lo, dr, ki, (driftV b g x y ch f sd).2.2.2) := by
 have hb := (groundsB_true hg).1
 obtain ⟨x0, x1, y0, y1⟩ := isP_16 hb (isW_isP hw).1
 obtain ⟨⟨a, b'⟩, c, d⟩ := dx_1 h0 h1
 unfold spec_l07Once.f spec_l07Drags.f driftV
 rw [spec_hold_tells hg lo dr ki hw hc0 hc1]
 simp only [Option.bind_some]
 rw [ws hf]
 by_cases hh : f ≤ holdV b g x y ch
 ·rw [if_pos hh, if_neg (by simp; omega)]
 ·rw [if_neg hh, if_pos (by simp; omega), spec_side x0 x1 y0 y1 h0 h1 hk]
  simp only [Option.bind_some]
  rw [spec_is b ⟨by omega, by omega⟩ ⟨by omega, by omega⟩]
  simp only [Option.bind_some, isW]
  by_cases hp : isP b (x + dxV sd) (y + dyV sd) = true
  case neg =>
   rw [if_neg hp]
   have hp' : isP b (x + dxV sd) (y + dyV sd) = false := by simpa using hp
   simp [hp']
  case pos =>
   obtain ⟨p0, p1, p2, p3⟩ := isP_16 hb hp
   have dd := dep_30 hb p0 p1 p2 p3
   unfold spec_l01Depth.f
   rw [if_pos hp, depO_in b p0 p1 p2 p3]
   simp only [Option.bind_some]
   by_cases hz : dep b (x + dxV sd) (y + dyV sd) = 0
   ·simp [hp, hz]
   ·have : 0 < dep b (x + dxV sd) (y + dyV sd) := by omega
    simp [hp, hz, this]
end Go.Proofs.Ytmhmfhdmeedcfaa.G.PB
end
section
namespace Go.Proofs.Ytmhmfhdmeedcfaa.G.PB
open Go.RowKit M Go.Proofs.Ytmhmfhdmeedcfaa.PL Go.Proofs.YtmhmfhdmeedcfaaW.PrintWords Go.Proofs.YtmhmfhdmeedcfaaW.PrintMore
set_option linter.unusedSimpArgs false
set_option linter.unusedVariables false
abbrev WdD := S78
abbrev PlD := S42
def dragsV (b : Bay) (g : Grd) (x y ch : Int) (ag : Bool) (f : Int) : Bool := !ag && decide (holdV b g x y ch < f)
def hourV (b : Bay) (g : Grd) (x y ch : Int) (ag : Bool) (f sd : Int) : Int × Int × Bool :=
 if ag = true then (x, y, true) else ((driftV b g x y ch f sd).1, (driftV b g x y ch f sd).2.1, (driftV b g x y ch f sd).2.2.2)
theorem driftV_isW {b : Bay} {g : Grd} {x y ch f sd : Int} (hw : isW b x y = true) : isW b (driftV b g x y ch f sd).1 (driftV b g x y ch f sd).2.1 = true := by
 unfold driftV
 split
 ·exact hw
 ·split
  ·assumption
  ·exact hw
theorem hourV_isW {b : Bay} {g : Grd} {x y ch f sd : Int} {ag : Bool} (hw : isW b x y = true) : isW b (hourV b g x y ch ag f sd).1 (hourV b g x y ch ag f sd).2.1 = true := by
 unfold hourV
 split
 ·exact hw
 ·exact driftV_isW hw
theorem driftV_moves {b : Bay} {g : Grd} {x y ch f sd : Int} : (driftV b g x y ch f sd).2.2.1 = decide (holdV b g x y ch < f) := by
 unfold driftV
 by_cases hh : f ≤ holdV b g x y ch
 ·rw [if_pos hh]; simp; omega
 ·rw [if_neg hh]; split <;> (simp; omega)
theorem driftV_stays {b : Bay} {g : Grd} {x y ch f sd : Int} (hh : f ≤ holdV b g x y ch) : driftV b g x y ch f sd = (x, y, false, false) := by
 unfold driftV; rw [if_pos hh]
theorem spec_drags_tells {b : Bay} {g : Grd} (hg : groundsB b g = true) {x y ch : Int} (lo dr ki : Int) (hw : isW b x y = true) (hc0 : 0 ≤ ch) (hc1 : ch ≤ 127) {f : Int} (sd : Int) (hf : b8 f) :
  spec_l07Drags.f b g x y ch lo dr ki f sd = some (decide (holdV b g x y ch < f)) := by
 unfold spec_l07Drags.f
 rw [spec_hold_tells hg lo dr ki hw hc0 hc1]
 simp only [Option.bind_some]
 rw [ws hf]
def firstV (b : Bay) (g : Grd) (x y ch : Int) (ag : Bool) (f fi n : Int) : Int := if dragsV b g x y ch ag f = true then (if fi < 0 then n else fi) else fi
def groundV (b : Bay) (g : Grd) (x y ch : Int) (ag : Bool) (f sd gr n : Int) : Int := if ag = true then gr else if (driftV b g x y ch f sd).2.2.2 = true then n else gr
theorem spec_hour_tells {b : Bay} {g : Grd} (hg : groundsB b g = true) {x y ch : Int} (lo dr ki : Int) (hw : isW b x y = true) (hc0 : 0 ≤ ch) (hc1 : ch ≤ 127) (ag : Bool) (fi gr n : Int) (v : Value) {f sd : Int} (hf : b8 f) (h0 : 0 ≤ sd) (h1 : sd ≤ 7) {k : Nat} (hk : 20 ≤ k) :
  spec_l07Drift_hour.f k x y ch lo dr ki ag fi gr v b g f sd n = some ((hourV b g x y ch ag f sd).1, (hourV b g x y ch ag f sd).2.1, ch, lo, dr, ki, (hourV b g x y ch ag f sd).2.2, firstV b g x y ch ag f fi n, groundV b g x y ch ag f sd gr n) := by
 obtain ⟨m, rfl⟩ : ∃ m, k = m + 6 + 1 + 1 + 1 + 1 := ⟨k - 10, by omega⟩
 unfold spec_l07Drift_hour.f hourV firstV groundV dragsV
 cases ag
 ·rw [if_neg (by simp), spec_drags_tells hg lo dr ki hw hc0 hc1 sd hf]
  simp only [Option.bind_some, spec_l07Drift_hour.j0]
  by_cases hh : f ≤ holdV b g x y ch
  ·rw [if_neg (by simp; omega), driftV_stays hh, spec_l07Drift_hour.j3]
   have : ¬ holdV b g x y ch < f := by omega
   simp [this]
  ·have hlt : holdV b g x y ch < f := by omega
   rw [if_pos (by simp; omega)]
   simp only [spec_l07Drift_hour.j1]
   rw [spec_once_tells hg lo dr ki hw hc0 hc1 hf h0 h1 (by omega)]
   simp only [Option.bind_some, spec_l07Drift_hour.j2, spec_l07Drift_hour.j3]
   by_cases hfi : fi < 0 <;> cases (driftV b g x y ch f sd).2.2.2 <;> simp [hlt, hfi]
 ·rw [if_pos rfl, spec_l07Drift_hour.j0, if_neg (by simp), spec_l07Drift_hour.j3]
  simp
theorem impl_hour_tells {b : Bay} {g : Grd} (hg : groundsB b g = true) {x y ch : Int} (lo dr ki : Int) (hw : isW b x y = true) (hc0 : 0 ≤ ch) (hc1 : ch ≤ 127) (ag : Bool) {f sd : Int} (hf : b8 f) (h0 : 0 ≤ sd) (h1 : sd ≤ 7) :
  impl_drifting_hour.f x y ch lo dr ki ag b g f sd = some (dragsV b g x y ch ag f, (hourV b g x y ch ag f sd).1, (hourV b g x y ch ag f sd).2.1, ch, lo, dr, ki, (hourV b g x y ch ag f sd).2.2) := by
 unfold impl_drifting_hour.f hourV dragsV
 cases ag
 ·rw [if_neg (by simp), impl_drift_tells hg lo dr ki hw hc0 hc1 hf h0 h1]
  simp only [Option.bind_some]
  rw [driftV_moves]
  simp
 ·simp
def traceV (b : Bay) (g : Grd) (ch : Int) : List WdD → Int → Int → Bool → List PlD
 | [], _, _, _ => []
 | w :: ws, x, y, ag => ⟨(hourV b g x y ch ag w.f0 w.f1).1, (hourV b g x y ch ag w.f0 w.f1).2.1⟩ :: traceV b g ch ws (hourV b g x y ch ag w.f0 w.f1).1 (hourV b g x y ch ag w.f0 w.f1).2.1 (hourV b g x y ch ag w.f0 w.f1).2.2
theorem traceV_length (b : Bay) (g : Grd) (ch : Int) : ∀ (l : List WdD) (x y : Int) (ag : Bool), (traceV b g ch l x y ag).length = l.length
 | [], _, _, _ => rfl
 | w :: ws, _, _, _ => by simp [traceV, traceV_length b g ch ws]
theorem vW_b8 {w : WdD} (h : vW w = true) : b8 w.f0 ∧ 0 ≤ w.f1 ∧ w.f1 ≤ 7 := by
 unfold vW windB inB at h; simp at h; unfold b8; omega
theorem spec_trace {b : Bay} {g : Grd} (hg : groundsB b g = true) {ch : Int} (lo dr ki : Int) (hc0 : 0 ≤ ch) (hc1 : ch ≤ 127) :
  ∀ (l : List WdD) (n x y : Int) (ag : Bool) (fi gr : Int) (acc : List PlD), l.all vW = true → isW b x y = true → acc.length + l.length < 1000000 →
   ∃ x' y' ag' fi' gr', allDrift b g l n x y ch lo dr ki ag fi gr acc = some (x', y', ch, lo, dr, ki, ag', fi', gr', acc ++ traceV b g ch l x y ag)
 | [], n, x, y, ag, fi, gr, acc, _, _, _ => ⟨x, y, ag, fi, gr, by simp [allDrift, traceV]⟩
 | w :: ws, n, x, y, ag, fi, gr, acc, hv, hw, hl => by
  simp only [List.all_cons, Bool.and_eq_true] at hv
  simp only [List.length_cons] at hl
  obtain ⟨b1, b2, b3⟩ := vW_b8 hv.1
  obtain ⟨x', y', ag', fi', gr', e⟩ := spec_trace hg lo dr ki hc0 hc1 ws (n + 1) (hourV b g x y ch ag w.f0 w.f1).1 (hourV b g x y ch ag w.f0 w.f1).2.1 (hourV b g x y ch ag w.f0 w.f1).2.2 (firstV b g x y ch ag w.f0 fi n) (groundV b g x y ch ag w.f0 w.f1 gr n) (acc ++ [⟨(hourV b g x y ch ag w.f0 w.f1).1, (hourV b g x y ch ag w.f0 w.f1).2.1⟩]) hv.2 (hourV_isW hw) (by simp; omega)
  refine ⟨x', y', ag', fi', gr', ?_⟩
  rw [allDrift, spec_hour_tells hg lo dr ki hw hc0 hc1 ag fi gr n _ b1 b2 b3 (by omega)]
  simp only [Option.bind_some]
  rw [if_pos (by omega), e, traceV]
  simp
theorem impl_trace {b : Bay} {g : Grd} (hg : groundsB b g = true) {ch : Int} (lo dr ki : Int) (hc0 : 0 ≤ ch) (hc1 : ch ≤ 127) {L : List WdD} (hL : L.length ≤ 48) (hv : L.all vW = true) (d : Nat) :
  ∀ (k i : Nat) (x y : Int) (ag : Bool) (acc : List PlD), i + d = L.length → acc.length ≤ i → d < k → isW b x y = true →
   impl_driftAll.l0 k acc L L.length i b g x y ch lo dr ki ag = some (acc ++ traceV b g ch (L.drop i) x y ag) := by
 induction d with
 | zero =>
  intro k i x y ag acc hi ha hk hw
  obtain ⟨k, rfl⟩ : ∃ m, k = m + 1 := ⟨k - 1, by omega⟩
  simp only [impl_driftAll.l0]; rw [if_neg (by omega), List.drop_of_length_le (by omega)]; simp [traceV]
 | succ d ih =>
  intro k i x y ag acc hi ha hk hw
  obtain ⟨k, rfl⟩ : ∃ m, k = m + 1 := ⟨k - 1, by omega⟩
  obtain ⟨b1, b2, b3⟩ := vW_b8 (List.all_eq_true.mp hv _ (List.getElem_mem (by omega : i < L.length)))
  simp only [impl_driftAll.l0]; rw [if_pos (by omega), if_pos (by omega), if_pos (by omega), rdW (by omega), impl_hour_tells hg lo dr ki hw hc0 hc1 ag b1 b2 b3, List.drop_eq_getElem_cons (by omega : i < L.length)]
  simp only [Option.bind_some]
  rw [if_pos (by omega), wnx (by omega), ih k (i + 1) _ _ _ _ (by omega) (by simp; omega) (by omega) (hourV_isW hw), traceV]
  simp
end Go.Proofs.Ytmhmfhdmeedcfaa.G.PB
end
section
namespace Go.Proofs.Ytmhmfhdmeedcfaa.G.PB
open Go.RowKit M Go.Proofs.Ytmhmfhdmeedcfaa.PL Go.Proofs.YtmhmfhdmeedcfaaW.PrintWords Go.Proofs.YtmhmfhdmeedcfaaW.PrintMore
set_option linter.unusedSimpArgs false
set_option linter.unusedVariables false
def pP (x y : Int) (q : PlD) : Bool := q.f0 == x && q.f1 == y
def stepV (P : List PlD) (H : List Int) (x y : Int) : List PlD × List Int :=
 if P.findIdx (pP x y) < P.length then (P, H.set (P.findIdx (pP x y)) (wrap64 (rd H (P.findIdx (pP x y)) + 1)))
 else (P ++ [⟨x, y⟩], (H ++ [0]).set P.length (wrap64 (rd (H ++ [0]) P.length + 1)))
def hoursF : List PlD → List PlD → List Int → List PlD × List Int × Int
 | [], P, H => (P, H, 0)
 | p :: T, P, H => hoursF T (stepV P H p.f0 p.f1).1 (stepV P H p.f0 p.f1).2
theorem stepV_length {P : List PlD} {H : List Int} (h : H.length = P.length) (x y : Int) : (stepV P H x y).2.length = (stepV P H x y).1.length ∧ (stepV P H x y).1.length ≤ P.length + 1 := by
 unfold stepV; split <;> simp [h]
theorem hoursF_length : ∀ (T P : List PlD) (H : List Int), H.length = P.length → (hoursF T P H).1.length ≤ P.length + T.length ∧ (hoursF T P H).2.1.length ≤ P.length + T.length
 | [], P, H, h => by simp [hoursF, h]
 | p :: T, P, H, h => by
  have a := stepV_length h p.f0 p.f1
  have b := hoursF_length T (stepV P H p.f0 p.f1).1 (stepV P H p.f0 p.f1).2 a.1
  simp only [hoursF, List.length_cons]; omega
theorem rdPlD {l : List PlD} {i : Nat} (h : i < l.length) : rd_T42 l (i : Int) = l[i] := by simp [rd_T42, h]
theorem place_loop (l : List PlD) (hl : l.length ≤ 10000000) (x y : Int) (d : Nat) : ∀ (k i : Nat), i + d = l.length → d < k → impl_Place.l0 k l l.length i x y = some (if i + (l.drop i).findIdx (pP x y) < l.length then ((i + (l.drop i).findIdx (pP x y) : Nat) : Int) else -1) := by
 induction d with
 | zero =>
  intro k i hi hk
  obtain ⟨k, rfl⟩ : ∃ m, k = m + 1 := ⟨k - 1, by omega⟩
  simp only [impl_Place.l0]; rw [if_neg (by omega), List.drop_of_length_le (by omega), if_neg (by simp; omega)]
 | succ d ih =>
  intro k i hi hk
  obtain ⟨k, rfl⟩ : ∃ m, k = m + 1 := ⟨k - 1, by omega⟩
  simp only [impl_Place.l0]
  rw [if_pos (by omega), if_pos (by omega), if_pos (by omega), rdPlD (by omega), List.drop_eq_getElem_cons (by omega : i < l.length), List.findIdx_cons]
  have hs : (x == (l[i]'(by omega)).f0 && y == (l[i]'(by omega)).f1) = pP x y (l[i]'(by omega)) := by simp only [pP, Bool.beq_comm (a := x), Bool.beq_comm (a := y)]
  rw [hs]
  cases hp : pP x y (l[i]'(by omega))
  ·rw [if_neg (by simp), wnx (by omega), ih k (i + 1) (by omega) (by omega)]
   simp only [cond_false]
   rw [show i + 1 + (l.drop (i + 1)).findIdx (pP x y) = i + ((l.drop (i + 1)).findIdx (pP x y) + 1) from by omega]
  ·rw [if_pos rfl]
   simp only [cond_true, Nat.add_zero]
   rw [if_pos (by omega)]
theorem place_tells {l : List PlD} (hl : l.length ≤ 10000000) (x y : Int) {k : Nat} (hk : l.length < k) : impl_Place.f k l x y = some (if l.findIdx (pP x y) < l.length then (l.findIdx (pP x y) : Int) else -1) := by
 have := place_loop l hl x y l.length k 0 (by omega) (by omega)
 unfold impl_Place.f
 simpa using this
theorem impl_hours_loop {T : List PlD} (hT : T.length ≤ 48) (d : Nat) : ∀ (k i : Nat) (P : List PlD) (H : List Int), i + d = T.length → P.length ≤ i → H.length = P.length → d + 60 < k → impl_HoursAtEach.l0 k P H T T.length i = some (hoursF (T.drop i) P H) := by
 induction d with
 | zero =>
  intro k i P H hi hP hH hk
  obtain ⟨k, rfl⟩ : ∃ m, k = m + 1 := ⟨k - 1, by omega⟩
  simp only [impl_HoursAtEach.l0]; rw [if_neg (by omega), List.drop_of_length_le (by omega)]; rfl
 | succ d ih =>
  intro k i P H hi hP hH hk
  obtain ⟨k, rfl⟩ : ∃ m, k = m + 1 := ⟨k - 1, by omega⟩
  simp only [impl_HoursAtEach.l0]
  rw [if_pos (by omega), if_pos (by omega), if_pos (by omega), rdPlD (by omega), place_tells (by omega) _ _ (by omega), List.drop_eq_getElem_cons (by omega : i < T.length)]
  simp only [Option.bind_some, hoursF]
  have sl := stepV_length hH (T[i]'(by omega)).f0 (T[i]'(by omega)).f1
  have ih' := ih k (i + 1) _ _ (by omega) (by omega : (stepV P H (T[i]'(by omega)).f0 (T[i]'(by omega)).f1).1.length ≤ i + 1) sl.1 (by omega)
  rw [← ih', wnx (by omega)]
  unfold stepV
  by_cases hf : P.findIdx (pP (T[i]'(by omega)).f0 (T[i]'(by omega)).f1) < P.length
  ·rw [if_pos hf, if_neg (by omega), if_pos (by omega), if_pos (by omega), if_pos hf]
   simp
  ·rw [if_neg hf, if_pos (by omega), if_pos (by omega), if_pos (by omega), if_pos (by omega), if_pos (by simp; omega), if_neg hf]
   simp
theorem spec_pos {T : List PlD} (hT : T.length ≤ 48) {P : List PlD} {H : List Int} (hP : P.length ≤ 48) (hH : H.length = P.length) {i : Nat} (hi : i < T.length) (K : Nat) (R : List PlD × List Int × Int) (s0 s1 s2 s3 s4 s5 : Int) (s6 : Bool) (s7 s8 : Int)
  (hR : ∀ k, K ≤ k → spec_HoursAtEach.l0 k (stepV P H (T[i]).f0 (T[i]).f1).1 (stepV P H (T[i]).f0 (T[i]).f1).2 ((i + 1 : Nat) : Int) s0 s1 s2 s3 s4 s5 s6 s7 s8 T = some R) (d : Nat) :
  ∀ (k j : Nat), j + d = P.length → P.findIdx (pP (T[i]).f0 (T[i]).f1) = j + (P.drop j).findIdx (pP (T[i]).f0 (T[i]).f1) → K + d < k → spec_HoursAtEach.l1 k P H i j s0 s1 s2 s3 s4 s5 s6 s7 s8 T = some R := by
 induction d with
 | zero =>
  intro k j hj hf hk
  obtain ⟨k, rfl⟩ : ∃ m, k = m + 1 := ⟨k - 1, by omega⟩
  have hjj : j = P.length := by omega
  subst hjj
  rw [List.drop_of_length_le (by omega)] at hf
  simp only [List.findIdx_nil, Nat.add_zero] at hf
  have h := hR k (by omega)
  unfold stepV at h
  rw [if_neg (by omega)] at h
  simp only [spec_HoursAtEach.l1]
  rw [if_neg (by omega), if_pos trivial, if_pos (by omega), if_pos (by omega), if_pos (by omega), if_pos (by omega)]
  simp only [Option.bind_some]
  rw [if_pos (by omega), if_pos (by simp; omega), rdPlD (by omega), wnx (by omega)]
  simpa using h
 | succ d ih =>
  intro k j hj hf hk
  obtain ⟨k, rfl⟩ : ∃ m, k = m + 1 := ⟨k - 1, by omega⟩
  rw [List.drop_eq_getElem_cons (by omega : j < P.length), List.findIdx_cons] at hf
  simp only [spec_HoursAtEach.l1]
  rw [if_pos (by omega), if_pos (by omega), if_pos (by omega), if_pos (by omega), rdPlD (by omega), rdPlD (by omega)]
  cases hp : pP (T[i]).f0 (T[i]).f1 (P[j]'(by omega))
  ·rw [hp] at hf
   simp only [cond_false] at hf
   have hne : (!((P[j]'(by omega)).f0 == (T[i]).f0) || !((P[j]'(by omega)).f1 == (T[i]).f1)) = true := by
    unfold pP at hp; rw [← Bool.not_and, hp]; rfl
   rw [if_pos hne, wnx (by omega)]
   exact ih k (j + 1) (by omega) (by omega) (by omega)
  ·rw [hp] at hf
   simp only [cond_true, Nat.add_zero] at hf
   have hne : ¬ (!((P[j]'(by omega)).f0 == (T[i]).f0) || !((P[j]'(by omega)).f1 == (T[i]).f1)) = true := by
    unfold pP at hp; rw [← Bool.not_and, hp]; simp
   have h := hR k (by omega)
   unfold stepV at h
   rw [if_pos (by omega), hf] at h
   rw [if_neg hne, if_neg (by omega), if_pos (by omega), wnx (by omega)]
   simpa using h
theorem spec_hours_loop {T : List PlD} (hT : T.length ≤ 48) (s0 s1 s2 s3 s4 s5 : Int) (s6 : Bool) (s7 s8 : Int) (d : Nat) : ∀ (k i : Nat) (P : List PlD) (H : List Int), i + d = T.length → P.length ≤ i → H.length = P.length → d * 60 < k → spec_HoursAtEach.l0 k P H i s0 s1 s2 s3 s4 s5 s6 s7 s8 T = some (hoursF (T.drop i) P H) := by
 induction d with
 | zero =>
  intro k i P H hi hP hH hk
  obtain ⟨k, rfl⟩ : ∃ m, k = m + 1 := ⟨k - 1, by omega⟩
  simp only [spec_HoursAtEach.l0]; rw [if_neg (by omega), List.drop_of_length_le (by omega)]; rfl
 | succ d ih =>
  intro k i P H hi hP hH hk
  obtain ⟨k, rfl⟩ : ∃ m, k = m + 1 := ⟨k - 1, by omega⟩
  simp only [spec_HoursAtEach.l0]
  rw [if_pos (by omega), List.drop_eq_getElem_cons (by omega : i < T.length)]
  have sl := stepV_length hH (T[i]'(by omega)).f0 (T[i]'(by omega)).f1
  have := spec_pos hT (P := P) (by omega) hH (i := i) (by omega) (d * 60 + 1) (hoursF (T.drop (i + 1)) (stepV P H (T[i]'(by omega)).f0 (T[i]'(by omega)).f1).1 (stepV P H (T[i]'(by omega)).f0 (T[i]'(by omega)).f1).2) s0 s1 s2 s3 s4 s5 s6 s7 s8 (fun k hk => ih k (i + 1) _ _ (by omega) (by omega) sl.1 (by omega)) P.length k 0 (by omega) (by simp) (by omega)
  rw [show ((0 : Nat) : Int) = 0 from rfl] at this
  rw [this]
  rfl
end Go.Proofs.Ytmhmfhdmeedcfaa.G.PB
end
section
namespace Go.Proofs.Ytmhmfhdmeedcfaa.G.PS
open Go.RowKit Go.Proofs.Ytmhmfhdmeedcfaa.PL Go.Proofs.YtmhmfhdmeedcfaaW.PrintWords
set_option linter.unusedVariables false
set_option linter.unusedSimpArgs false
theorem eqInt64_loop (l : List Int) (hl : l.length ≤ 10000000) (d : Nat) : ∀ (k i : Nat), i + d = l.length → d < k → laws_eqInt64S.l0 k l l i = some true := by
 induction d with
 | zero =>
  intro k i hi hk
  obtain ⟨k, rfl⟩ : ∃ m, k = m + 1 := ⟨k - 1, by omega⟩
  simp only [laws_eqInt64S.l0]; rw [if_neg (by omega)]
 | succ d ih =>
  intro k i hi hk
  obtain ⟨k, rfl⟩ : ∃ m, k = m + 1 := ⟨k - 1, by omega⟩
  simp only [laws_eqInt64S.l0]; rw [if_pos (by omega), if_pos (by omega), if_pos (by omega)]
  rw [if_pos trivial, wnx (by omega)]
  exact ih k (i + 1) (by omega) (by omega)
theorem eqInt64_tells {l : List Int} (hl : l.length ≤ 10000000) {k : Nat} (hk : l.length < k) : laws_eqInt64S.f k l l = some true := by
 unfold laws_eqInt64S.f; rw [if_pos rfl]; exact eqInt64_loop l hl l.length k 0 (by omega) hk
end Go.Proofs.Ytmhmfhdmeedcfaa.G.PS
end
section
namespace Go.Proofs.Ytmhmfhdmeedcfaa.G.PS
open Go.RowKit Go.Proofs.Ytmhmfhdmeedcfaa.PL Go.Proofs.YtmhmfhdmeedcfaaW.PrintWords
set_option linter.unusedVariables false
set_option linter.unusedSimpArgs false
def upB (b : Int) (m : Nat) : List Int := (List.range m).map fun (i : Nat) => b + (i : Int)
theorem upB_succ (b : Int) (m : Nat) : upB b (m + 1) = upB b m ++ [b + (m : Int)] := by simp [upB, List.range_succ]
theorem upB_length (b : Int) (m : Nat) : (upB b m).length = m := by simp [upB]
theorem markB_loop (b : Int) (hb : 0 ≤ b) (hb1 : b ≤ 100000000) (l : List Int) (hl : l.length ≤ 10000000) (d : Nat) : ∀ (k i : Nat), i + d = l.length → d < k → laws_markInt64S.l0 k (upB b i ++ l.drop i) (b + i) i = some (b + (l.length : Int), upB b l.length) := by
 induction d with
 | zero =>
  intro k i hi hk
  obtain ⟨k, rfl⟩ : ∃ m, k = m + 1 := ⟨k - 1, by omega⟩
  have e : i = l.length := by omega
  subst e
  simp only [laws_markInt64S.l0]; rw [if_neg (by simp [upB_length])]; simp
 | succ d ih =>
  intro k i hi hk
  obtain ⟨k, rfl⟩ : ∃ m, k = m + 1 := ⟨k - 1, by omega⟩
  have hlen : (upB b i ++ l.drop i).length = l.length := by simp [upB_length]; omega
  have hset : (upB b i ++ l.drop i).set ((i : Int)).toNat (b + i) = upB b (i + 1) ++ l.drop (i + 1) := by
   rw [Int.toNat_natCast, List.set_append_right _ _ (by rw [upB_length]; omega), upB_length, Nat.sub_self, List.drop_eq_getElem_cons (by omega : i < l.length), List.set_cons_zero, upB_succ, List.append_assoc]
   rfl
  simp only [laws_markInt64S.l0]; rw [hlen, if_pos (by omega), if_pos (by omega), hset, wnx (by omega), wsm (by omega) (by omega)]
  have := ih k (i + 1) (by omega) (by omega)
  rw [show b + (i : Int) + 1 = b + ((i + 1 : Nat) : Int) by omega]
  exact this
theorem markB_tells {b : Int} (hb : 0 ≤ b) (hb1 : b ≤ 100000000) {l : List Int} (hl : l.length ≤ 10000000) {k : Nat} (hk : l.length < k) : laws_markInt64S.f k l b = some (b + (l.length : Int), upB b l.length) := by
 have := markB_loop b hb hb1 l hl l.length k 0 (by omega) hk
 simpa [upB, laws_markInt64S.f] using this
theorem heldB_loop (b : Int) (hb : 0 ≤ b) (hb1 : b ≤ 100000000) (m : Nat) (hl : m ≤ 10000000) (d : Nat) : ∀ (k i : Nat), i + d = m → d < k → laws_heldInt64S.l0 k (upB b m) (b + i) i = some (b + (m : Int)) := by
 induction d with
 | zero =>
  intro k i hi hk
  obtain ⟨k, rfl⟩ : ∃ m, k = m + 1 := ⟨k - 1, by omega⟩
  simp only [laws_heldInt64S.l0]; rw [if_neg (by rw [upB_length]; omega)]; simp; omega
 | succ d ih =>
  intro k i hi hk
  obtain ⟨k, rfl⟩ : ∃ m, k = m + 1 := ⟨k - 1, by omega⟩
  have hr : rd (upB b m) (i : Int) = b + i := by rw [rd_at (by rw [upB_length]; omega)]; simp [upB]
  simp only [laws_heldInt64S.l0]; rw [if_pos (by rw [upB_length]; omega), if_pos (by omega), hr, if_pos rfl, wnx (by omega), wsm (by omega) (by omega)]
  have := ih k (i + 1) (by omega) (by omega)
  rw [show b + (i : Int) + 1 = b + ((i + 1 : Nat) : Int) by omega]
  exact this
theorem heldB_tells {b : Int} (hb : 0 ≤ b) (hb1 : b ≤ 100000000) {m : Nat} (hl : m ≤ 10000000) {k : Nat} (hk : m < k) : laws_heldInt64S.f k (upB b m) b = some (b + (m : Int)) := by
 have := heldB_loop b hb hb1 m hl m k 0 (by omega) hk
 simpa [laws_heldInt64S.f] using this
end Go.Proofs.Ytmhmfhdmeedcfaa.G.PS
end
section
namespace Go.Proofs.Ytmhmfhdmeedcfaa.G.Pure
open Go.RowKit M Go.Proofs.Ytmhmfhdmeedcfaa.PL Go.Proofs.Ytmhmfhdmeedcfaa.G.PB Go.Proofs.Ytmhmfhdmeedcfaa.G.PS
set_option linter.unusedSimpArgs false
set_option linter.unusedVariables false
abbrev Wd := S78
abbrev Pl := S42
def hrsV (b : PB.Bay) (g : Grd) (x y ch lo dr ki : Int) (ws : List Wd) : List Pl × List Int × Int := if (validV b g x y ch lo dr ki && windsV ws) = true then hoursF (traceV b g ch ws x y false) [] [] else ([], [], 1)
theorem windsV_true {ws : List Wd} (h : windsV ws = true) : ws.all vW = true ∧ ws.length ≤ 48 := by
 unfold windsV at h; simpa using h
theorem hrsV_length (b : PB.Bay) (g : Grd) (x y ch lo dr ki : Int) (ws : List Wd) : (hrsV b g x y ch lo dr ki ws).1.length ≤ 256 ∧ (hrsV b g x y ch lo dr ki ws).2.1.length ≤ 256 := by
 unfold hrsV
 split
 ·rename_i h
  simp only [Bool.and_eq_true] at h
  have := (windsV_true h.2).2
  have := hoursF_length (traceV b g ch ws x y false) [] [] rfl
  rw [traceV_length] at this
  simp only [List.length_nil] at this; omega
 ·simp
theorem spec_tells {b : PB.Bay} {g : Grd} {x y ch lo dr ki : Int} {l : List Wd} (hl : l.length ≤ 10000000) (hok : l.all okW = true) {k : Nat} (hk : l.length + 4000 < k) (hx : b8 x) (hy : b8 y) (hc : b8 ch) (hlo : b8 lo) (hd : b8 dr) (hki : b8 ki) : spec_HoursAtEach.f k b g x y ch lo dr ki l = some (hrsV b g x y ch lo dr ki l) := by
 unfold spec_HoursAtEach.f hrsV
 rw [spec_valid (spec_winds_tells hl hok (by omega)) hx hy hc hlo hd hki]
 simp only [Option.bind_some]
 cases hv : validV b g x y ch lo dr ki
 ·simp
 ·cases hws : windsV l
  ·simp
  ·obtain ⟨hg, hb⟩ := validV_true hv
   obtain ⟨hw, h1, _⟩ := boatV_isW hb
   obtain ⟨hvw, h48⟩ := windsV_true hws
   obtain ⟨x', y', ag', fi', gr', e⟩ := spec_trace hg (ch := ch) lo dr ki (by omega) (by omega) l 0 x y false (-1) (-1) [] hvw hw (by simp; omega)
   simp only [Bool.and_true, if_true]
   unfold spec_l07All.f
   rw [if_pos (by omega), e]
   simp only [Option.bind_some, List.nil_append, List.length_nil]
   have hT := traceV_length b g ch l x y false
   have := spec_hours_loop (T := traceV b g ch l x y false) (by omega) x' y' ch lo dr ki ag' fi' gr' l.length k 0 [] [] (by omega) (by simp) rfl (by omega)
   rw [show ((0 : Nat) : Int) = 0 from rfl] at this
   rw [this]
   simp
theorem impl_tells {b : PB.Bay} {g : Grd} {x y ch lo dr ki : Int} {l : List Wd} (hl : l.length ≤ 10000000) (hok : l.all okW = true) {k : Nat} (hk : l.length + 4000 < k) : impl_HoursAtEach.f k b g x y ch lo dr ki l = some (hrsV b g x y ch lo dr ki l) := by
 unfold impl_HoursAtEach.f hrsV
 rw [impl_code hl (by omega)]
 simp only [Option.bind_some]
 cases hv : validV b g x y ch lo dr ki
 ·simp
 ·cases hws : windsV l
  ·simp
  ·obtain ⟨hg, hb⟩ := validV_true hv
   obtain ⟨hw, h1, _⟩ := boatV_isW hb
   obtain ⟨hvw, h48⟩ := windsV_true hws
   have := impl_trace hg (ch := ch) lo dr ki (by omega) (by omega) h48 hvw l.length k 0 x y false [] (by omega) (by simp) (by omega) hw
   rw [show ((0 : Nat) : Int) = 0 from rfl] at this
   simp only [Bool.and_true, if_true]
   unfold impl_driftAll.f
   rw [this]
   simp only [Option.bind_some, List.nil_append, List.drop_zero]
   have hT := traceV_length b g ch l x y false
   have := impl_hours_loop (T := traceV b g ch l x y false) (by omega) l.length k 0 [] [] (by omega) (by simp) rfl (by omega)
   rw [show ((0 : Nat) : Int) = 0 from rfl] at this
   rw [this]
   simp
theorem FnExactHoursAtEach : ∀ (o0 : O26) (o1 : O28) (a2_0 a2_1 a2_2 a2_3 a2_4 a2_5 : Int) (l3 : List S80), (Lit.int .i8 a2_0).wf = true → (Lit.int .i8 a2_1).wf = true → (Lit.int .i8 a2_2).wf = true → (Lit.int .i8 a2_3).wf = true → (Lit.int .i8 a2_4).wf = true → (Lit.int .i8 a2_5).wf = true → l3.length ≤ 9223372036854775807 → (∀ x ∈ l3, ∃ z : Nat → Int, x = (⟨z 0, z 1⟩ : S80) ∧ ∀ j, j < 2 → (Lit.int (([.i8, .i8] : List IntKind).getD j .i64) (z j)).wf = true) → ∃ k, laws_FnExactHoursAtEach.f k o0 o1 a2_0 a2_1 a2_2 a2_3 a2_4 a2_5 l3 = some true := by
 intro b g x y ch lo dr ki l hx hy hc hlo hd hk hl hxs
 have hok := winds_ok hxs
 unfold laws_FnExactHoursAtEach.f laws_szWindS.f
 rw [sz_tellsW hl]
 by_cases hbig : (1048576 : Int) - (l.length : Int) < 0
 ·exact ⟨0, by rw [if_pos hbig]; rfl⟩
 obtain ⟨K, hK⟩ : ∃ K, K = 3000000 := ⟨_, rfl⟩
 refine ⟨K + 1 + 1 + 1, ?_⟩
 obtain ⟨M, hM⟩ : ∃ M, M = l.map convWind := ⟨_, rfl⟩
 have hMl : M.length ≤ 1048576 := by rw [hM, List.length_map]; omega
 have hto : ∀ k, l.length < k → laws_toWindS.f k l = some M := fun k hk => by rw [hM]; exact toWind_tells (by omega) hk
 rw [← hM] at hok
 have hv := hrsV_length b g x y ch lo dr ki M
 obtain ⟨V, hV⟩ : ∃ V, V = hrsV b g x y ch lo dr ki M := ⟨_, rfl⟩
 have hsp : ∀ k, M.length + 4000 < k → spec_HoursAtEach.f k b g x y ch lo dr ki M = some V := fun k h => by rw [hV]; exact spec_tells (by omega) hok h (b8_of hx) (b8_of hy) (b8_of hc) (b8_of hlo) (b8_of hd) (b8_of hk)
 have him : ∀ k, M.length + 4000 < k → impl_HoursAtEach.f k b g x y ch lo dr ki M = some V := fun k h => by rw [hV]; exact impl_tells (by omega) hok h
 rw [← hV] at hv
 clear hM
 rw [if_neg hbig]
 simp only [Option.bind_some]
 rw [if_neg hbig]
 simp only [laws_toBay.f, laws_toGrounds.f, laws_toBoat.f, laws_toPlace.f, Option.bind_some]
 rw [hto _ (by omega)]
 simp only [Option.bind_some]
 rw [hsp _ (by omega)]
 simp only [Option.bind_some]
 rw [him _ (by omega)]
 simp only [Option.bind_some]
 rw [eqP_tells (by omega) (by omega)]
 simp only [Option.bind_some, if_true]
 rw [eqInt64_tells (by omega) (by omega)]
 simp only [Option.bind_some, if_true, bne_self_eq_false, laws_FnExactHoursAtEach.j0]
 rw [if_neg (by simp), hto _ (by omega)]
 simp only [Option.bind_some]
 rw [eqWind_tells (by omega) (by omega)]
 obtain ⟨r, hr⟩ := markWind_tells (l := M) (k := K + 1 + 1) (by omega) (by omega)
 simp only [Option.bind_some, if_true]
 rw [hr]
 simp only [Option.bind_some]
 rw [if_neg (by omega), eqP_tells (by omega) (by omega)]
 simp only [Option.bind_some, if_true]
 rw [eqInt64_tells (by omega) (by omega)]
 simp only [Option.bind_some, if_true, bne_self_eq_false, laws_FnExactHoursAtEach.j1]
 rw [if_neg (by simp), markP_tells (by omega) (by omega)]
 simp only [Option.bind_some]
 rw [markB_tells (by omega) (by omega) (by omega) (by omega)]
 simp only [Option.bind_some]
 rw [heldP_tells (by omega) (by omega)]
 simp only [Option.bind_some]
 rw [if_neg (by omega), heldB_tells (by omega) (by omega) (by omega) (by omega)]
 simp only [Option.bind_some]
 rw [if_neg (by omega)]
 simp only [eq_self, if_true]
 simp only [laws_toBay.f, laws_toGrounds.f, laws_toBoat.f, laws_toPlace.f, Option.bind_some]
 rw [hto _ (by omega)]
 simp only [Option.bind_some]
 rw [him _ (by omega)]
 simp only [Option.bind_some]
 rw [eqP_tells (by omega) (by omega)]
 simp only [Option.bind_some, if_true]
 rw [eqInt64_tells (by omega) (by omega)]
 simp only [Option.bind_some, if_true, bne_self_eq_false, laws_FnExactHoursAtEach.j2]
 rw [if_neg (by simp), heldP_tells (by omega) (by omega)]
 simp only [Option.bind_some]
 rw [if_neg (by omega), heldB_tells (by omega) (by omega) (by omega) (by omega)]
 simp only [Option.bind_some]
 rw [if_neg (by omega)]
 simp only [eq_self, if_true]
end Go.Proofs.Ytmhmfhdmeedcfaa.G.Pure
end
