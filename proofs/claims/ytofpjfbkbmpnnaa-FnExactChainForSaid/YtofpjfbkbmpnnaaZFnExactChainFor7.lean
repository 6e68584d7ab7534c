/- FnExactChainFor returns true, whatever the input, and leaves its arguments as they were. -/
import Derived.Test.YtofpjfbkbmpnnaaProg
import Derived.Below
import Derived.Deep.Draws
import Derived.Deep.AppendLies
import Derived.Maps.AppendAt
import Derived.OwnWalk
import Derived.Laws.BytesArg
import Derived.Laws.MakeOwn
import Derived.Laws.OwnMore
import Derived.Deep.OwnRows
import Derived.Tactics
import Derived.Lib.ConvBytes
import Derived.Laws.Slices
import Derived.WalkKit
import Derived.KernelRfl
import Derived.RowKit3
import Derived.Deep.LoopGhost
import Derived.Deep.QuietTactic
import Derived.BigQuiet
import Derived.WideLaws
import Derived.Deep.DeepCutAuto
import Derived.Deep.CutBlock
import Derived.Deep.RegionHeld3
import Derived.Laws.Rows
import Derived.Lib.AppendStr
import Derived.ArgAppend
import Derived.Laws.IdiomCopy
import Derived.OrdersHeld
import Derived.Laws.BitsLemmas
import Derived.RowKit
import Derived.Laws.StructEq
import Derived.Deep.Slices
import Derived.ChangeSame
import Derived.ChangeArms
import Derived.OpenShut
import Derived.ProofKit
import Derived.Laws.Tables
import Derived.Lib.Hide
import Derived.Laws.CopyOwn
import Derived.Laws.CopyRow
import Derived.Test.YtofpjfbkbmpnnaaRows
import Derived.ShutString
import Derived.ChangeOld
import Derived.SizedLaws
import Derived.Test.YtofpjfbkbmpnnaaZFnExactChainFor1
import Derived.Test.YtofpjfbkbmpnnaaZFnExactChainFor2
import Derived.Test.YtofpjfbkbmpnnaaZFnExactChainFor3
import Derived.Test.YtofpjfbkbmpnnaaZFnExactChainFor4
import Derived.Test.YtofpjfbkbmpnnaaZFnExactChainFor5
import Derived.Test.YtofpjfbkbmpnnaaZFnExactChainFor6
section
namespace Go.Proofs.Ytofpjfbkbmpnnaa.G
open Go.RowKit Go.Proofs.YtofpjfbkbmpnnaaW.PrintWords Go.Proofs.YtofpjfbkbmpnnaaW.PrintLast Go.Proofs.YtofpjfbkbmpnnaaW.PrintMore
attribute [local go_sem] max2_int min2_int max_two min_two max_three min_three max_four min_four   -- for this text's walks alone
set_option linter.unusedVariables false
set_option linter.unusedSimpArgs false
def laws_FnExactChainFor.j0 : Nat → List (S47) → List (S50) → Bool → Option (Bool)
  | 0, _, _, _ => none
  | k + 1, x3, x12, x52 => if x52 = true then (some false) else ((laws_toWindS.f k x3).bind fun t277 => ((laws_eqWindS.f k x12 t277).bind fun t280 => (if t280 = true then (some true) else (some false))))
def laws_FnExactChainFor.f (k : Nat) (a0 : O26) (a1 : O28) (a2_0 : Int) (a2_1 : Int) (a2_2 : Int) (a2_3 : Int) (a2_4 : Int) (a2_5 : Int) (l3 : List (S47)) : Option (Bool) := (laws_szWindS.f l3 1048576).bind fun t250 => (if t250 < 0 then (some true) else ((laws_toBay.f a0).bind fun t251 => ((laws_toGrounds.f a1).bind fun t252 => ((laws_toBoat.f a2_0 a2_1 a2_2 a2_3 a2_4 a2_5).bind fun bt253 => ((laws_toWindS.f k l3).bind fun t259 => ((spec_ChainFor.f k t251 t252 bt253.1 bt253.2.1 bt253.2.2.1 bt253.2.2.2.1 bt253.2.2.2.2.1 bt253.2.2.2.2.2 t259).bind fun bt262 => ((laws_toWindS.f k l3).bind fun t264 => ((laws_toBay.f a0).bind fun t267 => ((laws_toGrounds.f a1).bind fun t268 => ((laws_toBoat.f a2_0 a2_1 a2_2 a2_3 a2_4 a2_5).bind fun bt269 => ((impl_ChainFor.f k t267 t268 bt269.1 bt269.2.1 bt269.2.2.1 bt269.2.2.2.1 bt269.2.2.2.2.1 bt269.2.2.2.2.2 t264).bind fun bt275 => (if bt275.1 = bt262.1 then (laws_FnExactChainFor.j0 k l3 t264 (bt275.2 != bt262.2)) else (laws_FnExactChainFor.j0 k l3 t264 true)))))))))))))
def laws_FnExactChainFor.T5 : Bool × List (List Nat × List Nat) := (true, [([], []), ([0], [0]), ([], []), ([2, 1], [2]), ([], []), ([4, 3], [4]), ([], []), ([6, 5], [6]), ([1, 3, 5, 7, 7], [1, 3, 5, 7]), ([8], [8]), ([9], [9]), ([9], [9]), ([10, 8, 0, 1, 2, 3, 4, 5, 6, 7, 8, 9, 10], [10]), ([11, 12, 0, 1, 2, 3, 4, 5, 6, 7, 8, 9, 10, 11, 12], [11])])
def laws_FnExactChainFor.B5 : List Nat := [0, 1, 0, 7, 0, 31, 0, 127, 255, 511, 1023, 1023, 2047, 8191]
theorem laws_FnExactChainFor.tab5 : rtab .any (opsOf Try.f6 5) = laws_FnExactChainFor.T5 := by kernel_rfl
theorem laws_FnExactChainFor.bits5 : waitsOk laws_FnExactChainFor.T5.2 laws_FnExactChainFor.B5 = true := by kernel_rfl
def laws_FnExactChainFor.T7 : Bool × List (List Nat × List Nat) := (true, [([], []), ([0], [0]), ([], []), ([2, 1], [2]), ([], []), ([4, 3], [4]), ([], []), ([1, 3, 5, 6, 5], [1, 3, 5, 6]), ([7], [7]), ([8], [8]), ([8], [8]), ([9, 7, 0, 1, 2, 3, 4, 5, 6, 7, 8, 9], [9]), ([10, 11, 0, 1, 2, 3, 4, 5, 6, 7, 8, 9, 10, 11], [10])])
def laws_FnExactChainFor.B7 : List Nat := [0, 1, 0, 7, 0, 31, 0, 127, 255, 511, 511, 1023, 4095]
theorem laws_FnExactChainFor.tab7 : rtab .any (opsOf Try.f6 7) = laws_FnExactChainFor.T7 := by kernel_rfl
theorem laws_FnExactChainFor.bits7 : waitsOk laws_FnExactChainFor.T7.2 laws_FnExactChainFor.B7 = true := by kernel_rfl
set_option maxHeartbeats 8000000 in
set_option maxRecDepth 100000 in
theorem laws_FnExactChainFor.calls (k : Nat) (a0 : O26) (a1 : O28) (a2_0 : Int) (a2_1 : Int) (a2_2 : Int) (a2_3 : Int) (a2_4 : Int) (a2_5 : Int) (A3 : Option Addr) (c3 : Nat) (l3 : List (S47)) (r : Bool) (w : World) (hr3 : Kd.C k47 w A3 l3.length l3) (hc3 : l3.length ≤ c3) (h : laws_FnExactChainFor.f k a0 a1 a2_0 a2_1 a2_2 a2_3 a2_4 a2_5 l3 = some r) :
    Calls Try.prog 6 #[VO26 a0, VO28 a1, .agg #[.int .i8 a2_0, .int .i8 a2_1, .int .i8 a2_2, .int .i8 a2_3, .int .i8 a2_4, .int .i8 a2_5], .slice A3 l3.length c3] w fun e w' => e = .returned (.bool r) ∧ Below w.heap.size w w' := by
  have hu38 := Try.underlying38
  have HR3 := Aside0.mk hr3
  have HC3 := Aside0.mk hc3
  clear hr3 hc3
  have HB := Aside0.mk (Below.refl w.heap.size w)
  have H : ((laws_szWindS.f l3 1048576).bind fun t250 => (if t250 < 0 then (some true) else ((laws_toBay.f a0).bind fun t251 => ((laws_toGrounds.f a1).bind fun t252 => ((laws_toBoat.f a2_0 a2_1 a2_2 a2_3 a2_4 a2_5).bind fun bt253 => ((laws_toWindS.f k l3).bind fun t259 => ((spec_ChainFor.f k t251 t252 bt253.1 bt253.2.1 bt253.2.2.1 bt253.2.2.2.1 bt253.2.2.2.2.1 bt253.2.2.2.2.2 t259).bind fun bt262 => ((laws_toWindS.f k l3).bind fun t264 => ((laws_toBay.f a0).bind fun t267 => ((laws_toGrounds.f a1).bind fun t268 => ((laws_toBoat.f a2_0 a2_1 a2_2 a2_3 a2_4 a2_5).bind fun bt269 => ((impl_ChainFor.f k t267 t268 bt269.1 bt269.2.1 bt269.2.2.1 bt269.2.2.2.1 bt269.2.2.2.2.1 bt269.2.2.2.2.2 t264).bind fun bt275 => (if bt275.1 = bt262.1 then (laws_FnExactChainFor.j0 k l3 t264 (bt275.2 != bt262.2)) else (laws_FnExactChainFor.j0 k l3 t264 true)))))))))))))) = some r := h
  clear h
  replace H := Option.bind_eq_some_iff.mp H
  obtain ⟨t250, A50, H⟩ := H
  replace H : (if t250 < 0 then (some true) else ((laws_toBay.f a0).bind fun t251 => ((laws_toGrounds.f a1).bind fun t252 => ((laws_toBoat.f a2_0 a2_1 a2_2 a2_3 a2_4 a2_5).bind fun bt253 => ((laws_toWindS.f k l3).bind fun t259 => ((spec_ChainFor.f k t251 t252 bt253.1 bt253.2.1 bt253.2.2.1 bt253.2.2.2.1 bt253.2.2.2.2.1 bt253.2.2.2.2.2 t259).bind fun bt262 => ((laws_toWindS.f k l3).bind fun t264 => ((laws_toBay.f a0).bind fun t267 => ((laws_toGrounds.f a1).bind fun t268 => ((laws_toBoat.f a2_0 a2_1 a2_2 a2_3 a2_4 a2_5).bind fun bt269 => ((impl_ChainFor.f k t267 t268 bt269.1 bt269.2.1 bt269.2.2.1 bt269.2.2.2.1 bt269.2.2.2.2.1 bt269.2.2.2.2.2 t264).bind fun bt275 => (if bt275.1 = bt262.1 then (laws_FnExactChainFor.j0 k l3 t264 (bt275.2 != bt262.2)) else (laws_FnExactChainFor.j0 k l3 t264 true))))))))))))) = some r := H
  have A5 := Aside0.mk A50
  clear A50
  by_cases c6 : t250 < 0
  · rw [if_pos c6] at H
    have c6b0 : decide (t250 < 0) = true := decide_eq_true c6
    clear c6
    obtain rfl := Option.some.inj H
    go_enter Try.func6, Try.ntmps6
    go_wp2_with (first | ((with_reducible refine gate_dst (N := 4) rfl ?_); refine box_event ?hg (N := 4) ?hd (cs := (a0).A) (t := 26) ?hr ?_; (case hd => rfl); (case hg => rfl); (case hr => first | exact AR.run_box_row rfl rfl | (go_simp; done) | (go_simp; rfl)); intro gb247 hg w7 hbox hb; have n0_ := Aside0.mk (below_step (by repeat (first | (with_reducible first | exact HB.out | apply below_alloc | apply pw_below_drewN | apply below_drew1) | exact HB.out)) hb); have n1_ := Aside0.mk (hbox); have n2_ := Aside0.mk ((by rw [hg]; exact (below_size (by repeat (first | (with_reducible first | exact HB.out | apply below_alloc | apply pw_below_drewN | apply below_drew1) | exact HB.out))) : w.heap.size ≤ gb247)); have n3_ := Aside0.mk ((by rw [hg]; exact (below_size (by repeat (first | (with_reducible first | exact HB.out | apply below_alloc | apply pw_below_drewN | apply below_drew1) | exact HB.out))) : w.heap.size ≤ gb247)); clear HB; have HB := n0_; have BK247 := n1_; have GW247 := n2_; have GE247 := n3_; clear n0_ n1_ n2_ n3_; clear hb hbox hg) | ((with_reducible refine gate_dst (N := 5) rfl ?_); refine box_event ?hg (N := 5) ?hd (cs := (a1).A) (t := 28) ?hr ?_; (case hd => rfl); (case hg => rfl); (case hr => first | exact AR.run_box_row rfl rfl | (go_simp; done) | (go_simp; rfl)); intro gb248 hg w8 hbox hb; have n0_ := Aside0.mk (blk_below (g := gb247) (o := .cells (a0).A 26 (0, 0)) (by (with_reducible repeat (first | refine blk_drewN ?_ _ | refine blk_drew ?_ | refine blk_alloc ?_ _)); exact BK247.out) hb); have n1_ := Aside0.mk (below_step (by repeat (first | (with_reducible first | exact HB.out | apply below_alloc | apply pw_below_drewN | apply below_drew1 | refine below_set ?_ GE247.out) | exact HB.out)) hb); have n2_ := Aside0.mk (hbox); have n3_ := Aside0.mk ((by rw [hg]; exact (below_size (by repeat (first | (with_reducible first | exact HB.out | apply below_alloc | apply pw_below_drewN | apply below_drew1 | refine below_set ?_ GE247.out) | exact HB.out))) : w.heap.size ≤ gb248)); have n4_ := Aside0.mk ((by rw [hg]; exact (below_size (by repeat (first | (with_reducible first | exact HB.out | apply below_alloc | apply pw_below_drewN | apply below_drew1 | refine below_set ?_ GE247.out) | exact HB.out))) : w.heap.size ≤ gb248)); have n5_ := Aside0.mk ((by rw [hg]; exact Nat.ne_of_lt (blk_lt (g := gb247) (o := .cells (a0).A 26 (0, 0)) (by (with_reducible repeat (first | refine blk_drewN ?_ _ | refine blk_drew ?_ | refine blk_alloc ?_ _)); exact BK247.out)) : gb247 ≠ gb248)); have n6_ := Aside0.mk ((by rw [hg]; exact Nat.ne_of_gt (blk_lt (g := gb247) (o := .cells (a0).A 26 (0, 0)) (by (with_reducible repeat (first | refine blk_drewN ?_ _ | refine blk_drew ?_ | refine blk_alloc ?_ _)); exact BK247.out)) : gb248 ≠ gb247)); clear BK247; clear HB; have BK247 := n0_; have HB := n1_; have BK248 := n2_; have GW248 := n3_; have GE248 := n4_; have NB247_248 := n5_; have NB248_247 := n6_; clear n0_ n1_ n2_ n3_ n4_ n5_ n6_; clear hb hbox hg) | ((with_reducible refine gate_dst (N := 6) rfl ?_); refine box_event ?hg (N := 6) ?hd (cs := #[.int .i8 a2_0, .int .i8 a2_1, .int .i8 a2_2, .int .i8 a2_3, .int .i8 a2_4, .int .i8 a2_5]) (t := 38) ?hr ?_; (case hd => rfl); (case hg => rfl); (case hr => first | (go_simp; done) | (go_simp; rfl)); intro gb249 hg w9 hbox hb; have n0_ := Aside0.mk (blk_below (g := gb247) (o := .cells (a0).A 26 (0, 0)) (by (with_reducible repeat (first | refine blk_drewN ?_ _ | refine blk_drew ?_ | refine blk_alloc ?_ _)); exact BK247.out) hb); have n1_ := Aside0.mk (blk_below (g := gb248) (o := .cells (a1).A 28 (0, 0)) (by (with_reducible repeat (first | refine blk_drewN ?_ _ | refine blk_drew ?_ | refine blk_alloc ?_ _)); exact BK248.out) hb); have n2_ := Aside0.mk (below_step (by repeat (first | (with_reducible first | exact HB.out | apply below_alloc | apply pw_below_drewN | apply below_drew1 | refine below_set ?_ GE247.out | refine below_set ?_ GE248.out) | exact HB.out)) hb); have n3_ := Aside0.mk (hbox); have n4_ := Aside0.mk ((by rw [hg]; exact (below_size (by repeat (first | (with_reducible first | exact HB.out | apply below_alloc | apply pw_below_drewN | apply below_drew1 | refine below_set ?_ GE247.out | refine below_set ?_ GE248.out) | exact HB.out))) : w.heap.size ≤ gb249)); have n5_ := Aside0.mk ((by rw [hg]; exact (below_size (by repeat (first | (with_reducible first | exact HB.out | apply below_alloc | apply pw_below_drewN | apply below_drew1 | refine below_set ?_ GE247.out | refine below_set ?_ GE248.out) | exact HB.out))) : w.heap.size ≤ gb249)); have n6_ := Aside0.mk ((by rw [hg]; exact Nat.ne_of_lt (blk_lt (g := gb247) (o := .cells (a0).A 26 (0, 0)) (by (with_reducible repeat (first | refine blk_drewN ?_ _ | refine blk_drew ?_ | refine blk_alloc ?_ _)); exact BK247.out)) : gb247 ≠ gb249)); have n7_ := Aside0.mk ((by rw [hg]; exact Nat.ne_of_gt (blk_lt (g := gb247) (o := .cells (a0).A 26 (0, 0)) (by (with_reducible repeat (first | refine blk_drewN ?_ _ | refine blk_drew ?_ | refine blk_alloc ?_ _)); exact BK247.out)) : gb249 ≠ gb247)); have n8_ := Aside0.mk ((by rw [hg]; exact Nat.ne_of_lt (blk_lt (g := gb248) (o := .cells (a1).A 28 (0, 0)) (by (with_reducible repeat (first | refine blk_drewN ?_ _ | refine blk_drew ?_ | refine blk_alloc ?_ _)); exact BK248.out)) : gb248 ≠ gb249)); have n9_ := Aside0.mk ((by rw [hg]; exact Nat.ne_of_gt (blk_lt (g := gb248) (o := .cells (a1).A 28 (0, 0)) (by (with_reducible repeat (first | refine blk_drewN ?_ _ | refine blk_drew ?_ | refine blk_alloc ?_ _)); exact BK248.out)) : gb249 ≠ gb248)); clear BK247; clear BK248; clear HB; have BK247 := n0_; have BK248 := n1_; have HB := n2_; have BK249 := n3_; have GW249 := n4_; have GE249 := n5_; have NB247_249 := n6_; have NB249_247 := n7_; have NB248_249 := n8_; have NB249_248 := n9_; clear n0_ n1_ n2_ n3_ n4_ n5_ n6_ n7_ n8_ n9_; clear hb hbox hg) | ((with_reducible refine gate_callee (f := 18) rfl ?_); refine goesL_ (some 17) rfl rfl Try.func18 (by kernel_rfl) rfl #[.slice A3 l3.length c3, .int .i64 1048576] rfl (by (try simp only [List.map_toArray, List.map_cons, List.map_nil]); first | done | rfl | (simp only [List.length_drop, List.length_take]; rfl)) ?_; (with_reducible refine (laws_szWindS.calls _ _ l3 1048576 t250 _ ?side1 ?side2 A5.out).mono ?_); (case side1 => repeat (first | exact (Kd.C_below HR3.out HB.out) | (with_reducible refine Kd.C_alloc ?_ _) | (with_reducible refine Kd.C_drewN ?_ _) | (with_reducible refine Kd.C_drew ?_))); (case side2 => exact HC3.out); rintro e w' ⟨rfl, ⟨nd, rfl⟩⟩; refine ⟨_, rfl, ?_⟩))
    go_ret
    exact ⟨by first | rfl | (simp [errW_none, errW_some] <;> rfl) | (simp [*, errW_none, errW_some] <;> rfl), by repeat (first | (with_reducible first | exact HB.out | apply below_alloc | apply pw_below_drewN | apply below_drew1 | refine below_set ?_ GE247.out | refine below_set ?_ GE248.out | refine below_set ?_ GE249.out) | exact HB.out)⟩
  · rw [if_neg c6] at H
    have c6b0 : decide (t250 < 0) = false := decide_eq_false c6
    clear c6
    replace H := Option.bind_eq_some_iff.mp H
    obtain ⟨t251, A100, H⟩ := H
    replace H : ((laws_toGrounds.f a1).bind fun t252 => ((laws_toBoat.f a2_0 a2_1 a2_2 a2_3 a2_4 a2_5).bind fun bt253 => ((laws_toWindS.f k l3).bind fun t259 => ((spec_ChainFor.f k t251 t252 bt253.1 bt253.2.1 bt253.2.2.1 bt253.2.2.2.1 bt253.2.2.2.2.1 bt253.2.2.2.2.2 t259).bind fun bt262 => ((laws_toWindS.f k l3).bind fun t264 => ((laws_toBay.f a0).bind fun t267 => ((laws_toGrounds.f a1).bind fun t268 => ((laws_toBoat.f a2_0 a2_1 a2_2 a2_3 a2_4 a2_5).bind fun bt269 => ((impl_ChainFor.f k t267 t268 bt269.1 bt269.2.1 bt269.2.2.1 bt269.2.2.2.1 bt269.2.2.2.2.1 bt269.2.2.2.2.2 t264).bind fun bt275 => (if bt275.1 = bt262.1 then (laws_FnExactChainFor.j0 k l3 t264 (bt275.2 != bt262.2)) else (laws_FnExactChainFor.j0 k l3 t264 true))))))))))) = some r := H
    have A10 := Aside0.mk A100
    clear A100
    replace H := Option.bind_eq_some_iff.mp H
    obtain ⟨t252, A110, H⟩ := H
    replace H : ((laws_toBoat.f a2_0 a2_1 a2_2 a2_3 a2_4 a2_5).bind fun bt253 => ((laws_toWindS.f k l3).bind fun t259 => ((spec_ChainFor.f k t251 t252 bt253.1 bt253.2.1 bt253.2.2.1 bt253.2.2.2.1 bt253.2.2.2.2.1 bt253.2.2.2.2.2 t259).bind fun bt262 => ((laws_toWindS.f k l3).bind fun t264 => ((laws_toBay.f a0).bind fun t267 => ((laws_toGrounds.f a1).bind fun t268 => ((laws_toBoat.f a2_0 a2_1 a2_2 a2_3 a2_4 a2_5).bind fun bt269 => ((impl_ChainFor.f k t267 t268 bt269.1 bt269.2.1 bt269.2.2.1 bt269.2.2.2.1 bt269.2.2.2.2.1 bt269.2.2.2.2.2 t264).bind fun bt275 => (if bt275.1 = bt262.1 then (laws_FnExactChainFor.j0 k l3 t264 (bt275.2 != bt262.2)) else (laws_FnExactChainFor.j0 k l3 t264 true)))))))))) = some r := H
    have A11 := Aside0.mk A110
    clear A110
    replace H := Option.bind_eq_some_iff.mp H
    obtain ⟨⟨t253, t254, t255, t256, t257, t258⟩, A120, H⟩ := H
    replace H : ((laws_toWindS.f k l3).bind fun t259 => ((spec_ChainFor.f k t251 t252 t253 t254 t255 t256 t257 t258 t259).bind fun bt262 => ((laws_toWindS.f k l3).bind fun t264 => ((laws_toBay.f a0).bind fun t267 => ((laws_toGrounds.f a1).bind fun t268 => ((laws_toBoat.f a2_0 a2_1 a2_2 a2_3 a2_4 a2_5).bind fun bt269 => ((impl_ChainFor.f k t267 t268 bt269.1 bt269.2.1 bt269.2.2.1 bt269.2.2.2.1 bt269.2.2.2.2.1 bt269.2.2.2.2.2 t264).bind fun bt275 => (if bt275.1 = bt262.1 then (laws_FnExactChainFor.j0 k l3 t264 (bt275.2 != bt262.2)) else (laws_FnExactChainFor.j0 k l3 t264 true))))))))) = some r := H
    have A12 := Aside0.mk A120
    clear A120
    replace H := Option.bind_eq_some_iff.mp H
    obtain ⟨t259, A130, H⟩ := H
    replace H : ((spec_ChainFor.f k t251 t252 t253 t254 t255 t256 t257 t258 t259).bind fun bt262 => ((laws_toWindS.f k l3).bind fun t264 => ((laws_toBay.f a0).bind fun t267 => ((laws_toGrounds.f a1).bind fun t268 => ((laws_toBoat.f a2_0 a2_1 a2_2 a2_3 a2_4 a2_5).bind fun bt269 => ((impl_ChainFor.f k t267 t268 bt269.1 bt269.2.1 bt269.2.2.1 bt269.2.2.2.1 bt269.2.2.2.2.1 bt269.2.2.2.2.2 t264).bind fun bt275 => (if bt275.1 = bt262.1 then (laws_FnExactChainFor.j0 k l3 t264 (bt275.2 != bt262.2)) else (laws_FnExactChainFor.j0 k l3 t264 true)))))))) = some r := H
    have A13 := Aside0.mk A130
    clear A130
    replace H := Option.bind_eq_some_iff.mp H
    obtain ⟨⟨t262, t263⟩, A140, H⟩ := H
    replace H : ((laws_toWindS.f k l3).bind fun t264 => ((laws_toBay.f a0).bind fun t267 => ((laws_toGrounds.f a1).bind fun t268 => ((laws_toBoat.f a2_0 a2_1 a2_2 a2_3 a2_4 a2_5).bind fun bt269 => ((impl_ChainFor.f k t267 t268 bt269.1 bt269.2.1 bt269.2.2.1 bt269.2.2.2.1 bt269.2.2.2.2.1 bt269.2.2.2.2.2 t264).bind fun bt275 => (if bt275.1 = t262 then (laws_FnExactChainFor.j0 k l3 t264 (bt275.2 != t263)) else (laws_FnExactChainFor.j0 k l3 t264 true))))))) = some r := H
    have A14 := Aside0.mk A140
    clear A140
    replace H := Option.bind_eq_some_iff.mp H
    obtain ⟨t264, A150, H⟩ := H
    replace H : ((laws_toBay.f a0).bind fun t267 => ((laws_toGrounds.f a1).bind fun t268 => ((laws_toBoat.f a2_0 a2_1 a2_2 a2_3 a2_4 a2_5).bind fun bt269 => ((impl_ChainFor.f k t267 t268 bt269.1 bt269.2.1 bt269.2.2.1 bt269.2.2.2.1 bt269.2.2.2.2.1 bt269.2.2.2.2.2 t264).bind fun bt275 => (if bt275.1 = t262 then (laws_FnExactChainFor.j0 k l3 t264 (bt275.2 != t263)) else (laws_FnExactChainFor.j0 k l3 t264 true)))))) = some r := H
    have A15 := Aside0.mk A150
    clear A150
    replace H := Option.bind_eq_some_iff.mp H
    obtain ⟨t267, A160, H⟩ := H
    replace H : ((laws_toGrounds.f a1).bind fun t268 => ((laws_toBoat.f a2_0 a2_1 a2_2 a2_3 a2_4 a2_5).bind fun bt269 => ((impl_ChainFor.f k t267 t268 bt269.1 bt269.2.1 bt269.2.2.1 bt269.2.2.2.1 bt269.2.2.2.2.1 bt269.2.2.2.2.2 t264).bind fun bt275 => (if bt275.1 = t262 then (laws_FnExactChainFor.j0 k l3 t264 (bt275.2 != t263)) else (laws_FnExactChainFor.j0 k l3 t264 true))))) = some r := H
    have A16 := Aside0.mk A160
    clear A160
    replace H := Option.bind_eq_some_iff.mp H
    obtain ⟨t268, A170, H⟩ := H
    replace H : ((laws_toBoat.f a2_0 a2_1 a2_2 a2_3 a2_4 a2_5).bind fun bt269 => ((impl_ChainFor.f k t267 t268 bt269.1 bt269.2.1 bt269.2.2.1 bt269.2.2.2.1 bt269.2.2.2.2.1 bt269.2.2.2.2.2 t264).bind fun bt275 => (if bt275.1 = t262 then (laws_FnExactChainFor.j0 k l3 t264 (bt275.2 != t263)) else (laws_FnExactChainFor.j0 k l3 t264 true)))) = some r := H
    have A17 := Aside0.mk A170
    clear A170
    replace H := Option.bind_eq_some_iff.mp H
    obtain ⟨⟨t269, t270, t271, t272, t273, t274⟩, A180, H⟩ := H
    replace H : ((impl_ChainFor.f k t267 t268 t269 t270 t271 t272 t273 t274 t264).bind fun bt275 => (if bt275.1 = t262 then (laws_FnExactChainFor.j0 k l3 t264 (bt275.2 != t263)) else (laws_FnExactChainFor.j0 k l3 t264 true))) = some r := H
    have A18 := Aside0.mk A180
    clear A180
    replace H := Option.bind_eq_some_iff.mp H
    obtain ⟨⟨t275, t276⟩, A190, H⟩ := H
    replace H : (if t275 = t262 then (laws_FnExactChainFor.j0 k l3 t264 (t276 != t263)) else (laws_FnExactChainFor.j0 k l3 t264 true)) = some r := H
    have A19 := Aside0.mk A190
    clear A190
    have HC20 := Aside0.mk H
    clear H
    go_enter Try.func6, Try.ntmps6
    try go_wp2_with (first | ((with_reducible refine gate_dst (N := 4) rfl ?_); refine box_event ?hg (N := 4) ?hd (cs := (a0).A) (t := 26) ?hr ?_; (case hd => rfl); (case hg => rfl); (case hr => first | exact AR.run_box_row rfl rfl | (go_simp; done) | (go_simp; rfl)); intro gb247 hg w21 hbox hb; have n0_ := Aside0.mk (below_step (by repeat (first | (with_reducible first | exact HB.out | apply below_alloc | apply pw_below_drewN | apply below_drew1) | exact HB.out)) hb); have n1_ := Aside0.mk (hbox); have n2_ := Aside0.mk ((by rw [hg]; exact (below_size (by repeat (first | (with_reducible first | exact HB.out | apply below_alloc | apply pw_below_drewN | apply below_drew1) | exact HB.out))) : w.heap.size ≤ gb247)); have n3_ := Aside0.mk ((by rw [hg]; exact (below_size (by repeat (first | (with_reducible first | exact HB.out | apply below_alloc | apply pw_below_drewN | apply below_drew1) | exact HB.out))) : w.heap.size ≤ gb247)); clear HB; have HB := n0_; have BK247 := n1_; have GW247 := n2_; have GE247 := n3_; clear n0_ n1_ n2_ n3_; clear hb hbox hg) | ((with_reducible refine gate_dst (N := 5) rfl ?_); refine box_event ?hg (N := 5) ?hd (cs := (a1).A) (t := 28) ?hr ?_; (case hd => rfl); (case hg => rfl); (case hr => first | exact AR.run_box_row rfl rfl | (go_simp; done) | (go_simp; rfl)); intro gb248 hg w22 hbox hb; have n0_ := Aside0.mk (blk_below (g := gb247) (o := .cells (a0).A 26 (0, 0)) (by (with_reducible repeat (first | refine blk_drewN ?_ _ | refine blk_drew ?_ | refine blk_alloc ?_ _)); exact BK247.out) hb); have n1_ := Aside0.mk (below_step (by repeat (first | (with_reducible first | exact HB.out | apply below_alloc | apply pw_below_drewN | apply below_drew1 | refine below_set ?_ GE247.out) | exact HB.out)) hb); have n2_ := Aside0.mk (hbox); have n3_ := Aside0.mk ((by rw [hg]; exact (below_size (by repeat (first | (with_reducible first | exact HB.out | apply below_alloc | apply pw_below_drewN | apply below_drew1 | refine below_set ?_ GE247.out) | exact HB.out))) : w.heap.size ≤ gb248)); have n4_ := Aside0.mk ((by rw [hg]; exact (below_size (by repeat (first | (with_reducible first | exact HB.out | apply below_alloc | apply pw_below_drewN | apply below_drew1 | refine below_set ?_ GE247.out) | exact HB.out))) : w.heap.size ≤ gb248)); have n5_ := Aside0.mk ((by rw [hg]; exact Nat.ne_of_lt (blk_lt (g := gb247) (o := .cells (a0).A 26 (0, 0)) (by (with_reducible repeat (first | refine blk_drewN ?_ _ | refine blk_drew ?_ | refine blk_alloc ?_ _)); exact BK247.out)) : gb247 ≠ gb248)); have n6_ := Aside0.mk ((by rw [hg]; exact Nat.ne_of_gt (blk_lt (g := gb247) (o := .cells (a0).A 26 (0, 0)) (by (with_reducible repeat (first | refine blk_drewN ?_ _ | refine blk_drew ?_ | refine blk_alloc ?_ _)); exact BK247.out)) : gb248 ≠ gb247)); clear BK247; clear HB; have BK247 := n0_; have HB := n1_; have BK248 := n2_; have GW248 := n3_; have GE248 := n4_; have NB247_248 := n5_; have NB248_247 := n6_; clear n0_ n1_ n2_ n3_ n4_ n5_ n6_; clear hb hbox hg) | ((with_reducible refine gate_dst (N := 6) rfl ?_); refine box_event ?hg (N := 6) ?hd (cs := #[.int .i8 a2_0, .int .i8 a2_1, .int .i8 a2_2, .int .i8 a2_3, .int .i8 a2_4, .int .i8 a2_5]) (t := 38) ?hr ?_; (case hd => rfl); (case hg => rfl); (case hr => first | (go_simp; done) | (go_simp; rfl)); intro gb249 hg w23 hbox hb; have n0_ := Aside0.mk (blk_below (g := gb247) (o := .cells (a0).A 26 (0, 0)) (by (with_reducible repeat (first | refine blk_drewN ?_ _ | refine blk_drew ?_ | refine blk_alloc ?_ _)); exact BK247.out) hb); have n1_ := Aside0.mk (blk_below (g := gb248) (o := .cells (a1).A 28 (0, 0)) (by (with_reducible repeat (first | refine blk_drewN ?_ _ | refine blk_drew ?_ | refine blk_alloc ?_ _)); exact BK248.out) hb); have n2_ := Aside0.mk (below_step (by repeat (first | (with_reducible first | exact HB.out | apply below_alloc | apply pw_below_drewN | apply below_drew1 | refine below_set ?_ GE247.out | refine below_set ?_ GE248.out) | exact HB.out)) hb); have n3_ := Aside0.mk (hbox); have n4_ := Aside0.mk ((by rw [hg]; exact (below_size (by repeat (first | (with_reducible first | exact HB.out | apply below_alloc | apply pw_below_drewN | apply below_drew1 | refine below_set ?_ GE247.out | refine below_set ?_ GE248.out) | exact HB.out))) : w.heap.size ≤ gb249)); have n5_ := Aside0.mk ((by rw [hg]; exact (below_size (by repeat (first | (with_reducible first | exact HB.out | apply below_alloc | apply pw_below_drewN | apply below_drew1 | refine below_set ?_ GE247.out | refine below_set ?_ GE248.out) | exact HB.out))) : w.heap.size ≤ gb249)); have n6_ := Aside0.mk ((by rw [hg]; exact Nat.ne_of_lt (blk_lt (g := gb247) (o := .cells (a0).A 26 (0, 0)) (by (with_reducible repeat (first | refine blk_drewN ?_ _ | refine blk_drew ?_ | refine blk_alloc ?_ _)); exact BK247.out)) : gb247 ≠ gb249)); have n7_ := Aside0.mk ((by rw [hg]; exact Nat.ne_of_gt (blk_lt (g := gb247) (o := .cells (a0).A 26 (0, 0)) (by (with_reducible repeat (first | refine blk_drewN ?_ _ | refine blk_drew ?_ | refine blk_alloc ?_ _)); exact BK247.out)) : gb249 ≠ gb247)); have n8_ := Aside0.mk ((by rw [hg]; exact Nat.ne_of_lt (blk_lt (g := gb248) (o := .cells (a1).A 28 (0, 0)) (by (with_reducible repeat (first | refine blk_drewN ?_ _ | refine blk_drew ?_ | refine blk_alloc ?_ _)); exact BK248.out)) : gb248 ≠ gb249)); have n9_ := Aside0.mk ((by rw [hg]; exact Nat.ne_of_gt (blk_lt (g := gb248) (o := .cells (a1).A 28 (0, 0)) (by (with_reducible repeat (first | refine blk_drewN ?_ _ | refine blk_drew ?_ | refine blk_alloc ?_ _)); exact BK248.out)) : gb249 ≠ gb248)); clear BK247; clear BK248; clear HB; have BK247 := n0_; have BK248 := n1_; have HB := n2_; have BK249 := n3_; have GW249 := n4_; have GE249 := n5_; have NB247_249 := n6_; have NB249_247 := n7_; have NB248_249 := n8_; have NB249_248 := n9_; clear n0_ n1_ n2_ n3_ n4_ n5_ n6_ n7_ n8_ n9_; clear hb hbox hg) | ((with_reducible refine gate_callee (f := 18) rfl ?_); refine goesL_ (some 17) rfl rfl Try.func18 (by kernel_rfl) rfl #[.slice A3 l3.length c3, .int .i64 1048576] rfl (by (try simp only [List.map_toArray, List.map_cons, List.map_nil]); first | done | rfl | (simp only [List.length_drop, List.length_take]; rfl)) ?_; (with_reducible refine (laws_szWindS.calls _ _ l3 1048576 t250 _ ?side1 ?side2 A5.out).mono ?_); (case side1 => repeat (first | exact (Kd.C_below HR3.out HB.out) | (with_reducible refine Kd.C_alloc ?_ _) | (with_reducible refine Kd.C_drewN ?_ _) | (with_reducible refine Kd.C_drew ?_))); (case side2 => exact HC3.out); rintro e w' ⟨rfl, ⟨nd, rfl⟩⟩; refine ⟨_, rfl, ?_⟩))
    (try (rw [drewN_self w23]; generalize hq_ : World.drewN w23 _ = w23; have n0_ : Aside0 (w23.heap[gb247]? = some (.cells (a0).A 26 (0, 0))) := ⟨by rw [← hq_]; exact (by (with_reducible repeat (first | refine blk_drewN ?_ _ | refine blk_drew ?_ | refine blk_alloc ?_ _)); exact BK247.out)⟩; have n1_ : Aside0 (w23.heap[gb248]? = some (.cells (a1).A 28 (0, 0))) := ⟨by rw [← hq_]; exact (by (with_reducible repeat (first | refine blk_drewN ?_ _ | refine blk_drew ?_ | refine blk_alloc ?_ _)); exact BK248.out)⟩; have n2_ : Aside0 (w23.heap[gb249]? = some (.cells #[.int .i8 a2_0, .int .i8 a2_1, .int .i8 a2_2, .int .i8 a2_3, .int .i8 a2_4, .int .i8 a2_5] 38 (0, 0))) := ⟨by rw [← hq_]; exact (by (with_reducible repeat (first | refine blk_drewN ?_ _ | refine blk_drew ?_ | refine blk_alloc ?_ _)); exact BK249.out)⟩; have n3_ : Aside0 (Below w.heap.size w w23) := ⟨by rw [← hq_]; exact (by repeat (first | (with_reducible first | exact HB.out | apply below_alloc | apply pw_below_drewN | apply below_drew1 | refine below_set ?_ GE247.out | refine below_set ?_ GE248.out | refine below_set ?_ GE249.out) | exact HB.out))⟩; clear BK247 BK248 BK249 HB hq_; have BK247 := n0_; have BK248 := n1_; have BK249 := n2_; have HB := n3_; clear n0_ n1_ n2_ n3_))
    have n0_ := Aside0.mk (blk_drew BK247.out)
    have n1_ := Aside0.mk (blk_drew BK248.out)
    have n2_ := Aside0.mk (blk_drew BK249.out)
    have n3_ := Aside0.mk (below_drew1 HB.out)
    clear BK247
    clear BK248
    clear BK249
    clear HB
    have BK247 := n0_
    have BK248 := n1_
    have BK249 := n2_
    have HB := n3_
    clear n0_ n1_ n2_ n3_
    refine start_ (n := 14) (S := fun w' => w'.heap[gb247]? = some (.cells (a0).A 26 (0, 0)) ∧ w'.heap[gb248]? = some (.cells (a1).A 28 (0, 0)) ∧ w'.cell? ⟨gb249, 0, none⟩ = some (.int .i8 a2_0) ∧ w'.cell? ⟨gb249, 1, none⟩ = some (.int .i8 a2_1) ∧ w'.cell? ⟨gb249, 2, none⟩ = some (.int .i8 a2_2) ∧ w'.cell? ⟨gb249, 3, none⟩ = some (.int .i8 a2_3) ∧ w'.cell? ⟨gb249, 4, none⟩ = some (.int .i8 a2_4) ∧ w'.cell? ⟨gb249, 5, none⟩ = some (.int .i8 a2_5)) (ds := []) #[false, false, false, false, false, false, false, false, false, false, false, false, false, false] (by kernel_rfl) rfl rfl ⟨BK247.out, BK248.out, (blk_cell BK249.out 0).trans rfl, (blk_cell BK249.out 1).trans rfl, (blk_cell BK249.out 2).trans rfl, (blk_cell BK249.out 3).trans rfl, (blk_cell BK249.out 4).trans rfl, (blk_cell BK249.out 5).trans rfl⟩ (fun hHeld => ?_); refine with_tabW laws_FnExactChainFor.tab5 laws_FnExactChainFor.bits5 (fun HT_ HW_ => ?_)
    generalize w23.drew = w24 at BK247 BK248 BK249 HB hHeld ⊢
    refine pure_ (i := 6) (N := some 27) (v := ?_) (a' := ?_) #[false, false, false, false, false, false, true, false, false, false, false, false, false, false] rfl rfl (any_of HT_.out (by kernel_rfl)) (fun _ _ _ h => h) (Or.inl ⟨by rfl, ?_⟩) ?_ ?_
    rotate_left
    · intro w'
      go_simp
      with_reducible rfl
    rotate_left
    · simp only [Act.put, List.setIfInBounds_toArray, List.set_cons_zero, List.set_cons_succ, i64_w, i32_w]
      rfl
    refine take_ (i := 0) (N := some 21) (v := ?_) (a' := ?_) #[true, false, false, false, false, false, true, false, false, false, false, false, false, false] rfl rfl (take_ofW HT_.out HW_.out (by kernel_rfl)) (fun _ _ _ h => h) (Or.inl ⟨by rfl, ?_⟩) hHeld ?_ ?_
    rotate_left
    · rintro w' ⟨s0, s1, s2, s3, s4, s5, s6, s7⟩
      skip
      first | (refine Eq.trans (AR.exec_load_blk rfl rfl s0 Try.underlying26 rfl (szO26 _)) ?_; with_reducible rfl) | (refine Eq.trans (AR.exec_load_blk rfl rfl s1 Try.underlying28 rfl (szO28 _)) ?_; with_reducible rfl) | (go_simp; with_reducible rfl)
    rotate_left
    · simp only [Act.put, List.setIfInBounds_toArray, List.set_cons_zero, List.set_cons_succ, i64_w, i32_w]
      rfl
    refine take_ (i := 2) (N := some 23) (v := ?_) (a' := ?_) #[true, false, true, false, false, false, true, false, false, false, false, false, false, false] rfl rfl (take_ofW HT_.out HW_.out (by kernel_rfl)) (fun _ _ _ h => h) (Or.inl ⟨by rfl, ?_⟩) hHeld ?_ ?_
    rotate_left
    · rintro w' ⟨s0, s1, s2, s3, s4, s5, s6, s7⟩
      skip
      first | (refine Eq.trans (AR.exec_load_blk rfl rfl s0 Try.underlying26 rfl (szO26 _)) ?_; with_reducible rfl) | (refine Eq.trans (AR.exec_load_blk rfl rfl s1 Try.underlying28 rfl (szO28 _)) ?_; with_reducible rfl) | (go_simp; with_reducible rfl)
    rotate_left
    · simp only [Act.put, List.setIfInBounds_toArray, List.set_cons_zero, List.set_cons_succ, i64_w, i32_w]
      rfl
    refine take_ (i := 4) (N := some 25) (v := ?_) (a' := ?_) #[true, false, true, false, true, false, true, false, false, false, false, false, false, false] rfl rfl (take_ofW HT_.out HW_.out (by kernel_rfl)) (fun _ _ _ h => h) (Or.inl ⟨by rfl, ?_⟩) hHeld ?_ ?_
    rotate_left
    · rintro w' ⟨s0, s1, s2, s3, s4, s5, s6, s7⟩
      skip
      first | (refine Eq.trans (AR.exec_load_blk rfl rfl s0 Try.underlying26 rfl (szO26 _)) ?_; with_reducible rfl) | (refine Eq.trans (AR.exec_load_blk rfl rfl s1 Try.underlying28 rfl (szO28 _)) ?_; with_reducible rfl) | (go_simp; with_reducible rfl)
    rotate_left
    · simp only [Act.put, List.setIfInBounds_toArray, List.set_cons_zero, List.set_cons_succ, i64_w, i32_w]
      rfl
    refine one_ (i := 1) (N := some 22) #[true, true, true, false, true, false, true, false, false, false, false, false, false, false] rfl rfl (one_of HT_.out (by kernel_rfl)) (by decide) (fun K hK => ?_)
    refine goes_ Try.func8 (by kernel_rfl) rfl #[VO26 a0] (by rfl) rfl rfl (by (try simp only [List.map_toArray, List.map_cons, List.map_nil]); first | done | rfl | (simp only [List.length_drop, List.length_take]; rfl)) ?_
    with_reducible refine (laws_toBay.calls a0 t251 _ A10.out).mono ?_
    rintro e w25 ⟨rfl, hb⟩
    refine ⟨_, rfl, ?_⟩
    have n0_ := Aside0.mk (blk_below (g := gb247) (o := .cells (a0).A 26 (0, 0)) (by (with_reducible repeat (first | refine blk_drewN ?_ _ | refine blk_drew ?_ | refine blk_alloc ?_ _)); exact BK247.out) hb)
    have n1_ := Aside0.mk (blk_below (g := gb248) (o := .cells (a1).A 28 (0, 0)) (by (with_reducible repeat (first | refine blk_drewN ?_ _ | refine blk_drew ?_ | refine blk_alloc ?_ _)); exact BK248.out) hb)
    have n2_ := Aside0.mk (blk_below (g := gb249) (o := .cells #[.int .i8 a2_0, .int .i8 a2_1, .int .i8 a2_2, .int .i8 a2_3, .int .i8 a2_4, .int .i8 a2_5] 38 (0, 0)) (by (with_reducible repeat (first | refine blk_drewN ?_ _ | refine blk_drew ?_ | refine blk_alloc ?_ _)); exact BK249.out) hb)
    have n3_ := Aside0.mk (below_step (by repeat (first | (with_reducible first | exact HB.out | apply below_alloc | apply pw_below_drewN | apply below_drew1 | refine below_set ?_ GE247.out | refine below_set ?_ GE248.out | refine below_set ?_ GE249.out) | exact HB.out)) hb)
    clear BK247
    clear BK248
    clear BK249
    clear HB
    have BK247 := n0_
    have BK248 := n1_
    have BK249 := n2_
    have HB := n3_
    clear n0_ n1_ n2_ n3_
    (try clear hb)
    (try clear hb2)
    (try clear hk)
    (try clear hi)
    refine hK.out _ _ ⟨BK247.out, BK248.out, (blk_cell BK249.out 0).trans rfl, (blk_cell BK249.out 1).trans rfl, (blk_cell BK249.out 2).trans rfl, (blk_cell BK249.out 3).trans rfl, (blk_cell BK249.out 4).trans rfl, (blk_cell BK249.out 5).trans rfl⟩ (fun hHeld => ?_)
    clear hK K
    refine norm_ (a' := ?_) ?_ ?_
    rotate_left
    · show Act.put _ (some 22) _ = _
      simp only [Act.put, List.setIfInBounds_toArray, List.set_cons_zero, List.set_cons_succ, i64_w, i32_w]
      rfl
    refine one_ (i := 3) (N := some 24) #[true, true, true, true, true, false, true, false, false, false, false, false, false, false] rfl rfl (one_of HT_.out (by kernel_rfl)) (by decide) (fun K hK => ?_)
    refine goes_ Try.func9 (by kernel_rfl) rfl #[VO28 a1] (by rfl) rfl rfl (by (try simp only [List.map_toArray, List.map_cons, List.map_nil]); first | done | rfl | (simp only [List.length_drop, List.length_take]; rfl)) ?_
    with_reducible refine (laws_toGrounds.calls a1 t252 _ A11.out).mono ?_
    rintro e w26 ⟨rfl, hb⟩
    refine ⟨_, rfl, ?_⟩
    have n0_ := Aside0.mk (blk_below (g := gb247) (o := .cells (a0).A 26 (0, 0)) (by (with_reducible repeat (first | refine blk_drewN ?_ _ | refine blk_drew ?_ | refine blk_alloc ?_ _)); exact BK247.out) hb)
    have n1_ := Aside0.mk (blk_below (g := gb248) (o := .cells (a1).A 28 (0, 0)) (by (with_reducible repeat (first | refine blk_drewN ?_ _ | refine blk_drew ?_ | refine blk_alloc ?_ _)); exact BK248.out) hb)
    have n2_ := Aside0.mk (blk_below (g := gb249) (o := .cells #[.int .i8 a2_0, .int .i8 a2_1, .int .i8 a2_2, .int .i8 a2_3, .int .i8 a2_4, .int .i8 a2_5] 38 (0, 0)) (by (with_reducible repeat (first | refine blk_drewN ?_ _ | refine blk_drew ?_ | refine blk_alloc ?_ _)); exact BK249.out) hb)
    have n3_ := Aside0.mk (below_step (by repeat (first | (with_reducible first | exact HB.out | apply below_alloc | apply pw_below_drewN | apply below_drew1 | refine below_set ?_ GE247.out | refine below_set ?_ GE248.out | refine below_set ?_ GE249.out) | exact HB.out)) hb)
    clear BK247
    clear BK248
    clear BK249
    clear HB
    have BK247 := n0_
    have BK248 := n1_
    have BK249 := n2_
    have HB := n3_
    clear n0_ n1_ n2_ n3_
    (try clear hb)
    (try clear hb2)
    (try clear hk)
    (try clear hi)
    refine hK.out _ _ ⟨BK247.out, BK248.out, (blk_cell BK249.out 0).trans rfl, (blk_cell BK249.out 1).trans rfl, (blk_cell BK249.out 2).trans rfl, (blk_cell BK249.out 3).trans rfl, (blk_cell BK249.out 4).trans rfl, (blk_cell BK249.out 5).trans rfl⟩ (fun hHeld => ?_)
    clear hK K
    refine norm_ (a' := ?_) ?_ ?_
    rotate_left
    · show Act.put _ (some 24) _ = _
      simp only [Act.put, List.setIfInBounds_toArray, List.set_cons_zero, List.set_cons_succ, i64_w, i32_w]
      rfl
    refine one_ (i := 5) (N := some 26) #[true, true, true, true, true, true, true, false, false, false, false, false, false, false] rfl rfl (one_of HT_.out (by kernel_rfl)) (by decide) (fun K hK => ?_)
    refine goes_ Try.func12 (by kernel_rfl) rfl #[.agg #[.int .i8 a2_0, .int .i8 a2_1, .int .i8 a2_2, .int .i8 a2_3, .int .i8 a2_4, .int .i8 a2_5]] (by rfl) rfl rfl (by (try simp only [List.map_toArray, List.map_cons, List.map_nil]); first | done | rfl | (simp only [List.length_drop, List.length_take]; rfl)) ?_
    with_reducible refine (laws_toBoat.calls a2_0 a2_1 a2_2 a2_3 a2_4 a2_5 t253 t254 t255 t256 t257 t258 _ A12.out).mono ?_
    rintro e w27 ⟨rfl, hb⟩
    refine ⟨_, rfl, ?_⟩
    have n0_ := Aside0.mk (blk_below (g := gb247) (o := .cells (a0).A 26 (0, 0)) (by (with_reducible repeat (first | refine blk_drewN ?_ _ | refine blk_drew ?_ | refine blk_alloc ?_ _)); exact BK247.out) hb)
    have n1_ := Aside0.mk (blk_below (g := gb248) (o := .cells (a1).A 28 (0, 0)) (by (with_reducible repeat (first | refine blk_drewN ?_ _ | refine blk_drew ?_ | refine blk_alloc ?_ _)); exact BK248.out) hb)
    have n2_ := Aside0.mk (blk_below (g := gb249) (o := .cells #[.int .i8 a2_0, .int .i8 a2_1, .int .i8 a2_2, .int .i8 a2_3, .int .i8 a2_4, .int .i8 a2_5] 38 (0, 0)) (by (with_reducible repeat (first | refine blk_drewN ?_ _ | refine blk_drew ?_ | refine blk_alloc ?_ _)); exact BK249.out) hb)
    have n3_ := Aside0.mk (below_step (by repeat (first | (with_reducible first | exact HB.out | apply below_alloc | apply pw_below_drewN | apply below_drew1 | refine below_set ?_ GE247.out | refine below_set ?_ GE248.out | refine below_set ?_ GE249.out) | exact HB.out)) hb)
    clear BK247
    clear BK248
    clear BK249
    clear HB
    have BK247 := n0_
    have BK248 := n1_
    have BK249 := n2_
    have HB := n3_
    clear n0_ n1_ n2_ n3_
    (try clear hb)
    (try clear hb2)
    (try clear hk)
    (try clear hi)
    refine hK.out _ _ ⟨BK247.out, BK248.out, (blk_cell BK249.out 0).trans rfl, (blk_cell BK249.out 1).trans rfl, (blk_cell BK249.out 2).trans rfl, (blk_cell BK249.out 3).trans rfl, (blk_cell BK249.out 4).trans rfl, (blk_cell BK249.out 5).trans rfl⟩ (fun hHeld => ?_)
    clear hK K
    refine norm_ (a' := ?_) ?_ ?_
    rotate_left
    · show Act.put _ (some 26) _ = _
      simp only [Act.put, List.setIfInBounds_toArray, List.set_cons_zero, List.set_cons_succ, i64_w, i32_w]
      rfl
    refine one_ (i := 7) (N := some 28) #[true, true, true, true, true, true, true, true, false, false, false, false, false, false] rfl rfl (one_of HT_.out (by kernel_rfl)) (by decide) (fun K hK => ?_)
    refine goes_ Try.func20 (by kernel_rfl) rfl #[.slice A3 l3.length c3] (by rfl) rfl rfl (by (try simp only [List.map_toArray, List.map_cons, List.map_nil]); first | done | rfl | (simp only [List.length_drop, List.length_take]; rfl)) ?_
    with_reducible refine (laws_toWindS.calls k _ _ l3 t259 _ ?side1 ?side2 A13.out).mono ?_
    (case side1 => repeat (first | exact (Kd.C_below HR3.out HB.out) | (with_reducible refine Kd.C_alloc ?_ _) | (with_reducible refine Kd.C_drewN ?_ _) | (with_reducible refine Kd.C_drew ?_)))
    (case side2 => exact HC3.out)
    rintro e w28 ⟨v260, rfl, ho0, hb⟩
    refine ⟨_, rfl, ?_⟩
    have n0_ := Aside0.mk (Kd.R_lower ho0 (below_size (by repeat (first | (with_reducible first | exact HB.out | apply below_alloc | apply pw_below_drewN | apply below_drew1 | refine below_set ?_ GE247.out | refine below_set ?_ GE248.out | refine below_set ?_ GE249.out) | exact HB.out))))
    have n1_ := Aside0.mk (blk_below (g := gb247) (o := .cells (a0).A 26 (0, 0)) (by (with_reducible repeat (first | refine blk_drewN ?_ _ | refine blk_drew ?_ | refine blk_alloc ?_ _)); exact BK247.out) hb)
    have n2_ := Aside0.mk (blk_below (g := gb248) (o := .cells (a1).A 28 (0, 0)) (by (with_reducible repeat (first | refine blk_drewN ?_ _ | refine blk_drew ?_ | refine blk_alloc ?_ _)); exact BK248.out) hb)
    have n3_ := Aside0.mk (blk_below (g := gb249) (o := .cells #[.int .i8 a2_0, .int .i8 a2_1, .int .i8 a2_2, .int .i8 a2_3, .int .i8 a2_4, .int .i8 a2_5] 38 (0, 0)) (by (with_reducible repeat (first | refine blk_drewN ?_ _ | refine blk_drew ?_ | refine blk_alloc ?_ _)); exact BK249.out) hb)
    have n4_ := Aside0.mk (below_step (by repeat (first | (with_reducible first | exact HB.out | apply below_alloc | apply pw_below_drewN | apply below_drew1 | refine below_set ?_ GE247.out | refine below_set ?_ GE248.out | refine below_set ?_ GE249.out) | exact HB.out)) hb)
    clear BK247
    clear BK248
    clear BK249
    clear HB
    have HO261 := n0_
    have BK247 := n1_
    have BK248 := n2_
    have BK249 := n3_
    have HB := n4_
    clear n0_ n1_ n2_ n3_ n4_
    (try clear hb)
    (try clear hb2)
    (try clear hk)
    (try clear hi)
    (try clear ho0)
    obtain ⟨Ao29, co29, eo29⟩ := Kd.R_slice HO261.out
    (first | subst eo29 | (injection eo29 with f1_ f2_ f3_; have f4_ := f1_.symm; have f5_ := f3_.symm; clear f1_ f2_ f3_; subst f4_; subst f5_))
    refine hK.out _ _ ⟨BK247.out, BK248.out, (blk_cell BK249.out 0).trans rfl, (blk_cell BK249.out 1).trans rfl, (blk_cell BK249.out 2).trans rfl, (blk_cell BK249.out 3).trans rfl, (blk_cell BK249.out 4).trans rfl, (blk_cell BK249.out 5).trans rfl⟩ (fun hHeld => ?_)
    clear hK K
    refine norm_ (a' := ?_) ?_ ?_
    rotate_left
    · show Act.put _ (some 28) _ = _
      simp only [Act.put, List.setIfInBounds_toArray, List.set_cons_zero, List.set_cons_succ, i64_w, i32_w]
      rfl
    refine one_ (i := 8) (N := some 29) #[true, true, true, true, true, true, true, true, true, false, false, false, false, false] rfl rfl (one_of HT_.out (by kernel_rfl)) (by decide) (fun K hK => ?_)
    refine goes_ Try.func19 (by kernel_rfl) rfl #[VO30 t251, VO32 t252, .agg #[.int .i8 t253, .int .i8 t254, .int .i8 t255, .int .i8 t256, .int .i8 t257, .int .i8 t258], .slice Ao29 t259.length co29] (by rfl) rfl rfl (by (try simp only [List.map_toArray, List.map_cons, List.map_nil]); first | done | rfl | (simp only [List.length_drop, List.length_take]; rfl)) ?_
    with_reducible refine (spec_ChainFor.calls k t251 t252 t253 t254 t255 t256 t257 t258 _ _ t259 t262 t263 _ ?side1 ?side2 A14.out).mono ?_
    (case side1 => repeat (first | exact (Kd.R_reads' HO261.out).2.2 | (with_reducible refine Kd.C_alloc ?_ _) | (with_reducible refine Kd.C_drewN ?_ _) | (with_reducible refine Kd.C_drew ?_)))
    (case side2 => exact (Kd.R_reads' HO261.out).2.1)
    rintro e w30 ⟨rfl, hb⟩
    refine ⟨_, rfl, ?_⟩
    have n0_ := Aside0.mk (Kd.R_below (by (with_reducible repeat (first | apply Kd.R_alloc | apply Kd.R_drewN | apply Kd.R_drew)); exact HO261.out) hb)
    have n1_ := Aside0.mk (blk_below (g := gb247) (o := .cells (a0).A 26 (0, 0)) (by (with_reducible repeat (first | refine blk_drewN ?_ _ | refine blk_drew ?_ | refine blk_alloc ?_ _)); exact BK247.out) hb)
    have n2_ := Aside0.mk (blk_below (g := gb248) (o := .cells (a1).A 28 (0, 0)) (by (with_reducible repeat (first | refine blk_drewN ?_ _ | refine blk_drew ?_ | refine blk_alloc ?_ _)); exact BK248.out) hb)
    have n3_ := Aside0.mk (blk_below (g := gb249) (o := .cells #[.int .i8 a2_0, .int .i8 a2_1, .int .i8 a2_2, .int .i8 a2_3, .int .i8 a2_4, .int .i8 a2_5] 38 (0, 0)) (by (with_reducible repeat (first | refine blk_drewN ?_ _ | refine blk_drew ?_ | refine blk_alloc ?_ _)); exact BK249.out) hb)
    have n4_ := Aside0.mk (below_step (by repeat (first | (with_reducible first | exact HB.out | apply below_alloc | apply pw_below_drewN | apply below_drew1 | refine below_set ?_ GE247.out | refine below_set ?_ GE248.out | refine below_set ?_ GE249.out) | exact HB.out)) hb)
    clear HO261
    clear BK247
    clear BK248
    clear BK249
    clear HB
    have HO261 := n0_
    have BK247 := n1_
    have BK248 := n2_
    have BK249 := n3_
    have HB := n4_
    clear n0_ n1_ n2_ n3_ n4_
    (try clear hb)
    (try clear hb2)
    (try clear hk)
    (try clear hi)
    refine hK.out _ _ ⟨BK247.out, BK248.out, (blk_cell BK249.out 0).trans rfl, (blk_cell BK249.out 1).trans rfl, (blk_cell BK249.out 2).trans rfl, (blk_cell BK249.out 3).trans rfl, (blk_cell BK249.out 4).trans rfl, (blk_cell BK249.out 5).trans rfl⟩ (fun hHeld => ?_)
    clear hK K
    refine norm_ (a' := ?_) ?_ ?_
    rotate_left
    · show Act.put _ (some 29) _ = _
      simp only [Act.put, List.setIfInBounds_toArray, List.set_cons_zero, List.set_cons_succ, i64_w, i32_w]
      rfl
    refine pure_ (i := 9) (N := some 20) (v := ?_) (a' := ?_) #[true, true, true, true, true, true, true, true, true, true, false, false, false, false] rfl rfl (any_of HT_.out (by kernel_rfl)) (fun _ _ _ h => h) (Or.inl ⟨by rfl, ?_⟩) ?_ ?_
    rotate_left
    · intro w'
      go_simp
      with_reducible rfl
    rotate_left
    · simp only [Act.put, List.setIfInBounds_toArray, List.set_cons_zero, List.set_cons_succ, i64_w, i32_w]
      rfl
    refine pure_ (i := 10) (N := some 30) (v := ?_) (a' := ?_) #[true, true, true, true, true, true, true, true, true, true, true, false, false, false] rfl rfl (any_of HT_.out (by kernel_rfl)) (fun _ _ _ h => h) (Or.inl ⟨by rfl, ?_⟩) ?_ ?_
    rotate_left
    · intro w'
      go_simp
      with_reducible rfl
    rotate_left
    · simp only [Act.put, List.setIfInBounds_toArray, List.set_cons_zero, List.set_cons_succ, i64_w, i32_w]
      rfl
    refine pure_ (i := 11) (N := some 31) (v := ?_) (a' := ?_) #[true, true, true, true, true, true, true, true, true, true, true, true, false, false] rfl rfl (any_of HT_.out (by kernel_rfl)) (fun _ _ _ h => h) (Or.inl ⟨by rfl, ?_⟩) ?_ ?_
    rotate_left
    · intro w'
      go_simp
      with_reducible rfl
    rotate_left
    · simp only [Act.put, List.setIfInBounds_toArray, List.set_cons_zero, List.set_cons_succ, i64_w, i32_w]
      rfl
    refine pure_ (i := 12) (N := some 10) (v := ?_) (a' := ?_) #[true, true, true, true, true, true, true, true, true, true, true, true, true, false] rfl rfl (any_of HT_.out (by kernel_rfl)) (fun _ _ _ h => h) (Or.inl ⟨by rfl, ?_⟩) ?_ ?_
    rotate_left
    · intro w'
      go_simp
      with_reducible rfl
    rotate_left
    · simp only [Act.put, List.setIfInBounds_toArray, List.set_cons_zero, List.set_cons_succ, i64_w, i32_w]
      rfl
    refine pure_ (i := 13) (N := some 11) (v := ?_) (a' := ?_) #[true, true, true, true, true, true, true, true, true, true, true, true, true, true] rfl rfl (any_of HT_.out (by kernel_rfl)) (fun _ _ _ h => h) (Or.inl ⟨by rfl, ?_⟩) ?_ ?_
    rotate_left
    · intro w'
      go_simp
      with_reducible rfl
    rotate_left
    · simp only [Act.put, List.setIfInBounds_toArray, List.set_cons_zero, List.set_cons_succ, i64_w, i32_w]
      rfl
    refine done_ (done_of HT_.out (by kernel_rfl)) ?_
    try go_wp2_with (first | ((with_reducible refine gate_callee (f := 20) rfl ?_); refine goesL_ (some 33) rfl rfl Try.func20 (by kernel_rfl) rfl #[.slice A3 l3.length c3] rfl (by (try simp only [List.map_toArray, List.map_cons, List.map_nil]); first | done | rfl | (simp only [List.length_drop, List.length_take]; rfl)) ?_; (with_reducible refine (laws_toWindS.calls k _ _ l3 t264 _ ?side1 ?side2 A15.out).mono ?_); (case side1 => repeat (first | exact (Kd.C_below HR3.out HB.out) | (with_reducible refine Kd.C_alloc ?_ _) | (with_reducible refine Kd.C_drewN ?_ _) | (with_reducible refine Kd.C_drew ?_))); (case side2 => exact HC3.out); rintro e w31 ⟨v265, rfl, ho0, hb⟩; refine ⟨_, rfl, ?_⟩; have n0_ := Aside0.mk (Kd.R_elder' (by (with_reducible repeat (first | apply Kd.R_alloc | apply Kd.R_drewN | apply Kd.R_drew)); exact HO261.out) (Kd.R_base ho0) hb); have n1_ := Aside0.mk (Kd.R_lower (Kd.R_new' ho0 (Kd.R_lt (by (with_reducible repeat (first | apply Kd.R_alloc | apply Kd.R_drewN | apply Kd.R_drew)); exact HO261.out))) (below_size (by repeat (first | (with_reducible first | exact HB.out | apply below_alloc | apply pw_below_drewN | apply below_drew1 | refine below_set ?_ GE247.out | refine below_set ?_ GE248.out | refine below_set ?_ GE249.out) | exact HB.out)))); have n2_ := Aside0.mk (blk_below (g := gb247) (o := .cells (a0).A 26 (0, 0)) (by (with_reducible repeat (first | refine blk_drewN ?_ _ | refine blk_drew ?_ | refine blk_alloc ?_ _)); exact BK247.out) hb); have n3_ := Aside0.mk (blk_below (g := gb248) (o := .cells (a1).A 28 (0, 0)) (by (with_reducible repeat (first | refine blk_drewN ?_ _ | refine blk_drew ?_ | refine blk_alloc ?_ _)); exact BK248.out) hb); have n4_ := Aside0.mk (blk_below (g := gb249) (o := .cells #[.int .i8 a2_0, .int .i8 a2_1, .int .i8 a2_2, .int .i8 a2_3, .int .i8 a2_4, .int .i8 a2_5] 38 (0, 0)) (by (with_reducible repeat (first | refine blk_drewN ?_ _ | refine blk_drew ?_ | refine blk_alloc ?_ _)); exact BK249.out) hb); have n5_ := Aside0.mk (below_step (by repeat (first | (with_reducible first | exact HB.out | apply below_alloc | apply pw_below_drewN | apply below_drew1 | refine below_set ?_ GE247.out | refine below_set ?_ GE248.out | refine below_set ?_ GE249.out) | exact HB.out)) hb); clear HO261; clear BK247; clear BK248; clear BK249; clear HB; have HO261 := n0_; have HO266 := n1_; have BK247 := n2_; have BK248 := n3_; have BK249 := n4_; have HB := n5_; clear n0_ n1_ n2_ n3_ n4_ n5_; (try clear hb); (try clear hb2); (try clear hk); (try clear hi); (try clear ho0)))
    have n0_ := Aside0.mk (Kd.R_drew HO261.out)
    have n1_ := Aside0.mk (Kd.R_drew HO266.out)
    have n2_ := Aside0.mk (blk_drew BK247.out)
    have n3_ := Aside0.mk (blk_drew BK248.out)
    have n4_ := Aside0.mk (blk_drew BK249.out)
    have n5_ := Aside0.mk (below_drew1 HB.out)
    clear HO261
    clear HO266
    clear BK247
    clear BK248
    clear BK249
    clear HB
    have HO261 := n0_
    have HO266 := n1_
    have BK247 := n2_
    have BK248 := n3_
    have BK249 := n4_
    have HB := n5_
    clear n0_ n1_ n2_ n3_ n4_ n5_
    refine start_ (n := 13) (S := fun w' => w'.heap[gb247]? = some (.cells (a0).A 26 (0, 0)) ∧ w'.heap[gb248]? = some (.cells (a1).A 28 (0, 0)) ∧ w'.cell? ⟨gb249, 0, none⟩ = some (.int .i8 a2_0) ∧ w'.cell? ⟨gb249, 1, none⟩ = some (.int .i8 a2_1) ∧ w'.cell? ⟨gb249, 2, none⟩ = some (.int .i8 a2_2) ∧ w'.cell? ⟨gb249, 3, none⟩ = some (.int .i8 a2_3) ∧ w'.cell? ⟨gb249, 4, none⟩ = some (.int .i8 a2_4) ∧ w'.cell? ⟨gb249, 5, none⟩ = some (.int .i8 a2_5)) (ds := []) #[false, false, false, false, false, false, false, false, false, false, false, false, false] (by kernel_rfl) rfl rfl ⟨BK247.out, BK248.out, (blk_cell BK249.out 0).trans rfl, (blk_cell BK249.out 1).trans rfl, (blk_cell BK249.out 2).trans rfl, (blk_cell BK249.out 3).trans rfl, (blk_cell BK249.out 4).trans rfl, (blk_cell BK249.out 5).trans rfl⟩ (fun hHeld => ?_); refine with_tabW laws_FnExactChainFor.tab7 laws_FnExactChainFor.bits7 (fun HT_ HW_ => ?_)
    generalize w31.drew = w32 at HO261 HO266 BK247 BK248 BK249 HB hHeld ⊢
    refine pure_ (i := 6) (N := some 41) (v := ?_) (a' := ?_) #[false, false, false, false, false, false, true, false, false, false, false, false, false] rfl rfl (any_of HT_.out (by kernel_rfl)) (fun _ _ _ h => h) (Or.inl ⟨by rfl, ?_⟩) ?_ ?_
    rotate_left
    · intro w'
      go_simp
      with_reducible rfl
    rotate_left
    · simp only [Act.put, List.setIfInBounds_toArray, List.set_cons_zero, List.set_cons_succ, i64_w, i32_w]
      rfl
    refine take_ (i := 0) (N := some 35) (v := ?_) (a' := ?_) #[true, false, false, false, false, false, true, false, false, false, false, false, false] rfl rfl (take_ofW HT_.out HW_.out (by kernel_rfl)) (fun _ _ _ h => h) (Or.inl ⟨by rfl, ?_⟩) hHeld ?_ ?_
    rotate_left
    · rintro w' ⟨s0, s1, s2, s3, s4, s5, s6, s7⟩
      skip
      first | (refine Eq.trans (AR.exec_load_blk rfl rfl s0 Try.underlying26 rfl (szO26 _)) ?_; with_reducible rfl) | (refine Eq.trans (AR.exec_load_blk rfl rfl s1 Try.underlying28 rfl (szO28 _)) ?_; with_reducible rfl) | (go_simp; with_reducible rfl)
    rotate_left
    · simp only [Act.put, List.setIfInBounds_toArray, List.set_cons_zero, List.set_cons_succ, i64_w, i32_w]
      rfl
    refine take_ (i := 2) (N := some 37) (v := ?_) (a' := ?_) #[true, false, true, false, false, false, true, false, false, false, false, false, false] rfl rfl (take_ofW HT_.out HW_.out (by kernel_rfl)) (fun _ _ _ h => h) (Or.inl ⟨by rfl, ?_⟩) hHeld ?_ ?_
    rotate_left
    · rintro w' ⟨s0, s1, s2, s3, s4, s5, s6, s7⟩
      skip
      first | (refine Eq.trans (AR.exec_load_blk rfl rfl s0 Try.underlying26 rfl (szO26 _)) ?_; with_reducible rfl) | (refine Eq.trans (AR.exec_load_blk rfl rfl s1 Try.underlying28 rfl (szO28 _)) ?_; with_reducible rfl) | (go_simp; with_reducible rfl)
    rotate_left
    · simp only [Act.put, List.setIfInBounds_toArray, List.set_cons_zero, List.set_cons_succ, i64_w, i32_w]
      rfl
    refine take_ (i := 4) (N := some 39) (v := ?_) (a' := ?_) #[true, false, true, false, true, false, true, false, false, false, false, false, false] rfl rfl (take_ofW HT_.out HW_.out (by kernel_rfl)) (fun _ _ _ h => h) (Or.inl ⟨by rfl, ?_⟩) hHeld ?_ ?_
    rotate_left
    · rintro w' ⟨s0, s1, s2, s3, s4, s5, s6, s7⟩
      skip
      first | (refine Eq.trans (AR.exec_load_blk rfl rfl s0 Try.underlying26 rfl (szO26 _)) ?_; with_reducible rfl) | (refine Eq.trans (AR.exec_load_blk rfl rfl s1 Try.underlying28 rfl (szO28 _)) ?_; with_reducible rfl) | (go_simp; with_reducible rfl)
    rotate_left
    · simp only [Act.put, List.setIfInBounds_toArray, List.set_cons_zero, List.set_cons_succ, i64_w, i32_w]
      rfl
    refine one_ (i := 1) (N := some 36) #[true, true, true, false, true, false, true, false, false, false, false, false, false] rfl rfl (one_of HT_.out (by kernel_rfl)) (by decide) (fun K hK => ?_)
    refine goes_ Try.func8 (by kernel_rfl) rfl #[VO26 a0] (by rfl) rfl rfl (by (try simp only [List.map_toArray, List.map_cons, List.map_nil]); first | done | rfl | (simp only [List.length_drop, List.length_take]; rfl)) ?_
    with_reducible refine (laws_toBay.calls a0 t267 _ A16.out).mono ?_
    rintro e w33 ⟨rfl, hb⟩
    refine ⟨_, rfl, ?_⟩
    have n0_ := Aside0.mk (Kd.R_below (by (with_reducible repeat (first | apply Kd.R_alloc | apply Kd.R_drewN | apply Kd.R_drew)); exact HO261.out) hb)
    have n1_ := Aside0.mk (Kd.R_below (by (with_reducible repeat (first | apply Kd.R_alloc | apply Kd.R_drewN | apply Kd.R_drew)); exact HO266.out) hb)
    have n2_ := Aside0.mk (blk_below (g := gb247) (o := .cells (a0).A 26 (0, 0)) (by (with_reducible repeat (first | refine blk_drewN ?_ _ | refine blk_drew ?_ | refine blk_alloc ?_ _)); exact BK247.out) hb)
    have n3_ := Aside0.mk (blk_below (g := gb248) (o := .cells (a1).A 28 (0, 0)) (by (with_reducible repeat (first | refine blk_drewN ?_ _ | refine blk_drew ?_ | refine blk_alloc ?_ _)); exact BK248.out) hb)
    have n4_ := Aside0.mk (blk_below (g := gb249) (o := .cells #[.int .i8 a2_0, .int .i8 a2_1, .int .i8 a2_2, .int .i8 a2_3, .int .i8 a2_4, .int .i8 a2_5] 38 (0, 0)) (by (with_reducible repeat (first | refine blk_drewN ?_ _ | refine blk_drew ?_ | refine blk_alloc ?_ _)); exact BK249.out) hb)
    have n5_ := Aside0.mk (below_step (by repeat (first | (with_reducible first | exact HB.out | apply below_alloc | apply pw_below_drewN | apply below_drew1 | refine below_set ?_ GE247.out | refine below_set ?_ GE248.out | refine below_set ?_ GE249.out) | exact HB.out)) hb)
    clear HO261
    clear HO266
    clear BK247
    clear BK248
    clear BK249
    clear HB
    have HO261 := n0_
    have HO266 := n1_
    have BK247 := n2_
    have BK248 := n3_
    have BK249 := n4_
    have HB := n5_
    clear n0_ n1_ n2_ n3_ n4_ n5_
    (try clear hb)
    (try clear hb2)
    (try clear hk)
    (try clear hi)
    refine hK.out _ _ ⟨BK247.out, BK248.out, (blk_cell BK249.out 0).trans rfl, (blk_cell BK249.out 1).trans rfl, (blk_cell BK249.out 2).trans rfl, (blk_cell BK249.out 3).trans rfl, (blk_cell BK249.out 4).trans rfl, (blk_cell BK249.out 5).trans rfl⟩ (fun hHeld => ?_)
    clear hK K
    refine norm_ (a' := ?_) ?_ ?_
    rotate_left
    · show Act.put _ (some 36) _ = _
      simp only [Act.put, List.setIfInBounds_toArray, List.set_cons_zero, List.set_cons_succ, i64_w, i32_w]
      rfl
    refine one_ (i := 3) (N := some 38) #[true, true, true, true, true, false, true, false, false, false, false, false, false] rfl rfl (one_of HT_.out (by kernel_rfl)) (by decide) (fun K hK => ?_)
    refine goes_ Try.func9 (by kernel_rfl) rfl #[VO28 a1] (by rfl) rfl rfl (by (try simp only [List.map_toArray, List.map_cons, List.map_nil]); first | done | rfl | (simp only [List.length_drop, List.length_take]; rfl)) ?_
    with_reducible refine (laws_toGrounds.calls a1 t268 _ A17.out).mono ?_
    rintro e w34 ⟨rfl, hb⟩
    refine ⟨_, rfl, ?_⟩
    have n0_ := Aside0.mk (Kd.R_below (by (with_reducible repeat (first | apply Kd.R_alloc | apply Kd.R_drewN | apply Kd.R_drew)); exact HO261.out) hb)
    have n1_ := Aside0.mk (Kd.R_below (by (with_reducible repeat (first | apply Kd.R_alloc | apply Kd.R_drewN | apply Kd.R_drew)); exact HO266.out) hb)
    have n2_ := Aside0.mk (blk_below (g := gb247) (o := .cells (a0).A 26 (0, 0)) (by (with_reducible repeat (first | refine blk_drewN ?_ _ | refine blk_drew ?_ | refine blk_alloc ?_ _)); exact BK247.out) hb)
    have n3_ := Aside0.mk (blk_below (g := gb248) (o := .cells (a1).A 28 (0, 0)) (by (with_reducible repeat (first | refine blk_drewN ?_ _ | refine blk_drew ?_ | refine blk_alloc ?_ _)); exact BK248.out) hb)
    have n4_ := Aside0.mk (blk_below (g := gb249) (o := .cells #[.int .i8 a2_0, .int .i8 a2_1, .int .i8 a2_2, .int .i8 a2_3, .int .i8 a2_4, .int .i8 a2_5] 38 (0, 0)) (by (with_reducible repeat (first | refine blk_drewN ?_ _ | refine blk_drew ?_ | refine blk_alloc ?_ _)); exact BK249.out) hb)
    have n5_ := Aside0.mk (below_step (by repeat (first | (with_reducible first | exact HB.out | apply below_alloc | apply pw_below_drewN | apply below_drew1 | refine below_set ?_ GE247.out | refine below_set ?_ GE248.out | refine below_set ?_ GE249.out) | exact HB.out)) hb)
    clear HO261
    clear HO266
    clear BK247
    clear BK248
    clear BK249
    clear HB
    have HO261 := n0_
    have HO266 := n1_
    have BK247 := n2_
    have BK248 := n3_
    have BK249 := n4_
    have HB := n5_
    clear n0_ n1_ n2_ n3_ n4_ n5_
    (try clear hb)
    (try clear hb2)
    (try clear hk)
    (try clear hi)
    refine hK.out _ _ ⟨BK247.out, BK248.out, (blk_cell BK249.out 0).trans rfl, (blk_cell BK249.out 1).trans rfl, (blk_cell BK249.out 2).trans rfl, (blk_cell BK249.out 3).trans rfl, (blk_cell BK249.out 4).trans rfl, (blk_cell BK249.out 5).trans rfl⟩ (fun hHeld => ?_)
    clear hK K
    refine norm_ (a' := ?_) ?_ ?_
    rotate_left
    · show Act.put _ (some 38) _ = _
      simp only [Act.put, List.setIfInBounds_toArray, List.set_cons_zero, List.set_cons_succ, i64_w, i32_w]
      rfl
    refine one_ (i := 5) (N := some 40) #[true, true, true, true, true, true, true, false, false, false, false, false, false] rfl rfl (one_of HT_.out (by kernel_rfl)) (by decide) (fun K hK => ?_)
    refine goes_ Try.func12 (by kernel_rfl) rfl #[.agg #[.int .i8 a2_0, .int .i8 a2_1, .int .i8 a2_2, .int .i8 a2_3, .int .i8 a2_4, .int .i8 a2_5]] (by rfl) rfl rfl (by (try simp only [List.map_toArray, List.map_cons, List.map_nil]); first | done | rfl | (simp only [List.length_drop, List.length_take]; rfl)) ?_
    with_reducible refine (laws_toBoat.calls a2_0 a2_1 a2_2 a2_3 a2_4 a2_5 t269 t270 t271 t272 t273 t274 _ A18.out).mono ?_
    rintro e w35 ⟨rfl, hb⟩
    refine ⟨_, rfl, ?_⟩
    have n0_ := Aside0.mk (Kd.R_below (by (with_reducible repeat (first | apply Kd.R_alloc | apply Kd.R_drewN | apply Kd.R_drew)); exact HO261.out) hb)
    have n1_ := Aside0.mk (Kd.R_below (by (with_reducible repeat (first | apply Kd.R_alloc | apply Kd.R_drewN | apply Kd.R_drew)); exact HO266.out) hb)
    have n2_ := Aside0.mk (blk_below (g := gb247) (o := .cells (a0).A 26 (0, 0)) (by (with_reducible repeat (first | refine blk_drewN ?_ _ | refine blk_drew ?_ | refine blk_alloc ?_ _)); exact BK247.out) hb)
    have n3_ := Aside0.mk (blk_below (g := gb248) (o := .cells (a1).A 28 (0, 0)) (by (with_reducible repeat (first | refine blk_drewN ?_ _ | refine blk_drew ?_ | refine blk_alloc ?_ _)); exact BK248.out) hb)
    have n4_ := Aside0.mk (blk_below (g := gb249) (o := .cells #[.int .i8 a2_0, .int .i8 a2_1, .int .i8 a2_2, .int .i8 a2_3, .int .i8 a2_4, .int .i8 a2_5] 38 (0, 0)) (by (with_reducible repeat (first | refine blk_drewN ?_ _ | refine blk_drew ?_ | refine blk_alloc ?_ _)); exact BK249.out) hb)
    have n5_ := Aside0.mk (below_step (by repeat (first | (with_reducible first | exact HB.out | apply below_alloc | apply pw_below_drewN | apply below_drew1 | refine below_set ?_ GE247.out | refine below_set ?_ GE248.out | refine below_set ?_ GE249.out) | exact HB.out)) hb)
    clear HO261
    clear HO266
    clear BK247
    clear BK248
    clear BK249
    clear HB
    have HO261 := n0_
    have HO266 := n1_
    have BK247 := n2_
    have BK248 := n3_
    have BK249 := n4_
    have HB := n5_
    clear n0_ n1_ n2_ n3_ n4_ n5_
    (try clear hb)
    (try clear hb2)
    (try clear hk)
    (try clear hi)
    obtain ⟨Ao36, co36, eo36⟩ := Kd.R_slice HO266.out
    (first | subst eo36 | (injection eo36 with f1_ f2_ f3_; have f4_ := f1_.symm; have f5_ := f3_.symm; clear f1_ f2_ f3_; subst f4_; subst f5_))
    refine hK.out _ _ ⟨BK247.out, BK248.out, (blk_cell BK249.out 0).trans rfl, (blk_cell BK249.out 1).trans rfl, (blk_cell BK249.out 2).trans rfl, (blk_cell BK249.out 3).trans rfl, (blk_cell BK249.out 4).trans rfl, (blk_cell BK249.out 5).trans rfl⟩ (fun hHeld => ?_)
    clear hK K
    refine norm_ (a' := ?_) ?_ ?_
    rotate_left
    · show Act.put _ (some 40) _ = _
      simp only [Act.put, List.setIfInBounds_toArray, List.set_cons_zero, List.set_cons_succ, i64_w, i32_w]
      rfl
    refine one_ (i := 7) (N := some 42) #[true, true, true, true, true, true, true, true, false, false, false, false, false] rfl rfl (one_of HT_.out (by kernel_rfl)) (by decide) (fun K hK => ?_)
    refine goes_ Try.func21 (by kernel_rfl) rfl #[VO30 t267, VO32 t268, .agg #[.int .i8 t269, .int .i8 t270, .int .i8 t271, .int .i8 t272, .int .i8 t273, .int .i8 t274], .slice Ao36 t264.length co36] (by rfl) rfl rfl (by (try simp only [List.map_toArray, List.map_cons, List.map_nil]); first | done | rfl | (simp only [List.length_drop, List.length_take]; rfl)) ?_
    with_reducible refine (impl_ChainFor.calls k t267 t268 t269 t270 t271 t272 t273 t274 _ _ t264 t275 t276 _ ?side1 ?side2 A19.out).mono ?_
    (case side1 => repeat (first | exact (Kd.R_reads' HO266.out).2.2 | (with_reducible refine Kd.C_alloc ?_ _) | (with_reducible refine Kd.C_drewN ?_ _) | (with_reducible refine Kd.C_drew ?_)))
    (case side2 => exact (Kd.R_reads' HO266.out).2.1)
    rintro e w37 ⟨rfl, hb⟩
    refine ⟨_, rfl, ?_⟩
    have n0_ := Aside0.mk (Kd.R_below (by (with_reducible repeat (first | apply Kd.R_alloc | apply Kd.R_drewN | apply Kd.R_drew)); exact HO261.out) hb)
    have n1_ := Aside0.mk (Kd.R_below (by (with_reducible repeat (first | apply Kd.R_alloc | apply Kd.R_drewN | apply Kd.R_drew)); exact HO266.out) hb)
    have n2_ := Aside0.mk (blk_below (g := gb247) (o := .cells (a0).A 26 (0, 0)) (by (with_reducible repeat (first | refine blk_drewN ?_ _ | refine blk_drew ?_ | refine blk_alloc ?_ _)); exact BK247.out) hb)
    have n3_ := Aside0.mk (blk_below (g := gb248) (o := .cells (a1).A 28 (0, 0)) (by (with_reducible repeat (first | refine blk_drewN ?_ _ | refine blk_drew ?_ | refine blk_alloc ?_ _)); exact BK248.out) hb)
    have n4_ := Aside0.mk (blk_below (g := gb249) (o := .cells #[.int .i8 a2_0, .int .i8 a2_1, .int .i8 a2_2, .int .i8 a2_3, .int .i8 a2_4, .int .i8 a2_5] 38 (0, 0)) (by (with_reducible repeat (first | refine blk_drewN ?_ _ | refine blk_drew ?_ | refine blk_alloc ?_ _)); exact BK249.out) hb)
    have n5_ := Aside0.mk (below_step (by repeat (first | (with_reducible first | exact HB.out | apply below_alloc | apply pw_below_drewN | apply below_drew1 | refine below_set ?_ GE247.out | refine below_set ?_ GE248.out | refine below_set ?_ GE249.out) | exact HB.out)) hb)
    clear HO261
    clear HO266
    clear BK247
    clear BK248
    clear BK249
    clear HB
    have HO261 := n0_
    have HO266 := n1_
    have BK247 := n2_
    have BK248 := n3_
    have BK249 := n4_
    have HB := n5_
    clear n0_ n1_ n2_ n3_ n4_ n5_
    (try clear hb)
    (try clear hb2)
    (try clear hk)
    (try clear hi)
    refine hK.out _ _ ⟨BK247.out, BK248.out, (blk_cell BK249.out 0).trans rfl, (blk_cell BK249.out 1).trans rfl, (blk_cell BK249.out 2).trans rfl, (blk_cell BK249.out 3).trans rfl, (blk_cell BK249.out 4).trans rfl, (blk_cell BK249.out 5).trans rfl⟩ (fun hHeld => ?_)
    clear hK K
    refine norm_ (a' := ?_) ?_ ?_
    rotate_left
    · show Act.put _ (some 42) _ = _
      simp only [Act.put, List.setIfInBounds_toArray, List.set_cons_zero, List.set_cons_succ, i64_w, i32_w]
      rfl
    refine pure_ (i := 8) (N := some 34) (v := ?_) (a' := ?_) #[true, true, true, true, true, true, true, true, true, false, false, false, false] rfl rfl (any_of HT_.out (by kernel_rfl)) (fun _ _ _ h => h) (Or.inl ⟨by rfl, ?_⟩) ?_ ?_
    rotate_left
    · intro w'
      go_simp
      with_reducible rfl
    rotate_left
    · simp only [Act.put, List.setIfInBounds_toArray, List.set_cons_zero, List.set_cons_succ, i64_w, i32_w]
      rfl
    refine pure_ (i := 9) (N := some 43) (v := ?_) (a' := ?_) #[true, true, true, true, true, true, true, true, true, true, false, false, false] rfl rfl (any_of HT_.out (by kernel_rfl)) (fun _ _ _ h => h) (Or.inl ⟨by rfl, ?_⟩) ?_ ?_
    rotate_left
    · intro w'
      go_simp
      with_reducible rfl
    rotate_left
    · simp only [Act.put, List.setIfInBounds_toArray, List.set_cons_zero, List.set_cons_succ, i64_w, i32_w]
      rfl
    refine pure_ (i := 10) (N := some 44) (v := ?_) (a' := ?_) #[true, true, true, true, true, true, true, true, true, true, true, false, false] rfl rfl (any_of HT_.out (by kernel_rfl)) (fun _ _ _ h => h) (Or.inl ⟨by rfl, ?_⟩) ?_ ?_
    rotate_left
    · intro w'
      go_simp
      with_reducible rfl
    rotate_left
    · simp only [Act.put, List.setIfInBounds_toArray, List.set_cons_zero, List.set_cons_succ, i64_w, i32_w]
      rfl
    refine pure_ (i := 11) (N := some 13) (v := ?_) (a' := ?_) #[true, true, true, true, true, true, true, true, true, true, true, true, false] rfl rfl (any_of HT_.out (by kernel_rfl)) (fun _ _ _ h => h) (Or.inl ⟨by rfl, ?_⟩) ?_ ?_
    rotate_left
    · intro w'
      go_simp
      with_reducible rfl
    rotate_left
    · simp only [Act.put, List.setIfInBounds_toArray, List.set_cons_zero, List.set_cons_succ, i64_w, i32_w]
      rfl
    refine pure_ (i := 12) (N := some 14) (v := ?_) (a' := ?_) #[true, true, true, true, true, true, true, true, true, true, true, true, true] rfl rfl (any_of HT_.out (by kernel_rfl)) (fun _ _ _ h => h) (Or.inl ⟨by rfl, ?_⟩) ?_ ?_
    rotate_left
    · intro w'
      go_simp
      with_reducible rfl
    rotate_left
    · simp only [Act.put, List.setIfInBounds_toArray, List.set_cons_zero, List.set_cons_succ, i64_w, i32_w]
      rfl
    refine done_ (done_of HT_.out (by kernel_rfl)) ?_
    go_upto_region 8 with (fail)
    go_cut [52] (fun v52 wc => ∃ (kq : Nat) (x52_19 : Bool), v52 = .bool x52_19 ∧ Aside0 (laws_FnExactChainFor.j0 kq l3 t264 x52_19 = some r) ∧ Aside0 (kq ≤ k) ∧ Aside0 (Kd.R k50 50 wc w.heap.size (fun _ => True) (.slice Ao36 t264.length co36) t264) ∧ Aside0 (wc.heap[gb247]? = some (.cells (a0).A 26 (0, 0))) ∧ Aside0 (wc.heap[gb248]? = some (.cells (a1).A 28 (0, 0))) ∧ Aside0 (wc.heap[gb249]? = some (.cells #[.int .i8 a2_0, .int .i8 a2_1, .int .i8 a2_2, .int .i8 a2_3, .int .i8 a2_4, .int .i8 a2_5] 38 (0, 0))) ∧ Aside0 (Below w.heap.size w wc))
    case first =>
      have H := HC20.out
      clear HC20
      by_cases c38 : t275 = t262
      · rw [if_pos c38] at H
        have c38b0 : (t275 == t262) = true := beq_iff_eq.mpr c38
        have c38b1 : (t275 != t262) = false := bne_eq_false_iff_eq.mpr c38
        clear c38
        (first | rw [c38b0] | (simp only [i64_w, i32_w]; rw [c38b0]) | skip)
        have H' := Aside0.mk H
        clear H
        go_wp2
        go_meet
        case rel => exact ⟨_, ((t276 != t263)), (by first | rfl | (simp; done) | (simp [*]; done)), H', ⟨by first | omega | exact Nat.le_refl _⟩, ⟨by (with_reducible repeat (first | apply Kd.R_alloc | apply Kd.R_drewN | apply Kd.R_drew)); exact Kd.R_mono HO266.out (fun _ hk => trivial)⟩, ⟨by (with_reducible repeat (first | refine blk_drewN ?_ _ | refine blk_drew ?_ | refine blk_alloc ?_ _)); exact BK247.out⟩, ⟨by (with_reducible repeat (first | refine blk_drewN ?_ _ | refine blk_drew ?_ | refine blk_alloc ?_ _)); exact BK248.out⟩, ⟨by (with_reducible repeat (first | refine blk_drewN ?_ _ | refine blk_drew ?_ | refine blk_alloc ?_ _)); exact BK249.out⟩, ⟨by repeat (first | (with_reducible first | exact HB.out | apply below_alloc | apply pw_below_drewN | apply below_drew1 | refine below_set ?_ GE247.out | refine below_set ?_ GE248.out | refine below_set ?_ GE249.out) | exact HB.out)⟩⟩
      · rw [if_neg c38] at H
        have c38b0 : (t275 == t262) = false := beq_eq_false_iff_ne.mpr c38
        have c38b1 : (t275 != t262) = true := bne_iff_ne.mpr c38
        (first | rw [c38b0] | (simp only [i64_w, i32_w]; rw [c38b0]) | skip)
        have H' := Aside0.mk H
        clear H
        go_wp2
        go_meet
        case rel => exact ⟨_, (true), (by first | rfl | (simp; done) | (simp [*]; done)), H', ⟨by first | omega | exact Nat.le_refl _⟩, ⟨by (with_reducible repeat (first | apply Kd.R_alloc | apply Kd.R_drewN | apply Kd.R_drew)); exact Kd.R_mono HO266.out (fun _ hk => trivial)⟩, ⟨by (with_reducible repeat (first | refine blk_drewN ?_ _ | refine blk_drew ?_ | refine blk_alloc ?_ _)); exact BK247.out⟩, ⟨by (with_reducible repeat (first | refine blk_drewN ?_ _ | refine blk_drew ?_ | refine blk_alloc ?_ _)); exact BK248.out⟩, ⟨by (with_reducible repeat (first | refine blk_drewN ?_ _ | refine blk_drew ?_ | refine blk_alloc ?_ _)); exact BK249.out⟩, ⟨by repeat (first | (with_reducible first | exact HB.out | apply below_alloc | apply pw_below_drewN | apply below_drew1 | refine below_set ?_ GE247.out | refine below_set ?_ GE248.out | refine below_set ?_ GE249.out) | exact HB.out)⟩⟩
    case rest =>
      clear HC20
      try clear c1
      try clear c2
      try clear p2
      try clear c3
      try clear c6
      try clear c6b0
      try clear c8
      try clear c9
      try clear c12
      try clear c18
      try clear c19
      try clear c20
      try clear c21
      try clear c38
      try clear c38b0
      try clear c38b1
      obtain ⟨kq, x52_19, rfl, HA, HJ19, HO_12, BK247, BK248, BK249, HB⟩ := hcut
      cases kq with
      | zero => exact absurd HA.out (by simp [laws_FnExactChainFor.j0])
      | succ kj19 =>
        have H := HA.out
        clear HA
        simp only [laws_FnExactChainFor.j0] at H
        by_cases c39 : x52_19 = true
        · subst c39
          have H1 : (some false) = some r := by rw [if_pos rfl] at H; exact H
          clear H
          have H := H1
          clear H1
          obtain rfl := Option.some.inj H
          go_wp2
          go_ret
          exact ⟨by first | rfl | (simp [errW_none, errW_some] <;> rfl) | (simp [*, errW_none, errW_some] <;> rfl), by repeat (first | (with_reducible first | exact HB.out | apply below_alloc | apply pw_below_drewN | apply below_drew1 | refine below_set ?_ GE247.out | refine below_set ?_ GE248.out | refine below_set ?_ GE249.out) | exact HB.out)⟩
        · replace c39 := Bool.eq_false_iff.mpr c39
          subst c39
          have H1 : ((laws_toWindS.f kj19 l3).bind fun t277 => ((laws_eqWindS.f kj19 t264 t277).bind fun t280 => (if t280 = true then (some true) else (some false)))) = some r := by rw [if_neg (show ¬ (false = true) by decide)] at H; exact H
          clear H
          have H := H1
          clear H1
          replace H := Option.bind_eq_some_iff.mp H
          obtain ⟨t277, A400, H⟩ := H
          replace H : ((laws_eqWindS.f kj19 t264 t277).bind fun t280 => (if t280 = true then (some true) else (some false))) = some r := H
          have A40 := Aside0.mk A400
          clear A400
          replace H := Option.bind_eq_some_iff.mp H
          obtain ⟨t280, A410, H⟩ := H
          replace H : (if t280 = true then (some true) else (some false)) = some r := H
          have A41 := Aside0.mk A410
          clear A410
          by_cases c42 : t280 = true
          · subst c42
            have H1 : (some true) = some r := by rw [if_pos rfl] at H; exact H
            clear H
            have H := H1
            clear H1
            obtain rfl := Option.some.inj H
            go_wp2_with (first | ((with_reducible refine gate_callee (f := 20) rfl ?_); refine goesL_ (some 55) rfl rfl Try.func20 (by kernel_rfl) rfl #[.slice A3 l3.length c3] rfl (by (try simp only [List.map_toArray, List.map_cons, List.map_nil]); first | done | rfl | (simp only [List.length_drop, List.length_take]; rfl)) ?_; (with_reducible refine (laws_toWindS.calls kj19 _ _ l3 t277 _ ?side1 ?side2 A40.out).mono ?_); (case side1 => repeat (first | exact (Kd.C_below HR3.out HB.out) | (with_reducible refine Kd.C_alloc ?_ _) | (with_reducible refine Kd.C_drewN ?_ _) | (with_reducible refine Kd.C_drew ?_))); (case side2 => exact HC3.out); rintro e w43 ⟨v278, rfl, ho0, hb⟩; refine ⟨_, rfl, ?_⟩; have n0_ := Aside0.mk (Kd.R_elder' (by (with_reducible repeat (first | apply Kd.R_alloc | apply Kd.R_drewN | apply Kd.R_drew)); exact HO_12.out) (Kd.R_base ho0) hb); have n1_ := Aside0.mk (Kd.R_lower (Kd.R_new' ho0 (Kd.R_lt (by (with_reducible repeat (first | apply Kd.R_alloc | apply Kd.R_drewN | apply Kd.R_drew)); exact HO_12.out))) (below_size (by repeat (first | (with_reducible first | exact HB.out | apply below_alloc | apply pw_below_drewN | apply below_drew1 | refine below_set ?_ GE247.out | refine below_set ?_ GE248.out | refine below_set ?_ GE249.out) | exact HB.out)))); have n2_ := Aside0.mk (blk_below (g := gb247) (o := .cells (a0).A 26 (0, 0)) (by (with_reducible repeat (first | refine blk_drewN ?_ _ | refine blk_drew ?_ | refine blk_alloc ?_ _)); exact BK247.out) hb); have n3_ := Aside0.mk (blk_below (g := gb248) (o := .cells (a1).A 28 (0, 0)) (by (with_reducible repeat (first | refine blk_drewN ?_ _ | refine blk_drew ?_ | refine blk_alloc ?_ _)); exact BK248.out) hb); have n4_ := Aside0.mk (blk_below (g := gb249) (o := .cells #[.int .i8 a2_0, .int .i8 a2_1, .int .i8 a2_2, .int .i8 a2_3, .int .i8 a2_4, .int .i8 a2_5] 38 (0, 0)) (by (with_reducible repeat (first | refine blk_drewN ?_ _ | refine blk_drew ?_ | refine blk_alloc ?_ _)); exact BK249.out) hb); have n5_ := Aside0.mk (below_step (by repeat (first | (with_reducible first | exact HB.out | apply below_alloc | apply pw_below_drewN | apply below_drew1 | refine below_set ?_ GE247.out | refine below_set ?_ GE248.out | refine below_set ?_ GE249.out) | exact HB.out)) hb); clear HO_12; clear BK247; clear BK248; clear BK249; clear HB; have HO_12 := n0_; have HO279 := n1_; have BK247 := n2_; have BK248 := n3_; have BK249 := n4_; have HB := n5_; clear n0_ n1_ n2_ n3_ n4_ n5_; (try clear hb); (try clear hb2); (try clear hk); (try clear hi); (try clear ho0); obtain ⟨Ao44, co44, eo44⟩ := Kd.R_slice HO279.out; subst eo44) | ((with_reducible refine gate_callee (f := 22) rfl ?_); refine goesL_ (some 56) rfl rfl Try.func22 (by kernel_rfl) rfl #[.slice Ao36 t264.length co36, .slice Ao44 t277.length co44] rfl (by (try simp only [List.map_toArray, List.map_cons, List.map_nil]); first | done | rfl | (simp only [List.length_drop, List.length_take]; rfl)) ?_; (with_reducible refine (laws_eqWindS.calls kj19 _ _ t264 _ _ t277 true _ ?side1 ?side2 ?side3 ?side4 A41.out).mono ?_); (case side1 => repeat (first | exact (Kd.R_reads' HO_12.out).2.2 | (with_reducible refine Kd.C_alloc ?_ _) | (with_reducible refine Kd.C_drewN ?_ _) | (with_reducible refine Kd.C_drew ?_))); (case side2 => exact (Kd.R_reads' HO_12.out).2.1); (case side3 => repeat (first | exact (Kd.R_reads' HO279.out).2.2 | (with_reducible refine Kd.C_alloc ?_ _) | (with_reducible refine Kd.C_drewN ?_ _) | (with_reducible refine Kd.C_drew ?_))); (case side4 => exact (Kd.R_reads' HO279.out).2.1); rintro e w45 ⟨rfl, hb⟩; refine ⟨_, rfl, ?_⟩; have n0_ := Aside0.mk (Kd.R_below (by (with_reducible repeat (first | apply Kd.R_alloc | apply Kd.R_drewN | apply Kd.R_drew)); exact HO_12.out) hb); have n1_ := Aside0.mk (Kd.R_below (by (with_reducible repeat (first | apply Kd.R_alloc | apply Kd.R_drewN | apply Kd.R_drew)); exact HO279.out) hb); have n2_ := Aside0.mk (blk_below (g := gb247) (o := .cells (a0).A 26 (0, 0)) (by (with_reducible repeat (first | refine blk_drewN ?_ _ | refine blk_drew ?_ | refine blk_alloc ?_ _)); exact BK247.out) hb); have n3_ := Aside0.mk (blk_below (g := gb248) (o := .cells (a1).A 28 (0, 0)) (by (with_reducible repeat (first | refine blk_drewN ?_ _ | refine blk_drew ?_ | refine blk_alloc ?_ _)); exact BK248.out) hb); have n4_ := Aside0.mk (blk_below (g := gb249) (o := .cells #[.int .i8 a2_0, .int .i8 a2_1, .int .i8 a2_2, .int .i8 a2_3, .int .i8 a2_4, .int .i8 a2_5] 38 (0, 0)) (by (with_reducible repeat (first | refine blk_drewN ?_ _ | refine blk_drew ?_ | refine blk_alloc ?_ _)); exact BK249.out) hb); have n5_ := Aside0.mk (below_step (by repeat (first | (with_reducible first | exact HB.out | apply below_alloc | apply pw_below_drewN | apply below_drew1 | refine below_set ?_ GE247.out | refine below_set ?_ GE248.out | refine below_set ?_ GE249.out) | exact HB.out)) hb); clear HO_12; clear HO279; clear BK247; clear BK248; clear BK249; clear HB; have HO_12 := n0_; have HO279 := n1_; have BK247 := n2_; have BK248 := n3_; have BK249 := n4_; have HB := n5_; clear n0_ n1_ n2_ n3_ n4_ n5_; (try clear hb); (try clear hb2); (try clear hk); (try clear hi)))
            go_ret
            exact ⟨by first | rfl | (simp [errW_none, errW_some] <;> rfl) | (simp [*, errW_none, errW_some] <;> rfl), by repeat (first | (with_reducible first | exact HB.out | apply below_alloc | apply pw_below_drewN | apply below_drew1 | refine below_set ?_ GE247.out | refine below_set ?_ GE248.out | refine below_set ?_ GE249.out) | exact HB.out)⟩
          · replace c42 := Bool.eq_false_iff.mpr c42
            subst c42
            have H1 : (some false) = some r := by rw [if_neg (show ¬ (false = true) by decide)] at H; exact H
            clear H
            have H := H1
            clear H1
            obtain rfl := Option.some.inj H
            go_wp2_with (first | ((with_reducible refine gate_callee (f := 20) rfl ?_); refine goesL_ (some 55) rfl rfl Try.func20 (by kernel_rfl) rfl #[.slice A3 l3.length c3] rfl (by (try simp only [List.map_toArray, List.map_cons, List.map_nil]); first | done | rfl | (simp only [List.length_drop, List.length_take]; rfl)) ?_; (with_reducible refine (laws_toWindS.calls kj19 _ _ l3 t277 _ ?side1 ?side2 A40.out).mono ?_); (case side1 => repeat (first | exact (Kd.C_below HR3.out HB.out) | (with_reducible refine Kd.C_alloc ?_ _) | (with_reducible refine Kd.C_drewN ?_ _) | (with_reducible refine Kd.C_drew ?_))); (case side2 => exact HC3.out); rintro e w46 ⟨v278, rfl, ho0, hb⟩; refine ⟨_, rfl, ?_⟩; have n0_ := Aside0.mk (Kd.R_elder' (by (with_reducible repeat (first | apply Kd.R_alloc | apply Kd.R_drewN | apply Kd.R_drew)); exact HO_12.out) (Kd.R_base ho0) hb); have n1_ := Aside0.mk (Kd.R_lower (Kd.R_new' ho0 (Kd.R_lt (by (with_reducible repeat (first | apply Kd.R_alloc | apply Kd.R_drewN | apply Kd.R_drew)); exact HO_12.out))) (below_size (by repeat (first | (with_reducible first | exact HB.out | apply below_alloc | apply pw_below_drewN | apply below_drew1 | refine below_set ?_ GE247.out | refine below_set ?_ GE248.out | refine below_set ?_ GE249.out) | exact HB.out)))); have n2_ := Aside0.mk (blk_below (g := gb247) (o := .cells (a0).A 26 (0, 0)) (by (with_reducible repeat (first | refine blk_drewN ?_ _ | refine blk_drew ?_ | refine blk_alloc ?_ _)); exact BK247.out) hb); have n3_ := Aside0.mk (blk_below (g := gb248) (o := .cells (a1).A 28 (0, 0)) (by (with_reducible repeat (first | refine blk_drewN ?_ _ | refine blk_drew ?_ | refine blk_alloc ?_ _)); exact BK248.out) hb); have n4_ := Aside0.mk (blk_below (g := gb249) (o := .cells #[.int .i8 a2_0, .int .i8 a2_1, .int .i8 a2_2, .int .i8 a2_3, .int .i8 a2_4, .int .i8 a2_5] 38 (0, 0)) (by (with_reducible repeat (first | refine blk_drewN ?_ _ | refine blk_drew ?_ | refine blk_alloc ?_ _)); exact BK249.out) hb); have n5_ := Aside0.mk (below_step (by repeat (first | (with_reducible first | exact HB.out | apply below_alloc | apply pw_below_drewN | apply below_drew1 | refine below_set ?_ GE247.out | refine below_set ?_ GE248.out | refine below_set ?_ GE249.out) | exact HB.out)) hb); clear HO_12; clear BK247; clear BK248; clear BK249; clear HB; have HO_12 := n0_; have HO279 := n1_; have BK247 := n2_; have BK248 := n3_; have BK249 := n4_; have HB := n5_; clear n0_ n1_ n2_ n3_ n4_ n5_; (try clear hb); (try clear hb2); (try clear hk); (try clear hi); (try clear ho0); obtain ⟨Ao47, co47, eo47⟩ := Kd.R_slice HO279.out; subst eo47) | ((with_reducible refine gate_callee (f := 22) rfl ?_); refine goesL_ (some 56) rfl rfl Try.func22 (by kernel_rfl) rfl #[.slice Ao36 t264.length co36, .slice Ao47 t277.length co47] rfl (by (try simp only [List.map_toArray, List.map_cons, List.map_nil]); first | done | rfl | (simp only [List.length_drop, List.length_take]; rfl)) ?_; (with_reducible refine (laws_eqWindS.calls kj19 _ _ t264 _ _ t277 false _ ?side1 ?side2 ?side3 ?side4 A41.out).mono ?_); (case side1 => repeat (first | exact (Kd.R_reads' HO_12.out).2.2 | (with_reducible refine Kd.C_alloc ?_ _) | (with_reducible refine Kd.C_drewN ?_ _) | (with_reducible refine Kd.C_drew ?_))); (case side2 => exact (Kd.R_reads' HO_12.out).2.1); (case side3 => repeat (first | exact (Kd.R_reads' HO279.out).2.2 | (with_reducible refine Kd.C_alloc ?_ _) | (with_reducible refine Kd.C_drewN ?_ _) | (with_reducible refine Kd.C_drew ?_))); (case side4 => exact (Kd.R_reads' HO279.out).2.1); rintro e w48 ⟨rfl, hb⟩; refine ⟨_, rfl, ?_⟩; have n0_ := Aside0.mk (Kd.R_below (by (with_reducible repeat (first | apply Kd.R_alloc | apply Kd.R_drewN | apply Kd.R_drew)); exact HO_12.out) hb); have n1_ := Aside0.mk (Kd.R_below (by (with_reducible repeat (first | apply Kd.R_alloc | apply Kd.R_drewN | apply Kd.R_drew)); exact HO279.out) hb); have n2_ := Aside0.mk (blk_below (g := gb247) (o := .cells (a0).A 26 (0, 0)) (by (with_reducible repeat (first | refine blk_drewN ?_ _ | refine blk_drew ?_ | refine blk_alloc ?_ _)); exact BK247.out) hb); have n3_ := Aside0.mk (blk_below (g := gb248) (o := .cells (a1).A 28 (0, 0)) (by (with_reducible repeat (first | refine blk_drewN ?_ _ | refine blk_drew ?_ | refine blk_alloc ?_ _)); exact BK248.out) hb); have n4_ := Aside0.mk (blk_below (g := gb249) (o := .cells #[.int .i8 a2_0, .int .i8 a2_1, .int .i8 a2_2, .int .i8 a2_3, .int .i8 a2_4, .int .i8 a2_5] 38 (0, 0)) (by (with_reducible repeat (first | refine blk_drewN ?_ _ | refine blk_drew ?_ | refine blk_alloc ?_ _)); exact BK249.out) hb); have n5_ := Aside0.mk (below_step (by repeat (first | (with_reducible first | exact HB.out | apply below_alloc | apply pw_below_drewN | apply below_drew1 | refine below_set ?_ GE247.out | refine below_set ?_ GE248.out | refine below_set ?_ GE249.out) | exact HB.out)) hb); clear HO_12; clear HO279; clear BK247; clear BK248; clear BK249; clear HB; have HO_12 := n0_; have HO279 := n1_; have BK247 := n2_; have BK248 := n3_; have BK249 := n4_; have HB := n5_; clear n0_ n1_ n2_ n3_ n4_ n5_; (try clear hb); (try clear hb2); (try clear hk); (try clear hi)))
            go_ret
            exact ⟨by first | rfl | (simp [errW_none, errW_some] <;> rfl) | (simp [*, errW_none, errW_some] <;> rfl), by repeat (first | (with_reducible first | exact HB.out | apply below_alloc | apply pw_below_drewN | apply below_drew1 | refine below_set ?_ GE247.out | refine below_set ?_ GE248.out | refine below_set ?_ GE249.out) | exact HB.out)⟩
end Go.Proofs.Ytofpjfbkbmpnnaa.G
end
section
namespace Go.Proofs.Ytofpjfbkbmpnnaa.PL
open Go.RowKit M Go.Proofs.YtofpjfbkbmpnnaaW.PrintWords
theorem i8_wf {x : Int} (h : (Lit.int .i8 x).wf = true) : i8B x = true := by
  have := bounds_i8 h
  simp [i8B, inB]; omega
theorem wsm {x : Int} (h0 : -1000000000000 ≤ x) (h1 : x ≤ 1000000000000) : wrap64 x = x := by
  unfold wrap64; omega
theorem wnx {i : Nat} (h : i ≤ 10000000) : wrap64 ((i : Int) + 1) = ((i + 1 : Nat) : Int) := by
  rw [wsm (by omega) (by omega)]; omega
theorem i8_bounds {x : Int} (h : i8B x = true) : -128 ≤ x ∧ x ≤ 127 := inB_true h
end Go.Proofs.Ytofpjfbkbmpnnaa.PL
end
section
namespace Go.Proofs.Ytofpjfbkbmpnnaa.G.PB
open Go.RowKit M Go.Proofs.Ytofpjfbkbmpnnaa.PL Go.Proofs.YtofpjfbkbmpnnaaW.PrintWords Go.Proofs.YtofpjfbkbmpnnaaW.PrintMore
set_option linter.unusedSimpArgs false
set_option linter.unusedVariables false
abbrev Bay := Flat 258 .i8
def boatV (b : Bay) (x y ch lo dr ki : Int) : Bool := isW b x y && (inB ch 1 60 && (inB lo 0 5 && (inB dr 1 30 && inB ki 0 9)))
def b8 (x : Int) : Prop := -128 ≤ x ∧ x ≤ 127
theorem ws {x : Int} (h : b8 x) : wrap64 x = x := by obtain ⟨h0, h1⟩ := h; unfold wrap64; omega
theorem spec_in (n lo hi : Int) : spec_l00In.f n lo hi = some (inB n lo hi) := by
  unfold spec_l00In.f inB
  by_cases h : lo ≤ n <;> simp [h]
theorem depO_in (b : Bay) {x y : Int} (hx0 : 0 ≤ x) (hx1 : x < 16) (hy0 : 0 ≤ y) (hy1 : y < 16) : depO b x y = some (dep b x y) := if_pos ⟨hx0, hx1, hy0, hy1⟩
theorem bay_small {b : Bay} (h : bayB b = true) : 1 ≤ b.z 0 ∧ b.z 0 ≤ 16 ∧ 1 ≤ b.z 1 ∧ b.z 1 ≤ 16 := by
  obtain ⟨h0, h1, _⟩ := bayB_true h; omega
theorem isP_16 {b : Bay} {x y : Int} (h : bayB b = true) (hp : isP b x y = true) : 0 ≤ x ∧ x < 16 ∧ 0 ≤ y ∧ y < 16 := by
  have := bay_small h; have := isP_bounds hp; omega
theorem isW_isP {b : Bay} {x y : Int} (h : isW b x y = true) : isP b x y = true ∧ 0 < dep b x y := by
  unfold isW at h; simp at h; exact h
theorem boatV_isW {b : Bay} {x y ch lo dr ki : Int} (h : boatV b x y ch lo dr ki = true) : isW b x y = true ∧ (1 ≤ ch ∧ ch ≤ 60) ∧ (0 ≤ lo ∧ lo ≤ 5) ∧ (1 ≤ dr ∧ dr ≤ 30) ∧ (0 ≤ ki ∧ ki ≤ 9) := by
  unfold boatV inB at h; simp at h; omega
theorem impl_place (b : Bay) (x y : Int) : impl_isPlace.f b x y = some (isP b x y) := by
  unfold impl_isPlace.f isP
  by_cases h1 : 0 ≤ x <;> by_cases h2 : x < b.z 0 <;> by_cases h3 : 0 ≤ y <;> simp [h1, h2, h3]
theorem impl_water {b : Bay} (h : bayB b = true) (x y : Int) : impl_isWater.f b x y = some (isW b x y) := by
  unfold impl_isWater.f isW
  rw [impl_place]
  simp only [Option.bind_some]
  cases hp : isP b x y
  · simp
  · obtain ⟨h0, h1, h2, h3⟩ := isP_16 h hp
    unfold impl_depth.f
    rw [if_pos rfl, depO_in b h0 h1 h2 h3]
    simp
theorem impl_boat {b : Bay} (h : bayB b = true) (x y ch lo dr ki : Int) : impl_isBoat.f b x y ch lo dr ki = some (boatV b x y ch lo dr ki) := by
  unfold impl_isBoat.f boatV
  rw [impl_water h]
  simp only [Option.bind_some]
  cases isW b x y
  · simp
  · simp only [if_true, Bool.true_and, inB]
    by_cases h1 : 1 ≤ ch
    · by_cases h2 : ch ≤ 60
      · by_cases h3 : 0 ≤ lo
        · by_cases h4 : lo ≤ 5
          · by_cases h5 : 1 ≤ dr
            · by_cases h6 : dr ≤ 30
              · by_cases h7 : 0 ≤ ki <;> simp [h1, h2, h3, h4, h5, h6, h7]
              · simp [h1, h2, h3, h4, h5, h6]
            · simp [h1, h2, h3, h4, h5]
          · simp [h1, h2, h3, h4]
        · simp [h1, h2, h3]
      · simp [h1, h2]
    · simp [h1]
theorem spec_is (b : Bay) {x y : Int} (hx : b8 x) (hy : b8 y) : spec_l01Is.f b x y = some (isP b x y) := by
  have h0 : b8 (b.z 0) := bounds_i8 (b.ok 0 (by omega))
  have h1 : b8 (b.z 1) := bounds_i8 (b.ok 1 (by omega))
  unfold spec_l01Is.f
  rw [ws hx, ws hy, ws h0, ws h1, wsm (by have := h0.1; omega) (by have := h0.2; omega), wsm (by have := h1.1; omega) (by have := h1.2; omega), spec_in, spec_in, isP_in]
  simp only [Option.bind_some]
  cases inB x 0 (b.z 0 - 1) <;> simp
theorem spec_boat {b : Bay} (h : bayB b = true) {x y ch lo dr ki : Int} (hx : b8 x) (hy : b8 y) (hc : b8 ch) (hl : b8 lo) (hd : b8 dr) (hk : b8 ki) : spec_l01Boat.f b x y ch lo dr ki = some (boatV b x y ch lo dr ki) := by
  unfold spec_l01Boat.f boatV isW
  rw [spec_is b hx hy]
  simp only [Option.bind_some]
  cases hp : isP b x y
  · simp
  · obtain ⟨h0, h1, h2, h3⟩ := isP_16 h hp
    unfold spec_l01Depth.f
    rw [if_pos rfl, depO_in b h0 h1 h2 h3, ws hc, ws hl, ws hd, ws hk, spec_in, spec_in, spec_in, spec_in]
    simp only [Option.bind_some]
    by_cases hw : 0 < dep b x y
    · rw [if_pos hw]
      cases inB ch 1 60 <;> cases inB lo 0 5 <;> cases inB dr 1 30 <;> simp [hw]
    · rw [if_neg hw]; simp [hw]
end Go.Proofs.Ytofpjfbkbmpnnaa.G.PB
end
section
namespace Go.Proofs.Ytofpjfbkbmpnnaa.G.PB
open Go.RowKit M Go.Proofs.Ytofpjfbkbmpnnaa.PL Go.Proofs.YtofpjfbkbmpnnaaW.PrintWords Go.Proofs.YtofpjfbkbmpnnaaW.PrintMore
set_option linter.unusedSimpArgs false
set_option linter.unusedVariables false
abbrev Grd := Flat 256 .u8
def baseV (k : Int) : Int := if k = 0 then 2 else if k = 1 then 4 else if k = 2 then 6 else 1
theorem base_rd {k : Int} (h0 : 0 ≤ k) (h1 : k ≤ 3) : rd [2, 4, 6, 1] k = baseV k := by
  have : k = 0 ∨ k = 1 ∨ k = 2 ∨ k = 3 := by omega
  rcases this with rfl | rfl | rfl | rfl <;> rfl
theorem base_bounds (k : Int) : 1 ≤ baseV k ∧ baseV k ≤ 6 := by unfold baseV; split <;> (try split) <;> (try split) <;> omega
def holdV (b : Bay) (g : Grd) (x y ch : Int) : Int := baseV (g.z (y.toNat * 16 + x.toNat)) + (if 6 < ch / dep b x y then 6 else ch / dep b x y)
theorem ground_3 {b : Bay} {g : Grd} (h : groundsB b g = true) {x y : Int} (h0 : 0 ≤ x) (h1 : x < 16) (h2 : 0 ≤ y) (h3 : y < 16) : 0 ≤ g.z (y.toNat * 16 + x.toNat) ∧ g.z (y.toNat * 16 + x.toNat) ≤ 3 := by
  have := (groundsB_true h).2 y.toNat (by omega) x.toNat (by omega)
  unfold okG at this
  rw [Bool.and_eq_true] at this
  exact ⟨(bounds_u8 (g.ok (y.toNat * 16 + x.toNat) (by omega))).1, by simpa using this.1⟩
theorem impl_hold_tells {b : Bay} {g : Grd} (hg : groundsB b g = true) {x y ch : Int} (lo dr ki : Int) (hw : isW b x y = true) (hc0 : 0 ≤ ch) (hc1 : ch ≤ 127) : impl_hold.f b g x y ch lo dr ki = some (holdV b g x y ch) := by
  have hb := (groundsB_true hg).1
  obtain ⟨hp, hd⟩ := isW_isP hw
  obtain ⟨h0, h1, h2, h3⟩ := isP_16 hb hp
  obtain ⟨g0, g1⟩ := ground_3 hg h0 h1 h2 h3
  have q0 := Int.ediv_nonneg hc0 (Int.le_of_lt hd)
  have q1 : ch / dep b x y ≤ ch := Int.ediv_le_self _ hc0
  have hbb := base_bounds (g.z (y.toNat * 16 + x.toNat))
  unfold impl_hold.f impl_depth.f
  simp only [Option.bind_some]
  rw [if_pos h2, if_pos h3, if_pos h0, if_pos h1, if_pos g0, if_pos (by simp; omega), depO_in b h0 h1 h2 h3]
  simp only [Option.bind_some]
  rw [if_neg (by omega), base_rd g0 g1, wsm (x := ch) (by omega) (by omega), Int.tdiv_eq_ediv_of_nonneg hc0, wsm (x := ch / _) (by omega) (by omega)]
  unfold mn holdV
  split <;> (rw [wsm (by omega) (by omega)])
theorem spec_hold_tells {b : Bay} {g : Grd} (hg : groundsB b g = true) {x y ch : Int} (lo dr ki : Int) (hw : isW b x y = true) (hc0 : 0 ≤ ch) (hc1 : ch ≤ 127) : spec_l07Hold.f b g x y ch lo dr ki = some (holdV b g x y ch) := by
  have hb := (groundsB_true hg).1
  obtain ⟨hp, hd⟩ := isW_isP hw
  obtain ⟨h0, h1, h2, h3⟩ := isP_16 hb hp
  obtain ⟨g0, g1⟩ := ground_3 hg h0 h1 h2 h3
  have q0 := Int.ediv_nonneg hc0 (Int.le_of_lt hd)
  have q1 : ch / dep b x y ≤ ch := Int.ediv_le_self _ hc0
  have hbb := base_bounds (g.z (y.toNat * 16 + x.toNat))
  unfold spec_l07Hold.f spec_l01Depth.f spec_l00Min.f
  simp only [Option.bind_some]
  rw [depO_in b h0 h1 h2 h3]
  simp only [Option.bind_some]
  rw [if_neg (by omega), wsm (x := ch) (by omega) (by omega), Int.tdiv_eq_ediv_of_nonneg hc0, wsm (x := ch / _) (by omega) (by omega)]
  unfold holdV
  split <;> simp only [Option.bind_some, h2, h3, h0, h1, g0, if_true] <;> rw [if_pos (by simp; omega), base_rd g0 g1, wsm (by omega) (by omega)]
end Go.Proofs.Ytofpjfbkbmpnnaa.G.PB
end
section
namespace Go.Proofs.Ytofpjfbkbmpnnaa.G.PB
open Go.RowKit M Go.Proofs.Ytofpjfbkbmpnnaa.PL Go.Proofs.YtofpjfbkbmpnnaaW.PrintWords
set_option linter.unusedSimpArgs false
set_option linter.unusedVariables false
def windB (f t : Int) : Bool := inB f 0 12 && inB t 0 7
def vW (x : S50) : Bool := windB x.f0 x.f1
def okW (x : S50) : Bool := i8B x.f0 && i8B x.f1
theorem spec_wind {f t : Int} (hf : i8B f = true) (ht : i8B t = true) : spec_l07Wind.f f t = some (windB f t) := by
  obtain ⟨a, b⟩ := i8_bounds hf
  obtain ⟨c, d⟩ := i8_bounds ht
  unfold spec_l07Wind.f windB
  rw [wsm (by omega) (by omega), wsm (by omega) (by omega), spec_in, spec_in]
  cases inB f 0 12 <;> simp
theorem impl_wind (f t : Int) : impl_isWind.f f t = some (windB f t) := by
  unfold impl_isWind.f windB inB
  by_cases h1 : 0 ≤ f <;> by_cases h2 : f ≤ 12 <;> by_cases h3 : 0 ≤ t <;> simp [h1, h2, h3]
theorem rdW {l : List S50} {i : Nat} (h : i < l.length) : rd_T50 l (i : Int) = l[i] := by simp [rd_T50, h]
theorem spec_winds_loop (l : List S50) (hl : l.length ≤ 10000000) (hok : l.all okW = true) (d : Nat) : ∀ (k i : Nat), i + d = l.length → d < k → spec_l07Winds.l0 k l i = some ((l.drop i).all vW && decide (l.length ≤ 48)) := by
  induction d with
  | zero =>
    intro k i hi hk
    obtain ⟨k, rfl⟩ : ∃ m, k = m + 1 := ⟨k - 1, by omega⟩
    simp only [spec_l07Winds.l0]; rw [if_neg (by omega), List.drop_of_length_le (by omega)]; simp; omega
  | succ d ih =>
    intro k i hi hk
    obtain ⟨k, rfl⟩ : ∃ m, k = m + 1 := ⟨k - 1, by omega⟩
    have ho : okW (l[i]'(by omega)) = true := List.all_eq_true.mp hok _ (List.getElem_mem (by omega : i < l.length))
    simp only [okW, Bool.and_eq_true] at ho
    simp only [spec_l07Winds.l0]; rw [if_pos (by omega), if_pos (by omega), rdW (by omega), spec_wind ho.1 ho.2]
    rw [List.drop_eq_getElem_cons (by omega : i < l.length), List.all_cons]
    simp only [Option.bind_some]
    cases h : windB (l[i]'(by omega)).f0 (l[i]'(by omega)).f1
    · simp [vW, h]
    · rw [if_pos rfl, wnx (by omega), ih k (i + 1) (by omega) (by omega)]; simp [vW, h]
theorem impl_winds_loop (l : List S50) (hl : l.length ≤ 10000000) (d : Nat) : ∀ (k i : Nat), i + d = l.length → d < k → impl_ValidWinds.l0 k l l l.length i = some ((l.drop i).all vW && decide (l.length ≤ 48)) := by
  induction d with
  | zero =>
    intro k i hi hk
    obtain ⟨k, rfl⟩ : ∃ m, k = m + 1 := ⟨k - 1, by omega⟩
    simp only [impl_ValidWinds.l0]; rw [if_neg (by omega), List.drop_of_length_le (by omega)]; simp; omega
  | succ d ih =>
    intro k i hi hk
    obtain ⟨k, rfl⟩ : ∃ m, k = m + 1 := ⟨k - 1, by omega⟩
    simp only [impl_ValidWinds.l0]; rw [if_pos (by omega), if_pos (by omega), if_pos (by omega), rdW (by omega), impl_wind]
    rw [List.drop_eq_getElem_cons (by omega : i < l.length), List.all_cons]
    simp only [Option.bind_some]
    cases h : windB (l[i]'(by omega)).f0 (l[i]'(by omega)).f1
    · simp [vW, h]
    · rw [if_pos rfl, wnx (by omega), ih k (i + 1) (by omega) (by omega)]; simp [vW, h]
def windsV (l : List S50) : Bool := l.all vW && decide (l.length ≤ 48)
theorem spec_winds_tells {l : List S50} (hl : l.length ≤ 10000000) (hok : l.all okW = true) {k : Nat} (hk : l.length < k) : spec_l07Winds.f k l = some (windsV l) := by
  unfold spec_l07Winds.f windsV
  have := spec_winds_loop l hl hok l.length k 0 (by omega) hk
  rwa [List.drop_zero] at this
theorem impl_winds_tells {l : List S50} (hl : l.length ≤ 10000000) {k : Nat} (hk : l.length < k) : impl_ValidWinds.f k l = some (windsV l) := by
  unfold impl_ValidWinds.f windsV
  have := impl_winds_loop l hl l.length k 0 (by omega) hk
  rwa [List.drop_zero] at this
end Go.Proofs.Ytofpjfbkbmpnnaa.G.PB
end
section
namespace Go.Proofs.Ytofpjfbkbmpnnaa.G.PB
open Go.RowKit M Go.Proofs.Ytofpjfbkbmpnnaa.PL Go.Proofs.YtofpjfbkbmpnnaaW.PrintWords
set_option linter.unusedSimpArgs false
set_option linter.unusedVariables false
def validV (b : Bay) (g : Grd) (x y ch lo dr ki : Int) : Bool := groundsB b g && boatV b x y ch lo dr ki
theorem validV_true {b : Bay} {g : Grd} {x y ch lo dr ki : Int} (h : validV b g x y ch lo dr ki = true) : groundsB b g = true ∧ boatV b x y ch lo dr ki = true := by
  unfold validV at h; simpa using h
theorem spec_valid {b : Bay} {g : Grd} {x y ch lo dr ki : Int} {k : Nat} {l : List S50} {wv : Bool} (hw : spec_l07Winds.f k l = some wv) (hx : b8 x) (hy : b8 y) (hc : b8 ch) (hl : b8 lo) (hd : b8 dr) (hk : b8 ki) : spec_l07Valid.f k b g x y ch lo dr ki l = some (validV b g x y ch lo dr ki && wv) := by
  unfold spec_l07Valid.f spec_l07Grounds.f validV
  cases hg : groundsB b g
  · simp
  · simp only [Option.bind_some, if_true]
    rw [spec_boat (groundsB_true hg).1 hx hy hc hl hd hk]
    cases hb : boatV b x y ch lo dr ki
    · simp
    · simp [hw]
theorem b8_of {x : Int} (h : (Lit.int .i8 x).wf = true) : b8 x := bounds_i8 h
end Go.Proofs.Ytofpjfbkbmpnnaa.G.PB
end
section
namespace Go.Proofs.Ytofpjfbkbmpnnaa.G.PB
open Go.RowKit M Go.Proofs.Ytofpjfbkbmpnnaa.PL Go.Proofs.YtofpjfbkbmpnnaaW.PrintWords
set_option linter.unusedSimpArgs false
set_option linter.unusedVariables false
theorem impl_code {b : Bay} {g : Grd} {x y ch lo dr ki : Int} {k : Nat} {l : List S50} (hl : l.length ≤ 10000000) (hk : l.length < k) : impl_driftCode.f k b g x y ch lo dr ki l = some (if (validV b g x y ch lo dr ki && windsV l) = true then 0 else 1) := by
  unfold impl_driftCode.f impl_ValidGrounds.f validV
  cases hg : groundsB b g
  · simp
  · simp only [Option.bind_some, if_true]
    rw [impl_boat (groundsB_true hg).1]
    cases hb : boatV b x y ch lo dr ki
    · simp
    · simp only [Option.bind_some, if_true]
      rw [impl_winds_tells hl hk]
      cases windsV l <;> simp
end Go.Proofs.Ytofpjfbkbmpnnaa.G.PB
end
section
namespace Go.Proofs.Ytofpjfbkbmpnnaa.G.PB
open Go.RowKit M Go.Proofs.Ytofpjfbkbmpnnaa.PL Go.Proofs.YtofpjfbkbmpnnaaW.PrintWords Go.Proofs.YtofpjfbkbmpnnaaW.PrintMore
set_option linter.unusedSimpArgs false
set_option linter.unusedVariables false
def mostFrom (m : Int) (l : List S50) : Int := l.foldl (fun m w => if m < w.f0 then w.f0 else m) m
theorem most_b8 (l : List S50) (h : l.all okW = true) : ∀ m, b8 m → b8 (mostFrom m l) := by
  induction l with
  | nil => intro m hm; exact hm
  | cons w l ih =>
    intro m hm
    rw [List.all_cons, Bool.and_eq_true] at h
    have hw := h.1
    simp only [okW, Bool.and_eq_true] at hw
    have := i8_bounds hw.1
    refine ih h.2 _ ?_
    show b8 (if m < w.f0 then w.f0 else m)
    split
    · exact this
    · exact hm
theorem spec_most_loop (l : List S50) (hl : l.length ≤ 10000000) (hok : l.all okW = true) (d : Nat) : ∀ (k i : Nat) (m : Int), i + d = l.length → d < k → spec_l07Strongest.l0 k l m i = some (mostFrom m (l.drop i)) := by
  induction d with
  | zero =>
    intro k i m hi hk
    obtain ⟨k, rfl⟩ : ∃ m, k = m + 1 := ⟨k - 1, by omega⟩
    simp only [spec_l07Strongest.l0]; rw [if_neg (by omega), List.drop_of_length_le (by omega)]; rfl
  | succ d ih =>
    intro k i m hi hk
    obtain ⟨k, rfl⟩ : ∃ m, k = m + 1 := ⟨k - 1, by omega⟩
    have ho : okW (l[i]'(by omega)) = true := List.all_eq_true.mp hok _ (List.getElem_mem (by omega : i < l.length))
    simp only [okW, Bool.and_eq_true] at ho
    have hf : b8 (l[i]'(by omega)).f0 := i8_bounds ho.1
    simp only [spec_l07Strongest.l0]; rw [if_pos (by omega), if_pos (by omega), rdW (by omega), ws hf]
    unfold spec_l00Max.f
    rw [List.drop_eq_getElem_cons (by omega : i < l.length)]
    unfold mostFrom
    rw [List.foldl_cons]
    by_cases h : m > (l[i]'(by omega)).f0
    · rw [if_pos h, if_neg (by omega)]; simp only [Option.bind_some]
      rw [wnx (by omega)]; exact ih k (i + 1) _ (by omega) (by omega)
    · rw [if_neg h]; simp only [Option.bind_some]
      rw [wnx (by omega)]
      have e : (if m < (l[i]'(by omega)).f0 then (l[i]'(by omega)).f0 else m) = (l[i]'(by omega)).f0 := by split <;> omega
      rw [e]; exact ih k (i + 1) _ (by omega) (by omega)
theorem impl_most_loop (l : List S50) (hl : l.length ≤ 10000000) (d : Nat) : ∀ (k i : Nat) (m : Int), i + d = l.length → d < k → impl_most.l0 k m l l.length i = some (wrap64 (mostFrom m (l.drop i))) := by
  induction d with
  | zero =>
    intro k i m hi hk
    obtain ⟨k, rfl⟩ : ∃ m, k = m + 1 := ⟨k - 1, by omega⟩
    simp only [impl_most.l0]; rw [if_neg (by omega), List.drop_of_length_le (by omega)]; rfl
  | succ d ih =>
    intro k i m hi hk
    obtain ⟨k, rfl⟩ : ∃ m, k = m + 1 := ⟨k - 1, by omega⟩
    simp only [impl_most.l0]; rw [if_pos (by omega), if_pos (by omega), if_pos (by omega), rdW (by omega), wnx (by omega), List.drop_eq_getElem_cons (by omega : i < l.length)]
    unfold mostFrom mx
    rw [List.foldl_cons]
    exact ih k (i + 1) _ (by omega) (by omega)
def mostV (l : List S50) : Int := mostFrom 0 l
theorem spec_most_tells {l : List S50} (hl : l.length ≤ 10000000) (hok : l.all okW = true) {k : Nat} (hk : l.length < k) : spec_l07Strongest.f k l = some (mostV l) := by
  unfold spec_l07Strongest.f mostV
  have := spec_most_loop l hl hok l.length k 0 0 (by omega) hk
  rwa [List.drop_zero] at this
theorem impl_most_tells {l : List S50} (hl : l.length ≤ 10000000) (hok : l.all okW = true) {k : Nat} (hk : l.length < k) : impl_most.f k l = some (mostV l) := by
  unfold impl_most.f mostV
  have := impl_most_loop l hl l.length k 0 0 (by omega) hk
  rw [List.drop_zero, ws (most_b8 l hok 0 ⟨by omega, by omega⟩)] at this
  exact this
end Go.Proofs.Ytofpjfbkbmpnnaa.G.PB
end
section
namespace Go.Proofs.Ytofpjfbkbmpnnaa.G.PS
open Go.RowKit Go.Proofs.Ytofpjfbkbmpnnaa.PL Go.Proofs.YtofpjfbkbmpnnaaW.PrintWords
set_option linter.unusedVariables false
set_option linter.unusedSimpArgs false
def convWind (x : S47) : S50 := ⟨x.f0, x.f1⟩
theorem toWind_loop (l : List S47) (hl : l.length ≤ 10000000) (d : Nat) : ∀ (k i : Nat) (o : List S50), o.length = l.length → o.take i = (l.map convWind).take i → i + d = l.length → d < k → laws_toWindS.l0 k l o i = some (l.map convWind) := by
  induction d with
  | zero =>
    intro k i o ho he hi hk
    obtain ⟨k, rfl⟩ : ∃ m, k = m + 1 := ⟨k - 1, by omega⟩
    rw [List.take_of_length_le (by omega), List.take_of_length_le (by rw [List.length_map]; omega)] at he
    simp only [laws_toWindS.l0]; rw [if_neg (by omega), he]
  | succ d ih =>
    intro k i o ho he hi hk
    obtain ⟨k, rfl⟩ : ∃ m, k = m + 1 := ⟨k - 1, by omega⟩
    simp only [laws_toWindS.l0]; rw [if_pos (by omega), if_pos (by omega)]
    simp only [laws_toWind.f, Option.bind_some]
    rw [if_pos (by omega), wnx (by omega)]
    refine ih k (i + 1) _ (by rw [List.length_set]; exact ho) ?_ (by omega) (by omega)
    rw [Int.toNat_natCast]
    have e2 : rd_T47 l (i : Int) = l[i]'(by omega) := by simp [rd_T47, show i < l.length by omega]
    simp only [e2]
    rw [List.take_add_one, List.take_set_of_le (Nat.le_refl _), List.getElem?_set_self (by omega), he, List.take_add_one (l := l.map convWind), List.getElem?_eq_getElem (by rw [List.length_map]; omega), List.getElem_map]
    rfl
theorem toWind_tells {l : List S47} (hl : l.length ≤ 1048576) {k : Nat} (hk : l.length < k) : laws_toWindS.f k l = some (l.map convWind) := by
  unfold laws_toWindS.f
  rw [if_pos (by omega), if_pos (by omega)]
  exact toWind_loop l (by omega) l.length k 0 _ (by simp) (by simp) (by omega) hk
theorem eqWind_loop (l : List S50) (hl : l.length ≤ 10000000) (d : Nat) : ∀ (k i : Nat), i + d = l.length → d < k → laws_eqWindS.l0 k l l i = some true := by
  induction d with
  | zero =>
    intro k i hi hk
    obtain ⟨k, rfl⟩ : ∃ m, k = m + 1 := ⟨k - 1, by omega⟩
    simp only [laws_eqWindS.l0]; rw [if_neg (by omega)]
  | succ d ih =>
    intro k i hi hk
    obtain ⟨k, rfl⟩ : ∃ m, k = m + 1 := ⟨k - 1, by omega⟩
    simp only [laws_eqWindS.l0]; rw [if_pos (by omega), if_pos (by omega), if_pos (by omega)]
    simp only [laws_eqWind.f, if_true, Option.bind_some]
    rw [wnx (by omega)]
    exact ih k (i + 1) (by omega) (by omega)
theorem eqWind_tells {l : List S50} (hl : l.length ≤ 10000000) {k : Nat} (hk : l.length < k) : laws_eqWindS.f k l l = some true := by
  unfold laws_eqWindS.f; rw [if_pos rfl]; exact eqWind_loop l hl l.length k 0 (by omega) hk
end Go.Proofs.Ytofpjfbkbmpnnaa.G.PS
end
section
namespace Go.Proofs.Ytofpjfbkbmpnnaa.G.PB
open Go.RowKit M Go.Proofs.Ytofpjfbkbmpnnaa.PL Go.Proofs.Ytofpjfbkbmpnnaa.G.PS Go.Proofs.YtofpjfbkbmpnnaaW.PrintWords
set_option linter.unusedSimpArgs false
set_option linter.unusedVariables false
theorem winds_ok {l : List S47} (h : ∀ x ∈ l, ∃ z : Nat → Int, x = (⟨z 0, z 1⟩ : S47) ∧ ∀ j, j < 2 → (Lit.int (([.i8, .i8] : List IntKind).getD j .i64) (z j)).wf = true) : (l.map convWind).all okW = true := by
  rw [List.all_eq_true]
  intro y hy
  rw [List.mem_map] at hy
  obtain ⟨x, hx, rfl⟩ := hy
  obtain ⟨z, rfl, hz⟩ := h x hx
  simp [okW, convWind, i8_wf (hz 0 (by omega)), i8_wf (hz 1 (by omega))]
theorem sz_tellsW {n : Nat} (h : n ≤ 9223372036854775807) : wrap64 (1048576 - (n : Int)) = 1048576 - (n : Int) := by unfold wrap64; omega
end Go.Proofs.Ytofpjfbkbmpnnaa.G.PB
end
section
namespace Go.Proofs.Ytofpjfbkbmpnnaa.G.Pure
open Go.RowKit M Go.Proofs.Ytofpjfbkbmpnnaa.PL Go.Proofs.Ytofpjfbkbmpnnaa.G.PB Go.Proofs.Ytofpjfbkbmpnnaa.G.PS
set_option linter.unusedSimpArgs false
set_option linter.unusedVariables false
def chainFrom (b : PB.Bay) (g : Grd) (x y m : Int) : Nat → Int → Int × Int
  | 0, _ => (0, 6)
  | d + 1, c => if m ≤ holdV b g x y c then (c, 0) else chainFrom b g x y m d (c + 1)
theorem w8 {x : Int} (h0 : -128 ≤ x) (h1 : x ≤ 127) : IntKind.i8.wrap x = x := by
  unfold IntKind.wrap; simp [IntKind.signed, IntKind.bits]; omega
theorem spec_chain_loop {b : PB.Bay} {g : Grd} {x y : Int} (hg : groundsB b g = true) (hw : isW b x y = true) (l : List S50) (hl : l.length ≤ 10000000) (hok : l.all okW = true) (lo dr ki : Int) (d : Nat) : ∀ (k c : Nat) (ch : Int), 1 ≤ c → c + d = 61 → l.length + d < k → spec_ChainFor.l0 k l c b g x y ch lo dr ki = some (chainFrom b g x y (mostV l) d c) := by
  induction d with
  | zero =>
    intro k c ch h1 hi hk
    obtain ⟨k, rfl⟩ : ∃ m, k = m + 1 := ⟨k - 1, by omega⟩
    simp only [spec_ChainFor.l0]; rw [if_neg (by omega)]; rfl
  | succ d ih =>
    intro k c ch h1 hi hk
    obtain ⟨k, rfl⟩ : ∃ m, k = m + 1 := ⟨k - 1, by omega⟩
    simp only [spec_ChainFor.l0]; rw [if_pos (by omega), spec_most_tells hl hok (by omega), w8 (by omega) (by omega)]
    simp only [Option.bind_some]
    rw [spec_hold_tells hg lo dr ki hw (by omega) (by omega)]
    simp only [Option.bind_some, chainFrom]
    by_cases h : mostV l ≤ holdV b g x y c
    · rw [if_pos h, if_pos h]
    · rw [if_neg h, if_neg h, wnx (by omega)]
      exact ih k (c + 1) _ (by omega) (by omega) (by omega)
theorem impl_chain_loop {b : PB.Bay} {g : Grd} {x y : Int} (hg : groundsB b g = true) (hw : isW b x y = true) (l : List S50) (hl : l.length ≤ 10000000) (hok : l.all okW = true) (lo dr ki : Int) (d : Nat) : ∀ (k c : Nat) (ch : Int), 1 ≤ c → c + d = 61 → l.length + d < k → impl_ChainFor.l0 k l c b g x y ch lo dr ki = some (chainFrom b g x y (mostV l) d c) := by
  induction d with
  | zero =>
    intro k c ch h1 hi hk
    obtain ⟨k, rfl⟩ : ∃ m, k = m + 1 := ⟨k - 1, by omega⟩
    simp only [impl_ChainFor.l0]; rw [if_neg (by omega)]; rfl
  | succ d ih =>
    intro k c ch h1 hi hk
    obtain ⟨k, rfl⟩ : ∃ m, k = m + 1 := ⟨k - 1, by omega⟩
    simp only [impl_ChainFor.l0]; rw [if_pos (by omega), impl_hold_tells hg lo dr ki hw (by omega) (by omega)]
    simp only [Option.bind_some]
    rw [impl_most_tells hl hok (by omega)]
    simp only [Option.bind_some, chainFrom]
    by_cases h : mostV l ≤ holdV b g x y c
    · rw [if_pos h, if_pos h, wsm (by omega) (by omega)]
    · rw [if_neg h, if_neg h, w8 (by omega) (by omega), show (c : Int) + 1 = ((c + 1 : Nat) : Int) by omega]
      exact ih k (c + 1) _ (by omega) (by omega) (by omega)
def chainV (b : PB.Bay) (g : Grd) (x y ch lo dr ki : Int) (l : List S50) : Int × Int := if (validV b g x y ch lo dr ki && windsV l) = true then chainFrom b g x y (mostV l) 60 1 else (0, 1)
theorem spec_ChainFor_tells {b : PB.Bay} {g : Grd} {x y ch lo dr ki : Int} {l : List S50} (hl : l.length ≤ 10000000) (hok : l.all okW = true) {k : Nat} (hk : l.length + 60 < k) (hx : b8 x) (hy : b8 y) (hc : b8 ch) (hlo : b8 lo) (hd : b8 dr) (hki : b8 ki) : spec_ChainFor.f k b g x y ch lo dr ki l = some (chainV b g x y ch lo dr ki l) := by
  unfold spec_ChainFor.f chainV
  rw [spec_valid (spec_winds_tells hl hok (by omega)) hx hy hc hlo hd hki]
  simp only [Option.bind_some]
  cases hv : validV b g x y ch lo dr ki
  · simp
  · obtain ⟨hg, hb⟩ := validV_true hv
    rw [show (1 : Int) = ((1 : Nat) : Int) from rfl, spec_chain_loop hg (boatV_isW hb).1 l hl hok lo dr ki 60 k 1 ch (by omega) (by omega) (by omega)]
    cases windsV l <;> simp
theorem impl_ChainFor_tells {b : PB.Bay} {g : Grd} {x y ch lo dr ki : Int} {l : List S50} (hl : l.length ≤ 10000000) (hok : l.all okW = true) {k : Nat} (hk : l.length + 60 < k) : impl_ChainFor.f k b g x y ch lo dr ki l = some (chainV b g x y ch lo dr ki l) := by
  unfold impl_ChainFor.f chainV
  rw [impl_code hl (by omega)]
  simp only [Option.bind_some]
  cases hv : validV b g x y ch lo dr ki
  · simp
  · obtain ⟨hg, hb⟩ := validV_true hv
    rw [show (1 : Int) = ((1 : Nat) : Int) from rfl, impl_chain_loop hg (boatV_isW hb).1 l hl hok lo dr ki 60 k 1 ch (by omega) (by omega) (by omega)]
    cases windsV l <;> simp
theorem FnExactChainFor : ∀ (o0 : O26) (o1 : O28) (a2_0 a2_1 a2_2 a2_3 a2_4 a2_5 : Int) (l3 : List S47), (Lit.int .i8 a2_0).wf = true → (Lit.int .i8 a2_1).wf = true → (Lit.int .i8 a2_2).wf = true → (Lit.int .i8 a2_3).wf = true → (Lit.int .i8 a2_4).wf = true → (Lit.int .i8 a2_5).wf = true → l3.length ≤ 9223372036854775807 → (∀ x ∈ l3, ∃ z : Nat → Int, x = (⟨z 0, z 1⟩ : S47) ∧ ∀ j, j < 2 → (Lit.int (([.i8, .i8] : List IntKind).getD j .i64) (z j)).wf = true) → ∃ k, laws_FnExactChainFor.f k o0 o1 a2_0 a2_1 a2_2 a2_3 a2_4 a2_5 l3 = some true := by
  intro b g x y ch lo dr ki l hx hy hc hlo hd hk hl hxs
  have hok := winds_ok hxs
  unfold laws_FnExactChainFor.f laws_szWindS.f
  rw [sz_tellsW hl]
  by_cases hbig : (1048576 : Int) - (l.length : Int) < 0
  · exact ⟨0, by rw [if_pos hbig]; rfl⟩
  obtain ⟨K, hK⟩ : ∃ K, K = 3000000 := ⟨_, rfl⟩
  refine ⟨K + 1, ?_⟩
  rw [if_neg hbig]
  simp only [Option.bind_some]
  rw [if_neg hbig, toWind_tells (by omega) (by omega)]
  simp only [Option.bind_some, laws_toBay.f, laws_toGrounds.f, laws_toBoat.f, laws_toPlace.f]
  rw [spec_ChainFor_tells (by rw [List.length_map]; omega) hok (by rw [List.length_map]; omega) (b8_of hx) (b8_of hy) (b8_of hc) (b8_of hlo) (b8_of hd) (b8_of hk)]
  simp only [Option.bind_some]
  rw [impl_ChainFor_tells (by rw [List.length_map]; omega) hok (by rw [List.length_map]; omega)]
  simp only [Option.bind_some, if_true, bne_self_eq_false, laws_FnExactChainFor.j0]
  rw [if_neg (by simp), toWind_tells (by omega) (by omega)]
  simp only [Option.bind_some]
  rw [eqWind_tells (by rw [List.length_map]; omega) (by rw [List.length_map]; omega)]
  simp
end Go.Proofs.Ytofpjfbkbmpnnaa.G.Pure
end
namespace Go.Proofs.Ytofpjfbkbmpnnaa.rowFnExactChainFor
open Go.ChangeShapes Go.WideShapes Go.ChangeAt Go.RowKit G Go.Proofs.YtofpjfbkbmpnnaaW.PrintWords
open Go.ChangeMaps (open_string shut_string)
set_option linter.unusedVariables false
theorem own : ownKnob Try.prog.godebug = none := by kernel_rfl
theorem laidOut : laidOutB Try.prog = true := by kernel_rfl
set_option maxRecDepth 100000 in
theorem lifted (os : Os) (started : os.Started) (H : Type) (enc : TypeId × Value → H) :
    ReturnsInHanded {} Try.checked os 6 .any (Rows.fnExactChainForSpec.pre6 enc Try.prog Try.f6 Rows.fnExactChainForRow.domain false) (Rows.fnExactChainForSpec.post enc Try.prog Try.f6 false true false false) := by
  refine returnsInHanded_of_change_sized (C := Try.checked) own started (by kernel_rfl) Try.func6
    (ChangeSpec.witness6 (enc := enc) (C := Try.checked) false ⟨#[], #[.agg (Array.mk [.int .i8 0, .int .i8 0, .int .i8 0, .int .i8 0, .int .i8 0, .int .i8 0, .int .i8 0, .int .i8 0, .int .i8 0, .int .i8 0, .int .i8 0, .int .i8 0, .int .i8 0, .int .i8 0, .int .i8 0, .int .i8 0, .int .i8 0, .int .i8 0, .int .i8 0, .int .i8 0, .int .i8 0, .int .i8 0, .int .i8 0, .int .i8 0, .int .i8 0, .int .i8 0, .int .i8 0, .int .i8 0, .int .i8 0, .int .i8 0, .int .i8 0, .int .i8 0, .int .i8 0, .int .i8 0, .int .i8 0, .int .i8 0, .int .i8 0, .int .i8 0, .int .i8 0, .int .i8 0, .int .i8 0, .int .i8 0, .int .i8 0, .int .i8 0, .int .i8 0, .int .i8 0, .int .i8 0, .int .i8 0, .int .i8 0, .int .i8 0, .int .i8 0, .int .i8 0, .int .i8 0, .int .i8 0, .int .i8 0, .int .i8 0, .int .i8 0, .int .i8 0, .int .i8 0, .int .i8 0, .int .i8 0, .int .i8 0, .int .i8 0, .int .i8 0, .int .i8 0, .int .i8 0, .int .i8 0, .int .i8 0, .int .i8 0, .int .i8 0, .int .i8 0, .int .i8 0, .int .i8 0, .int .i8 0, .int .i8 0, .int .i8 0, .int .i8 0, .int .i8 0, .int .i8 0, .int .i8 0, .int .i8 0, .int .i8 0, .int .i8 0, .int .i8 0, .int .i8 0, .int .i8 0, .int .i8 0, .int .i8 0, .int .i8 0, .int .i8 0, .int .i8 0, .int .i8 0, .int .i8 0, .int .i8 0, .int .i8 0, .int .i8 0, .int .i8 0, .int .i8 0, .int .i8 0, .int .i8 0, .int .i8 0, .int .i8 0, .int .i8 0, .int .i8 0, .int .i8 0, .int .i8 0, .int .i8 0, .int .i8 0, .int .i8 0, .int .i8 0, .int .i8 0, .int .i8 0, .int .i8 0, .int .i8 0, .int .i8 0, .int .i8 0, .int .i8 0, .int .i8 0, .int .i8 0, .int .i8 0, .int .i8 0, .int .i8 0, .int .i8 0, .int .i8 0, .int .i8 0, .int .i8 0, .int .i8 0, .int .i8 0, .int .i8 0, .int .i8 0, .int .i8 0, .int .i8 0, .int .i8 0, .int .i8 0, .int .i8 0, .int .i8 0, .int .i8 0, .int .i8 0, .int .i8 0, .int .i8 0, .int .i8 0, .int .i8 0, .int .i8 0, .int .i8 0, .int .i8 0, .int .i8 0, .int .i8 0, .int .i8 0, .int .i8 0, .int .i8 0, .int .i8 0, .int .i8 0, .int .i8 0, .int .i8 0, .int .i8 0, .int .i8 0, .int .i8 0, .int .i8 0, .int .i8 0, .int .i8 0, .int .i8 0, .int .i8 0, .int .i8 0, .int .i8 0, .int .i8 0, .int .i8 0, .int .i8 0, .int .i8 0, .int .i8 0, .int .i8 0, .int .i8 0, .int .i8 0, .int .i8 0, .int .i8 0, .int .i8 0, .int .i8 0, .int .i8 0, .int .i8 0, .int .i8 0, .int .i8 0, .int .i8 0, .int .i8 0, .int .i8 0, .int .i8 0, .int .i8 0, .int .i8 0, .int .i8 0, .int .i8 0, .int .i8 0, .int .i8 0, .int .i8 0, .int .i8 0, .int .i8 0, .int .i8 0, .int .i8 0, .int .i8 0, .int .i8 0, .int .i8 0, .int .i8 0, .int .i8 0, .int .i8 0, .int .i8 0, .int .i8 0, .int .i8 0, .int .i8 0, .int .i8 0, .int .i8 0, .int .i8 0, .int .i8 0, .int .i8 0, .int .i8 0, .int .i8 0, .int .i8 0, .int .i8 0, .int .i8 0, .int .i8 0, .int .i8 0, .int .i8 0, .int .i8 0, .int .i8 0, .int .i8 0, .int .i8 0, .int .i8 0, .int .i8 0, .int .i8 0, .int .i8 0, .int .i8 0, .int .i8 0, .int .i8 0, .int .i8 0, .int .i8 0, .int .i8 0, .int .i8 0, .int .i8 0, .int .i8 0, .int .i8 0, .int .i8 0, .int .i8 0, .int .i8 0, .int .i8 0, .int .i8 0, .int .i8 0, .int .i8 0, .int .i8 0, .int .i8 0, .int .i8 0, .int .i8 0, .int .i8 0, .int .i8 0, .int .i8 0, .int .i8 0, .int .i8 0, .int .i8 0, .int .i8 0, .int .i8 0, .int .i8 0, .int .i8 0, .int .i8 0]), .agg (Array.mk [.int .u8 0, .int .u8 0, .int .u8 0, .int .u8 0, .int .u8 0, .int .u8 0, .int .u8 0, .int .u8 0, .int .u8 0, .int .u8 0, .int .u8 0, .int .u8 0, .int .u8 0, .int .u8 0, .int .u8 0, .int .u8 0, .int .u8 0, .int .u8 0, .int .u8 0, .int .u8 0, .int .u8 0, .int .u8 0, .int .u8 0, .int .u8 0, .int .u8 0, .int .u8 0, .int .u8 0, .int .u8 0, .int .u8 0, .int .u8 0, .int .u8 0, .int .u8 0, .int .u8 0, .int .u8 0, .int .u8 0, .int .u8 0, .int .u8 0, .int .u8 0, .int .u8 0, .int .u8 0, .int .u8 0, .int .u8 0, .int .u8 0, .int .u8 0, .int .u8 0, .int .u8 0, .int .u8 0, .int .u8 0, .int .u8 0, .int .u8 0, .int .u8 0, .int .u8 0, .int .u8 0, .int .u8 0, .int .u8 0, .int .u8 0, .int .u8 0, .int .u8 0, .int .u8 0, .int .u8 0, .int .u8 0, .int .u8 0, .int .u8 0, .int .u8 0, .int .u8 0, .int .u8 0, .int .u8 0, .int .u8 0, .int .u8 0, .int .u8 0, .int .u8 0, .int .u8 0, .int .u8 0, .int .u8 0, .int .u8 0, .int .u8 0, .int .u8 0, .int .u8 0, .int .u8 0, .int .u8 0, .int .u8 0, .int .u8 0, .int .u8 0, .int .u8 0, .int .u8 0, .int .u8 0, .int .u8 0, .int .u8 0, .int .u8 0, .int .u8 0, .int .u8 0, .int .u8 0, .int .u8 0, .int .u8 0, .int .u8 0, .int .u8 0, .int .u8 0, .int .u8 0, .int .u8 0, .int .u8 0, .int .u8 0, .int .u8 0, .int .u8 0, .int .u8 0, .int .u8 0, .int .u8 0, .int .u8 0, .int .u8 0, .int .u8 0, .int .u8 0, .int .u8 0, .int .u8 0, .int .u8 0, .int .u8 0, .int .u8 0, .int .u8 0, .int .u8 0, .int .u8 0, .int .u8 0, .int .u8 0, .int .u8 0, .int .u8 0, .int .u8 0, .int .u8 0, .int .u8 0, .int .u8 0, .int .u8 0, .int .u8 0, .int .u8 0, .int .u8 0, .int .u8 0, .int .u8 0, .int .u8 0, .int .u8 0, .int .u8 0, .int .u8 0, .int .u8 0, .int .u8 0, .int .u8 0, .int .u8 0, .int .u8 0, .int .u8 0, .int .u8 0, .int .u8 0, .int .u8 0, .int .u8 0, .int .u8 0, .int .u8 0, .int .u8 0, .int .u8 0, .int .u8 0, .int .u8 0, .int .u8 0, .int .u8 0, .int .u8 0, .int .u8 0, .int .u8 0, .int .u8 0, .int .u8 0, .int .u8 0, .int .u8 0, .int .u8 0, .int .u8 0, .int .u8 0, .int .u8 0, .int .u8 0, .int .u8 0, .int .u8 0, .int .u8 0, .int .u8 0, .int .u8 0, .int .u8 0, .int .u8 0, .int .u8 0, .int .u8 0, .int .u8 0, .int .u8 0, .int .u8 0, .int .u8 0, .int .u8 0, .int .u8 0, .int .u8 0, .int .u8 0, .int .u8 0, .int .u8 0, .int .u8 0, .int .u8 0, .int .u8 0, .int .u8 0, .int .u8 0, .int .u8 0, .int .u8 0, .int .u8 0, .int .u8 0, .int .u8 0, .int .u8 0, .int .u8 0, .int .u8 0, .int .u8 0, .int .u8 0, .int .u8 0, .int .u8 0, .int .u8 0, .int .u8 0, .int .u8 0, .int .u8 0, .int .u8 0, .int .u8 0, .int .u8 0, .int .u8 0, .int .u8 0, .int .u8 0, .int .u8 0, .int .u8 0, .int .u8 0, .int .u8 0, .int .u8 0, .int .u8 0, .int .u8 0, .int .u8 0, .int .u8 0, .int .u8 0, .int .u8 0, .int .u8 0, .int .u8 0, .int .u8 0, .int .u8 0, .int .u8 0, .int .u8 0, .int .u8 0, .int .u8 0, .int .u8 0, .int .u8 0, .int .u8 0, .int .u8 0, .int .u8 0, .int .u8 0, .int .u8 0, .int .u8 0, .int .u8 0, .int .u8 0, .int .u8 0, .int .u8 0, .int .u8 0, .int .u8 0, .int .u8 0, .int .u8 0, .int .u8 0, .int .u8 0, .int .u8 0, .int .u8 0, .int .u8 0, .int .u8 0, .int .u8 0, .int .u8 0, .int .u8 0]), .agg #[.int .i8 0, .int .i8 0, .int .i8 0, .int .i8 0, .int .i8 0, .int .i8 0], .slice none 0 0], []⟩ 8 (by kernel_rfl) (by kernel_rfl) (by kernel_rfl) (by kernel_rfl)) ?_
  intro W base args ds gs before hval0 hW hcnd hsz0 _
  have hsz : (DataW.weightsEach Try.prog (Try.f6.params.toList ++ Rows.fnExactChainForSpec.plain.varTypes Try.prog) (ds ++ gs)).all (· ≤ reachBytes) = true := hsz0
  have hval : ∀ (j : Nat) t v, Try.f6.params[j]? = some t → args[j]? = some v → Value.okWide Try.prog W .any base t v := hval0
  have hW' := hW
  obtain ⟨p, q, hA0, hV, rfl, hfz, hnd⟩ := hW
  have hA : DataW.TrodAll enc Try.prog W 0 (fun _ => true) true Try.f6.params.toList args.toList ds p := hA0
  rw [Try.params6] at hA hval hsz
  obtain ⟨v0, vs0, d0, ds0, p0, q0, hargs, rfl, rfl, h0, r0⟩ := trodAll_cons hA
  obtain ⟨v1, vs1, d1, ds1, p1, q1, rfl, rfl, rfl, h1, r1⟩ := trodAll_cons r0
  obtain ⟨v2, vs2, d2, ds2, p2, q2, rfl, rfl, rfl, h2, r2⟩ := trodAll_cons r1
  obtain ⟨v3, vs3, d3, ds3, p3, q3, rfl, rfl, rfl, h3, r3⟩ := trodAll_cons r2
  obtain ⟨rfl, rfl, rfl⟩ := trodAll_nil r3
  obtain rfl : args = #[v0, v1, v2, v3] := by cases args; simp_all
  obtain ⟨rfl, rfl⟩ := trodVars_none hV
  have k0_ := h0
  have lt0 : ∀ x ∈ p0, x.block < W.heap.size := by obtain ⟨m, hm⟩ := k0_; exact DataW.trod_lt m _ _ _ hm
  obtain ⟨o0, rfl⟩ : ∃ o : O26, v0 = VO26 o := by
    obtain ⟨z, e, hw⟩ := RL.flat_value 258 KSO26 (by kernel_rfl) (by kernel_rfl) (okWide_struct Try.underlying26 (hval 0 26 v0 rfl rfl)) h0
    obtain ⟨o, ho⟩ := openO26 z hw
    exact ⟨o, by first | (rw [e, ho]; done) | (rw [e, ho]; rfl)⟩
  have k1_ := h1
  have lt1 : ∀ x ∈ p1, x.block < W.heap.size := by obtain ⟨m, hm⟩ := k1_; exact DataW.trod_lt m _ _ _ hm
  obtain ⟨o1, rfl⟩ : ∃ o : O28, v1 = VO28 o := by
    obtain ⟨z, e, hw⟩ := RL.flat_value 256 KSO28 (by kernel_rfl) (by kernel_rfl) (RL.okWide_arr Try.underlying28 (hval 1 28 v1 rfl rfl)) h1
    obtain ⟨o, ho⟩ := openO28 z hw
    exact ⟨o, by first | (rw [e, ho]; done) | (rw [e, ho]; rfl)⟩
  have k2_ := h2
  have lt2 : ∀ x ∈ p2, x.block < W.heap.size := by obtain ⟨m, hm⟩ := k2_; exact DataW.trod_lt m _ _ _ hm
  obtain ⟨a2_0, a2_1, a2_2, a2_3, a2_4, a2_5, rfl, w2_0, w2_1, w2_2, w2_3, w2_4, w2_5⟩ : ∃ a2_0 a2_1 a2_2 a2_3 a2_4 a2_5 : Int, v2 = .agg #[.int .i8 a2_0, .int .i8 a2_1, .int .i8 a2_2, .int .i8 a2_3, .int .i8 a2_4, .int .i8 a2_5] ∧ (Lit.int .i8 a2_0).wf = true ∧ (Lit.int .i8 a2_1).wf = true ∧ (Lit.int .i8 a2_2).wf = true ∧ (Lit.int .i8 a2_3).wf = true ∧ (Lit.int .i8 a2_4).wf = true ∧ (Lit.int .i8 a2_5).wf = true := by
    obtain ⟨z, e, hw⟩ := RL.flat_value 6 [.i8, .i8, .i8, .i8, .i8, .i8] (by kernel_rfl) (by kernel_rfl) (okWide_struct Try.underlying38 (hval 2 38 v2 rfl rfl)) h2
    exact ⟨z 0, z 1, z 2, z 3, z 4, z 5, e, hw 0 (by omega), hw 1 (by omega), hw 2 (by omega), hw 3 (by omega), hw 4 (by omega), hw 5 (by omega)⟩
  have k3_ := h3
  have lt3 : ∀ x ∈ p3, x.block < W.heap.size := by obtain ⟨m, hm⟩ := k3_; exact DataW.trod_lt m _ _ _ hm
  obtain ⟨A3, len3, c3, rfl⟩ := okWide_slice Try.underlying54 (hval 3 54 v3 rfl rfl)
  obtain ⟨l3, rfl, C3, g3, m3, y3⟩ := RL.slice_C k47 (fun z => (⟨z 0, z 1⟩ : S47)) 2 [.i8, .i8] rfl (fun z => ⟨[.int .i8 (z 0)], [.int .i8 (z 1)], rfl, rfl, rfl⟩) Try.underlying54 (by kernel_rfl) (by kernel_rfl) h3
  clear hA0 hval0 hsz0 hsz
  obtain ⟨k, hp⟩ := Pure.FnExactChainFor o0 o1 a2_0 a2_1 a2_2 a2_3 a2_4 a2_5 l3 w2_0 w2_1 w2_2 w2_3 w2_4 w2_5 m3 y3
  refine (laws_FnExactChainFor.calls k o0 o1 a2_0 a2_1 a2_2 a2_3 a2_4 a2_5 A3 c3 l3 true W C3 g3 hp).mono fun e W' ⟨he, bel⟩ => ?_
  subst he
  exact ⟨_, rfl, _, _, _, [], _, [], hW', trodAll_mk1 (shut_bool Try.underlying4 _), (trodAll_cons_mk (Below.trod laidOut (by kernel_rfl) (of_decide_eq_true (by kernel_rfl)) k0_ bel lt0) (trodAll_cons_mk (Below.trod laidOut (by kernel_rfl) (of_decide_eq_true (by kernel_rfl)) k1_ bel lt1) (trodAll_cons_mk (Below.trod laidOut (by kernel_rfl) (of_decide_eq_true (by kernel_rfl)) k2_ bel lt2) (trodAll_cons_mk (Below.trod laidOut (by kernel_rfl) (of_decide_eq_true (by kernel_rfl)) k3_ bel lt3) trodAll_mk0)))), rfl, bel.frame _, fun h => by cases h⟩
set_option maxHeartbeats 8000000 in
theorem closed : joinedFacts Try.pinned.checked.prog 6 Try.f6 Rows.fnExactChainForSpec Rows.fnExactChainForRow = true := by
  kernel_rfl
theorem named : Try.pinned.checked.prog.funcNamed Rows.fnExactChainForRow.func = some 6 := by kernel_rfl
theorem inst : Try.f6.isInstance Try.pinned.checked.prog Rows.fnExactChainForRow.origin Rows.fnExactChainForRow.targs := of_decide_eq_true (by kernel_rfl)
theorem wrapper : Try.f6.isWrapper Try.pinned.checked.prog Rows.fnExactChainForRow.wrapper Rows.fnExactChainForRow.mainSum := by unfold Func.isWrapper; first | (rw [if_pos (by decide +kernel)]; kernel_rfl) | (rw [if_neg (by decide +kernel)]; exact ⟨rfl, rfl⟩)
theorem over : Rows.fnExactChainForRow.holds Try.pinned (OpenSpec.ofChange Rows.fnExactChainForSpec) :=
  OpenClaim.holds_of_wide 6 Try.f6 rfl rfl rfl rfl rfl rfl rfl ⟨rfl, rfl, rfl, rfl, rfl⟩ rfl rfl rfl rfl rfl named Try.func6 closed inst wrapper
    (fun os started H enc _ => lifted os started H enc)
theorem proved : Rows.FnExactChainForSaid := over
#print axioms proved
end Go.Proofs.Ytofpjfbkbmpnnaa.rowFnExactChainFor
namespace Go.Proofs.Ytofpjfbkbmpnnaa
theorem fnExactChainFor_holds : Rows.FnExactChainForSaid := rowFnExactChainFor.proved
end Go.Proofs.Ytofpjfbkbmpnnaa
