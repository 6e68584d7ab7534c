/- A part of the proof of: FnExactHoursAtEach returns true, whatever the input, and leaves its arguments as they were. -/
import Derived.Test.YtmhmfhdmeedcfaaProg
import Derived.Below
import Derived.Deep.Draws
import Derived.Deep.AppendLies
import Derived.Maps.AppendAt
import Derived.OwnWalk
import Derived.Laws.BytesArg
import Derived.Laws.MakeOwn
import Derived.Laws.OwnMore
import Derived.Deep.OwnRows
import Derived.Tactics
import Derived.Lib.ConvBytes
import Derived.Laws.Slices
import Derived.WalkKit
import Derived.KernelRfl
import Derived.RowKit3
import Derived.Deep.LoopGhost
import Derived.Deep.QuietTactic
import Derived.BigQuiet
import Derived.WideLaws
import Derived.Deep.DeepCutAuto
import Derived.Deep.CutBlock
import Derived.Deep.RegionHeld3
import Derived.Laws.Rows
import Derived.Lib.AppendStr
import Derived.ArgAppend
import Derived.Laws.IdiomCopy
import Derived.OrdersHeld
import Derived.Laws.BitsLemmas
import Derived.RowKit
import Derived.Laws.StructEq
import Derived.Deep.Slices
import Derived.ChangeSame
import Derived.ChangeArms
import Derived.OpenShut
import Derived.ProofKit
import Derived.Laws.Tables
import Derived.Lib.Hide
import Derived.Test.YtmhmfhdmeedcfaaZFnExactHoursAtEach1
import Derived.Test.YtmhmfhdmeedcfaaZFnExactHoursAtEach2
import Derived.Test.YtmhmfhdmeedcfaaZFnExactHoursAtEach3
section
namespace Go.Proofs.Ytmhmfhdmeedcfaa.G
open Go.RowKit Go.Proofs.YtmhmfhdmeedcfaaW.PrintWords Go.Proofs.YtmhmfhdmeedcfaaW.PrintLast Go.Proofs.YtmhmfhdmeedcfaaW.PrintMore
attribute [local go_sem] max2_int min2_int max_two min_two max_three min_three max_four min_four   -- for this text's walks alone
set_option linter.unusedVariables false
set_option linter.unusedSimpArgs false
def spec_l07Once.f (k : Nat) (a0 : O38) (a1 : O40) (a2_0 : Int) (a2_1 : Int) (a2_2 : Int) (a2_3 : Int) (a2_4 : Int) (a2_5 : Int) (a3_0 : Int) (a3_1 : Int) : Option (Int × Int × Int × Int × Int × Int × Bool) := (spec_l07Drags.f a0 a1 a2_0 a2_1 a2_2 a2_3 a2_4 a2_5 a3_0 a3_1).bind fun t128 => (if t128 = true then ((spec_l07Side.f k a2_0 a2_1 a3_1).bind fun bt129 => ((spec_l01Is.f a0 bt129.1 bt129.2).bind fun t132 => (if t132 = true then ((spec_l01Depth.f a0 bt129.1 bt129.2).bind fun t133 => (if t133 = 0 then (some (a2_0, a2_1, a2_2, a2_3, a2_4, a2_5, true)) else (some (bt129.1, bt129.2, a2_2, a2_3, a2_4, a2_5, false)))) else (some (a2_0, a2_1, a2_2, a2_3, a2_4, a2_5, true))))) else (some (a2_0, a2_1, a2_2, a2_3, a2_4, a2_5, false)))
set_option maxHeartbeats 8000000 in
set_option maxRecDepth 100000 in
theorem spec_l07Once.calls (k : Nat) (gp0 : Nat) (a0 : O38) (gp1 : Nat) (a1 : O40) (a2_0 : Int) (a2_1 : Int) (a2_2 : Int) (a2_3 : Int) (a2_4 : Int) (a2_5 : Int) (a3_0 : Int) (a3_1 : Int) (r1 : Int) (r2 : Int) (r3 : Int) (r4 : Int) (r5 : Int) (r6 : Int) (r7 : Bool) (w : World) (hp0 : w.heap[gp0]? = some (.cells (a0).A 38 (0, 0))) (hp1 : w.heap[gp1]? = some (.cells (a1).A 40 (0, 0))) (h : spec_l07Once.f k a0 a1 a2_0 a2_1 a2_2 a2_3 a2_4 a2_5 a3_0 a3_1 = some (r1, r2, r3, r4, r5, r6, r7)) :
  Calls Try.prog 67 #[.pointer (some ⟨gp0, 0, none⟩), .pointer (some ⟨gp1, 0, none⟩), .agg #[.int .i8 a2_0, .int .i8 a2_1, .int .i8 a2_2, .int .i8 a2_3, .int .i8 a2_4, .int .i8 a2_5], .agg #[.int .i8 a3_0, .int .i8 a3_1]] w fun e w' => e = .returned (.tuple #[.agg #[.int .i8 r1, .int .i8 r2, .int .i8 r3, .int .i8 r4, .int .i8 r5, .int .i8 r6], .bool r7]) ∧ Below w.heap.size w w' := by
 have hu44 := Try.underlying44
 have hu78 := Try.underlying78
 have hu42 := Try.underlying42
 have BK123 := Aside0.mk hp0
 clear hp0
 have BK124 := Aside0.mk hp1
 clear hp1
 have HB := Aside0.mk (Below.refl w.heap.size w)
 have H : ((spec_l07Drags.f a0 a1 a2_0 a2_1 a2_2 a2_3 a2_4 a2_5 a3_0 a3_1).bind fun t128 => (if t128 = true then ((spec_l07Side.f k a2_0 a2_1 a3_1).bind fun bt129 => ((spec_l01Is.f a0 bt129.1 bt129.2).bind fun t132 => (if t132 = true then ((spec_l01Depth.f a0 bt129.1 bt129.2).bind fun t133 => (if t133 = 0 then (some (a2_0, a2_1, a2_2, a2_3, a2_4, a2_5, true)) else (some (bt129.1, bt129.2, a2_2, a2_3, a2_4, a2_5, false)))) else (some (a2_0, a2_1, a2_2, a2_3, a2_4, a2_5, true))))) else (some (a2_0, a2_1, a2_2, a2_3, a2_4, a2_5, false)))) = some (r1, r2, r3, r4, r5, r6, r7) := h
 clear h
 replace H := Option.bind_eq_some_iff.mp H
 obtain ⟨t128, A50, H⟩ := H
 replace H : (if t128 = true then ((spec_l07Side.f k a2_0 a2_1 a3_1).bind fun bt129 => ((spec_l01Is.f a0 bt129.1 bt129.2).bind fun t132 => (if t132 = true then ((spec_l01Depth.f a0 bt129.1 bt129.2).bind fun t133 => (if t133 = 0 then (some (a2_0, a2_1, a2_2, a2_3, a2_4, a2_5, true)) else (some (bt129.1, bt129.2, a2_2, a2_3, a2_4, a2_5, false)))) else (some (a2_0, a2_1, a2_2, a2_3, a2_4, a2_5, true))))) else (some (a2_0, a2_1, a2_2, a2_3, a2_4, a2_5, false))) = some (r1, r2, r3, r4, r5, r6, r7) := H
 have A5 := Aside0.mk A50
 clear A50
 by_cases c6 : t128 = true
 ·subst c6
  have H1 : ((spec_l07Side.f k a2_0 a2_1 a3_1).bind fun bt129 => ((spec_l01Is.f a0 bt129.1 bt129.2).bind fun t132 => (if t132 = true then ((spec_l01Depth.f a0 bt129.1 bt129.2).bind fun t133 => (if t133 = 0 then (some (a2_0, a2_1, a2_2, a2_3, a2_4, a2_5, true)) else (some (bt129.1, bt129.2, a2_2, a2_3, a2_4, a2_5, false)))) else (some (a2_0, a2_1, a2_2, a2_3, a2_4, a2_5, true))))) = some (r1, r2, r3, r4, r5, r6, r7) := by rw [if_pos rfl] at H; exact H
  clear H
  have H := H1
  clear H1
  replace H := Option.bind_eq_some_iff.mp H
  obtain ⟨⟨t129, t130⟩, A70, H⟩ := H
  replace H : ((spec_l01Is.f a0 t129 t130).bind fun t132 => (if t132 = true then ((spec_l01Depth.f a0 t129 t130).bind fun t133 => (if t133 = 0 then (some (a2_0, a2_1, a2_2, a2_3, a2_4, a2_5, true)) else (some (t129, t130, a2_2, a2_3, a2_4, a2_5, false)))) else (some (a2_0, a2_1, a2_2, a2_3, a2_4, a2_5, true)))) = some (r1, r2, r3, r4, r5, r6, r7) := H
  have A7 := Aside0.mk A70
  clear A70
  replace H := Option.bind_eq_some_iff.mp H
  obtain ⟨t132, A80, H⟩ := H
  replace H : (if t132 = true then ((spec_l01Depth.f a0 t129 t130).bind fun t133 => (if t133 = 0 then (some (a2_0, a2_1, a2_2, a2_3, a2_4, a2_5, true)) else (some (t129, t130, a2_2, a2_3, a2_4, a2_5, false)))) else (some (a2_0, a2_1, a2_2, a2_3, a2_4, a2_5, true))) = some (r1, r2, r3, r4, r5, r6, r7) := H
  have A8 := Aside0.mk A80
  clear A80
  by_cases c9 : t132 = true
  ·subst c9
   have H1 : ((spec_l01Depth.f a0 t129 t130).bind fun t133 => (if t133 = 0 then (some (a2_0, a2_1, a2_2, a2_3, a2_4, a2_5, true)) else (some (t129, t130, a2_2, a2_3, a2_4, a2_5, false)))) = some (r1, r2, r3, r4, r5, r6, r7) := by rw [if_pos rfl] at H; exact H
   clear H
   have H := H1
   clear H1
   replace H := Option.bind_eq_some_iff.mp H
   obtain ⟨t133, A100, H⟩ := H
   replace H : (if t133 = 0 then (some (a2_0, a2_1, a2_2, a2_3, a2_4, a2_5, true)) else (some (t129, t130, a2_2, a2_3, a2_4, a2_5, false))) = some (r1, r2, r3, r4, r5, r6, r7) := H
   have A10 := Aside0.mk A100
   clear A100
   by_cases c11 : t133 = 0
   ·rw [if_pos c11] at H
    have c11b0 : (t133 == 0) = true := beq_iff_eq.mpr c11
    have c11b1 : (t133 != 0) = false := bne_eq_false_iff_eq.mpr c11
    clear c11
    simp only [Option.some.injEq, Prod.mk.injEq] at H
    obtain ⟨rfl, rfl, rfl, rfl, rfl, rfl, rfl⟩ := H
    go_enter Try.func67, Try.ntmps67
    go_wp2_with (first | ((with_reducible refine gate_dst (N := 6) rfl ?_); refine box_event ?hg (N := 6) ?hd (cs := #[.int .i8 a2_0, .int .i8 a2_1, .int .i8 a2_2, .int .i8 a2_3, .int .i8 a2_4, .int .i8 a2_5]) (t := 44) ?hr ?_; (case hd => rfl); (case hg => rfl); (case hr => first | (go_simp; done) | (go_simp; rfl)); intro gb125 hg w12 hbox hb; have BK125 := Aside0.mk (hbox); have GW125 := Aside0.mk (sqS HB.out hg); replace HB := Aside0.mk (sqH HB.out hb); have GE125 := GW125; have NB123_125 := Aside0.mk (sqN BK123.out hg); replace BK123 := Aside0.mk (sqB BK123.out hb); have NB125_123 := Aside0.mk (Ne.symm NB123_125.out); have NB124_125 := Aside0.mk (sqN BK124.out hg); replace BK124 := Aside0.mk (sqB BK124.out hb); have NB125_124 := Aside0.mk (Ne.symm NB124_125.out); clear hb hbox hg) | ((with_reducible refine gate_dst (N := 7) rfl ?_); refine box_event ?hg (N := 7) ?hd (cs := #[.int .i8 a3_0, .int .i8 a3_1]) (t := 78) ?hr ?_; (case hd => rfl); (case hg => rfl); (case hr => first | (go_simp; done) | (go_simp; rfl)); intro gb126 hg w13 hbox hb; have BK126 := Aside0.mk (hbox); have GW126 := Aside0.mk (sqS HB.out hg); replace HB := Aside0.mk (sqH HB.out hb); have GE126 := GW126; have NB123_126 := Aside0.mk (sqN BK123.out hg); replace BK123 := Aside0.mk (sqB BK123.out hb); have NB126_123 := Aside0.mk (Ne.symm NB123_126.out); have NB124_126 := Aside0.mk (sqN BK124.out hg); replace BK124 := Aside0.mk (sqB BK124.out hb); have NB126_124 := Aside0.mk (Ne.symm NB124_126.out); have NB125_126 := Aside0.mk (sqN BK125.out hg); replace BK125 := Aside0.mk (sqB BK125.out hb); have NB126_125 := Aside0.mk (Ne.symm NB125_126.out); clear hb hbox hg) | ((with_reducible refine gate_dst (N := 8) rfl ?_); refine box_event ?hg (N := 8) ?hd (cs := #[.int .i8 0, .int .i8 0, .int .i8 0, .int .i8 0, .int .i8 0, .int .i8 0]) (t := 44) ?hr ?_; (case hd => rfl); (case hg => rfl); (case hr => first | (go_simp; done) | (go_simp; rfl)); intro gb127 hg w14 hbox hb; have BK127 := Aside0.mk (hbox); have GW127 := Aside0.mk (sqS HB.out hg); replace HB := Aside0.mk (sqH HB.out hb); have GE127 := GW127; have NB123_127 := Aside0.mk (sqN BK123.out hg); replace BK123 := Aside0.mk (sqB BK123.out hb); have NB127_123 := Aside0.mk (Ne.symm NB123_127.out); have NB124_127 := Aside0.mk (sqN BK124.out hg); replace BK124 := Aside0.mk (sqB BK124.out hb); have NB127_124 := Aside0.mk (Ne.symm NB124_127.out); have NB125_127 := Aside0.mk (sqN BK125.out hg); replace BK125 := Aside0.mk (sqB BK125.out hb); have NB127_125 := Aside0.mk (Ne.symm NB125_127.out); have NB126_127 := Aside0.mk (sqN BK126.out hg); replace BK126 := Aside0.mk (sqB BK126.out hb); have NB127_126 := Aside0.mk (Ne.symm NB126_127.out); clear hb hbox hg; have hnb15 := NB125_123.out; have hnc15 := NB123_125.out; have hnb16 := NB125_124.out; have hnc16 := NB124_125.out; have hnb17 := NB125_126.out; have hnc17 := NB126_125.out; have hnb18 := NB125_127.out; have hnc18 := NB127_125.out; obtain ⟨hcz19_0, hcz19_1, hcz19_2, hcz19_3, hcz19_4, hcz19_5⟩ := sqC BK125.out; obtain ⟨hfz19_0, hfz19_1, hfz19_2, hfz19_3, hfz19_4, hfz19_5⟩ := sqF6 BK125.out; have hnb20 := NB126_123.out; have hnc20 := NB123_126.out; have hnb21 := NB126_124.out; have hnc21 := NB124_126.out; have hnb22 := NB126_127.out; have hnc22 := NB127_126.out; obtain ⟨hcz23_0, hcz23_1⟩ := sqC2 BK126.out; obtain ⟨hfz23_0, hfz23_1⟩ := sqF2 BK126.out) | ((with_reducible refine gate_callee (f := 66) rfl ?_); refine goesL_ (some 15) rfl rfl Try.func66 (by kernel_rfl) rfl #[.pointer (some ⟨gp0, 0, none⟩), .pointer (some ⟨gp1, 0, none⟩), .agg #[.int .i8 a2_0, .int .i8 a2_1, .int .i8 a2_2, .int .i8 a2_3, .int .i8 a2_4, .int .i8 a2_5], .agg #[.int .i8 a3_0, .int .i8 a3_1]] rfl (by (try simp only [List.map_toArray, List.map_cons, List.map_nil]); first | done | rfl | (simp only [List.length_drop, List.length_take]; rfl)) ?_; (with_reducible refine (spec_l07Drags.calls gp0 a0 gp1 a1 a2_0 a2_1 a2_2 a2_3 a2_4 a2_5 a3_0 a3_1 true _ ?side1 ?side2 A5.out).mono ?_); (case side1 => (with_reducible repeat (first | refine blk_drewN ?_ _ | refine blk_drew ?_ | refine blk_alloc ?_ _)); exact BK123.out); (case side2 => (with_reducible repeat (first | refine blk_drewN ?_ _ | refine blk_drew ?_ | refine blk_alloc ?_ _)); exact BK124.out); rintro e w24 ⟨rfl, hb⟩; refine ⟨_, rfl, ?_⟩; replace BK123 := Aside0.mk (sqB BK123.out hb); replace BK124 := Aside0.mk (sqB BK124.out hb); replace BK125 := Aside0.mk (sqB BK125.out hb); replace BK126 := Aside0.mk (sqB BK126.out hb); replace BK127 := Aside0.mk (sqB BK127.out hb); replace HB := Aside0.mk (sqH HB.out hb); (try clear hb); (try clear hb2); (try clear hk); (try clear hi); obtain ⟨hcz25_0, hcz25_1, hcz25_2, hcz25_3, hcz25_4, hcz25_5⟩ := sqC BK125.out; obtain ⟨hfz25_0, hfz25_1, hfz25_2, hfz25_3, hfz25_4, hfz25_5⟩ := sqF6 BK125.out; obtain ⟨hcz26_0, hcz26_1⟩ := sqC2 BK126.out; obtain ⟨hfz26_0, hfz26_1⟩ := sqF2 BK126.out) | ((with_reducible refine gate_callee (f := 77) rfl ?_); refine goesL_ (some 22) rfl rfl Try.func77 (by kernel_rfl) rfl #[.agg #[.int .i8 a2_0, .int .i8 a2_1], .int .i8 a3_1] rfl (by (try simp only [List.map_toArray, List.map_cons, List.map_nil]); first | done | rfl | (simp only [List.length_drop, List.length_take]; rfl)) ?_; (with_reducible refine (spec_l07Side.calls k a2_0 a2_1 a3_1 t129 t130 _ A7.out).mono ?_); rintro e w27 ⟨rfl, hb⟩; refine ⟨_, rfl, ?_⟩; replace BK123 := Aside0.mk (sqB BK123.out hb); replace BK124 := Aside0.mk (sqB BK124.out hb); replace BK125 := Aside0.mk (sqB BK125.out hb); replace BK126 := Aside0.mk (sqB BK126.out hb); replace BK127 := Aside0.mk (sqB BK127.out hb); replace HB := Aside0.mk (sqH HB.out hb); (try clear hb); (try clear hb2); (try clear hk); (try clear hi)) | ((with_reducible refine gate_dst (N := 10) rfl ?_); refine box_event ?hg (N := 10) ?hd (cs := #[.int .i8 0, .int .i8 0]) (t := 42) ?hr ?_; (case hd => rfl); (case hg => rfl); (case hr => first | (go_simp; done) | (go_simp; rfl)); intro gb131 hg w28 hbox hb; have BK131 := Aside0.mk (hbox); have GW131 := Aside0.mk (sqS HB.out hg); replace HB := Aside0.mk (sqH HB.out hb); have GE131 := GW131; have NB123_131 := Aside0.mk (sqN BK123.out hg); replace BK123 := Aside0.mk (sqB BK123.out hb); have NB131_123 := Aside0.mk (Ne.symm NB123_131.out); have NB124_131 := Aside0.mk (sqN BK124.out hg); replace BK124 := Aside0.mk (sqB BK124.out hb); have NB131_124 := Aside0.mk (Ne.symm NB124_131.out); have NB125_131 := Aside0.mk (sqN BK125.out hg); replace BK125 := Aside0.mk (sqB BK125.out hb); have NB131_125 := Aside0.mk (Ne.symm NB125_131.out); have NB126_131 := Aside0.mk (sqN BK126.out hg); replace BK126 := Aside0.mk (sqB BK126.out hb); have NB131_126 := Aside0.mk (Ne.symm NB126_131.out); have NB127_131 := Aside0.mk (sqN BK127.out hg); replace BK127 := Aside0.mk (sqB BK127.out hb); have NB131_127 := Aside0.mk (Ne.symm NB127_131.out); clear hb hbox hg; have hnb29 := NB131_123.out; have hnc29 := NB123_131.out; have hnb30 := NB131_124.out; have hnc30 := NB124_131.out; have hnb31 := NB131_125.out; have hnc31 := NB125_131.out; have hnb32 := NB131_126.out; have hnc32 := NB126_131.out; have hnb33 := NB131_127.out; have hnc33 := NB127_131.out; obtain ⟨hcz34_0, hcz34_1⟩ := sqC2 BK131.out; obtain ⟨hfz34_0, hfz34_1⟩ := sqF2 BK131.out) | ((with_reducible refine gate_callee (f := 64) rfl ?_); refine goesL_ (some 25) rfl rfl Try.func64 (by kernel_rfl) rfl #[.pointer (some ⟨gp0, 0, none⟩), .agg #[.int .i8 t129, .int .i8 t130]] rfl (by (try simp only [List.map_toArray, List.map_cons, List.map_nil]); first | done | rfl | (simp only [List.length_drop, List.length_take]; rfl)) ?_; (with_reducible refine (spec_l01Is.calls gp0 a0 t129 t130 true _ ?side1 A8.out).mono ?_); (case side1 => (with_reducible repeat (first | refine blk_drewN ?_ _ | refine blk_drew ?_ | refine blk_alloc ?_ _)); refine blk_far ?_ NB123_131.out _; (with_reducible repeat (first | refine blk_drewN ?_ _ | refine blk_drew ?_ | refine blk_alloc ?_ _)); refine blk_far ?_ NB123_131.out _; (with_reducible repeat (first | refine blk_drewN ?_ _ | refine blk_drew ?_ | refine blk_alloc ?_ _)); exact BK123.out); rintro e w35 ⟨rfl, hb⟩; refine ⟨_, rfl, ?_⟩; replace BK123 := Aside0.mk (blk_below (g := gp0) (o := .cells (a0).A 38 (0, 0)) (by (with_reducible repeat (first | refine blk_drewN ?_ _ | refine blk_drew ?_ | refine blk_alloc ?_ _)); refine blk_far ?_ NB123_131.out _; (with_reducible repeat (first | refine blk_drewN ?_ _ | refine blk_drew ?_ | refine blk_alloc ?_ _)); refine blk_far ?_ NB123_131.out _; (with_reducible repeat (first | refine blk_drewN ?_ _ | refine blk_drew ?_ | refine blk_alloc ?_ _)); exact BK123.out) hb); replace BK124 := Aside0.mk (blk_below (g := gp1) (o := .cells (a1).A 40 (0, 0)) (by (with_reducible repeat (first | refine blk_drewN ?_ _ | refine blk_drew ?_ | refine blk_alloc ?_ _)); refine blk_far ?_ NB124_131.out _; (with_reducible repeat (first | refine blk_drewN ?_ _ | refine blk_drew ?_ | refine blk_alloc ?_ _)); refine blk_far ?_ NB124_131.out _; (with_reducible repeat (first | refine blk_drewN ?_ _ | refine blk_drew ?_ | refine blk_alloc ?_ _)); exact BK124.out) hb); replace BK125 := Aside0.mk (blk_below (g := gb125) (o := .cells #[.int .i8 a2_0, .int .i8 a2_1, .int .i8 a2_2, .int .i8 a2_3, .int .i8 a2_4, .int .i8 a2_5] 44 (0, 0)) (by (with_reducible repeat (first | refine blk_drewN ?_ _ | refine blk_drew ?_ | refine blk_alloc ?_ _)); refine blk_far ?_ NB125_131.out _; (with_reducible repeat (first | refine blk_drewN ?_ _ | refine blk_drew ?_ | refine blk_alloc ?_ _)); refine blk_far ?_ NB125_131.out _; (with_reducible repeat (first | refine blk_drewN ?_ _ | refine blk_drew ?_ | refine blk_alloc ?_ _)); exact BK125.out) hb); replace BK126 := Aside0.mk (blk_below (g := gb126) (o := .cells #[.int .i8 a3_0, .int .i8 a3_1] 78 (0, 0)) (by (with_reducible repeat (first | refine blk_drewN ?_ _ | refine blk_drew ?_ | refine blk_alloc ?_ _)); refine blk_far ?_ NB126_131.out _; (with_reducible repeat (first | refine blk_drewN ?_ _ | refine blk_drew ?_ | refine blk_alloc ?_ _)); refine blk_far ?_ NB126_131.out _; (with_reducible repeat (first | refine blk_drewN ?_ _ | refine blk_drew ?_ | refine blk_alloc ?_ _)); exact BK126.out) hb); replace BK127 := Aside0.mk (blk_below (g := gb127) (o := .cells #[.int .i8 0, .int .i8 0, .int .i8 0, .int .i8 0, .int .i8 0, .int .i8 0] 44 (0, 0)) (by (with_reducible repeat (first | refine blk_drewN ?_ _ | refine blk_drew ?_ | refine blk_alloc ?_ _)); refine blk_far ?_ NB127_131.out _; (with_reducible repeat (first | refine blk_drewN ?_ _ | refine blk_drew ?_ | refine blk_alloc ?_ _)); refine blk_far ?_ NB127_131.out _; (with_reducible repeat (first | refine blk_drewN ?_ _ | refine blk_drew ?_ | refine blk_alloc ?_ _)); exact BK127.out) hb); replace BK131 := Aside0.mk (blk_below (g := gb131) (o := .cells #[.int .i8 t129, .int .i8 t130] 42 (0, 0)) (by (with_reducible repeat (first | refine blk_drewN ?_ _ | refine blk_drew ?_ | refine blk_alloc ?_ _)); refine blk_put (cs := #[.int .i8 t129, .int .i8 0]) ?_ 1 _ rfl; (with_reducible repeat (first | refine blk_drewN ?_ _ | refine blk_drew ?_ | refine blk_alloc ?_ _)); refine blk_put (cs := #[.int .i8 0, .int .i8 0]) ?_ 0 _ rfl; (with_reducible repeat (first | refine blk_drewN ?_ _ | refine blk_drew ?_ | refine blk_alloc ?_ _)); exact BK131.out) hb); replace HB := Aside0.mk (sqH HB.out hb); (try clear hb); (try clear hb2); (try clear hk); (try clear hi); obtain ⟨hcz36_0, hcz36_1⟩ := sqC2 BK131.out; obtain ⟨hfz36_0, hfz36_1⟩ := sqF2 BK131.out) | (go_at_call 73; (with_reducible refine (spec_l01Depth.calls gp0 a0 t129 t130 t133 _ ?side1 A10.out).mono ?_); (case side1 => (with_reducible repeat (first | refine blk_drewN ?_ _ | refine blk_drew ?_ | refine blk_alloc ?_ _)); exact BK123.out); rintro e w37 ⟨rfl, hb⟩; replace BK123 := Aside0.mk (sqB BK123.out hb); replace BK124 := Aside0.mk (sqB BK124.out hb); replace BK125 := Aside0.mk (sqB BK125.out hb); replace BK126 := Aside0.mk (sqB BK126.out hb); replace BK127 := Aside0.mk (sqB BK127.out hb); replace BK131 := Aside0.mk (sqB BK131.out hb); replace HB := Aside0.mk (sqH HB.out hb); (try clear hb); (try clear hb2); (try clear hk); (try clear hi); obtain ⟨hcz38_0, hcz38_1, hcz38_2, hcz38_3, hcz38_4, hcz38_5⟩ := sqC BK125.out; obtain ⟨hfz38_0, hfz38_1, hfz38_2, hfz38_3, hfz38_4, hfz38_5⟩ := sqF6 BK125.out; have hnb39 := NB127_123.out; have hnc39 := NB123_127.out; have hnb40 := NB127_124.out; have hnc40 := NB124_127.out; obtain ⟨hcz41_0, hcz41_1, hcz41_2, hcz41_3, hcz41_4, hcz41_5⟩ := sqC BK127.out; obtain ⟨hfz41_0, hfz41_1, hfz41_2, hfz41_3, hfz41_4, hfz41_5⟩ := sqF6 BK127.out))
    refine bodyPost_ret (results_ct rfl _ _ gb127 44 #[.int .i8 a2_0, .int .i8 a2_1, .int .i8 a2_2, .int .i8 a2_3, .int .i8 a2_4, .int .i8 a2_5] (0, 0) _ rfl (by (with_reducible repeat (first | refine blk_drewN ?_ _ | refine blk_drew ?_ | refine blk_alloc ?_ _)); refine blk_put (cs := #[.int .i8 a2_0, .int .i8 a2_1, .int .i8 a2_2, .int .i8 a2_3, .int .i8 a2_4, .int .i8 0]) ?_ 5 _ rfl; (with_reducible repeat (first | refine blk_drewN ?_ _ | refine blk_drew ?_ | refine blk_alloc ?_ _)); refine blk_put (cs := #[.int .i8 a2_0, .int .i8 a2_1, .int .i8 a2_2, .int .i8 a2_3, .int .i8 0, .int .i8 0]) ?_ 4 _ rfl; (with_reducible repeat (first | refine blk_drewN ?_ _ | refine blk_drew ?_ | refine blk_alloc ?_ _)); refine blk_put (cs := #[.int .i8 a2_0, .int .i8 a2_1, .int .i8 a2_2, .int .i8 0, .int .i8 0, .int .i8 0]) ?_ 3 _ rfl; (with_reducible repeat (first | refine blk_drewN ?_ _ | refine blk_drew ?_ | refine blk_alloc ?_ _)); refine blk_put (cs := #[.int .i8 a2_0, .int .i8 a2_1, .int .i8 0, .int .i8 0, .int .i8 0, .int .i8 0]) ?_ 2 _ rfl; (with_reducible repeat (first | refine blk_drewN ?_ _ | refine blk_drew ?_ | refine blk_alloc ?_ _)); refine blk_put (cs := #[.int .i8 a2_0, .int .i8 0, .int .i8 0, .int .i8 0, .int .i8 0, .int .i8 0]) ?_ 1 _ rfl; (with_reducible repeat (first | refine blk_drewN ?_ _ | refine blk_drew ?_ | refine blk_alloc ?_ _)); refine blk_put (cs := #[.int .i8 0, .int .i8 0, .int .i8 0, .int .i8 0, .int .i8 0, .int .i8 0]) ?_ 0 _ rfl; (with_reducible repeat (first | refine blk_drewN ?_ _ | refine blk_drew ?_ | refine blk_alloc ?_ _)); exact BK127.out) Try.underlying44 rfl (by kernel_rfl)) rfl ?_
    exact ⟨by first | rfl | (simp [errW_none, errW_some] <;> rfl) | (simp [*, errW_none, errW_some] <;> rfl), by repeat (first | (with_reducible first | exact HB.out | apply below_alloc | apply pw_below_drewN | apply below_drew1 | refine below_set ?_ GE123.out | refine below_set ?_ GE124.out | refine below_set ?_ GE125.out | refine below_set ?_ GE126.out | refine below_set ?_ GE127.out | refine below_set ?_ GE131.out) | exact HB.out)⟩
   ·rw [if_neg c11] at H
    have c11b0 : (t133 == 0) = false := beq_eq_false_iff_ne.mpr c11
    have c11b1 : (t133 != 0) = true := bne_iff_ne.mpr c11
    simp only [Option.some.injEq, Prod.mk.injEq] at H
    obtain ⟨rfl, rfl, rfl, rfl, rfl, rfl, rfl⟩ := H
    go_enter Try.func67, Try.ntmps67
    go_wp2_with (first | ((with_reducible refine gate_dst (N := 6) rfl ?_); refine box_event ?hg (N := 6) ?hd (cs := #[.int .i8 a2_0, .int .i8 a2_1, .int .i8 a2_2, .int .i8 a2_3, .int .i8 a2_4, .int .i8 a2_5]) (t := 44) ?hr ?_; (case hd => rfl); (case hg => rfl); (case hr => first | (go_simp; done) | (go_simp; rfl)); intro gb125 hg w42 hbox hb; have BK125 := Aside0.mk (hbox); have GW125 := Aside0.mk (sqS HB.out hg); replace HB := Aside0.mk (sqH HB.out hb); have GE125 := GW125; have NB123_125 := Aside0.mk (sqN BK123.out hg); replace BK123 := Aside0.mk (sqB BK123.out hb); have NB125_123 := Aside0.mk (Ne.symm NB123_125.out); have NB124_125 := Aside0.mk (sqN BK124.out hg); replace BK124 := Aside0.mk (sqB BK124.out hb); have NB125_124 := Aside0.mk (Ne.symm NB124_125.out); clear hb hbox hg) | ((with_reducible refine gate_dst (N := 7) rfl ?_); refine box_event ?hg (N := 7) ?hd (cs := #[.int .i8 a3_0, .int .i8 a3_1]) (t := 78) ?hr ?_; (case hd => rfl); (case hg => rfl); (case hr => first | (go_simp; done) | (go_simp; rfl)); intro gb126 hg w43 hbox hb; have BK126 := Aside0.mk (hbox); have GW126 := Aside0.mk (sqS HB.out hg); replace HB := Aside0.mk (sqH HB.out hb); have GE126 := GW126; have NB123_126 := Aside0.mk (sqN BK123.out hg); replace BK123 := Aside0.mk (sqB BK123.out hb); have NB126_123 := Aside0.mk (Ne.symm NB123_126.out); have NB124_126 := Aside0.mk (sqN BK124.out hg); replace BK124 := Aside0.mk (sqB BK124.out hb); have NB126_124 := Aside0.mk (Ne.symm NB124_126.out); have NB125_126 := Aside0.mk (sqN BK125.out hg); replace BK125 := Aside0.mk (sqB BK125.out hb); have NB126_125 := Aside0.mk (Ne.symm NB125_126.out); clear hb hbox hg) | ((with_reducible refine gate_dst (N := 8) rfl ?_); refine box_event ?hg (N := 8) ?hd (cs := #[.int .i8 0, .int .i8 0, .int .i8 0, .int .i8 0, .int .i8 0, .int .i8 0]) (t := 44) ?hr ?_; (case hd => rfl); (case hg => rfl); (case hr => first | (go_simp; done) | (go_simp; rfl)); intro gb127 hg w44 hbox hb; have BK127 := Aside0.mk (hbox); have GW127 := Aside0.mk (sqS HB.out hg); replace HB := Aside0.mk (sqH HB.out hb); have GE127 := GW127; have NB123_127 := Aside0.mk (sqN BK123.out hg); replace BK123 := Aside0.mk (sqB BK123.out hb); have NB127_123 := Aside0.mk (Ne.symm NB123_127.out); have NB124_127 := Aside0.mk (sqN BK124.out hg); replace BK124 := Aside0.mk (sqB BK124.out hb); have NB127_124 := Aside0.mk (Ne.symm NB124_127.out); have NB125_127 := Aside0.mk (sqN BK125.out hg); replace BK125 := Aside0.mk (sqB BK125.out hb); have NB127_125 := Aside0.mk (Ne.symm NB125_127.out); have NB126_127 := Aside0.mk (sqN BK126.out hg); replace BK126 := Aside0.mk (sqB BK126.out hb); have NB127_126 := Aside0.mk (Ne.symm NB126_127.out); clear hb hbox hg; have hnb45 := NB125_123.out; have hnc45 := NB123_125.out; have hnb46 := NB125_124.out; have hnc46 := NB124_125.out; have hnb47 := NB125_126.out; have hnc47 := NB126_125.out; have hnb48 := NB125_127.out; have hnc48 := NB127_125.out; obtain ⟨hcz49_0, hcz49_1, hcz49_2, hcz49_3, hcz49_4, hcz49_5⟩ := sqC BK125.out; obtain ⟨hfz49_0, hfz49_1, hfz49_2, hfz49_3, hfz49_4, hfz49_5⟩ := sqF6 BK125.out; have hnb50 := NB126_123.out; have hnc50 := NB123_126.out; have hnb51 := NB126_124.out; have hnc51 := NB124_126.out; have hnb52 := NB126_127.out; have hnc52 := NB127_126.out; obtain ⟨hcz53_0, hcz53_1⟩ := sqC2 BK126.out; obtain ⟨hfz53_0, hfz53_1⟩ := sqF2 BK126.out) | ((with_reducible refine gate_callee (f := 66) rfl ?_); refine goesL_ (some 15) rfl rfl Try.func66 (by kernel_rfl) rfl #[.pointer (some ⟨gp0, 0, none⟩), .pointer (some ⟨gp1, 0, none⟩), .agg #[.int .i8 a2_0, .int .i8 a2_1, .int .i8 a2_2, .int .i8 a2_3, .int .i8 a2_4, .int .i8 a2_5], .agg #[.int .i8 a3_0, .int .i8 a3_1]] rfl (by (try simp only [List.map_toArray, List.map_cons, List.map_nil]); first | done | rfl | (simp only [List.length_drop, List.length_take]; rfl)) ?_; (with_reducible refine (spec_l07Drags.calls gp0 a0 gp1 a1 a2_0 a2_1 a2_2 a2_3 a2_4 a2_5 a3_0 a3_1 true _ ?side1 ?side2 A5.out).mono ?_); (case side1 => (with_reducible repeat (first | refine blk_drewN ?_ _ | refine blk_drew ?_ | refine blk_alloc ?_ _)); exact BK123.out); (case side2 => (with_reducible repeat (first | refine blk_drewN ?_ _ | refine blk_drew ?_ | refine blk_alloc ?_ _)); exact BK124.out); rintro e w54 ⟨rfl, hb⟩; refine ⟨_, rfl, ?_⟩; replace BK123 := Aside0.mk (sqB BK123.out hb); replace BK124 := Aside0.mk (sqB BK124.out hb); replace BK125 := Aside0.mk (sqB BK125.out hb); replace BK126 := Aside0.mk (sqB BK126.out hb); replace BK127 := Aside0.mk (sqB BK127.out hb); replace HB := Aside0.mk (sqH HB.out hb); (try clear hb); (try clear hb2); (try clear hk); (try clear hi); obtain ⟨hcz55_0, hcz55_1, hcz55_2, hcz55_3, hcz55_4, hcz55_5⟩ := sqC BK125.out; obtain ⟨hfz55_0, hfz55_1, hfz55_2, hfz55_3, hfz55_4, hfz55_5⟩ := sqF6 BK125.out; obtain ⟨hcz56_0, hcz56_1⟩ := sqC2 BK126.out; obtain ⟨hfz56_0, hfz56_1⟩ := sqF2 BK126.out) | ((with_reducible refine gate_callee (f := 77) rfl ?_); refine goesL_ (some 22) rfl rfl Try.func77 (by kernel_rfl) rfl #[.agg #[.int .i8 a2_0, .int .i8 a2_1], .int .i8 a3_1] rfl (by (try simp only [List.map_toArray, List.map_cons, List.map_nil]); first | done | rfl | (simp only [List.length_drop, List.length_take]; rfl)) ?_; (with_reducible refine (spec_l07Side.calls k a2_0 a2_1 a3_1 t129 t130 _ A7.out).mono ?_); rintro e w57 ⟨rfl, hb⟩; refine ⟨_, rfl, ?_⟩; replace BK123 := Aside0.mk (sqB BK123.out hb); replace BK124 := Aside0.mk (sqB BK124.out hb); replace BK125 := Aside0.mk (sqB BK125.out hb); replace BK126 := Aside0.mk (sqB BK126.out hb); replace BK127 := Aside0.mk (sqB BK127.out hb); replace HB := Aside0.mk (sqH HB.out hb); (try clear hb); (try clear hb2); (try clear hk); (try clear hi)) | ((with_reducible refine gate_dst (N := 10) rfl ?_); refine box_event ?hg (N := 10) ?hd (cs := #[.int .i8 0, .int .i8 0]) (t := 42) ?hr ?_; (case hd => rfl); (case hg => rfl); (case hr => first | (go_simp; done) | (go_simp; rfl)); intro gb131 hg w58 hbox hb; have BK131 := Aside0.mk (hbox); have GW131 := Aside0.mk (sqS HB.out hg); replace HB := Aside0.mk (sqH HB.out hb); have GE131 := GW131; have NB123_131 := Aside0.mk (sqN BK123.out hg); replace BK123 := Aside0.mk (sqB BK123.out hb); have NB131_123 := Aside0.mk (Ne.symm NB123_131.out); have NB124_131 := Aside0.mk (sqN BK124.out hg); replace BK124 := Aside0.mk (sqB BK124.out hb); have NB131_124 := Aside0.mk (Ne.symm NB124_131.out); have NB125_131 := Aside0.mk (sqN BK125.out hg); replace BK125 := Aside0.mk (sqB BK125.out hb); have NB131_125 := Aside0.mk (Ne.symm NB125_131.out); have NB126_131 := Aside0.mk (sqN BK126.out hg); replace BK126 := Aside0.mk (sqB BK126.out hb); have NB131_126 := Aside0.mk (Ne.symm NB126_131.out); have NB127_131 := Aside0.mk (sqN BK127.out hg); replace BK127 := Aside0.mk (sqB BK127.out hb); have NB131_127 := Aside0.mk (Ne.symm NB127_131.out); clear hb hbox hg; have hnb59 := NB131_123.out; have hnc59 := NB123_131.out; have hnb60 := NB131_124.out; have hnc60 := NB124_131.out; have hnb61 := NB131_125.out; have hnc61 := NB125_131.out; have hnb62 := NB131_126.out; have hnc62 := NB126_131.out; have hnb63 := NB131_127.out; have hnc63 := NB127_131.out; obtain ⟨hcz64_0, hcz64_1⟩ := sqC2 BK131.out; obtain ⟨hfz64_0, hfz64_1⟩ := sqF2 BK131.out) | ((with_reducible refine gate_callee (f := 64) rfl ?_); refine goesL_ (some 25) rfl rfl Try.func64 (by kernel_rfl) rfl #[.pointer (some ⟨gp0, 0, none⟩), .agg #[.int .i8 t129, .int .i8 t130]] rfl (by (try simp only [List.map_toArray, List.map_cons, List.map_nil]); first | done | rfl | (simp only [List.length_drop, List.length_take]; rfl)) ?_; (with_reducible refine (spec_l01Is.calls gp0 a0 t129 t130 true _ ?side1 A8.out).mono ?_); (case side1 => (with_reducible repeat (first | refine blk_drewN ?_ _ | refine blk_drew ?_ | refine blk_alloc ?_ _)); refine blk_far ?_ NB123_131.out _; (with_reducible repeat (first | refine blk_drewN ?_ _ | refine blk_drew ?_ | refine blk_alloc ?_ _)); refine blk_far ?_ NB123_131.out _; (with_reducible repeat (first | refine blk_drewN ?_ _ | refine blk_drew ?_ | refine blk_alloc ?_ _)); exact BK123.out); rintro e w65 ⟨rfl, hb⟩; refine ⟨_, rfl, ?_⟩; replace BK123 := Aside0.mk (blk_below (g := gp0) (o := .cells (a0).A 38 (0, 0)) (by (with_reducible repeat (first | refine blk_drewN ?_ _ | refine blk_drew ?_ | refine blk_alloc ?_ _)); refine blk_far ?_ NB123_131.out _; (with_reducible repeat (first | refine blk_drewN ?_ _ | refine blk_drew ?_ | refine blk_alloc ?_ _)); refine blk_far ?_ NB123_131.out _; (with_reducible repeat (first | refine blk_drewN ?_ _ | refine blk_drew ?_ | refine blk_alloc ?_ _)); exact BK123.out) hb); replace BK124 := Aside0.mk (blk_below (g := gp1) (o := .cells (a1).A 40 (0, 0)) (by (with_reducible repeat (first | refine blk_drewN ?_ _ | refine blk_drew ?_ | refine blk_alloc ?_ _)); refine blk_far ?_ NB124_131.out _; (with_reducible repeat (first | refine blk_drewN ?_ _ | refine blk_drew ?_ | refine blk_alloc ?_ _)); refine blk_far ?_ NB124_131.out _; (with_reducible repeat (first | refine blk_drewN ?_ _ | refine blk_drew ?_ | refine blk_alloc ?_ _)); exact BK124.out) hb); replace BK125 := Aside0.mk (blk_below (g := gb125) (o := .cells #[.int .i8 a2_0, .int .i8 a2_1, .int .i8 a2_2, .int .i8 a2_3, .int .i8 a2_4, .int .i8 a2_5] 44 (0, 0)) (by (with_reducible repeat (first | refine blk_drewN ?_ _ | refine blk_drew ?_ | refine blk_alloc ?_ _)); refine blk_far ?_ NB125_131.out _; (with_reducible repeat (first | refine blk_drewN ?_ _ | refine blk_drew ?_ | refine blk_alloc ?_ _)); refine blk_far ?_ NB125_131.out _; (with_reducible repeat (first | refine blk_drewN ?_ _ | refine blk_drew ?_ | refine blk_alloc ?_ _)); exact BK125.out) hb); replace BK126 := Aside0.mk (blk_below (g := gb126) (o := .cells #[.int .i8 a3_0, .int .i8 a3_1] 78 (0, 0)) (by (with_reducible repeat (first | refine blk_drewN ?_ _ | refine blk_drew ?_ | refine blk_alloc ?_ _)); refine blk_far ?_ NB126_131.out _; (with_reducible repeat (first | refine blk_drewN ?_ _ | refine blk_drew ?_ | refine blk_alloc ?_ _)); refine blk_far ?_ NB126_131.out _; (with_reducible repeat (first | refine blk_drewN ?_ _ | refine blk_drew ?_ | refine blk_alloc ?_ _)); exact BK126.out) hb); replace BK127 := Aside0.mk (blk_below (g := gb127) (o := .cells #[.int .i8 0, .int .i8 0, .int .i8 0, .int .i8 0, .int .i8 0, .int .i8 0] 44 (0, 0)) (by (with_reducible repeat (first | refine blk_drewN ?_ _ | refine blk_drew ?_ | refine blk_alloc ?_ _)); refine blk_far ?_ NB127_131.out _; (with_reducible repeat (first | refine blk_drewN ?_ _ | refine blk_drew ?_ | refine blk_alloc ?_ _)); refine blk_far ?_ NB127_131.out _; (with_reducible repeat (first | refine blk_drewN ?_ _ | refine blk_drew ?_ | refine blk_alloc ?_ _)); exact BK127.out) hb); replace BK131 := Aside0.mk (blk_below (g := gb131) (o := .cells #[.int .i8 t129, .int .i8 t130] 42 (0, 0)) (by (with_reducible repeat (first | refine blk_drewN ?_ _ | refine blk_drew ?_ | refine blk_alloc ?_ _)); refine blk_put (cs := #[.int .i8 t129, .int .i8 0]) ?_ 1 _ rfl; (with_reducible repeat (first | refine blk_drewN ?_ _ | refine blk_drew ?_ | refine blk_alloc ?_ _)); refine blk_put (cs := #[.int .i8 0, .int .i8 0]) ?_ 0 _ rfl; (with_reducible repeat (first | refine blk_drewN ?_ _ | refine blk_drew ?_ | refine blk_alloc ?_ _)); exact BK131.out) hb); replace HB := Aside0.mk (sqH HB.out hb); (try clear hb); (try clear hb2); (try clear hk); (try clear hi); obtain ⟨hcz66_0, hcz66_1⟩ := sqC2 BK131.out; obtain ⟨hfz66_0, hfz66_1⟩ := sqF2 BK131.out) | (go_at_call 73; (with_reducible refine (spec_l01Depth.calls gp0 a0 t129 t130 t133 _ ?side1 A10.out).mono ?_); (case side1 => (with_reducible repeat (first | refine blk_drewN ?_ _ | refine blk_drew ?_ | refine blk_alloc ?_ _)); exact BK123.out); rintro e w67 ⟨rfl, hb⟩; replace BK123 := Aside0.mk (sqB BK123.out hb); replace BK124 := Aside0.mk (sqB BK124.out hb); replace BK125 := Aside0.mk (sqB BK125.out hb); replace BK126 := Aside0.mk (sqB BK126.out hb); replace BK127 := Aside0.mk (sqB BK127.out hb); replace BK131 := Aside0.mk (sqB BK131.out hb); replace HB := Aside0.mk (sqH HB.out hb); (try clear hb); (try clear hb2); (try clear hk); (try clear hi); obtain ⟨hcz68_0, hcz68_1⟩ := sqC2 BK131.out; obtain ⟨hfz68_0, hfz68_1⟩ := sqF2 BK131.out; obtain ⟨hcz69_0, hcz69_1, hcz69_2, hcz69_3, hcz69_4, hcz69_5⟩ := sqC BK125.out; obtain ⟨hfz69_0, hfz69_1, hfz69_2, hfz69_3, hfz69_4, hfz69_5⟩ := sqF6 BK125.out; have hnb70 := NB127_123.out; have hnc70 := NB123_127.out; have hnb71 := NB127_124.out; have hnc71 := NB124_127.out; obtain ⟨hcz72_0, hcz72_1, hcz72_2, hcz72_3, hcz72_4, hcz72_5⟩ := sqC BK127.out; obtain ⟨hfz72_0, hfz72_1, hfz72_2, hfz72_3, hfz72_4, hfz72_5⟩ := sqF6 BK127.out))
    refine bodyPost_ret (results_ct rfl _ _ gb127 44 #[.int .i8 t129, .int .i8 t130, .int .i8 a2_2, .int .i8 a2_3, .int .i8 a2_4, .int .i8 a2_5] (0, 0) _ rfl (by (with_reducible repeat (first | refine blk_drewN ?_ _ | refine blk_drew ?_ | refine blk_alloc ?_ _)); refine blk_put (cs := #[.int .i8 t129, .int .i8 t130, .int .i8 a2_2, .int .i8 a2_3, .int .i8 a2_4, .int .i8 0]) ?_ 5 _ rfl; (with_reducible repeat (first | refine blk_drewN ?_ _ | refine blk_drew ?_ | refine blk_alloc ?_ _)); refine blk_put (cs := #[.int .i8 t129, .int .i8 t130, .int .i8 a2_2, .int .i8 a2_3, .int .i8 0, .int .i8 0]) ?_ 4 _ rfl; (with_reducible repeat (first | refine blk_drewN ?_ _ | refine blk_drew ?_ | refine blk_alloc ?_ _)); refine blk_put (cs := #[.int .i8 t129, .int .i8 t130, .int .i8 a2_2, .int .i8 0, .int .i8 0, .int .i8 0]) ?_ 3 _ rfl; (with_reducible repeat (first | refine blk_drewN ?_ _ | refine blk_drew ?_ | refine blk_alloc ?_ _)); refine blk_put (cs := #[.int .i8 t129, .int .i8 t130, .int .i8 0, .int .i8 0, .int .i8 0, .int .i8 0]) ?_ 2 _ rfl; (with_reducible repeat (first | refine blk_drewN ?_ _ | refine blk_drew ?_ | refine blk_alloc ?_ _)); refine blk_put (cs := #[.int .i8 t129, .int .i8 0, .int .i8 0, .int .i8 0, .int .i8 0, .int .i8 0]) ?_ 1 _ rfl; (with_reducible repeat (first | refine blk_drewN ?_ _ | refine blk_drew ?_ | refine blk_alloc ?_ _)); refine blk_put (cs := #[.int .i8 0, .int .i8 0, .int .i8 0, .int .i8 0, .int .i8 0, .int .i8 0]) ?_ 0 _ rfl; (with_reducible repeat (first | refine blk_drewN ?_ _ | refine blk_drew ?_ | refine blk_alloc ?_ _)); refine blk_far ?_ NB127_125.out _; (with_reducible repeat (first | refine blk_drewN ?_ _ | refine blk_drew ?_ | refine blk_alloc ?_ _)); refine blk_far ?_ NB127_125.out _; (with_reducible repeat (first | refine blk_drewN ?_ _ | refine blk_drew ?_ | refine blk_alloc ?_ _)); exact BK127.out) Try.underlying44 rfl (by kernel_rfl)) rfl ?_
    exact ⟨by first | rfl | (simp [errW_none, errW_some] <;> rfl) | (simp [*, errW_none, errW_some] <;> rfl), by repeat (first | (with_reducible first | exact HB.out | apply below_alloc | apply pw_below_drewN | apply below_drew1 | refine below_set ?_ GE123.out | refine below_set ?_ GE124.out | refine below_set ?_ GE125.out | refine below_set ?_ GE126.out | refine below_set ?_ GE127.out | refine below_set ?_ GE131.out) | exact HB.out)⟩
  ·replace c9 := Bool.eq_false_iff.mpr c9
   subst c9
   have H1 : (some (a2_0, a2_1, a2_2, a2_3, a2_4, a2_5, true)) = some (r1, r2, r3, r4, r5, r6, r7) := by rw [if_neg (show ¬ (false = true) by decide)] at H; exact H
   clear H
   have H := H1
   clear H1
   simp only [Option.some.injEq, Prod.mk.injEq] at H
   obtain ⟨rfl, rfl, rfl, rfl, rfl, rfl, rfl⟩ := H
   go_enter Try.func67, Try.ntmps67
   go_wp2_with (first | ((with_reducible refine gate_dst (N := 6) rfl ?_); refine box_event ?hg (N := 6) ?hd (cs := #[.int .i8 a2_0, .int .i8 a2_1, .int .i8 a2_2, .int .i8 a2_3, .int .i8 a2_4, .int .i8 a2_5]) (t := 44) ?hr ?_; (case hd => rfl); (case hg => rfl); (case hr => first | (go_simp; done) | (go_simp; rfl)); intro gb125 hg w73 hbox hb; have BK125 := Aside0.mk (hbox); have GW125 := Aside0.mk (sqS HB.out hg); replace HB := Aside0.mk (sqH HB.out hb); have GE125 := GW125; have NB123_125 := Aside0.mk (sqN BK123.out hg); replace BK123 := Aside0.mk (sqB BK123.out hb); have NB125_123 := Aside0.mk (Ne.symm NB123_125.out); have NB124_125 := Aside0.mk (sqN BK124.out hg); replace BK124 := Aside0.mk (sqB BK124.out hb); have NB125_124 := Aside0.mk (Ne.symm NB124_125.out); clear hb hbox hg) | ((with_reducible refine gate_dst (N := 7) rfl ?_); refine box_event ?hg (N := 7) ?hd (cs := #[.int .i8 a3_0, .int .i8 a3_1]) (t := 78) ?hr ?_; (case hd => rfl); (case hg => rfl); (case hr => first | (go_simp; done) | (go_simp; rfl)); intro gb126 hg w74 hbox hb; have BK126 := Aside0.mk (hbox); have GW126 := Aside0.mk (sqS HB.out hg); replace HB := Aside0.mk (sqH HB.out hb); have GE126 := GW126; have NB123_126 := Aside0.mk (sqN BK123.out hg); replace BK123 := Aside0.mk (sqB BK123.out hb); have NB126_123 := Aside0.mk (Ne.symm NB123_126.out); have NB124_126 := Aside0.mk (sqN BK124.out hg); replace BK124 := Aside0.mk (sqB BK124.out hb); have NB126_124 := Aside0.mk (Ne.symm NB124_126.out); have NB125_126 := Aside0.mk (sqN BK125.out hg); replace BK125 := Aside0.mk (sqB BK125.out hb); have NB126_125 := Aside0.mk (Ne.symm NB125_126.out); clear hb hbox hg) | ((with_reducible refine gate_dst (N := 8) rfl ?_); refine box_event ?hg (N := 8) ?hd (cs := #[.int .i8 0, .int .i8 0, .int .i8 0, .int .i8 0, .int .i8 0, .int .i8 0]) (t := 44) ?hr ?_; (case hd => rfl); (case hg => rfl); (case hr => first | (go_simp; done) | (go_simp; rfl)); intro gb127 hg w75 hbox hb; have BK127 := Aside0.mk (hbox); have GW127 := Aside0.mk (sqS HB.out hg); replace HB := Aside0.mk (sqH HB.out hb); have GE127 := GW127; have NB123_127 := Aside0.mk (sqN BK123.out hg); replace BK123 := Aside0.mk (sqB BK123.out hb); have NB127_123 := Aside0.mk (Ne.symm NB123_127.out); have NB124_127 := Aside0.mk (sqN BK124.out hg); replace BK124 := Aside0.mk (sqB BK124.out hb); have NB127_124 := Aside0.mk (Ne.symm NB124_127.out); have NB125_127 := Aside0.mk (sqN BK125.out hg); replace BK125 := Aside0.mk (sqB BK125.out hb); have NB127_125 := Aside0.mk (Ne.symm NB125_127.out); have NB126_127 := Aside0.mk (sqN BK126.out hg); replace BK126 := Aside0.mk (sqB BK126.out hb); have NB127_126 := Aside0.mk (Ne.symm NB126_127.out); clear hb hbox hg; have hnb76 := NB125_123.out; have hnc76 := NB123_125.out; have hnb77 := NB125_124.out; have hnc77 := NB124_125.out; have hnb78 := NB125_126.out; have hnc78 := NB126_125.out; have hnb79 := NB125_127.out; have hnc79 := NB127_125.out; obtain ⟨hcz80_0, hcz80_1, hcz80_2, hcz80_3, hcz80_4, hcz80_5⟩ := sqC BK125.out; obtain ⟨hfz80_0, hfz80_1, hfz80_2, hfz80_3, hfz80_4, hfz80_5⟩ := sqF6 BK125.out; have hnb81 := NB126_123.out; have hnc81 := NB123_126.out; have hnb82 := NB126_124.out; have hnc82 := NB124_126.out; have hnb83 := NB126_127.out; have hnc83 := NB127_126.out; obtain ⟨hcz84_0, hcz84_1⟩ := sqC2 BK126.out; obtain ⟨hfz84_0, hfz84_1⟩ := sqF2 BK126.out) | ((with_reducible refine gate_callee (f := 66) rfl ?_); refine goesL_ (some 15) rfl rfl Try.func66 (by kernel_rfl) rfl #[.pointer (some ⟨gp0, 0, none⟩), .pointer (some ⟨gp1, 0, none⟩), .agg #[.int .i8 a2_0, .int .i8 a2_1, .int .i8 a2_2, .int .i8 a2_3, .int .i8 a2_4, .int .i8 a2_5], .agg #[.int .i8 a3_0, .int .i8 a3_1]] rfl (by (try simp only [List.map_toArray, List.map_cons, List.map_nil]); first | done | rfl | (simp only [List.length_drop, List.length_take]; rfl)) ?_; (with_reducible refine (spec_l07Drags.calls gp0 a0 gp1 a1 a2_0 a2_1 a2_2 a2_3 a2_4 a2_5 a3_0 a3_1 true _ ?side1 ?side2 A5.out).mono ?_); (case side1 => (with_reducible repeat (first | refine blk_drewN ?_ _ | refine blk_drew ?_ | refine blk_alloc ?_ _)); exact BK123.out); (case side2 => (with_reducible repeat (first | refine blk_drewN ?_ _ | refine blk_drew ?_ | refine blk_alloc ?_ _)); exact BK124.out); rintro e w85 ⟨rfl, hb⟩; refine ⟨_, rfl, ?_⟩; replace BK123 := Aside0.mk (sqB BK123.out hb); replace BK124 := Aside0.mk (sqB BK124.out hb); replace BK125 := Aside0.mk (sqB BK125.out hb); replace BK126 := Aside0.mk (sqB BK126.out hb); replace BK127 := Aside0.mk (sqB BK127.out hb); replace HB := Aside0.mk (sqH HB.out hb); (try clear hb); (try clear hb2); (try clear hk); (try clear hi); obtain ⟨hcz86_0, hcz86_1, hcz86_2, hcz86_3, hcz86_4, hcz86_5⟩ := sqC BK125.out; obtain ⟨hfz86_0, hfz86_1, hfz86_2, hfz86_3, hfz86_4, hfz86_5⟩ := sqF6 BK125.out; obtain ⟨hcz87_0, hcz87_1⟩ := sqC2 BK126.out; obtain ⟨hfz87_0, hfz87_1⟩ := sqF2 BK126.out) | ((with_reducible refine gate_callee (f := 77) rfl ?_); refine goesL_ (some 22) rfl rfl Try.func77 (by kernel_rfl) rfl #[.agg #[.int .i8 a2_0, .int .i8 a2_1], .int .i8 a3_1] rfl (by (try simp only [List.map_toArray, List.map_cons, List.map_nil]); first | done | rfl | (simp only [List.length_drop, List.length_take]; rfl)) ?_; (with_reducible refine (spec_l07Side.calls k a2_0 a2_1 a3_1 t129 t130 _ A7.out).mono ?_); rintro e w88 ⟨rfl, hb⟩; refine ⟨_, rfl, ?_⟩; replace BK123 := Aside0.mk (sqB BK123.out hb); replace BK124 := Aside0.mk (sqB BK124.out hb); replace BK125 := Aside0.mk (sqB BK125.out hb); replace BK126 := Aside0.mk (sqB BK126.out hb); replace BK127 := Aside0.mk (sqB BK127.out hb); replace HB := Aside0.mk (sqH HB.out hb); (try clear hb); (try clear hb2); (try clear hk); (try clear hi)) | ((with_reducible refine gate_dst (N := 10) rfl ?_); refine box_event ?hg (N := 10) ?hd (cs := #[.int .i8 0, .int .i8 0]) (t := 42) ?hr ?_; (case hd => rfl); (case hg => rfl); (case hr => first | (go_simp; done) | (go_simp; rfl)); intro gb131 hg w89 hbox hb; have BK131 := Aside0.mk (hbox); have GW131 := Aside0.mk (sqS HB.out hg); replace HB := Aside0.mk (sqH HB.out hb); have GE131 := GW131; have NB123_131 := Aside0.mk (sqN BK123.out hg); replace BK123 := Aside0.mk (sqB BK123.out hb); have NB131_123 := Aside0.mk (Ne.symm NB123_131.out); have NB124_131 := Aside0.mk (sqN BK124.out hg); replace BK124 := Aside0.mk (sqB BK124.out hb); have NB131_124 := Aside0.mk (Ne.symm NB124_131.out); have NB125_131 := Aside0.mk (sqN BK125.out hg); replace BK125 := Aside0.mk (sqB BK125.out hb); have NB131_125 := Aside0.mk (Ne.symm NB125_131.out); have NB126_131 := Aside0.mk (sqN BK126.out hg); replace BK126 := Aside0.mk (sqB BK126.out hb); have NB131_126 := Aside0.mk (Ne.symm NB126_131.out); have NB127_131 := Aside0.mk (sqN BK127.out hg); replace BK127 := Aside0.mk (sqB BK127.out hb); have NB131_127 := Aside0.mk (Ne.symm NB127_131.out); clear hb hbox hg; have hnb90 := NB131_123.out; have hnc90 := NB123_131.out; have hnb91 := NB131_124.out; have hnc91 := NB124_131.out; have hnb92 := NB131_125.out; have hnc92 := NB125_131.out; have hnb93 := NB131_126.out; have hnc93 := NB126_131.out; have hnb94 := NB131_127.out; have hnc94 := NB127_131.out; obtain ⟨hcz95_0, hcz95_1⟩ := sqC2 BK131.out; obtain ⟨hfz95_0, hfz95_1⟩ := sqF2 BK131.out) | ((with_reducible refine gate_callee (f := 64) rfl ?_); refine goesL_ (some 25) rfl rfl Try.func64 (by kernel_rfl) rfl #[.pointer (some ⟨gp0, 0, none⟩), .agg #[.int .i8 t129, .int .i8 t130]] rfl (by (try simp only [List.map_toArray, List.map_cons, List.map_nil]); first | done | rfl | (simp only [List.length_drop, List.length_take]; rfl)) ?_; (with_reducible refine (spec_l01Is.calls gp0 a0 t129 t130 false _ ?side1 A8.out).mono ?_); (case side1 => (with_reducible repeat (first | refine blk_drewN ?_ _ | refine blk_drew ?_ | refine blk_alloc ?_ _)); refine blk_far ?_ NB123_131.out _; (with_reducible repeat (first | refine blk_drewN ?_ _ | refine blk_drew ?_ | refine blk_alloc ?_ _)); refine blk_far ?_ NB123_131.out _; (with_reducible repeat (first | refine blk_drewN ?_ _ | refine blk_drew ?_ | refine blk_alloc ?_ _)); exact BK123.out); rintro e w96 ⟨rfl, hb⟩; refine ⟨_, rfl, ?_⟩; replace BK123 := Aside0.mk (blk_below (g := gp0) (o := .cells (a0).A 38 (0, 0)) (by (with_reducible repeat (first | refine blk_drewN ?_ _ | refine blk_drew ?_ | refine blk_alloc ?_ _)); refine blk_far ?_ NB123_131.out _; (with_reducible repeat (first | refine blk_drewN ?_ _ | refine blk_drew ?_ | refine blk_alloc ?_ _)); refine blk_far ?_ NB123_131.out _; (with_reducible repeat (first | refine blk_drewN ?_ _ | refine blk_drew ?_ | refine blk_alloc ?_ _)); exact BK123.out) hb); replace BK124 := Aside0.mk (blk_below (g := gp1) (o := .cells (a1).A 40 (0, 0)) (by (with_reducible repeat (first | refine blk_drewN ?_ _ | refine blk_drew ?_ | refine blk_alloc ?_ _)); refine blk_far ?_ NB124_131.out _; (with_reducible repeat (first | refine blk_drewN ?_ _ | refine blk_drew ?_ | refine blk_alloc ?_ _)); refine blk_far ?_ NB124_131.out _; (with_reducible repeat (first | refine blk_drewN ?_ _ | refine blk_drew ?_ | refine blk_alloc ?_ _)); exact BK124.out) hb); replace BK125 := Aside0.mk (blk_below (g := gb125) (o := .cells #[.int .i8 a2_0, .int .i8 a2_1, .int .i8 a2_2, .int .i8 a2_3, .int .i8 a2_4, .int .i8 a2_5] 44 (0, 0)) (by (with_reducible repeat (first | refine blk_drewN ?_ _ | refine blk_drew ?_ | refine blk_alloc ?_ _)); refine blk_far ?_ NB125_131.out _; (with_reducible repeat (first | refine blk_drewN ?_ _ | refine blk_drew ?_ | refine blk_alloc ?_ _)); refine blk_far ?_ NB125_131.out _; (with_reducible repeat (first | refine blk_drewN ?_ _ | refine blk_drew ?_ | refine blk_alloc ?_ _)); exact BK125.out) hb); replace BK126 := Aside0.mk (blk_below (g := gb126) (o := .cells #[.int .i8 a3_0, .int .i8 a3_1] 78 (0, 0)) (by (with_reducible repeat (first | refine blk_drewN ?_ _ | refine blk_drew ?_ | refine blk_alloc ?_ _)); refine blk_far ?_ NB126_131.out _; (with_reducible repeat (first | refine blk_drewN ?_ _ | refine blk_drew ?_ | refine blk_alloc ?_ _)); refine blk_far ?_ NB126_131.out _; (with_reducible repeat (first | refine blk_drewN ?_ _ | refine blk_drew ?_ | refine blk_alloc ?_ _)); exact BK126.out) hb); replace BK127 := Aside0.mk (blk_below (g := gb127) (o := .cells #[.int .i8 0, .int .i8 0, .int .i8 0, .int .i8 0, .int .i8 0, .int .i8 0] 44 (0, 0)) (by (with_reducible repeat (first | refine blk_drewN ?_ _ | refine blk_drew ?_ | refine blk_alloc ?_ _)); refine blk_far ?_ NB127_131.out _; (with_reducible repeat (first | refine blk_drewN ?_ _ | refine blk_drew ?_ | refine blk_alloc ?_ _)); refine blk_far ?_ NB127_131.out _; (with_reducible repeat (first | refine blk_drewN ?_ _ | refine blk_drew ?_ | refine blk_alloc ?_ _)); exact BK127.out) hb); replace BK131 := Aside0.mk (blk_below (g := gb131) (o := .cells #[.int .i8 t129, .int .i8 t130] 42 (0, 0)) (by (with_reducible repeat (first | refine blk_drewN ?_ _ | refine blk_drew ?_ | refine blk_alloc ?_ _)); refine blk_put (cs := #[.int .i8 t129, .int .i8 0]) ?_ 1 _ rfl; (with_reducible repeat (first | refine blk_drewN ?_ _ | refine blk_drew ?_ | refine blk_alloc ?_ _)); refine blk_put (cs := #[.int .i8 0, .int .i8 0]) ?_ 0 _ rfl; (with_reducible repeat (first | refine blk_drewN ?_ _ | refine blk_drew ?_ | refine blk_alloc ?_ _)); exact BK131.out) hb); replace HB := Aside0.mk (sqH HB.out hb); (try clear hb); (try clear hb2); (try clear hk); (try clear hi); obtain ⟨hcz97_0, hcz97_1, hcz97_2, hcz97_3, hcz97_4, hcz97_5⟩ := sqC BK125.out; obtain ⟨hfz97_0, hfz97_1, hfz97_2, hfz97_3, hfz97_4, hfz97_5⟩ := sqF6 BK125.out; have hnb98 := NB127_123.out; have hnc98 := NB123_127.out; have hnb99 := NB127_124.out; have hnc99 := NB124_127.out; obtain ⟨hcz100_0, hcz100_1, hcz100_2, hcz100_3, hcz100_4, hcz100_5⟩ := sqC BK127.out; obtain ⟨hfz100_0, hfz100_1, hfz100_2, hfz100_3, hfz100_4, hfz100_5⟩ := sqF6 BK127.out))
   refine bodyPost_ret (results_ct rfl _ _ gb127 44 #[.int .i8 a2_0, .int .i8 a2_1, .int .i8 a2_2, .int .i8 a2_3, .int .i8 a2_4, .int .i8 a2_5] (0, 0) _ rfl (by (with_reducible repeat (first | refine blk_drewN ?_ _ | refine blk_drew ?_ | refine blk_alloc ?_ _)); refine blk_put (cs := #[.int .i8 a2_0, .int .i8 a2_1, .int .i8 a2_2, .int .i8 a2_3, .int .i8 a2_4, .int .i8 0]) ?_ 5 _ rfl; (with_reducible repeat (first | refine blk_drewN ?_ _ | refine blk_drew ?_ | refine blk_alloc ?_ _)); refine blk_put (cs := #[.int .i8 a2_0, .int .i8 a2_1, .int .i8 a2_2, .int .i8 a2_3, .int .i8 0, .int .i8 0]) ?_ 4 _ rfl; (with_reducible repeat (first | refine blk_drewN ?_ _ | refine blk_drew ?_ | refine blk_alloc ?_ _)); refine blk_put (cs := #[.int .i8 a2_0, .int .i8 a2_1, .int .i8 a2_2, .int .i8 0, .int .i8 0, .int .i8 0]) ?_ 3 _ rfl; (with_reducible repeat (first | refine blk_drewN ?_ _ | refine blk_drew ?_ | refine blk_alloc ?_ _)); refine blk_put (cs := #[.int .i8 a2_0, .int .i8 a2_1, .int .i8 0, .int .i8 0, .int .i8 0, .int .i8 0]) ?_ 2 _ rfl; (with_reducible repeat (first | refine blk_drewN ?_ _ | refine blk_drew ?_ | refine blk_alloc ?_ _)); refine blk_put (cs := #[.int .i8 a2_0, .int .i8 0, .int .i8 0, .int .i8 0, .int .i8 0, .int .i8 0]) ?_ 1 _ rfl; (with_reducible repeat (first | refine blk_drewN ?_ _ | refine blk_drew ?_ | refine blk_alloc ?_ _)); refine blk_put (cs := #[.int .i8 0, .int .i8 0, .int .i8 0, .int .i8 0, .int .i8 0, .int .i8 0]) ?_ 0 _ rfl; (with_reducible repeat (first | refine blk_drewN ?_ _ | refine blk_drew ?_ | refine blk_alloc ?_ _)); exact BK127.out) Try.underlying44 rfl (by kernel_rfl)) rfl ?_
   exact ⟨by first | rfl | (simp [errW_none, errW_some] <;> rfl) | (simp [*, errW_none, errW_some] <;> rfl), by repeat (first | (with_reducible first | exact HB.out | apply below_alloc | apply pw_below_drewN | apply below_drew1 | refine below_set ?_ GE123.out | refine below_set ?_ GE124.out | refine below_set ?_ GE125.out | refine below_set ?_ GE126.out | refine below_set ?_ GE127.out | refine below_set ?_ GE131.out) | exact HB.out)⟩
 ·replace c6 := Bool.eq_false_iff.mpr c6
  subst c6
  have H1 : (some (a2_0, a2_1, a2_2, a2_3, a2_4, a2_5, false)) = some (r1, r2, r3, r4, r5, r6, r7) := by rw [if_neg (show ¬ (false = true) by decide)] at H; exact H
  clear H
  have H := H1
  clear H1
  simp only [Option.some.injEq, Prod.mk.injEq] at H
  obtain ⟨rfl, rfl, rfl, rfl, rfl, rfl, rfl⟩ := H
  go_enter Try.func67, Try.ntmps67
  go_wp2_with (first | ((with_reducible refine gate_dst (N := 6) rfl ?_); refine box_event ?hg (N := 6) ?hd (cs := #[.int .i8 a2_0, .int .i8 a2_1, .int .i8 a2_2, .int .i8 a2_3, .int .i8 a2_4, .int .i8 a2_5]) (t := 44) ?hr ?_; (case hd => rfl); (case hg => rfl); (case hr => first | (go_simp; done) | (go_simp; rfl)); intro gb125 hg w101 hbox hb; have BK125 := Aside0.mk (hbox); have GW125 := Aside0.mk (sqS HB.out hg); replace HB := Aside0.mk (sqH HB.out hb); have GE125 := GW125; have NB123_125 := Aside0.mk (sqN BK123.out hg); replace BK123 := Aside0.mk (sqB BK123.out hb); have NB125_123 := Aside0.mk (Ne.symm NB123_125.out); have NB124_125 := Aside0.mk (sqN BK124.out hg); replace BK124 := Aside0.mk (sqB BK124.out hb); have NB125_124 := Aside0.mk (Ne.symm NB124_125.out); clear hb hbox hg) | ((with_reducible refine gate_dst (N := 7) rfl ?_); refine box_event ?hg (N := 7) ?hd (cs := #[.int .i8 a3_0, .int .i8 a3_1]) (t := 78) ?hr ?_; (case hd => rfl); (case hg => rfl); (case hr => first | (go_simp; done) | (go_simp; rfl)); intro gb126 hg w102 hbox hb; have BK126 := Aside0.mk (hbox); have GW126 := Aside0.mk (sqS HB.out hg); replace HB := Aside0.mk (sqH HB.out hb); have GE126 := GW126; have NB123_126 := Aside0.mk (sqN BK123.out hg); replace BK123 := Aside0.mk (sqB BK123.out hb); have NB126_123 := Aside0.mk (Ne.symm NB123_126.out); have NB124_126 := Aside0.mk (sqN BK124.out hg); replace BK124 := Aside0.mk (sqB BK124.out hb); have NB126_124 := Aside0.mk (Ne.symm NB124_126.out); have NB125_126 := Aside0.mk (sqN BK125.out hg); replace BK125 := Aside0.mk (sqB BK125.out hb); have NB126_125 := Aside0.mk (Ne.symm NB125_126.out); clear hb hbox hg) | ((with_reducible refine gate_dst (N := 8) rfl ?_); refine box_event ?hg (N := 8) ?hd (cs := #[.int .i8 0, .int .i8 0, .int .i8 0, .int .i8 0, .int .i8 0, .int .i8 0]) (t := 44) ?hr ?_; (case hd => rfl); (case hg => rfl); (case hr => first | (go_simp; done) | (go_simp; rfl)); intro gb127 hg w103 hbox hb; have BK127 := Aside0.mk (hbox); have GW127 := Aside0.mk (sqS HB.out hg); replace HB := Aside0.mk (sqH HB.out hb); have GE127 := GW127; have NB123_127 := Aside0.mk (sqN BK123.out hg); replace BK123 := Aside0.mk (sqB BK123.out hb); have NB127_123 := Aside0.mk (Ne.symm NB123_127.out); have NB124_127 := Aside0.mk (sqN BK124.out hg); replace BK124 := Aside0.mk (sqB BK124.out hb); have NB127_124 := Aside0.mk (Ne.symm NB124_127.out); have NB125_127 := Aside0.mk (sqN BK125.out hg); replace BK125 := Aside0.mk (sqB BK125.out hb); have NB127_125 := Aside0.mk (Ne.symm NB125_127.out); have NB126_127 := Aside0.mk (sqN BK126.out hg); replace BK126 := Aside0.mk (sqB BK126.out hb); have NB127_126 := Aside0.mk (Ne.symm NB126_127.out); clear hb hbox hg; have hnb104 := NB125_123.out; have hnc104 := NB123_125.out; have hnb105 := NB125_124.out; have hnc105 := NB124_125.out; have hnb106 := NB125_126.out; have hnc106 := NB126_125.out; have hnb107 := NB125_127.out; have hnc107 := NB127_125.out; obtain ⟨hcz108_0, hcz108_1, hcz108_2, hcz108_3, hcz108_4, hcz108_5⟩ := sqC BK125.out; obtain ⟨hfz108_0, hfz108_1, hfz108_2, hfz108_3, hfz108_4, hfz108_5⟩ := sqF6 BK125.out; have hnb109 := NB126_123.out; have hnc109 := NB123_126.out; have hnb110 := NB126_124.out; have hnc110 := NB124_126.out; have hnb111 := NB126_127.out; have hnc111 := NB127_126.out; obtain ⟨hcz112_0, hcz112_1⟩ := sqC2 BK126.out; obtain ⟨hfz112_0, hfz112_1⟩ := sqF2 BK126.out) | ((with_reducible refine gate_callee (f := 66) rfl ?_); refine goesL_ (some 15) rfl rfl Try.func66 (by kernel_rfl) rfl #[.pointer (some ⟨gp0, 0, none⟩), .pointer (some ⟨gp1, 0, none⟩), .agg #[.int .i8 a2_0, .int .i8 a2_1, .int .i8 a2_2, .int .i8 a2_3, .int .i8 a2_4, .int .i8 a2_5], .agg #[.int .i8 a3_0, .int .i8 a3_1]] rfl (by (try simp only [List.map_toArray, List.map_cons, List.map_nil]); first | done | rfl | (simp only [List.length_drop, List.length_take]; rfl)) ?_; (with_reducible refine (spec_l07Drags.calls gp0 a0 gp1 a1 a2_0 a2_1 a2_2 a2_3 a2_4 a2_5 a3_0 a3_1 false _ ?side1 ?side2 A5.out).mono ?_); (case side1 => (with_reducible repeat (first | refine blk_drewN ?_ _ | refine blk_drew ?_ | refine blk_alloc ?_ _)); exact BK123.out); (case side2 => (with_reducible repeat (first | refine blk_drewN ?_ _ | refine blk_drew ?_ | refine blk_alloc ?_ _)); exact BK124.out); rintro e w113 ⟨rfl, hb⟩; refine ⟨_, rfl, ?_⟩; replace BK123 := Aside0.mk (sqB BK123.out hb); replace BK124 := Aside0.mk (sqB BK124.out hb); replace BK125 := Aside0.mk (sqB BK125.out hb); replace BK126 := Aside0.mk (sqB BK126.out hb); replace BK127 := Aside0.mk (sqB BK127.out hb); replace HB := Aside0.mk (sqH HB.out hb); (try clear hb); (try clear hb2); (try clear hk); (try clear hi); obtain ⟨hcz114_0, hcz114_1, hcz114_2, hcz114_3, hcz114_4, hcz114_5⟩ := sqC BK125.out; obtain ⟨hfz114_0, hfz114_1, hfz114_2, hfz114_3, hfz114_4, hfz114_5⟩ := sqF6 BK125.out; have hnb115 := NB127_123.out; have hnc115 := NB123_127.out; have hnb116 := NB127_124.out; have hnc116 := NB124_127.out; obtain ⟨hcz117_0, hcz117_1, hcz117_2, hcz117_3, hcz117_4, hcz117_5⟩ := sqC BK127.out; obtain ⟨hfz117_0, hfz117_1, hfz117_2, hfz117_3, hfz117_4, hfz117_5⟩ := sqF6 BK127.out))
  refine bodyPost_ret (results_ct rfl _ _ gb127 44 #[.int .i8 a2_0, .int .i8 a2_1, .int .i8 a2_2, .int .i8 a2_3, .int .i8 a2_4, .int .i8 a2_5] (0, 0) _ rfl (by (with_reducible repeat (first | refine blk_drewN ?_ _ | refine blk_drew ?_ | refine blk_alloc ?_ _)); refine blk_put (cs := #[.int .i8 a2_0, .int .i8 a2_1, .int .i8 a2_2, .int .i8 a2_3, .int .i8 a2_4, .int .i8 0]) ?_ 5 _ rfl; (with_reducible repeat (first | refine blk_drewN ?_ _ | refine blk_drew ?_ | refine blk_alloc ?_ _)); refine blk_put (cs := #[.int .i8 a2_0, .int .i8 a2_1, .int .i8 a2_2, .int .i8 a2_3, .int .i8 0, .int .i8 0]) ?_ 4 _ rfl; (with_reducible repeat (first | refine blk_drewN ?_ _ | refine blk_drew ?_ | refine blk_alloc ?_ _)); refine blk_put (cs := #[.int .i8 a2_0, .int .i8 a2_1, .int .i8 a2_2, .int .i8 0, .int .i8 0, .int .i8 0]) ?_ 3 _ rfl; (with_reducible repeat (first | refine blk_drewN ?_ _ | refine blk_drew ?_ | refine blk_alloc ?_ _)); refine blk_put (cs := #[.int .i8 a2_0, .int .i8 a2_1, .int .i8 0, .int .i8 0, .int .i8 0, .int .i8 0]) ?_ 2 _ rfl; (with_reducible repeat (first | refine blk_drewN ?_ _ | refine blk_drew ?_ | refine blk_alloc ?_ _)); refine blk_put (cs := #[.int .i8 a2_0, .int .i8 0, .int .i8 0, .int .i8 0, .int .i8 0, .int .i8 0]) ?_ 1 _ rfl; (with_reducible repeat (first | refine blk_drewN ?_ _ | refine blk_drew ?_ | refine blk_alloc ?_ _)); refine blk_put (cs := #[.int .i8 0, .int .i8 0, .int .i8 0, .int .i8 0, .int .i8 0, .int .i8 0]) ?_ 0 _ rfl; (with_reducible repeat (first | refine blk_drewN ?_ _ | refine blk_drew ?_ | refine blk_alloc ?_ _)); exact BK127.out) Try.underlying44 rfl (by kernel_rfl)) rfl ?_
  exact ⟨by first | rfl | (simp [errW_none, errW_some] <;> rfl) | (simp [*, errW_none, errW_some] <;> rfl), by repeat (first | (with_reducible first | exact HB.out | apply below_alloc | apply pw_below_drewN | apply below_drew1 | refine below_set ?_ GE123.out | refine below_set ?_ GE124.out | refine below_set ?_ GE125.out | refine below_set ?_ GE126.out | refine below_set ?_ GE127.out) | exact HB.out)⟩
end Go.Proofs.Ytmhmfhdmeedcfaa.G
end
section
namespace Go.Proofs.Ytmhmfhdmeedcfaa.G
open Go.RowKit Go.Proofs.YtmhmfhdmeedcfaaW.PrintWords Go.Proofs.YtmhmfhdmeedcfaaW.PrintLast Go.Proofs.YtmhmfhdmeedcfaaW.PrintMore
attribute [local go_sem] max2_int min2_int max_two min_two max_three min_three max_four min_four   -- for this text's walks alone
set_option linter.unusedVariables false
set_option linter.unusedSimpArgs false
def IsS72 (w0 W : World) (g : Nat) (f0 : Int) (f1 : Int) (f2 : Int) (f3 : Int) (f4 : Int) (f5 : Int) (f6 : Bool) (f7 : Int) (f8 : Int) (f9 : Value) : Prop := W.heap[g]? = some (.cells #[.int .i8 f0, .int .i8 f1, .int .i8 f2, .int .i8 f3, .int .i8 f4, .int .i8 f5, .bool f6, .int .i64 f7, .int .i64 f8, f9] 72 (0, 0)) ∧ w0.heap.size ≤ g
theorem IsS72.grown {w0 W : World} {g : Nat} {f0 : Int} {f1 : Int} {f2 : Int} {f3 : Int} {f4 : Int} {f5 : Int} {f6 : Bool} {f7 : Int} {f8 : Int} {f9 : Value} {W1 : World} {row : Option Nat} (h : IsS72 w0 W g f0 f1 f2 f3 f4 f5 f6 f7 f8 f9) (hw : W.grownBy W1 row) (hne : some g ≠ row) : IsS72 w0 W1 g f0 f1 f2 f3 f4 f5 f6 f7 f8 f9 := by
 obtain ⟨hb, hg⟩ := h
 exact ⟨blk_grown hb hw hne, hg⟩
theorem IsS72.kept {w0 W : World} {g : Nat} {f0 : Int} {f1 : Int} {f2 : Int} {f3 : Int} {f4 : Int} {f5 : Int} {f6 : Bool} {f7 : Int} {f8 : Int} {f9 : Value} {W1 : World} {S : Nat → Prop} (h : IsS72 w0 W g f0 f1 f2 f3 f4 f5 f6 f7 f8 f9) (hk : Kept W W1 S) (hne : ¬ S g) : IsS72 w0 W1 g f0 f1 f2 f3 f4 f5 f6 f7 f8 f9 := by
 obtain ⟨hb, hg⟩ := h
 exact ⟨blk_kept hb hk hne, hg⟩
theorem IsS72.below {w0 W : World} {g : Nat} {f0 : Int} {f1 : Int} {f2 : Int} {f3 : Int} {f4 : Int} {f5 : Int} {f6 : Bool} {f7 : Int} {f8 : Int} {f9 : Value} {W1 : World} (h : IsS72 w0 W g f0 f1 f2 f3 f4 f5 f6 f7 f8 f9) (hw : Below W.heap.size W W1) : IsS72 w0 W1 g f0 f1 f2 f3 f4 f5 f6 f7 f8 f9 := h.grown (grown_of_below hw none) (by simp)
theorem IsS72.alloc {w0 W : World} {g : Nat} {f0 : Int} {f1 : Int} {f2 : Int} {f3 : Int} {f4 : Int} {f5 : Int} {f6 : Bool} {f7 : Int} {f8 : Int} {f9 : Value} (h : IsS72 w0 W g f0 f1 f2 f3 f4 f5 f6 f7 f8 f9) (o : Obj) : IsS72 w0 (W.alloc o) g f0 f1 f2 f3 f4 f5 f6 f7 f8 f9 := h.below (below_alloc (Below.refl _ _) o)
theorem IsS72.drewN {w0 W : World} {g : Nat} {f0 : Int} {f1 : Int} {f2 : Int} {f3 : Int} {f4 : Int} {f5 : Int} {f6 : Bool} {f7 : Int} {f8 : Int} {f9 : Value} (h : IsS72 w0 W g f0 f1 f2 f3 f4 f5 f6 f7 f8 f9) (m : Nat) : IsS72 w0 (W.drewN m) g f0 f1 f2 f3 f4 f5 f6 f7 f8 f9 := h
theorem IsS72.drew {w0 W : World} {g : Nat} {f0 : Int} {f1 : Int} {f2 : Int} {f3 : Int} {f4 : Int} {f5 : Int} {f6 : Bool} {f7 : Int} {f8 : Int} {f9 : Value} (h : IsS72 w0 W g f0 f1 f2 f3 f4 f5 f6 f7 f8 f9) : IsS72 w0 W.drew g f0 f1 f2 f3 f4 f5 f6 f7 f8 f9 := h
theorem IsS72.at_ {w0 W : World} {g : Nat} {f0 : Int} {f1 : Int} {f2 : Int} {f3 : Int} {f4 : Int} {f5 : Int} {f6 : Bool} {f7 : Int} {f8 : Int} {f9 : Value} {w' : World} {m : Nat} (hq : W.drewN m = w') (h : IsS72 w0 W g f0 f1 f2 f3 f4 f5 f6 f7 f8 f9) : IsS72 w0 w' g f0 f1 f2 f3 f4 f5 f6 f7 f8 f9 := by subst hq; exact IsS72.drewN h m
theorem IsS72.apart {w0 W : World} {g : Nat} {f0 : Int} {f1 : Int} {f2 : Int} {f3 : Int} {f4 : Int} {f5 : Int} {f6 : Bool} {f7 : Int} {f8 : Int} {f9 : Value} {α : Type} {d : Kd α} {e : Nat} {base : Nat} {ok : Nat → Prop} {v : Value} {xs : List α} (h : IsS72 w0 W g f0 f1 f2 f3 f4 f5 f6 f7 f8 f9) (ho : d.R e W base ok v xs) (ht : ∀ q, q ∈ e :: d.E → q ≠ 72) : d.R e W base (fun k => ok k ∧ k ≠ g) v xs := by
 obtain ⟨hb, hg⟩ := h
 exact Kd.R_types ho hb ht
theorem IsS72.own_ne {w0 W : World} {g : Nat} {f0 : Int} {f1 : Int} {f2 : Int} {f3 : Int} {f4 : Int} {f5 : Int} {f6 : Bool} {f7 : Int} {f8 : Int} {f9 : Value} {α : Type} {d : Kd α} {e : Nat} {base : Nat} {ok : Nat → Prop} {v : Value} {xs : List α} (h : IsS72 w0 W g f0 f1 f2 f3 f4 f5 f6 f7 f8 f9) (ho : d.R e W base ok v xs) (ht : e ≠ 72) : some g ≠ v.ownBlock := by
 obtain ⟨hb, hg⟩ := h
 exact Kd.R_ne ho hb ht
theorem IsS72.lt {w0 W : World} {g : Nat} {f0 : Int} {f1 : Int} {f2 : Int} {f3 : Int} {f4 : Int} {f5 : Int} {f6 : Bool} {f7 : Int} {f8 : Int} {f9 : Value} (h : IsS72 w0 W g f0 f1 f2 f3 f4 f5 f6 f7 f8 f9) : g < W.heap.size := by
 obtain ⟨hb, hg⟩ := h
 exact blk_lt hb
theorem IsS72.ge {w0 W : World} {g : Nat} {f0 : Int} {f1 : Int} {f2 : Int} {f3 : Int} {f4 : Int} {f5 : Int} {f6 : Bool} {f7 : Int} {f8 : Int} {f9 : Value} (h : IsS72 w0 W g f0 f1 f2 f3 f4 f5 f6 f7 f8 f9) : w0.heap.size ≤ g := by
 obtain ⟨hb, hg⟩ := h
 exact hg
theorem IsS72.ne_blk {w0 W : World} {g : Nat} {f0 : Int} {f1 : Int} {f2 : Int} {f3 : Int} {f4 : Int} {f5 : Int} {f6 : Bool} {f7 : Int} {f8 : Int} {f9 : Value} {a : Nat} {cs : Array Value} {t : TypeId} {fr : Nat × Nat} (h : IsS72 w0 W g f0 f1 f2 f3 f4 f5 f6 f7 f8 f9) (hb2 : W.heap[a]? = some (.cells cs t fr)) (ht : t ≠ 72) : g ≠ a := by
 obtain ⟨hb, hg⟩ := h
 rintro rfl
 rw [hb] at hb2
 injection hb2 with hb2
 injection hb2 with _ ht2
 exact ht ht2.symm
theorem IsS72.far {w0 W : World} {g : Nat} {f0 : Int} {f1 : Int} {f2 : Int} {f3 : Int} {f4 : Int} {f5 : Int} {f6 : Bool} {f7 : Int} {f8 : Int} {f9 : Value} {p : Addr} (h : IsS72 w0 W g f0 f1 f2 f3 f4 f5 f6 f7 f8 f9) (hne : g ≠ p.block) (u : Value) : IsS72 w0 (W.setCell p u) g f0 f1 f2 f3 f4 f5 f6 f7 f8 f9 := by
 obtain ⟨hb, hg⟩ := h
 exact ⟨blk_far hb hne u, hg⟩
theorem cellS72_0 {W : World} {g : Nat} {f0 : Int} {f1 : Int} {f2 : Int} {f3 : Int} {f4 : Int} {f5 : Int} {f6 : Bool} {f7 : Int} {f8 : Int} {f9 : Value} (h : W.heap[g]? = some (.cells #[.int .i8 f0, .int .i8 f1, .int .i8 f2, .int .i8 f3, .int .i8 f4, .int .i8 f5, .bool f6, .int .i64 f7, .int .i64 f8, f9] 72 (0, 0))) : W.cell? ⟨g, 0, none⟩ = some (.int .i8 f0) := (blk_cell h 0).trans rfl
theorem IsS72.set_0 {w0 W : World} {g : Nat} {f0 : Int} {f1 : Int} {f2 : Int} {f3 : Int} {f4 : Int} {f5 : Int} {f6 : Bool} {f7 : Int} {f8 : Int} {f9 : Value} (h : IsS72 w0 W g f0 f1 f2 f3 f4 f5 f6 f7 f8 f9) (x : Int) : IsS72 w0 (W.setCell ⟨g, 0, none⟩ (.int .i8 x)) g x f1 f2 f3 f4 f5 f6 f7 f8 f9 := by
 obtain ⟨hb, hg⟩ := h
 exact ⟨by simpa using blk_set hb 0 (.int .i8 x), hg⟩
theorem cellS72_1 {W : World} {g : Nat} {f0 : Int} {f1 : Int} {f2 : Int} {f3 : Int} {f4 : Int} {f5 : Int} {f6 : Bool} {f7 : Int} {f8 : Int} {f9 : Value} (h : W.heap[g]? = some (.cells #[.int .i8 f0, .int .i8 f1, .int .i8 f2, .int .i8 f3, .int .i8 f4, .int .i8 f5, .bool f6, .int .i64 f7, .int .i64 f8, f9] 72 (0, 0))) : W.cell? ⟨g, 1, none⟩ = some (.int .i8 f1) := (blk_cell h 1).trans rfl
theorem IsS72.set_1 {w0 W : World} {g : Nat} {f0 : Int} {f1 : Int} {f2 : Int} {f3 : Int} {f4 : Int} {f5 : Int} {f6 : Bool} {f7 : Int} {f8 : Int} {f9 : Value} (h : IsS72 w0 W g f0 f1 f2 f3 f4 f5 f6 f7 f8 f9) (x : Int) : IsS72 w0 (W.setCell ⟨g, 1, none⟩ (.int .i8 x)) g f0 x f2 f3 f4 f5 f6 f7 f8 f9 := by
 obtain ⟨hb, hg⟩ := h
 exact ⟨by simpa using blk_set hb 1 (.int .i8 x), hg⟩
theorem cellS72_2 {W : World} {g : Nat} {f0 : Int} {f1 : Int} {f2 : Int} {f3 : Int} {f4 : Int} {f5 : Int} {f6 : Bool} {f7 : Int} {f8 : Int} {f9 : Value} (h : W.heap[g]? = some (.cells #[.int .i8 f0, .int .i8 f1, .int .i8 f2, .int .i8 f3, .int .i8 f4, .int .i8 f5, .bool f6, .int .i64 f7, .int .i64 f8, f9] 72 (0, 0))) : W.cell? ⟨g, 2, none⟩ = some (.int .i8 f2) := (blk_cell h 2).trans rfl
theorem IsS72.set_2 {w0 W : World} {g : Nat} {f0 : Int} {f1 : Int} {f2 : Int} {f3 : Int} {f4 : Int} {f5 : Int} {f6 : Bool} {f7 : Int} {f8 : Int} {f9 : Value} (h : IsS72 w0 W g f0 f1 f2 f3 f4 f5 f6 f7 f8 f9) (x : Int) : IsS72 w0 (W.setCell ⟨g, 2, none⟩ (.int .i8 x)) g f0 f1 x f3 f4 f5 f6 f7 f8 f9 := by
 obtain ⟨hb, hg⟩ := h
 exact ⟨by simpa using blk_set hb 2 (.int .i8 x), hg⟩
theorem cellS72_3 {W : World} {g : Nat} {f0 : Int} {f1 : Int} {f2 : Int} {f3 : Int} {f4 : Int} {f5 : Int} {f6 : Bool} {f7 : Int} {f8 : Int} {f9 : Value} (h : W.heap[g]? = some (.cells #[.int .i8 f0, .int .i8 f1, .int .i8 f2, .int .i8 f3, .int .i8 f4, .int .i8 f5, .bool f6, .int .i64 f7, .int .i64 f8, f9] 72 (0, 0))) : W.cell? ⟨g, 3, none⟩ = some (.int .i8 f3) := (blk_cell h 3).trans rfl
theorem IsS72.set_3 {w0 W : World} {g : Nat} {f0 : Int} {f1 : Int} {f2 : Int} {f3 : Int} {f4 : Int} {f5 : Int} {f6 : Bool} {f7 : Int} {f8 : Int} {f9 : Value} (h : IsS72 w0 W g f0 f1 f2 f3 f4 f5 f6 f7 f8 f9) (x : Int) : IsS72 w0 (W.setCell ⟨g, 3, none⟩ (.int .i8 x)) g f0 f1 f2 x f4 f5 f6 f7 f8 f9 := by
 obtain ⟨hb, hg⟩ := h
 exact ⟨by simpa using blk_set hb 3 (.int .i8 x), hg⟩
theorem cellS72_4 {W : World} {g : Nat} {f0 : Int} {f1 : Int} {f2 : Int} {f3 : Int} {f4 : Int} {f5 : Int} {f6 : Bool} {f7 : Int} {f8 : Int} {f9 : Value} (h : W.heap[g]? = some (.cells #[.int .i8 f0, .int .i8 f1, .int .i8 f2, .int .i8 f3, .int .i8 f4, .int .i8 f5, .bool f6, .int .i64 f7, .int .i64 f8, f9] 72 (0, 0))) : W.cell? ⟨g, 4, none⟩ = some (.int .i8 f4) := (blk_cell h 4).trans rfl
theorem IsS72.set_4 {w0 W : World} {g : Nat} {f0 : Int} {f1 : Int} {f2 : Int} {f3 : Int} {f4 : Int} {f5 : Int} {f6 : Bool} {f7 : Int} {f8 : Int} {f9 : Value} (h : IsS72 w0 W g f0 f1 f2 f3 f4 f5 f6 f7 f8 f9) (x : Int) : IsS72 w0 (W.setCell ⟨g, 4, none⟩ (.int .i8 x)) g f0 f1 f2 f3 x f5 f6 f7 f8 f9 := by
 obtain ⟨hb, hg⟩ := h
 exact ⟨by simpa using blk_set hb 4 (.int .i8 x), hg⟩
theorem cellS72_5 {W : World} {g : Nat} {f0 : Int} {f1 : Int} {f2 : Int} {f3 : Int} {f4 : Int} {f5 : Int} {f6 : Bool} {f7 : Int} {f8 : Int} {f9 : Value} (h : W.heap[g]? = some (.cells #[.int .i8 f0, .int .i8 f1, .int .i8 f2, .int .i8 f3, .int .i8 f4, .int .i8 f5, .bool f6, .int .i64 f7, .int .i64 f8, f9] 72 (0, 0))) : W.cell? ⟨g, 5, none⟩ = some (.int .i8 f5) := (blk_cell h 5).trans rfl
theorem IsS72.set_5 {w0 W : World} {g : Nat} {f0 : Int} {f1 : Int} {f2 : Int} {f3 : Int} {f4 : Int} {f5 : Int} {f6 : Bool} {f7 : Int} {f8 : Int} {f9 : Value} (h : IsS72 w0 W g f0 f1 f2 f3 f4 f5 f6 f7 f8 f9) (x : Int) : IsS72 w0 (W.setCell ⟨g, 5, none⟩ (.int .i8 x)) g f0 f1 f2 f3 f4 x f6 f7 f8 f9 := by
 obtain ⟨hb, hg⟩ := h
 exact ⟨by simpa using blk_set hb 5 (.int .i8 x), hg⟩
theorem cellS72_6 {W : World} {g : Nat} {f0 : Int} {f1 : Int} {f2 : Int} {f3 : Int} {f4 : Int} {f5 : Int} {f6 : Bool} {f7 : Int} {f8 : Int} {f9 : Value} (h : W.heap[g]? = some (.cells #[.int .i8 f0, .int .i8 f1, .int .i8 f2, .int .i8 f3, .int .i8 f4, .int .i8 f5, .bool f6, .int .i64 f7, .int .i64 f8, f9] 72 (0, 0))) : W.cell? ⟨g, 6, none⟩ = some (.bool f6) := (blk_cell h 6).trans rfl
theorem IsS72.set_6 {w0 W : World} {g : Nat} {f0 : Int} {f1 : Int} {f2 : Int} {f3 : Int} {f4 : Int} {f5 : Int} {f6 : Bool} {f7 : Int} {f8 : Int} {f9 : Value} (h : IsS72 w0 W g f0 f1 f2 f3 f4 f5 f6 f7 f8 f9) (x : Bool) : IsS72 w0 (W.setCell ⟨g, 6, none⟩ (.bool x)) g f0 f1 f2 f3 f4 f5 x f7 f8 f9 := by
 obtain ⟨hb, hg⟩ := h
 exact ⟨by simpa using blk_set hb 6 (.bool x), hg⟩
theorem cellS72_7 {W : World} {g : Nat} {f0 : Int} {f1 : Int} {f2 : Int} {f3 : Int} {f4 : Int} {f5 : Int} {f6 : Bool} {f7 : Int} {f8 : Int} {f9 : Value} (h : W.heap[g]? = some (.cells #[.int .i8 f0, .int .i8 f1, .int .i8 f2, .int .i8 f3, .int .i8 f4, .int .i8 f5, .bool f6, .int .i64 f7, .int .i64 f8, f9] 72 (0, 0))) : W.cell? ⟨g, 7, none⟩ = some (.int .i64 f7) := (blk_cell h 7).trans rfl
theorem IsS72.set_7 {w0 W : World} {g : Nat} {f0 : Int} {f1 : Int} {f2 : Int} {f3 : Int} {f4 : Int} {f5 : Int} {f6 : Bool} {f7 : Int} {f8 : Int} {f9 : Value} (h : IsS72 w0 W g f0 f1 f2 f3 f4 f5 f6 f7 f8 f9) (x : Int) : IsS72 w0 (W.setCell ⟨g, 7, none⟩ (.int .i64 x)) g f0 f1 f2 f3 f4 f5 f6 x f8 f9 := by
 obtain ⟨hb, hg⟩ := h
 exact ⟨by simpa using blk_set hb 7 (.int .i64 x), hg⟩
theorem cellS72_8 {W : World} {g : Nat} {f0 : Int} {f1 : Int} {f2 : Int} {f3 : Int} {f4 : Int} {f5 : Int} {f6 : Bool} {f7 : Int} {f8 : Int} {f9 : Value} (h : W.heap[g]? = some (.cells #[.int .i8 f0, .int .i8 f1, .int .i8 f2, .int .i8 f3, .int .i8 f4, .int .i8 f5, .bool f6, .int .i64 f7, .int .i64 f8, f9] 72 (0, 0))) : W.cell? ⟨g, 8, none⟩ = some (.int .i64 f8) := (blk_cell h 8).trans rfl
theorem IsS72.set_8 {w0 W : World} {g : Nat} {f0 : Int} {f1 : Int} {f2 : Int} {f3 : Int} {f4 : Int} {f5 : Int} {f6 : Bool} {f7 : Int} {f8 : Int} {f9 : Value} (h : IsS72 w0 W g f0 f1 f2 f3 f4 f5 f6 f7 f8 f9) (x : Int) : IsS72 w0 (W.setCell ⟨g, 8, none⟩ (.int .i64 x)) g f0 f1 f2 f3 f4 f5 f6 f7 x f9 := by
 obtain ⟨hb, hg⟩ := h
 exact ⟨by simpa using blk_set hb 8 (.int .i64 x), hg⟩
theorem cellS72_9 {W : World} {g : Nat} {f0 : Int} {f1 : Int} {f2 : Int} {f3 : Int} {f4 : Int} {f5 : Int} {f6 : Bool} {f7 : Int} {f8 : Int} {f9 : Value} (h : W.heap[g]? = some (.cells #[.int .i8 f0, .int .i8 f1, .int .i8 f2, .int .i8 f3, .int .i8 f4, .int .i8 f5, .bool f6, .int .i64 f7, .int .i64 f8, f9] 72 (0, 0))) : W.cell? ⟨g, 9, none⟩ = some (f9) := (blk_cell h 9).trans rfl
theorem IsS72.set_9 {w0 W : World} {g : Nat} {f0 : Int} {f1 : Int} {f2 : Int} {f3 : Int} {f4 : Int} {f5 : Int} {f6 : Bool} {f7 : Int} {f8 : Int} {f9 : Value} (h : IsS72 w0 W g f0 f1 f2 f3 f4 f5 f6 f7 f8 f9) (x : Value) : IsS72 w0 (W.setCell ⟨g, 9, none⟩ x) g f0 f1 f2 f3 f4 f5 f6 f7 f8 x := by
 obtain ⟨hb, hg⟩ := h
 exact ⟨by simpa using blk_set hb 9 x, hg⟩
mutual
def spec_l07Drift_hour.j0 : Nat → Int → Bool → Int → Int → Int → Int → Int → Int → Bool → Int → Int → Value → O38 → O40 → Int → Int → Option (Int × Int × Int × Int × Int × Int × Bool × Int × Int)
 | 0, _, _, _, _, _, _, _, _, _, _, _, _, _, _, _, _ => none
 | k + 1, x4, x26, x1000, x1001, x1002, x1003, x1004, x1005, x1006, x1007, x1008, x1009, x135000, x136000, x137000, x137001 => if x26 = true then (if x1007 < 0 then (spec_l07Drift_hour.j1 k x4 x1000 x1001 x1002 x1003 x1004 x1005 x1006 x4 x1008 x1009 x135000 x136000 x137000 x137001) else (spec_l07Drift_hour.j1 k x4 x1000 x1001 x1002 x1003 x1004 x1005 x1006 x1007 x1008 x1009 x135000 x136000 x137000 x137001)) else (spec_l07Drift_hour.j3 k x1000 x1001 x1002 x1003 x1004 x1005 x1006 x1007 x1008 x1009)
def spec_l07Drift_hour.j3 : Nat → Int → Int → Int → Int → Int → Int → Bool → Int → Int → Value → Option (Int × Int × Int × Int × Int × Int × Bool × Int × Int)
 | 0, _, _, _, _, _, _, _, _, _, _ => none
 | k + 1, x1000, x1001, x1002, x1003, x1004, x1005, x1006, x1007, x1008, x1009 => some (x1000, x1001, x1002, x1003, x1004, x1005, x1006, x1007, x1008)
def spec_l07Drift_hour.j1 : Nat → Int → Int → Int → Int → Int → Int → Int → Bool → Int → Int → Value → O38 → O40 → Int → Int → Option (Int × Int × Int × Int × Int × Int × Bool × Int × Int)
 | 0, _, _, _, _, _, _, _, _, _, _, _, _, _, _, _ => none
 | k + 1, x4, x1000, x1001, x1002, x1003, x1004, x1005, x1006, x1007, x1008, x1009, x135000, x136000, x137000, x137001 => (spec_l07Once.f k x135000 x136000 x1000 x1001 x1002 x1003 x1004 x1005 x137000 x137001).bind fun bt138 => (if bt138.2.2.2.2.2.2 = true then (spec_l07Drift_hour.j2 k bt138.1 bt138.2.1 bt138.2.2.1 bt138.2.2.2.1 bt138.2.2.2.2.1 bt138.2.2.2.2.2.1 bt138.2.2.2.2.2.2 x1007 x4 x1009) else (spec_l07Drift_hour.j2 k bt138.1 bt138.2.1 bt138.2.2.1 bt138.2.2.2.1 bt138.2.2.2.2.1 bt138.2.2.2.2.2.1 bt138.2.2.2.2.2.2 x1007 x1008 x1009))
def spec_l07Drift_hour.j2 : Nat → Int → Int → Int → Int → Int → Int → Bool → Int → Int → Value → Option (Int × Int × Int × Int × Int × Int × Bool × Int × Int)
 | 0, _, _, _, _, _, _, _, _, _, _ => none
 | k + 1, x1000, x1001, x1002, x1003, x1004, x1005, x1006, x1007, x1008, x1009 => spec_l07Drift_hour.j3 k x1000 x1001 x1002 x1003 x1004 x1005 x1006 x1007 x1008 x1009
end
def spec_l07Drift_hour.f (k : Nat) (s0_0 : Int) (s0_1 : Int) (s0_2 : Int) (s0_3 : Int) (s0_4 : Int) (s0_5 : Int) (s0_6 : Bool) (s0_7 : Int) (s0_8 : Int) (s0_9 : Value) (a1 : O38) (a2 : O40) (a3_0 : Int) (a3_1 : Int) (a4 : Int) : Option (Int × Int × Int × Int × Int × Int × Bool × Int × Int) := if s0_6 = true then (spec_l07Drift_hour.j0 k a4 false s0_0 s0_1 s0_2 s0_3 s0_4 s0_5 s0_6 s0_7 s0_8 s0_9 a1 a2 a3_0 a3_1) else ((spec_l07Drags.f a1 a2 s0_0 s0_1 s0_2 s0_3 s0_4 s0_5 a3_0 a3_1).bind fun t137 => (spec_l07Drift_hour.j0 k a4 t137 s0_0 s0_1 s0_2 s0_3 s0_4 s0_5 s0_6 s0_7 s0_8 s0_9 a1 a2 a3_0 a3_1))
def spec_l07Drift_hour.T1 : Bool × List (List Nat × List Nat) := (true, [([], []), ([0], [0]), ([1], [1]), ([2], [2]), ([3], [3]), ([4], [4]), ([5], [5]), ([5], [5]), ([5], [5]), ([8, 5], [5, 8]), ([9, 5], [5, 9]), ([10, 5], [5, 10]), ([5], [5]), ([6, 7, 11, 12, 5, 5], [5, 6, 7, 11, 12]), ([5, 13], [5, 13])])
def spec_l07Drift_hour.B1 : List Nat := [0, 1, 3, 7, 15, 31, 63, 63, 63, 319, 831, 1855, 63, 8191, 16383]
theorem spec_l07Drift_hour.tab1 : rtab .any (opsOf Try.f52 1) = spec_l07Drift_hour.T1 := by kernel_rfl
theorem spec_l07Drift_hour.bits1 : waitsOk spec_l07Drift_hour.T1.2 spec_l07Drift_hour.B1 = true := by kernel_rfl
def spec_l07Drift_hour.T4 : Bool × List (List Nat × List Nat) := (true, [([], []), ([], []), ([], []), ([2], [2]), ([3], [3]), ([4], [4]), ([], []), ([0, 1, 5, 6], [0, 1, 5, 6]), ([7], [7]), ([8], [8]), ([8], [8]), ([], []), ([11, 9, 7, 0, 1, 2, 3, 4, 5, 6, 7, 8, 9, 11], [9, 11]), ([10, 12, 0, 1, 2, 3, 4, 5, 6, 7, 8, 9, 10, 11, 12], [10])])
def spec_l07Drift_hour.B4 : List Nat := [0, 0, 0, 4, 12, 28, 0, 127, 255, 511, 511, 0, 3071, 8191]
theorem spec_l07Drift_hour.tab4 : rtab .any (opsOf Try.f52 4) = spec_l07Drift_hour.T4 := by kernel_rfl
theorem spec_l07Drift_hour.bits4 : waitsOk spec_l07Drift_hour.T4.2 spec_l07Drift_hour.B4 = true := by kernel_rfl
set_option maxHeartbeats 8000000 in
set_option maxRecDepth 100000 in
theorem spec_l07Drift_hour.calls (k : Nat) (g : Nat) (s0_0 : Int) (s0_1 : Int) (s0_2 : Int) (s0_3 : Int) (s0_4 : Int) (s0_5 : Int) (s0_6 : Bool) (s0_7 : Int) (s0_8 : Int) (s0_9 : Value) (gp1 : Nat) (a1 : O38) (gp2 : Nat) (a2 : O40) (a3_0 : Int) (a3_1 : Int) (a4 : Int) (r1 : Int) (r2 : Int) (r3 : Int) (r4 : Int) (r5 : Int) (r6 : Int) (r7 : Bool) (r8 : Int) (r9 : Int) (acc : List S42) (w0 w : World) (hO : Kd.R k42 42 w w0.heap.size (fun _ => True) s0_9 acc) (hlen : acc.length < 1000000) (hp1 : w.heap[gp1]? = some (.cells (a1).A 38 (0, 0))) (hp2 : w.heap[gp2]? = some (.cells (a2).A 40 (0, 0))) (hI : IsS72 w0 w g s0_0 s0_1 s0_2 s0_3 s0_4 s0_5 s0_6 s0_7 s0_8 s0_9) (hB : Below w0.heap.size w0 w) (h : spec_l07Drift_hour.f k s0_0 s0_1 s0_2 s0_3 s0_4 s0_5 s0_6 s0_7 s0_8 s0_9 a1 a2 a3_0 a3_1 a4 = some (r1, r2, r3, r4, r5, r6, r7, r8, r9)) :
  Calls Try.prog 52 #[.pointer (some ⟨g, 0, none⟩), .pointer (some ⟨gp1, 0, none⟩), .pointer (some ⟨gp2, 0, none⟩), .agg #[.int .i8 a3_0, .int .i8 a3_1], .int .i64 a4] w fun e w' => ∃ v_ : Value, e = .returned (.tuple #[]) ∧ IsS72 w0 w' g r1 r2 r3 r4 r5 r6 r7 r8 r9 v_ ∧ Kd.R k42 42 w' w0.heap.size (fun _ => True) v_ (acc ++ [(⟨r1, r2⟩ : S42)]) ∧ Below w0.heap.size w0 w' := by
 have HO0 := Aside0.mk (IsS72.apart hI hO (by decide))
 have HLN := Aside0.mk hlen
 clear hO hlen
 have hu78 := Try.underlying78
 have hu44 := Try.underlying44
 have hu42 := Try.underlying42
 have BK134 := Aside0.mk hp1
 clear hp1
 have BK135 := Aside0.mk hp2
 clear hp2
 have HI0 := Aside0.mk hI
 have HK := Aside0.mk (KeepBut.refl w g none)
 have HL := Aside0.mk hB.size
 clear hI
 have HW0 := Aside0.mk hB.size
 have HB := Aside0.mk hB
 clear hB
 have H : (if s0_6 = true then (spec_l07Drift_hour.j0 k a4 false s0_0 s0_1 s0_2 s0_3 s0_4 s0_5 s0_6 s0_7 s0_8 s0_9 a1 a2 a3_0 a3_1) else ((spec_l07Drags.f a1 a2 s0_0 s0_1 s0_2 s0_3 s0_4 s0_5 a3_0 a3_1).bind fun t137 => (spec_l07Drift_hour.j0 k a4 t137 s0_0 s0_1 s0_2 s0_3 s0_4 s0_5 s0_6 s0_7 s0_8 s0_9 a1 a2 a3_0 a3_1))) = some (r1, r2, r3, r4, r5, r6, r7, r8, r9) := h
 clear h
 have HC6 := Aside0.mk H
 clear H
 have NB0_134 := Aside0.mk (IsS72.ne_blk HI0.out BK134.out (by decide))
 have NB134_0 := Aside0.mk (Ne.symm NB0_134.out)
 have NB0_135 := Aside0.mk (IsS72.ne_blk HI0.out BK135.out (by decide))
 have NB135_0 := Aside0.mk (Ne.symm NB0_135.out)
 go_enter Try.func52, Try.ntmps52
 go_upto_region 1 with (first | ((with_reducible refine gate_dst (N := 8) rfl ?_); refine box_event ?hg (N := 8) ?hd (cs := #[.int .i8 a3_0, .int .i8 a3_1]) (t := 78) ?hr ?_; (case hd => rfl); (case hg => rfl); (case hr => first | (go_simp; done) | (go_simp; rfl)); intro gb136 hg w7 hbox hb; replace HB := Aside0.mk (below_step (by repeat (first | (with_reducible first | exact HB.out | apply below_alloc | apply pw_below_drewN | apply below_drew1 | refine below_set ?_ (IsS72.ge HI0.out) | refine below_set ?_ GE134.out | refine below_set ?_ GE135.out) | exact HB.out)) hb); have BK136 := Aside0.mk (hbox); have GW136 := Aside0.mk ((by rw [hg]; exact (keep_size (w := w) (g := g) (row := none) (by repeat (first | (with_reducible first | exact HK.out | apply KeepBut.set_ | apply keep_drewN | apply keep_drew | apply keep_alloc | refine keep_far ?_ GW134.out _ | refine keep_far ?_ GW135.out _) | exact HK.out))) : w.heap.size ≤ gb136)); have GE136 := Aside0.mk ((Nat.le_trans HW0.out (by rw [hg]; exact (keep_size (w := w) (g := g) (row := none) (by repeat (first | (with_reducible first | exact HK.out | apply KeepBut.set_ | apply keep_drewN | apply keep_drew | apply keep_alloc | refine keep_far ?_ GW134.out _ | refine keep_far ?_ GW135.out _) | exact HK.out))) : w.heap.size ≤ gb136) : w0.heap.size ≤ gb136)); replace HK := Aside0.mk (KeepBut.trans (by repeat (first | (with_reducible first | exact HK.out | apply KeepBut.set_ | apply keep_drewN | apply keep_drew | apply keep_alloc | refine keep_far ?_ GW134.out _ | refine keep_far ?_ GW135.out _) | exact HK.out)) (KeepBut.of_below hb g none) (.inl rfl)); have NB134_136 := Aside0.mk (sqN BK134.out hg); replace BK134 := Aside0.mk (sqB BK134.out hb); have NB136_134 := Aside0.mk (Ne.symm NB134_136.out); have NB135_136 := Aside0.mk (sqN BK135.out hg); replace BK135 := Aside0.mk (sqB BK135.out hb); have NB136_135 := Aside0.mk (Ne.symm NB135_136.out); have NB0_136 := Aside0.mk ((by rw [hg]; exact Nat.ne_of_lt (IsS72.lt (show IsS72 w0 _ g s0_0 s0_1 s0_2 s0_3 s0_4 s0_5 s0_6 s0_7 s0_8 s0_9 from by repeat (first | (with_reducible first | exact HI0.out | apply IsS72.alloc | apply IsS72.drewN | apply IsS72.drew | apply IsS72.set_0 | apply IsS72.set_1 | apply IsS72.set_2 | apply IsS72.set_3 | apply IsS72.set_4 | apply IsS72.set_5 | apply IsS72.set_6 | apply IsS72.set_7 | apply IsS72.set_8 | refine IsS72.far ?_ NB0_134.out _ | refine IsS72.far ?_ NB0_135.out _) | exact HI0.out))) : g ≠ gb136)); have NB136_0 := Aside0.mk ((by rw [hg]; exact Nat.ne_of_gt (IsS72.lt (show IsS72 w0 _ g s0_0 s0_1 s0_2 s0_3 s0_4 s0_5 s0_6 s0_7 s0_8 s0_9 from by repeat (first | (with_reducible first | exact HI0.out | apply IsS72.alloc | apply IsS72.drewN | apply IsS72.drew | apply IsS72.set_0 | apply IsS72.set_1 | apply IsS72.set_2 | apply IsS72.set_3 | apply IsS72.set_4 | apply IsS72.set_5 | apply IsS72.set_6 | apply IsS72.set_7 | apply IsS72.set_8 | refine IsS72.far ?_ NB0_134.out _ | refine IsS72.far ?_ NB0_135.out _) | exact HI0.out))) : gb136 ≠ g)); replace HI0 := Aside0.mk (IsS72.below (by repeat (first | (with_reducible first | exact HI0.out | apply IsS72.alloc | apply IsS72.drewN | apply IsS72.drew | apply IsS72.set_0 | apply IsS72.set_1 | apply IsS72.set_2 | apply IsS72.set_3 | apply IsS72.set_4 | apply IsS72.set_5 | apply IsS72.set_6 | apply IsS72.set_7 | apply IsS72.set_8 | refine IsS72.far ?_ NB0_134.out _ | refine IsS72.far ?_ NB0_135.out _) | exact HI0.out)) hb); clear hb hbox hg))
 (try simp only [Act.put, List.setIfInBounds_toArray, List.set_cons_zero, List.set_cons_succ])
 go_cut [26] (fun v26 wc => ∃ (kq : Nat) (x26_5 : Bool), v26 = .bool x26_5 ∧ Aside0 (spec_l07Drift_hour.j0 kq a4 x26_5 s0_0 s0_1 s0_2 s0_3 s0_4 s0_5 s0_6 s0_7 s0_8 s0_9 a1 a2 a3_0 a3_1 = some (r1, r2, r3, r4, r5, r6, r7, r8, r9)) ∧ Aside0 (kq ≤ k) ∧ Aside0 (wc.heap[gp1]? = some (.cells (a1).A 38 (0, 0))) ∧ Aside0 (wc.heap[gp2]? = some (.cells (a2).A 40 (0, 0))) ∧ Aside0 (wc.heap[gb136]? = some (.cells #[.int .i8 a3_0, .int .i8 a3_1] 78 (0, 0))) ∧ Aside0 (IsS72 w0 wc g s0_0 s0_1 s0_2 s0_3 s0_4 s0_5 s0_6 s0_7 s0_8 s0_9) ∧ Aside0 (KeepBut w wc g none) ∧ Aside0 (Below w0.heap.size w0 wc))
 case first =>
  have H := HC6.out
  clear HC6
  by_cases c8 : s0_6 = true
  ·subst c8
   have H1 : (spec_l07Drift_hour.j0 k a4 false s0_0 s0_1 s0_2 s0_3 s0_4 s0_5 true s0_7 s0_8 s0_9 a1 a2 a3_0 a3_1) = some (r1, r2, r3, r4, r5, r6, r7, r8, r9) := by rw [if_pos rfl] at H; exact H
   clear H
   have H := H1
   clear H1
   have H' := Aside0.mk H
   clear H
   try go_wp2
   replace BK134 := Aside0.mk (blk_drew BK134.out)
   replace BK135 := Aside0.mk (blk_drew BK135.out)
   replace BK136 := Aside0.mk (blk_drew BK136.out)
   replace HI0 := Aside0.mk (IsS72.drew HI0.out)
   replace HK := Aside0.mk (keep_drew HK.out)
   replace HB := Aside0.mk (below_drew1 HB.out)
   refine start_ (n := 15) (S := fun w' => w'.cell? ⟨g, 0, none⟩ = some (.int .i8 s0_0) ∧ w'.cell? ⟨g, 1, none⟩ = some (.int .i8 s0_1) ∧ w'.cell? ⟨g, 2, none⟩ = some (.int .i8 s0_2) ∧ w'.cell? ⟨g, 3, none⟩ = some (.int .i8 s0_3) ∧ w'.cell? ⟨g, 4, none⟩ = some (.int .i8 s0_4) ∧ w'.cell? ⟨g, 5, none⟩ = some (.int .i8 s0_5) ∧ w'.cell? ⟨g, 6, none⟩ = some (.bool true) ∧ w'.cell? ⟨g, 7, none⟩ = some (.int .i64 s0_7) ∧ w'.cell? ⟨g, 8, none⟩ = some (.int .i64 s0_8)) (ds := []) #[false, false, false, false, false, false, false, false, false, false, false, false, false, false, false] (by kernel_rfl) rfl rfl ⟨(by obtain ⟨HG_, _⟩ := HI0.out; exact cellS72_0 HG_), (by obtain ⟨HG_, _⟩ := HI0.out; exact cellS72_1 HG_), (by obtain ⟨HG_, _⟩ := HI0.out; exact cellS72_2 HG_), (by obtain ⟨HG_, _⟩ := HI0.out; exact cellS72_3 HG_), (by obtain ⟨HG_, _⟩ := HI0.out; exact cellS72_4 HG_), (by obtain ⟨HG_, _⟩ := HI0.out; exact cellS72_5 HG_), (by obtain ⟨HG_, _⟩ := HI0.out; exact cellS72_6 HG_), (by obtain ⟨HG_, _⟩ := HI0.out; exact cellS72_7 HG_), (by obtain ⟨HG_, _⟩ := HI0.out; exact cellS72_8 HG_)⟩ (fun hHeld => ?_); refine with_tabW spec_l07Drift_hour.tab1 spec_l07Drift_hour.bits1 (fun HT_ HW_ => ?_)
   generalize w7.drew = w9 at BK134 BK135 BK136 HI0 HK HB hHeld ⊢
   refine pure_ (i := 0) (N := some 12) (v := ?_) (a' := ?_) #[true, false, false, false, false, false, false, false, false, false, false, false, false, false, false] rfl rfl (any_of HT_.out (by kernel_rfl)) (fun _ _ _ h => h) (Or.inl ⟨by rfl, ?_⟩) ?_ ?_
   rotate_left
   ·intro w'
    go_simp
    with_reducible rfl
   rotate_left
   ·simp only [Act.put, List.setIfInBounds_toArray, List.set_cons_zero, List.set_cons_succ, i64_w, i32_w]
    rfl
   refine pure_ (i := 1) (N := some 13) (v := ?_) (a' := ?_) #[true, true, false, false, false, false, false, false, false, false, false, false, false, false, false] rfl rfl (any_of HT_.out (by kernel_rfl)) (fun _ _ _ h => h) (Or.inl ⟨by rfl, ?_⟩) ?_ ?_
   rotate_left
   ·intro w'
    go_simp
    with_reducible rfl
   rotate_left
   ·simp only [Act.put, List.setIfInBounds_toArray, List.set_cons_zero, List.set_cons_succ, i64_w, i32_w]
    rfl
   refine pure_ (i := 2) (N := some 14) (v := ?_) (a' := ?_) #[true, true, true, false, false, false, false, false, false, false, false, false, false, false, false] rfl rfl (any_of HT_.out (by kernel_rfl)) (fun _ _ _ h => h) (Or.inl ⟨by rfl, ?_⟩) ?_ ?_
   rotate_left
   ·intro w'
    go_simp
    with_reducible rfl
   rotate_left
   ·simp only [Act.put, List.setIfInBounds_toArray, List.set_cons_zero, List.set_cons_succ, i64_w, i32_w]
    rfl
   refine take_ (i := 3) (N := some 15) (v := ?_) (a' := ?_) #[true, true, true, true, false, false, false, false, false, false, false, false, false, false, false] rfl rfl (take_ofW HT_.out HW_.out (by kernel_rfl)) (fun _ _ _ h => h) (Or.inl ⟨by rfl, ?_⟩) hHeld ?_ ?_
   rotate_left
   ·rintro w' ⟨s0, s1, s2, s3, s4, s5, s6, s7, s8⟩
    go_simp
    with_reducible rfl
   rotate_left
   ·simp only [Act.put, List.setIfInBounds_toArray, List.set_cons_zero, List.set_cons_succ, i64_w, i32_w]
    rfl
   refine pure_ (i := 4) (N := some 16) (v := ?_) (a' := ?_) #[true, true, true, true, true, false, false, false, false, false, false, false, false, false, false] rfl rfl (any_of HT_.out (by kernel_rfl)) (fun _ _ _ h => h) (Or.inl ⟨by rfl, ?_⟩) ?_ ?_
   rotate_left
   ·intro w'
    go_simp
    with_reducible rfl
   rotate_left
   ·simp only [Act.put, List.setIfInBounds_toArray, List.set_cons_zero, List.set_cons_succ, i64_w, i32_w]
    rfl
   refine pure_ (i := 5) (N := some 17) (v := ?_) (a' := ?_) #[true, true, true, true, true, true, false, false, false, false, false, false, false, false, false] rfl rfl (any_of HT_.out (by kernel_rfl)) (fun _ _ _ h => h) (Or.inl ⟨by rfl, ?_⟩) ?_ ?_
   rotate_left
   ·intro w'
    go_simp
    with_reducible rfl
   rotate_left
   ·simp only [Act.put, List.setIfInBounds_toArray, List.set_cons_zero, List.set_cons_succ, i64_w, i32_w]
    rfl
   refine pure_ (i := 6) (N := some 18) (v := undef) (a' := ?_) #[true, true, true, true, true, true, true, false, false, false, false, false, false, false, false] rfl rfl (any_of HT_.out (by kernel_rfl)) (fun _ _ _ h => h) (Or.inr ⟨by rfl, rfl⟩) ?_ ?_
   rotate_left
   ·simp only [Act.put, List.setIfInBounds_toArray, List.set_cons_zero, List.set_cons_succ, i64_w, i32_w]
    rfl
   refine pure_ (i := 7) (N := some 19) (v := undef) (a' := ?_) #[true, true, true, true, true, true, true, true, false, false, false, false, false, false, false] rfl rfl (any_of HT_.out (by kernel_rfl)) (fun _ _ _ h => h) (Or.inr ⟨by rfl, rfl⟩) ?_ ?_
   rotate_left
   ·simp only [Act.put, List.setIfInBounds_toArray, List.set_cons_zero, List.set_cons_succ, i64_w, i32_w]
    rfl
   refine pure_ (i := 8) (N := some 20) (v := undef) (a' := ?_) #[true, true, true, true, true, true, true, true, true, false, false, false, false, false, false] rfl rfl (any_of HT_.out (by kernel_rfl)) (fun _ _ _ h => h) (Or.inr ⟨by rfl, rfl⟩) ?_ ?_
   rotate_left
   ·simp only [Act.put, List.setIfInBounds_toArray, List.set_cons_zero, List.set_cons_succ, i64_w, i32_w]
    rfl
   refine pure_ (i := 9) (N := some 21) (v := undef) (a' := ?_) #[true, true, true, true, true, true, true, true, true, true, false, false, false, false, false] rfl rfl (any_of HT_.out (by kernel_rfl)) (fun _ _ _ h => h) (Or.inr ⟨by rfl, rfl⟩) ?_ ?_
   rotate_left
   ·simp only [Act.put, List.setIfInBounds_toArray, List.set_cons_zero, List.set_cons_succ, i64_w, i32_w]
    rfl
   refine pure_ (i := 10) (N := some 22) (v := undef) (a' := ?_) #[true, true, true, true, true, true, true, true, true, true, true, false, false, false, false] rfl rfl (any_of HT_.out (by kernel_rfl)) (fun _ _ _ h => h) (Or.inr ⟨by rfl, rfl⟩) ?_ ?_
   rotate_left
   ·simp only [Act.put, List.setIfInBounds_toArray, List.set_cons_zero, List.set_cons_succ, i64_w, i32_w]
    rfl
   refine pure_ (i := 11) (N := some 23) (v := undef) (a' := ?_) #[true, true, true, true, true, true, true, true, true, true, true, true, false, false, false] rfl rfl (any_of HT_.out (by kernel_rfl)) (fun _ _ _ h => h) (Or.inr ⟨by rfl, rfl⟩) ?_ ?_
   rotate_left
   ·simp only [Act.put, List.setIfInBounds_toArray, List.set_cons_zero, List.set_cons_succ, i64_w, i32_w]
    rfl
   refine pure_ (i := 12) (N := some 24) (v := undef) (a' := ?_) #[true, true, true, true, true, true, true, true, true, true, true, true, true, false, false] rfl rfl (any_of HT_.out (by kernel_rfl)) (fun _ _ _ h => h) (Or.inr ⟨by rfl, rfl⟩) ?_ ?_
   rotate_left
   ·simp only [Act.put, List.setIfInBounds_toArray, List.set_cons_zero, List.set_cons_succ, i64_w, i32_w]
    rfl
   refine pure_ (i := 13) (N := some 25) (v := undef) (a' := ?_) #[true, true, true, true, true, true, true, true, true, true, true, true, true, true, false] rfl rfl (any_of HT_.out (by kernel_rfl)) (fun _ _ _ h => h) (Or.inr ⟨by rfl, rfl⟩) ?_ ?_
   rotate_left
   ·simp only [Act.put, List.setIfInBounds_toArray, List.set_cons_zero, List.set_cons_succ, i64_w, i32_w]
    rfl
   refine pure_ (i := 14) (N := some 26) (v := ?_) (a' := ?_) #[true, true, true, true, true, true, true, true, true, true, true, true, true, true, true] rfl rfl (any_of HT_.out (by kernel_rfl)) (fun _ _ _ h => h) (Or.inl ⟨by rfl, ?_⟩) ?_ ?_
   rotate_left
   ·intro w'
    go_simp
    with_reducible rfl
   rotate_left
   ·simp only [Act.put, List.setIfInBounds_toArray, List.set_cons_zero, List.set_cons_succ, i64_w, i32_w]
    rfl
   refine done_ (done_of HT_.out (by kernel_rfl)) ?_
   try go_wp2
   go_meet
   case rel => exact ⟨_, (false), (by first | rfl | (simp; done) | (simp [*]; done)), H', ⟨by first | omega | exact Nat.le_refl _⟩, ⟨by (with_reducible repeat (first | refine blk_drewN ?_ _ | refine blk_drew ?_ | refine blk_alloc ?_ _)); exact BK134.out⟩, ⟨by (with_reducible repeat (first | refine blk_drewN ?_ _ | refine blk_drew ?_ | refine blk_alloc ?_ _)); exact BK135.out⟩, ⟨by (with_reducible repeat (first | refine blk_drewN ?_ _ | refine blk_drew ?_ | refine blk_alloc ?_ _)); exact BK136.out⟩, ⟨by repeat (first | (with_reducible first | exact HI0.out | apply IsS72.alloc | apply IsS72.drewN | apply IsS72.drew | apply IsS72.set_0 | apply IsS72.set_1 | apply IsS72.set_2 | apply IsS72.set_3 | apply IsS72.set_4 | apply IsS72.set_5 | apply IsS72.set_6 | apply IsS72.set_7 | apply IsS72.set_8 | refine IsS72.far ?_ NB0_134.out _ | refine IsS72.far ?_ NB0_135.out _ | refine IsS72.far ?_ NB0_136.out _) | exact HI0.out)⟩, ⟨by repeat (first | (with_reducible first | exact HK.out | apply KeepBut.set_ | apply keep_drewN | apply keep_drew | apply keep_alloc | refine keep_far ?_ GW134.out _ | refine keep_far ?_ GW135.out _ | refine keep_far ?_ GW136.out _) | exact HK.out)⟩, ⟨by repeat (first | (with_reducible first | exact HB.out | apply below_alloc | apply pw_below_drewN | apply below_drew1 | refine below_set ?_ (IsS72.ge HI0.out) | refine below_set ?_ GE134.out | refine below_set ?_ GE135.out | refine below_set ?_ GE136.out) | exact HB.out)⟩⟩
  ·replace c8 := Bool.eq_false_iff.mpr c8
   subst c8
   have H1 : ((spec_l07Drags.f a1 a2 s0_0 s0_1 s0_2 s0_3 s0_4 s0_5 a3_0 a3_1).bind fun t137 => (spec_l07Drift_hour.j0 k a4 t137 s0_0 s0_1 s0_2 s0_3 s0_4 s0_5 false s0_7 s0_8 s0_9 a1 a2 a3_0 a3_1)) = some (r1, r2, r3, r4, r5, r6, r7, r8, r9) := by rw [if_neg (show ¬ (false = true) by decide)] at H; exact H
   clear H
   have H := H1
   clear H1
   replace H := Option.bind_eq_some_iff.mp H
   obtain ⟨t137, A100, H⟩ := H
   replace H : (spec_l07Drift_hour.j0 k a4 t137 s0_0 s0_1 s0_2 s0_3 s0_4 s0_5 false s0_7 s0_8 s0_9 a1 a2 a3_0 a3_1) = some (r1, r2, r3, r4, r5, r6, r7, r8, r9) := H
   have A10 := Aside0.mk A100
   clear A100
   have H' := Aside0.mk H
   clear H
   try go_wp2
   replace BK134 := Aside0.mk (blk_drew BK134.out)
   replace BK135 := Aside0.mk (blk_drew BK135.out)
   replace BK136 := Aside0.mk (blk_drew BK136.out)
   replace HI0 := Aside0.mk (IsS72.drew HI0.out)
   replace HK := Aside0.mk (keep_drew HK.out)
   replace HB := Aside0.mk (below_drew1 HB.out)
   refine start_ (n := 15) (S := fun w' => w'.cell? ⟨g, 0, none⟩ = some (.int .i8 s0_0) ∧ w'.cell? ⟨g, 1, none⟩ = some (.int .i8 s0_1) ∧ w'.cell? ⟨g, 2, none⟩ = some (.int .i8 s0_2) ∧ w'.cell? ⟨g, 3, none⟩ = some (.int .i8 s0_3) ∧ w'.cell? ⟨g, 4, none⟩ = some (.int .i8 s0_4) ∧ w'.cell? ⟨g, 5, none⟩ = some (.int .i8 s0_5) ∧ w'.cell? ⟨g, 6, none⟩ = some (.bool false) ∧ w'.cell? ⟨g, 7, none⟩ = some (.int .i64 s0_7) ∧ w'.cell? ⟨g, 8, none⟩ = some (.int .i64 s0_8) ∧ w'.cell? ⟨gb136, 0, none⟩ = some (.int .i8 a3_0) ∧ w'.cell? ⟨gb136, 1, none⟩ = some (.int .i8 a3_1)) (ds := []) #[false, false, false, false, false, false, false, false, false, false, false, false, false, false, false] (by kernel_rfl) rfl rfl ⟨(by obtain ⟨HG_, _⟩ := HI0.out; exact cellS72_0 HG_), (by obtain ⟨HG_, _⟩ := HI0.out; exact cellS72_1 HG_), (by obtain ⟨HG_, _⟩ := HI0.out; exact cellS72_2 HG_), (by obtain ⟨HG_, _⟩ := HI0.out; exact cellS72_3 HG_), (by obtain ⟨HG_, _⟩ := HI0.out; exact cellS72_4 HG_), (by obtain ⟨HG_, _⟩ := HI0.out; exact cellS72_5 HG_), (by obtain ⟨HG_, _⟩ := HI0.out; exact cellS72_6 HG_), (by obtain ⟨HG_, _⟩ := HI0.out; exact cellS72_7 HG_), (by obtain ⟨HG_, _⟩ := HI0.out; exact cellS72_8 HG_), (blk_cell BK136.out 0).trans rfl, (blk_cell BK136.out 1).trans rfl⟩ (fun hHeld => ?_); refine with_tabW spec_l07Drift_hour.tab1 spec_l07Drift_hour.bits1 (fun HT_ HW_ => ?_)
   generalize w7.drew = w11 at BK134 BK135 BK136 HI0 HK HB hHeld ⊢
   refine pure_ (i := 0) (N := some 12) (v := ?_) (a' := ?_) #[true, false, false, false, false, false, false, false, false, false, false, false, false, false, false] rfl rfl (any_of HT_.out (by kernel_rfl)) (fun _ _ _ h => h) (Or.inl ⟨by rfl, ?_⟩) ?_ ?_
   rotate_left
   ·intro w'
    go_simp
    with_reducible rfl
   rotate_left
   ·simp only [Act.put, List.setIfInBounds_toArray, List.set_cons_zero, List.set_cons_succ, i64_w, i32_w]
    rfl
   refine pure_ (i := 1) (N := some 13) (v := ?_) (a' := ?_) #[true, true, false, false, false, false, false, false, false, false, false, false, false, false, false] rfl rfl (any_of HT_.out (by kernel_rfl)) (fun _ _ _ h => h) (Or.inl ⟨by rfl, ?_⟩) ?_ ?_
   rotate_left
   ·intro w'
    go_simp
    with_reducible rfl
   rotate_left
   ·simp only [Act.put, List.setIfInBounds_toArray, List.set_cons_zero, List.set_cons_succ, i64_w, i32_w]
    rfl
   refine pure_ (i := 2) (N := some 14) (v := ?_) (a' := ?_) #[true, true, true, false, false, false, false, false, false, false, false, false, false, false, false] rfl rfl (any_of HT_.out (by kernel_rfl)) (fun _ _ _ h => h) (Or.inl ⟨by rfl, ?_⟩) ?_ ?_
   rotate_left
   ·intro w'
    go_simp
    with_reducible rfl
   rotate_left
   ·simp only [Act.put, List.setIfInBounds_toArray, List.set_cons_zero, List.set_cons_succ, i64_w, i32_w]
    rfl
   refine take_ (i := 3) (N := some 15) (v := ?_) (a' := ?_) #[true, true, true, true, false, false, false, false, false, false, false, false, false, false, false] rfl rfl (take_ofW HT_.out HW_.out (by kernel_rfl)) (fun _ _ _ h => h) (Or.inl ⟨by rfl, ?_⟩) hHeld ?_ ?_
   rotate_left
   ·rintro w' ⟨s0, s1, s2, s3, s4, s5, s6, s7, s8, s9, s10⟩
    go_simp
    with_reducible rfl
   rotate_left
   ·simp only [Act.put, List.setIfInBounds_toArray, List.set_cons_zero, List.set_cons_succ, i64_w, i32_w]
    rfl
   refine pure_ (i := 4) (N := some 16) (v := ?_) (a' := ?_) #[true, true, true, true, true, false, false, false, false, false, false, false, false, false, false] rfl rfl (any_of HT_.out (by kernel_rfl)) (fun _ _ _ h => h) (Or.inl ⟨by rfl, ?_⟩) ?_ ?_
   rotate_left
   ·intro w'
    go_simp
    with_reducible rfl
   rotate_left
   ·simp only [Act.put, List.setIfInBounds_toArray, List.set_cons_zero, List.set_cons_succ, i64_w, i32_w]
    rfl
   refine pure_ (i := 5) (N := some 17) (v := ?_) (a' := ?_) #[true, true, true, true, true, true, false, false, false, false, false, false, false, false, false] rfl rfl (any_of HT_.out (by kernel_rfl)) (fun _ _ _ h => h) (Or.inl ⟨by rfl, ?_⟩) ?_ ?_
   rotate_left
   ·intro w'
    go_simp
    with_reducible rfl
   rotate_left
   ·simp only [Act.put, List.setIfInBounds_toArray, List.set_cons_zero, List.set_cons_succ, i64_w, i32_w]
    rfl
   refine pure_ (i := 6) (N := some 18) (v := ?_) (a' := ?_) #[true, true, true, true, true, true, true, false, false, false, false, false, false, false, false] rfl rfl (any_of HT_.out (by kernel_rfl)) (fun _ _ _ h => h) (Or.inl ⟨by rfl, ?_⟩) ?_ ?_
   rotate_left
   ·intro w'
    go_simp
    with_reducible rfl
   rotate_left
   ·simp only [Act.put, List.setIfInBounds_toArray, List.set_cons_zero, List.set_cons_succ, i64_w, i32_w]
    rfl
   refine pure_ (i := 7) (N := some 19) (v := ?_) (a' := ?_) #[true, true, true, true, true, true, true, true, false, false, false, false, false, false, false] rfl rfl (any_of HT_.out (by kernel_rfl)) (fun _ _ _ h => h) (Or.inl ⟨by rfl, ?_⟩) ?_ ?_
   rotate_left
   ·intro w'
    go_simp
    with_reducible rfl
   rotate_left
   ·simp only [Act.put, List.setIfInBounds_toArray, List.set_cons_zero, List.set_cons_succ, i64_w, i32_w]
    rfl
   refine pure_ (i := 8) (N := some 20) (v := ?_) (a' := ?_) #[true, true, true, true, true, true, true, true, true, false, false, false, false, false, false] rfl rfl (any_of HT_.out (by kernel_rfl)) (fun _ _ _ h => h) (Or.inl ⟨by rfl, ?_⟩) ?_ ?_
   rotate_left
   ·intro w'
    go_simp
    with_reducible rfl
   rotate_left
   ·simp only [Act.put, List.setIfInBounds_toArray, List.set_cons_zero, List.set_cons_succ, i64_w, i32_w]
    rfl
   refine pure_ (i := 9) (N := some 21) (v := ?_) (a' := ?_) #[true, true, true, true, true, true, true, true, true, true, false, false, false, false, false] rfl rfl (any_of HT_.out (by kernel_rfl)) (fun _ _ _ h => h) (Or.inl ⟨by rfl, ?_⟩) ?_ ?_
   rotate_left
   ·intro w'
    go_simp
    with_reducible rfl
   rotate_left
   ·simp only [Act.put, List.setIfInBounds_toArray, List.set_cons_zero, List.set_cons_succ, i64_w, i32_w]
    rfl
   refine pure_ (i := 10) (N := some 22) (v := ?_) (a' := ?_) #[true, true, true, true, true, true, true, true, true, true, true, false, false, false, false] rfl rfl (any_of HT_.out (by kernel_rfl)) (fun _ _ _ h => h) (Or.inl ⟨by rfl, ?_⟩) ?_ ?_
   rotate_left
   ·intro w'
    go_simp
    with_reducible rfl
   rotate_left
   ·simp only [Act.put, List.setIfInBounds_toArray, List.set_cons_zero, List.set_cons_succ, i64_w, i32_w]
    rfl
   refine take_ (i := 11) (N := some 23) (v := ?_) (a' := ?_) #[true, true, true, true, true, true, true, true, true, true, true, true, false, false, false] rfl rfl (take_ofW HT_.out HW_.out (by kernel_rfl)) (fun _ _ _ h => h) (Or.inl ⟨by rfl, ?_⟩) hHeld ?_ ?_
   rotate_left
   ·rintro w' ⟨s0, s1, s2, s3, s4, s5, s6, s7, s8, s9, s10⟩
    go_simp
    with_reducible rfl
   rotate_left
   ·simp only [Act.put, List.setIfInBounds_toArray, List.set_cons_zero, List.set_cons_succ, i64_w, i32_w]
    rfl
   refine take_ (i := 12) (N := some 24) (v := ?_) (a' := ?_) #[true, true, true, true, true, true, true, true, true, true, true, true, true, false, false] rfl rfl (take_ofW HT_.out HW_.out (by kernel_rfl)) (fun _ _ _ h => h) (Or.inl ⟨by rfl, ?_⟩) hHeld ?_ ?_
   rotate_left
   ·rintro w' ⟨s0, s1, s2, s3, s4, s5, s6, s7, s8, s9, s10⟩
    go_simp
    with_reducible rfl
   rotate_left
   ·simp only [Act.put, List.setIfInBounds_toArray, List.set_cons_zero, List.set_cons_succ, i64_w, i32_w]
    rfl
   refine one_ (i := 13) (N := some 25) #[true, true, true, true, true, true, true, true, true, true, true, true, true, true, false] rfl rfl (one_of HT_.out (by kernel_rfl)) (by decide) (fun K hK => ?_)
   refine goes_ Try.func66 (by kernel_rfl) rfl #[.pointer (some ⟨gp1, 0, none⟩), .pointer (some ⟨gp2, 0, none⟩), .agg #[.int .i8 s0_0, .int .i8 s0_1, .int .i8 s0_2, .int .i8 s0_3, .int .i8 s0_4, .int .i8 s0_5], .agg #[.int .i8 a3_0, .int .i8 a3_1]] (by rfl) rfl rfl (by (try simp only [List.map_toArray, List.map_cons, List.map_nil]); first | done | rfl | (simp only [List.length_drop, List.length_take]; rfl)) ?_
   with_reducible refine (spec_l07Drags.calls gp1 a1 gp2 a2 s0_0 s0_1 s0_2 s0_3 s0_4 s0_5 a3_0 a3_1 t137 _ ?side1 ?side2 A10.out).mono ?_
   (case side1 => (with_reducible repeat (first | refine blk_drewN ?_ _ | refine blk_drew ?_ | refine blk_alloc ?_ _)); exact BK134.out)
   (case side2 => (with_reducible repeat (first | refine blk_drewN ?_ _ | refine blk_drew ?_ | refine blk_alloc ?_ _)); exact BK135.out)
   rintro e w12 ⟨rfl, hb⟩
   refine ⟨_, rfl, ?_⟩
   replace BK134 := Aside0.mk (sqB BK134.out hb)
   replace BK135 := Aside0.mk (sqB BK135.out hb)
   replace BK136 := Aside0.mk (sqB BK136.out hb)
   replace HK := Aside0.mk (KeepBut.trans (by repeat (first | (with_reducible first | exact HK.out | apply KeepBut.set_ | apply keep_drewN | apply keep_drew | apply keep_alloc | refine keep_far ?_ GW134.out _ | refine keep_far ?_ GW135.out _ | refine keep_far ?_ GW136.out _) | exact HK.out)) (KeepBut.of_below hb g none) (.inl rfl))
   replace HB := Aside0.mk (below_step (by repeat (first | (with_reducible first | exact HB.out | apply below_alloc | apply pw_below_drewN | apply below_drew1 | refine below_set ?_ (IsS72.ge HI0.out) | refine below_set ?_ GE134.out | refine below_set ?_ GE135.out | refine below_set ?_ GE136.out) | exact HB.out)) hb)
   replace HI0 := Aside0.mk (IsS72.below (by repeat (first | (with_reducible first | exact HI0.out | apply IsS72.alloc | apply IsS72.drewN | apply IsS72.drew | apply IsS72.set_0 | apply IsS72.set_1 | apply IsS72.set_2 | apply IsS72.set_3 | apply IsS72.set_4 | apply IsS72.set_5 | apply IsS72.set_6 | apply IsS72.set_7 | apply IsS72.set_8 | refine IsS72.far ?_ NB0_134.out _ | refine IsS72.far ?_ NB0_135.out _ | refine IsS72.far ?_ NB0_136.out _) | exact HI0.out)) hb)
   (try clear hb)
   (try clear hb2)
   (try clear hk)
   (try clear hi)
   refine hK.out _ _ ⟨(by obtain ⟨HG_, _⟩ := HI0.out; exact cellS72_0 HG_), (by obtain ⟨HG_, _⟩ := HI0.out; exact cellS72_1 HG_), (by obtain ⟨HG_, _⟩ := HI0.out; exact cellS72_2 HG_), (by obtain ⟨HG_, _⟩ := HI0.out; exact cellS72_3 HG_), (by obtain ⟨HG_, _⟩ := HI0.out; exact cellS72_4 HG_), (by obtain ⟨HG_, _⟩ := HI0.out; exact cellS72_5 HG_), (by obtain ⟨HG_, _⟩ := HI0.out; exact cellS72_6 HG_), (by obtain ⟨HG_, _⟩ := HI0.out; exact cellS72_7 HG_), (by obtain ⟨HG_, _⟩ := HI0.out; exact cellS72_8 HG_), (blk_cell BK136.out 0).trans rfl, (blk_cell BK136.out 1).trans rfl⟩ (fun hHeld => ?_)
   clear hK K
   refine norm_ (a' := ?_) ?_ ?_
   rotate_left
   ·show Act.put _ (some 25) _ = _
    simp only [Act.put, List.setIfInBounds_toArray, List.set_cons_zero, List.set_cons_succ, i64_w, i32_w]
    rfl
   refine pure_ (i := 14) (N := some 26) (v := ?_) (a' := ?_) #[true, true, true, true, true, true, true, true, true, true, true, true, true, true, true] rfl rfl (any_of HT_.out (by kernel_rfl)) (fun _ _ _ h => h) (Or.inl ⟨by rfl, ?_⟩) ?_ ?_
   rotate_left
   ·intro w'
    go_simp
    with_reducible rfl
   rotate_left
   ·simp only [Act.put, List.setIfInBounds_toArray, List.set_cons_zero, List.set_cons_succ, i64_w, i32_w]
    rfl
   refine done_ (done_of HT_.out (by kernel_rfl)) ?_
   try go_wp2
   go_meet
   case rel => exact ⟨_, (t137), (by first | rfl | (simp; done) | (simp [*]; done)), H', ⟨by first | omega | exact Nat.le_refl _⟩, ⟨by (with_reducible repeat (first | refine blk_drewN ?_ _ | refine blk_drew ?_ | refine blk_alloc ?_ _)); exact BK134.out⟩, ⟨by (with_reducible repeat (first | refine blk_drewN ?_ _ | refine blk_drew ?_ | refine blk_alloc ?_ _)); exact BK135.out⟩, ⟨by (with_reducible repeat (first | refine blk_drewN ?_ _ | refine blk_drew ?_ | refine blk_alloc ?_ _)); exact BK136.out⟩, ⟨by repeat (first | (with_reducible first | exact HI0.out | apply IsS72.alloc | apply IsS72.drewN | apply IsS72.drew | apply IsS72.set_0 | apply IsS72.set_1 | apply IsS72.set_2 | apply IsS72.set_3 | apply IsS72.set_4 | apply IsS72.set_5 | apply IsS72.set_6 | apply IsS72.set_7 | apply IsS72.set_8 | refine IsS72.far ?_ NB0_134.out _ | refine IsS72.far ?_ NB0_135.out _ | refine IsS72.far ?_ NB0_136.out _) | exact HI0.out)⟩, ⟨by repeat (first | (with_reducible first | exact HK.out | apply KeepBut.set_ | apply keep_drewN | apply keep_drew | apply keep_alloc | refine keep_far ?_ GW134.out _ | refine keep_far ?_ GW135.out _ | refine keep_far ?_ GW136.out _) | exact HK.out)⟩, ⟨by repeat (first | (with_reducible first | exact HB.out | apply below_alloc | apply pw_below_drewN | apply below_drew1 | refine below_set ?_ (IsS72.ge HI0.out) | refine below_set ?_ GE134.out | refine below_set ?_ GE135.out | refine below_set ?_ GE136.out) | exact HB.out)⟩⟩
 case rest =>
  clear HC6
  try clear p1
  try clear p2
  try clear c5
  try clear c6
  try clear c8
  obtain ⟨kq, x26_5, rfl, HA, HJ5, BK134, BK135, BK136, HI0, HK, HB⟩ := hcut
  cases kq with
  | zero => exact absurd HA.out (by simp [spec_l07Drift_hour.j0])
  | succ kj5 =>
   have H := HA.out
   clear HA
   simp only [spec_l07Drift_hour.j0] at H
   have HC13 := Aside0.mk H
   clear H
   go_upto_if 26 with (fail)
   go_cut [] (fun wc => ∃ (kq : Nat) (x1000_12 : Int) (x1001_12 : Int) (x1002_12 : Int) (x1003_12 : Int) (x1004_12 : Int) (x1005_12 : Int) (x1006_12 : Bool) (x1007_12 : Int) (x1008_12 : Int), Aside0 (spec_l07Drift_hour.j3 kq x1000_12 x1001_12 x1002_12 x1003_12 x1004_12 x1005_12 x1006_12 x1007_12 x1008_12 s0_9 = some (r1, r2, r3, r4, r5, r6, r7, r8, r9)) ∧ Aside0 (kq ≤ kj5) ∧ Aside0 (wc.heap[gp1]? = some (.cells (a1).A 38 (0, 0))) ∧ Aside0 (wc.heap[gp2]? = some (.cells (a2).A 40 (0, 0))) ∧ Aside0 (wc.heap[gb136]? = some (.cells #[.int .i8 a3_0, .int .i8 a3_1] 78 (0, 0))) ∧ Aside0 (IsS72 w0 wc g x1000_12 x1001_12 x1002_12 x1003_12 x1004_12 x1005_12 x1006_12 x1007_12 x1008_12 s0_9) ∧ Aside0 (KeepBut w wc g none) ∧ Aside0 (Below w0.heap.size w0 wc))
   case first =>
    have H := HC13.out
    clear HC13
    by_cases c14 : x26_5 = true
    ·subst c14
     have H1 : (if s0_7 < 0 then (spec_l07Drift_hour.j1 kj5 a4 s0_0 s0_1 s0_2 s0_3 s0_4 s0_5 s0_6 a4 s0_8 s0_9 a1 a2 a3_0 a3_1) else (spec_l07Drift_hour.j1 kj5 a4 s0_0 s0_1 s0_2 s0_3 s0_4 s0_5 s0_6 s0_7 s0_8 s0_9 a1 a2 a3_0 a3_1)) = some (r1, r2, r3, r4, r5, r6, r7, r8, r9) := by rw [if_pos rfl] at H; exact H
     clear H
     have H := H1
     clear H1
     have HC15 := Aside0.mk H
     clear H
     obtain ⟨HGz16, hgz16⟩ := HI0.out
     have hcz16_0 := cellS72_0 HGz16
     have hcz16_1 := cellS72_1 HGz16
     have hcz16_2 := cellS72_2 HGz16
     have hcz16_3 := cellS72_3 HGz16
     have hcz16_4 := cellS72_4 HGz16
     have hcz16_5 := cellS72_5 HGz16
     have hcz16_6 := cellS72_6 HGz16
     have hcz16_7 := cellS72_7 HGz16
     have hcz16_8 := cellS72_8 HGz16
     have hcz16_9 := cellS72_9 HGz16
     have hfz16_0 := blk_frozen HGz16 0
     have hfz16_1 := blk_frozen HGz16 1
     have hfz16_2 := blk_frozen HGz16 2
     have hfz16_3 := blk_frozen HGz16 3
     have hfz16_4 := blk_frozen HGz16 4
     have hfz16_5 := blk_frozen HGz16 5
     have hfz16_6 := blk_frozen HGz16 6
     have hfz16_7 := blk_frozen HGz16 7
     have hfz16_8 := blk_frozen HGz16 8
     clear HGz16 hgz16
     go_upto_if 31 with (fail)
     go_cut [] (fun wc => ∃ (kq : Nat) (x1007_14 : Int), Aside0 (spec_l07Drift_hour.j1 kq a4 s0_0 s0_1 s0_2 s0_3 s0_4 s0_5 s0_6 x1007_14 s0_8 s0_9 a1 a2 a3_0 a3_1 = some (r1, r2, r3, r4, r5, r6, r7, r8, r9)) ∧ Aside0 (kq ≤ kj5) ∧ Aside0 (wc.heap[gp1]? = some (.cells (a1).A 38 (0, 0))) ∧ Aside0 (wc.heap[gp2]? = some (.cells (a2).A 40 (0, 0))) ∧ Aside0 (wc.heap[gb136]? = some (.cells #[.int .i8 a3_0, .int .i8 a3_1] 78 (0, 0))) ∧ Aside0 (IsS72 w0 wc g s0_0 s0_1 s0_2 s0_3 s0_4 s0_5 s0_6 x1007_14 s0_8 s0_9) ∧ Aside0 (KeepBut w wc g none) ∧ Aside0 (Below w0.heap.size w0 wc))
     case first =>
      have H := HC15.out
      clear HC15
      by_cases c17 : s0_7 < 0
      ·rw [if_pos c17] at H
       have c17b0 : decide (s0_7 < 0) = true := decide_eq_true c17
       clear c17
       (first | rw [c17b0] | (simp only [i64_w, i32_w]; rw [c17b0]) | skip)
       have H' := Aside0.mk H
       clear H
       obtain ⟨HGz18, hgz18⟩ := HI0.out
       have hcz18_0 := cellS72_0 HGz18
       have hcz18_1 := cellS72_1 HGz18
       have hcz18_2 := cellS72_2 HGz18
       have hcz18_3 := cellS72_3 HGz18
       have hcz18_4 := cellS72_4 HGz18
       have hcz18_5 := cellS72_5 HGz18
       have hcz18_6 := cellS72_6 HGz18
       have hcz18_7 := cellS72_7 HGz18
       have hcz18_8 := cellS72_8 HGz18
       have hcz18_9 := cellS72_9 HGz18
       have hfz18_0 := blk_frozen HGz18 0
       have hfz18_1 := blk_frozen HGz18 1
       have hfz18_2 := blk_frozen HGz18 2
       have hfz18_3 := blk_frozen HGz18 3
       have hfz18_4 := blk_frozen HGz18 4
       have hfz18_5 := blk_frozen HGz18 5
       have hfz18_6 := blk_frozen HGz18 6
       have hfz18_7 := blk_frozen HGz18 7
       have hfz18_8 := blk_frozen HGz18 8
       clear HGz18 hgz18
       go_wp2
       go_meet
       case rel => exact ⟨_, (a4), H', ⟨by have := HJ5.out; first | omega | exact Nat.le_refl _⟩, ⟨by (with_reducible repeat (first | refine blk_drewN ?_ _ | refine blk_drew ?_ | refine blk_alloc ?_ _)); refine blk_far ?_ NB134_0.out _; (with_reducible repeat (first | refine blk_drewN ?_ _ | refine blk_drew ?_ | refine blk_alloc ?_ _)); exact BK134.out⟩, ⟨by (with_reducible repeat (first | refine blk_drewN ?_ _ | refine blk_drew ?_ | refine blk_alloc ?_ _)); refine blk_far ?_ NB135_0.out _; (with_reducible repeat (first | refine blk_drewN ?_ _ | refine blk_drew ?_ | refine blk_alloc ?_ _)); exact BK135.out⟩, ⟨by (with_reducible repeat (first | refine blk_drewN ?_ _ | refine blk_drew ?_ | refine blk_alloc ?_ _)); refine blk_far ?_ NB136_0.out _; (with_reducible repeat (first | refine blk_drewN ?_ _ | refine blk_drew ?_ | refine blk_alloc ?_ _)); exact BK136.out⟩, ⟨by repeat (first | (with_reducible first | exact HI0.out | apply IsS72.alloc | apply IsS72.drewN | apply IsS72.drew | apply IsS72.set_0 | apply IsS72.set_1 | apply IsS72.set_2 | apply IsS72.set_3 | apply IsS72.set_4 | apply IsS72.set_5 | apply IsS72.set_6 | apply IsS72.set_7 | apply IsS72.set_8 | refine IsS72.far ?_ NB0_134.out _ | refine IsS72.far ?_ NB0_135.out _ | refine IsS72.far ?_ NB0_136.out _) | exact HI0.out)⟩, ⟨by repeat (first | (with_reducible first | exact HK.out | apply KeepBut.set_ | apply keep_drewN | apply keep_drew | apply keep_alloc | refine keep_far ?_ GW134.out _ | refine keep_far ?_ GW135.out _ | refine keep_far ?_ GW136.out _) | exact HK.out)⟩, ⟨by repeat (first | (with_reducible first | exact HB.out | apply below_alloc | apply pw_below_drewN | apply below_drew1 | refine below_set ?_ (IsS72.ge HI0.out) | refine below_set ?_ GE134.out | refine below_set ?_ GE135.out | refine below_set ?_ GE136.out) | exact HB.out)⟩⟩
      ·rw [if_neg c17] at H
       have c17b0 : decide (s0_7 < 0) = false := decide_eq_false c17
       clear c17
       (first | rw [c17b0] | (simp only [i64_w, i32_w]; rw [c17b0]) | skip)
       have H' := Aside0.mk H
       clear H
       go_wp2
       go_meet
       case rel => exact ⟨_, (s0_7), H', ⟨by have := HJ5.out; first | omega | exact Nat.le_refl _⟩, ⟨by (with_reducible repeat (first | refine blk_drewN ?_ _ | refine blk_drew ?_ | refine blk_alloc ?_ _)); exact BK134.out⟩, ⟨by (with_reducible repeat (first | refine blk_drewN ?_ _ | refine blk_drew ?_ | refine blk_alloc ?_ _)); exact BK135.out⟩, ⟨by (with_reducible repeat (first | refine blk_drewN ?_ _ | refine blk_drew ?_ | refine blk_alloc ?_ _)); exact BK136.out⟩, ⟨by repeat (first | (with_reducible first | exact HI0.out | apply IsS72.alloc | apply IsS72.drewN | apply IsS72.drew | apply IsS72.set_0 | apply IsS72.set_1 | apply IsS72.set_2 | apply IsS72.set_3 | apply IsS72.set_4 | apply IsS72.set_5 | apply IsS72.set_6 | apply IsS72.set_7 | apply IsS72.set_8 | refine IsS72.far ?_ NB0_134.out _ | refine IsS72.far ?_ NB0_135.out _ | refine IsS72.far ?_ NB0_136.out _) | exact HI0.out)⟩, ⟨by repeat (first | (with_reducible first | exact HK.out | apply KeepBut.set_ | apply keep_drewN | apply keep_drew | apply keep_alloc | refine keep_far ?_ GW134.out _ | refine keep_far ?_ GW135.out _ | refine keep_far ?_ GW136.out _) | exact HK.out)⟩, ⟨by repeat (first | (with_reducible first | exact HB.out | apply below_alloc | apply pw_below_drewN | apply below_drew1 | refine below_set ?_ (IsS72.ge HI0.out) | refine below_set ?_ GE134.out | refine below_set ?_ GE135.out | refine below_set ?_ GE136.out) | exact HB.out)⟩⟩
     case rest =>
      clear HC15
      try clear c1
      try clear p1
      try clear p2
      try clear c5
      try clear c6
      try clear c8
      try clear c14
      try clear c17
      try clear c17b0
      try clear hcz16_0
      try clear hcz16_1
      try clear hcz16_2
      try clear hcz16_3
      try clear hcz16_4
      try clear hcz16_5
      try clear hcz16_6
      try clear hcz16_7
      try clear hcz16_8
      try clear hcz16_9
      try clear hcz18_0
      try clear hcz18_1
      try clear hcz18_2
      try clear hcz18_3
      try clear hcz18_4
      try clear hcz18_5
      try clear hcz18_6
      try clear hcz18_7
      try clear hcz18_8
      try clear hcz18_9
      try clear hfz16_0
      try clear hfz16_1
      try clear hfz16_2
      try clear hfz16_3
      try clear hfz16_4
      try clear hfz16_5
      try clear hfz16_6
      try clear hfz16_7
      try clear hfz16_8
      try clear hfz18_0
      try clear hfz18_1
      try clear hfz18_2
      try clear hfz18_3
      try clear hfz18_4
      try clear hfz18_5
      try clear hfz18_6
      try clear hfz18_7
      try clear hfz18_8
      try clear p1
      try clear p2
      obtain ⟨kq, x1007_14, HA, HJ14, BK134, BK135, BK136, HI0, HK, HB⟩ := hcut
      cases kq with
      | zero => exact absurd HA.out (by simp [spec_l07Drift_hour.j1])
      | succ kj14 =>
       have H := HA.out
       clear HA
       simp only [spec_l07Drift_hour.j1] at H
       replace H := Option.bind_eq_some_iff.mp H
       obtain ⟨⟨t138, t139, t140, t141, t142, t143, t144⟩, A190, H⟩ := H
       replace H : (if t144 = true then (spec_l07Drift_hour.j2 kj14 t138 t139 t140 t141 t142 t143 t144 x1007_14 a4 s0_9) else (spec_l07Drift_hour.j2 kj14 t138 t139 t140 t141 t142 t143 t144 x1007_14 s0_8 s0_9)) = some (r1, r2, r3, r4, r5, r6, r7, r8, r9) := H
       have A19 := Aside0.mk A190
       clear A190
       have HC20 := Aside0.mk H
       clear H
       try go_wp2
       replace BK134 := Aside0.mk (blk_drew BK134.out)
       replace BK135 := Aside0.mk (blk_drew BK135.out)
       replace BK136 := Aside0.mk (blk_drew BK136.out)
       replace HI0 := Aside0.mk (IsS72.drew HI0.out)
       replace HK := Aside0.mk (keep_drew HK.out)
       replace HB := Aside0.mk (below_drew1 HB.out)
       refine start_ (n := 14) (S := fun w' => True) (ds := []) #[false, false, false, false, false, false, false, false, false, false, false, false, false, false] (by kernel_rfl) rfl rfl trivial (fun hHeld => ?_); refine with_tabW spec_l07Drift_hour.tab4 spec_l07Drift_hour.bits4 (fun HT_ HW_ => ?_)
       generalize wc.drew = w21 at BK134 BK135 BK136 HI0 HK HB hHeld ⊢
       refine pure_ (i := 0) (N := some 37) (v := ?_) (a' := ?_) #[true, false, false, false, false, false, false, false, false, false, false, false, false, false] rfl rfl (any_of HT_.out (by kernel_rfl)) (fun _ _ _ h => h) (Or.inl ⟨by rfl, ?_⟩) ?_ ?_
       rotate_left
       ·intro w'
        go_simp
        with_reducible rfl
       rotate_left
       ·simp only [Act.put, List.setIfInBounds_toArray, List.set_cons_zero, List.set_cons_succ, i64_w, i32_w]
        rfl
       refine pure_ (i := 1) (N := some 38) (v := ?_) (a' := ?_) #[true, true, false, false, false, false, false, false, false, false, false, false, false, false] rfl rfl (any_of HT_.out (by kernel_rfl)) (fun _ _ _ h => h) (Or.inl ⟨by rfl, ?_⟩) ?_ ?_
       rotate_left
       ·intro w'
        go_simp
        with_reducible rfl
       rotate_left
       ·simp only [Act.put, List.setIfInBounds_toArray, List.set_cons_zero, List.set_cons_succ, i64_w, i32_w]
        rfl
       refine pure_ (i := 2) (N := some 39) (v := ?_) (a' := ?_) #[true, true, true, false, false, false, false, false, false, false, false, false, false, false] rfl rfl (any_of HT_.out (by kernel_rfl)) (fun _ _ _ h => h) (Or.inl ⟨by rfl, ?_⟩) ?_ ?_
       rotate_left
       ·intro w'
        go_simp
        with_reducible rfl
       rotate_left
       ·simp only [Act.put, List.setIfInBounds_toArray, List.set_cons_zero, List.set_cons_succ, i64_w, i32_w]
        rfl
       refine inv_at [3, 4, 5, 6, 7, 8, 9, 10, 11, 12, 13] (fun a0_ b a w' => ∃ (gb145 : Nat) (m11_ : Value), a = putSel a0_ b [(3, 40, .pointer (some ⟨g, 0, none⟩)), (4, 41, .pointer (some ⟨g, 0, none⟩)), (5, 42, .agg #[.int .i8 s0_0, .int .i8 s0_1, .int .i8 s0_2, .int .i8 s0_3, .int .i8 s0_4, .int .i8 s0_5]), (6, 43, .agg #[.int .i8 a3_0, .int .i8 a3_1]), (7, 44, .tuple #[.agg #[.int .i8 t138, .int .i8 t139, .int .i8 t140, .int .i8 t141, .int .i8 t142, .int .i8 t143], .bool t144]), (8, 36, .tuple #[.agg #[.int .i8 t138, .int .i8 t139, .int .i8 t140, .int .i8 t141, .int .i8 t142, .int .i8 t143], .bool t144]), (9, 45, .agg #[.int .i8 t138, .int .i8 t139, .int .i8 t140, .int .i8 t141, .int .i8 t142, .int .i8 t143]), (10, 46, .bool t144), (11, 10, m11_), (13, 11, .bool t144)] ∧ (w'.heap[gp1]? = some (.cells (a1).A 38 (0, 0))) ∧ (w'.heap[gp2]? = some (.cells (a2).A 40 (0, 0))) ∧ (w'.heap[gb136]? = some (.cells #[.int .i8 a3_0, .int .i8 a3_1] 78 (0, 0))) ∧ (IsS72 w0 w' g s0_0 s0_1 s0_2 s0_3 s0_4 s0_5 s0_6 x1007_14 s0_8 s0_9) ∧ (KeepBut w w' g none) ∧ (Below w0.heap.size w0 w') ∧ (b 11 = true → b 12 = false → w'.heap[gb145]? = some (.cells #[.int .i8 0, .int .i8 0, .int .i8 0, .int .i8 0, .int .i8 0, .int .i8 0] 44 (0, 0))) ∧ (b 11 = true → w.heap.size ≤ gb145) ∧ (b 11 = true → w0.heap.size ≤ gb145) ∧ (b 11 = true → g ≠ gb145) ∧ (b 11 = true → gb145 ≠ g) ∧ (b 11 = true → gp1 ≠ gb145) ∧ (b 11 = true → gb145 ≠ gp1) ∧ (b 11 = true → gp2 ≠ gb145) ∧ (b 11 = true → gb145 ≠ gp2) ∧ (b 11 = true → gb136 ≠ gb145) ∧ (b 11 = true → gb145 ≠ gb136) ∧ (b 12 = true → w'.heap[gb145]? = some (.cells #[.int .i8 t138, .int .i8 t139, .int .i8 t140, .int .i8 t141, .int .i8 t142, .int .i8 t143] 44 (0, 0))) ∧ (b 11 = true → (m11_ : Value) = .pointer (some ⟨gb145, 0, none⟩))) HT_.out HW_.out (by kernel_rfl) (by kernel_rfl) ?_ ?_ ?_
       ·exact ⟨0, .bool false, by simp only [putSel, Bool.false_eq_true, if_false], BK134.out, BK135.out, BK136.out, HI0.out, HK.out, HB.out, fun h_ => absurd h_ (by decide), fun h_ => absurd h_ (by decide), fun h_ => absurd h_ (by decide), fun h_ => absurd h_ (by decide), fun h_ => absurd h_ (by decide), fun h_ => absurd h_ (by decide), fun h_ => absurd h_ (by decide), fun h_ => absurd h_ (by decide), fun h_ => absurd h_ (by decide), fun h_ => absurd h_ (by decide), fun h_ => absurd h_ (by decide), fun h_ => absurd h_ (by decide), fun h_ => absurd h_ (by decide)⟩
       ·skip
        clear BK134 BK135 BK136 HB HI0 HK
        refine steps_cons ?_ ?_
        ·rintro b a w' ⟨gb145, m11_, ha, Q_BK134, Q_BK135, Q_BK136, Q_HI0, Q_HK, Q_HB, Q_BK145, Q_GW145, Q_GE145, Q_NB0_145, Q_NB145_0, Q_NB134_145, Q_NB145_134, Q_NB135_145, Q_NB145_135, Q_NB136_145, Q_NB145_136, Q_BK145_e12, Q_X11_⟩ hb_ hon hoff
         refine ⟨_, rfl, fun K hK => ?_⟩
         have e39 : a.tmps[39]? = some (.pointer (some ⟨g, 0, none⟩)) := by rw [ha]; exact (putSel_off rfl).trans rfl
         replace ha := Aside0.mk ha
         have BK134 := Aside0.mk Q_BK134
         have BK135 := Aside0.mk Q_BK135
         have BK136 := Aside0.mk Q_BK136
         have HI0 := Aside0.mk Q_HI0
         have HK := Aside0.mk Q_HK
         have HB := Aside0.mk Q_HB
         refine value_ (w1 := w') (v := .pointer (some ⟨g, 0, none⟩)) (by rfl) rfl ?_ ?_
         ·go_simp
          (try simp only [i64_w])
          try rfl
         refine hK.out _ _ ⟨gb145, m11_, (by rw [ha.out]; exact putSel_upk 0 hb_ rfl rfl rfl), Q_BK134, Q_BK135, Q_BK136, Q_HI0, Q_HK, Q_HB, Q_BK145, Q_GW145, Q_GE145, Q_NB0_145, Q_NB145_0, Q_NB134_145, Q_NB145_134, Q_NB135_145, Q_NB145_135, Q_NB136_145, Q_NB145_136, fun h0_ => absurd ((hoff 12 (by kernel_rfl)).symm.trans h0_) (by decide), Q_X11_⟩
        refine steps_cons ?_ ?_
        ·rintro b a w' ⟨gb145, m11_, ha, Q_BK134, Q_BK135, Q_BK136, Q_HI0, Q_HK, Q_HB, Q_BK145, Q_GW145, Q_GE145, Q_NB0_145, Q_NB145_0, Q_NB134_145, Q_NB145_134, Q_NB135_145, Q_NB145_135, Q_NB136_145, Q_NB145_136, Q_BK145_e12, Q_X11_⟩ hb_ hon hoff
         refine ⟨_, rfl, fun K hK => ?_⟩
         have e40 : a.tmps[40]? = some (.pointer (some ⟨g, 0, none⟩)) := by rw [ha]; exact putSel_on (e := (3, 40, .pointer (some ⟨g, 0, none⟩))) 0 rfl rfl (hon 3 (by kernel_rfl)) rfl
         replace ha := Aside0.mk ha
         have BK134 := Aside0.mk Q_BK134
         have BK135 := Aside0.mk Q_BK135
         have BK136 := Aside0.mk Q_BK136
         have HI0 := Aside0.mk Q_HI0
         have HK := Aside0.mk Q_HK
         have HB := Aside0.mk Q_HB
         refine value_ (w1 := w') (v := .pointer (some ⟨g, 0, none⟩)) (by rfl) rfl ?_ ?_
         ·go_simp
          (try simp only [i64_w])
          try rfl
         refine hK.out _ _ ⟨gb145, m11_, (by rw [ha.out]; exact putSel_upk 1 hb_ rfl rfl rfl), Q_BK134, Q_BK135, Q_BK136, Q_HI0, Q_HK, Q_HB, Q_BK145, Q_GW145, Q_GE145, Q_NB0_145, Q_NB145_0, Q_NB134_145, Q_NB145_134, Q_NB135_145, Q_NB145_135, Q_NB136_145, Q_NB145_136, fun h0_ => absurd ((hoff 12 (by kernel_rfl)).symm.trans h0_) (by decide), Q_X11_⟩
        refine steps_cons ?_ ?_
        ·rintro b a w' ⟨gb145, m11_, ha, Q_BK134, Q_BK135, Q_BK136, Q_HI0, Q_HK, Q_HB, Q_BK145, Q_GW145, Q_GE145, Q_NB0_145, Q_NB145_0, Q_NB134_145, Q_NB145_134, Q_NB135_145, Q_NB145_135, Q_NB136_145, Q_NB145_136, Q_BK145_e12, Q_X11_⟩ hb_ hon hoff
         refine ⟨_, rfl, fun K hK => ?_⟩
         have e41 : a.tmps[41]? = some (.pointer (some ⟨g, 0, none⟩)) := by rw [ha]; exact putSel_on (e := (4, 41, .pointer (some ⟨g, 0, none⟩))) 1 rfl rfl (hon 4 (by kernel_rfl)) rfl
         replace ha := Aside0.mk ha
         have BK134 := Aside0.mk Q_BK134
         have BK135 := Aside0.mk Q_BK135
         have BK136 := Aside0.mk Q_BK136
         have HI0 := Aside0.mk Q_HI0
         have HK := Aside0.mk Q_HK
         have HB := Aside0.mk Q_HB
         have hc0_ : w'.cell? ⟨g, 0, none⟩ = some (.int .i8 s0_0) := (by obtain ⟨HG_, _⟩ := HI0.out; exact cellS72_0 HG_)
         have hc1_ : w'.cell? ⟨g, 1, none⟩ = some (.int .i8 s0_1) := (by obtain ⟨HG_, _⟩ := HI0.out; exact cellS72_1 HG_)
         have hc2_ : w'.cell? ⟨g, 2, none⟩ = some (.int .i8 s0_2) := (by obtain ⟨HG_, _⟩ := HI0.out; exact cellS72_2 HG_)
         have hc3_ : w'.cell? ⟨g, 3, none⟩ = some (.int .i8 s0_3) := (by obtain ⟨HG_, _⟩ := HI0.out; exact cellS72_3 HG_)
         have hc4_ : w'.cell? ⟨g, 4, none⟩ = some (.int .i8 s0_4) := (by obtain ⟨HG_, _⟩ := HI0.out; exact cellS72_4 HG_)
         have hc5_ : w'.cell? ⟨g, 5, none⟩ = some (.int .i8 s0_5) := (by obtain ⟨HG_, _⟩ := HI0.out; exact cellS72_5 HG_)
         have hc6_ : w'.cell? ⟨g, 6, none⟩ = some (.bool s0_6) := (by obtain ⟨HG_, _⟩ := HI0.out; exact cellS72_6 HG_)
         have hc7_ : w'.cell? ⟨g, 7, none⟩ = some (.int .i64 x1007_14) := (by obtain ⟨HG_, _⟩ := HI0.out; exact cellS72_7 HG_)
         have hc8_ : w'.cell? ⟨g, 8, none⟩ = some (.int .i64 s0_8) := (by obtain ⟨HG_, _⟩ := HI0.out; exact cellS72_8 HG_)
         refine value_ (w1 := w') (v := .agg #[.int .i8 s0_0, .int .i8 s0_1, .int .i8 s0_2, .int .i8 s0_3, .int .i8 s0_4, .int .i8 s0_5]) (by rfl) rfl ?_ ?_
         ·go_simp
          (try simp only [i64_w])
          try rfl
         refine hK.out _ _ ⟨gb145, m11_, (by rw [ha.out]; exact putSel_upk 2 hb_ rfl rfl rfl), Q_BK134, Q_BK135, Q_BK136, Q_HI0, Q_HK, Q_HB, Q_BK145, Q_GW145, Q_GE145, Q_NB0_145, Q_NB145_0, Q_NB134_145, Q_NB145_134, Q_NB135_145, Q_NB145_135, Q_NB136_145, Q_NB145_136, fun h0_ => absurd ((hoff 12 (by kernel_rfl)).symm.trans h0_) (by decide), Q_X11_⟩
        refine steps_cons ?_ ?_
        ·rintro b a w' ⟨gb145, m11_, ha, Q_BK134, Q_BK135, Q_BK136, Q_HI0, Q_HK, Q_HB, Q_BK145, Q_GW145, Q_GE145, Q_NB0_145, Q_NB145_0, Q_NB134_145, Q_NB145_134, Q_NB135_145, Q_NB145_135, Q_NB136_145, Q_NB145_136, Q_BK145_e12, Q_X11_⟩ hb_ hon hoff
         refine ⟨_, rfl, fun K hK => ?_⟩
         have e8 : a.tmps[8]? = some (.pointer (some ⟨gb136, 0, none⟩)) := by rw [ha]; exact (putSel_off rfl).trans rfl
         replace ha := Aside0.mk ha
         have BK134 := Aside0.mk Q_BK134
         have BK135 := Aside0.mk Q_BK135
         have BK136 := Aside0.mk Q_BK136
         have HI0 := Aside0.mk Q_HI0
         have HK := Aside0.mk Q_HK
         have HB := Aside0.mk Q_HB
         have hc0_ : w'.cell? ⟨gb136, 0, none⟩ = some (.int .i8 a3_0) := (blk_cell BK136.out 0).trans rfl
         have hc1_ : w'.cell? ⟨gb136, 1, none⟩ = some (.int .i8 a3_1) := (blk_cell BK136.out 1).trans rfl
         refine value_ (w1 := w') (v := .agg #[.int .i8 a3_0, .int .i8 a3_1]) (by rfl) rfl ?_ ?_
         ·go_simp
          (try simp only [i64_w])
          try rfl
         refine hK.out _ _ ⟨gb145, m11_, (by rw [ha.out]; exact putSel_upk 3 hb_ rfl rfl rfl), Q_BK134, Q_BK135, Q_BK136, Q_HI0, Q_HK, Q_HB, Q_BK145, Q_GW145, Q_GE145, Q_NB0_145, Q_NB145_0, Q_NB134_145, Q_NB145_134, Q_NB135_145, Q_NB145_135, Q_NB136_145, Q_NB145_136, fun h0_ => absurd ((hoff 12 (by kernel_rfl)).symm.trans h0_) (by decide), Q_X11_⟩
        refine steps_cons ?_ ?_
        ·rintro b a w' ⟨gb145, m11_, ha, Q_BK134, Q_BK135, Q_BK136, Q_HI0, Q_HK, Q_HB, Q_BK145, Q_GW145, Q_GE145, Q_NB0_145, Q_NB145_0, Q_NB134_145, Q_NB145_134, Q_NB135_145, Q_NB145_135, Q_NB136_145, Q_NB145_136, Q_BK145_e12, Q_X11_⟩ hb_ hon hoff
         refine ⟨_, rfl, fun K hK => ?_⟩
         have e37 : a.tmps[37]? = some (.pointer (some ⟨gp1, 0, none⟩)) := by rw [ha]; exact (putSel_off rfl).trans rfl
         have e38 : a.tmps[38]? = some (.pointer (some ⟨gp2, 0, none⟩)) := by rw [ha]; exact (putSel_off rfl).trans rfl
         have e42 : a.tmps[42]? = some (.agg #[.int .i8 s0_0, .int .i8 s0_1, .int .i8 s0_2, .int .i8 s0_3, .int .i8 s0_4, .int .i8 s0_5]) := by rw [ha]; exact putSel_on (e := (5, 42, .agg #[.int .i8 s0_0, .int .i8 s0_1, .int .i8 s0_2, .int .i8 s0_3, .int .i8 s0_4, .int .i8 s0_5])) 2 rfl rfl (hon 5 (by kernel_rfl)) rfl
         have e43 : a.tmps[43]? = some (.agg #[.int .i8 a3_0, .int .i8 a3_1]) := by rw [ha]; exact putSel_on (e := (6, 43, .agg #[.int .i8 a3_0, .int .i8 a3_1])) 3 rfl rfl (hon 6 (by kernel_rfl)) rfl
         replace ha := Aside0.mk ha
         have BK134 := Aside0.mk Q_BK134
         have BK135 := Aside0.mk Q_BK135
         have BK136 := Aside0.mk Q_BK136
         have HI0 := Aside0.mk Q_HI0
         have HK := Aside0.mk Q_HK
         have HB := Aside0.mk Q_HB
         refine goes_ Try.func67 (by kernel_rfl) rfl #[.pointer (some ⟨gp1, 0, none⟩), .pointer (some ⟨gp2, 0, none⟩), .agg #[.int .i8 s0_0, .int .i8 s0_1, .int .i8 s0_2, .int .i8 s0_3, .int .i8 s0_4, .int .i8 s0_5], .agg #[.int .i8 a3_0, .int .i8 a3_1]] (by rfl) rfl rfl (by first | (simp only [List.map_toArray, List.map_cons, List.map_nil, Act.eval, Array.getD_eq_getD_getElem?, Option.getD_some, e37, e38, e42, e43]; done) | (simp only [List.map_toArray, List.map_cons, List.map_nil, Act.eval, Array.getD_eq_getD_getElem?, Option.getD_some, e37, e38, e42, e43]; rfl)) ?_
         with_reducible refine (spec_l07Once.calls kj14 gp1 a1 gp2 a2 s0_0 s0_1 s0_2 s0_3 s0_4 s0_5 a3_0 a3_1 t138 t139 t140 t141 t142 t143 t144 _ ?side1 ?side2 A19.out).mono ?_
         (case side1 => (with_reducible repeat (first | refine blk_drewN ?_ _ | refine blk_drew ?_ | refine blk_alloc ?_ _)); exact BK134.out)
         (case side2 => (with_reducible repeat (first | refine blk_drewN ?_ _ | refine blk_drew ?_ | refine blk_alloc ?_ _)); exact BK135.out)
         rintro e w22 ⟨rfl, hb⟩
         refine ⟨_, rfl, ?_⟩
         have n0_ := Aside0.mk (sqB BK134.out hb)
         have n1_ := Aside0.mk (sqB BK135.out hb)
         have n2_ := Aside0.mk (sqB BK136.out hb)
         have n3_ := Aside0.mk (IsS72.below (by repeat (first | (with_reducible first | exact HI0.out | apply IsS72.alloc | apply IsS72.drewN | apply IsS72.drew | apply IsS72.set_0 | apply IsS72.set_1 | apply IsS72.set_2 | apply IsS72.set_3 | apply IsS72.set_4 | apply IsS72.set_5 | apply IsS72.set_6 | apply IsS72.set_7 | apply IsS72.set_8 | refine IsS72.far ?_ NB0_134.out _ | refine IsS72.far ?_ NB0_135.out _ | refine IsS72.far ?_ NB0_136.out _) | exact HI0.out)) hb)
         have n4_ := Aside0.mk (KeepBut.trans (by repeat (first | (with_reducible first | exact HK.out | apply KeepBut.set_ | apply keep_drewN | apply keep_drew | apply keep_alloc | refine keep_far ?_ GW134.out _ | refine keep_far ?_ GW135.out _ | refine keep_far ?_ GW136.out _) | exact HK.out)) (KeepBut.of_below hb g none) (.inl rfl))
         have n5_ := Aside0.mk (below_step (by repeat (first | (with_reducible first | exact HB.out | apply below_alloc | apply pw_below_drewN | apply below_drew1 | refine below_set ?_ (IsS72.ge HI0.out) | refine below_set ?_ GE134.out | refine below_set ?_ GE135.out | refine below_set ?_ GE136.out) | exact HB.out)) hb)
         have z_BK145 := fun (h0_ : b 11 = true) (h1_ : b 12 = false) => (show w22.heap[gb145]? = some (.cells #[.int .i8 0, .int .i8 0, .int .i8 0, .int .i8 0, .int .i8 0, .int .i8 0] 44 (0, 0)) from by first | exact (blk_below (g := gb145) (o := .cells #[.int .i8 0, .int .i8 0, .int .i8 0, .int .i8 0, .int .i8 0, .int .i8 0] 44 (0, 0)) (by (with_reducible repeat (first | refine blk_drewN ?_ _ | refine blk_drew ?_ | refine blk_alloc ?_ _)); exact (Q_BK145 h0_ h1_)) hb))
         clear BK134
         clear BK135
         clear BK136
         clear HI0
         clear HK
         clear HB
         have BK134 := n0_
         have BK135 := n1_
         have BK136 := n2_
         have HI0 := n3_
         have HK := n4_
         have HB := n5_
         clear n0_ n1_ n2_ n3_ n4_ n5_
         (try clear hb)
         (try clear hb2)
         (try clear hk)
         (try clear hi)
         refine hK.out _ _ ⟨gb145, m11_, (by rw [ha.out]; exact putSel_upk 4 hb_ rfl rfl rfl), (sqO BK134.out), (sqO BK135.out), (sqO BK136.out), (by repeat (first | (with_reducible first | exact HI0.out | apply IsS72.alloc | apply IsS72.drewN | apply IsS72.drew | apply IsS72.set_0 | apply IsS72.set_1 | apply IsS72.set_2 | apply IsS72.set_3 | apply IsS72.set_4 | apply IsS72.set_5 | apply IsS72.set_6 | apply IsS72.set_7 | apply IsS72.set_8 | refine IsS72.far ?_ NB0_134.out _ | refine IsS72.far ?_ NB0_135.out _ | refine IsS72.far ?_ NB0_136.out _) | exact HI0.out)), (by repeat (first | (with_reducible first | exact HK.out | apply KeepBut.set_ | apply keep_drewN | apply keep_drew | apply keep_alloc | refine keep_far ?_ GW134.out _ | refine keep_far ?_ GW135.out _ | refine keep_far ?_ GW136.out _) | exact HK.out)), (by repeat (first | (with_reducible first | exact HB.out | apply below_alloc | apply pw_below_drewN | apply below_drew1 | refine below_set ?_ (IsS72.ge HI0.out) | refine below_set ?_ GE134.out | refine below_set ?_ GE135.out | refine below_set ?_ GE136.out) | exact HB.out)), z_BK145, Q_GW145, Q_GE145, Q_NB0_145, Q_NB145_0, Q_NB134_145, Q_NB145_134, Q_NB135_145, Q_NB145_135, Q_NB136_145, Q_NB145_136, fun h0_ => absurd ((hoff 12 (by kernel_rfl)).symm.trans h0_) (by decide), Q_X11_⟩
        refine steps_cons ?_ ?_
        ·rintro b a w' ⟨gb145, m11_, ha, Q_BK134, Q_BK135, Q_BK136, Q_HI0, Q_HK, Q_HB, Q_BK145, Q_GW145, Q_GE145, Q_NB0_145, Q_NB145_0, Q_NB134_145, Q_NB145_134, Q_NB135_145, Q_NB145_135, Q_NB136_145, Q_NB145_136, Q_BK145_e12, Q_X11_⟩ hb_ hon hoff
         refine ⟨_, rfl, fun K hK => ?_⟩
         have e44 : a.tmps[44]? = some (.tuple #[.agg #[.int .i8 t138, .int .i8 t139, .int .i8 t140, .int .i8 t141, .int .i8 t142, .int .i8 t143], .bool t144]) := by rw [ha]; exact putSel_on (e := (7, 44, .tuple #[.agg #[.int .i8 t138, .int .i8 t139, .int .i8 t140, .int .i8 t141, .int .i8 t142, .int .i8 t143], .bool t144])) 4 rfl rfl (hon 7 (by kernel_rfl)) rfl
         replace ha := Aside0.mk ha
         have BK134 := Aside0.mk Q_BK134
         have BK135 := Aside0.mk Q_BK135
         have BK136 := Aside0.mk Q_BK136
         have HI0 := Aside0.mk Q_HI0
         have HK := Aside0.mk Q_HK
         have HB := Aside0.mk Q_HB
         refine value_ (w1 := w') (v := .tuple #[.agg #[.int .i8 t138, .int .i8 t139, .int .i8 t140, .int .i8 t141, .int .i8 t142, .int .i8 t143], .bool t144]) (by rfl) rfl ?_ ?_
         ·go_simp
          (try simp only [i64_w])
          try rfl
         refine hK.out _ _ ⟨gb145, m11_, (by rw [ha.out]; exact putSel_upk 5 hb_ rfl rfl rfl), Q_BK134, Q_BK135, Q_BK136, Q_HI0, Q_HK, Q_HB, Q_BK145, Q_GW145, Q_GE145, Q_NB0_145, Q_NB145_0, Q_NB134_145, Q_NB145_134, Q_NB135_145, Q_NB145_135, Q_NB136_145, Q_NB145_136, fun h0_ => absurd ((hoff 12 (by kernel_rfl)).symm.trans h0_) (by decide), Q_X11_⟩
        refine steps_cons ?_ ?_
        ·rintro b a w' ⟨gb145, m11_, ha, Q_BK134, Q_BK135, Q_BK136, Q_HI0, Q_HK, Q_HB, Q_BK145, Q_GW145, Q_GE145, Q_NB0_145, Q_NB145_0, Q_NB134_145, Q_NB145_134, Q_NB135_145, Q_NB145_135, Q_NB136_145, Q_NB145_136, Q_BK145_e12, Q_X11_⟩ hb_ hon hoff
         refine ⟨_, rfl, fun K hK => ?_⟩
         have e36 : a.tmps[36]? = some (.tuple #[.agg #[.int .i8 t138, .int .i8 t139, .int .i8 t140, .int .i8 t141, .int .i8 t142, .int .i8 t143], .bool t144]) := by rw [ha]; exact putSel_on (e := (8, 36, .tuple #[.agg #[.int .i8 t138, .int .i8 t139, .int .i8 t140, .int .i8 t141, .int .i8 t142, .int .i8 t143], .bool t144])) 5 rfl rfl (hon 8 (by kernel_rfl)) rfl
         replace ha := Aside0.mk ha
         have BK134 := Aside0.mk Q_BK134
         have BK135 := Aside0.mk Q_BK135
         have BK136 := Aside0.mk Q_BK136
         have HI0 := Aside0.mk Q_HI0
         have HK := Aside0.mk Q_HK
         have HB := Aside0.mk Q_HB
         refine value_ (w1 := w') (v := .agg #[.int .i8 t138, .int .i8 t139, .int .i8 t140, .int .i8 t141, .int .i8 t142, .int .i8 t143]) (by rfl) rfl ?_ ?_
         ·go_simp
          (try simp only [i64_w])
          try rfl
         refine hK.out _ _ ⟨gb145, m11_, (by rw [ha.out]; exact putSel_upk 6 hb_ rfl rfl rfl), Q_BK134, Q_BK135, Q_BK136, Q_HI0, Q_HK, Q_HB, Q_BK145, Q_GW145, Q_GE145, Q_NB0_145, Q_NB145_0, Q_NB134_145, Q_NB145_134, Q_NB135_145, Q_NB145_135, Q_NB136_145, Q_NB145_136, fun h0_ => absurd ((hoff 12 (by kernel_rfl)).symm.trans h0_) (by decide), Q_X11_⟩
        refine steps_cons ?_ ?_
        ·rintro b a w' ⟨gb145, m11_, ha, Q_BK134, Q_BK135, Q_BK136, Q_HI0, Q_HK, Q_HB, Q_BK145, Q_GW145, Q_GE145, Q_NB0_145, Q_NB145_0, Q_NB134_145, Q_NB145_134, Q_NB135_145, Q_NB145_135, Q_NB136_145, Q_NB145_136, Q_BK145_e12, Q_X11_⟩ hb_ hon hoff
         refine ⟨_, rfl, fun K hK => ?_⟩
         have e36 : a.tmps[36]? = some (.tuple #[.agg #[.int .i8 t138, .int .i8 t139, .int .i8 t140, .int .i8 t141, .int .i8 t142, .int .i8 t143], .bool t144]) := by rw [ha]; exact putSel_on (e := (8, 36, .tuple #[.agg #[.int .i8 t138, .int .i8 t139, .int .i8 t140, .int .i8 t141, .int .i8 t142, .int .i8 t143], .bool t144])) 5 rfl rfl (hon 8 (by kernel_rfl)) rfl
         replace ha := Aside0.mk ha
         have BK134 := Aside0.mk Q_BK134
         have BK135 := Aside0.mk Q_BK135
         have BK136 := Aside0.mk Q_BK136
         have HI0 := Aside0.mk Q_HI0
         have HK := Aside0.mk Q_HK
         have HB := Aside0.mk Q_HB
         refine value_ (w1 := w') (v := .bool t144) (by rfl) rfl ?_ ?_
         ·go_simp
          (try simp only [i64_w])
          try rfl
         refine hK.out _ _ ⟨gb145, m11_, (by rw [ha.out]; exact putSel_upk 7 hb_ rfl rfl rfl), Q_BK134, Q_BK135, Q_BK136, Q_HI0, Q_HK, Q_HB, Q_BK145, Q_GW145, Q_GE145, Q_NB0_145, Q_NB145_0, Q_NB134_145, Q_NB145_134, Q_NB135_145, Q_NB145_135, Q_NB136_145, Q_NB145_136, Q_BK145_e12, Q_X11_⟩
        refine steps_cons ?_ ?_
        ·rintro b a w' ⟨gb145, m11_, ha, Q_BK134, Q_BK135, Q_BK136, Q_HI0, Q_HK, Q_HB, Q_BK145, Q_GW145, Q_GE145, Q_NB0_145, Q_NB145_0, Q_NB134_145, Q_NB145_134, Q_NB135_145, Q_NB145_135, Q_NB136_145, Q_NB145_136, Q_BK145_e12, Q_X11_⟩ hb_ hon hoff
         refine ⟨_, rfl, fun K hK => ?_⟩
         replace ha := Aside0.mk ha
         have BK134 := Aside0.mk Q_BK134
         have BK135 := Aside0.mk Q_BK135
         have BK136 := Aside0.mk Q_BK136
         have HI0 := Aside0.mk Q_HI0
         have HK := Aside0.mk Q_HK
         have HB := Aside0.mk Q_HB
         refine box_step ?hg (N := 10) ?hd (cs := #[.int .i8 0, .int .i8 0, .int .i8 0, .int .i8 0, .int .i8 0, .int .i8 0]) (t := 44) ?hr ?_; (case hd => rfl); (case hg => rfl); (case hr => first | (go_simp; done) | (go_simp; rfl))
         intro gb145 hg w22 hbox hb
         replace HB := Aside0.mk (below_step (by repeat (first | (with_reducible first | exact HB.out | apply below_alloc | apply pw_below_drewN | apply below_drew1 | refine below_set ?_ (IsS72.ge HI0.out) | refine below_set ?_ GE134.out | refine below_set ?_ GE135.out | refine below_set ?_ GE136.out) | exact HB.out)) hb)
         have BK145 := Aside0.mk (hbox)
         have GW145 := Aside0.mk ((by rw [hg]; exact (keep_size (w := w) (g := g) (row := none) (by repeat (first | (with_reducible first | exact HK.out | apply KeepBut.set_ | apply keep_drewN | apply keep_drew | apply keep_alloc | refine keep_far ?_ GW134.out _ | refine keep_far ?_ GW135.out _ | refine keep_far ?_ GW136.out _) | exact HK.out))) : w.heap.size ≤ gb145))
         have GE145 := Aside0.mk ((Nat.le_trans HW0.out (by rw [hg]; exact (keep_size (w := w) (g := g) (row := none) (by repeat (first | (with_reducible first | exact HK.out | apply KeepBut.set_ | apply keep_drewN | apply keep_drew | apply keep_alloc | refine keep_far ?_ GW134.out _ | refine keep_far ?_ GW135.out _ | refine keep_far ?_ GW136.out _) | exact HK.out))) : w.heap.size ≤ gb145) : w0.heap.size ≤ gb145))
         replace HK := Aside0.mk (KeepBut.trans (by repeat (first | (with_reducible first | exact HK.out | apply KeepBut.set_ | apply keep_drewN | apply keep_drew | apply keep_alloc | refine keep_far ?_ GW134.out _ | refine keep_far ?_ GW135.out _ | refine keep_far ?_ GW136.out _) | exact HK.out)) (KeepBut.of_below hb g none) (.inl rfl))
         have NB134_145 := Aside0.mk (sqN BK134.out hg)
         have NB145_134 := Aside0.mk ((by rw [hg]; exact Nat.ne_of_gt (blk_lt (g := gp1) (o := .cells (a1).A 38 (0, 0)) (sqO BK134.out)) : gb145 ≠ gp1))
         replace BK134 := Aside0.mk (sqB BK134.out hb)
         have NB135_145 := Aside0.mk (sqN BK135.out hg)
         have NB145_135 := Aside0.mk ((by rw [hg]; exact Nat.ne_of_gt (blk_lt (g := gp2) (o := .cells (a2).A 40 (0, 0)) (sqO BK135.out)) : gb145 ≠ gp2))
         replace BK135 := Aside0.mk (sqB BK135.out hb)
         have NB136_145 := Aside0.mk (sqN BK136.out hg)
         have NB145_136 := Aside0.mk ((by rw [hg]; exact Nat.ne_of_gt (blk_lt (g := gb136) (o := .cells #[.int .i8 a3_0, .int .i8 a3_1] 78 (0, 0)) (sqO BK136.out)) : gb145 ≠ gb136))
         replace BK136 := Aside0.mk (sqB BK136.out hb)
         have NB0_145 := Aside0.mk ((by rw [hg]; exact Nat.ne_of_lt (IsS72.lt (show IsS72 w0 _ g s0_0 s0_1 s0_2 s0_3 s0_4 s0_5 s0_6 x1007_14 s0_8 s0_9 from by repeat (first | (with_reducible first | exact HI0.out | apply IsS72.alloc | apply IsS72.drewN | apply IsS72.drew | apply IsS72.set_0 | apply IsS72.set_1 | apply IsS72.set_2 | apply IsS72.set_3 | apply IsS72.set_4 | apply IsS72.set_5 | apply IsS72.set_6 | apply IsS72.set_7 | apply IsS72.set_8 | refine IsS72.far ?_ NB0_134.out _ | refine IsS72.far ?_ NB0_135.out _ | refine IsS72.far ?_ NB0_136.out _) | exact HI0.out))) : g ≠ gb145))
         have NB145_0 := Aside0.mk ((by rw [hg]; exact Nat.ne_of_gt (IsS72.lt (show IsS72 w0 _ g s0_0 s0_1 s0_2 s0_3 s0_4 s0_5 s0_6 x1007_14 s0_8 s0_9 from by repeat (first | (with_reducible first | exact HI0.out | apply IsS72.alloc | apply IsS72.drewN | apply IsS72.drew | apply IsS72.set_0 | apply IsS72.set_1 | apply IsS72.set_2 | apply IsS72.set_3 | apply IsS72.set_4 | apply IsS72.set_5 | apply IsS72.set_6 | apply IsS72.set_7 | apply IsS72.set_8 | refine IsS72.far ?_ NB0_134.out _ | refine IsS72.far ?_ NB0_135.out _ | refine IsS72.far ?_ NB0_136.out _) | exact HI0.out))) : gb145 ≠ g))
         replace HI0 := Aside0.mk (IsS72.below (by repeat (first | (with_reducible first | exact HI0.out | apply IsS72.alloc | apply IsS72.drewN | apply IsS72.drew | apply IsS72.set_0 | apply IsS72.set_1 | apply IsS72.set_2 | apply IsS72.set_3 | apply IsS72.set_4 | apply IsS72.set_5 | apply IsS72.set_6 | apply IsS72.set_7 | apply IsS72.set_8 | refine IsS72.far ?_ NB0_134.out _ | refine IsS72.far ?_ NB0_135.out _ | refine IsS72.far ?_ NB0_136.out _) | exact HI0.out)) hb)
         clear hb hbox hg
         refine hK.out _ _ ⟨gb145, (.pointer (some ⟨gb145, 0, none⟩)), (by rw [ha.out]; exact putSel_upk 8 hb_ rfl rfl rfl), (sqO BK134.out), (sqO BK135.out), (sqO BK136.out), (by repeat (first | (with_reducible first | exact HI0.out | apply IsS72.alloc | apply IsS72.drewN | apply IsS72.drew | apply IsS72.set_0 | apply IsS72.set_1 | apply IsS72.set_2 | apply IsS72.set_3 | apply IsS72.set_4 | apply IsS72.set_5 | apply IsS72.set_6 | apply IsS72.set_7 | apply IsS72.set_8 | refine IsS72.far ?_ NB0_134.out _ | refine IsS72.far ?_ NB0_135.out _ | refine IsS72.far ?_ NB0_136.out _ | refine IsS72.far ?_ NB0_145.out _) | exact HI0.out)), (by repeat (first | (with_reducible first | exact HK.out | apply KeepBut.set_ | apply keep_drewN | apply keep_drew | apply keep_alloc | refine keep_far ?_ GW134.out _ | refine keep_far ?_ GW135.out _ | refine keep_far ?_ GW136.out _ | refine keep_far ?_ GW145.out _) | exact HK.out)), (by repeat (first | (with_reducible first | exact HB.out | apply below_alloc | apply pw_below_drewN | apply below_drew1 | refine below_set ?_ (IsS72.ge HI0.out) | refine below_set ?_ GE134.out | refine below_set ?_ GE135.out | refine below_set ?_ GE136.out | refine below_set ?_ GE145.out) | exact HB.out)), fun _ _ => (sqO BK145.out), fun _ => GW145.out, fun _ => GE145.out, fun _ => NB0_145.out, fun _ => NB145_0.out, fun _ => NB134_145.out, fun _ => NB145_134.out, fun _ => NB135_145.out, fun _ => NB145_135.out, fun _ => NB136_145.out, fun _ => NB145_136.out, fun h0_ => absurd ((hoff 12 (by kernel_rfl)).symm.trans h0_) (by decide), fun _ => rfl⟩
        refine steps_cons ?_ ?_
        ·rintro b a w' ⟨gb145, m11_, ha, Q_BK134, Q_BK135, Q_BK136, Q_HI0, Q_HK, Q_HB, Q_BK145, Q_GW145, Q_GE145, Q_NB0_145, Q_NB145_0, Q_NB134_145, Q_NB145_134, Q_NB135_145, Q_NB145_135, Q_NB136_145, Q_NB145_136, Q_BK145_e12, Q_X11_⟩ hb_ hon hoff
         refine ⟨_, rfl, fun K hK => ?_⟩
         have e10 : a.tmps[10]? = some (m11_) := by rw [ha]; exact putSel_on (e := (11, 10, m11_)) 8 rfl rfl (hon 11 (by kernel_rfl)) rfl
         rw [Q_X11_ (hon 11 (by kernel_rfl))] at e10
         have e45 : a.tmps[45]? = some (.agg #[.int .i8 t138, .int .i8 t139, .int .i8 t140, .int .i8 t141, .int .i8 t142, .int .i8 t143]) := by rw [ha]; exact putSel_on (e := (9, 45, .agg #[.int .i8 t138, .int .i8 t139, .int .i8 t140, .int .i8 t141, .int .i8 t142, .int .i8 t143])) 6 rfl rfl (hon 9 (by kernel_rfl)) rfl
         replace ha := Aside0.mk ha
         have BK134 := Aside0.mk Q_BK134
         have BK135 := Aside0.mk Q_BK135
         have BK136 := Aside0.mk Q_BK136
         have HI0 := Aside0.mk Q_HI0
         have HK := Aside0.mk Q_HK
         have HB := Aside0.mk Q_HB
         have BK145 := Aside0.mk (Q_BK145 (hon 11 (by kernel_rfl)) hb_)
         have GW145 := Aside0.mk (Q_GW145 (hon 11 (by kernel_rfl)))
         have GE145 := Aside0.mk (Q_GE145 (hon 11 (by kernel_rfl)))
         have NB0_145 := Aside0.mk (Q_NB0_145 (hon 11 (by kernel_rfl)))
         have NB145_0 := Aside0.mk (Q_NB145_0 (hon 11 (by kernel_rfl)))
         have NB134_145 := Aside0.mk (Q_NB134_145 (hon 11 (by kernel_rfl)))
         have NB145_134 := Aside0.mk (Q_NB145_134 (hon 11 (by kernel_rfl)))
         have NB135_145 := Aside0.mk (Q_NB135_145 (hon 11 (by kernel_rfl)))
         have NB145_135 := Aside0.mk (Q_NB145_135 (hon 11 (by kernel_rfl)))
         have NB136_145 := Aside0.mk (Q_NB136_145 (hon 11 (by kernel_rfl)))
         have NB145_136 := Aside0.mk (Q_NB145_136 (hon 11 (by kernel_rfl)))
         have hs25 : w'.cell? ⟨gb145, 0, none⟩ = some (.int .i8 0) := (blk_cell BK145.out 0).trans rfl
         have hfs25 := blk_frozen BK145.out 0
         have hns25_0 := NB134_145.out
         have hns25_1 := NB135_145.out
         have hns25_2 := NB136_145.out
         have hms25_0 := NB145_134.out
         have hms25_1 := NB145_135.out
         have hms25_2 := NB145_136.out
         have hs26 : w'.cell? ⟨gb145, 1, none⟩ = some (.int .i8 0) := (blk_cell BK145.out 1).trans rfl
         have hfs26 := blk_frozen BK145.out 1
         have hns26_0 := NB134_145.out
         have hns26_1 := NB135_145.out
         have hns26_2 := NB136_145.out
         have hms26_0 := NB145_134.out
         have hms26_1 := NB145_135.out
         have hms26_2 := NB145_136.out
         have hs27 : w'.cell? ⟨gb145, 2, none⟩ = some (.int .i8 0) := (blk_cell BK145.out 2).trans rfl
         have hfs27 := blk_frozen BK145.out 2
         have hns27_0 := NB134_145.out
         have hns27_1 := NB135_145.out
         have hns27_2 := NB136_145.out
         have hms27_0 := NB145_134.out
         have hms27_1 := NB145_135.out
         have hms27_2 := NB145_136.out
         have hs28 : w'.cell? ⟨gb145, 3, none⟩ = some (.int .i8 0) := (blk_cell BK145.out 3).trans rfl
         have hfs28 := blk_frozen BK145.out 3
         have hns28_0 := NB134_145.out
         have hns28_1 := NB135_145.out
         have hns28_2 := NB136_145.out
         have hms28_0 := NB145_134.out
         have hms28_1 := NB145_135.out
         have hms28_2 := NB145_136.out
         have hs29 : w'.cell? ⟨gb145, 4, none⟩ = some (.int .i8 0) := (blk_cell BK145.out 4).trans rfl
         have hfs29 := blk_frozen BK145.out 4
         have hns29_0 := NB134_145.out
         have hns29_1 := NB135_145.out
         have hns29_2 := NB136_145.out
         have hms29_0 := NB145_134.out
         have hms29_1 := NB145_135.out
         have hms29_2 := NB145_136.out
         have hs30 : w'.cell? ⟨gb145, 5, none⟩ = some (.int .i8 0) := (blk_cell BK145.out 5).trans rfl
         have hfs30 := blk_frozen BK145.out 5
         have hns30_0 := NB134_145.out
         have hns30_1 := NB135_145.out
         have hns30_2 := NB136_145.out
         have hms30_0 := NB145_134.out
         have hms30_1 := NB145_135.out
         have hms30_2 := NB145_136.out
         refine skip_ (w1 := ?_) (by rfl) rfl ?_ ?_
         rotate_left
         ·go_simp
          rfl
         refine hK.out _ _ ⟨gb145, m11_, (by rw [ha.out]; exact putSel_none (v := undef) rfl), (by (with_reducible repeat (first | refine blk_drewN ?_ _ | refine blk_drew ?_ | refine blk_alloc ?_ _)); refine blk_far ?_ NB134_145.out _; (with_reducible repeat (first | refine blk_drewN ?_ _ | refine blk_drew ?_ | refine blk_alloc ?_ _)); refine blk_far ?_ NB134_145.out _; (with_reducible repeat (first | refine blk_drewN ?_ _ | refine blk_drew ?_ | refine blk_alloc ?_ _)); refine blk_far ?_ NB134_145.out _; (with_reducible repeat (first | refine blk_drewN ?_ _ | refine blk_drew ?_ | refine blk_alloc ?_ _)); refine blk_far ?_ NB134_145.out _; (with_reducible repeat (first | refine blk_drewN ?_ _ | refine blk_drew ?_ | refine blk_alloc ?_ _)); refine blk_far ?_ NB134_145.out _; (with_reducible repeat (first | refine blk_drewN ?_ _ | refine blk_drew ?_ | refine blk_alloc ?_ _)); refine blk_far ?_ NB134_145.out _; (with_reducible repeat (first | refine blk_drewN ?_ _ | refine blk_drew ?_ | refine blk_alloc ?_ _)); exact BK134.out), (by (with_reducible repeat (first | refine blk_drewN ?_ _ | refine blk_drew ?_ | refine blk_alloc ?_ _)); refine blk_far ?_ NB135_145.out _; (with_reducible repeat (first | refine blk_drewN ?_ _ | refine blk_drew ?_ | refine blk_alloc ?_ _)); refine blk_far ?_ NB135_145.out _; (with_reducible repeat (first | refine blk_drewN ?_ _ | refine blk_drew ?_ | refine blk_alloc ?_ _)); refine blk_far ?_ NB135_145.out _; (with_reducible repeat (first | refine blk_drewN ?_ _ | refine blk_drew ?_ | refine blk_alloc ?_ _)); refine blk_far ?_ NB135_145.out _; (with_reducible repeat (first | refine blk_drewN ?_ _ | refine blk_drew ?_ | refine blk_alloc ?_ _)); refine blk_far ?_ NB135_145.out _; (with_reducible repeat (first | refine blk_drewN ?_ _ | refine blk_drew ?_ | refine blk_alloc ?_ _)); refine blk_far ?_ NB135_145.out _; (with_reducible repeat (first | refine blk_drewN ?_ _ | refine blk_drew ?_ | refine blk_alloc ?_ _)); exact BK135.out), (by (with_reducible repeat (first | refine blk_drewN ?_ _ | refine blk_drew ?_ | refine blk_alloc ?_ _)); refine blk_far ?_ NB136_145.out _; (with_reducible repeat (first | refine blk_drewN ?_ _ | refine blk_drew ?_ | refine blk_alloc ?_ _)); refine blk_far ?_ NB136_145.out _; (with_reducible repeat (first | refine blk_drewN ?_ _ | refine blk_drew ?_ | refine blk_alloc ?_ _)); refine blk_far ?_ NB136_145.out _; (with_reducible repeat (first | refine blk_drewN ?_ _ | refine blk_drew ?_ | refine blk_alloc ?_ _)); refine blk_far ?_ NB136_145.out _; (with_reducible repeat (first | refine blk_drewN ?_ _ | refine blk_drew ?_ | refine blk_alloc ?_ _)); refine blk_far ?_ NB136_145.out _; (with_reducible repeat (first | refine blk_drewN ?_ _ | refine blk_drew ?_ | refine blk_alloc ?_ _)); refine blk_far ?_ NB136_145.out _; (with_reducible repeat (first | refine blk_drewN ?_ _ | refine blk_drew ?_ | refine blk_alloc ?_ _)); exact BK136.out), (by repeat (first | (with_reducible first | exact HI0.out | apply IsS72.alloc | apply IsS72.drewN | apply IsS72.drew | apply IsS72.set_0 | apply IsS72.set_1 | apply IsS72.set_2 | apply IsS72.set_3 | apply IsS72.set_4 | apply IsS72.set_5 | apply IsS72.set_6 | apply IsS72.set_7 | apply IsS72.set_8 | refine IsS72.far ?_ NB0_134.out _ | refine IsS72.far ?_ NB0_135.out _ | refine IsS72.far ?_ NB0_136.out _ | refine IsS72.far ?_ NB0_145.out _) | exact HI0.out)), (by repeat (first | (with_reducible first | exact HK.out | apply KeepBut.set_ | apply keep_drewN | apply keep_drew | apply keep_alloc | refine keep_far ?_ GW134.out _ | refine keep_far ?_ GW135.out _ | refine keep_far ?_ GW136.out _ | refine keep_far ?_ GW145.out _) | exact HK.out)), (by repeat (first | (with_reducible first | exact HB.out | apply below_alloc | apply pw_below_drewN | apply below_drew1 | refine below_set ?_ (IsS72.ge HI0.out) | refine below_set ?_ GE134.out | refine below_set ?_ GE135.out | refine below_set ?_ GE136.out | refine below_set ?_ GE145.out) | exact HB.out)), fun _ h1_ => absurd ((up_self b 12).symm.trans h1_) (by decide), fun _ => GW145.out, fun _ => GE145.out, fun _ => NB0_145.out, fun _ => NB145_0.out, fun _ => NB134_145.out, fun _ => NB145_134.out, fun _ => NB135_145.out, fun _ => NB145_135.out, fun _ => NB136_145.out, fun _ => NB145_136.out, fun _ => (by (with_reducible repeat (first | refine blk_drewN ?_ _ | refine blk_drew ?_ | refine blk_alloc ?_ _)); refine blk_put (cs := #[.int .i8 t138, .int .i8 t139, .int .i8 t140, .int .i8 t141, .int .i8 t142, .int .i8 0]) ?_ 5 _ rfl; (with_reducible repeat (first | refine blk_drewN ?_ _ | refine blk_drew ?_ | refine blk_alloc ?_ _)); refine blk_put (cs := #[.int .i8 t138, .int .i8 t139, .int .i8 t140, .int .i8 t141, .int .i8 0, .int .i8 0]) ?_ 4 _ rfl; (with_reducible repeat (first | refine blk_drewN ?_ _ | refine blk_drew ?_ | refine blk_alloc ?_ _)); refine blk_put (cs := #[.int .i8 t138, .int .i8 t139, .int .i8 t140, .int .i8 0, .int .i8 0, .int .i8 0]) ?_ 3 _ rfl; (with_reducible repeat (first | refine blk_drewN ?_ _ | refine blk_drew ?_ | refine blk_alloc ?_ _)); refine blk_put (cs := #[.int .i8 t138, .int .i8 t139, .int .i8 0, .int .i8 0, .int .i8 0, .int .i8 0]) ?_ 2 _ rfl; (with_reducible repeat (first | refine blk_drewN ?_ _ | refine blk_drew ?_ | refine blk_alloc ?_ _)); refine blk_put (cs := #[.int .i8 t138, .int .i8 0, .int .i8 0, .int .i8 0, .int .i8 0, .int .i8 0]) ?_ 1 _ rfl; (with_reducible repeat (first | refine blk_drewN ?_ _ | refine blk_drew ?_ | refine blk_alloc ?_ _)); refine blk_put (cs := #[.int .i8 0, .int .i8 0, .int .i8 0, .int .i8 0, .int .i8 0, .int .i8 0]) ?_ 0 _ rfl; (with_reducible repeat (first | refine blk_drewN ?_ _ | refine blk_drew ?_ | refine blk_alloc ?_ _)); exact BK145.out), Q_X11_⟩
        refine steps_cons ?_ ?_
        ·rintro b a w' ⟨gb145, m11_, ha, Q_BK134, Q_BK135, Q_BK136, Q_HI0, Q_HK, Q_HB, Q_BK145, Q_GW145, Q_GE145, Q_NB0_145, Q_NB145_0, Q_NB134_145, Q_NB145_134, Q_NB135_145, Q_NB145_135, Q_NB136_145, Q_NB145_136, Q_BK145_e12, Q_X11_⟩ hb_ hon hoff
         refine ⟨_, rfl, fun K hK => ?_⟩
         have e46 : a.tmps[46]? = some (.bool t144) := by rw [ha]; exact putSel_on (e := (10, 46, .bool t144)) 7 rfl rfl (hon 10 (by kernel_rfl)) rfl
         replace ha := Aside0.mk ha
         have BK134 := Aside0.mk Q_BK134
         have BK135 := Aside0.mk Q_BK135
         have BK136 := Aside0.mk Q_BK136
         have HI0 := Aside0.mk Q_HI0
         have HK := Aside0.mk Q_HK
         have HB := Aside0.mk Q_HB
         have GW145 := Aside0.mk (Q_GW145 (hon 11 (by kernel_rfl)))
         have GE145 := Aside0.mk (Q_GE145 (hon 11 (by kernel_rfl)))
         have NB0_145 := Aside0.mk (Q_NB0_145 (hon 11 (by kernel_rfl)))
         have NB145_0 := Aside0.mk (Q_NB145_0 (hon 11 (by kernel_rfl)))
         have NB134_145 := Aside0.mk (Q_NB134_145 (hon 11 (by kernel_rfl)))
         have NB145_134 := Aside0.mk (Q_NB145_134 (hon 11 (by kernel_rfl)))
         have NB135_145 := Aside0.mk (Q_NB135_145 (hon 11 (by kernel_rfl)))
         have NB145_135 := Aside0.mk (Q_NB145_135 (hon 11 (by kernel_rfl)))
         have NB136_145 := Aside0.mk (Q_NB136_145 (hon 11 (by kernel_rfl)))
         have NB145_136 := Aside0.mk (Q_NB145_136 (hon 11 (by kernel_rfl)))
         have BK145 := Aside0.mk (Q_BK145_e12 (hon 12 (by kernel_rfl)))
         refine value_ (w1 := w') (v := .bool t144) (by rfl) rfl ?_ ?_
         ·go_simp
          (try simp only [i64_w])
          try rfl
         refine hK.out _ _ ⟨gb145, m11_, (by rw [ha.out]; exact putSel_upk 9 hb_ rfl rfl rfl), Q_BK134, Q_BK135, Q_BK136, Q_HI0, Q_HK, Q_HB, fun _ h1_ => absurd ((hon 12 (by kernel_rfl)).symm.trans h1_) (by decide), Q_GW145, Q_GE145, Q_NB0_145, Q_NB145_0, Q_NB134_145, Q_NB145_134, Q_NB135_145, Q_NB145_135, Q_NB136_145, Q_NB145_136, Q_BK145_e12, Q_X11_⟩
        exact steps_nil
       rintro b a w30 hall ⟨gb145, m11_, ha, Q_BK134, Q_BK135, Q_BK136, Q_HI0, Q_HK, Q_HB, Q_BK145, Q_GW145, Q_GE145, Q_NB0_145, Q_NB145_0, Q_NB134_145, Q_NB145_134, Q_NB135_145, Q_NB145_135, Q_NB136_145, Q_NB145_136, Q_BK145_e12, Q_X11_⟩
       clear BK134 BK135 BK136 HB HI0 HK
       have hb3_ := hall 3 (by kernel_rfl)
       have hb4_ := hall 4 (by kernel_rfl)
       have hb5_ := hall 5 (by kernel_rfl)
       have hb6_ := hall 6 (by kernel_rfl)
       have hb7_ := hall 7 (by kernel_rfl)
       have hb8_ := hall 8 (by kernel_rfl)
       have hb9_ := hall 9 (by kernel_rfl)
       have hb10_ := hall 10 (by kernel_rfl)
       have hb11_ := hall 11 (by kernel_rfl)
       have hb12_ := hall 12 (by kernel_rfl)
       have hb13_ := hall 13 (by kernel_rfl)
       subst ha
       obtain rfl := Q_X11_ hb11_
       simp only [putSel, hb3_, hb4_, hb5_, hb6_, hb7_, hb8_, hb9_, hb10_, hb11_, hb12_, hb13_, if_true, Act.put, List.setIfInBounds_toArray, List.set_cons_zero, List.set_cons_succ]
       have BK134 := Aside0.mk Q_BK134
       clear Q_BK134
       have BK135 := Aside0.mk Q_BK135
       clear Q_BK135
       have BK136 := Aside0.mk Q_BK136
       clear Q_BK136
       have HI0 := Aside0.mk Q_HI0
       clear Q_HI0
       have HK := Aside0.mk Q_HK
       clear Q_HK
       have HB := Aside0.mk Q_HB
       clear Q_HB
       clear Q_BK145
       have GW145 := Aside0.mk (Q_GW145 hb11_)
       clear Q_GW145
       have GE145 := Aside0.mk (Q_GE145 hb11_)
       clear Q_GE145
       have NB0_145 := Aside0.mk (Q_NB0_145 hb11_)
       clear Q_NB0_145
       have NB145_0 := Aside0.mk (Q_NB145_0 hb11_)
       clear Q_NB145_0
       have NB134_145 := Aside0.mk (Q_NB134_145 hb11_)
       clear Q_NB134_145
       have NB145_134 := Aside0.mk (Q_NB145_134 hb11_)
       clear Q_NB145_134
       have NB135_145 := Aside0.mk (Q_NB135_145 hb11_)
       clear Q_NB135_145
       have NB145_135 := Aside0.mk (Q_NB145_135 hb11_)
       clear Q_NB145_135
       have NB136_145 := Aside0.mk (Q_NB136_145 hb11_)
       clear Q_NB136_145
       have NB145_136 := Aside0.mk (Q_NB145_136 hb11_)
       clear Q_NB145_136
       have BK145 := Aside0.mk (Q_BK145_e12 hb12_)
       clear Q_BK145_e12
       clear hall hb3_ hb4_ hb5_ hb6_ hb7_ hb8_ hb9_ hb10_ hb11_ hb12_ hb13_
       have hnb31 := NB145_134.out
       have hnc31 := NB134_145.out
       have hnb32 := NB145_135.out
       have hnc32 := NB135_145.out
       have hnb33 := NB145_136.out
       have hnc33 := NB136_145.out
       have hnb34 := NB145_0.out
       have hnc34 := NB0_145.out
       have hcz35_0 : w30.cell? ⟨gb145, 0, none⟩ = some (.int .i8 t138) := (blk_cell BK145.out 0).trans rfl
       have hcz35_1 : w30.cell? ⟨gb145, 1, none⟩ = some (.int .i8 t139) := (blk_cell BK145.out 1).trans rfl
       have hcz35_2 : w30.cell? ⟨gb145, 2, none⟩ = some (.int .i8 t140) := (blk_cell BK145.out 2).trans rfl
       have hcz35_3 : w30.cell? ⟨gb145, 3, none⟩ = some (.int .i8 t141) := (blk_cell BK145.out 3).trans rfl
       have hcz35_4 : w30.cell? ⟨gb145, 4, none⟩ = some (.int .i8 t142) := (blk_cell BK145.out 4).trans rfl
       have hcz35_5 : w30.cell? ⟨gb145, 5, none⟩ = some (.int .i8 t143) := (blk_cell BK145.out 5).trans rfl
       have hfz35_0 := blk_frozen BK145.out 0
       have hfz35_1 := blk_frozen BK145.out 1
       have hfz35_2 := blk_frozen BK145.out 2
       have hfz35_3 := blk_frozen BK145.out 3
       have hfz35_4 := blk_frozen BK145.out 4
       have hfz35_5 := blk_frozen BK145.out 5
       obtain ⟨HGz36, hgz36⟩ := HI0.out
       have hcz36_0 := cellS72_0 HGz36
       have hcz36_1 := cellS72_1 HGz36
       have hcz36_2 := cellS72_2 HGz36
       have hcz36_3 := cellS72_3 HGz36
       have hcz36_4 := cellS72_4 HGz36
       have hcz36_5 := cellS72_5 HGz36
       have hcz36_6 := cellS72_6 HGz36
       have hcz36_7 := cellS72_7 HGz36
       have hcz36_8 := cellS72_8 HGz36
       have hcz36_9 := cellS72_9 HGz36
       have hfz36_0 := blk_frozen HGz36 0
       have hfz36_1 := blk_frozen HGz36 1
       have hfz36_2 := blk_frozen HGz36 2
       have hfz36_3 := blk_frozen HGz36 3
       have hfz36_4 := blk_frozen HGz36 4
       have hfz36_5 := blk_frozen HGz36 5
       have hfz36_6 := blk_frozen HGz36 6
       have hfz36_7 := blk_frozen HGz36 7
       have hfz36_8 := blk_frozen HGz36 8
       clear HGz36 hgz36
       go_upto_if 55 with (fail)
       go_cut [] (fun wc => ∃ (kq : Nat) (x1008_19 : Int), Aside0 (spec_l07Drift_hour.j2 kq t138 t139 t140 t141 t142 t143 t144 x1007_14 x1008_19 s0_9 = some (r1, r2, r3, r4, r5, r6, r7, r8, r9)) ∧ Aside0 (kq ≤ kj14) ∧ Aside0 (wc.heap[gp1]? = some (.cells (a1).A 38 (0, 0))) ∧ Aside0 (wc.heap[gp2]? = some (.cells (a2).A 40 (0, 0))) ∧ Aside0 (wc.heap[gb136]? = some (.cells #[.int .i8 a3_0, .int .i8 a3_1] 78 (0, 0))) ∧ Aside0 (wc.heap[gb145]? = some (.cells #[.int .i8 t138, .int .i8 t139, .int .i8 t140, .int .i8 t141, .int .i8 t142, .int .i8 t143] 44 (0, 0))) ∧ Aside0 (IsS72 w0 wc g t138 t139 t140 t141 t142 t143 t144 x1007_14 x1008_19 s0_9) ∧ Aside0 (KeepBut w wc g none) ∧ Aside0 (Below w0.heap.size w0 wc))
       case first =>
        have H := HC20.out
        clear HC20
        by_cases c37 : t144 = true
        ·subst c37
         have H1 : (spec_l07Drift_hour.j2 kj14 t138 t139 t140 t141 t142 t143 true x1007_14 a4 s0_9) = some (r1, r2, r3, r4, r5, r6, r7, r8, r9) := by rw [if_pos rfl] at H; exact H
         clear H
         have H := H1
         clear H1
         have H' := Aside0.mk H
         clear H
         obtain ⟨HGz38, hgz38⟩ := HI0.out
         have hcz38_0 := cellS72_0 HGz38
         have hcz38_1 := cellS72_1 HGz38
         have hcz38_2 := cellS72_2 HGz38
         have hcz38_3 := cellS72_3 HGz38
         have hcz38_4 := cellS72_4 HGz38
         have hcz38_5 := cellS72_5 HGz38
         have hcz38_6 := cellS72_6 HGz38
         have hcz38_7 := cellS72_7 HGz38
         have hcz38_8 := cellS72_8 HGz38
         have hcz38_9 := cellS72_9 HGz38
         have hfz38_0 := blk_frozen HGz38 0
         have hfz38_1 := blk_frozen HGz38 1
         have hfz38_2 := blk_frozen HGz38 2
         have hfz38_3 := blk_frozen HGz38 3
         have hfz38_4 := blk_frozen HGz38 4
         have hfz38_5 := blk_frozen HGz38 5
         have hfz38_6 := blk_frozen HGz38 6
         have hfz38_7 := blk_frozen HGz38 7
         have hfz38_8 := blk_frozen HGz38 8
         clear HGz38 hgz38
         go_wp2
         go_meet
         case rel => exact ⟨_, (a4), H', ⟨by have := HJ5.out; have := HJ14.out; first | omega | exact Nat.le_refl _⟩, ⟨by (with_reducible repeat (first | refine blk_drewN ?_ _ | refine blk_drew ?_ | refine blk_alloc ?_ _)); refine blk_far ?_ NB134_0.out _; (with_reducible repeat (first | refine blk_drewN ?_ _ | refine blk_drew ?_ | refine blk_alloc ?_ _)); refine blk_far ?_ NB134_0.out _; (with_reducible repeat (first | refine blk_drewN ?_ _ | refine blk_drew ?_ | refine blk_alloc ?_ _)); refine blk_far ?_ NB134_0.out _; (with_reducible repeat (first | refine blk_drewN ?_ _ | refine blk_drew ?_ | refine blk_alloc ?_ _)); refine blk_far ?_ NB134_0.out _; (with_reducible repeat (first | refine blk_drewN ?_ _ | refine blk_drew ?_ | refine blk_alloc ?_ _)); refine blk_far ?_ NB134_0.out _; (with_reducible repeat (first | refine blk_drewN ?_ _ | refine blk_drew ?_ | refine blk_alloc ?_ _)); refine blk_far ?_ NB134_0.out _; (with_reducible repeat (first | refine blk_drewN ?_ _ | refine blk_drew ?_ | refine blk_alloc ?_ _)); refine blk_far ?_ NB134_0.out _; (with_reducible repeat (first | refine blk_drewN ?_ _ | refine blk_drew ?_ | refine blk_alloc ?_ _)); refine blk_far ?_ NB134_0.out _; (with_reducible repeat (first | refine blk_drewN ?_ _ | refine blk_drew ?_ | refine blk_alloc ?_ _)); exact BK134.out⟩, ⟨by (with_reducible repeat (first | refine blk_drewN ?_ _ | refine blk_drew ?_ | refine blk_alloc ?_ _)); refine blk_far ?_ NB135_0.out _; (with_reducible repeat (first | refine blk_drewN ?_ _ | refine blk_drew ?_ | refine blk_alloc ?_ _)); refine blk_far ?_ NB135_0.out _; (with_reducible repeat (first | refine blk_drewN ?_ _ | refine blk_drew ?_ | refine blk_alloc ?_ _)); refine blk_far ?_ NB135_0.out _; (with_reducible repeat (first | refine blk_drewN ?_ _ | refine blk_drew ?_ | refine blk_alloc ?_ _)); refine blk_far ?_ NB135_0.out _; (with_reducible repeat (first | refine blk_drewN ?_ _ | refine blk_drew ?_ | refine blk_alloc ?_ _)); refine blk_far ?_ NB135_0.out _; (with_reducible repeat (first | refine blk_drewN ?_ _ | refine blk_drew ?_ | refine blk_alloc ?_ _)); refine blk_far ?_ NB135_0.out _; (with_reducible repeat (first | refine blk_drewN ?_ _ | refine blk_drew ?_ | refine blk_alloc ?_ _)); refine blk_far ?_ NB135_0.out _; (with_reducible repeat (first | refine blk_drewN ?_ _ | refine blk_drew ?_ | refine blk_alloc ?_ _)); refine blk_far ?_ NB135_0.out _; (with_reducible repeat (first | refine blk_drewN ?_ _ | refine blk_drew ?_ | refine blk_alloc ?_ _)); exact BK135.out⟩, ⟨by (with_reducible repeat (first | refine blk_drewN ?_ _ | refine blk_drew ?_ | refine blk_alloc ?_ _)); refine blk_far ?_ NB136_0.out _; (with_reducible repeat (first | refine blk_drewN ?_ _ | refine blk_drew ?_ | refine blk_alloc ?_ _)); refine blk_far ?_ NB136_0.out _; (with_reducible repeat (first | refine blk_drewN ?_ _ | refine blk_drew ?_ | refine blk_alloc ?_ _)); refine blk_far ?_ NB136_0.out _; (with_reducible repeat (first | refine blk_drewN ?_ _ | refine blk_drew ?_ | refine blk_alloc ?_ _)); refine blk_far ?_ NB136_0.out _; (with_reducible repeat (first | refine blk_drewN ?_ _ | refine blk_drew ?_ | refine blk_alloc ?_ _)); refine blk_far ?_ NB136_0.out _; (with_reducible repeat (first | refine blk_drewN ?_ _ | refine blk_drew ?_ | refine blk_alloc ?_ _)); refine blk_far ?_ NB136_0.out _; (with_reducible repeat (first | refine blk_drewN ?_ _ | refine blk_drew ?_ | refine blk_alloc ?_ _)); refine blk_far ?_ NB136_0.out _; (with_reducible repeat (first | refine blk_drewN ?_ _ | refine blk_drew ?_ | refine blk_alloc ?_ _)); refine blk_far ?_ NB136_0.out _; (with_reducible repeat (first | refine blk_drewN ?_ _ | refine blk_drew ?_ | refine blk_alloc ?_ _)); exact BK136.out⟩, ⟨by (with_reducible repeat (first | refine blk_drewN ?_ _ | refine blk_drew ?_ | refine blk_alloc ?_ _)); refine blk_far ?_ NB145_0.out _; (with_reducible repeat (first | refine blk_drewN ?_ _ | refine blk_drew ?_ | refine blk_alloc ?_ _)); refine blk_far ?_ NB145_0.out _; (with_reducible repeat (first | refine blk_drewN ?_ _ | refine blk_drew ?_ | refine blk_alloc ?_ _)); refine blk_far ?_ NB145_0.out _; (with_reducible repeat (first | refine blk_drewN ?_ _ | refine blk_drew ?_ | refine blk_alloc ?_ _)); refine blk_far ?_ NB145_0.out _; (with_reducible repeat (first | refine blk_drewN ?_ _ | refine blk_drew ?_ | refine blk_alloc ?_ _)); refine blk_far ?_ NB145_0.out _; (with_reducible repeat (first | refine blk_drewN ?_ _ | refine blk_drew ?_ | refine blk_alloc ?_ _)); refine blk_far ?_ NB145_0.out _; (with_reducible repeat (first | refine blk_drewN ?_ _ | refine blk_drew ?_ | refine blk_alloc ?_ _)); refine blk_far ?_ NB145_0.out _; (with_reducible repeat (first | refine blk_drewN ?_ _ | refine blk_drew ?_ | refine blk_alloc ?_ _)); refine blk_far ?_ NB145_0.out _; (with_reducible repeat (first | refine blk_drewN ?_ _ | refine blk_drew ?_ | refine blk_alloc ?_ _)); exact BK145.out⟩, ⟨by repeat (first | (with_reducible first | exact HI0.out | apply IsS72.alloc | apply IsS72.drewN | apply IsS72.drew | apply IsS72.set_0 | apply IsS72.set_1 | apply IsS72.set_2 | apply IsS72.set_3 | apply IsS72.set_4 | apply IsS72.set_5 | apply IsS72.set_6 | apply IsS72.set_7 | apply IsS72.set_8 | refine IsS72.far ?_ NB0_134.out _ | refine IsS72.far ?_ NB0_135.out _ | refine IsS72.far ?_ NB0_136.out _ | refine IsS72.far ?_ NB0_145.out _) | exact HI0.out)⟩, ⟨by repeat (first | (with_reducible first | exact HK.out | apply KeepBut.set_ | apply keep_drewN | apply keep_drew | apply keep_alloc | refine keep_far ?_ GW134.out _ | refine keep_far ?_ GW135.out _ | refine keep_far ?_ GW136.out _ | refine keep_far ?_ GW145.out _) | exact HK.out)⟩, ⟨by repeat (first | (with_reducible first | exact HB.out | apply below_alloc | apply pw_below_drewN | apply below_drew1 | refine below_set ?_ (IsS72.ge HI0.out) | refine below_set ?_ GE134.out | refine below_set ?_ GE135.out | refine below_set ?_ GE136.out | refine below_set ?_ GE145.out) | exact HB.out)⟩⟩
        ·replace c37 := Bool.eq_false_iff.mpr c37
         subst c37
         have H1 : (spec_l07Drift_hour.j2 kj14 t138 t139 t140 t141 t142 t143 false x1007_14 s0_8 s0_9) = some (r1, r2, r3, r4, r5, r6, r7, r8, r9) := by rw [if_neg (show ¬ (false = true) by decide)] at H; exact H
         clear H
         have H := H1
         clear H1
         have H' := Aside0.mk H
         clear H
         go_wp2
         go_meet
         case rel => exact ⟨_, (s0_8), H', ⟨by have := HJ5.out; have := HJ14.out; first | omega | exact Nat.le_refl _⟩, ⟨by (with_reducible repeat (first | refine blk_drewN ?_ _ | refine blk_drew ?_ | refine blk_alloc ?_ _)); refine blk_far ?_ NB134_0.out _; (with_reducible repeat (first | refine blk_drewN ?_ _ | refine blk_drew ?_ | refine blk_alloc ?_ _)); refine blk_far ?_ NB134_0.out _; (with_reducible repeat (first | refine blk_drewN ?_ _ | refine blk_drew ?_ | refine blk_alloc ?_ _)); refine blk_far ?_ NB134_0.out _; (with_reducible repeat (first | refine blk_drewN ?_ _ | refine blk_drew ?_ | refine blk_alloc ?_ _)); refine blk_far ?_ NB134_0.out _; (with_reducible repeat (first | refine blk_drewN ?_ _ | refine blk_drew ?_ | refine blk_alloc ?_ _)); refine blk_far ?_ NB134_0.out _; (with_reducible repeat (first | refine blk_drewN ?_ _ | refine blk_drew ?_ | refine blk_alloc ?_ _)); refine blk_far ?_ NB134_0.out _; (with_reducible repeat (first | refine blk_drewN ?_ _ | refine blk_drew ?_ | refine blk_alloc ?_ _)); refine blk_far ?_ NB134_0.out _; (with_reducible repeat (first | refine blk_drewN ?_ _ | refine blk_drew ?_ | refine blk_alloc ?_ _)); exact BK134.out⟩, ⟨by (with_reducible repeat (first | refine blk_drewN ?_ _ | refine blk_drew ?_ | refine blk_alloc ?_ _)); refine blk_far ?_ NB135_0.out _; (with_reducible repeat (first | refine blk_drewN ?_ _ | refine blk_drew ?_ | refine blk_alloc ?_ _)); refine blk_far ?_ NB135_0.out _; (with_reducible repeat (first | refine blk_drewN ?_ _ | refine blk_drew ?_ | refine blk_alloc ?_ _)); refine blk_far ?_ NB135_0.out _; (with_reducible repeat (first | refine blk_drewN ?_ _ | refine blk_drew ?_ | refine blk_alloc ?_ _)); refine blk_far ?_ NB135_0.out _; (with_reducible repeat (first | refine blk_drewN ?_ _ | refine blk_drew ?_ | refine blk_alloc ?_ _)); refine blk_far ?_ NB135_0.out _; (with_reducible repeat (first | refine blk_drewN ?_ _ | refine blk_drew ?_ | refine blk_alloc ?_ _)); refine blk_far ?_ NB135_0.out _; (with_reducible repeat (first | refine blk_drewN ?_ _ | refine blk_drew ?_ | refine blk_alloc ?_ _)); refine blk_far ?_ NB135_0.out _; (with_reducible repeat (first | refine blk_drewN ?_ _ | refine blk_drew ?_ | refine blk_alloc ?_ _)); exact BK135.out⟩, ⟨by (with_reducible repeat (first | refine blk_drewN ?_ _ | refine blk_drew ?_ | refine blk_alloc ?_ _)); refine blk_far ?_ NB136_0.out _; (with_reducible repeat (first | refine blk_drewN ?_ _ | refine blk_drew ?_ | refine blk_alloc ?_ _)); refine blk_far ?_ NB136_0.out _; (with_reducible repeat (first | refine blk_drewN ?_ _ | refine blk_drew ?_ | refine blk_alloc ?_ _)); refine blk_far ?_ NB136_0.out _; (with_reducible repeat (first | refine blk_drewN ?_ _ | refine blk_drew ?_ | refine blk_alloc ?_ _)); refine blk_far ?_ NB136_0.out _; (with_reducible repeat (first | refine blk_drewN ?_ _ | refine blk_drew ?_ | refine blk_alloc ?_ _)); refine blk_far ?_ NB136_0.out _; (with_reducible repeat (first | refine blk_drewN ?_ _ | refine blk_drew ?_ | refine blk_alloc ?_ _)); refine blk_far ?_ NB136_0.out _; (with_reducible repeat (first | refine blk_drewN ?_ _ | refine blk_drew ?_ | refine blk_alloc ?_ _)); refine blk_far ?_ NB136_0.out _; (with_reducible repeat (first | refine blk_drewN ?_ _ | refine blk_drew ?_ | refine blk_alloc ?_ _)); exact BK136.out⟩, ⟨by (with_reducible repeat (first | refine blk_drewN ?_ _ | refine blk_drew ?_ | refine blk_alloc ?_ _)); refine blk_far ?_ NB145_0.out _; (with_reducible repeat (first | refine blk_drewN ?_ _ | refine blk_drew ?_ | refine blk_alloc ?_ _)); refine blk_far ?_ NB145_0.out _; (with_reducible repeat (first | refine blk_drewN ?_ _ | refine blk_drew ?_ | refine blk_alloc ?_ _)); refine blk_far ?_ NB145_0.out _; (with_reducible repeat (first | refine blk_drewN ?_ _ | refine blk_drew ?_ | refine blk_alloc ?_ _)); refine blk_far ?_ NB145_0.out _; (with_reducible repeat (first | refine blk_drewN ?_ _ | refine blk_drew ?_ | refine blk_alloc ?_ _)); refine blk_far ?_ NB145_0.out _; (with_reducible repeat (first | refine blk_drewN ?_ _ | refine blk_drew ?_ | refine blk_alloc ?_ _)); refine blk_far ?_ NB145_0.out _; (with_reducible repeat (first | refine blk_drewN ?_ _ | refine blk_drew ?_ | refine blk_alloc ?_ _)); refine blk_far ?_ NB145_0.out _; (with_reducible repeat (first | refine blk_drewN ?_ _ | refine blk_drew ?_ | refine blk_alloc ?_ _)); exact BK145.out⟩, ⟨by repeat (first | (with_reducible first | exact HI0.out | apply IsS72.alloc | apply IsS72.drewN | apply IsS72.drew | apply IsS72.set_0 | apply IsS72.set_1 | apply IsS72.set_2 | apply IsS72.set_3 | apply IsS72.set_4 | apply IsS72.set_5 | apply IsS72.set_6 | apply IsS72.set_7 | apply IsS72.set_8 | refine IsS72.far ?_ NB0_134.out _ | refine IsS72.far ?_ NB0_135.out _ | refine IsS72.far ?_ NB0_136.out _ | refine IsS72.far ?_ NB0_145.out _) | exact HI0.out)⟩, ⟨by repeat (first | (with_reducible first | exact HK.out | apply KeepBut.set_ | apply keep_drewN | apply keep_drew | apply keep_alloc | refine keep_far ?_ GW134.out _ | refine keep_far ?_ GW135.out _ | refine keep_far ?_ GW136.out _ | refine keep_far ?_ GW145.out _) | exact HK.out)⟩, ⟨by repeat (first | (with_reducible first | exact HB.out | apply below_alloc | apply pw_below_drewN | apply below_drew1 | refine below_set ?_ (IsS72.ge HI0.out) | refine below_set ?_ GE134.out | refine below_set ?_ GE135.out | refine below_set ?_ GE136.out | refine below_set ?_ GE145.out) | exact HB.out)⟩⟩
       case rest =>
        clear HC20
        try clear c1
        try clear p1
        try clear c2
        try clear p2
        try clear c3
        try clear c4
        try clear c5
        try clear c6
        try clear c7
        try clear c8
        try clear c14
        try clear c17
        try clear c17b0
        try clear c31
        try clear c32
        try clear c33
        try clear c34
        try clear c37
        try clear hcz16_0
        try clear hcz16_1
        try clear hcz16_2
        try clear hcz16_3
        try clear hcz16_4
        try clear hcz16_5
        try clear hcz16_6
        try clear hcz16_7
        try clear hcz16_8
        try clear hcz16_9
        try clear hcz18_0
        try clear hcz18_1
        try clear hcz18_2
        try clear hcz18_3
        try clear hcz18_4
        try clear hcz18_5
        try clear hcz18_6
        try clear hcz18_7
        try clear hcz18_8
        try clear hcz18_9
        try clear hcz35_0
        try clear hcz35_1
        try clear hcz35_2
        try clear hcz35_3
        try clear hcz35_4
        try clear hcz35_5
        try clear hcz36_0
        try clear hcz36_1
        try clear hcz36_2
        try clear hcz36_3
        try clear hcz36_4
        try clear hcz36_5
        try clear hcz36_6
        try clear hcz36_7
        try clear hcz36_8
        try clear hcz36_9
        try clear hcz38_0
        try clear hcz38_1
        try clear hcz38_2
        try clear hcz38_3
        try clear hcz38_4
        try clear hcz38_5
        try clear hcz38_6
        try clear hcz38_7
        try clear hcz38_8
        try clear hcz38_9
        try clear hfz16_0
        try clear hfz16_1
        try clear hfz16_2
        try clear hfz16_3
        try clear hfz16_4
        try clear hfz16_5
        try clear hfz16_6
        try clear hfz16_7
        try clear hfz16_8
        try clear hfz18_0
        try clear hfz18_1
        try clear hfz18_2
        try clear hfz18_3
        try clear hfz18_4
        try clear hfz18_5
        try clear hfz18_6
        try clear hfz18_7
        try clear hfz18_8
        try clear hfz35_0
        try clear hfz35_1
        try clear hfz35_2
        try clear hfz35_3
        try clear hfz35_4
        try clear hfz35_5
        try clear hfz36_0
        try clear hfz36_1
        try clear hfz36_2
        try clear hfz36_3
        try clear hfz36_4
        try clear hfz36_5
        try clear hfz36_6
        try clear hfz36_7
        try clear hfz36_8
        try clear hfz38_0
        try clear hfz38_1
        try clear hfz38_2
        try clear hfz38_3
        try clear hfz38_4
        try clear hfz38_5
        try clear hfz38_6
        try clear hfz38_7
        try clear hfz38_8
        try clear p1
        try clear p2
        obtain ⟨kq, x1008_19, HA, HJ19, BK134, BK135, BK136, BK145, HI0, HK, HB⟩ := hcut
        cases kq with
        | zero => exact absurd HA.out (by simp [spec_l07Drift_hour.j2])
        | succ kj19 =>
         have H := HA.out
         clear HA
         simp only [spec_l07Drift_hour.j2] at H
         have H' := Aside0.mk H
         clear H
         go_wp2
         go_meet
         case rel => exact ⟨_, (t138), (t139), (t140), (t141), (t142), (t143), (t144), (x1007_14), (x1008_19), H', ⟨by have := HJ5.out; have := HJ14.out; have := HJ19.out; first | omega | exact Nat.le_refl _⟩, ⟨by (with_reducible repeat (first | refine blk_drewN ?_ _ | refine blk_drew ?_ | refine blk_alloc ?_ _)); exact BK134.out⟩, ⟨by (with_reducible repeat (first | refine blk_drewN ?_ _ | refine blk_drew ?_ | refine blk_alloc ?_ _)); exact BK135.out⟩, ⟨by (with_reducible repeat (first | refine blk_drewN ?_ _ | refine blk_drew ?_ | refine blk_alloc ?_ _)); exact BK136.out⟩, ⟨by repeat (first | (with_reducible first | exact HI0.out | apply IsS72.alloc | apply IsS72.drewN | apply IsS72.drew | apply IsS72.set_0 | apply IsS72.set_1 | apply IsS72.set_2 | apply IsS72.set_3 | apply IsS72.set_4 | apply IsS72.set_5 | apply IsS72.set_6 | apply IsS72.set_7 | apply IsS72.set_8 | refine IsS72.far ?_ NB0_134.out _ | refine IsS72.far ?_ NB0_135.out _ | refine IsS72.far ?_ NB0_136.out _ | refine IsS72.far ?_ NB0_145.out _) | exact HI0.out)⟩, ⟨by repeat (first | (with_reducible first | exact HK.out | apply KeepBut.set_ | apply keep_drewN | apply keep_drew | apply keep_alloc | refine keep_far ?_ GW134.out _ | refine keep_far ?_ GW135.out _ | refine keep_far ?_ GW136.out _ | refine keep_far ?_ GW145.out _) | exact HK.out)⟩, ⟨by repeat (first | (with_reducible first | exact HB.out | apply below_alloc | apply pw_below_drewN | apply below_drew1 | refine below_set ?_ (IsS72.ge HI0.out) | refine below_set ?_ GE134.out | refine below_set ?_ GE135.out | refine below_set ?_ GE136.out | refine below_set ?_ GE145.out) | exact HB.out)⟩⟩
    ·replace c14 := Bool.eq_false_iff.mpr c14
     subst c14
     have H1 : (spec_l07Drift_hour.j3 kj5 s0_0 s0_1 s0_2 s0_3 s0_4 s0_5 s0_6 s0_7 s0_8 s0_9) = some (r1, r2, r3, r4, r5, r6, r7, r8, r9) := by rw [if_neg (show ¬ (false = true) by decide)] at H; exact H
     clear H
     have H := H1
     clear H1
     have H' := Aside0.mk H
     clear H
     go_wp2
     go_meet
     case rel => exact ⟨_, (s0_0), (s0_1), (s0_2), (s0_3), (s0_4), (s0_5), (s0_6), (s0_7), (s0_8), H', ⟨by have := HJ5.out; first | omega | exact Nat.le_refl _⟩, ⟨by (with_reducible repeat (first | refine blk_drewN ?_ _ | refine blk_drew ?_ | refine blk_alloc ?_ _)); exact BK134.out⟩, ⟨by (with_reducible repeat (first | refine blk_drewN ?_ _ | refine blk_drew ?_ | refine blk_alloc ?_ _)); exact BK135.out⟩, ⟨by (with_reducible repeat (first | refine blk_drewN ?_ _ | refine blk_drew ?_ | refine blk_alloc ?_ _)); exact BK136.out⟩, ⟨by repeat (first | (with_reducible first | exact HI0.out | apply IsS72.alloc | apply IsS72.drewN | apply IsS72.drew | apply IsS72.set_0 | apply IsS72.set_1 | apply IsS72.set_2 | apply IsS72.set_3 | apply IsS72.set_4 | apply IsS72.set_5 | apply IsS72.set_6 | apply IsS72.set_7 | apply IsS72.set_8 | refine IsS72.far ?_ NB0_134.out _ | refine IsS72.far ?_ NB0_135.out _ | refine IsS72.far ?_ NB0_136.out _) | exact HI0.out)⟩, ⟨by repeat (first | (with_reducible first | exact HK.out | apply KeepBut.set_ | apply keep_drewN | apply keep_drew | apply keep_alloc | refine keep_far ?_ GW134.out _ | refine keep_far ?_ GW135.out _ | refine keep_far ?_ GW136.out _) | exact HK.out)⟩, ⟨by repeat (first | (with_reducible first | exact HB.out | apply below_alloc | apply pw_below_drewN | apply below_drew1 | refine below_set ?_ (IsS72.ge HI0.out) | refine below_set ?_ GE134.out | refine below_set ?_ GE135.out | refine below_set ?_ GE136.out) | exact HB.out)⟩⟩
   case rest =>
    clear HC13
    try clear c1
    try clear p1
    try clear c2
    try clear p2
    try clear c3
    try clear c4
    try clear c5
    try clear c6
    try clear c7
    try clear c8
    try clear c14
    try clear c17
    try clear c17b0
    try clear c31
    try clear c32
    try clear c33
    try clear c34
    try clear c37
    try clear hcz16_0
    try clear hcz16_1
    try clear hcz16_2
    try clear hcz16_3
    try clear hcz16_4
    try clear hcz16_5
    try clear hcz16_6
    try clear hcz16_7
    try clear hcz16_8
    try clear hcz16_9
    try clear hcz18_0
    try clear hcz18_1
    try clear hcz18_2
    try clear hcz18_3
    try clear hcz18_4
    try clear hcz18_5
    try clear hcz18_6
    try clear hcz18_7
    try clear hcz18_8
    try clear hcz18_9
    try clear hcz35_0
    try clear hcz35_1
    try clear hcz35_2
    try clear hcz35_3
    try clear hcz35_4
    try clear hcz35_5
    try clear hcz36_0
    try clear hcz36_1
    try clear hcz36_2
    try clear hcz36_3
    try clear hcz36_4
    try clear hcz36_5
    try clear hcz36_6
    try clear hcz36_7
    try clear hcz36_8
    try clear hcz36_9
    try clear hcz38_0
    try clear hcz38_1
    try clear hcz38_2
    try clear hcz38_3
    try clear hcz38_4
    try clear hcz38_5
    try clear hcz38_6
    try clear hcz38_7
    try clear hcz38_8
    try clear hcz38_9
    try clear hfz16_0
    try clear hfz16_1
    try clear hfz16_2
    try clear hfz16_3
    try clear hfz16_4
    try clear hfz16_5
    try clear hfz16_6
    try clear hfz16_7
    try clear hfz16_8
    try clear hfz18_0
    try clear hfz18_1
    try clear hfz18_2
    try clear hfz18_3
    try clear hfz18_4
    try clear hfz18_5
    try clear hfz18_6
    try clear hfz18_7
    try clear hfz18_8
    try clear hfz35_0
    try clear hfz35_1
    try clear hfz35_2
    try clear hfz35_3
    try clear hfz35_4
    try clear hfz35_5
    try clear hfz36_0
    try clear hfz36_1
    try clear hfz36_2
    try clear hfz36_3
    try clear hfz36_4
    try clear hfz36_5
    try clear hfz36_6
    try clear hfz36_7
    try clear hfz36_8
    try clear hfz38_0
    try clear hfz38_1
    try clear hfz38_2
    try clear hfz38_3
    try clear hfz38_4
    try clear hfz38_5
    try clear hfz38_6
    try clear hfz38_7
    try clear hfz38_8
    try clear p1
    try clear p2
    obtain ⟨kq, x1000_12, x1001_12, x1002_12, x1003_12, x1004_12, x1005_12, x1006_12, x1007_12, x1008_12, HA, HJ12, BK134, BK135, BK136, HI0, HK, HB⟩ := hcut
    cases kq with
    | zero => exact absurd HA.out (by simp [spec_l07Drift_hour.j3])
    | succ kj12 =>
     have H := HA.out
     clear HA
     simp only [spec_l07Drift_hour.j3] at H
     simp only [Option.some.injEq, Prod.mk.injEq] at H
     obtain ⟨rfl, rfl, rfl, rfl, rfl, rfl, rfl, rfl, rfl⟩ := H
     go_wp2
     have HO1 := Aside0.mk (Kd.R_drew (Kd.R_keep HO0.out HK.out (fun k_ h_ => h_.2)))
     have n3_ := Aside0.mk (IsS72.drew HI0.out)
     have n5_ := Aside0.mk (below_drew1 HB.out)
     clear HI0 HB HK HO0
     have HI0 := n3_
     have HB := n5_
     clear n3_ n5_
     refine start_ (n := 15) (S := fun w' => w'.cell? ⟨g, 0, none⟩ = some (.int .i8 x1000_12) ∧ w'.cell? ⟨g, 1, none⟩ = some (.int .i8 x1001_12) ∧ w'.cell? ⟨g, 9, none⟩ = some s0_9) (ds := [14]) #[false, false, false, false, false, false, false, false, false, false, false, false, false, false, false] (by kernel_rfl) rfl rfl ⟨(by obtain ⟨HG_, _⟩ := HI0.out; exact cellS72_0 HG_), (by obtain ⟨HG_, _⟩ := HI0.out; exact cellS72_1 HG_), (by obtain ⟨HG_, _⟩ := HI0.out; exact cellS72_9 HG_)⟩ (fun hHeld => ?_)
     generalize World.drew _ = w8 at HI0 HB HO1 hHeld ⊢
     refine pure_ (i := 0) (N := some 60) (v := ?_) (a' := ?_) #[true, false, false, false, false, false, false, false, false, false, false, false, false, false, false] rfl rfl (by kernel_rfl) (fun _ _ _ h => h) (Or.inl ⟨by rfl, ?_⟩) ?_ ?_
     rotate_left
     ·intro w'
      go_simp
      with_reducible rfl
     rotate_left
     ·simp only [Act.put, List.setIfInBounds_toArray, List.set_cons_zero, List.set_cons_succ, i64_w, i32_w]
      rfl
     refine pure_ (i := 1) (N := some 61) (v := ?_) (a' := ?_) #[true, true, false, false, false, false, false, false, false, false, false, false, false, false, false] rfl rfl (by kernel_rfl) (fun _ _ _ h => h) (Or.inl ⟨by rfl, ?_⟩) ?_ ?_
     rotate_left
     ·intro w'
      go_simp
      with_reducible rfl
     rotate_left
     ·simp only [Act.put, List.setIfInBounds_toArray, List.set_cons_zero, List.set_cons_succ, i64_w, i32_w]
      rfl
     refine pure_ (i := 2) (N := some 62) (v := ?_) (a' := ?_) #[true, true, true, false, false, false, false, false, false, false, false, false, false, false, false] rfl rfl (by kernel_rfl) (fun _ _ _ h => h) (Or.inl ⟨by rfl, ?_⟩) ?_ ?_
     rotate_left
     ·intro w'
      go_simp
      with_reducible rfl
     rotate_left
     ·simp only [Act.put, List.setIfInBounds_toArray, List.set_cons_zero, List.set_cons_succ, i64_w, i32_w]
      rfl
     refine pure_ (i := 3) (N := some 63) (v := ?_) (a' := ?_) #[true, true, true, true, false, false, false, false, false, false, false, false, false, false, false] rfl rfl (by kernel_rfl) (fun _ _ _ h => h) (Or.inl ⟨by rfl, ?_⟩) ?_ ?_
     rotate_left
     ·intro w'
      go_simp
      with_reducible rfl
     rotate_left
     ·simp only [Act.put, List.setIfInBounds_toArray, List.set_cons_zero, List.set_cons_succ, i64_w, i32_w]
      rfl
     refine pure_ (i := 5) (N := some 65) (v := ?_) (a' := ?_) #[true, true, true, true, false, true, false, false, false, false, false, false, false, false, false] rfl rfl (by kernel_rfl) (fun _ _ _ h => h) (Or.inl ⟨by rfl, ?_⟩) ?_ ?_
     rotate_left
     ·intro w'
      go_simp
      with_reducible rfl
     rotate_left
     ·simp only [Act.put, List.setIfInBounds_toArray, List.set_cons_zero, List.set_cons_succ, i64_w, i32_w]
      rfl
     refine pure_ (i := 6) (N := some 66) (v := ?_) (a' := ?_) #[true, true, true, true, false, true, true, false, false, false, false, false, false, false, false] rfl rfl (by kernel_rfl) (fun _ _ _ h => h) (Or.inl ⟨by rfl, ?_⟩) ?_ ?_
     rotate_left
     ·intro w'
      go_simp
      with_reducible rfl
     rotate_left
     ·simp only [Act.put, List.setIfInBounds_toArray, List.set_cons_zero, List.set_cons_succ, i64_w, i32_w]
      rfl
     refine pure_ (i := 7) (N := some 67) (v := ?_) (a' := ?_) #[true, true, true, true, false, true, true, true, false, false, false, false, false, false, false] rfl rfl (by kernel_rfl) (fun _ _ _ h => h) (Or.inl ⟨by rfl, ?_⟩) ?_ ?_
     rotate_left
     ·intro w'
      go_simp
      with_reducible rfl
     rotate_left
     ·simp only [Act.put, List.setIfInBounds_toArray, List.set_cons_zero, List.set_cons_succ, i64_w, i32_w]
      rfl
     refine pure_ (i := 8) (N := some 68) (v := ?_) (a' := ?_) #[true, true, true, true, false, true, true, true, true, false, false, false, false, false, false] rfl rfl (by kernel_rfl) (fun _ _ _ h => h) (Or.inl ⟨by rfl, ?_⟩) ?_ ?_
     rotate_left
     ·intro w'
      go_simp
      with_reducible rfl
     rotate_left
     ·simp only [Act.put, List.setIfInBounds_toArray, List.set_cons_zero, List.set_cons_succ, i64_w, i32_w]
      rfl
     refine take_ (i := 4) (N := some 64) (v := ?_) (a' := ?_) #[true, true, true, true, true, true, true, true, true, false, false, false, false, false, false] rfl rfl (by kernel_rfl) (fun _ _ _ h => h) (Or.inl ⟨by rfl, ?_⟩) hHeld ?_ ?_
     rotate_left
     ·rintro w' ⟨s0, s1, s2⟩
      go_simp
      with_reducible rfl
     rotate_left
     ·simp only [Act.put, List.setIfInBounds_toArray, List.set_cons_zero, List.set_cons_succ, i64_w, i32_w]
      rfl
     refine take_ (i := 9) (N := some 69) (v := ?_) (a' := ?_) #[true, true, true, true, true, true, true, true, true, true, false, false, false, false, false] rfl rfl (by kernel_rfl) (fun _ _ _ h => h) (Or.inl ⟨by rfl, ?_⟩) hHeld ?_ ?_
     rotate_left
     ·rintro w' ⟨s0, s1, s2⟩
      go_simp
      with_reducible rfl
     rotate_left
     ·simp only [Act.put, List.setIfInBounds_toArray, List.set_cons_zero, List.set_cons_succ, i64_w, i32_w]
      rfl
     refine one_ (i := 10) (N := some 70) #[true, true, true, true, true, true, true, true, true, true, true, false, false, false, false] rfl rfl (by kernel_rfl) (by decide) (fun K hK => ?_)
     refine value_ (w1 := ?_) (v := ?_) (by rfl) rfl ?_ ?_
     rotate_left 2
     ·go_simp
      constructor
      ·rfl
      ·rfl
     refine hK.out _ _ ⟨(World.cell?_alloc_lt _ _ _ (World.block_lt_of_cell? _ _ (hHeld.1))).trans (hHeld.1), (World.cell?_alloc_lt _ _ _ (World.block_lt_of_cell? _ _ (hHeld.2.1))).trans (hHeld.2.1), (World.cell?_alloc_lt _ _ _ (World.block_lt_of_cell? _ _ (hHeld.2.2))).trans (hHeld.2.2)⟩ (fun hHeld => ?_)
     clear hK K
     refine norm_ (a' := ?_) ?_ ?_
     rotate_left
     ·show Act.put _ (some 70) _ = _
      simp only [Act.put, List.setIfInBounds_toArray, List.set_cons_zero, List.set_cons_succ, i64_w, i32_w]
      rfl
     refine one_ (i := 11) (N := some 71) #[true, true, true, true, true, true, true, true, true, true, true, true, false, false, false] rfl rfl (by kernel_rfl) (by decide) (fun K hK => ?_)
     refine Kd.R_append_step k42 (w0 := w0) w0.heap.size (by rfl) (.tmp 64) (.tmp 70) 35 42 (.agg #[(.int .i8 0), (.int .i8 0)]) 2 rfl Try.underlying35 info42 rfl (by decide) (by omega) s0_9 acc (⟨x1000_12, x1001_12⟩ : S42) [.int .i8 x1000_12, .int .i8 x1001_12] (fun k_ => True ∧ k_ ≠ g) (fun _ => False) rfl rfl ?aP (fun _ hk => hk.elim) ?aF HO1.out HB.out ?aS ?aL ?_
     (case aP => exact k42_mkM _ _ _ (⟨x1000_12, x1001_12⟩ : S42))
     (case aF => exact fun k_ hk => ⟨trivial, by have := IsS72.lt HI0.out; omega⟩)
     (case aS => exact HB.out.size)
     (case aL => have := HLN.out; omega)
     intro v1 w9 ho hb hg9 hat
     obtain ⟨A1_, c1_, e1_⟩ := Kd.R_slice ho
     subst e1_
     have hne := IsS72.own_ne HI0.out HO1.out (by decide)
     have HI2 := Aside0.mk (IsS72.grown HI0.out hg9 hne)
     have HO2 := Aside0.mk ho
     have HB2 := Aside0.mk hb
     clear ho hb hg9 hat hne HI0 HB HO1
     have HI0 := HI2
     clear HI2
     refine hK.out _ _ ⟨(by obtain ⟨HG_, _⟩ := HI0.out; exact cellS72_0 HG_), (by obtain ⟨HG_, _⟩ := HI0.out; exact cellS72_1 HG_), (by obtain ⟨HG_, _⟩ := HI0.out; exact cellS72_9 HG_)⟩ (fun hHeld => ?_)
     clear hK K
     refine norm_ (a' := ?_) ?_ ?_
     rotate_left
     ·show Act.put _ (some 71) _ = _
      simp only [Act.put, List.setIfInBounds_toArray, List.set_cons_zero, List.set_cons_succ, i64_w, i32_w]
      rfl
     refine pure_ (i := 12) (N := some 72) (v := ?_) (a' := ?_) #[true, true, true, true, true, true, true, true, true, true, true, true, true, false, false] rfl rfl (by kernel_rfl) (fun _ _ _ h => h) (Or.inl ⟨by rfl, ?_⟩) ?_ ?_
     rotate_left
     ·intro w'
      go_simp
      with_reducible rfl
     rotate_left
     ·simp only [Act.put, List.setIfInBounds_toArray, List.set_cons_zero, List.set_cons_succ, i64_w, i32_w]
      rfl
     refine pure_ (i := 13) (N := some 73) (v := ?_) (a' := ?_) #[true, true, true, true, true, true, true, true, true, true, true, true, true, true, false] rfl rfl (by kernel_rfl) (fun _ _ _ h => h) (Or.inl ⟨by rfl, ?_⟩) ?_ ?_
     rotate_left
     ·intro w'
      go_simp
      with_reducible rfl
     rotate_left
     ·simp only [Act.put, List.setIfInBounds_toArray, List.set_cons_zero, List.set_cons_succ, i64_w, i32_w]
      rfl
     refine last_ (i := 14) (N := none) #[true, true, true, true, true, true, true, true, true, true, true, true, true, true, true] rfl rfl (by kernel_rfl) (by decide) (fun K hK => ?_)
     have hcs_ := (by obtain ⟨HG_, _⟩ := HI0.out; exact cellS72_9 HG_)
     have hfs_ := (by obtain ⟨HG_, _⟩ := HI0.out; exact blk_frozen HG_ 9 : w9.frozen? ⟨g, 9, none⟩ = false)
     refine skip_ (w1 := ?_) (by rfl) rfl ?_ ?_
     rotate_left
     ·go_simp
      rfl
     refine hK.out _ _ ?_
     clear hK K
     refine done_ (by kernel_rfl) ?_
     first | go_end0 | ((try simp only [Exit.inBlock, Exit.then]); refine bodyPost_ret (results_none rfl _ _ _) rfl ?_)
     have q_ := Kd.R_mono (Kd.R_far (p := ⟨g, 9, none⟩) HO2.out (fun k_ h_ => h_.2) (.slice A1_ (acc.length + 1) c1_)) (ok' := fun _ => True) (fun _ _ => trivial)
     rw [show (acc ++ [(⟨x1000_12, x1001_12⟩ : S42)]).length = acc.length + 1 by simp] at q_
     exact ⟨_, rfl, IsS72.set_9 HI0.out _, q_, below_set HB2.out (IsS72.ge HI0.out)⟩
end Go.Proofs.Ytmhmfhdmeedcfaa.G
end
