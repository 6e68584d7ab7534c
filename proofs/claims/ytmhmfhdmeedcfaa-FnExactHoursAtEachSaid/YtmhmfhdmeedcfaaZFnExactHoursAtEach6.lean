/- A part of the proof of: FnExactHoursAtEach returns true, whatever the input, and leaves its arguments as they were. -/
import Derived.Test.YtmhmfhdmeedcfaaProg
import Derived.Below
import Derived.Deep.Draws
import Derived.Deep.AppendLies
import Derived.Maps.AppendAt
import Derived.OwnWalk
import Derived.Laws.BytesArg
import Derived.Laws.MakeOwn
import Derived.Laws.OwnMore
import Derived.Deep.OwnRows
import Derived.Tactics
import Derived.Lib.ConvBytes
import Derived.Laws.Slices
import Derived.WalkKit
import Derived.KernelRfl
import Derived.RowKit3
import Derived.Deep.LoopGhost
import Derived.Deep.QuietTactic
import Derived.BigQuiet
import Derived.WideLaws
import Derived.Deep.DeepCutAuto
import Derived.Deep.CutBlock
import Derived.Deep.RegionHeld3
import Derived.Laws.Rows
import Derived.Lib.AppendStr
import Derived.ArgAppend
import Derived.Laws.IdiomCopy
import Derived.OrdersHeld
import Derived.Laws.BitsLemmas
import Derived.RowKit
import Derived.Laws.StructEq
import Derived.Deep.Slices
import Derived.ChangeSame
import Derived.ChangeArms
import Derived.OpenShut
import Derived.ProofKit
import Derived.Laws.Tables
import Derived.Lib.Hide
import Derived.Laws.CopyOwn
import Derived.Laws.CopyRow
import Derived.Test.YtmhmfhdmeedcfaaZFnExactHoursAtEach1
import Derived.Test.YtmhmfhdmeedcfaaZFnExactHoursAtEach2
import Derived.Test.YtmhmfhdmeedcfaaZFnExactHoursAtEach3
import Derived.Test.YtmhmfhdmeedcfaaZFnExactHoursAtEach4
import Derived.Test.YtmhmfhdmeedcfaaZFnExactHoursAtEach5
section
namespace Go.Proofs.Ytmhmfhdmeedcfaa.G
open Go.RowKit Go.Proofs.YtmhmfhdmeedcfaaW.PrintWords Go.Proofs.YtmhmfhdmeedcfaaW.PrintLast Go.Proofs.YtmhmfhdmeedcfaaW.PrintMore
attribute [local go_sem] max2_int min2_int max_two min_two max_three min_three max_four min_four   -- for this text's walks alone
set_option linter.unusedVariables false
set_option linter.unusedSimpArgs false
def impl_driftCode.f (k : Nat) (a0 : O38) (a1 : O40) (a2_0 : Int) (a2_1 : Int) (a2_2 : Int) (a2_3 : Int) (a2_4 : Int) (a2_5 : Int) (l3 : List (S78)) : Option (Int) := (impl_ValidGrounds.f a0 a1).bind fun t184 => (if t184 = true then ((impl_isBoat.f a0 a2_0 a2_1 a2_2 a2_3 a2_4 a2_5).bind fun t185 => (if t185 = true then ((impl_ValidWinds.f k l3).bind fun t186 => (if t186 = true then (some 0) else (some 1))) else (some 1))) else (some 1))
set_option maxHeartbeats 8000000 in
set_option maxRecDepth 100000 in
theorem impl_driftCode.calls (k : Nat) (a0 : O38) (a1 : O40) (a2_0 : Int) (a2_1 : Int) (a2_2 : Int) (a2_3 : Int) (a2_4 : Int) (a2_5 : Int) (A3 : Option Addr) (c3 : Nat) (l3 : List (S78)) (r : Int) (w : World) (hr3 : Kd.C k78 w A3 l3.length l3) (hc3 : l3.length ≤ c3) (h : impl_driftCode.f k a0 a1 a2_0 a2_1 a2_2 a2_3 a2_4 a2_5 l3 = some r) :
  Calls Try.prog 40 #[VO38 a0, VO40 a1, .agg #[.int .i8 a2_0, .int .i8 a2_1, .int .i8 a2_2, .int .i8 a2_3, .int .i8 a2_4, .int .i8 a2_5], .slice A3 l3.length c3] w fun e w' => e = .returned (.int .i64 r) ∧ Below w.heap.size w w' := by
 have hu44 := Try.underlying44
 have HR3 := Aside0.mk hr3
 have HC3 := Aside0.mk hc3
 clear hr3 hc3
 have HB := Aside0.mk (Below.refl w.heap.size w)
 have H : ((impl_ValidGrounds.f a0 a1).bind fun t184 => (if t184 = true then ((impl_isBoat.f a0 a2_0 a2_1 a2_2 a2_3 a2_4 a2_5).bind fun t185 => (if t185 = true then ((impl_ValidWinds.f k l3).bind fun t186 => (if t186 = true then (some 0) else (some 1))) else (some 1))) else (some 1))) = some r := h
 clear h
 replace H := Option.bind_eq_some_iff.mp H
 obtain ⟨t184, A50, H⟩ := H
 replace H : (if t184 = true then ((impl_isBoat.f a0 a2_0 a2_1 a2_2 a2_3 a2_4 a2_5).bind fun t185 => (if t185 = true then ((impl_ValidWinds.f k l3).bind fun t186 => (if t186 = true then (some 0) else (some 1))) else (some 1))) else (some 1)) = some r := H
 have A5 := Aside0.mk A50
 clear A50
 by_cases c6 : t184 = true
 ·subst c6
  have H1 : ((impl_isBoat.f a0 a2_0 a2_1 a2_2 a2_3 a2_4 a2_5).bind fun t185 => (if t185 = true then ((impl_ValidWinds.f k l3).bind fun t186 => (if t186 = true then (some 0) else (some 1))) else (some 1))) = some r := by rw [if_pos rfl] at H; exact H
  clear H
  have H := H1
  clear H1
  replace H := Option.bind_eq_some_iff.mp H
  obtain ⟨t185, A70, H⟩ := H
  replace H : (if t185 = true then ((impl_ValidWinds.f k l3).bind fun t186 => (if t186 = true then (some 0) else (some 1))) else (some 1)) = some r := H
  have A7 := Aside0.mk A70
  clear A70
  by_cases c8 : t185 = true
  ·subst c8
   have H1 : ((impl_ValidWinds.f k l3).bind fun t186 => (if t186 = true then (some 0) else (some 1))) = some r := by rw [if_pos rfl] at H; exact H
   clear H
   have H := H1
   clear H1
   replace H := Option.bind_eq_some_iff.mp H
   obtain ⟨t186, A90, H⟩ := H
   replace H : (if t186 = true then (some 0) else (some 1)) = some r := H
   have A9 := Aside0.mk A90
   clear A90
   by_cases c10 : t186 = true
   ·subst c10
    have H1 : (some 0) = some r := by rw [if_pos rfl] at H; exact H
    clear H
    have H := H1
    clear H1
    obtain rfl := Option.some.inj H
    go_enter Try.func40, Try.ntmps40
    go_wp2_with (first | ((with_reducible refine gate_dst (N := 4) rfl ?_); refine box_event ?hg (N := 4) ?hd (cs := (a0).A) (t := 38) ?hr ?_; (case hd => rfl); (case hg => rfl); (case hr => first | exact AR.run_box_row rfl rfl | (go_simp; done) | (go_simp; rfl)); intro gb181 hg w11 hbox hb; have BK181 := Aside0.mk (hbox); have GW181 := Aside0.mk (sqS HB.out hg); replace HB := Aside0.mk (sqH HB.out hb); have GE181 := GW181; clear hb hbox hg) | ((with_reducible refine gate_dst (N := 5) rfl ?_); refine box_event ?hg (N := 5) ?hd (cs := (a1).A) (t := 40) ?hr ?_; (case hd => rfl); (case hg => rfl); (case hr => first | exact AR.run_box_row rfl rfl | (go_simp; done) | (go_simp; rfl)); intro gb182 hg w12 hbox hb; have BK182 := Aside0.mk (hbox); have GW182 := Aside0.mk (sqS HB.out hg); replace HB := Aside0.mk (sqH HB.out hb); have GE182 := GW182; have NB181_182 := Aside0.mk (sqN BK181.out hg); replace BK181 := Aside0.mk (sqB BK181.out hb); have NB182_181 := Aside0.mk (Ne.symm NB181_182.out); clear hb hbox hg) | ((with_reducible refine gate_dst (N := 6) rfl ?_); refine box_event ?hg (N := 6) ?hd (cs := #[.int .i8 a2_0, .int .i8 a2_1, .int .i8 a2_2, .int .i8 a2_3, .int .i8 a2_4, .int .i8 a2_5]) (t := 44) ?hr ?_; (case hd => rfl); (case hg => rfl); (case hr => first | (go_simp; done) | (go_simp; rfl)); intro gb183 hg w13 hbox hb; have BK183 := Aside0.mk (hbox); have GW183 := Aside0.mk (sqS HB.out hg); replace HB := Aside0.mk (sqH HB.out hb); have GE183 := GW183; have NB181_183 := Aside0.mk (sqN BK181.out hg); replace BK181 := Aside0.mk (sqB BK181.out hb); have NB183_181 := Aside0.mk (Ne.symm NB181_183.out); have NB182_183 := Aside0.mk (sqN BK182.out hg); replace BK182 := Aside0.mk (sqB BK182.out hb); have NB183_182 := Aside0.mk (Ne.symm NB182_183.out); clear hb hbox hg) | ((with_reducible refine gate_dst (N := 9) rfl ?_); (with_reducible refine AR.gate_load (t := 38) rfl ?_); (try refine gate_guard (by rfl) ?_); refine AR.wpList_load_blk rfl 38 _ rfl gb181 rfl (a0).A _ (sqO BK181.out) Try.underlying38 rfl (szO38 _) ?_) | ((with_reducible refine gate_dst (N := 10) rfl ?_); (with_reducible refine AR.gate_load (t := 40) rfl ?_); (try refine gate_guard (by rfl) ?_); refine AR.wpList_load_blk rfl 40 _ rfl gb182 rfl (a1).A _ (sqO BK182.out) Try.underlying40 rfl (szO40 _) ?_) | ((with_reducible refine gate_callee (f := 55) rfl ?_); refine goesL_ (some 11) rfl rfl Try.func55 (by kernel_rfl) rfl #[VO38 a0, VO40 a1] rfl (by (try simp only [List.map_toArray, List.map_cons, List.map_nil]); first | done | rfl | (simp only [List.length_drop, List.length_take]; rfl)) ?_; (with_reducible refine (impl_ValidGrounds.calls a0 a1 true _ A5.out).mono ?_); rintro e w14 ⟨rfl, hb⟩; refine ⟨_, rfl, ?_⟩; replace BK181 := Aside0.mk (sqB BK181.out hb); replace BK182 := Aside0.mk (sqB BK182.out hb); replace BK183 := Aside0.mk (sqB BK183.out hb); replace HB := Aside0.mk (sqH HB.out hb); (try clear hb); (try clear hb2); (try clear hk); (try clear hi)) | ((with_reducible refine gate_dst (N := 14) rfl ?_); (with_reducible refine AR.gate_load (t := 38) rfl ?_); (try refine gate_guard (by rfl) ?_); refine AR.wpList_load_blk rfl 38 _ rfl gb181 rfl (a0).A _ (sqO BK181.out) Try.underlying38 rfl (szO38 _) ?_; have hnb15 := NB183_181.out; have hnc15 := NB181_183.out; have hnb16 := NB183_182.out; have hnc16 := NB182_183.out; obtain ⟨hcz17_0, hcz17_1, hcz17_2, hcz17_3, hcz17_4, hcz17_5⟩ := sqC BK183.out; obtain ⟨hfz17_0, hfz17_1, hfz17_2, hfz17_3, hfz17_4, hfz17_5⟩ := sqF6 BK183.out) | (go_at_call 62; (with_reducible refine (impl_isBoat.calls a0 a2_0 a2_1 a2_2 a2_3 a2_4 a2_5 true _ A7.out).mono ?_); rintro e w18 ⟨rfl, hb⟩; replace BK181 := Aside0.mk (sqB BK181.out hb); replace BK182 := Aside0.mk (sqB BK182.out hb); replace BK183 := Aside0.mk (sqB BK183.out hb); replace HB := Aside0.mk (sqH HB.out hb); (try clear hb); (try clear hb2); (try clear hk); (try clear hi)) | (go_at_call 56; (with_reducible refine (impl_ValidWinds.calls k _ _ l3 true _ ?side1 ?side2 A9.out).mono ?_); (case side1 => repeat (first | exact (Kd.C_below HR3.out HB.out) | (with_reducible refine Kd.C_alloc ?_ _) | (with_reducible refine Kd.C_drewN ?_ _) | (with_reducible refine Kd.C_drew ?_))); (case side2 => exact HC3.out); rintro e w19 ⟨rfl, hb⟩; replace BK181 := Aside0.mk (sqB BK181.out hb); replace BK182 := Aside0.mk (sqB BK182.out hb); replace BK183 := Aside0.mk (sqB BK183.out hb); replace HB := Aside0.mk (sqH HB.out hb); (try clear hb); (try clear hb2); (try clear hk); (try clear hi)))
    go_ret
    exact ⟨by first | rfl | (simp [errW_none, errW_some] <;> rfl) | (simp [*, errW_none, errW_some] <;> rfl), by repeat (first | (with_reducible first | exact HB.out | apply below_alloc | apply pw_below_drewN | apply below_drew1 | refine below_set ?_ GE181.out | refine below_set ?_ GE182.out | refine below_set ?_ GE183.out) | exact HB.out)⟩
   ·replace c10 := Bool.eq_false_iff.mpr c10
    subst c10
    have H1 : (some 1) = some r := by rw [if_neg (show ¬ (false = true) by decide)] at H; exact H
    clear H
    have H := H1
    clear H1
    obtain rfl := Option.some.inj H
    go_enter Try.func40, Try.ntmps40
    go_wp2_with (first | ((with_reducible refine gate_dst (N := 4) rfl ?_); refine box_event ?hg (N := 4) ?hd (cs := (a0).A) (t := 38) ?hr ?_; (case hd => rfl); (case hg => rfl); (case hr => first | exact AR.run_box_row rfl rfl | (go_simp; done) | (go_simp; rfl)); intro gb181 hg w20 hbox hb; have BK181 := Aside0.mk (hbox); have GW181 := Aside0.mk (sqS HB.out hg); replace HB := Aside0.mk (sqH HB.out hb); have GE181 := GW181; clear hb hbox hg) | ((with_reducible refine gate_dst (N := 5) rfl ?_); refine box_event ?hg (N := 5) ?hd (cs := (a1).A) (t := 40) ?hr ?_; (case hd => rfl); (case hg => rfl); (case hr => first | exact AR.run_box_row rfl rfl | (go_simp; done) | (go_simp; rfl)); intro gb182 hg w21 hbox hb; have BK182 := Aside0.mk (hbox); have GW182 := Aside0.mk (sqS HB.out hg); replace HB := Aside0.mk (sqH HB.out hb); have GE182 := GW182; have NB181_182 := Aside0.mk (sqN BK181.out hg); replace BK181 := Aside0.mk (sqB BK181.out hb); have NB182_181 := Aside0.mk (Ne.symm NB181_182.out); clear hb hbox hg) | ((with_reducible refine gate_dst (N := 6) rfl ?_); refine box_event ?hg (N := 6) ?hd (cs := #[.int .i8 a2_0, .int .i8 a2_1, .int .i8 a2_2, .int .i8 a2_3, .int .i8 a2_4, .int .i8 a2_5]) (t := 44) ?hr ?_; (case hd => rfl); (case hg => rfl); (case hr => first | (go_simp; done) | (go_simp; rfl)); intro gb183 hg w22 hbox hb; have BK183 := Aside0.mk (hbox); have GW183 := Aside0.mk (sqS HB.out hg); replace HB := Aside0.mk (sqH HB.out hb); have GE183 := GW183; have NB181_183 := Aside0.mk (sqN BK181.out hg); replace BK181 := Aside0.mk (sqB BK181.out hb); have NB183_181 := Aside0.mk (Ne.symm NB181_183.out); have NB182_183 := Aside0.mk (sqN BK182.out hg); replace BK182 := Aside0.mk (sqB BK182.out hb); have NB183_182 := Aside0.mk (Ne.symm NB182_183.out); clear hb hbox hg) | ((with_reducible refine gate_dst (N := 9) rfl ?_); (with_reducible refine AR.gate_load (t := 38) rfl ?_); (try refine gate_guard (by rfl) ?_); refine AR.wpList_load_blk rfl 38 _ rfl gb181 rfl (a0).A _ (sqO BK181.out) Try.underlying38 rfl (szO38 _) ?_) | ((with_reducible refine gate_dst (N := 10) rfl ?_); (with_reducible refine AR.gate_load (t := 40) rfl ?_); (try refine gate_guard (by rfl) ?_); refine AR.wpList_load_blk rfl 40 _ rfl gb182 rfl (a1).A _ (sqO BK182.out) Try.underlying40 rfl (szO40 _) ?_) | ((with_reducible refine gate_callee (f := 55) rfl ?_); refine goesL_ (some 11) rfl rfl Try.func55 (by kernel_rfl) rfl #[VO38 a0, VO40 a1] rfl (by (try simp only [List.map_toArray, List.map_cons, List.map_nil]); first | done | rfl | (simp only [List.length_drop, List.length_take]; rfl)) ?_; (with_reducible refine (impl_ValidGrounds.calls a0 a1 true _ A5.out).mono ?_); rintro e w23 ⟨rfl, hb⟩; refine ⟨_, rfl, ?_⟩; replace BK181 := Aside0.mk (sqB BK181.out hb); replace BK182 := Aside0.mk (sqB BK182.out hb); replace BK183 := Aside0.mk (sqB BK183.out hb); replace HB := Aside0.mk (sqH HB.out hb); (try clear hb); (try clear hb2); (try clear hk); (try clear hi)) | ((with_reducible refine gate_dst (N := 14) rfl ?_); (with_reducible refine AR.gate_load (t := 38) rfl ?_); (try refine gate_guard (by rfl) ?_); refine AR.wpList_load_blk rfl 38 _ rfl gb181 rfl (a0).A _ (sqO BK181.out) Try.underlying38 rfl (szO38 _) ?_; have hnb24 := NB183_181.out; have hnc24 := NB181_183.out; have hnb25 := NB183_182.out; have hnc25 := NB182_183.out; obtain ⟨hcz26_0, hcz26_1, hcz26_2, hcz26_3, hcz26_4, hcz26_5⟩ := sqC BK183.out; obtain ⟨hfz26_0, hfz26_1, hfz26_2, hfz26_3, hfz26_4, hfz26_5⟩ := sqF6 BK183.out) | (go_at_call 62; (with_reducible refine (impl_isBoat.calls a0 a2_0 a2_1 a2_2 a2_3 a2_4 a2_5 true _ A7.out).mono ?_); rintro e w27 ⟨rfl, hb⟩; replace BK181 := Aside0.mk (sqB BK181.out hb); replace BK182 := Aside0.mk (sqB BK182.out hb); replace BK183 := Aside0.mk (sqB BK183.out hb); replace HB := Aside0.mk (sqH HB.out hb); (try clear hb); (try clear hb2); (try clear hk); (try clear hi)) | (go_at_call 56; (with_reducible refine (impl_ValidWinds.calls k _ _ l3 false _ ?side1 ?side2 A9.out).mono ?_); (case side1 => repeat (first | exact (Kd.C_below HR3.out HB.out) | (with_reducible refine Kd.C_alloc ?_ _) | (with_reducible refine Kd.C_drewN ?_ _) | (with_reducible refine Kd.C_drew ?_))); (case side2 => exact HC3.out); rintro e w28 ⟨rfl, hb⟩; replace BK181 := Aside0.mk (sqB BK181.out hb); replace BK182 := Aside0.mk (sqB BK182.out hb); replace BK183 := Aside0.mk (sqB BK183.out hb); replace HB := Aside0.mk (sqH HB.out hb); (try clear hb); (try clear hb2); (try clear hk); (try clear hi)))
    go_ret
    exact ⟨by first | rfl | (simp [errW_none, errW_some] <;> rfl) | (simp [*, errW_none, errW_some] <;> rfl), by repeat (first | (with_reducible first | exact HB.out | apply below_alloc | apply pw_below_drewN | apply below_drew1 | refine below_set ?_ GE181.out | refine below_set ?_ GE182.out | refine below_set ?_ GE183.out) | exact HB.out)⟩
  ·replace c8 := Bool.eq_false_iff.mpr c8
   subst c8
   have H1 : (some 1) = some r := by rw [if_neg (show ¬ (false = true) by decide)] at H; exact H
   clear H
   have H := H1
   clear H1
   obtain rfl := Option.some.inj H
   go_enter Try.func40, Try.ntmps40
   go_wp2_with (first | ((with_reducible refine gate_dst (N := 4) rfl ?_); refine box_event ?hg (N := 4) ?hd (cs := (a0).A) (t := 38) ?hr ?_; (case hd => rfl); (case hg => rfl); (case hr => first | exact AR.run_box_row rfl rfl | (go_simp; done) | (go_simp; rfl)); intro gb181 hg w29 hbox hb; have BK181 := Aside0.mk (hbox); have GW181 := Aside0.mk (sqS HB.out hg); replace HB := Aside0.mk (sqH HB.out hb); have GE181 := GW181; clear hb hbox hg) | ((with_reducible refine gate_dst (N := 5) rfl ?_); refine box_event ?hg (N := 5) ?hd (cs := (a1).A) (t := 40) ?hr ?_; (case hd => rfl); (case hg => rfl); (case hr => first | exact AR.run_box_row rfl rfl | (go_simp; done) | (go_simp; rfl)); intro gb182 hg w30 hbox hb; have BK182 := Aside0.mk (hbox); have GW182 := Aside0.mk (sqS HB.out hg); replace HB := Aside0.mk (sqH HB.out hb); have GE182 := GW182; have NB181_182 := Aside0.mk (sqN BK181.out hg); replace BK181 := Aside0.mk (sqB BK181.out hb); have NB182_181 := Aside0.mk (Ne.symm NB181_182.out); clear hb hbox hg) | ((with_reducible refine gate_dst (N := 6) rfl ?_); refine box_event ?hg (N := 6) ?hd (cs := #[.int .i8 a2_0, .int .i8 a2_1, .int .i8 a2_2, .int .i8 a2_3, .int .i8 a2_4, .int .i8 a2_5]) (t := 44) ?hr ?_; (case hd => rfl); (case hg => rfl); (case hr => first | (go_simp; done) | (go_simp; rfl)); intro gb183 hg w31 hbox hb; have BK183 := Aside0.mk (hbox); have GW183 := Aside0.mk (sqS HB.out hg); replace HB := Aside0.mk (sqH HB.out hb); have GE183 := GW183; have NB181_183 := Aside0.mk (sqN BK181.out hg); replace BK181 := Aside0.mk (sqB BK181.out hb); have NB183_181 := Aside0.mk (Ne.symm NB181_183.out); have NB182_183 := Aside0.mk (sqN BK182.out hg); replace BK182 := Aside0.mk (sqB BK182.out hb); have NB183_182 := Aside0.mk (Ne.symm NB182_183.out); clear hb hbox hg) | ((with_reducible refine gate_dst (N := 9) rfl ?_); (with_reducible refine AR.gate_load (t := 38) rfl ?_); (try refine gate_guard (by rfl) ?_); refine AR.wpList_load_blk rfl 38 _ rfl gb181 rfl (a0).A _ (sqO BK181.out) Try.underlying38 rfl (szO38 _) ?_) | ((with_reducible refine gate_dst (N := 10) rfl ?_); (with_reducible refine AR.gate_load (t := 40) rfl ?_); (try refine gate_guard (by rfl) ?_); refine AR.wpList_load_blk rfl 40 _ rfl gb182 rfl (a1).A _ (sqO BK182.out) Try.underlying40 rfl (szO40 _) ?_) | ((with_reducible refine gate_callee (f := 55) rfl ?_); refine goesL_ (some 11) rfl rfl Try.func55 (by kernel_rfl) rfl #[VO38 a0, VO40 a1] rfl (by (try simp only [List.map_toArray, List.map_cons, List.map_nil]); first | done | rfl | (simp only [List.length_drop, List.length_take]; rfl)) ?_; (with_reducible refine (impl_ValidGrounds.calls a0 a1 true _ A5.out).mono ?_); rintro e w32 ⟨rfl, hb⟩; refine ⟨_, rfl, ?_⟩; replace BK181 := Aside0.mk (sqB BK181.out hb); replace BK182 := Aside0.mk (sqB BK182.out hb); replace BK183 := Aside0.mk (sqB BK183.out hb); replace HB := Aside0.mk (sqH HB.out hb); (try clear hb); (try clear hb2); (try clear hk); (try clear hi)) | ((with_reducible refine gate_dst (N := 14) rfl ?_); (with_reducible refine AR.gate_load (t := 38) rfl ?_); (try refine gate_guard (by rfl) ?_); refine AR.wpList_load_blk rfl 38 _ rfl gb181 rfl (a0).A _ (sqO BK181.out) Try.underlying38 rfl (szO38 _) ?_; have hnb33 := NB183_181.out; have hnc33 := NB181_183.out; have hnb34 := NB183_182.out; have hnc34 := NB182_183.out; obtain ⟨hcz35_0, hcz35_1, hcz35_2, hcz35_3, hcz35_4, hcz35_5⟩ := sqC BK183.out; obtain ⟨hfz35_0, hfz35_1, hfz35_2, hfz35_3, hfz35_4, hfz35_5⟩ := sqF6 BK183.out) | (go_at_call 62; (with_reducible refine (impl_isBoat.calls a0 a2_0 a2_1 a2_2 a2_3 a2_4 a2_5 false _ A7.out).mono ?_); rintro e w36 ⟨rfl, hb⟩; replace BK181 := Aside0.mk (sqB BK181.out hb); replace BK182 := Aside0.mk (sqB BK182.out hb); replace BK183 := Aside0.mk (sqB BK183.out hb); replace HB := Aside0.mk (sqH HB.out hb); (try clear hb); (try clear hb2); (try clear hk); (try clear hi)))
   go_ret
   exact ⟨by first | rfl | (simp [errW_none, errW_some] <;> rfl) | (simp [*, errW_none, errW_some] <;> rfl), by repeat (first | (with_reducible first | exact HB.out | apply below_alloc | apply pw_below_drewN | apply below_drew1 | refine below_set ?_ GE181.out | refine below_set ?_ GE182.out | refine below_set ?_ GE183.out) | exact HB.out)⟩
 ·replace c6 := Bool.eq_false_iff.mpr c6
  subst c6
  have H1 : (some 1) = some r := by rw [if_neg (show ¬ (false = true) by decide)] at H; exact H
  clear H
  have H := H1
  clear H1
  obtain rfl := Option.some.inj H
  go_enter Try.func40, Try.ntmps40
  go_wp2_with (first | ((with_reducible refine gate_dst (N := 4) rfl ?_); refine box_event ?hg (N := 4) ?hd (cs := (a0).A) (t := 38) ?hr ?_; (case hd => rfl); (case hg => rfl); (case hr => first | exact AR.run_box_row rfl rfl | (go_simp; done) | (go_simp; rfl)); intro gb181 hg w37 hbox hb; have BK181 := Aside0.mk (hbox); have GW181 := Aside0.mk (sqS HB.out hg); replace HB := Aside0.mk (sqH HB.out hb); have GE181 := GW181; clear hb hbox hg) | ((with_reducible refine gate_dst (N := 5) rfl ?_); refine box_event ?hg (N := 5) ?hd (cs := (a1).A) (t := 40) ?hr ?_; (case hd => rfl); (case hg => rfl); (case hr => first | exact AR.run_box_row rfl rfl | (go_simp; done) | (go_simp; rfl)); intro gb182 hg w38 hbox hb; have BK182 := Aside0.mk (hbox); have GW182 := Aside0.mk (sqS HB.out hg); replace HB := Aside0.mk (sqH HB.out hb); have GE182 := GW182; have NB181_182 := Aside0.mk (sqN BK181.out hg); replace BK181 := Aside0.mk (sqB BK181.out hb); have NB182_181 := Aside0.mk (Ne.symm NB181_182.out); clear hb hbox hg) | ((with_reducible refine gate_dst (N := 6) rfl ?_); refine box_event ?hg (N := 6) ?hd (cs := #[.int .i8 a2_0, .int .i8 a2_1, .int .i8 a2_2, .int .i8 a2_3, .int .i8 a2_4, .int .i8 a2_5]) (t := 44) ?hr ?_; (case hd => rfl); (case hg => rfl); (case hr => first | (go_simp; done) | (go_simp; rfl)); intro gb183 hg w39 hbox hb; have BK183 := Aside0.mk (hbox); have GW183 := Aside0.mk (sqS HB.out hg); replace HB := Aside0.mk (sqH HB.out hb); have GE183 := GW183; have NB181_183 := Aside0.mk (sqN BK181.out hg); replace BK181 := Aside0.mk (sqB BK181.out hb); have NB183_181 := Aside0.mk (Ne.symm NB181_183.out); have NB182_183 := Aside0.mk (sqN BK182.out hg); replace BK182 := Aside0.mk (sqB BK182.out hb); have NB183_182 := Aside0.mk (Ne.symm NB182_183.out); clear hb hbox hg) | ((with_reducible refine gate_dst (N := 9) rfl ?_); (with_reducible refine AR.gate_load (t := 38) rfl ?_); (try refine gate_guard (by rfl) ?_); refine AR.wpList_load_blk rfl 38 _ rfl gb181 rfl (a0).A _ (sqO BK181.out) Try.underlying38 rfl (szO38 _) ?_) | ((with_reducible refine gate_dst (N := 10) rfl ?_); (with_reducible refine AR.gate_load (t := 40) rfl ?_); (try refine gate_guard (by rfl) ?_); refine AR.wpList_load_blk rfl 40 _ rfl gb182 rfl (a1).A _ (sqO BK182.out) Try.underlying40 rfl (szO40 _) ?_) | ((with_reducible refine gate_callee (f := 55) rfl ?_); refine goesL_ (some 11) rfl rfl Try.func55 (by kernel_rfl) rfl #[VO38 a0, VO40 a1] rfl (by (try simp only [List.map_toArray, List.map_cons, List.map_nil]); first | done | rfl | (simp only [List.length_drop, List.length_take]; rfl)) ?_; (with_reducible refine (impl_ValidGrounds.calls a0 a1 false _ A5.out).mono ?_); rintro e w40 ⟨rfl, hb⟩; refine ⟨_, rfl, ?_⟩; replace BK181 := Aside0.mk (sqB BK181.out hb); replace BK182 := Aside0.mk (sqB BK182.out hb); replace BK183 := Aside0.mk (sqB BK183.out hb); replace HB := Aside0.mk (sqH HB.out hb); (try clear hb); (try clear hb2); (try clear hk); (try clear hi)))
  go_ret
  exact ⟨by first | rfl | (simp [errW_none, errW_some] <;> rfl) | (simp [*, errW_none, errW_some] <;> rfl), by repeat (first | (with_reducible first | exact HB.out | apply below_alloc | apply pw_below_drewN | apply below_drew1 | refine below_set ?_ GE181.out | refine below_set ?_ GE182.out | refine below_set ?_ GE183.out) | exact HB.out)⟩
end Go.Proofs.Ytmhmfhdmeedcfaa.G
end
section
namespace Go.Proofs.Ytmhmfhdmeedcfaa.G
open Go.RowKit Go.Proofs.YtmhmfhdmeedcfaaW.PrintWords Go.Proofs.YtmhmfhdmeedcfaaW.PrintLast Go.Proofs.YtmhmfhdmeedcfaaW.PrintMore
attribute [local go_sem] max2_int min2_int max_two min_two max_three min_three max_four min_four   -- for this text's walks alone
set_option linter.unusedVariables false
set_option linter.unusedSimpArgs false
def impl_hold.f (a0 : O38) (a1 : O40) (a2_0 : Int) (a2_1 : Int) (a2_2 : Int) (a2_3 : Int) (a2_4 : Int) (a2_5 : Int) : Option (Int) := (some (([2, 4, 6, 1] : List Int) : List Int)).bind fun y190 => (if 0 ≤ a2_1 then (if a2_1 < 16 then (if 0 ≤ a2_0 then (if a2_0 < 16 then (if 0 ≤ (a1.z (a2_1.toNat * 16 + a2_0.toNat)) then (if (a1.z (a2_1.toNat * 16 + a2_0.toNat)) < (y190.length : Int) then ((impl_depth.f a0 a2_0 a2_1).bind fun t194 => (if t194 = 0 then (none) else (some (wrap64 ((rd y190 (a1.z (a2_1.toNat * 16 + a2_0.toNat))) + (mn (wrap64 (Int.tdiv (wrap64 (a2_2)) t194)) 6)))))) else (none)) else (none)) else (none)) else (none)) else (none)) else (none))
def impl_hold.T1 : Bool × List (List Nat × List Nat) := (true, [([], []), ([], []), ([1], [1]), ([2], [2]), ([], []), ([4], [4]), ([5], [5]), ([3], [3]), ([7, 6], [6, 7]), ([8], [8]), ([0, 9], [0, 9]), ([10], [10]), ([11, 0, 1, 2, 3, 4, 5, 6, 7, 8, 9, 10, 11], [11])])
def impl_hold.B1 : List Nat := [0, 0, 2, 6, 0, 16, 48, 14, 254, 510, 1023, 2047, 4095]
theorem impl_hold.tab1 : rtab .any (opsOf Try.f83 1) = impl_hold.T1 := by kernel_rfl
theorem impl_hold.bits1 : waitsOk impl_hold.T1.2 impl_hold.B1 = true := by kernel_rfl
def impl_hold.T2 : Bool × List (List Nat × List Nat) := (true, [([], []), ([], []), ([1], [1]), ([2], [2]), ([], []), ([], []), ([5], [5]), ([4, 6], [4, 6]), ([3, 7], [3, 7]), ([8], [8]), ([0, 9], [0, 9]), ([10, 7, 0, 1, 2, 3, 4, 5, 6, 7, 8, 9, 10], [10])])
def impl_hold.B2 : List Nat := [0, 0, 2, 6, 0, 0, 32, 112, 254, 510, 1023, 2047]
theorem impl_hold.tab2 : rtab .any (opsOf Try.f83 2) = impl_hold.T2 := by kernel_rfl
theorem impl_hold.bits2 : waitsOk impl_hold.T2.2 impl_hold.B2 = true := by kernel_rfl
set_option maxHeartbeats 8000000 in
set_option maxRecDepth 100000 in
theorem impl_hold.calls (a0 : O38) (a1 : O40) (a2_0 : Int) (a2_1 : Int) (a2_2 : Int) (a2_3 : Int) (a2_4 : Int) (a2_5 : Int) (r : Int) (w : World) (h : impl_hold.f a0 a1 a2_0 a2_1 a2_2 a2_3 a2_4 a2_5 = some r) :
  Calls Try.prog 83 #[VO38 a0, VO40 a1, .agg #[.int .i8 a2_0, .int .i8 a2_1, .int .i8 a2_2, .int .i8 a2_3, .int .i8 a2_4, .int .i8 a2_5]] w fun e w' => e = .returned (.int .i64 r) ∧ Below w.heap.size w w' := by
 have hu44 := Try.underlying44
 have hu42 := Try.underlying42
 have HB := Aside0.mk (Below.refl w.heap.size w)
 have H : ((some (([2, 4, 6, 1] : List Int) : List Int)).bind fun y190 => (if 0 ≤ a2_1 then (if a2_1 < 16 then (if 0 ≤ a2_0 then (if a2_0 < 16 then (if 0 ≤ (a1.z (a2_1.toNat * 16 + a2_0.toNat)) then (if (a1.z (a2_1.toNat * 16 + a2_0.toNat)) < (y190.length : Int) then ((impl_depth.f a0 a2_0 a2_1).bind fun t194 => (if t194 = 0 then (none) else (some (wrap64 ((rd y190 (a1.z (a2_1.toNat * 16 + a2_0.toNat))) + (mn (wrap64 (Int.tdiv (wrap64 (a2_2)) t194)) 6)))))) else (none)) else (none)) else (none)) else (none)) else (none)) else (none))) = some r := h
 clear h
 obtain ⟨y190, hy190⟩ : ∃ y_ : List Int, y_ = (([2, 4, 6, 1] : List Int)) := ⟨_, rfl⟩
 replace H : (if 0 ≤ a2_1 then (if a2_1 < 16 then (if 0 ≤ a2_0 then (if a2_0 < 16 then (if 0 ≤ (a1.z (a2_1.toNat * 16 + a2_0.toNat)) then (if (a1.z (a2_1.toNat * 16 + a2_0.toNat)) < (y190.length : Int) then ((impl_depth.f a0 a2_0 a2_1).bind fun t194 => (if t194 = 0 then (none) else (some (wrap64 ((rd y190 (a1.z (a2_1.toNat * 16 + a2_0.toNat))) + (mn (wrap64 (Int.tdiv (wrap64 (a2_2)) t194)) 6)))))) else (none)) else (none)) else (none)) else (none)) else (none)) else (none)) = some r := by first | (rw [hy190]; with_reducible exact H) | (have H2_ := (Option.bind_some _ _).symm.trans H; rw [hy190]; with_reducible exact H2_) | (have H2_ := (Option.bind_some _ _).symm.trans H; with_reducible exact H2_) | with_reducible exact H | (rw [hy190]; exact H) | exact H
 have Ny190 := Aside0.mk hy190
 clear hy190
 by_cases c4 : 0 ≤ a2_1
 ·rw [if_pos c4] at H
  have c4b0 : decide (0 ≤ a2_1) = true := decide_eq_true c4
  clear c4
  by_cases c5 : a2_1 < 16
  ·rw [if_pos c5] at H
   have c5b0 : decide (a2_1 < 16) = true := decide_eq_true c5
   clear c5
   by_cases c7 : 0 ≤ a2_0
   ·rw [if_pos c7] at H
    have c7b0 : decide (0 ≤ a2_0) = true := decide_eq_true c7
    clear c7
    by_cases c8 : a2_0 < 16
    ·rw [if_pos c8] at H
     have c8b0 : decide (a2_0 < 16) = true := decide_eq_true c8
     clear c8
     obtain ⟨ji10, hji10⟩ : ∃ j_ : Int, (a1.z (a2_1.toNat * 16 + a2_0.toNat)) = j_ := ⟨_, rfl⟩
     replace H : (if 0 ≤ (ji10) then (if (ji10) < (y190.length : Int) then ((impl_depth.f a0 a2_0 a2_1).bind fun t194 => (if t194 = 0 then (none) else (some (wrap64 ((rd y190 (ji10)) + (mn (wrap64 (Int.tdiv (wrap64 (a2_2)) t194)) 6)))))) else (none)) else (none)) = some r := by first | (rw [hji10] at H; exact H) | (simp only [hji10] at H ⊢; exact H)
     by_cases c11 : 0 ≤ (ji10)
     ·rw [if_pos c11] at H
      have c11b0 : decide (0 ≤ (ji10)) = true := decide_eq_true c11
      clear c11
      by_cases c12 : (ji10) < (y190.length : Int)
      ·rw [if_pos c12] at H
       have c12b0 : decide ((ji10) < (y190.length : Int)) = true := decide_eq_true c12
       clear c12
       replace H := Option.bind_eq_some_iff.mp H
       obtain ⟨t194, A130, H⟩ := H
       replace H : (if t194 = 0 then (none) else (some (wrap64 ((rd y190 (ji10)) + (mn (wrap64 (Int.tdiv (wrap64 (a2_2)) t194)) 6))))) = some r := H
       have A13 := Aside0.mk A130
       clear A130
       by_cases c14 : t194 = 0
       ·rw [if_pos c14] at H
        exact absurd H (by simp)
       ·rw [if_neg c14] at H
        have c14b0 : (t194 == 0) = false := beq_eq_false_iff_ne.mpr c14
        have c14b1 : (t194 != 0) = true := bne_iff_ne.mpr c14
        obtain ⟨ji15, hji15⟩ : ∃ j_ : Int, (mn (wrap64 (Int.tdiv (wrap64 (a2_2)) t194)) 6) = j_ := ⟨_, rfl⟩
        replace H : (some (wrap64 ((rd y190 (ji10)) + (ji15)))) = some r := by first | (rw [hji15] at H; exact H) | (simp only [hji15] at H ⊢; exact H)
        (try rw [hji15] at A13)
        (try (have hji15h : ji15 ≤ 6 := by (rw [← hji15]; unfold mn; (repeat' split) <;> omega)))
        (try (have hji15g : ji15 ≤ 64 := by omega))
        have hji15_ : (if 6 < (wrap64 (Int.tdiv (wrap64 (a2_2)) t194)) then 6 else (wrap64 (Int.tdiv (wrap64 (a2_2)) t194))) = ji15 := hji15
        obtain rfl := Option.some.inj H
        go_enter Try.func83, Try.ntmps83
        try go_wp2_with (first | ((with_reducible refine gate_dst (N := 3) rfl ?_); refine box_event ?hg (N := 3) ?hd (cs := (a0).A) (t := 38) ?hr ?_; (case hd => rfl); (case hg => rfl); (case hr => first | exact AR.run_box_row rfl rfl | (go_simp; done) | (go_simp; rfl)); intro gb187 hg w16 hbox hb; have BK187 := Aside0.mk (hbox); have GW187 := Aside0.mk (sqS HB.out hg); replace HB := Aside0.mk (sqH HB.out hb); have GE187 := GW187; clear hb hbox hg) | ((with_reducible refine gate_dst (N := 4) rfl ?_); refine box_event ?hg (N := 4) ?hd (cs := (a1).A) (t := 40) ?hr ?_; (case hd => rfl); (case hg => rfl); (case hr => first | exact AR.run_box_row rfl rfl | (go_simp; done) | (go_simp; rfl)); intro gb188 hg w17 hbox hb; have BK188 := Aside0.mk (hbox); have GW188 := Aside0.mk (sqS HB.out hg); replace HB := Aside0.mk (sqH HB.out hb); have GE188 := GW188; have NB187_188 := Aside0.mk (sqN BK187.out hg); replace BK187 := Aside0.mk (sqB BK187.out hb); have NB188_187 := Aside0.mk (Ne.symm NB187_188.out); clear hb hbox hg) | ((with_reducible refine gate_dst (N := 5) rfl ?_); refine box_event ?hg (N := 5) ?hd (cs := #[.int .i8 a2_0, .int .i8 a2_1, .int .i8 a2_2, .int .i8 a2_3, .int .i8 a2_4, .int .i8 a2_5]) (t := 44) ?hr ?_; (case hd => rfl); (case hg => rfl); (case hr => first | (go_simp; done) | (go_simp; rfl)); intro gb189 hg w18 hbox hb; have BK189 := Aside0.mk (hbox); have GW189 := Aside0.mk (sqS HB.out hg); replace HB := Aside0.mk (sqH HB.out hb); have GE189 := GW189; have NB187_189 := Aside0.mk (sqN BK187.out hg); replace BK187 := Aside0.mk (sqB BK187.out hb); have NB189_187 := Aside0.mk (Ne.symm NB187_189.out); have NB188_189 := Aside0.mk (sqN BK188.out hg); replace BK188 := Aside0.mk (sqB BK188.out hb); have NB189_188 := Aside0.mk (Ne.symm NB188_189.out); clear hb hbox hg))
        have pi193 : (0 ≤ ((ji10) : Int)) = True := eq_true (of_decide_eq_true (by first | (with_reducible assumption) | assumption))
        have qi193 : ((ji10) < (y190.length : Int)) = True := eq_true (of_decide_eq_true (by first | (with_reducible assumption) | assumption))
        replace BK187 := Aside0.mk (blk_drew BK187.out)
        replace BK188 := Aside0.mk (blk_drew BK188.out)
        replace BK189 := Aside0.mk (blk_drew BK189.out)
        replace HB := Aside0.mk (below_drew1 HB.out)
        have p6 : 0 ≤ (a2_1 : Int) := of_decide_eq_true (by first | (with_reducible assumption) | assumption)
        have q6 : (a2_1 : Int) < (16 : Int) := of_decide_eq_true (by first | (with_reducible assumption) | assumption)
        replace p6 := eq_true p6
        replace q6 := eq_true q6
        have p9 : 0 ≤ (a2_0 : Int) := of_decide_eq_true (by first | (with_reducible assumption) | assumption)
        have q9 : (a2_0 : Int) < (16 : Int) := of_decide_eq_true (by first | (with_reducible assumption) | assumption)
        replace p9 := eq_true p9
        replace q9 := eq_true q9
        refine start_ (n := 13) (S := fun w' => w'.cell? ⟨gb189, 0, none⟩ = some (.int .i8 a2_0) ∧ w'.cell? ⟨gb189, 1, none⟩ = some (.int .i8 a2_1) ∧ w'.cell? ⟨gb189, 2, none⟩ = some (.int .i8 a2_2) ∧ w'.cell? ⟨gb189, 3, none⟩ = some (.int .i8 a2_3) ∧ w'.cell? ⟨gb189, 4, none⟩ = some (.int .i8 a2_4) ∧ w'.cell? ⟨gb189, 5, none⟩ = some (.int .i8 a2_5) ∧ w'.cell? ⟨gb188, a2_1.toNat * 16 + a2_0.toNat, none⟩ = some (.int .u8 (a1.z (a2_1.toNat * 16 + a2_0.toNat)))) (ds := []) #[false, false, false, false, false, false, false, false, false, false, false, false, false] (by kernel_rfl) rfl rfl ⟨(blk_cell BK189.out 0).trans rfl, (blk_cell BK189.out 1).trans rfl, (blk_cell BK189.out 2).trans rfl, (blk_cell BK189.out 3).trans rfl, (blk_cell BK189.out 4).trans rfl, (blk_cell BK189.out 5).trans rfl, AR.blk_cell BK188.out (Flat.at_ a1 (by first | decide | (have hb0_ : 0 ≤ (a2_1 : Int) := (by first | omega | exact of_decide_eq_true (by first | (with_reducible assumption) | assumption)); have hc0_ : (a2_1 : Int) < 16 := (by first | omega | exact of_decide_eq_true (by first | (with_reducible assumption) | assumption)); have hb1_ : 0 ≤ (a2_0 : Int) := (by first | omega | exact of_decide_eq_true (by first | (with_reducible assumption) | assumption)); have hc1_ : (a2_0 : Int) < 16 := (by first | omega | exact of_decide_eq_true (by first | (with_reducible assumption) | assumption)); omega)))⟩ (fun hHeld => ?_); refine with_tabW impl_hold.tab1 impl_hold.bits1 (fun HT_ HW_ => ?_)
        generalize w18.drew = w19 at BK187 BK188 BK189 HB hHeld ⊢
        refine pure_ (i := 1) (N := some 9) (v := ?_) (a' := ?_) #[false, true, false, false, false, false, false, false, false, false, false, false, false] rfl rfl (any_of HT_.out (by kernel_rfl)) (fun _ _ _ h => h) (Or.inl ⟨by rfl, ?_⟩) ?_ ?_
        rotate_left
        ·intro w'
         go_simp
         with_reducible rfl
        rotate_left
        ·simp only [Act.put, List.setIfInBounds_toArray, List.set_cons_zero, List.set_cons_succ, i64_w, i32_w]
         rfl
        refine pure_ (i := 2) (N := some 10) (v := ?_) (a' := ?_) #[false, true, true, false, false, false, false, false, false, false, false, false, false] rfl rfl (any_of HT_.out (by kernel_rfl)) (fun _ _ _ h => h) (Or.inl ⟨by rfl, ?_⟩) ?_ ?_
        rotate_left
        ·intro w'
         go_simp
         with_reducible rfl
        rotate_left
        ·simp only [Act.put, List.setIfInBounds_toArray, List.set_cons_zero, List.set_cons_succ, i64_w, i32_w]
         rfl
        refine pure_ (i := 4) (N := some 12) (v := ?_) (a' := ?_) #[false, true, true, false, true, false, false, false, false, false, false, false, false] rfl rfl (any_of HT_.out (by kernel_rfl)) (fun _ _ _ h => h) (Or.inl ⟨by rfl, ?_⟩) ?_ ?_
        rotate_left
        ·intro w'
         go_simp
         with_reducible rfl
        rotate_left
        ·simp only [Act.put, List.setIfInBounds_toArray, List.set_cons_zero, List.set_cons_succ, i64_w, i32_w]
         rfl
        refine pure_ (i := 5) (N := some 13) (v := ?_) (a' := ?_) #[false, true, true, false, true, true, false, false, false, false, false, false, false] rfl rfl (any_of HT_.out (by kernel_rfl)) (fun _ _ _ h => h) (Or.inl ⟨by rfl, ?_⟩) ?_ ?_
        rotate_left
        ·intro w'
         go_simp
         with_reducible rfl
        rotate_left
        ·simp only [Act.put, List.setIfInBounds_toArray, List.set_cons_zero, List.set_cons_succ, i64_w, i32_w]
         rfl
        refine take_ (i := 3) (N := some 11) (v := ?_) (a' := ?_) #[false, true, true, true, true, true, false, false, false, false, false, false, false] rfl rfl (take_ofW HT_.out HW_.out (by kernel_rfl)) (fun _ _ _ h => h) (Or.inl ⟨by rfl, ?_⟩) hHeld ?_ ?_
        rotate_left
        ·rintro w' ⟨s0, s1, s2, s3, s4, s5, s6⟩
         go_simp
         with_reducible rfl
        rotate_left
        ·simp only [Act.put, List.setIfInBounds_toArray, List.set_cons_zero, List.set_cons_succ, i64_w, i32_w]
         rfl
        refine pure_ (i := 7) (N := some 15) (v := ?_) (a' := ?_) #[false, true, true, true, true, true, false, true, false, false, false, false, false] rfl rfl (any_of HT_.out (by kernel_rfl)) (fun _ _ _ h => h) (Or.inl ⟨by rfl, ?_⟩) ?_ ?_
        rotate_left
        ·intro w'
         go_simp
         with_reducible rfl
        rotate_left
        ·simp only [Act.put, List.setIfInBounds_toArray, List.set_cons_zero, List.set_cons_succ, i64_w, i32_w]
         rfl
        refine take_ (i := 6) (N := some 14) (v := ?_) (a' := ?_) #[false, true, true, true, true, true, true, true, false, false, false, false, false] rfl rfl (take_ofW HT_.out HW_.out (by kernel_rfl)) (fun _ _ _ h => h) (Or.inl ⟨by rfl, ?_⟩) hHeld ?_ ?_
        rotate_left
        ·rintro w' ⟨s0, s1, s2, s3, s4, s5, s6⟩
         go_simp
         with_reducible rfl
        rotate_left
        ·simp only [Act.put, List.setIfInBounds_toArray, List.set_cons_zero, List.set_cons_succ, i64_w, i32_w]
         rfl
        refine pure_ (i := 8) (N := some 16) (v := ?_) (a' := ?_) #[false, true, true, true, true, true, true, true, true, false, false, false, false] rfl rfl (any_of HT_.out (by kernel_rfl)) (fun _ _ _ h => h) (Or.inl ⟨by rfl, ?_⟩) ?_ ?_
        rotate_left
        ·intro w'
         go_simp
         with_reducible rfl
        rotate_left
        ·simp only [Act.put, List.setIfInBounds_toArray, List.set_cons_zero, List.set_cons_succ, i64_w, i32_w]
         rfl
        refine take_ (i := 9) (N := some 17) (v := ?_) (a' := ?_) #[false, true, true, true, true, true, true, true, true, true, false, false, false] rfl rfl (take_ofW HT_.out HW_.out (by kernel_rfl)) (fun _ _ _ h => h) (Or.inl ⟨by rfl, ?_⟩) hHeld ?_ ?_
        rotate_left
        ·rintro w' ⟨s0, s1, s2, s3, s4, s5, s6⟩
         go_simp
         with_reducible rfl
        rotate_left
        ·simp only [Act.put, List.setIfInBounds_toArray, List.set_cons_zero, List.set_cons_succ, i64_w, i32_w]
         rfl
        refine one_ (i := 0) (N := some 8) #[true, true, true, true, true, true, true, true, true, true, false, false, false] rfl rfl (one_of HT_.out (by kernel_rfl)) (by decide) (fun K hK => ?_)
        refine Kd.R_lit_step (Kd.int .i64) _ 2 ?hg (N := 8) ?hd (xs := ([2, 4, 6, 1] : List Int)) (inner := [.int .i64 2, .int .i64 4, .int .i64 6, .int .i64 1]) (ok := fun _ => True) (okp := fun _ => True) ?hr ?hp (fun _ hk => hk) trivial (Below.refl _ _) (Nat.le_refl _) (by simp) ?_; (case hd => rfl); (case hg => rfl); (case hr => first | (go_simp; done) | (go_simp; rfl)); (case hp => exact (Reps.one (show Kd.M (Kd.int .i64) _ _ _ 2 [.int .i64 2] from rfl) (Reps.one (show Kd.M (Kd.int .i64) _ _ _ 4 [.int .i64 4] from rfl) (Reps.one (show Kd.M (Kd.int .i64) _ _ _ 6 [.int .i64 6] from rfl) (Reps.one (show Kd.M (Kd.int .i64) _ _ _ 1 [.int .i64 1] from rfl) (Reps.none _ _))))))
        intro v191 w20 ho21 hb hg_ hnew_
        clear hg_ hnew_
        (first | rw [← Ny190.out] at ho21 | (simp only [Int.reduceToNat] at ho21; rw [← Ny190.out] at ho21))
        have HO192 := Aside0.mk (Kd.R_lower ho21 (sqW HB.out))
        replace BK187 := Aside0.mk (sqB BK187.out hb)
        replace BK188 := Aside0.mk (sqB BK188.out hb)
        replace BK189 := Aside0.mk (sqB BK189.out hb)
        replace HB := Aside0.mk (sqH HB.out hb)
        clear hb ho21
        obtain ⟨Ao22, co22, eo22⟩ := Kd.R_slice HO192.out
        subst eo22
        obtain ⟨ado22, fo22, _⟩ := Kd.at_int (Kd.R_reads' HO192.out).2.2 0 (by decide) (by rw [Ny190.out]; simp)
        cases fo22
        refine hK.out _ _ ⟨(blk_cell BK189.out 0).trans rfl, (blk_cell BK189.out 1).trans rfl, (blk_cell BK189.out 2).trans rfl, (blk_cell BK189.out 3).trans rfl, (blk_cell BK189.out 4).trans rfl, (blk_cell BK189.out 5).trans rfl, AR.blk_cell BK188.out (Flat.at_ a1 (by first | decide | (have hb0_ : 0 ≤ (a2_1 : Int) := (by first | omega | exact of_decide_eq_true (by first | (with_reducible assumption) | assumption)); have hc0_ : (a2_1 : Int) < 16 := (by first | omega | exact of_decide_eq_true (by first | (with_reducible assumption) | assumption)); have hb1_ : 0 ≤ (a2_0 : Int) := (by first | omega | exact of_decide_eq_true (by first | (with_reducible assumption) | assumption)); have hc1_ : (a2_0 : Int) < 16 := (by first | omega | exact of_decide_eq_true (by first | (with_reducible assumption) | assumption)); omega)))⟩ (fun hHeld => ?_)
        clear hK K
        refine norm_ (a' := ?_) ?_ ?_
        rotate_left
        ·show Act.put _ (some 8) _ = _
         simp only [Act.put, List.setIfInBounds_toArray, List.set_cons_zero, List.set_cons_succ, i64_w, i32_w]
         rfl
        refine pure_ (i := 10) (N := some 18) (v := ?_) (a' := ?_) #[true, true, true, true, true, true, true, true, true, true, true, false, false] rfl rfl (any_of HT_.out (by kernel_rfl)) (fun _ _ _ h => h) (Or.inl ⟨by rfl, ?_⟩) ?_ ?_
        rotate_left
        ·intro w'
         go_simp
         with_reducible rfl
        rotate_left
        ·simp only [Act.put, List.setIfInBounds_toArray, List.set_cons_zero, List.set_cons_succ, i64_w, i32_w]
         rfl
        refine one_ (i := 11) (N := some 19) #[true, true, true, true, true, true, true, true, true, true, true, true, false] rfl rfl (one_of HT_.out (by kernel_rfl)) (by decide) (fun K hK => ?_)
        (have p193 : 0 ≤ ((ji10) : Int) := of_decide_eq_true (by first | (with_reducible assumption) | assumption); have q193 : (ji10) < (y190.length : Int) := of_decide_eq_true (by first | (with_reducible assumption) | assumption); obtain ⟨ad193, e193, hx193_0⟩ := Kd.at_int (Kd.R_reads' HO192.out).2.2 (ji10) p193 q193; obtain rfl : ado22 = ad193 := (by injection e193))
        refine value_ (w1 := ?_) (v := ?_) (by rfl) rfl ?_ ?_
        rotate_left 2
        ·go_simp
         constructor
         ·rfl
         ·rfl
        clear hx193_0
        refine hK.out _ _ ⟨(blk_cell BK189.out 0).trans rfl, (blk_cell BK189.out 1).trans rfl, (blk_cell BK189.out 2).trans rfl, (blk_cell BK189.out 3).trans rfl, (blk_cell BK189.out 4).trans rfl, (blk_cell BK189.out 5).trans rfl, AR.blk_cell BK188.out (Flat.at_ a1 (by first | decide | (have hb0_ : 0 ≤ (a2_1 : Int) := (by first | omega | exact of_decide_eq_true (by first | (with_reducible assumption) | assumption)); have hc0_ : (a2_1 : Int) < 16 := (by first | omega | exact of_decide_eq_true (by first | (with_reducible assumption) | assumption)); have hb1_ : 0 ≤ (a2_0 : Int) := (by first | omega | exact of_decide_eq_true (by first | (with_reducible assumption) | assumption)); have hc1_ : (a2_0 : Int) < 16 := (by first | omega | exact of_decide_eq_true (by first | (with_reducible assumption) | assumption)); omega)))⟩ (fun hHeld => ?_)
        clear hK K
        refine norm_ (a' := ?_) ?_ ?_
        rotate_left
        ·show Act.put _ (some 19) _ = _
         simp only [Act.put, List.setIfInBounds_toArray, List.set_cons_zero, List.set_cons_succ, i64_w, i32_w]
         rfl
        refine pure_ (i := 12) (N := some 7) (v := ?_) (a' := ?_) #[true, true, true, true, true, true, true, true, true, true, true, true, true] rfl rfl (any_of HT_.out (by kernel_rfl)) (fun _ _ _ h => h) (Or.inl ⟨by rfl, ?_⟩) ?_ ?_
        rotate_left
        ·intro w'
         go_simp
         with_reducible rfl
        rotate_left
        ·simp only [Act.put, List.setIfInBounds_toArray, List.set_cons_zero, List.set_cons_succ, i64_w, i32_w]
         rfl
        refine done_ (done_of HT_.out (by kernel_rfl)) ?_
        try go_wp2
        replace HO192 := Aside0.mk (Kd.R_drew HO192.out)
        replace BK187 := Aside0.mk (blk_drew BK187.out)
        replace BK188 := Aside0.mk (blk_drew BK188.out)
        replace BK189 := Aside0.mk (blk_drew BK189.out)
        replace HB := Aside0.mk (below_drew1 HB.out)
        refine start_ (n := 12) (S := fun w' => w'.cell? ⟨gb189, 0, none⟩ = some (.int .i8 a2_0) ∧ w'.cell? ⟨gb189, 1, none⟩ = some (.int .i8 a2_1) ∧ w'.cell? ⟨gb189, 2, none⟩ = some (.int .i8 a2_2) ∧ w'.cell? ⟨gb189, 3, none⟩ = some (.int .i8 a2_3) ∧ w'.cell? ⟨gb189, 4, none⟩ = some (.int .i8 a2_4) ∧ w'.cell? ⟨gb189, 5, none⟩ = some (.int .i8 a2_5) ∧ w'.heap[gb187]? = some (.cells (a0).A 38 (0, 0))) (ds := []) #[false, false, false, false, false, false, false, false, false, false, false, false] (by kernel_rfl) rfl rfl ⟨(blk_cell BK189.out 0).trans rfl, (blk_cell BK189.out 1).trans rfl, (blk_cell BK189.out 2).trans rfl, (blk_cell BK189.out 3).trans rfl, (blk_cell BK189.out 4).trans rfl, (blk_cell BK189.out 5).trans rfl, BK187.out⟩ (fun hHeld => ?_); refine with_tabW impl_hold.tab2 impl_hold.bits2 (fun HT_ HW_ => ?_)
        generalize w20.drew = w23 at HO192 BK187 BK188 BK189 HB hHeld ⊢
        refine pure_ (i := 0) (N := some 20) (v := ?_) (a' := ?_) #[true, false, false, false, false, false, false, false, false, false, false, false] rfl rfl (any_of HT_.out (by kernel_rfl)) (fun _ _ _ h => h) (Or.inl ⟨by rfl, ?_⟩) ?_ ?_
        rotate_left
        ·intro w'
         go_simp
         with_reducible rfl
        rotate_left
        ·simp only [Act.put, List.setIfInBounds_toArray, List.set_cons_zero, List.set_cons_succ, i64_w, i32_w]
         rfl
        refine pure_ (i := 1) (N := some 21) (v := ?_) (a' := ?_) #[true, true, false, false, false, false, false, false, false, false, false, false] rfl rfl (any_of HT_.out (by kernel_rfl)) (fun _ _ _ h => h) (Or.inl ⟨by rfl, ?_⟩) ?_ ?_
        rotate_left
        ·intro w'
         go_simp
         with_reducible rfl
        rotate_left
        ·simp only [Act.put, List.setIfInBounds_toArray, List.set_cons_zero, List.set_cons_succ, i64_w, i32_w]
         rfl
        refine pure_ (i := 5) (N := some 25) (v := ?_) (a' := ?_) #[true, true, false, false, false, true, false, false, false, false, false, false] rfl rfl (any_of HT_.out (by kernel_rfl)) (fun _ _ _ h => h) (Or.inl ⟨by rfl, ?_⟩) ?_ ?_
        rotate_left
        ·intro w'
         go_simp
         with_reducible rfl
        rotate_left
        ·simp only [Act.put, List.setIfInBounds_toArray, List.set_cons_zero, List.set_cons_succ, i64_w, i32_w]
         rfl
        refine take_ (i := 2) (N := some 22) (v := ?_) (a' := ?_) #[true, true, true, false, false, true, false, false, false, false, false, false] rfl rfl (take_ofW HT_.out HW_.out (by kernel_rfl)) (fun _ _ _ h => h) (Or.inl ⟨by rfl, ?_⟩) hHeld ?_ ?_
        rotate_left
        ·rintro w' ⟨s0, s1, s2, s3, s4, s5, s6⟩
         skip
         first | (refine Eq.trans (AR.exec_load_blk rfl rfl s6 Try.underlying38 rfl (szO38 _)) ?_; with_reducible rfl) | (go_simp; with_reducible rfl)
        rotate_left
        ·simp only [Act.put, List.setIfInBounds_toArray, List.set_cons_zero, List.set_cons_succ, i64_w, i32_w]
         rfl
        refine pure_ (i := 3) (N := some 23) (v := ?_) (a' := ?_) #[true, true, true, true, false, true, false, false, false, false, false, false] rfl rfl (any_of HT_.out (by kernel_rfl)) (fun _ _ _ h => h) (Or.inl ⟨by rfl, ?_⟩) ?_ ?_
        rotate_left
        ·intro w'
         go_simp
         with_reducible rfl
        rotate_left
        ·simp only [Act.put, List.setIfInBounds_toArray, List.set_cons_zero, List.set_cons_succ, i64_w, i32_w]
         rfl
        refine take_ (i := 4) (N := some 24) (v := ?_) (a' := ?_) #[true, true, true, true, true, true, false, false, false, false, false, false] rfl rfl (take_ofW HT_.out HW_.out (by kernel_rfl)) (fun _ _ _ h => h) (Or.inl ⟨by rfl, ?_⟩) hHeld ?_ ?_
        rotate_left
        ·rintro w' ⟨s0, s1, s2, s3, s4, s5, s6⟩
         skip
         first | (refine Eq.trans (AR.exec_load_blk rfl rfl s6 Try.underlying38 rfl (szO38 _)) ?_; with_reducible rfl) | (go_simp; with_reducible rfl)
        rotate_left
        ·simp only [Act.put, List.setIfInBounds_toArray, List.set_cons_zero, List.set_cons_succ, i64_w, i32_w]
         rfl
        refine take_ (i := 6) (N := some 26) (v := ?_) (a' := ?_) #[true, true, true, true, true, true, true, false, false, false, false, false] rfl rfl (take_ofW HT_.out HW_.out (by kernel_rfl)) (fun _ _ _ h => h) (Or.inl ⟨by rfl, ?_⟩) hHeld ?_ ?_
        rotate_left
        ·rintro w' ⟨s0, s1, s2, s3, s4, s5, s6⟩
         skip
         first | (refine Eq.trans (AR.exec_load_blk rfl rfl s6 Try.underlying38 rfl (szO38 _)) ?_; with_reducible rfl) | (go_simp; with_reducible rfl)
        rotate_left
        ·simp only [Act.put, List.setIfInBounds_toArray, List.set_cons_zero, List.set_cons_succ, i64_w, i32_w]
         rfl
        refine one_ (i := 7) (N := some 27) #[true, true, true, true, true, true, true, true, false, false, false, false] rfl rfl (one_of HT_.out (by kernel_rfl)) (by decide) (fun K hK => ?_)
        refine goes_ Try.func85 (by kernel_rfl) rfl #[VO38 a0, .agg #[.int .i8 a2_0, .int .i8 a2_1]] (by rfl) rfl rfl (by (try simp only [List.map_toArray, List.map_cons, List.map_nil]); first | done | rfl | (simp only [List.length_drop, List.length_take]; rfl)) ?_
        with_reducible refine (impl_depth.calls a0 a2_0 a2_1 t194 _ A13.out).mono ?_
        rintro e w24 ⟨rfl, hb⟩
        refine ⟨_, rfl, ?_⟩
        replace HO192 := Aside0.mk (sqR HO192.out hb)
        replace BK187 := Aside0.mk (sqB BK187.out hb)
        replace BK188 := Aside0.mk (sqB BK188.out hb)
        replace BK189 := Aside0.mk (sqB BK189.out hb)
        replace HB := Aside0.mk (sqH HB.out hb)
        (try clear hb)
        (try clear hb2)
        (try clear hk)
        (try clear hi)
        refine hK.out _ _ ⟨(blk_cell BK189.out 0).trans rfl, (blk_cell BK189.out 1).trans rfl, (blk_cell BK189.out 2).trans rfl, (blk_cell BK189.out 3).trans rfl, (blk_cell BK189.out 4).trans rfl, (blk_cell BK189.out 5).trans rfl, BK187.out⟩ (fun hHeld => ?_)
        clear hK K
        refine norm_ (a' := ?_) ?_ ?_
        rotate_left
        ·show Act.put _ (some 27) _ = _
         simp only [Act.put, List.setIfInBounds_toArray, List.set_cons_zero, List.set_cons_succ, i64_w, i32_w]
         rfl
        refine pure_ (i := 8) (N := some 28) (v := ?_) (a' := ?_) #[true, true, true, true, true, true, true, true, true, false, false, false] rfl rfl (any_of HT_.out (by kernel_rfl)) (fun _ _ _ h => h) (Or.inl ⟨by rfl, ?_⟩) ?_ ?_
        rotate_left
        ·intro w'
         go_simp
         with_reducible rfl
        rotate_left
        ·simp only [Act.put, List.setIfInBounds_toArray, List.set_cons_zero, List.set_cons_succ, i64_w, i32_w]
         rfl
        refine pure_ (i := 9) (N := some 29) (v := ?_) (a' := ?_) #[true, true, true, true, true, true, true, true, true, true, false, false] rfl rfl (any_of HT_.out (by kernel_rfl)) (fun _ _ _ h => h) (Or.inl ⟨by rfl, ?_⟩) ?_ ?_
        rotate_left
        ·intro w'
         go_simp
         with_reducible rfl
        rotate_left
        ·simp only [Act.put, List.setIfInBounds_toArray, List.set_cons_zero, List.set_cons_succ, i64_w, i32_w]
         rfl
        refine pure_ (i := 10) (N := some 30) (v := ?_) (a' := ?_) #[true, true, true, true, true, true, true, true, true, true, true, false] rfl rfl (any_of HT_.out (by kernel_rfl)) (fun _ _ _ h => h) (Or.inl ⟨by rfl, ?_⟩) ?_ ?_
        rotate_left
        ·intro w'
         go_simp
         with_reducible rfl
        rotate_left
        ·simp only [Act.put, List.setIfInBounds_toArray, List.set_cons_zero, List.set_cons_succ, i64_w, i32_w]
         rfl
        refine pure_ (i := 11) (N := some 6) (v := ?_) (a' := ?_) #[true, true, true, true, true, true, true, true, true, true, true, true] rfl rfl (any_of HT_.out (by kernel_rfl)) (fun _ _ _ h => h) (Or.inl ⟨by rfl, ?_⟩) ?_ ?_
        rotate_left
        ·intro w'
         go_simp
         with_reducible rfl
        rotate_left
        ·simp only [Act.put, List.setIfInBounds_toArray, List.set_cons_zero, List.set_cons_succ, i64_w, i32_w]
         rfl
        refine done_ (done_of HT_.out (by kernel_rfl)) ?_
        try go_wp2
        go_ret
        exact ⟨by first | rfl | (simp [errW_none, errW_some] <;> rfl) | (simp only [← hji10, ← hji15]; first | rfl | (simp [errW_none, errW_some] <;> rfl)) | (simp [*, errW_none, errW_some] <;> rfl), by repeat (first | (with_reducible first | exact HB.out | apply below_alloc | apply pw_below_drewN | apply below_drew1 | refine below_set ?_ GE187.out | refine below_set ?_ GE188.out | refine below_set ?_ GE189.out) | exact HB.out)⟩
      ·rw [if_neg c12] at H
       exact absurd H (by simp)
     ·rw [if_neg c11] at H
      exact absurd H (by simp)
    ·rw [if_neg c8] at H
     exact absurd H (by simp)
   ·rw [if_neg c7] at H
    exact absurd H (by simp)
  ·rw [if_neg c5] at H
   exact absurd H (by simp)
 ·rw [if_neg c4] at H
  exact absurd H (by simp)
end Go.Proofs.Ytmhmfhdmeedcfaa.G
end
section
namespace Go.Proofs.Ytmhmfhdmeedcfaa.G
open Go.RowKit Go.Proofs.YtmhmfhdmeedcfaaW.PrintWords Go.Proofs.YtmhmfhdmeedcfaaW.PrintLast Go.Proofs.YtmhmfhdmeedcfaaW.PrintMore
attribute [local go_sem] max2_int min2_int max_two min_two max_three min_three max_four min_four   -- for this text's walks alone
set_option linter.unusedVariables false
set_option linter.unusedSimpArgs false
def impl_drift.f (a0 : O38) (a1 : O40) (a2_0 : Int) (a2_1 : Int) (a2_2 : Int) (a2_3 : Int) (a2_4 : Int) (a2_5 : Int) (a3_0 : Int) (a3_1 : Int) : Option (Int × Int × Int × Int × Int × Int × Bool × Bool) := (impl_hold.f a0 a1 a2_0 a2_1 a2_2 a2_3 a2_4 a2_5).bind fun t200 => (if (wrap64 (a3_0)) ≤ t200 then (some (a2_0, a2_1, a2_2, a2_3, a2_4, a2_5, false, false)) else ((some (([0, 1, 1, 1, 0, (-1), (-1), (-1)] : List Int) : List Int)).bind fun y201 => (if 0 ≤ a3_1 then (if a3_1 < (y201.length : Int) then ((some (([(-1), (-1), 0, 1, 1, 1, 0, (-1)] : List Int) : List Int)).bind fun y205 => (if a3_1 < (y205.length : Int) then ((impl_isWater.f a0 (IntKind.i8.wrap (a2_0 + (rd y201 a3_1))) (IntKind.i8.wrap (a2_1 + (rd y205 a3_1)))).bind fun t210 => (if t210 = true then (some (IntKind.i8.wrap (a2_0 + (rd y201 a3_1)), IntKind.i8.wrap (a2_1 + (rd y205 a3_1)), a2_2, a2_3, a2_4, a2_5, true, false)) else (some (a2_0, a2_1, a2_2, a2_3, a2_4, a2_5, true, true)))) else (none))) else (none)) else (none))))
def impl_drift.T1 : Bool × List (List Nat × List Nat) := (true, [([], []), ([0], [0]), ([1], [1]), ([], []), ([], []), ([], []), ([3, 4, 5], [3, 4, 5]), ([2, 6], [2, 6])])
def impl_drift.B1 : List Nat := [0, 1, 3, 0, 0, 0, 56, 127]
theorem impl_drift.tab1 : rtab .any (opsOf Try.f72 1) = impl_drift.T1 := by kernel_rfl
theorem impl_drift.bits1 : waitsOk impl_drift.T1.2 impl_drift.B1 = true := by kernel_rfl
set_option maxHeartbeats 8000000 in
set_option maxRecDepth 100000 in
theorem impl_drift.calls (a0 : O38) (a1 : O40) (a2_0 : Int) (a2_1 : Int) (a2_2 : Int) (a2_3 : Int) (a2_4 : Int) (a2_5 : Int) (a3_0 : Int) (a3_1 : Int) (r1 : Int) (r2 : Int) (r3 : Int) (r4 : Int) (r5 : Int) (r6 : Int) (r7 : Bool) (r8 : Bool) (w : World) (h : impl_drift.f a0 a1 a2_0 a2_1 a2_2 a2_3 a2_4 a2_5 a3_0 a3_1 = some (r1, r2, r3, r4, r5, r6, r7, r8)) :
  Calls Try.prog 72 #[VO38 a0, VO40 a1, .agg #[.int .i8 a2_0, .int .i8 a2_1, .int .i8 a2_2, .int .i8 a2_3, .int .i8 a2_4, .int .i8 a2_5], .agg #[.int .i8 a3_0, .int .i8 a3_1]] w fun e w' => e = .returned (.tuple #[.agg #[.int .i8 r1, .int .i8 r2, .int .i8 r3, .int .i8 r4, .int .i8 r5, .int .i8 r6], .bool r7, .bool r8]) ∧ Below w.heap.size w w' := by
 have hu44 := Try.underlying44
 have hu78 := Try.underlying78
 have hu42 := Try.underlying42
 have HB := Aside0.mk (Below.refl w.heap.size w)
 have H : ((impl_hold.f a0 a1 a2_0 a2_1 a2_2 a2_3 a2_4 a2_5).bind fun t200 => (if (wrap64 (a3_0)) ≤ t200 then (some (a2_0, a2_1, a2_2, a2_3, a2_4, a2_5, false, false)) else ((some (([0, 1, 1, 1, 0, (-1), (-1), (-1)] : List Int) : List Int)).bind fun y201 => (if 0 ≤ a3_1 then (if a3_1 < (y201.length : Int) then ((some (([(-1), (-1), 0, 1, 1, 1, 0, (-1)] : List Int) : List Int)).bind fun y205 => (if a3_1 < (y205.length : Int) then ((impl_isWater.f a0 (IntKind.i8.wrap (a2_0 + (rd y201 a3_1))) (IntKind.i8.wrap (a2_1 + (rd y205 a3_1)))).bind fun t210 => (if t210 = true then (some (IntKind.i8.wrap (a2_0 + (rd y201 a3_1)), IntKind.i8.wrap (a2_1 + (rd y205 a3_1)), a2_2, a2_3, a2_4, a2_5, true, false)) else (some (a2_0, a2_1, a2_2, a2_3, a2_4, a2_5, true, true)))) else (none))) else (none)) else (none))))) = some (r1, r2, r3, r4, r5, r6, r7, r8) := h
 clear h
 replace H := Option.bind_eq_some_iff.mp H
 obtain ⟨t200, A50, H⟩ := H
 replace H : (if (wrap64 (a3_0)) ≤ t200 then (some (a2_0, a2_1, a2_2, a2_3, a2_4, a2_5, false, false)) else ((some (([0, 1, 1, 1, 0, (-1), (-1), (-1)] : List Int) : List Int)).bind fun y201 => (if 0 ≤ a3_1 then (if a3_1 < (y201.length : Int) then ((some (([(-1), (-1), 0, 1, 1, 1, 0, (-1)] : List Int) : List Int)).bind fun y205 => (if a3_1 < (y205.length : Int) then ((impl_isWater.f a0 (IntKind.i8.wrap (a2_0 + (rd y201 a3_1))) (IntKind.i8.wrap (a2_1 + (rd y205 a3_1)))).bind fun t210 => (if t210 = true then (some (IntKind.i8.wrap (a2_0 + (rd y201 a3_1)), IntKind.i8.wrap (a2_1 + (rd y205 a3_1)), a2_2, a2_3, a2_4, a2_5, true, false)) else (some (a2_0, a2_1, a2_2, a2_3, a2_4, a2_5, true, true)))) else (none))) else (none)) else (none)))) = some (r1, r2, r3, r4, r5, r6, r7, r8) := H
 have A5 := Aside0.mk A50
 clear A50
 by_cases c6 : (wrap64 (a3_0)) ≤ t200
 ·rw [if_pos c6] at H
  have c6b0 : decide ((wrap64 (a3_0)) ≤ t200) = true := decide_eq_true c6
  clear c6
  simp only [Option.some.injEq, Prod.mk.injEq] at H
  obtain ⟨rfl, rfl, rfl, rfl, rfl, rfl, rfl, rfl⟩ := H
  go_enter Try.func72, Try.ntmps72
  try go_wp2_with (first | ((with_reducible refine gate_dst (N := 4) rfl ?_); refine box_event ?hg (N := 4) ?hd (cs := (a0).A) (t := 38) ?hr ?_; (case hd => rfl); (case hg => rfl); (case hr => first | exact AR.run_box_row rfl rfl | (go_simp; done) | (go_simp; rfl)); intro gb195 hg w7 hbox hb; have BK195 := Aside0.mk (hbox); have GW195 := Aside0.mk (sqS HB.out hg); replace HB := Aside0.mk (sqH HB.out hb); have GE195 := GW195; clear hb hbox hg) | ((with_reducible refine gate_dst (N := 5) rfl ?_); refine box_event ?hg (N := 5) ?hd (cs := (a1).A) (t := 40) ?hr ?_; (case hd => rfl); (case hg => rfl); (case hr => first | exact AR.run_box_row rfl rfl | (go_simp; done) | (go_simp; rfl)); intro gb196 hg w8 hbox hb; have BK196 := Aside0.mk (hbox); have GW196 := Aside0.mk (sqS HB.out hg); replace HB := Aside0.mk (sqH HB.out hb); have GE196 := GW196; have NB195_196 := Aside0.mk (sqN BK195.out hg); replace BK195 := Aside0.mk (sqB BK195.out hb); have NB196_195 := Aside0.mk (Ne.symm NB195_196.out); clear hb hbox hg) | ((with_reducible refine gate_dst (N := 6) rfl ?_); refine box_event ?hg (N := 6) ?hd (cs := #[.int .i8 a2_0, .int .i8 a2_1, .int .i8 a2_2, .int .i8 a2_3, .int .i8 a2_4, .int .i8 a2_5]) (t := 44) ?hr ?_; (case hd => rfl); (case hg => rfl); (case hr => first | (go_simp; done) | (go_simp; rfl)); intro gb197 hg w9 hbox hb; have BK197 := Aside0.mk (hbox); have GW197 := Aside0.mk (sqS HB.out hg); replace HB := Aside0.mk (sqH HB.out hb); have GE197 := GW197; have NB195_197 := Aside0.mk (sqN BK195.out hg); replace BK195 := Aside0.mk (sqB BK195.out hb); have NB197_195 := Aside0.mk (Ne.symm NB195_197.out); have NB196_197 := Aside0.mk (sqN BK196.out hg); replace BK196 := Aside0.mk (sqB BK196.out hb); have NB197_196 := Aside0.mk (Ne.symm NB196_197.out); clear hb hbox hg) | ((with_reducible refine gate_dst (N := 7) rfl ?_); refine box_event ?hg (N := 7) ?hd (cs := #[.int .i8 a3_0, .int .i8 a3_1]) (t := 78) ?hr ?_; (case hd => rfl); (case hg => rfl); (case hr => first | (go_simp; done) | (go_simp; rfl)); intro gb198 hg w10 hbox hb; have BK198 := Aside0.mk (hbox); have GW198 := Aside0.mk (sqS HB.out hg); replace HB := Aside0.mk (sqH HB.out hb); have GE198 := GW198; have NB195_198 := Aside0.mk (sqN BK195.out hg); replace BK195 := Aside0.mk (sqB BK195.out hb); have NB198_195 := Aside0.mk (Ne.symm NB195_198.out); have NB196_198 := Aside0.mk (sqN BK196.out hg); replace BK196 := Aside0.mk (sqB BK196.out hb); have NB198_196 := Aside0.mk (Ne.symm NB196_198.out); have NB197_198 := Aside0.mk (sqN BK197.out hg); replace BK197 := Aside0.mk (sqB BK197.out hb); have NB198_197 := Aside0.mk (Ne.symm NB197_198.out); clear hb hbox hg) | ((with_reducible refine gate_dst (N := 8) rfl ?_); refine box_event ?hg (N := 8) ?hd (cs := #[.int .i8 0, .int .i8 0, .int .i8 0, .int .i8 0, .int .i8 0, .int .i8 0]) (t := 44) ?hr ?_; (case hd => rfl); (case hg => rfl); (case hr => first | (go_simp; done) | (go_simp; rfl)); intro gb199 hg w11 hbox hb; have BK199 := Aside0.mk (hbox); have GW199 := Aside0.mk (sqS HB.out hg); replace HB := Aside0.mk (sqH HB.out hb); have GE199 := GW199; have NB195_199 := Aside0.mk (sqN BK195.out hg); replace BK195 := Aside0.mk (sqB BK195.out hb); have NB199_195 := Aside0.mk (Ne.symm NB195_199.out); have NB196_199 := Aside0.mk (sqN BK196.out hg); replace BK196 := Aside0.mk (sqB BK196.out hb); have NB199_196 := Aside0.mk (Ne.symm NB196_199.out); have NB197_199 := Aside0.mk (sqN BK197.out hg); replace BK197 := Aside0.mk (sqB BK197.out hb); have NB199_197 := Aside0.mk (Ne.symm NB197_199.out); have NB198_199 := Aside0.mk (sqN BK198.out hg); replace BK198 := Aside0.mk (sqB BK198.out hb); have NB199_198 := Aside0.mk (Ne.symm NB198_199.out); clear hb hbox hg))
  replace BK195 := Aside0.mk (blk_drew BK195.out)
  replace BK196 := Aside0.mk (blk_drew BK196.out)
  replace BK197 := Aside0.mk (blk_drew BK197.out)
  replace BK198 := Aside0.mk (blk_drew BK198.out)
  replace BK199 := Aside0.mk (blk_drew BK199.out)
  replace HB := Aside0.mk (below_drew1 HB.out)
  refine start_ (n := 8) (S := fun w' => w'.cell? ⟨gb198, 0, none⟩ = some (.int .i8 a3_0) ∧ w'.cell? ⟨gb198, 1, none⟩ = some (.int .i8 a3_1) ∧ w'.heap[gb195]? = some (.cells (a0).A 38 (0, 0)) ∧ w'.heap[gb196]? = some (.cells (a1).A 40 (0, 0)) ∧ w'.cell? ⟨gb197, 0, none⟩ = some (.int .i8 a2_0) ∧ w'.cell? ⟨gb197, 1, none⟩ = some (.int .i8 a2_1) ∧ w'.cell? ⟨gb197, 2, none⟩ = some (.int .i8 a2_2) ∧ w'.cell? ⟨gb197, 3, none⟩ = some (.int .i8 a2_3) ∧ w'.cell? ⟨gb197, 4, none⟩ = some (.int .i8 a2_4) ∧ w'.cell? ⟨gb197, 5, none⟩ = some (.int .i8 a2_5)) (ds := []) #[false, false, false, false, false, false, false, false] (by kernel_rfl) rfl rfl ⟨(blk_cell BK198.out 0).trans rfl, (blk_cell BK198.out 1).trans rfl, BK195.out, BK196.out, (blk_cell BK197.out 0).trans rfl, (blk_cell BK197.out 1).trans rfl, (blk_cell BK197.out 2).trans rfl, (blk_cell BK197.out 3).trans rfl, (blk_cell BK197.out 4).trans rfl, (blk_cell BK197.out 5).trans rfl⟩ (fun hHeld => ?_); refine with_tabW impl_drift.tab1 impl_drift.bits1 (fun HT_ HW_ => ?_)
  generalize w11.drew = w12 at BK195 BK196 BK197 BK198 BK199 HB hHeld ⊢
  refine pure_ (i := 0) (N := some 14) (v := ?_) (a' := ?_) #[true, false, false, false, false, false, false, false] rfl rfl (any_of HT_.out (by kernel_rfl)) (fun _ _ _ h => h) (Or.inl ⟨by rfl, ?_⟩) ?_ ?_
  rotate_left
  ·intro w'
   go_simp
   with_reducible rfl
  rotate_left
  ·simp only [Act.put, List.setIfInBounds_toArray, List.set_cons_zero, List.set_cons_succ, i64_w, i32_w]
   rfl
  refine take_ (i := 1) (N := some 15) (v := ?_) (a' := ?_) #[true, true, false, false, false, false, false, false] rfl rfl (take_ofW HT_.out HW_.out (by kernel_rfl)) (fun _ _ _ h => h) (Or.inl ⟨by rfl, ?_⟩) hHeld ?_ ?_
  rotate_left
  ·rintro w' ⟨s0, s1, s2, s3, s4, s5, s6, s7, s8, s9⟩
   skip
   first | (refine Eq.trans (AR.exec_load_blk rfl rfl s2 Try.underlying38 rfl (szO38 _)) ?_; with_reducible rfl) | (refine Eq.trans (AR.exec_load_blk rfl rfl s3 Try.underlying40 rfl (szO40 _)) ?_; with_reducible rfl) | (go_simp; with_reducible rfl)
  rotate_left
  ·simp only [Act.put, List.setIfInBounds_toArray, List.set_cons_zero, List.set_cons_succ, i64_w, i32_w]
   rfl
  refine pure_ (i := 2) (N := some 16) (v := ?_) (a' := ?_) #[true, true, true, false, false, false, false, false] rfl rfl (any_of HT_.out (by kernel_rfl)) (fun _ _ _ h => h) (Or.inl ⟨by rfl, ?_⟩) ?_ ?_
  rotate_left
  ·intro w'
   go_simp
   with_reducible rfl
  rotate_left
  ·simp only [Act.put, List.setIfInBounds_toArray, List.set_cons_zero, List.set_cons_succ, i64_w, i32_w]
   rfl
  refine take_ (i := 3) (N := some 17) (v := ?_) (a' := ?_) #[true, true, true, true, false, false, false, false] rfl rfl (take_ofW HT_.out HW_.out (by kernel_rfl)) (fun _ _ _ h => h) (Or.inl ⟨by rfl, ?_⟩) hHeld ?_ ?_
  rotate_left
  ·rintro w' ⟨s0, s1, s2, s3, s4, s5, s6, s7, s8, s9⟩
   skip
   first | (refine Eq.trans (AR.exec_load_blk rfl rfl s2 Try.underlying38 rfl (szO38 _)) ?_; with_reducible rfl) | (refine Eq.trans (AR.exec_load_blk rfl rfl s3 Try.underlying40 rfl (szO40 _)) ?_; with_reducible rfl) | (go_simp; with_reducible rfl)
  rotate_left
  ·simp only [Act.put, List.setIfInBounds_toArray, List.set_cons_zero, List.set_cons_succ, i64_w, i32_w]
   rfl
  refine take_ (i := 4) (N := some 18) (v := ?_) (a' := ?_) #[true, true, true, true, true, false, false, false] rfl rfl (take_ofW HT_.out HW_.out (by kernel_rfl)) (fun _ _ _ h => h) (Or.inl ⟨by rfl, ?_⟩) hHeld ?_ ?_
  rotate_left
  ·rintro w' ⟨s0, s1, s2, s3, s4, s5, s6, s7, s8, s9⟩
   skip
   first | (refine Eq.trans (AR.exec_load_blk rfl rfl s2 Try.underlying38 rfl (szO38 _)) ?_; with_reducible rfl) | (refine Eq.trans (AR.exec_load_blk rfl rfl s3 Try.underlying40 rfl (szO40 _)) ?_; with_reducible rfl) | (go_simp; with_reducible rfl)
  rotate_left
  ·simp only [Act.put, List.setIfInBounds_toArray, List.set_cons_zero, List.set_cons_succ, i64_w, i32_w]
   rfl
  refine take_ (i := 5) (N := some 19) (v := ?_) (a' := ?_) #[true, true, true, true, true, true, false, false] rfl rfl (take_ofW HT_.out HW_.out (by kernel_rfl)) (fun _ _ _ h => h) (Or.inl ⟨by rfl, ?_⟩) hHeld ?_ ?_
  rotate_left
  ·rintro w' ⟨s0, s1, s2, s3, s4, s5, s6, s7, s8, s9⟩
   skip
   first | (refine Eq.trans (AR.exec_load_blk rfl rfl s2 Try.underlying38 rfl (szO38 _)) ?_; with_reducible rfl) | (refine Eq.trans (AR.exec_load_blk rfl rfl s3 Try.underlying40 rfl (szO40 _)) ?_; with_reducible rfl) | (go_simp; with_reducible rfl)
  rotate_left
  ·simp only [Act.put, List.setIfInBounds_toArray, List.set_cons_zero, List.set_cons_succ, i64_w, i32_w]
   rfl
  refine one_ (i := 6) (N := some 20) #[true, true, true, true, true, true, true, false] rfl rfl (one_of HT_.out (by kernel_rfl)) (by decide) (fun K hK => ?_)
  refine goes_ Try.func83 (by kernel_rfl) rfl #[VO38 a0, VO40 a1, .agg #[.int .i8 a2_0, .int .i8 a2_1, .int .i8 a2_2, .int .i8 a2_3, .int .i8 a2_4, .int .i8 a2_5]] (by rfl) rfl rfl (by (try simp only [List.map_toArray, List.map_cons, List.map_nil]); first | done | rfl | (simp only [List.length_drop, List.length_take]; rfl)) ?_
  with_reducible refine (impl_hold.calls a0 a1 a2_0 a2_1 a2_2 a2_3 a2_4 a2_5 t200 _ A5.out).mono ?_
  rintro e w13 ⟨rfl, hb⟩
  refine ⟨_, rfl, ?_⟩
  replace BK195 := Aside0.mk (sqB BK195.out hb)
  replace BK196 := Aside0.mk (sqB BK196.out hb)
  replace BK197 := Aside0.mk (sqB BK197.out hb)
  replace BK198 := Aside0.mk (sqB BK198.out hb)
  replace BK199 := Aside0.mk (sqB BK199.out hb)
  replace HB := Aside0.mk (sqH HB.out hb)
  (try clear hb)
  (try clear hb2)
  (try clear hk)
  (try clear hi)
  refine hK.out _ _ ⟨(blk_cell BK198.out 0).trans rfl, (blk_cell BK198.out 1).trans rfl, BK195.out, BK196.out, (blk_cell BK197.out 0).trans rfl, (blk_cell BK197.out 1).trans rfl, (blk_cell BK197.out 2).trans rfl, (blk_cell BK197.out 3).trans rfl, (blk_cell BK197.out 4).trans rfl, (blk_cell BK197.out 5).trans rfl⟩ (fun hHeld => ?_)
  clear hK K
  refine norm_ (a' := ?_) ?_ ?_
  rotate_left
  ·show Act.put _ (some 20) _ = _
   simp only [Act.put, List.setIfInBounds_toArray, List.set_cons_zero, List.set_cons_succ, i64_w, i32_w]
   rfl
  refine pure_ (i := 7) (N := some 21) (v := ?_) (a' := ?_) #[true, true, true, true, true, true, true, true] rfl rfl (any_of HT_.out (by kernel_rfl)) (fun _ _ _ h => h) (Or.inl ⟨by rfl, ?_⟩) ?_ ?_
  rotate_left
  ·intro w'
   go_simp
   with_reducible rfl
  rotate_left
  ·simp only [Act.put, List.setIfInBounds_toArray, List.set_cons_zero, List.set_cons_succ, i64_w, i32_w]
   rfl
  refine done_ (done_of HT_.out (by kernel_rfl)) ?_
  have hnb14 := NB197_195.out
  have hnc14 := NB195_197.out
  have hnb15 := NB197_196.out
  have hnc15 := NB196_197.out
  have hnb16 := NB197_198.out
  have hnc16 := NB198_197.out
  have hnb17 := NB197_199.out
  have hnc17 := NB199_197.out
  have hcz18_0 : w13.cell? ⟨gb197, 0, none⟩ = some (.int .i8 a2_0) := (blk_cell BK197.out 0).trans rfl
  have hcz18_1 : w13.cell? ⟨gb197, 1, none⟩ = some (.int .i8 a2_1) := (blk_cell BK197.out 1).trans rfl
  have hcz18_2 : w13.cell? ⟨gb197, 2, none⟩ = some (.int .i8 a2_2) := (blk_cell BK197.out 2).trans rfl
  have hcz18_3 : w13.cell? ⟨gb197, 3, none⟩ = some (.int .i8 a2_3) := (blk_cell BK197.out 3).trans rfl
  have hcz18_4 : w13.cell? ⟨gb197, 4, none⟩ = some (.int .i8 a2_4) := (blk_cell BK197.out 4).trans rfl
  have hcz18_5 : w13.cell? ⟨gb197, 5, none⟩ = some (.int .i8 a2_5) := (blk_cell BK197.out 5).trans rfl
  have hfz18_0 := blk_frozen BK197.out 0
  have hfz18_1 := blk_frozen BK197.out 1
  have hfz18_2 := blk_frozen BK197.out 2
  have hfz18_3 := blk_frozen BK197.out 3
  have hfz18_4 := blk_frozen BK197.out 4
  have hfz18_5 := blk_frozen BK197.out 5
  have hnb19 := NB199_195.out
  have hnc19 := NB195_199.out
  have hnb20 := NB199_196.out
  have hnc20 := NB196_199.out
  have hnb21 := NB199_198.out
  have hnc21 := NB198_199.out
  have hcz22_0 : w13.cell? ⟨gb199, 0, none⟩ = some (.int .i8 0) := (blk_cell BK199.out 0).trans rfl
  have hcz22_1 : w13.cell? ⟨gb199, 1, none⟩ = some (.int .i8 0) := (blk_cell BK199.out 1).trans rfl
  have hcz22_2 : w13.cell? ⟨gb199, 2, none⟩ = some (.int .i8 0) := (blk_cell BK199.out 2).trans rfl
  have hcz22_3 : w13.cell? ⟨gb199, 3, none⟩ = some (.int .i8 0) := (blk_cell BK199.out 3).trans rfl
  have hcz22_4 : w13.cell? ⟨gb199, 4, none⟩ = some (.int .i8 0) := (blk_cell BK199.out 4).trans rfl
  have hcz22_5 : w13.cell? ⟨gb199, 5, none⟩ = some (.int .i8 0) := (blk_cell BK199.out 5).trans rfl
  have hfz22_0 := blk_frozen BK199.out 0
  have hfz22_1 := blk_frozen BK199.out 1
  have hfz22_2 := blk_frozen BK199.out 2
  have hfz22_3 := blk_frozen BK199.out 3
  have hfz22_4 := blk_frozen BK199.out 4
  have hfz22_5 := blk_frozen BK199.out 5
  try go_wp2
  refine bodyPost_ret (results_ctt rfl _ _ gb199 44 #[.int .i8 a2_0, .int .i8 a2_1, .int .i8 a2_2, .int .i8 a2_3, .int .i8 a2_4, .int .i8 a2_5] (0, 0) _ rfl (by (with_reducible repeat (first | refine blk_drewN ?_ _ | refine blk_drew ?_ | refine blk_alloc ?_ _)); refine blk_put (cs := #[.int .i8 a2_0, .int .i8 a2_1, .int .i8 a2_2, .int .i8 a2_3, .int .i8 a2_4, .int .i8 0]) ?_ 5 _ rfl; (with_reducible repeat (first | refine blk_drewN ?_ _ | refine blk_drew ?_ | refine blk_alloc ?_ _)); refine blk_put (cs := #[.int .i8 a2_0, .int .i8 a2_1, .int .i8 a2_2, .int .i8 a2_3, .int .i8 0, .int .i8 0]) ?_ 4 _ rfl; (with_reducible repeat (first | refine blk_drewN ?_ _ | refine blk_drew ?_ | refine blk_alloc ?_ _)); refine blk_put (cs := #[.int .i8 a2_0, .int .i8 a2_1, .int .i8 a2_2, .int .i8 0, .int .i8 0, .int .i8 0]) ?_ 3 _ rfl; (with_reducible repeat (first | refine blk_drewN ?_ _ | refine blk_drew ?_ | refine blk_alloc ?_ _)); refine blk_put (cs := #[.int .i8 a2_0, .int .i8 a2_1, .int .i8 0, .int .i8 0, .int .i8 0, .int .i8 0]) ?_ 2 _ rfl; (with_reducible repeat (first | refine blk_drewN ?_ _ | refine blk_drew ?_ | refine blk_alloc ?_ _)); refine blk_put (cs := #[.int .i8 a2_0, .int .i8 0, .int .i8 0, .int .i8 0, .int .i8 0, .int .i8 0]) ?_ 1 _ rfl; (with_reducible repeat (first | refine blk_drewN ?_ _ | refine blk_drew ?_ | refine blk_alloc ?_ _)); refine blk_put (cs := #[.int .i8 0, .int .i8 0, .int .i8 0, .int .i8 0, .int .i8 0, .int .i8 0]) ?_ 0 _ rfl; (with_reducible repeat (first | refine blk_drewN ?_ _ | refine blk_drew ?_ | refine blk_alloc ?_ _)); exact BK199.out) Try.underlying44 rfl (by kernel_rfl)) rfl ?_
  exact ⟨by first | rfl | (simp [errW_none, errW_some] <;> rfl) | (simp [*, errW_none, errW_some] <;> rfl), by repeat (first | (with_reducible first | exact HB.out | apply below_alloc | apply pw_below_drewN | apply below_drew1 | refine below_set ?_ GE195.out | refine below_set ?_ GE196.out | refine below_set ?_ GE197.out | refine below_set ?_ GE198.out | refine below_set ?_ GE199.out) | exact HB.out)⟩
 ·rw [if_neg c6] at H
  have c6b0 : decide ((wrap64 (a3_0)) ≤ t200) = false := decide_eq_false c6
  clear c6
  obtain ⟨y201, hy201⟩ : ∃ y_ : List Int, y_ = (([0, 1, 1, 1, 0, (-1), (-1), (-1)] : List Int)) := ⟨_, rfl⟩
  replace H : (if 0 ≤ a3_1 then (if a3_1 < (y201.length : Int) then ((some (([(-1), (-1), 0, 1, 1, 1, 0, (-1)] : List Int) : List Int)).bind fun y205 => (if a3_1 < (y205.length : Int) then ((impl_isWater.f a0 (IntKind.i8.wrap (a2_0 + (rd y201 a3_1))) (IntKind.i8.wrap (a2_1 + (rd y205 a3_1)))).bind fun t210 => (if t210 = true then (some (IntKind.i8.wrap (a2_0 + (rd y201 a3_1)), IntKind.i8.wrap (a2_1 + (rd y205 a3_1)), a2_2, a2_3, a2_4, a2_5, true, false)) else (some (a2_0, a2_1, a2_2, a2_3, a2_4, a2_5, true, true)))) else (none))) else (none)) else (none)) = some (r1, r2, r3, r4, r5, r6, r7, r8) := by first | (rw [hy201]; with_reducible exact H) | (have H2_ := (Option.bind_some _ _).symm.trans H; rw [hy201]; with_reducible exact H2_) | (have H2_ := (Option.bind_some _ _).symm.trans H; with_reducible exact H2_) | with_reducible exact H | (rw [hy201]; exact H) | exact H
  have Ny201 := Aside0.mk hy201
  clear hy201
  by_cases c23 : 0 ≤ a3_1
  ·rw [if_pos c23] at H
   have c23b0 : decide (0 ≤ a3_1) = true := decide_eq_true c23
   clear c23
   by_cases c24 : a3_1 < (y201.length : Int)
   ·rw [if_pos c24] at H
    have c24b0 : decide (a3_1 < (y201.length : Int)) = true := decide_eq_true c24
    clear c24
    obtain ⟨y205, hy205⟩ : ∃ y_ : List Int, y_ = (([(-1), (-1), 0, 1, 1, 1, 0, (-1)] : List Int)) := ⟨_, rfl⟩
    replace H : (if a3_1 < (y205.length : Int) then ((impl_isWater.f a0 (IntKind.i8.wrap (a2_0 + (rd y201 a3_1))) (IntKind.i8.wrap (a2_1 + (rd y205 a3_1)))).bind fun t210 => (if t210 = true then (some (IntKind.i8.wrap (a2_0 + (rd y201 a3_1)), IntKind.i8.wrap (a2_1 + (rd y205 a3_1)), a2_2, a2_3, a2_4, a2_5, true, false)) else (some (a2_0, a2_1, a2_2, a2_3, a2_4, a2_5, true, true)))) else (none)) = some (r1, r2, r3, r4, r5, r6, r7, r8) := by first | (rw [hy205]; with_reducible exact H) | (have H2_ := (Option.bind_some _ _).symm.trans H; rw [hy205]; with_reducible exact H2_) | (have H2_ := (Option.bind_some _ _).symm.trans H; with_reducible exact H2_) | with_reducible exact H | (rw [hy205]; exact H) | exact H
    have Ny205 := Aside0.mk hy205
    clear hy205
    by_cases c25 : a3_1 < (y205.length : Int)
    ·rw [if_pos c25] at H
     have c25b0 : decide (a3_1 < (y205.length : Int)) = true := decide_eq_true c25
     clear c25
     replace H := Option.bind_eq_some_iff.mp H
     obtain ⟨t210, A260, H⟩ := H
     replace H : (if t210 = true then (some (IntKind.i8.wrap (a2_0 + (rd y201 a3_1)), IntKind.i8.wrap (a2_1 + (rd y205 a3_1)), a2_2, a2_3, a2_4, a2_5, true, false)) else (some (a2_0, a2_1, a2_2, a2_3, a2_4, a2_5, true, true))) = some (r1, r2, r3, r4, r5, r6, r7, r8) := H
     have A26 := Aside0.mk A260
     clear A260
     by_cases c27 : t210 = true
     ·subst c27
      have H1 : (some (IntKind.i8.wrap (a2_0 + (rd y201 a3_1)), IntKind.i8.wrap (a2_1 + (rd y205 a3_1)), a2_2, a2_3, a2_4, a2_5, true, false)) = some (r1, r2, r3, r4, r5, r6, r7, r8) := by rw [if_pos rfl] at H; exact H
      clear H
      have H := H1
      clear H1
      simp only [Option.some.injEq, Prod.mk.injEq] at H
      obtain ⟨rfl, rfl, rfl, rfl, rfl, rfl, rfl, rfl⟩ := H
      go_enter Try.func72, Try.ntmps72
      try go_wp2_with (first | ((with_reducible refine gate_dst (N := 4) rfl ?_); refine box_event ?hg (N := 4) ?hd (cs := (a0).A) (t := 38) ?hr ?_; (case hd => rfl); (case hg => rfl); (case hr => first | exact AR.run_box_row rfl rfl | (go_simp; done) | (go_simp; rfl)); intro gb195 hg w28 hbox hb; have BK195 := Aside0.mk (hbox); have GW195 := Aside0.mk (sqS HB.out hg); replace HB := Aside0.mk (sqH HB.out hb); have GE195 := GW195; clear hb hbox hg) | ((with_reducible refine gate_dst (N := 5) rfl ?_); refine box_event ?hg (N := 5) ?hd (cs := (a1).A) (t := 40) ?hr ?_; (case hd => rfl); (case hg => rfl); (case hr => first | exact AR.run_box_row rfl rfl | (go_simp; done) | (go_simp; rfl)); intro gb196 hg w29 hbox hb; have BK196 := Aside0.mk (hbox); have GW196 := Aside0.mk (sqS HB.out hg); replace HB := Aside0.mk (sqH HB.out hb); have GE196 := GW196; have NB195_196 := Aside0.mk (sqN BK195.out hg); replace BK195 := Aside0.mk (sqB BK195.out hb); have NB196_195 := Aside0.mk (Ne.symm NB195_196.out); clear hb hbox hg) | ((with_reducible refine gate_dst (N := 6) rfl ?_); refine box_event ?hg (N := 6) ?hd (cs := #[.int .i8 a2_0, .int .i8 a2_1, .int .i8 a2_2, .int .i8 a2_3, .int .i8 a2_4, .int .i8 a2_5]) (t := 44) ?hr ?_; (case hd => rfl); (case hg => rfl); (case hr => first | (go_simp; done) | (go_simp; rfl)); intro gb197 hg w30 hbox hb; have BK197 := Aside0.mk (hbox); have GW197 := Aside0.mk (sqS HB.out hg); replace HB := Aside0.mk (sqH HB.out hb); have GE197 := GW197; have NB195_197 := Aside0.mk (sqN BK195.out hg); replace BK195 := Aside0.mk (sqB BK195.out hb); have NB197_195 := Aside0.mk (Ne.symm NB195_197.out); have NB196_197 := Aside0.mk (sqN BK196.out hg); replace BK196 := Aside0.mk (sqB BK196.out hb); have NB197_196 := Aside0.mk (Ne.symm NB196_197.out); clear hb hbox hg) | ((with_reducible refine gate_dst (N := 7) rfl ?_); refine box_event ?hg (N := 7) ?hd (cs := #[.int .i8 a3_0, .int .i8 a3_1]) (t := 78) ?hr ?_; (case hd => rfl); (case hg => rfl); (case hr => first | (go_simp; done) | (go_simp; rfl)); intro gb198 hg w31 hbox hb; have BK198 := Aside0.mk (hbox); have GW198 := Aside0.mk (sqS HB.out hg); replace HB := Aside0.mk (sqH HB.out hb); have GE198 := GW198; have NB195_198 := Aside0.mk (sqN BK195.out hg); replace BK195 := Aside0.mk (sqB BK195.out hb); have NB198_195 := Aside0.mk (Ne.symm NB195_198.out); have NB196_198 := Aside0.mk (sqN BK196.out hg); replace BK196 := Aside0.mk (sqB BK196.out hb); have NB198_196 := Aside0.mk (Ne.symm NB196_198.out); have NB197_198 := Aside0.mk (sqN BK197.out hg); replace BK197 := Aside0.mk (sqB BK197.out hb); have NB198_197 := Aside0.mk (Ne.symm NB197_198.out); clear hb hbox hg) | ((with_reducible refine gate_dst (N := 8) rfl ?_); refine box_event ?hg (N := 8) ?hd (cs := #[.int .i8 0, .int .i8 0, .int .i8 0, .int .i8 0, .int .i8 0, .int .i8 0]) (t := 44) ?hr ?_; (case hd => rfl); (case hg => rfl); (case hr => first | (go_simp; done) | (go_simp; rfl)); intro gb199 hg w32 hbox hb; have BK199 := Aside0.mk (hbox); have GW199 := Aside0.mk (sqS HB.out hg); replace HB := Aside0.mk (sqH HB.out hb); have GE199 := GW199; have NB195_199 := Aside0.mk (sqN BK195.out hg); replace BK195 := Aside0.mk (sqB BK195.out hb); have NB199_195 := Aside0.mk (Ne.symm NB195_199.out); have NB196_199 := Aside0.mk (sqN BK196.out hg); replace BK196 := Aside0.mk (sqB BK196.out hb); have NB199_196 := Aside0.mk (Ne.symm NB196_199.out); have NB197_199 := Aside0.mk (sqN BK197.out hg); replace BK197 := Aside0.mk (sqB BK197.out hb); have NB199_197 := Aside0.mk (Ne.symm NB197_199.out); have NB198_199 := Aside0.mk (sqN BK198.out hg); replace BK198 := Aside0.mk (sqB BK198.out hb); have NB199_198 := Aside0.mk (Ne.symm NB198_199.out); clear hb hbox hg))
      replace BK195 := Aside0.mk (blk_drew BK195.out)
      replace BK196 := Aside0.mk (blk_drew BK196.out)
      replace BK197 := Aside0.mk (blk_drew BK197.out)
      replace BK198 := Aside0.mk (blk_drew BK198.out)
      replace BK199 := Aside0.mk (blk_drew BK199.out)
      replace HB := Aside0.mk (below_drew1 HB.out)
      refine start_ (n := 8) (S := fun w' => w'.cell? ⟨gb198, 0, none⟩ = some (.int .i8 a3_0) ∧ w'.cell? ⟨gb198, 1, none⟩ = some (.int .i8 a3_1) ∧ w'.heap[gb195]? = some (.cells (a0).A 38 (0, 0)) ∧ w'.heap[gb196]? = some (.cells (a1).A 40 (0, 0)) ∧ w'.cell? ⟨gb197, 0, none⟩ = some (.int .i8 a2_0) ∧ w'.cell? ⟨gb197, 1, none⟩ = some (.int .i8 a2_1) ∧ w'.cell? ⟨gb197, 2, none⟩ = some (.int .i8 a2_2) ∧ w'.cell? ⟨gb197, 3, none⟩ = some (.int .i8 a2_3) ∧ w'.cell? ⟨gb197, 4, none⟩ = some (.int .i8 a2_4) ∧ w'.cell? ⟨gb197, 5, none⟩ = some (.int .i8 a2_5)) (ds := []) #[false, false, false, false, false, false, false, false] (by kernel_rfl) rfl rfl ⟨(blk_cell BK198.out 0).trans rfl, (blk_cell BK198.out 1).trans rfl, BK195.out, BK196.out, (blk_cell BK197.out 0).trans rfl, (blk_cell BK197.out 1).trans rfl, (blk_cell BK197.out 2).trans rfl, (blk_cell BK197.out 3).trans rfl, (blk_cell BK197.out 4).trans rfl, (blk_cell BK197.out 5).trans rfl⟩ (fun hHeld => ?_); refine with_tabW impl_drift.tab1 impl_drift.bits1 (fun HT_ HW_ => ?_)
      generalize w32.drew = w33 at BK195 BK196 BK197 BK198 BK199 HB hHeld ⊢
      refine pure_ (i := 0) (N := some 14) (v := ?_) (a' := ?_) #[true, false, false, false, false, false, false, false] rfl rfl (any_of HT_.out (by kernel_rfl)) (fun _ _ _ h => h) (Or.inl ⟨by rfl, ?_⟩) ?_ ?_
      rotate_left
      ·intro w'
       go_simp
       with_reducible rfl
      rotate_left
      ·simp only [Act.put, List.setIfInBounds_toArray, List.set_cons_zero, List.set_cons_succ, i64_w, i32_w]
       rfl
      refine take_ (i := 1) (N := some 15) (v := ?_) (a' := ?_) #[true, true, false, false, false, false, false, false] rfl rfl (take_ofW HT_.out HW_.out (by kernel_rfl)) (fun _ _ _ h => h) (Or.inl ⟨by rfl, ?_⟩) hHeld ?_ ?_
      rotate_left
      ·rintro w' ⟨s0, s1, s2, s3, s4, s5, s6, s7, s8, s9⟩
       skip
       first | (refine Eq.trans (AR.exec_load_blk rfl rfl s2 Try.underlying38 rfl (szO38 _)) ?_; with_reducible rfl) | (refine Eq.trans (AR.exec_load_blk rfl rfl s3 Try.underlying40 rfl (szO40 _)) ?_; with_reducible rfl) | (go_simp; with_reducible rfl)
      rotate_left
      ·simp only [Act.put, List.setIfInBounds_toArray, List.set_cons_zero, List.set_cons_succ, i64_w, i32_w]
       rfl
      refine pure_ (i := 2) (N := some 16) (v := ?_) (a' := ?_) #[true, true, true, false, false, false, false, false] rfl rfl (any_of HT_.out (by kernel_rfl)) (fun _ _ _ h => h) (Or.inl ⟨by rfl, ?_⟩) ?_ ?_
      rotate_left
      ·intro w'
       go_simp
       with_reducible rfl
      rotate_left
      ·simp only [Act.put, List.setIfInBounds_toArray, List.set_cons_zero, List.set_cons_succ, i64_w, i32_w]
       rfl
      refine take_ (i := 3) (N := some 17) (v := ?_) (a' := ?_) #[true, true, true, true, false, false, false, false] rfl rfl (take_ofW HT_.out HW_.out (by kernel_rfl)) (fun _ _ _ h => h) (Or.inl ⟨by rfl, ?_⟩) hHeld ?_ ?_
      rotate_left
      ·rintro w' ⟨s0, s1, s2, s3, s4, s5, s6, s7, s8, s9⟩
       skip
       first | (refine Eq.trans (AR.exec_load_blk rfl rfl s2 Try.underlying38 rfl (szO38 _)) ?_; with_reducible rfl) | (refine Eq.trans (AR.exec_load_blk rfl rfl s3 Try.underlying40 rfl (szO40 _)) ?_; with_reducible rfl) | (go_simp; with_reducible rfl)
      rotate_left
      ·simp only [Act.put, List.setIfInBounds_toArray, List.set_cons_zero, List.set_cons_succ, i64_w, i32_w]
       rfl
      refine take_ (i := 4) (N := some 18) (v := ?_) (a' := ?_) #[true, true, true, true, true, false, false, false] rfl rfl (take_ofW HT_.out HW_.out (by kernel_rfl)) (fun _ _ _ h => h) (Or.inl ⟨by rfl, ?_⟩) hHeld ?_ ?_
      rotate_left
      ·rintro w' ⟨s0, s1, s2, s3, s4, s5, s6, s7, s8, s9⟩
       skip
       first | (refine Eq.trans (AR.exec_load_blk rfl rfl s2 Try.underlying38 rfl (szO38 _)) ?_; with_reducible rfl) | (refine Eq.trans (AR.exec_load_blk rfl rfl s3 Try.underlying40 rfl (szO40 _)) ?_; with_reducible rfl) | (go_simp; with_reducible rfl)
      rotate_left
      ·simp only [Act.put, List.setIfInBounds_toArray, List.set_cons_zero, List.set_cons_succ, i64_w, i32_w]
       rfl
      refine take_ (i := 5) (N := some 19) (v := ?_) (a' := ?_) #[true, true, true, true, true, true, false, false] rfl rfl (take_ofW HT_.out HW_.out (by kernel_rfl)) (fun _ _ _ h => h) (Or.inl ⟨by rfl, ?_⟩) hHeld ?_ ?_
      rotate_left
      ·rintro w' ⟨s0, s1, s2, s3, s4, s5, s6, s7, s8, s9⟩
       skip
       first | (refine Eq.trans (AR.exec_load_blk rfl rfl s2 Try.underlying38 rfl (szO38 _)) ?_; with_reducible rfl) | (refine Eq.trans (AR.exec_load_blk rfl rfl s3 Try.underlying40 rfl (szO40 _)) ?_; with_reducible rfl) | (go_simp; with_reducible rfl)
      rotate_left
      ·simp only [Act.put, List.setIfInBounds_toArray, List.set_cons_zero, List.set_cons_succ, i64_w, i32_w]
       rfl
      refine one_ (i := 6) (N := some 20) #[true, true, true, true, true, true, true, false] rfl rfl (one_of HT_.out (by kernel_rfl)) (by decide) (fun K hK => ?_)
      refine goes_ Try.func83 (by kernel_rfl) rfl #[VO38 a0, VO40 a1, .agg #[.int .i8 a2_0, .int .i8 a2_1, .int .i8 a2_2, .int .i8 a2_3, .int .i8 a2_4, .int .i8 a2_5]] (by rfl) rfl rfl (by (try simp only [List.map_toArray, List.map_cons, List.map_nil]); first | done | rfl | (simp only [List.length_drop, List.length_take]; rfl)) ?_
      with_reducible refine (impl_hold.calls a0 a1 a2_0 a2_1 a2_2 a2_3 a2_4 a2_5 t200 _ A5.out).mono ?_
      rintro e w34 ⟨rfl, hb⟩
      refine ⟨_, rfl, ?_⟩
      replace BK195 := Aside0.mk (sqB BK195.out hb)
      replace BK196 := Aside0.mk (sqB BK196.out hb)
      replace BK197 := Aside0.mk (sqB BK197.out hb)
      replace BK198 := Aside0.mk (sqB BK198.out hb)
      replace BK199 := Aside0.mk (sqB BK199.out hb)
      replace HB := Aside0.mk (sqH HB.out hb)
      (try clear hb)
      (try clear hb2)
      (try clear hk)
      (try clear hi)
      refine hK.out _ _ ⟨(blk_cell BK198.out 0).trans rfl, (blk_cell BK198.out 1).trans rfl, BK195.out, BK196.out, (blk_cell BK197.out 0).trans rfl, (blk_cell BK197.out 1).trans rfl, (blk_cell BK197.out 2).trans rfl, (blk_cell BK197.out 3).trans rfl, (blk_cell BK197.out 4).trans rfl, (blk_cell BK197.out 5).trans rfl⟩ (fun hHeld => ?_)
      clear hK K
      refine norm_ (a' := ?_) ?_ ?_
      rotate_left
      ·show Act.put _ (some 20) _ = _
       simp only [Act.put, List.setIfInBounds_toArray, List.set_cons_zero, List.set_cons_succ, i64_w, i32_w]
       rfl
      refine pure_ (i := 7) (N := some 21) (v := ?_) (a' := ?_) #[true, true, true, true, true, true, true, true] rfl rfl (any_of HT_.out (by kernel_rfl)) (fun _ _ _ h => h) (Or.inl ⟨by rfl, ?_⟩) ?_ ?_
      rotate_left
      ·intro w'
       go_simp
       with_reducible rfl
      rotate_left
      ·simp only [Act.put, List.setIfInBounds_toArray, List.set_cons_zero, List.set_cons_succ, i64_w, i32_w]
       rfl
      refine done_ (done_of HT_.out (by kernel_rfl)) ?_
      try go_wp2_with (first | ((with_reducible refine gate_dst (N := 23) rfl ?_); refine Kd.R_lit (Kd.int .i8) _ 22 ?hg (N := 23) ?hd (xs := ([0, 1, 1, 1, 0, (-1), (-1), (-1)] : List Int)) (inner := [.int .i8 0, .int .i8 1, .int .i8 1, .int .i8 1, .int .i8 0, .int .i8 (-1), .int .i8 (-1), .int .i8 (-1)]) (ok := fun _ => True) (okp := fun _ => True) ?hr ?hp (fun _ hk => hk) trivial (Below.refl _ _) (Nat.le_refl _) (by simp) ?_; (case hd => rfl); (case hg => rfl); (case hr => first | (go_simp; done) | (go_simp; rfl)); (case hp => exact (Reps.one (show Kd.M (Kd.int .i8) _ _ _ 0 [.int .i8 0] from rfl) (Reps.one (show Kd.M (Kd.int .i8) _ _ _ 1 [.int .i8 1] from rfl) (Reps.one (show Kd.M (Kd.int .i8) _ _ _ 1 [.int .i8 1] from rfl) (Reps.one (show Kd.M (Kd.int .i8) _ _ _ 1 [.int .i8 1] from rfl) (Reps.one (show Kd.M (Kd.int .i8) _ _ _ 0 [.int .i8 0] from rfl) (Reps.one (show Kd.M (Kd.int .i8) _ _ _ (-1) [.int .i8 (-1)] from rfl) (Reps.one (show Kd.M (Kd.int .i8) _ _ _ (-1) [.int .i8 (-1)] from rfl) (Reps.one (show Kd.M (Kd.int .i8) _ _ _ (-1) [.int .i8 (-1)] from rfl) (Reps.none _ _)))))))))); intro v202 w35 ho36 hb hg_ hnew_; clear hg_ hnew_; (first | rw [← Ny201.out] at ho36 | (simp only [Int.reduceToNat] at ho36; rw [← Ny201.out] at ho36)); have HO203 := Aside0.mk (Kd.R_lower ho36 (sqW HB.out)); replace BK195 := Aside0.mk (sqB BK195.out hb); replace BK196 := Aside0.mk (sqB BK196.out hb); replace BK197 := Aside0.mk (sqB BK197.out hb); replace BK198 := Aside0.mk (sqB BK198.out hb); replace BK199 := Aside0.mk (sqB BK199.out hb); replace HB := Aside0.mk (sqH HB.out hb); clear hb ho36; have hnb37 := NB198_195.out; have hnc37 := NB195_198.out; have hnb38 := NB198_196.out; have hnc38 := NB196_198.out; have hnb39 := NB198_197.out; have hnc39 := NB197_198.out; have hnb40 := NB198_199.out; have hnc40 := NB199_198.out; obtain ⟨hcz41_0, hcz41_1⟩ := sqC2 BK198.out; obtain ⟨hfz41_0, hfz41_1⟩ := sqF2 BK198.out; obtain ⟨Ao42, co42, eo42⟩ := Kd.R_slice HO203.out; subst eo42; have p204 : 0 ≤ (a3_1 : Int) := of_decide_eq_true (by first | (with_reducible assumption) | assumption); have q204 : a3_1 < (y201.length : Int) := of_decide_eq_true (by first | (with_reducible assumption) | assumption); obtain ⟨ad204, e204, hx204_0⟩ := Kd.at_int (Kd.R_reads' HO203.out).2.2 a3_1 p204 q204; cases e204; replace p204 := eq_true p204; replace q204 := eq_true q204) | ((with_reducible refine gate_dst (N := 28) rfl ?_); refine Kd.R_lit (Kd.int .i8) _ 22 ?hg (N := 28) ?hd (xs := ([(-1), (-1), 0, 1, 1, 1, 0, (-1)] : List Int)) (inner := [.int .i8 (-1), .int .i8 (-1), .int .i8 0, .int .i8 1, .int .i8 1, .int .i8 1, .int .i8 0, .int .i8 (-1)]) (ok := fun _ => True) (okp := fun _ => True) ?hr ?hp (fun _ hk => hk) trivial (Below.refl _ _) (Nat.le_refl _) (by simp) ?_; (case hd => rfl); (case hg => rfl); (case hr => first | (go_simp; done) | (go_simp; rfl)); (case hp => exact (Reps.one (show Kd.M (Kd.int .i8) _ _ _ (-1) [.int .i8 (-1)] from rfl) (Reps.one (show Kd.M (Kd.int .i8) _ _ _ (-1) [.int .i8 (-1)] from rfl) (Reps.one (show Kd.M (Kd.int .i8) _ _ _ 0 [.int .i8 0] from rfl) (Reps.one (show Kd.M (Kd.int .i8) _ _ _ 1 [.int .i8 1] from rfl) (Reps.one (show Kd.M (Kd.int .i8) _ _ _ 1 [.int .i8 1] from rfl) (Reps.one (show Kd.M (Kd.int .i8) _ _ _ 1 [.int .i8 1] from rfl) (Reps.one (show Kd.M (Kd.int .i8) _ _ _ 0 [.int .i8 0] from rfl) (Reps.one (show Kd.M (Kd.int .i8) _ _ _ (-1) [.int .i8 (-1)] from rfl) (Reps.none _ _)))))))))); intro v206 w43 ho44 hb hg_ hnew_; clear hg_ hnew_; (first | rw [← Ny205.out] at ho44 | (simp only [Int.reduceToNat] at ho44; rw [← Ny205.out] at ho44)); have HO207 := Aside0.mk (Kd.R_lower (Kd.R_new' ho44 (Kd.R_lt (by (with_reducible repeat (first | apply Kd.R_alloc | apply Kd.R_drewN | apply Kd.R_drew)); exact HO203.out))) (sqW HB.out)); replace HO203 := Aside0.mk (Kd.R_elder' (by (with_reducible repeat (first | apply Kd.R_alloc | apply Kd.R_drewN | apply Kd.R_drew)); exact HO203.out) (Kd.R_base ho44) hb); replace BK195 := Aside0.mk (sqB BK195.out hb); replace BK196 := Aside0.mk (sqB BK196.out hb); replace BK197 := Aside0.mk (sqB BK197.out hb); replace BK198 := Aside0.mk (sqB BK198.out hb); replace BK199 := Aside0.mk (sqB BK199.out hb); replace HB := Aside0.mk (sqH HB.out hb); clear hb ho44; obtain ⟨hcz45_0, hcz45_1⟩ := sqC2 BK198.out; obtain ⟨hfz45_0, hfz45_1⟩ := sqF2 BK198.out; obtain ⟨Ao46, co46, eo46⟩ := Kd.R_slice HO207.out; subst eo46; have p208 : 0 ≤ (a3_1 : Int) := of_decide_eq_true (by first | (with_reducible assumption) | assumption); have q208 : a3_1 < (y205.length : Int) := of_decide_eq_true (by first | (with_reducible assumption) | assumption); obtain ⟨ad208, e208, hx208_0⟩ := Kd.at_int (Kd.R_reads' HO207.out).2.2 a3_1 p208 q208; cases e208; replace p208 := eq_true p208; replace q208 := eq_true q208; have hnb47 := NB197_195.out; have hnc47 := NB195_197.out; have hnb48 := NB197_196.out; have hnc48 := NB196_197.out; have hnb49 := NB197_199.out; have hnc49 := NB199_197.out; obtain ⟨hcz50_0, hcz50_1, hcz50_2, hcz50_3, hcz50_4, hcz50_5⟩ := sqC BK197.out; obtain ⟨hfz50_0, hfz50_1, hfz50_2, hfz50_3, hfz50_4, hfz50_5⟩ := sqF6 BK197.out) | ((with_reducible refine gate_dst (N := 13) rfl ?_); refine box_event ?hg (N := 13) ?hd (cs := #[.int .i8 0, .int .i8 0]) (t := 42) ?hr ?_; (case hd => rfl); (case hg => rfl); (case hr => first | (go_simp; done) | (go_simp; rfl)); intro gb209 hg w51 hbox hb; replace HO203 := Aside0.mk (sqR HO203.out hb); replace HO207 := Aside0.mk (sqR HO207.out hb); have BK209 := Aside0.mk (hbox); have GW209 := Aside0.mk (sqS HB.out hg); replace HB := Aside0.mk (sqH HB.out hb); have GE209 := GW209; have NB195_209 := Aside0.mk (sqN BK195.out hg); replace BK195 := Aside0.mk (sqB BK195.out hb); have NB209_195 := Aside0.mk (Ne.symm NB195_209.out); have NB196_209 := Aside0.mk (sqN BK196.out hg); replace BK196 := Aside0.mk (sqB BK196.out hb); have NB209_196 := Aside0.mk (Ne.symm NB196_209.out); have NB197_209 := Aside0.mk (sqN BK197.out hg); replace BK197 := Aside0.mk (sqB BK197.out hb); have NB209_197 := Aside0.mk (Ne.symm NB197_209.out); have NB198_209 := Aside0.mk (sqN BK198.out hg); replace BK198 := Aside0.mk (sqB BK198.out hb); have NB209_198 := Aside0.mk (Ne.symm NB198_209.out); have NB199_209 := Aside0.mk (sqN BK199.out hg); replace BK199 := Aside0.mk (sqB BK199.out hb); have NB209_199 := Aside0.mk (Ne.symm NB199_209.out); clear hb hbox hg; have hnb52 := NB209_195.out; have hnc52 := NB195_209.out; have hnb53 := NB209_196.out; have hnc53 := NB196_209.out; have hnb54 := NB209_197.out; have hnc54 := NB197_209.out; have hnb55 := NB209_198.out; have hnc55 := NB198_209.out; have hnb56 := NB209_199.out; have hnc56 := NB199_209.out; obtain ⟨hcz57_0, hcz57_1⟩ := sqC2 BK209.out; obtain ⟨hfz57_0, hfz57_1⟩ := sqF2 BK209.out) | ((with_reducible refine gate_dst (N := 44) rfl ?_); (with_reducible refine AR.gate_load (t := 38) rfl ?_); (try refine gate_guard (by rfl) ?_); refine AR.wpList_load_blk rfl 38 _ rfl gb195 rfl (a0).A _ (by (with_reducible repeat (first | refine blk_drewN ?_ _ | refine blk_drew ?_ | refine blk_alloc ?_ _)); refine blk_far ?_ NB195_209.out _; (with_reducible repeat (first | refine blk_drewN ?_ _ | refine blk_drew ?_ | refine blk_alloc ?_ _)); refine blk_far ?_ NB195_209.out _; (with_reducible repeat (first | refine blk_drewN ?_ _ | refine blk_drew ?_ | refine blk_alloc ?_ _)); exact BK195.out) Try.underlying38 rfl (szO38 _) ?_) | ((with_reducible refine gate_callee (f := 75) rfl ?_); refine goesL_ (some 46) rfl rfl Try.func75 (by kernel_rfl) rfl #[VO38 a0, .agg #[.int .i8 (IntKind.i8.wrap (a2_0 + (rd y201 a3_1))), .int .i8 (IntKind.i8.wrap (a2_1 + (rd y205 a3_1)))]] rfl (by (try simp only [List.map_toArray, List.map_cons, List.map_nil]); first | done | rfl | (simp only [List.length_drop, List.length_take]; rfl)) ?_; (with_reducible refine (impl_isWater.calls a0 (IntKind.i8.wrap (a2_0 + (rd y201 a3_1))) (IntKind.i8.wrap (a2_1 + (rd y205 a3_1))) true _ A26.out).mono ?_); rintro e w58 ⟨rfl, hb⟩; refine ⟨_, rfl, ?_⟩; replace HO203 := Aside0.mk (Kd.R_below (by (with_reducible repeat (first | apply Kd.R_alloc | apply Kd.R_drewN | apply Kd.R_drew)); exact (Kd.R_mono (Kd.R_far (p := ⟨gb209, 1, none⟩) (Kd.R_far (p := ⟨gb209, 0, none⟩) (Kd.R_types HO203.out BK209.out (by decide)) (fun _ hk => hk.2) (.int .i8 (IntKind.i8.wrap (a2_0 + (rd y201 a3_1))))) (fun _ hk => hk.2) (.int .i8 (IntKind.i8.wrap (a2_1 + (rd y205 a3_1))))) (fun _ h_ => h_.1))) hb); replace HO207 := Aside0.mk (Kd.R_below (by (with_reducible repeat (first | apply Kd.R_alloc | apply Kd.R_drewN | apply Kd.R_drew)); exact (Kd.R_mono (Kd.R_far (p := ⟨gb209, 1, none⟩) (Kd.R_far (p := ⟨gb209, 0, none⟩) (Kd.R_types HO207.out BK209.out (by decide)) (fun _ hk => hk.2) (.int .i8 (IntKind.i8.wrap (a2_0 + (rd y201 a3_1))))) (fun _ hk => hk.2) (.int .i8 (IntKind.i8.wrap (a2_1 + (rd y205 a3_1))))) (fun _ h_ => h_.1))) hb); replace BK195 := Aside0.mk (blk_below (g := gb195) (o := .cells (a0).A 38 (0, 0)) (by (with_reducible repeat (first | refine blk_drewN ?_ _ | refine blk_drew ?_ | refine blk_alloc ?_ _)); refine blk_far ?_ NB195_209.out _; (with_reducible repeat (first | refine blk_drewN ?_ _ | refine blk_drew ?_ | refine blk_alloc ?_ _)); refine blk_far ?_ NB195_209.out _; (with_reducible repeat (first | refine blk_drewN ?_ _ | refine blk_drew ?_ | refine blk_alloc ?_ _)); exact BK195.out) hb); replace BK196 := Aside0.mk (blk_below (g := gb196) (o := .cells (a1).A 40 (0, 0)) (by (with_reducible repeat (first | refine blk_drewN ?_ _ | refine blk_drew ?_ | refine blk_alloc ?_ _)); refine blk_far ?_ NB196_209.out _; (with_reducible repeat (first | refine blk_drewN ?_ _ | refine blk_drew ?_ | refine blk_alloc ?_ _)); refine blk_far ?_ NB196_209.out _; (with_reducible repeat (first | refine blk_drewN ?_ _ | refine blk_drew ?_ | refine blk_alloc ?_ _)); exact BK196.out) hb); replace BK197 := Aside0.mk (blk_below (g := gb197) (o := .cells #[.int .i8 a2_0, .int .i8 a2_1, .int .i8 a2_2, .int .i8 a2_3, .int .i8 a2_4, .int .i8 a2_5] 44 (0, 0)) (by (with_reducible repeat (first | refine blk_drewN ?_ _ | refine blk_drew ?_ | refine blk_alloc ?_ _)); refine blk_far ?_ NB197_209.out _; (with_reducible repeat (first | refine blk_drewN ?_ _ | refine blk_drew ?_ | refine blk_alloc ?_ _)); refine blk_far ?_ NB197_209.out _; (with_reducible repeat (first | refine blk_drewN ?_ _ | refine blk_drew ?_ | refine blk_alloc ?_ _)); exact BK197.out) hb); replace BK198 := Aside0.mk (blk_below (g := gb198) (o := .cells #[.int .i8 a3_0, .int .i8 a3_1] 78 (0, 0)) (by (with_reducible repeat (first | refine blk_drewN ?_ _ | refine blk_drew ?_ | refine blk_alloc ?_ _)); refine blk_far ?_ NB198_209.out _; (with_reducible repeat (first | refine blk_drewN ?_ _ | refine blk_drew ?_ | refine blk_alloc ?_ _)); refine blk_far ?_ NB198_209.out _; (with_reducible repeat (first | refine blk_drewN ?_ _ | refine blk_drew ?_ | refine blk_alloc ?_ _)); exact BK198.out) hb); replace BK199 := Aside0.mk (blk_below (g := gb199) (o := .cells #[.int .i8 0, .int .i8 0, .int .i8 0, .int .i8 0, .int .i8 0, .int .i8 0] 44 (0, 0)) (by (with_reducible repeat (first | refine blk_drewN ?_ _ | refine blk_drew ?_ | refine blk_alloc ?_ _)); refine blk_far ?_ NB199_209.out _; (with_reducible repeat (first | refine blk_drewN ?_ _ | refine blk_drew ?_ | refine blk_alloc ?_ _)); refine blk_far ?_ NB199_209.out _; (with_reducible repeat (first | refine blk_drewN ?_ _ | refine blk_drew ?_ | refine blk_alloc ?_ _)); exact BK199.out) hb); replace BK209 := Aside0.mk (blk_below (g := gb209) (o := .cells #[.int .i8 (IntKind.i8.wrap (a2_0 + (rd y201 a3_1))), .int .i8 (IntKind.i8.wrap (a2_1 + (rd y205 a3_1)))] 42 (0, 0)) (by (with_reducible repeat (first | refine blk_drewN ?_ _ | refine blk_drew ?_ | refine blk_alloc ?_ _)); refine blk_put (cs := #[.int .i8 (IntKind.i8.wrap (a2_0 + (rd y201 a3_1))), .int .i8 0]) ?_ 1 _ rfl; (with_reducible repeat (first | refine blk_drewN ?_ _ | refine blk_drew ?_ | refine blk_alloc ?_ _)); refine blk_put (cs := #[.int .i8 0, .int .i8 0]) ?_ 0 _ rfl; (with_reducible repeat (first | refine blk_drewN ?_ _ | refine blk_drew ?_ | refine blk_alloc ?_ _)); exact BK209.out) hb); replace HB := Aside0.mk (sqH HB.out hb); (try clear hb); (try clear hb2); (try clear hk); (try clear hi); obtain ⟨hcz59_0, hcz59_1⟩ := sqC2 BK209.out; obtain ⟨hfz59_0, hfz59_1⟩ := sqF2 BK209.out; obtain ⟨hcz60_0, hcz60_1, hcz60_2, hcz60_3, hcz60_4, hcz60_5⟩ := sqC BK197.out; obtain ⟨hfz60_0, hfz60_1, hfz60_2, hfz60_3, hfz60_4, hfz60_5⟩ := sqF6 BK197.out; have hnb61 := NB199_195.out; have hnc61 := NB195_199.out; have hnb62 := NB199_196.out; have hnc62 := NB196_199.out; obtain ⟨hcz63_0, hcz63_1, hcz63_2, hcz63_3, hcz63_4, hcz63_5⟩ := sqC BK199.out; obtain ⟨hfz63_0, hfz63_1, hfz63_2, hfz63_3, hfz63_4, hfz63_5⟩ := sqF6 BK199.out))
      refine bodyPost_ret (results_ctt rfl _ _ gb199 44 #[.int .i8 (IntKind.i8.wrap (a2_0 + (rd y201 a3_1))), .int .i8 (IntKind.i8.wrap (a2_1 + (rd y205 a3_1))), .int .i8 a2_2, .int .i8 a2_3, .int .i8 a2_4, .int .i8 a2_5] (0, 0) _ rfl (by (with_reducible repeat (first | refine blk_drewN ?_ _ | refine blk_drew ?_ | refine blk_alloc ?_ _)); refine blk_put (cs := #[.int .i8 (IntKind.i8.wrap (a2_0 + (rd y201 a3_1))), .int .i8 (IntKind.i8.wrap (a2_1 + (rd y205 a3_1))), .int .i8 a2_2, .int .i8 a2_3, .int .i8 a2_4, .int .i8 0]) ?_ 5 _ rfl; (with_reducible repeat (first | refine blk_drewN ?_ _ | refine blk_drew ?_ | refine blk_alloc ?_ _)); refine blk_put (cs := #[.int .i8 (IntKind.i8.wrap (a2_0 + (rd y201 a3_1))), .int .i8 (IntKind.i8.wrap (a2_1 + (rd y205 a3_1))), .int .i8 a2_2, .int .i8 a2_3, .int .i8 0, .int .i8 0]) ?_ 4 _ rfl; (with_reducible repeat (first | refine blk_drewN ?_ _ | refine blk_drew ?_ | refine blk_alloc ?_ _)); refine blk_put (cs := #[.int .i8 (IntKind.i8.wrap (a2_0 + (rd y201 a3_1))), .int .i8 (IntKind.i8.wrap (a2_1 + (rd y205 a3_1))), .int .i8 a2_2, .int .i8 0, .int .i8 0, .int .i8 0]) ?_ 3 _ rfl; (with_reducible repeat (first | refine blk_drewN ?_ _ | refine blk_drew ?_ | refine blk_alloc ?_ _)); refine blk_put (cs := #[.int .i8 (IntKind.i8.wrap (a2_0 + (rd y201 a3_1))), .int .i8 (IntKind.i8.wrap (a2_1 + (rd y205 a3_1))), .int .i8 0, .int .i8 0, .int .i8 0, .int .i8 0]) ?_ 2 _ rfl; (with_reducible repeat (first | refine blk_drewN ?_ _ | refine blk_drew ?_ | refine blk_alloc ?_ _)); refine blk_put (cs := #[.int .i8 (IntKind.i8.wrap (a2_0 + (rd y201 a3_1))), .int .i8 0, .int .i8 0, .int .i8 0, .int .i8 0, .int .i8 0]) ?_ 1 _ rfl; (with_reducible repeat (first | refine blk_drewN ?_ _ | refine blk_drew ?_ | refine blk_alloc ?_ _)); refine blk_put (cs := #[.int .i8 0, .int .i8 0, .int .i8 0, .int .i8 0, .int .i8 0, .int .i8 0]) ?_ 0 _ rfl; (with_reducible repeat (first | refine blk_drewN ?_ _ | refine blk_drew ?_ | refine blk_alloc ?_ _)); refine blk_far ?_ NB199_197.out _; (with_reducible repeat (first | refine blk_drewN ?_ _ | refine blk_drew ?_ | refine blk_alloc ?_ _)); refine blk_far ?_ NB199_197.out _; (with_reducible repeat (first | refine blk_drewN ?_ _ | refine blk_drew ?_ | refine blk_alloc ?_ _)); exact BK199.out) Try.underlying44 rfl (by kernel_rfl)) rfl ?_
      exact ⟨by first | rfl | (simp [errW_none, errW_some] <;> rfl) | (simp [*, errW_none, errW_some] <;> rfl), by repeat (first | (with_reducible first | exact HB.out | apply below_alloc | apply pw_below_drewN | apply below_drew1 | refine below_set ?_ GE195.out | refine below_set ?_ GE196.out | refine below_set ?_ GE197.out | refine below_set ?_ GE198.out | refine below_set ?_ GE199.out | refine below_set ?_ GE209.out) | exact HB.out)⟩
     ·replace c27 := Bool.eq_false_iff.mpr c27
      subst c27
      have H1 : (some (a2_0, a2_1, a2_2, a2_3, a2_4, a2_5, true, true)) = some (r1, r2, r3, r4, r5, r6, r7, r8) := by rw [if_neg (show ¬ (false = true) by decide)] at H; exact H
      clear H
      have H := H1
      clear H1
      simp only [Option.some.injEq, Prod.mk.injEq] at H
      obtain ⟨rfl, rfl, rfl, rfl, rfl, rfl, rfl, rfl⟩ := H
      go_enter Try.func72, Try.ntmps72
      try go_wp2_with (first | ((with_reducible refine gate_dst (N := 4) rfl ?_); refine box_event ?hg (N := 4) ?hd (cs := (a0).A) (t := 38) ?hr ?_; (case hd => rfl); (case hg => rfl); (case hr => first | exact AR.run_box_row rfl rfl | (go_simp; done) | (go_simp; rfl)); intro gb195 hg w64 hbox hb; have BK195 := Aside0.mk (hbox); have GW195 := Aside0.mk (sqS HB.out hg); replace HB := Aside0.mk (sqH HB.out hb); have GE195 := GW195; clear hb hbox hg) | ((with_reducible refine gate_dst (N := 5) rfl ?_); refine box_event ?hg (N := 5) ?hd (cs := (a1).A) (t := 40) ?hr ?_; (case hd => rfl); (case hg => rfl); (case hr => first | exact AR.run_box_row rfl rfl | (go_simp; done) | (go_simp; rfl)); intro gb196 hg w65 hbox hb; have BK196 := Aside0.mk (hbox); have GW196 := Aside0.mk (sqS HB.out hg); replace HB := Aside0.mk (sqH HB.out hb); have GE196 := GW196; have NB195_196 := Aside0.mk (sqN BK195.out hg); replace BK195 := Aside0.mk (sqB BK195.out hb); have NB196_195 := Aside0.mk (Ne.symm NB195_196.out); clear hb hbox hg) | ((with_reducible refine gate_dst (N := 6) rfl ?_); refine box_event ?hg (N := 6) ?hd (cs := #[.int .i8 a2_0, .int .i8 a2_1, .int .i8 a2_2, .int .i8 a2_3, .int .i8 a2_4, .int .i8 a2_5]) (t := 44) ?hr ?_; (case hd => rfl); (case hg => rfl); (case hr => first | (go_simp; done) | (go_simp; rfl)); intro gb197 hg w66 hbox hb; have BK197 := Aside0.mk (hbox); have GW197 := Aside0.mk (sqS HB.out hg); replace HB := Aside0.mk (sqH HB.out hb); have GE197 := GW197; have NB195_197 := Aside0.mk (sqN BK195.out hg); replace BK195 := Aside0.mk (sqB BK195.out hb); have NB197_195 := Aside0.mk (Ne.symm NB195_197.out); have NB196_197 := Aside0.mk (sqN BK196.out hg); replace BK196 := Aside0.mk (sqB BK196.out hb); have NB197_196 := Aside0.mk (Ne.symm NB196_197.out); clear hb hbox hg) | ((with_reducible refine gate_dst (N := 7) rfl ?_); refine box_event ?hg (N := 7) ?hd (cs := #[.int .i8 a3_0, .int .i8 a3_1]) (t := 78) ?hr ?_; (case hd => rfl); (case hg => rfl); (case hr => first | (go_simp; done) | (go_simp; rfl)); intro gb198 hg w67 hbox hb; have BK198 := Aside0.mk (hbox); have GW198 := Aside0.mk (sqS HB.out hg); replace HB := Aside0.mk (sqH HB.out hb); have GE198 := GW198; have NB195_198 := Aside0.mk (sqN BK195.out hg); replace BK195 := Aside0.mk (sqB BK195.out hb); have NB198_195 := Aside0.mk (Ne.symm NB195_198.out); have NB196_198 := Aside0.mk (sqN BK196.out hg); replace BK196 := Aside0.mk (sqB BK196.out hb); have NB198_196 := Aside0.mk (Ne.symm NB196_198.out); have NB197_198 := Aside0.mk (sqN BK197.out hg); replace BK197 := Aside0.mk (sqB BK197.out hb); have NB198_197 := Aside0.mk (Ne.symm NB197_198.out); clear hb hbox hg) | ((with_reducible refine gate_dst (N := 8) rfl ?_); refine box_event ?hg (N := 8) ?hd (cs := #[.int .i8 0, .int .i8 0, .int .i8 0, .int .i8 0, .int .i8 0, .int .i8 0]) (t := 44) ?hr ?_; (case hd => rfl); (case hg => rfl); (case hr => first | (go_simp; done) | (go_simp; rfl)); intro gb199 hg w68 hbox hb; have BK199 := Aside0.mk (hbox); have GW199 := Aside0.mk (sqS HB.out hg); replace HB := Aside0.mk (sqH HB.out hb); have GE199 := GW199; have NB195_199 := Aside0.mk (sqN BK195.out hg); replace BK195 := Aside0.mk (sqB BK195.out hb); have NB199_195 := Aside0.mk (Ne.symm NB195_199.out); have NB196_199 := Aside0.mk (sqN BK196.out hg); replace BK196 := Aside0.mk (sqB BK196.out hb); have NB199_196 := Aside0.mk (Ne.symm NB196_199.out); have NB197_199 := Aside0.mk (sqN BK197.out hg); replace BK197 := Aside0.mk (sqB BK197.out hb); have NB199_197 := Aside0.mk (Ne.symm NB197_199.out); have NB198_199 := Aside0.mk (sqN BK198.out hg); replace BK198 := Aside0.mk (sqB BK198.out hb); have NB199_198 := Aside0.mk (Ne.symm NB198_199.out); clear hb hbox hg))
      replace BK195 := Aside0.mk (blk_drew BK195.out)
      replace BK196 := Aside0.mk (blk_drew BK196.out)
      replace BK197 := Aside0.mk (blk_drew BK197.out)
      replace BK198 := Aside0.mk (blk_drew BK198.out)
      replace BK199 := Aside0.mk (blk_drew BK199.out)
      replace HB := Aside0.mk (below_drew1 HB.out)
      refine start_ (n := 8) (S := fun w' => w'.cell? ⟨gb198, 0, none⟩ = some (.int .i8 a3_0) ∧ w'.cell? ⟨gb198, 1, none⟩ = some (.int .i8 a3_1) ∧ w'.heap[gb195]? = some (.cells (a0).A 38 (0, 0)) ∧ w'.heap[gb196]? = some (.cells (a1).A 40 (0, 0)) ∧ w'.cell? ⟨gb197, 0, none⟩ = some (.int .i8 a2_0) ∧ w'.cell? ⟨gb197, 1, none⟩ = some (.int .i8 a2_1) ∧ w'.cell? ⟨gb197, 2, none⟩ = some (.int .i8 a2_2) ∧ w'.cell? ⟨gb197, 3, none⟩ = some (.int .i8 a2_3) ∧ w'.cell? ⟨gb197, 4, none⟩ = some (.int .i8 a2_4) ∧ w'.cell? ⟨gb197, 5, none⟩ = some (.int .i8 a2_5)) (ds := []) #[false, false, false, false, false, false, false, false] (by kernel_rfl) rfl rfl ⟨(blk_cell BK198.out 0).trans rfl, (blk_cell BK198.out 1).trans rfl, BK195.out, BK196.out, (blk_cell BK197.out 0).trans rfl, (blk_cell BK197.out 1).trans rfl, (blk_cell BK197.out 2).trans rfl, (blk_cell BK197.out 3).trans rfl, (blk_cell BK197.out 4).trans rfl, (blk_cell BK197.out 5).trans rfl⟩ (fun hHeld => ?_); refine with_tabW impl_drift.tab1 impl_drift.bits1 (fun HT_ HW_ => ?_)
      generalize w68.drew = w69 at BK195 BK196 BK197 BK198 BK199 HB hHeld ⊢
      refine pure_ (i := 0) (N := some 14) (v := ?_) (a' := ?_) #[true, false, false, false, false, false, false, false] rfl rfl (any_of HT_.out (by kernel_rfl)) (fun _ _ _ h => h) (Or.inl ⟨by rfl, ?_⟩) ?_ ?_
      rotate_left
      ·intro w'
       go_simp
       with_reducible rfl
      rotate_left
      ·simp only [Act.put, List.setIfInBounds_toArray, List.set_cons_zero, List.set_cons_succ, i64_w, i32_w]
       rfl
      refine take_ (i := 1) (N := some 15) (v := ?_) (a' := ?_) #[true, true, false, false, false, false, false, false] rfl rfl (take_ofW HT_.out HW_.out (by kernel_rfl)) (fun _ _ _ h => h) (Or.inl ⟨by rfl, ?_⟩) hHeld ?_ ?_
      rotate_left
      ·rintro w' ⟨s0, s1, s2, s3, s4, s5, s6, s7, s8, s9⟩
       skip
       first | (refine Eq.trans (AR.exec_load_blk rfl rfl s2 Try.underlying38 rfl (szO38 _)) ?_; with_reducible rfl) | (refine Eq.trans (AR.exec_load_blk rfl rfl s3 Try.underlying40 rfl (szO40 _)) ?_; with_reducible rfl) | (go_simp; with_reducible rfl)
      rotate_left
      ·simp only [Act.put, List.setIfInBounds_toArray, List.set_cons_zero, List.set_cons_succ, i64_w, i32_w]
       rfl
      refine pure_ (i := 2) (N := some 16) (v := ?_) (a' := ?_) #[true, true, true, false, false, false, false, false] rfl rfl (any_of HT_.out (by kernel_rfl)) (fun _ _ _ h => h) (Or.inl ⟨by rfl, ?_⟩) ?_ ?_
      rotate_left
      ·intro w'
       go_simp
       with_reducible rfl
      rotate_left
      ·simp only [Act.put, List.setIfInBounds_toArray, List.set_cons_zero, List.set_cons_succ, i64_w, i32_w]
       rfl
      refine take_ (i := 3) (N := some 17) (v := ?_) (a' := ?_) #[true, true, true, true, false, false, false, false] rfl rfl (take_ofW HT_.out HW_.out (by kernel_rfl)) (fun _ _ _ h => h) (Or.inl ⟨by rfl, ?_⟩) hHeld ?_ ?_
      rotate_left
      ·rintro w' ⟨s0, s1, s2, s3, s4, s5, s6, s7, s8, s9⟩
       skip
       first | (refine Eq.trans (AR.exec_load_blk rfl rfl s2 Try.underlying38 rfl (szO38 _)) ?_; with_reducible rfl) | (refine Eq.trans (AR.exec_load_blk rfl rfl s3 Try.underlying40 rfl (szO40 _)) ?_; with_reducible rfl) | (go_simp; with_reducible rfl)
      rotate_left
      ·simp only [Act.put, List.setIfInBounds_toArray, List.set_cons_zero, List.set_cons_succ, i64_w, i32_w]
       rfl
      refine take_ (i := 4) (N := some 18) (v := ?_) (a' := ?_) #[true, true, true, true, true, false, false, false] rfl rfl (take_ofW HT_.out HW_.out (by kernel_rfl)) (fun _ _ _ h => h) (Or.inl ⟨by rfl, ?_⟩) hHeld ?_ ?_
      rotate_left
      ·rintro w' ⟨s0, s1, s2, s3, s4, s5, s6, s7, s8, s9⟩
       skip
       first | (refine Eq.trans (AR.exec_load_blk rfl rfl s2 Try.underlying38 rfl (szO38 _)) ?_; with_reducible rfl) | (refine Eq.trans (AR.exec_load_blk rfl rfl s3 Try.underlying40 rfl (szO40 _)) ?_; with_reducible rfl) | (go_simp; with_reducible rfl)
      rotate_left
      ·simp only [Act.put, List.setIfInBounds_toArray, List.set_cons_zero, List.set_cons_succ, i64_w, i32_w]
       rfl
      refine take_ (i := 5) (N := some 19) (v := ?_) (a' := ?_) #[true, true, true, true, true, true, false, false] rfl rfl (take_ofW HT_.out HW_.out (by kernel_rfl)) (fun _ _ _ h => h) (Or.inl ⟨by rfl, ?_⟩) hHeld ?_ ?_
      rotate_left
      ·rintro w' ⟨s0, s1, s2, s3, s4, s5, s6, s7, s8, s9⟩
       skip
       first | (refine Eq.trans (AR.exec_load_blk rfl rfl s2 Try.underlying38 rfl (szO38 _)) ?_; with_reducible rfl) | (refine Eq.trans (AR.exec_load_blk rfl rfl s3 Try.underlying40 rfl (szO40 _)) ?_; with_reducible rfl) | (go_simp; with_reducible rfl)
      rotate_left
      ·simp only [Act.put, List.setIfInBounds_toArray, List.set_cons_zero, List.set_cons_succ, i64_w, i32_w]
       rfl
      refine one_ (i := 6) (N := some 20) #[true, true, true, true, true, true, true, false] rfl rfl (one_of HT_.out (by kernel_rfl)) (by decide) (fun K hK => ?_)
      refine goes_ Try.func83 (by kernel_rfl) rfl #[VO38 a0, VO40 a1, .agg #[.int .i8 a2_0, .int .i8 a2_1, .int .i8 a2_2, .int .i8 a2_3, .int .i8 a2_4, .int .i8 a2_5]] (by rfl) rfl rfl (by (try simp only [List.map_toArray, List.map_cons, List.map_nil]); first | done | rfl | (simp only [List.length_drop, List.length_take]; rfl)) ?_
      with_reducible refine (impl_hold.calls a0 a1 a2_0 a2_1 a2_2 a2_3 a2_4 a2_5 t200 _ A5.out).mono ?_
      rintro e w70 ⟨rfl, hb⟩
      refine ⟨_, rfl, ?_⟩
      replace BK195 := Aside0.mk (sqB BK195.out hb)
      replace BK196 := Aside0.mk (sqB BK196.out hb)
      replace BK197 := Aside0.mk (sqB BK197.out hb)
      replace BK198 := Aside0.mk (sqB BK198.out hb)
      replace BK199 := Aside0.mk (sqB BK199.out hb)
      replace HB := Aside0.mk (sqH HB.out hb)
      (try clear hb)
      (try clear hb2)
      (try clear hk)
      (try clear hi)
      refine hK.out _ _ ⟨(blk_cell BK198.out 0).trans rfl, (blk_cell BK198.out 1).trans rfl, BK195.out, BK196.out, (blk_cell BK197.out 0).trans rfl, (blk_cell BK197.out 1).trans rfl, (blk_cell BK197.out 2).trans rfl, (blk_cell BK197.out 3).trans rfl, (blk_cell BK197.out 4).trans rfl, (blk_cell BK197.out 5).trans rfl⟩ (fun hHeld => ?_)
      clear hK K
      refine norm_ (a' := ?_) ?_ ?_
      rotate_left
      ·show Act.put _ (some 20) _ = _
       simp only [Act.put, List.setIfInBounds_toArray, List.set_cons_zero, List.set_cons_succ, i64_w, i32_w]
       rfl
      refine pure_ (i := 7) (N := some 21) (v := ?_) (a' := ?_) #[true, true, true, true, true, true, true, true] rfl rfl (any_of HT_.out (by kernel_rfl)) (fun _ _ _ h => h) (Or.inl ⟨by rfl, ?_⟩) ?_ ?_
      rotate_left
      ·intro w'
       go_simp
       with_reducible rfl
      rotate_left
      ·simp only [Act.put, List.setIfInBounds_toArray, List.set_cons_zero, List.set_cons_succ, i64_w, i32_w]
       rfl
      refine done_ (done_of HT_.out (by kernel_rfl)) ?_
      try go_wp2_with (first | ((with_reducible refine gate_dst (N := 23) rfl ?_); refine Kd.R_lit (Kd.int .i8) _ 22 ?hg (N := 23) ?hd (xs := ([0, 1, 1, 1, 0, (-1), (-1), (-1)] : List Int)) (inner := [.int .i8 0, .int .i8 1, .int .i8 1, .int .i8 1, .int .i8 0, .int .i8 (-1), .int .i8 (-1), .int .i8 (-1)]) (ok := fun _ => True) (okp := fun _ => True) ?hr ?hp (fun _ hk => hk) trivial (Below.refl _ _) (Nat.le_refl _) (by simp) ?_; (case hd => rfl); (case hg => rfl); (case hr => first | (go_simp; done) | (go_simp; rfl)); (case hp => exact (Reps.one (show Kd.M (Kd.int .i8) _ _ _ 0 [.int .i8 0] from rfl) (Reps.one (show Kd.M (Kd.int .i8) _ _ _ 1 [.int .i8 1] from rfl) (Reps.one (show Kd.M (Kd.int .i8) _ _ _ 1 [.int .i8 1] from rfl) (Reps.one (show Kd.M (Kd.int .i8) _ _ _ 1 [.int .i8 1] from rfl) (Reps.one (show Kd.M (Kd.int .i8) _ _ _ 0 [.int .i8 0] from rfl) (Reps.one (show Kd.M (Kd.int .i8) _ _ _ (-1) [.int .i8 (-1)] from rfl) (Reps.one (show Kd.M (Kd.int .i8) _ _ _ (-1) [.int .i8 (-1)] from rfl) (Reps.one (show Kd.M (Kd.int .i8) _ _ _ (-1) [.int .i8 (-1)] from rfl) (Reps.none _ _)))))))))); intro v202 w71 ho72 hb hg_ hnew_; clear hg_ hnew_; (first | rw [← Ny201.out] at ho72 | (simp only [Int.reduceToNat] at ho72; rw [← Ny201.out] at ho72)); have HO203 := Aside0.mk (Kd.R_lower ho72 (sqW HB.out)); replace BK195 := Aside0.mk (sqB BK195.out hb); replace BK196 := Aside0.mk (sqB BK196.out hb); replace BK197 := Aside0.mk (sqB BK197.out hb); replace BK198 := Aside0.mk (sqB BK198.out hb); replace BK199 := Aside0.mk (sqB BK199.out hb); replace HB := Aside0.mk (sqH HB.out hb); clear hb ho72; have hnb73 := NB198_195.out; have hnc73 := NB195_198.out; have hnb74 := NB198_196.out; have hnc74 := NB196_198.out; have hnb75 := NB198_197.out; have hnc75 := NB197_198.out; have hnb76 := NB198_199.out; have hnc76 := NB199_198.out; obtain ⟨hcz77_0, hcz77_1⟩ := sqC2 BK198.out; obtain ⟨hfz77_0, hfz77_1⟩ := sqF2 BK198.out; obtain ⟨Ao78, co78, eo78⟩ := Kd.R_slice HO203.out; subst eo78; have p204 : 0 ≤ (a3_1 : Int) := of_decide_eq_true (by first | (with_reducible assumption) | assumption); have q204 : a3_1 < (y201.length : Int) := of_decide_eq_true (by first | (with_reducible assumption) | assumption); obtain ⟨ad204, e204, hx204_0⟩ := Kd.at_int (Kd.R_reads' HO203.out).2.2 a3_1 p204 q204; cases e204; replace p204 := eq_true p204; replace q204 := eq_true q204) | ((with_reducible refine gate_dst (N := 28) rfl ?_); refine Kd.R_lit (Kd.int .i8) _ 22 ?hg (N := 28) ?hd (xs := ([(-1), (-1), 0, 1, 1, 1, 0, (-1)] : List Int)) (inner := [.int .i8 (-1), .int .i8 (-1), .int .i8 0, .int .i8 1, .int .i8 1, .int .i8 1, .int .i8 0, .int .i8 (-1)]) (ok := fun _ => True) (okp := fun _ => True) ?hr ?hp (fun _ hk => hk) trivial (Below.refl _ _) (Nat.le_refl _) (by simp) ?_; (case hd => rfl); (case hg => rfl); (case hr => first | (go_simp; done) | (go_simp; rfl)); (case hp => exact (Reps.one (show Kd.M (Kd.int .i8) _ _ _ (-1) [.int .i8 (-1)] from rfl) (Reps.one (show Kd.M (Kd.int .i8) _ _ _ (-1) [.int .i8 (-1)] from rfl) (Reps.one (show Kd.M (Kd.int .i8) _ _ _ 0 [.int .i8 0] from rfl) (Reps.one (show Kd.M (Kd.int .i8) _ _ _ 1 [.int .i8 1] from rfl) (Reps.one (show Kd.M (Kd.int .i8) _ _ _ 1 [.int .i8 1] from rfl) (Reps.one (show Kd.M (Kd.int .i8) _ _ _ 1 [.int .i8 1] from rfl) (Reps.one (show Kd.M (Kd.int .i8) _ _ _ 0 [.int .i8 0] from rfl) (Reps.one (show Kd.M (Kd.int .i8) _ _ _ (-1) [.int .i8 (-1)] from rfl) (Reps.none _ _)))))))))); intro v206 w79 ho80 hb hg_ hnew_; clear hg_ hnew_; (first | rw [← Ny205.out] at ho80 | (simp only [Int.reduceToNat] at ho80; rw [← Ny205.out] at ho80)); have HO207 := Aside0.mk (Kd.R_lower (Kd.R_new' ho80 (Kd.R_lt (by (with_reducible repeat (first | apply Kd.R_alloc | apply Kd.R_drewN | apply Kd.R_drew)); exact HO203.out))) (sqW HB.out)); replace HO203 := Aside0.mk (Kd.R_elder' (by (with_reducible repeat (first | apply Kd.R_alloc | apply Kd.R_drewN | apply Kd.R_drew)); exact HO203.out) (Kd.R_base ho80) hb); replace BK195 := Aside0.mk (sqB BK195.out hb); replace BK196 := Aside0.mk (sqB BK196.out hb); replace BK197 := Aside0.mk (sqB BK197.out hb); replace BK198 := Aside0.mk (sqB BK198.out hb); replace BK199 := Aside0.mk (sqB BK199.out hb); replace HB := Aside0.mk (sqH HB.out hb); clear hb ho80; obtain ⟨hcz81_0, hcz81_1⟩ := sqC2 BK198.out; obtain ⟨hfz81_0, hfz81_1⟩ := sqF2 BK198.out; obtain ⟨Ao82, co82, eo82⟩ := Kd.R_slice HO207.out; subst eo82; have p208 : 0 ≤ (a3_1 : Int) := of_decide_eq_true (by first | (with_reducible assumption) | assumption); have q208 : a3_1 < (y205.length : Int) := of_decide_eq_true (by first | (with_reducible assumption) | assumption); obtain ⟨ad208, e208, hx208_0⟩ := Kd.at_int (Kd.R_reads' HO207.out).2.2 a3_1 p208 q208; cases e208; replace p208 := eq_true p208; replace q208 := eq_true q208; have hnb83 := NB197_195.out; have hnc83 := NB195_197.out; have hnb84 := NB197_196.out; have hnc84 := NB196_197.out; have hnb85 := NB197_199.out; have hnc85 := NB199_197.out; obtain ⟨hcz86_0, hcz86_1, hcz86_2, hcz86_3, hcz86_4, hcz86_5⟩ := sqC BK197.out; obtain ⟨hfz86_0, hfz86_1, hfz86_2, hfz86_3, hfz86_4, hfz86_5⟩ := sqF6 BK197.out) | ((with_reducible refine gate_dst (N := 13) rfl ?_); refine box_event ?hg (N := 13) ?hd (cs := #[.int .i8 0, .int .i8 0]) (t := 42) ?hr ?_; (case hd => rfl); (case hg => rfl); (case hr => first | (go_simp; done) | (go_simp; rfl)); intro gb209 hg w87 hbox hb; replace HO203 := Aside0.mk (sqR HO203.out hb); replace HO207 := Aside0.mk (sqR HO207.out hb); have BK209 := Aside0.mk (hbox); have GW209 := Aside0.mk (sqS HB.out hg); replace HB := Aside0.mk (sqH HB.out hb); have GE209 := GW209; have NB195_209 := Aside0.mk (sqN BK195.out hg); replace BK195 := Aside0.mk (sqB BK195.out hb); have NB209_195 := Aside0.mk (Ne.symm NB195_209.out); have NB196_209 := Aside0.mk (sqN BK196.out hg); replace BK196 := Aside0.mk (sqB BK196.out hb); have NB209_196 := Aside0.mk (Ne.symm NB196_209.out); have NB197_209 := Aside0.mk (sqN BK197.out hg); replace BK197 := Aside0.mk (sqB BK197.out hb); have NB209_197 := Aside0.mk (Ne.symm NB197_209.out); have NB198_209 := Aside0.mk (sqN BK198.out hg); replace BK198 := Aside0.mk (sqB BK198.out hb); have NB209_198 := Aside0.mk (Ne.symm NB198_209.out); have NB199_209 := Aside0.mk (sqN BK199.out hg); replace BK199 := Aside0.mk (sqB BK199.out hb); have NB209_199 := Aside0.mk (Ne.symm NB199_209.out); clear hb hbox hg; have hnb88 := NB209_195.out; have hnc88 := NB195_209.out; have hnb89 := NB209_196.out; have hnc89 := NB196_209.out; have hnb90 := NB209_197.out; have hnc90 := NB197_209.out; have hnb91 := NB209_198.out; have hnc91 := NB198_209.out; have hnb92 := NB209_199.out; have hnc92 := NB199_209.out; obtain ⟨hcz93_0, hcz93_1⟩ := sqC2 BK209.out; obtain ⟨hfz93_0, hfz93_1⟩ := sqF2 BK209.out) | ((with_reducible refine gate_dst (N := 44) rfl ?_); (with_reducible refine AR.gate_load (t := 38) rfl ?_); (try refine gate_guard (by rfl) ?_); refine AR.wpList_load_blk rfl 38 _ rfl gb195 rfl (a0).A _ (by (with_reducible repeat (first | refine blk_drewN ?_ _ | refine blk_drew ?_ | refine blk_alloc ?_ _)); refine blk_far ?_ NB195_209.out _; (with_reducible repeat (first | refine blk_drewN ?_ _ | refine blk_drew ?_ | refine blk_alloc ?_ _)); refine blk_far ?_ NB195_209.out _; (with_reducible repeat (first | refine blk_drewN ?_ _ | refine blk_drew ?_ | refine blk_alloc ?_ _)); exact BK195.out) Try.underlying38 rfl (szO38 _) ?_) | ((with_reducible refine gate_callee (f := 75) rfl ?_); refine goesL_ (some 46) rfl rfl Try.func75 (by kernel_rfl) rfl #[VO38 a0, .agg #[.int .i8 (IntKind.i8.wrap (a2_0 + (rd y201 a3_1))), .int .i8 (IntKind.i8.wrap (a2_1 + (rd y205 a3_1)))]] rfl (by (try simp only [List.map_toArray, List.map_cons, List.map_nil]); first | done | rfl | (simp only [List.length_drop, List.length_take]; rfl)) ?_; (with_reducible refine (impl_isWater.calls a0 (IntKind.i8.wrap (a2_0 + (rd y201 a3_1))) (IntKind.i8.wrap (a2_1 + (rd y205 a3_1))) false _ A26.out).mono ?_); rintro e w94 ⟨rfl, hb⟩; refine ⟨_, rfl, ?_⟩; replace HO203 := Aside0.mk (Kd.R_below (by (with_reducible repeat (first | apply Kd.R_alloc | apply Kd.R_drewN | apply Kd.R_drew)); exact (Kd.R_mono (Kd.R_far (p := ⟨gb209, 1, none⟩) (Kd.R_far (p := ⟨gb209, 0, none⟩) (Kd.R_types HO203.out BK209.out (by decide)) (fun _ hk => hk.2) (.int .i8 (IntKind.i8.wrap (a2_0 + (rd y201 a3_1))))) (fun _ hk => hk.2) (.int .i8 (IntKind.i8.wrap (a2_1 + (rd y205 a3_1))))) (fun _ h_ => h_.1))) hb); replace HO207 := Aside0.mk (Kd.R_below (by (with_reducible repeat (first | apply Kd.R_alloc | apply Kd.R_drewN | apply Kd.R_drew)); exact (Kd.R_mono (Kd.R_far (p := ⟨gb209, 1, none⟩) (Kd.R_far (p := ⟨gb209, 0, none⟩) (Kd.R_types HO207.out BK209.out (by decide)) (fun _ hk => hk.2) (.int .i8 (IntKind.i8.wrap (a2_0 + (rd y201 a3_1))))) (fun _ hk => hk.2) (.int .i8 (IntKind.i8.wrap (a2_1 + (rd y205 a3_1))))) (fun _ h_ => h_.1))) hb); replace BK195 := Aside0.mk (blk_below (g := gb195) (o := .cells (a0).A 38 (0, 0)) (by (with_reducible repeat (first | refine blk_drewN ?_ _ | refine blk_drew ?_ | refine blk_alloc ?_ _)); refine blk_far ?_ NB195_209.out _; (with_reducible repeat (first | refine blk_drewN ?_ _ | refine blk_drew ?_ | refine blk_alloc ?_ _)); refine blk_far ?_ NB195_209.out _; (with_reducible repeat (first | refine blk_drewN ?_ _ | refine blk_drew ?_ | refine blk_alloc ?_ _)); exact BK195.out) hb); replace BK196 := Aside0.mk (blk_below (g := gb196) (o := .cells (a1).A 40 (0, 0)) (by (with_reducible repeat (first | refine blk_drewN ?_ _ | refine blk_drew ?_ | refine blk_alloc ?_ _)); refine blk_far ?_ NB196_209.out _; (with_reducible repeat (first | refine blk_drewN ?_ _ | refine blk_drew ?_ | refine blk_alloc ?_ _)); refine blk_far ?_ NB196_209.out _; (with_reducible repeat (first | refine blk_drewN ?_ _ | refine blk_drew ?_ | refine blk_alloc ?_ _)); exact BK196.out) hb); replace BK197 := Aside0.mk (blk_below (g := gb197) (o := .cells #[.int .i8 a2_0, .int .i8 a2_1, .int .i8 a2_2, .int .i8 a2_3, .int .i8 a2_4, .int .i8 a2_5] 44 (0, 0)) (by (with_reducible repeat (first | refine blk_drewN ?_ _ | refine blk_drew ?_ | refine blk_alloc ?_ _)); refine blk_far ?_ NB197_209.out _; (with_reducible repeat (first | refine blk_drewN ?_ _ | refine blk_drew ?_ | refine blk_alloc ?_ _)); refine blk_far ?_ NB197_209.out _; (with_reducible repeat (first | refine blk_drewN ?_ _ | refine blk_drew ?_ | refine blk_alloc ?_ _)); exact BK197.out) hb); replace BK198 := Aside0.mk (blk_below (g := gb198) (o := .cells #[.int .i8 a3_0, .int .i8 a3_1] 78 (0, 0)) (by (with_reducible repeat (first | refine blk_drewN ?_ _ | refine blk_drew ?_ | refine blk_alloc ?_ _)); refine blk_far ?_ NB198_209.out _; (with_reducible repeat (first | refine blk_drewN ?_ _ | refine blk_drew ?_ | refine blk_alloc ?_ _)); refine blk_far ?_ NB198_209.out _; (with_reducible repeat (first | refine blk_drewN ?_ _ | refine blk_drew ?_ | refine blk_alloc ?_ _)); exact BK198.out) hb); replace BK199 := Aside0.mk (blk_below (g := gb199) (o := .cells #[.int .i8 0, .int .i8 0, .int .i8 0, .int .i8 0, .int .i8 0, .int .i8 0] 44 (0, 0)) (by (with_reducible repeat (first | refine blk_drewN ?_ _ | refine blk_drew ?_ | refine blk_alloc ?_ _)); refine blk_far ?_ NB199_209.out _; (with_reducible repeat (first | refine blk_drewN ?_ _ | refine blk_drew ?_ | refine blk_alloc ?_ _)); refine blk_far ?_ NB199_209.out _; (with_reducible repeat (first | refine blk_drewN ?_ _ | refine blk_drew ?_ | refine blk_alloc ?_ _)); exact BK199.out) hb); replace BK209 := Aside0.mk (blk_below (g := gb209) (o := .cells #[.int .i8 (IntKind.i8.wrap (a2_0 + (rd y201 a3_1))), .int .i8 (IntKind.i8.wrap (a2_1 + (rd y205 a3_1)))] 42 (0, 0)) (by (with_reducible repeat (first | refine blk_drewN ?_ _ | refine blk_drew ?_ | refine blk_alloc ?_ _)); refine blk_put (cs := #[.int .i8 (IntKind.i8.wrap (a2_0 + (rd y201 a3_1))), .int .i8 0]) ?_ 1 _ rfl; (with_reducible repeat (first | refine blk_drewN ?_ _ | refine blk_drew ?_ | refine blk_alloc ?_ _)); refine blk_put (cs := #[.int .i8 0, .int .i8 0]) ?_ 0 _ rfl; (with_reducible repeat (first | refine blk_drewN ?_ _ | refine blk_drew ?_ | refine blk_alloc ?_ _)); exact BK209.out) hb); replace HB := Aside0.mk (sqH HB.out hb); (try clear hb); (try clear hb2); (try clear hk); (try clear hi); obtain ⟨hcz95_0, hcz95_1, hcz95_2, hcz95_3, hcz95_4, hcz95_5⟩ := sqC BK197.out; obtain ⟨hfz95_0, hfz95_1, hfz95_2, hfz95_3, hfz95_4, hfz95_5⟩ := sqF6 BK197.out; have hnb96 := NB199_195.out; have hnc96 := NB195_199.out; have hnb97 := NB199_196.out; have hnc97 := NB196_199.out; obtain ⟨hcz98_0, hcz98_1, hcz98_2, hcz98_3, hcz98_4, hcz98_5⟩ := sqC BK199.out; obtain ⟨hfz98_0, hfz98_1, hfz98_2, hfz98_3, hfz98_4, hfz98_5⟩ := sqF6 BK199.out))
      refine bodyPost_ret (results_ctt rfl _ _ gb199 44 #[.int .i8 a2_0, .int .i8 a2_1, .int .i8 a2_2, .int .i8 a2_3, .int .i8 a2_4, .int .i8 a2_5] (0, 0) _ rfl (by (with_reducible repeat (first | refine blk_drewN ?_ _ | refine blk_drew ?_ | refine blk_alloc ?_ _)); refine blk_put (cs := #[.int .i8 a2_0, .int .i8 a2_1, .int .i8 a2_2, .int .i8 a2_3, .int .i8 a2_4, .int .i8 0]) ?_ 5 _ rfl; (with_reducible repeat (first | refine blk_drewN ?_ _ | refine blk_drew ?_ | refine blk_alloc ?_ _)); refine blk_put (cs := #[.int .i8 a2_0, .int .i8 a2_1, .int .i8 a2_2, .int .i8 a2_3, .int .i8 0, .int .i8 0]) ?_ 4 _ rfl; (with_reducible repeat (first | refine blk_drewN ?_ _ | refine blk_drew ?_ | refine blk_alloc ?_ _)); refine blk_put (cs := #[.int .i8 a2_0, .int .i8 a2_1, .int .i8 a2_2, .int .i8 0, .int .i8 0, .int .i8 0]) ?_ 3 _ rfl; (with_reducible repeat (first | refine blk_drewN ?_ _ | refine blk_drew ?_ | refine blk_alloc ?_ _)); refine blk_put (cs := #[.int .i8 a2_0, .int .i8 a2_1, .int .i8 0, .int .i8 0, .int .i8 0, .int .i8 0]) ?_ 2 _ rfl; (with_reducible repeat (first | refine blk_drewN ?_ _ | refine blk_drew ?_ | refine blk_alloc ?_ _)); refine blk_put (cs := #[.int .i8 a2_0, .int .i8 0, .int .i8 0, .int .i8 0, .int .i8 0, .int .i8 0]) ?_ 1 _ rfl; (with_reducible repeat (first | refine blk_drewN ?_ _ | refine blk_drew ?_ | refine blk_alloc ?_ _)); refine blk_put (cs := #[.int .i8 0, .int .i8 0, .int .i8 0, .int .i8 0, .int .i8 0, .int .i8 0]) ?_ 0 _ rfl; (with_reducible repeat (first | refine blk_drewN ?_ _ | refine blk_drew ?_ | refine blk_alloc ?_ _)); exact BK199.out) Try.underlying44 rfl (by kernel_rfl)) rfl ?_
      exact ⟨by first | rfl | (simp [errW_none, errW_some] <;> rfl) | (simp [*, errW_none, errW_some] <;> rfl), by repeat (first | (with_reducible first | exact HB.out | apply below_alloc | apply pw_below_drewN | apply below_drew1 | refine below_set ?_ GE195.out | refine below_set ?_ GE196.out | refine below_set ?_ GE197.out | refine below_set ?_ GE198.out | refine below_set ?_ GE199.out | refine below_set ?_ GE209.out) | exact HB.out)⟩
    ·rw [if_neg c25] at H
     exact absurd H (by simp)
   ·rw [if_neg c24] at H
    exact absurd H (by simp)
  ·rw [if_neg c23] at H
   exact absurd H (by simp)
end Go.Proofs.Ytmhmfhdmeedcfaa.G
end
