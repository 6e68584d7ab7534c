/- FnExactAgroundAt returns true, whatever the input, and leaves its arguments as they were. -/
import Derived.Test.YtmhmfhdmeedcfaaProg
import Derived.Below
import Derived.Deep.Draws
import Derived.Deep.AppendLies
import Derived.Maps.AppendAt
import Derived.OwnWalk
import Derived.Laws.BytesArg
import Derived.Laws.MakeOwn
import Derived.Laws.OwnMore
import Derived.Deep.OwnRows
import Derived.Tactics
import Derived.Lib.ConvBytes
import Derived.Laws.Slices
import Derived.WalkKit
import Derived.KernelRfl
import Derived.RowKit3
import Derived.Deep.LoopGhost
import Derived.Deep.QuietTactic
import Derived.BigQuiet
import Derived.WideLaws
import Derived.Deep.DeepCutAuto
import Derived.Deep.CutBlock
import Derived.Deep.RegionHeld3
import Derived.Laws.Rows
import Derived.Lib.AppendStr
import Derived.ArgAppend
import Derived.Laws.IdiomCopy
import Derived.OrdersHeld
import Derived.Laws.BitsLemmas
import Derived.RowKit
import Derived.Laws.StructEq
import Derived.Deep.Slices
import Derived.ChangeSame
import Derived.ChangeArms
import Derived.OpenShut
import Derived.ProofKit
import Derived.Laws.Tables
import Derived.Lib.Hide
import Derived.Laws.CopyOwn
import Derived.Laws.CopyRow
import Derived.Test.YtmhmfhdmeedcfaaRows
import Derived.ShutString
import Derived.ChangeOld
import Derived.SizedLaws
import Derived.Test.YtmhmfhdmeedcfaaZFnExactAgroundAt1
import Derived.Test.YtmhmfhdmeedcfaaZFnExactAgroundAt2
import Derived.Test.YtmhmfhdmeedcfaaZFnExactAgroundAt3
import Derived.Test.YtmhmfhdmeedcfaaZFnExactAgroundAt4
import Derived.Test.YtmhmfhdmeedcfaaZFnExactAgroundAt5
import Derived.Test.YtmhmfhdmeedcfaaZFnExactAgroundAt6
section
namespace Go.Proofs.Ytmhmfhdmeedcfaa.G
open Go.RowKit Go.Proofs.YtmhmfhdmeedcfaaW.PrintWords Go.Proofs.YtmhmfhdmeedcfaaW.PrintLast Go.Proofs.YtmhmfhdmeedcfaaW.PrintMore
attribute [local go_sem] max2_int min2_int max_two min_two max_three min_three max_four min_four   -- for this text's walks alone
set_option linter.unusedVariables false
set_option linter.unusedSimpArgs false
def impl_firstHour_46.l0 : Nat → List (S78) → Int → Int → O38 → O40 → Int → Int → Int → Int → Int → Int → Bool → Option (Int × Int)
  | 0, _, _, _, _, _, _, _, _, _, _, _, _ => none
  | k + 1, x27, x28, x29, x503000, x504000, x507000, x507001, x507002, x507003, x507004, x507005, x507006 => if x29 < x28 then (if 0 ≤ x29 then (if x29 < (x27.length : Int) then ((impl_drifting_hour.f x507000 x507001 x507002 x507003 x507004 x507005 x507006 x503000 x504000 ((rd_T78 x27 x29).f0) ((rd_T78 x27 x29).f1)).bind fun bt509 => ((impl_AgroundAt_1.f bt509.2.1 bt509.2.2.1 bt509.2.2.2.1 bt509.2.2.2.2.1 bt509.2.2.2.2.2.1 bt509.2.2.2.2.2.2.1 bt509.2.2.2.2.2.2.2 bt509.1).bind fun bt517 => (if bt517.1 = true then (some (x29, 0)) else (impl_firstHour_46.l0 k x27 x28 (wrap64 (x29 + 1)) x503000 x504000 bt517.2.1 bt517.2.2.1 bt517.2.2.2.1 bt517.2.2.2.2.1 bt517.2.2.2.2.2.1 bt517.2.2.2.2.2.2.1 bt517.2.2.2.2.2.2.2)))) else (none)) else (none)) else (some (0, 6))
def impl_firstHour_46.f (k : Nat) (a0 : O38) (a1 : O40) (a2_0 : Int) (a2_1 : Int) (a2_2 : Int) (a2_3 : Int) (a2_4 : Int) (a2_5 : Int) (l3 : List (S78)) (a4 : Unit) : Option (Int × Int) := (impl_driftCode.f k a0 a1 a2_0 a2_1 a2_2 a2_3 a2_4 a2_5 l3).bind fun t505 => (if t505 = 0 then (impl_firstHour_46.l0 k l3 (l3.length : Int) 0 a0 a1 a2_0 a2_1 a2_2 a2_3 a2_4 a2_5 false) else (some (0, t505)))
set_option maxHeartbeats 8000000 in
set_option maxRecDepth 100000 in
theorem impl_firstHour_46.calls (k : Nat) (a0 : O38) (a1 : O40) (a2_0 : Int) (a2_1 : Int) (a2_2 : Int) (a2_3 : Int) (a2_4 : Int) (a2_5 : Int) (A3 : Option Addr) (c3 : Nat) (l3 : List (S78)) (a4 : Unit) (r1 : Int) (r2 : Int) (w : World) (hr3 : Kd.C k78 w A3 l3.length l3) (hc3 : l3.length ≤ c3) (h : impl_firstHour_46.f k a0 a1 a2_0 a2_1 a2_2 a2_3 a2_4 a2_5 l3 a4 = some (r1, r2)) :
    Calls Try.prog 44 #[VO38 a0, VO40 a1, .agg #[.int .i8 a2_0, .int .i8 a2_1, .int .i8 a2_2, .int .i8 a2_3, .int .i8 a2_4, .int .i8 a2_5], .slice A3 l3.length c3, .func (.func 46) #[] #[]] w fun e w' => e = .returned (.tuple #[.int .i64 r1, .int .i64 r2]) ∧ Below w.heap.size w w' := by
  have hu44 := Try.underlying44
  have hu89 := Try.underlying89
  have hu78 := Try.underlying78
  have HR3 := Aside0.mk hr3
  have HC3 := Aside0.mk hc3
  clear hr3 hc3
  have HB := Aside0.mk (Below.refl w.heap.size w)
  have H : ((impl_driftCode.f k a0 a1 a2_0 a2_1 a2_2 a2_3 a2_4 a2_5 l3).bind fun t505 => (if t505 = 0 then (impl_firstHour_46.l0 k l3 (l3.length : Int) 0 a0 a1 a2_0 a2_1 a2_2 a2_3 a2_4 a2_5 false) else (some (0, t505)))) = some (r1, r2) := h
  clear h
  replace H := Option.bind_eq_some_iff.mp H
  obtain ⟨t505, A60, H⟩ := H
  replace H : (if t505 = 0 then (impl_firstHour_46.l0 k l3 (l3.length : Int) 0 a0 a1 a2_0 a2_1 a2_2 a2_3 a2_4 a2_5 false) else (some (0, t505))) = some (r1, r2) := H
  have A6 := Aside0.mk A60
  clear A60
  by_cases c7 : t505 = 0
  · rw [if_pos c7] at H
    have c7b0 : (t505 == 0) = true := beq_iff_eq.mpr c7
    have c7b1 : (t505 != 0) = false := bne_eq_false_iff_eq.mpr c7
    clear c7
    have H' := Aside0.mk H
    clear H
    go_enter Try.func44, Try.ntmps44
    go_wp2_with (first | ((with_reducible refine gate_dst (N := 5) rfl ?_); refine box_event ?hg (N := 5) ?hd (cs := (a0).A) (t := 38) ?hr ?_; (case hd => rfl); (case hg => rfl); (case hr => first | exact AR.run_box_row rfl rfl | (go_simp; done) | (go_simp; rfl)); intro gb502 hg w8 hbox hb; have n0_ := Aside0.mk (sqH HB.out hb); have n1_ := Aside0.mk (hbox); have n2_ := Aside0.mk ((by rw [hg]; exact (below_size (by repeat (first | (with_reducible first | exact HB.out | apply below_alloc | apply pw_below_drewN | apply below_drew1) | exact HB.out))) : w.heap.size ≤ gb502)); have n3_ := n2_; clear HB; have HB := n0_; have BK502 := n1_; have GW502 := n2_; have GE502 := n3_; clear n0_ n1_ n2_ n3_; clear hb hbox hg) | ((with_reducible refine gate_dst (N := 6) rfl ?_); refine box_event ?hg (N := 6) ?hd (cs := (a1).A) (t := 40) ?hr ?_; (case hd => rfl); (case hg => rfl); (case hr => first | exact AR.run_box_row rfl rfl | (go_simp; done) | (go_simp; rfl)); intro gb503 hg w9 hbox hb; have n0_ := Aside0.mk (sqB BK502.out hb); have n1_ := Aside0.mk (sqH HB.out hb); have n2_ := Aside0.mk (hbox); have n3_ := Aside0.mk ((by rw [hg]; exact (below_size (by repeat (first | (with_reducible first | exact HB.out | apply below_alloc | apply pw_below_drewN | apply below_drew1 | refine below_set ?_ GE502.out) | exact HB.out))) : w.heap.size ≤ gb503)); have n4_ := n3_; have n5_ := Aside0.mk ((by rw [hg]; exact Nat.ne_of_lt (blk_lt (g := gb502) (o := .cells (a0).A 38 (0, 0)) (sqO BK502.out)) : gb502 ≠ gb503)); have n6_ := Aside0.mk (Ne.symm n5_.out); clear BK502; clear HB; have BK502 := n0_; have HB := n1_; have BK503 := n2_; have GW503 := n3_; have GE503 := n4_; have NB502_503 := n5_; have NB503_502 := n6_; clear n0_ n1_ n2_ n3_ n4_ n5_ n6_; clear hb hbox hg) | ((with_reducible refine gate_dst (N := 7) rfl ?_); refine box_event ?hg (N := 7) ?hd (cs := #[.int .i8 a2_0, .int .i8 a2_1, .int .i8 a2_2, .int .i8 a2_3, .int .i8 a2_4, .int .i8 a2_5]) (t := 44) ?hr ?_; (case hd => rfl); (case hg => rfl); (case hr => first | (go_simp; done) | (go_simp; rfl)); intro gb504 hg w10 hbox hb; have n0_ := Aside0.mk (sqB BK502.out hb); have n1_ := Aside0.mk (sqB BK503.out hb); have n2_ := Aside0.mk (sqH HB.out hb); have n3_ := Aside0.mk (hbox); have n4_ := Aside0.mk ((by rw [hg]; exact (below_size (by repeat (first | (with_reducible first | exact HB.out | apply below_alloc | apply pw_below_drewN | apply below_drew1 | refine below_set ?_ GE502.out | refine below_set ?_ GE503.out) | exact HB.out))) : w.heap.size ≤ gb504)); have n5_ := n4_; have n6_ := Aside0.mk ((by rw [hg]; exact Nat.ne_of_lt (blk_lt (g := gb502) (o := .cells (a0).A 38 (0, 0)) (sqO BK502.out)) : gb502 ≠ gb504)); have n7_ := Aside0.mk (Ne.symm n6_.out); have n8_ := Aside0.mk ((by rw [hg]; exact Nat.ne_of_lt (blk_lt (g := gb503) (o := .cells (a1).A 40 (0, 0)) (sqO BK503.out)) : gb503 ≠ gb504)); have n9_ := Aside0.mk (Ne.symm n8_.out); clear BK502; clear BK503; clear HB; have BK502 := n0_; have BK503 := n1_; have HB := n2_; have BK504 := n3_; have GW504 := n4_; have GE504 := n5_; have NB502_504 := n6_; have NB504_502 := n7_; have NB503_504 := n8_; have NB504_503 := n9_; clear n0_ n1_ n2_ n3_ n4_ n5_ n6_ n7_ n8_ n9_; clear hb hbox hg) | ((with_reducible refine gate_dst (N := 16) rfl ?_); (with_reducible refine AR.gate_load (t := 38) rfl ?_); (try refine gate_guard (by rfl) ?_); refine AR.wpList_load_blk rfl 38 _ rfl gb502 rfl (a0).A _ (sqO BK502.out) Try.underlying38 rfl (szO38 _) ?_) | ((with_reducible refine gate_dst (N := 17) rfl ?_); (with_reducible refine AR.gate_load (t := 40) rfl ?_); (try refine gate_guard (by rfl) ?_); refine AR.wpList_load_blk rfl 40 _ rfl gb503 rfl (a1).A _ (sqO BK503.out) Try.underlying40 rfl (szO40 _) ?_; have hnb11 := NB504_502.out; have hnc11 := NB502_504.out; have hnb12 := NB504_503.out; have hnc12 := NB503_504.out; obtain ⟨hcz13_0, hcz13_1, hcz13_2, hcz13_3, hcz13_4, hcz13_5⟩ := sqC BK504.out; have hfz13_0 := blk_frozen BK504.out 0; have hfz13_1 := blk_frozen BK504.out 1; have hfz13_2 := blk_frozen BK504.out 2; have hfz13_3 := blk_frozen BK504.out 3; have hfz13_4 := blk_frozen BK504.out 4; have hfz13_5 := blk_frozen BK504.out 5) | ((with_reducible refine gate_callee (f := 40) rfl ?_); refine goesL_ (some 20) rfl rfl Try.func40 (by kernel_rfl) rfl #[VO38 a0, VO40 a1, .agg #[.int .i8 a2_0, .int .i8 a2_1, .int .i8 a2_2, .int .i8 a2_3, .int .i8 a2_4, .int .i8 a2_5], .slice A3 l3.length c3] rfl (by (try simp only [List.map_toArray, List.map_cons, List.map_nil]); first | done | rfl | (simp only [List.length_drop, List.length_take]; rfl)) ?_; (with_reducible refine (impl_driftCode.calls k a0 a1 a2_0 a2_1 a2_2 a2_3 a2_4 a2_5 _ _ l3 t505 _ ?side1 ?side2 A6.out).mono ?_); (case side1 => repeat (first | exact (Kd.C_below HR3.out HB.out) | (with_reducible refine Kd.C_alloc ?_ _) | (with_reducible refine Kd.C_drewN ?_ _) | (with_reducible refine Kd.C_drew ?_))); (case side2 => exact HC3.out); rintro e w14 ⟨rfl, hb⟩; refine ⟨_, rfl, ?_⟩; have n0_ := Aside0.mk (sqB BK502.out hb); have n1_ := Aside0.mk (sqB BK503.out hb); have n2_ := Aside0.mk (sqB BK504.out hb); have n3_ := Aside0.mk (sqH HB.out hb); clear BK502; clear BK503; clear BK504; clear HB; have BK502 := n0_; have BK503 := n1_; have BK504 := n2_; have HB := n3_; clear n0_ n1_ n2_ n3_; (try clear hb); (try clear hb2); (try clear hk); (try clear hi); obtain ⟨hcz15_0, hcz15_1, hcz15_2, hcz15_3, hcz15_4, hcz15_5⟩ := sqC BK504.out; have hfz15_0 := blk_frozen BK504.out 0; have hfz15_1 := blk_frozen BK504.out 1; have hfz15_2 := blk_frozen BK504.out 2; have hfz15_3 := blk_frozen BK504.out 3; have hfz15_4 := blk_frozen BK504.out 4; have hfz15_5 := blk_frozen BK504.out 5) | ((with_reducible refine gate_dst (N := 26) rfl ?_); refine box_event ?hg (N := 26) ?hd (cs := #[.int .i8 a2_0, .int .i8 a2_1, .int .i8 a2_2, .int .i8 a2_3, .int .i8 a2_4, .int .i8 a2_5, .bool false]) (t := 89) ?hr ?_; (case hd => rfl); (case hg => rfl); (case hr => first | (go_simp; done) | (go_simp; rfl)); intro gb506 hg w16 hbox hb; have n0_ := Aside0.mk (sqB BK502.out hb); have n1_ := Aside0.mk (sqB BK503.out hb); have n2_ := Aside0.mk (sqB BK504.out hb); have n3_ := Aside0.mk (sqH HB.out hb); have n4_ := Aside0.mk ((⟨hbox, (by rw [hg]; exact (below_size (by repeat (first | (with_reducible first | exact HB.out | apply below_alloc | apply pw_below_drewN | apply below_drew1 | refine below_set ?_ GE502.out | refine below_set ?_ GE503.out | refine below_set ?_ GE504.out) | exact HB.out))))⟩ : IsS89 w w16 gb506 a2_0 a2_1 a2_2 a2_3 a2_4 a2_5 false)); have n5_ := Aside0.mk ((by rw [hg]; exact (below_size (by repeat (first | (with_reducible first | exact HB.out | apply below_alloc | apply pw_below_drewN | apply below_drew1 | refine below_set ?_ GE502.out | refine below_set ?_ GE503.out | refine below_set ?_ GE504.out) | exact HB.out))) : w.heap.size ≤ gb506)); have n6_ := n5_; have n7_ := Aside0.mk ((by rw [hg]; exact Nat.ne_of_lt (blk_lt (g := gb502) (o := .cells (a0).A 38 (0, 0)) (sqO BK502.out)) : gb502 ≠ gb506)); have n8_ := Aside0.mk (Ne.symm n7_.out); have n9_ := Aside0.mk ((by rw [hg]; exact Nat.ne_of_lt (blk_lt (g := gb503) (o := .cells (a1).A 40 (0, 0)) (sqO BK503.out)) : gb503 ≠ gb506)); have n10_ := Aside0.mk (Ne.symm n9_.out); have n11_ := Aside0.mk ((by rw [hg]; exact Nat.ne_of_lt (blk_lt (g := gb504) (o := .cells #[.int .i8 a2_0, .int .i8 a2_1, .int .i8 a2_2, .int .i8 a2_3, .int .i8 a2_4, .int .i8 a2_5] 44 (0, 0)) (sqO BK504.out)) : gb504 ≠ gb506)); have n12_ := Aside0.mk (Ne.symm n11_.out); clear BK502; clear BK503; clear BK504; clear HB; have BK502 := n0_; have BK503 := n1_; have BK504 := n2_; have HB := n3_; have HI506 := n4_; have GW506 := n5_; have GE506 := n6_; have NB502_506 := n7_; have NB506_502 := n8_; have NB503_506 := n9_; have NB506_503 := n10_; have NB504_506 := n11_; have NB506_504 := n12_; clear n0_ n1_ n2_ n3_ n4_ n5_ n6_ n7_ n8_ n9_ n10_ n11_ n12_; clear hb hbox hg))
    go_loopg [29] k (fun kq v29 w' => ∃ (x29_1 : Int) (x507000_1 : Int) (x507001_1 : Int) (x507002_1 : Int) (x507003_1 : Int) (x507004_1 : Int) (x507005_1 : Int) (x507006_1 : Bool), v29 = .int .i64 x29_1 ∧ Aside0 (impl_firstHour_46.l0 kq l3 (l3.length : Int) x29_1 a0 a1 x507000_1 x507001_1 x507002_1 x507003_1 x507004_1 x507005_1 x507006_1 = some (r1, r2)) ∧ Aside0 (kq ≤ k) ∧ Aside0 (w'.heap[gb502]? = some (.cells (a0).A 38 (0, 0))) ∧ Aside0 (w'.heap[gb503]? = some (.cells (a1).A 40 (0, 0))) ∧ Aside0 (w'.heap[gb504]? = some (.cells #[.int .i8 a2_0, .int .i8 a2_1, .int .i8 a2_2, .int .i8 a2_3, .int .i8 a2_4, .int .i8 a2_5] 44 (0, 0))) ∧ Aside0 (IsS89 w w' gb506 x507000_1 x507001_1 x507002_1 x507003_1 x507004_1 x507005_1 x507006_1) ∧ Aside0 (Below w.heap.size w w'))
    case atStart => exact ⟨(0), (a2_0), (a2_1), (a2_2), (a2_3), (a2_4), (a2_5), (false), (by first | rfl | (simp; done) | (simp [*]; done)), H', ⟨Nat.le_refl _⟩, ⟨by (with_reducible repeat (first | refine blk_drewN ?_ _ | refine blk_drew ?_ | refine blk_alloc ?_ _)); exact BK502.out⟩, ⟨by (with_reducible repeat (first | refine blk_drewN ?_ _ | refine blk_drew ?_ | refine blk_alloc ?_ _)); exact BK503.out⟩, ⟨by (with_reducible repeat (first | refine blk_drewN ?_ _ | refine blk_drew ?_ | refine blk_alloc ?_ _)); exact BK504.out⟩, ⟨by repeat (first | (with_reducible first | exact HI506.out | apply IsS89.alloc | apply IsS89.drewN | apply IsS89.drew | apply IsS89.set_0 | apply IsS89.set_1 | apply IsS89.set_2 | apply IsS89.set_3 | apply IsS89.set_4 | apply IsS89.set_5 | apply IsS89.set_6 | refine IsS89.far ?_ NB506_502.out _ | refine IsS89.far ?_ NB506_503.out _ | refine IsS89.far ?_ NB506_504.out _) | exact HI506.out)⟩, ⟨by repeat (first | (with_reducible first | exact HB.out | apply below_alloc | apply pw_below_drewN | apply below_drew1 | refine below_set ?_ (IsS89.ge HI506.out) | refine below_set ?_ GE502.out | refine below_set ?_ GE503.out | refine below_set ?_ GE504.out) | exact HB.out)⟩⟩
    case round =>
      clear H'
      try clear c1
      try clear p2
      try clear c3
      try clear c4
      try clear c7
      try clear c7b0
      try clear c7b1
      try clear c11
      try clear c12
      try clear hcz13_0
      try clear hcz13_1
      try clear hcz13_2
      try clear hcz13_3
      try clear hcz13_4
      try clear hcz13_5
      try clear hcz15_0
      try clear hcz15_1
      try clear hcz15_2
      try clear hcz15_3
      try clear hcz15_4
      try clear hcz15_5
      try clear hfz13_0
      try clear hfz13_1
      try clear hfz13_2
      try clear hfz13_3
      try clear hfz13_4
      try clear hfz13_5
      try clear hfz15_0
      try clear hfz15_1
      try clear hfz15_2
      try clear hfz15_3
      try clear hfz15_4
      try clear hfz15_5
      obtain ⟨x29_1, x507000_1, x507001_1, x507002_1, x507003_1, x507004_1, x507005_1, x507006_1, rfl, HA, HK1, BK502, BK503, BK504, HI506, HB⟩ := hrel
      cases gk with
      | zero => exact absurd HA.out (by simp [impl_firstHour_46.l0])
      | succ k1 =>
        have H := HA.out
        clear HA
        simp only [impl_firstHour_46.l0] at H
        by_cases c17 : x29_1 < (l3.length : Int)
        · rw [if_pos c17] at H
          have c17b0 : decide (x29_1 < (l3.length : Int)) = true := decide_eq_true c17
          clear c17
          by_cases c18 : 0 ≤ x29_1
          · rw [if_pos c18] at H
            have c18b0 : decide (0 ≤ x29_1) = true := decide_eq_true c18
            clear c18
            by_cases c19 : x29_1 < (l3.length : Int)
            · rw [if_pos c19] at H
              have c19b0 : decide (x29_1 < (l3.length : Int)) = true := decide_eq_true c19
              clear c19
              replace H := Option.bind_eq_some_iff.mp H
              obtain ⟨⟨t509, t510, t511, t512, t513, t514, t515, t516⟩, A200, H⟩ := H
              replace H : ((impl_AgroundAt_1.f t510 t511 t512 t513 t514 t515 t516 t509).bind fun bt517 => (if bt517.1 = true then (some (x29_1, 0)) else (impl_firstHour_46.l0 k1 l3 (l3.length : Int) (wrap64 (x29_1 + 1)) a0 a1 bt517.2.1 bt517.2.2.1 bt517.2.2.2.1 bt517.2.2.2.2.1 bt517.2.2.2.2.2.1 bt517.2.2.2.2.2.2.1 bt517.2.2.2.2.2.2.2))) = some (r1, r2) := H
              have A20 := Aside0.mk A200
              clear A200
              replace H := Option.bind_eq_some_iff.mp H
              obtain ⟨⟨t517, t518, t519, t520, t521, t522, t523, t524⟩, A210, H⟩ := H
              replace H : (if t517 = true then (some (x29_1, 0)) else (impl_firstHour_46.l0 k1 l3 (l3.length : Int) (wrap64 (x29_1 + 1)) a0 a1 t518 t519 t520 t521 t522 t523 t524)) = some (r1, r2) := H
              have A21 := Aside0.mk A210
              clear A210
              by_cases c22 : t517 = true
              · subst c22
                have H1 : (some (x29_1, 0)) = some (r1, r2) := by rw [if_pos rfl] at H; exact H
                clear H
                have H := H1
                clear H1
                simp only [Option.some.injEq, Prod.mk.injEq] at H
                obtain ⟨rfl, rfl⟩ := H
                have p507 : 0 ≤ (x29_1 : Int) := of_decide_eq_true (by first | (with_reducible assumption) | assumption)
                have q507 : x29_1 < (l3.length : Int) := of_decide_eq_true (by first | (with_reducible assumption) | assumption)
                obtain ⟨ad507, e507, hx507_0, hx507_1⟩ := at_T78 HR3.out x29_1 p507 q507
                cases e507
                replace hx507_0 := (HB.out.cell (World.block_lt_of_cell? w _ hx507_0)).trans hx507_0
                replace hx507_1 := (HB.out.cell (World.block_lt_of_cell? w _ hx507_1)).trans hx507_1
                replace p507 := eq_true p507
                replace q507 := eq_true q507
                go_wp2_with (first | ((with_reducible refine gate_dst (N := 15) rfl ?_); refine box_event ?hg (N := 15) ?hd (cs := #[.int .i8 0, .int .i8 0]) (t := 78) ?hr ?_; (case hd => rfl); (case hg => rfl); (case hr => first | (go_simp; done) | (go_simp; rfl)); intro gb508 hg w23 hbox hb; have n0_ := Aside0.mk (sqB BK502.out hb); have n1_ := Aside0.mk (sqB BK503.out hb); have n2_ := Aside0.mk (sqB BK504.out hb); have n3_ := Aside0.mk (IsS89.below (by repeat (first | (with_reducible first | exact HI506.out | apply IsS89.alloc | apply IsS89.drewN | apply IsS89.drew | apply IsS89.set_0 | apply IsS89.set_1 | apply IsS89.set_2 | apply IsS89.set_3 | apply IsS89.set_4 | apply IsS89.set_5 | apply IsS89.set_6 | refine IsS89.far ?_ NB506_502.out _ | refine IsS89.far ?_ NB506_503.out _ | refine IsS89.far ?_ NB506_504.out _) | exact HI506.out)) hb); have n4_ := Aside0.mk (below_step (by repeat (first | (with_reducible first | exact HB.out | apply below_alloc | apply pw_below_drewN | apply below_drew1 | refine below_set ?_ (IsS89.ge HI506.out) | refine below_set ?_ GE502.out | refine below_set ?_ GE503.out | refine below_set ?_ GE504.out) | exact HB.out)) hb); have n5_ := Aside0.mk (hbox); have n6_ := Aside0.mk ((by rw [hg]; exact (below_size (by repeat (first | (with_reducible first | exact HB.out | apply below_alloc | apply pw_below_drewN | apply below_drew1 | refine below_set ?_ (IsS89.ge HI506.out) | refine below_set ?_ GE502.out | refine below_set ?_ GE503.out | refine below_set ?_ GE504.out) | exact HB.out))) : w.heap.size ≤ gb508)); have n7_ := n6_; have n8_ := Aside0.mk ((by rw [hg]; exact Nat.ne_of_lt (blk_lt (g := gb502) (o := .cells (a0).A 38 (0, 0)) (sqO BK502.out)) : gb502 ≠ gb508)); have n9_ := Aside0.mk (Ne.symm n8_.out); have n10_ := Aside0.mk ((by rw [hg]; exact Nat.ne_of_lt (blk_lt (g := gb503) (o := .cells (a1).A 40 (0, 0)) (sqO BK503.out)) : gb503 ≠ gb508)); have n11_ := Aside0.mk (Ne.symm n10_.out); have n12_ := Aside0.mk ((by rw [hg]; exact Nat.ne_of_lt (blk_lt (g := gb504) (o := .cells #[.int .i8 a2_0, .int .i8 a2_1, .int .i8 a2_2, .int .i8 a2_3, .int .i8 a2_4, .int .i8 a2_5] 44 (0, 0)) (sqO BK504.out)) : gb504 ≠ gb508)); have n13_ := Aside0.mk (Ne.symm n12_.out); have n14_ := Aside0.mk ((by rw [hg]; exact Nat.ne_of_lt (IsS89.lt (show IsS89 w _ gb506 x507000_1 x507001_1 x507002_1 x507003_1 x507004_1 x507005_1 x507006_1 from by repeat (first | (with_reducible first | exact HI506.out | apply IsS89.alloc | apply IsS89.drewN | apply IsS89.drew | apply IsS89.set_0 | apply IsS89.set_1 | apply IsS89.set_2 | apply IsS89.set_3 | apply IsS89.set_4 | apply IsS89.set_5 | apply IsS89.set_6 | refine IsS89.far ?_ NB506_502.out _ | refine IsS89.far ?_ NB506_503.out _ | refine IsS89.far ?_ NB506_504.out _) | exact HI506.out))) : gb506 ≠ gb508)); have n15_ := Aside0.mk ((by rw [hg]; exact Nat.ne_of_gt (IsS89.lt (show IsS89 w _ gb506 x507000_1 x507001_1 x507002_1 x507003_1 x507004_1 x507005_1 x507006_1 from by repeat (first | (with_reducible first | exact HI506.out | apply IsS89.alloc | apply IsS89.drewN | apply IsS89.drew | apply IsS89.set_0 | apply IsS89.set_1 | apply IsS89.set_2 | apply IsS89.set_3 | apply IsS89.set_4 | apply IsS89.set_5 | apply IsS89.set_6 | refine IsS89.far ?_ NB506_502.out _ | refine IsS89.far ?_ NB506_503.out _ | refine IsS89.far ?_ NB506_504.out _) | exact HI506.out))) : gb508 ≠ gb506)); clear BK502; clear BK503; clear BK504; clear HI506; clear HB; have BK502 := n0_; have BK503 := n1_; have BK504 := n2_; have HI506 := n3_; have HB := n4_; have BK508 := n5_; have GW508 := n6_; have GE508 := n7_; have NB502_508 := n8_; have NB508_502 := n9_; have NB503_508 := n10_; have NB508_503 := n11_; have NB504_508 := n12_; have NB508_504 := n13_; have NB506_508 := n14_; have NB508_506 := n15_; clear n0_ n1_ n2_ n3_ n4_ n5_ n6_ n7_ n8_ n9_ n10_ n11_ n12_ n13_ n14_ n15_; clear hb hbox hg; have hnb24 := NB508_502.out; have hnc24 := NB502_508.out; have hnb25 := NB508_503.out; have hnc25 := NB503_508.out; have hnb26 := NB508_504.out; have hnc26 := NB504_508.out; have hnb27 := NB508_506.out; have hnc27 := NB506_508.out; have hcz28_0 : w23.cell? ⟨gb508, 0, none⟩ = some (.int .i8 0) := (blk_cell BK508.out 0).trans rfl; have hcz28_1 : w23.cell? ⟨gb508, 1, none⟩ = some (.int .i8 0) := (blk_cell BK508.out 1).trans rfl; have hfz28_0 := blk_frozen BK508.out 0; have hfz28_1 := blk_frozen BK508.out 1) | ((with_reducible refine gate_dst (N := 37) rfl ?_); (with_reducible refine AR.gate_load (t := 38) rfl ?_); (try refine gate_guard (by rfl) ?_); refine AR.wpList_load_blk rfl 38 _ rfl gb502 rfl (a0).A _ (by (with_reducible repeat (first | refine blk_drewN ?_ _ | refine blk_drew ?_ | refine blk_alloc ?_ _)); refine blk_far ?_ NB502_508.out _; (with_reducible repeat (first | refine blk_drewN ?_ _ | refine blk_drew ?_ | refine blk_alloc ?_ _)); refine blk_far ?_ NB502_508.out _; (with_reducible repeat (first | refine blk_drewN ?_ _ | refine blk_drew ?_ | refine blk_alloc ?_ _)); exact BK502.out) Try.underlying38 rfl (szO38 _) ?_) | ((with_reducible refine gate_dst (N := 38) rfl ?_); (with_reducible refine AR.gate_load (t := 40) rfl ?_); (try refine gate_guard (by rfl) ?_); refine AR.wpList_load_blk rfl 40 _ rfl gb503 rfl (a1).A _ (by (with_reducible repeat (first | refine blk_drewN ?_ _ | refine blk_drew ?_ | refine blk_alloc ?_ _)); refine blk_far ?_ NB503_508.out _; (with_reducible repeat (first | refine blk_drewN ?_ _ | refine blk_drew ?_ | refine blk_alloc ?_ _)); refine blk_far ?_ NB503_508.out _; (with_reducible repeat (first | refine blk_drewN ?_ _ | refine blk_drew ?_ | refine blk_alloc ?_ _)); exact BK503.out) Try.underlying40 rfl (szO40 _) ?_) | ((with_reducible refine gate_callee (f := 58) rfl ?_); refine goesL_ (some 40) rfl rfl Try.func58 (by kernel_rfl) rfl #[.pointer (some ⟨gb506, 0, none⟩), VO38 a0, VO40 a1, .agg #[.int .i8 ((rd_T78 l3 x29_1).f0), .int .i8 ((rd_T78 l3 x29_1).f1)]] rfl (by (try simp only [List.map_toArray, List.map_cons, List.map_nil]); first | done | rfl | (simp only [List.length_drop, List.length_take]; rfl)) ?_; (with_reducible refine (impl_drifting_hour.calls gb506 x507000_1 x507001_1 x507002_1 x507003_1 x507004_1 x507005_1 x507006_1 a0 a1 ((rd_T78 l3 x29_1).f0) ((rd_T78 l3 x29_1).f1) t509 t510 t511 t512 t513 t514 t515 t516 w _ ?side1 ?side2 A20.out).mono ?_); (case side1 => repeat (first | (with_reducible first | exact HI506.out | apply IsS89.alloc | apply IsS89.drewN | apply IsS89.drew | apply IsS89.set_0 | apply IsS89.set_1 | apply IsS89.set_2 | apply IsS89.set_3 | apply IsS89.set_4 | apply IsS89.set_5 | apply IsS89.set_6 | refine IsS89.far ?_ NB506_502.out _ | refine IsS89.far ?_ NB506_503.out _ | refine IsS89.far ?_ NB506_504.out _ | refine IsS89.far ?_ NB506_508.out _) | exact HI506.out)); (case side2 => repeat (first | (with_reducible first | exact HB.out | apply below_alloc | apply pw_below_drewN | apply below_drew1 | refine below_set ?_ (IsS89.ge HI506.out) | refine below_set ?_ GE502.out | refine below_set ?_ GE503.out | refine below_set ?_ GE504.out | refine below_set ?_ GE508.out) | exact HB.out)); rintro e w29 ⟨rfl, hi, hb, hk⟩; refine ⟨_, rfl, ?_⟩; have n0_ := Aside0.mk (KeepBut.blk hk (g' := gb502) (o := .cells (a0).A 38 (0, 0)) (by (with_reducible repeat (first | refine blk_drewN ?_ _ | refine blk_drew ?_ | refine blk_alloc ?_ _)); refine blk_far ?_ NB502_508.out _; (with_reducible repeat (first | refine blk_drewN ?_ _ | refine blk_drew ?_ | refine blk_alloc ?_ _)); refine blk_far ?_ NB502_508.out _; (with_reducible repeat (first | refine blk_drewN ?_ _ | refine blk_drew ?_ | refine blk_alloc ?_ _)); exact BK502.out) NB502_506.out (by simp)); have n1_ := Aside0.mk (KeepBut.blk hk (g' := gb503) (o := .cells (a1).A 40 (0, 0)) (by (with_reducible repeat (first | refine blk_drewN ?_ _ | refine blk_drew ?_ | refine blk_alloc ?_ _)); refine blk_far ?_ NB503_508.out _; (with_reducible repeat (first | refine blk_drewN ?_ _ | refine blk_drew ?_ | refine blk_alloc ?_ _)); refine blk_far ?_ NB503_508.out _; (with_reducible repeat (first | refine blk_drewN ?_ _ | refine blk_drew ?_ | refine blk_alloc ?_ _)); exact BK503.out) NB503_506.out (by simp)); have n2_ := Aside0.mk (KeepBut.blk hk (g' := gb504) (o := .cells #[.int .i8 a2_0, .int .i8 a2_1, .int .i8 a2_2, .int .i8 a2_3, .int .i8 a2_4, .int .i8 a2_5] 44 (0, 0)) (by (with_reducible repeat (first | refine blk_drewN ?_ _ | refine blk_drew ?_ | refine blk_alloc ?_ _)); refine blk_far ?_ NB504_508.out _; (with_reducible repeat (first | refine blk_drewN ?_ _ | refine blk_drew ?_ | refine blk_alloc ?_ _)); refine blk_far ?_ NB504_508.out _; (with_reducible repeat (first | refine blk_drewN ?_ _ | refine blk_drew ?_ | refine blk_alloc ?_ _)); exact BK504.out) NB504_506.out (by simp)); have n3_ := Aside0.mk (KeepBut.blk hk (g' := gb508) (o := .cells #[.int .i8 ((rd_T78 l3 x29_1).f0), .int .i8 ((rd_T78 l3 x29_1).f1)] 78 (0, 0)) (by (with_reducible repeat (first | refine blk_drewN ?_ _ | refine blk_drew ?_ | refine blk_alloc ?_ _)); refine blk_put (cs := #[.int .i8 ((rd_T78 l3 x29_1).f0), .int .i8 0]) ?_ 1 _ rfl; (with_reducible repeat (first | refine blk_drewN ?_ _ | refine blk_drew ?_ | refine blk_alloc ?_ _)); refine blk_put (cs := #[.int .i8 0, .int .i8 0]) ?_ 0 _ rfl; (with_reducible repeat (first | refine blk_drewN ?_ _ | refine blk_drew ?_ | refine blk_alloc ?_ _)); exact BK508.out) NB508_506.out (by simp)); have n4_ := Aside0.mk (hb); have n5_ := Aside0.mk (hi); clear BK502; clear BK503; clear BK504; clear BK508; clear HB; clear HI506; have BK502 := n0_; have BK503 := n1_; have BK504 := n2_; have BK508 := n3_; have HB := n4_; have HI506 := n5_; clear n0_ n1_ n2_ n3_ n4_ n5_; (try clear hb); (try clear hb2); (try clear hk); (try clear hi)) | (go_at_call 46; (with_reducible refine (impl_AgroundAt_1.calls gb506 t510 t511 t512 t513 t514 t515 t516 t509 true t518 t519 t520 t521 t522 t523 t524 w _ ?side1 ?side2 A21.out).mono ?_); (case side1 => repeat (first | (with_reducible first | exact HI506.out | apply IsS89.alloc | apply IsS89.drewN | apply IsS89.drew | apply IsS89.set_0 | apply IsS89.set_1 | apply IsS89.set_2 | apply IsS89.set_3 | apply IsS89.set_4 | apply IsS89.set_5 | apply IsS89.set_6 | refine IsS89.far ?_ NB506_502.out _ | refine IsS89.far ?_ NB506_503.out _ | refine IsS89.far ?_ NB506_504.out _ | refine IsS89.far ?_ NB506_508.out _) | exact HI506.out)); (case side2 => repeat (first | (with_reducible first | exact HB.out | apply below_alloc | apply pw_below_drewN | apply below_drew1 | refine below_set ?_ (IsS89.ge HI506.out) | refine below_set ?_ GE502.out | refine below_set ?_ GE503.out | refine below_set ?_ GE504.out | refine below_set ?_ GE508.out) | exact HB.out)); rintro e w30 ⟨rfl, hi, hb, hk⟩; have n0_ := Aside0.mk (KeepBut.blk hk (g' := gb502) (o := .cells (a0).A 38 (0, 0)) (sqO BK502.out) NB502_506.out (by simp)); have n1_ := Aside0.mk (KeepBut.blk hk (g' := gb503) (o := .cells (a1).A 40 (0, 0)) (sqO BK503.out) NB503_506.out (by simp)); have n2_ := Aside0.mk (KeepBut.blk hk (g' := gb504) (o := .cells #[.int .i8 a2_0, .int .i8 a2_1, .int .i8 a2_2, .int .i8 a2_3, .int .i8 a2_4, .int .i8 a2_5] 44 (0, 0)) (sqO BK504.out) NB504_506.out (by simp)); have n3_ := Aside0.mk (KeepBut.blk hk (g' := gb508) (o := .cells #[.int .i8 ((rd_T78 l3 x29_1).f0), .int .i8 ((rd_T78 l3 x29_1).f1)] 78 (0, 0)) (sqO BK508.out) NB508_506.out (by simp)); have n4_ := Aside0.mk (hb); have n5_ := Aside0.mk (hi); clear BK502; clear BK503; clear BK504; clear BK508; clear HB; clear HI506; have BK502 := n0_; have BK503 := n1_; have BK504 := n2_; have BK508 := n3_; have HB := n4_; have HI506 := n5_; clear n0_ n1_ n2_ n3_ n4_ n5_; (try clear hb); (try clear hb2); (try clear hk); (try clear hi)))
                go_ret2
                exact ⟨by first | rfl | (simp [errW_none, errW_some] <;> rfl) | (simp [*, errW_none, errW_some] <;> rfl), by repeat (first | (with_reducible first | exact HB.out | apply below_alloc | apply pw_below_drewN | apply below_drew1 | refine below_set ?_ (IsS89.ge HI506.out) | refine below_set ?_ GE502.out | refine below_set ?_ GE503.out | refine below_set ?_ GE504.out | refine below_set ?_ GE508.out) | exact HB.out)⟩
              · replace c22 := Bool.eq_false_iff.mpr c22
                subst c22
                have H1 : (impl_firstHour_46.l0 k1 l3 (l3.length : Int) (wrap64 (x29_1 + 1)) a0 a1 t518 t519 t520 t521 t522 t523 t524) = some (r1, r2) := by rw [if_neg (show ¬ (false = true) by decide)] at H; exact H
                clear H
                have H := H1
                clear H1
                have H' := Aside0.mk H
                clear H
                have p507 : 0 ≤ (x29_1 : Int) := of_decide_eq_true (by first | (with_reducible assumption) | assumption)
                have q507 : x29_1 < (l3.length : Int) := of_decide_eq_true (by first | (with_reducible assumption) | assumption)
                obtain ⟨ad507, e507, hx507_0, hx507_1⟩ := at_T78 HR3.out x29_1 p507 q507
                cases e507
                replace hx507_0 := (HB.out.cell (World.block_lt_of_cell? w _ hx507_0)).trans hx507_0
                replace hx507_1 := (HB.out.cell (World.block_lt_of_cell? w _ hx507_1)).trans hx507_1
                replace p507 := eq_true p507
                replace q507 := eq_true q507
                go_wp2_with (first | ((with_reducible refine gate_dst (N := 15) rfl ?_); refine box_event ?hg (N := 15) ?hd (cs := #[.int .i8 0, .int .i8 0]) (t := 78) ?hr ?_; (case hd => rfl); (case hg => rfl); (case hr => first | (go_simp; done) | (go_simp; rfl)); intro gb508 hg w31 hbox hb; have n0_ := Aside0.mk (sqB BK502.out hb); have n1_ := Aside0.mk (sqB BK503.out hb); have n2_ := Aside0.mk (sqB BK504.out hb); have n3_ := Aside0.mk (IsS89.below (by repeat (first | (with_reducible first | exact HI506.out | apply IsS89.alloc | apply IsS89.drewN | apply IsS89.drew | apply IsS89.set_0 | apply IsS89.set_1 | apply IsS89.set_2 | apply IsS89.set_3 | apply IsS89.set_4 | apply IsS89.set_5 | apply IsS89.set_6 | refine IsS89.far ?_ NB506_502.out _ | refine IsS89.far ?_ NB506_503.out _ | refine IsS89.far ?_ NB506_504.out _) | exact HI506.out)) hb); have n4_ := Aside0.mk (below_step (by repeat (first | (with_reducible first | exact HB.out | apply below_alloc | apply pw_below_drewN | apply below_drew1 | refine below_set ?_ (IsS89.ge HI506.out) | refine below_set ?_ GE502.out | refine below_set ?_ GE503.out | refine below_set ?_ GE504.out) | exact HB.out)) hb); have n5_ := Aside0.mk (hbox); have n6_ := Aside0.mk ((by rw [hg]; exact (below_size (by repeat (first | (with_reducible first | exact HB.out | apply below_alloc | apply pw_below_drewN | apply below_drew1 | refine below_set ?_ (IsS89.ge HI506.out) | refine below_set ?_ GE502.out | refine below_set ?_ GE503.out | refine below_set ?_ GE504.out) | exact HB.out))) : w.heap.size ≤ gb508)); have n7_ := n6_; have n8_ := Aside0.mk ((by rw [hg]; exact Nat.ne_of_lt (blk_lt (g := gb502) (o := .cells (a0).A 38 (0, 0)) (sqO BK502.out)) : gb502 ≠ gb508)); have n9_ := Aside0.mk (Ne.symm n8_.out); have n10_ := Aside0.mk ((by rw [hg]; exact Nat.ne_of_lt (blk_lt (g := gb503) (o := .cells (a1).A 40 (0, 0)) (sqO BK503.out)) : gb503 ≠ gb508)); have n11_ := Aside0.mk (Ne.symm n10_.out); have n12_ := Aside0.mk ((by rw [hg]; exact Nat.ne_of_lt (blk_lt (g := gb504) (o := .cells #[.int .i8 a2_0, .int .i8 a2_1, .int .i8 a2_2, .int .i8 a2_3, .int .i8 a2_4, .int .i8 a2_5] 44 (0, 0)) (sqO BK504.out)) : gb504 ≠ gb508)); have n13_ := Aside0.mk (Ne.symm n12_.out); have n14_ := Aside0.mk ((by rw [hg]; exact Nat.ne_of_lt (IsS89.lt (show IsS89 w _ gb506 x507000_1 x507001_1 x507002_1 x507003_1 x507004_1 x507005_1 x507006_1 from by repeat (first | (with_reducible first | exact HI506.out | apply IsS89.alloc | apply IsS89.drewN | apply IsS89.drew | apply IsS89.set_0 | apply IsS89.set_1 | apply IsS89.set_2 | apply IsS89.set_3 | apply IsS89.set_4 | apply IsS89.set_5 | apply IsS89.set_6 | refine IsS89.far ?_ NB506_502.out _ | refine IsS89.far ?_ NB506_503.out _ | refine IsS89.far ?_ NB506_504.out _) | exact HI506.out))) : gb506 ≠ gb508)); have n15_ := Aside0.mk ((by rw [hg]; exact Nat.ne_of_gt (IsS89.lt (show IsS89 w _ gb506 x507000_1 x507001_1 x507002_1 x507003_1 x507004_1 x507005_1 x507006_1 from by repeat (first | (with_reducible first | exact HI506.out | apply IsS89.alloc | apply IsS89.drewN | apply IsS89.drew | apply IsS89.set_0 | apply IsS89.set_1 | apply IsS89.set_2 | apply IsS89.set_3 | apply IsS89.set_4 | apply IsS89.set_5 | apply IsS89.set_6 | refine IsS89.far ?_ NB506_502.out _ | refine IsS89.far ?_ NB506_503.out _ | refine IsS89.far ?_ NB506_504.out _) | exact HI506.out))) : gb508 ≠ gb506)); clear BK502; clear BK503; clear BK504; clear HI506; clear HB; have BK502 := n0_; have BK503 := n1_; have BK504 := n2_; have HI506 := n3_; have HB := n4_; have BK508 := n5_; have GW508 := n6_; have GE508 := n7_; have NB502_508 := n8_; have NB508_502 := n9_; have NB503_508 := n10_; have NB508_503 := n11_; have NB504_508 := n12_; have NB508_504 := n13_; have NB506_508 := n14_; have NB508_506 := n15_; clear n0_ n1_ n2_ n3_ n4_ n5_ n6_ n7_ n8_ n9_ n10_ n11_ n12_ n13_ n14_ n15_; clear hb hbox hg; have hnb32 := NB508_502.out; have hnc32 := NB502_508.out; have hnb33 := NB508_503.out; have hnc33 := NB503_508.out; have hnb34 := NB508_504.out; have hnc34 := NB504_508.out; have hnb35 := NB508_506.out; have hnc35 := NB506_508.out; have hcz36_0 : w31.cell? ⟨gb508, 0, none⟩ = some (.int .i8 0) := (blk_cell BK508.out 0).trans rfl; have hcz36_1 : w31.cell? ⟨gb508, 1, none⟩ = some (.int .i8 0) := (blk_cell BK508.out 1).trans rfl; have hfz36_0 := blk_frozen BK508.out 0; have hfz36_1 := blk_frozen BK508.out 1) | ((with_reducible refine gate_dst (N := 37) rfl ?_); (with_reducible refine AR.gate_load (t := 38) rfl ?_); (try refine gate_guard (by rfl) ?_); refine AR.wpList_load_blk rfl 38 _ rfl gb502 rfl (a0).A _ (by (with_reducible repeat (first | refine blk_drewN ?_ _ | refine blk_drew ?_ | refine blk_alloc ?_ _)); refine blk_far ?_ NB502_508.out _; (with_reducible repeat (first | refine blk_drewN ?_ _ | refine blk_drew ?_ | refine blk_alloc ?_ _)); refine blk_far ?_ NB502_508.out _; (with_reducible repeat (first | refine blk_drewN ?_ _ | refine blk_drew ?_ | refine blk_alloc ?_ _)); exact BK502.out) Try.underlying38 rfl (szO38 _) ?_) | ((with_reducible refine gate_dst (N := 38) rfl ?_); (with_reducible refine AR.gate_load (t := 40) rfl ?_); (try refine gate_guard (by rfl) ?_); refine AR.wpList_load_blk rfl 40 _ rfl gb503 rfl (a1).A _ (by (with_reducible repeat (first | refine blk_drewN ?_ _ | refine blk_drew ?_ | refine blk_alloc ?_ _)); refine blk_far ?_ NB503_508.out _; (with_reducible repeat (first | refine blk_drewN ?_ _ | refine blk_drew ?_ | refine blk_alloc ?_ _)); refine blk_far ?_ NB503_508.out _; (with_reducible repeat (first | refine blk_drewN ?_ _ | refine blk_drew ?_ | refine blk_alloc ?_ _)); exact BK503.out) Try.underlying40 rfl (szO40 _) ?_) | ((with_reducible refine gate_callee (f := 58) rfl ?_); refine goesL_ (some 40) rfl rfl Try.func58 (by kernel_rfl) rfl #[.pointer (some ⟨gb506, 0, none⟩), VO38 a0, VO40 a1, .agg #[.int .i8 ((rd_T78 l3 x29_1).f0), .int .i8 ((rd_T78 l3 x29_1).f1)]] rfl (by (try simp only [List.map_toArray, List.map_cons, List.map_nil]); first | done | rfl | (simp only [List.length_drop, List.length_take]; rfl)) ?_; (with_reducible refine (impl_drifting_hour.calls gb506 x507000_1 x507001_1 x507002_1 x507003_1 x507004_1 x507005_1 x507006_1 a0 a1 ((rd_T78 l3 x29_1).f0) ((rd_T78 l3 x29_1).f1) t509 t510 t511 t512 t513 t514 t515 t516 w _ ?side1 ?side2 A20.out).mono ?_); (case side1 => repeat (first | (with_reducible first | exact HI506.out | apply IsS89.alloc | apply IsS89.drewN | apply IsS89.drew | apply IsS89.set_0 | apply IsS89.set_1 | apply IsS89.set_2 | apply IsS89.set_3 | apply IsS89.set_4 | apply IsS89.set_5 | apply IsS89.set_6 | refine IsS89.far ?_ NB506_502.out _ | refine IsS89.far ?_ NB506_503.out _ | refine IsS89.far ?_ NB506_504.out _ | refine IsS89.far ?_ NB506_508.out _) | exact HI506.out)); (case side2 => repeat (first | (with_reducible first | exact HB.out | apply below_alloc | apply pw_below_drewN | apply below_drew1 | refine below_set ?_ (IsS89.ge HI506.out) | refine below_set ?_ GE502.out | refine below_set ?_ GE503.out | refine below_set ?_ GE504.out | refine below_set ?_ GE508.out) | exact HB.out)); rintro e w37 ⟨rfl, hi, hb, hk⟩; refine ⟨_, rfl, ?_⟩; have n0_ := Aside0.mk (KeepBut.blk hk (g' := gb502) (o := .cells (a0).A 38 (0, 0)) (by (with_reducible repeat (first | refine blk_drewN ?_ _ | refine blk_drew ?_ | refine blk_alloc ?_ _)); refine blk_far ?_ NB502_508.out _; (with_reducible repeat (first | refine blk_drewN ?_ _ | refine blk_drew ?_ | refine blk_alloc ?_ _)); refine blk_far ?_ NB502_508.out _; (with_reducible repeat (first | refine blk_drewN ?_ _ | refine blk_drew ?_ | refine blk_alloc ?_ _)); exact BK502.out) NB502_506.out (by simp)); have n1_ := Aside0.mk (KeepBut.blk hk (g' := gb503) (o := .cells (a1).A 40 (0, 0)) (by (with_reducible repeat (first | refine blk_drewN ?_ _ | refine blk_drew ?_ | refine blk_alloc ?_ _)); refine blk_far ?_ NB503_508.out _; (with_reducible repeat (first | refine blk_drewN ?_ _ | refine blk_drew ?_ | refine blk_alloc ?_ _)); refine blk_far ?_ NB503_508.out _; (with_reducible repeat (first | refine blk_drewN ?_ _ | refine blk_drew ?_ | refine blk_alloc ?_ _)); exact BK503.out) NB503_506.out (by simp)); have n2_ := Aside0.mk (KeepBut.blk hk (g' := gb504) (o := .cells #[.int .i8 a2_0, .int .i8 a2_1, .int .i8 a2_2, .int .i8 a2_3, .int .i8 a2_4, .int .i8 a2_5] 44 (0, 0)) (by (with_reducible repeat (first | refine blk_drewN ?_ _ | refine blk_drew ?_ | refine blk_alloc ?_ _)); refine blk_far ?_ NB504_508.out _; (with_reducible repeat (first | refine blk_drewN ?_ _ | refine blk_drew ?_ | refine blk_alloc ?_ _)); refine blk_far ?_ NB504_508.out _; (with_reducible repeat (first | refine blk_drewN ?_ _ | refine blk_drew ?_ | refine blk_alloc ?_ _)); exact BK504.out) NB504_506.out (by simp)); have n3_ := Aside0.mk (KeepBut.blk hk (g' := gb508) (o := .cells #[.int .i8 ((rd_T78 l3 x29_1).f0), .int .i8 ((rd_T78 l3 x29_1).f1)] 78 (0, 0)) (by (with_reducible repeat (first | refine blk_drewN ?_ _ | refine blk_drew ?_ | refine blk_alloc ?_ _)); refine blk_put (cs := #[.int .i8 ((rd_T78 l3 x29_1).f0), .int .i8 0]) ?_ 1 _ rfl; (with_reducible repeat (first | refine blk_drewN ?_ _ | refine blk_drew ?_ | refine blk_alloc ?_ _)); refine blk_put (cs := #[.int .i8 0, .int .i8 0]) ?_ 0 _ rfl; (with_reducible repeat (first | refine blk_drewN ?_ _ | refine blk_drew ?_ | refine blk_alloc ?_ _)); exact BK508.out) NB508_506.out (by simp)); have n4_ := Aside0.mk (hb); have n5_ := Aside0.mk (hi); clear BK502; clear BK503; clear BK504; clear BK508; clear HB; clear HI506; have BK502 := n0_; have BK503 := n1_; have BK504 := n2_; have BK508 := n3_; have HB := n4_; have HI506 := n5_; clear n0_ n1_ n2_ n3_ n4_ n5_; (try clear hb); (try clear hb2); (try clear hk); (try clear hi)) | (go_at_call 46; (with_reducible refine (impl_AgroundAt_1.calls gb506 t510 t511 t512 t513 t514 t515 t516 t509 false t518 t519 t520 t521 t522 t523 t524 w _ ?side1 ?side2 A21.out).mono ?_); (case side1 => repeat (first | (with_reducible first | exact HI506.out | apply IsS89.alloc | apply IsS89.drewN | apply IsS89.drew | apply IsS89.set_0 | apply IsS89.set_1 | apply IsS89.set_2 | apply IsS89.set_3 | apply IsS89.set_4 | apply IsS89.set_5 | apply IsS89.set_6 | refine IsS89.far ?_ NB506_502.out _ | refine IsS89.far ?_ NB506_503.out _ | refine IsS89.far ?_ NB506_504.out _ | refine IsS89.far ?_ NB506_508.out _) | exact HI506.out)); (case side2 => repeat (first | (with_reducible first | exact HB.out | apply below_alloc | apply pw_below_drewN | apply below_drew1 | refine below_set ?_ (IsS89.ge HI506.out) | refine below_set ?_ GE502.out | refine below_set ?_ GE503.out | refine below_set ?_ GE504.out | refine below_set ?_ GE508.out) | exact HB.out)); rintro e w38 ⟨rfl, hi, hb, hk⟩; have n0_ := Aside0.mk (KeepBut.blk hk (g' := gb502) (o := .cells (a0).A 38 (0, 0)) (sqO BK502.out) NB502_506.out (by simp)); have n1_ := Aside0.mk (KeepBut.blk hk (g' := gb503) (o := .cells (a1).A 40 (0, 0)) (sqO BK503.out) NB503_506.out (by simp)); have n2_ := Aside0.mk (KeepBut.blk hk (g' := gb504) (o := .cells #[.int .i8 a2_0, .int .i8 a2_1, .int .i8 a2_2, .int .i8 a2_3, .int .i8 a2_4, .int .i8 a2_5] 44 (0, 0)) (sqO BK504.out) NB504_506.out (by simp)); have n3_ := Aside0.mk (KeepBut.blk hk (g' := gb508) (o := .cells #[.int .i8 ((rd_T78 l3 x29_1).f0), .int .i8 ((rd_T78 l3 x29_1).f1)] 78 (0, 0)) (sqO BK508.out) NB508_506.out (by simp)); have n4_ := Aside0.mk (hb); have n5_ := Aside0.mk (hi); clear BK502; clear BK503; clear BK504; clear BK508; clear HB; clear HI506; have BK502 := n0_; have BK503 := n1_; have BK504 := n2_; have BK508 := n3_; have HB := n4_; have HI506 := n5_; clear n0_ n1_ n2_ n3_ n4_ n5_; (try clear hb); (try clear hb2); (try clear hk); (try clear hi)))
                go_roundg k1
                case measure => have := HK1.out; omega
                case rel => exact ⟨(wrap64 (x29_1 + 1)), (t518), (t519), (t520), (t521), (t522), (t523), (t524), (by first | rfl | (simp; done) | (simp [*]; done)), H', ⟨by have := HK1.out; omega⟩, ⟨by (with_reducible repeat (first | refine blk_drewN ?_ _ | refine blk_drew ?_ | refine blk_alloc ?_ _)); exact BK502.out⟩, ⟨by (with_reducible repeat (first | refine blk_drewN ?_ _ | refine blk_drew ?_ | refine blk_alloc ?_ _)); exact BK503.out⟩, ⟨by (with_reducible repeat (first | refine blk_drewN ?_ _ | refine blk_drew ?_ | refine blk_alloc ?_ _)); exact BK504.out⟩, ⟨by repeat (first | (with_reducible first | exact HI506.out | apply IsS89.alloc | apply IsS89.drewN | apply IsS89.drew | apply IsS89.set_0 | apply IsS89.set_1 | apply IsS89.set_2 | apply IsS89.set_3 | apply IsS89.set_4 | apply IsS89.set_5 | apply IsS89.set_6 | refine IsS89.far ?_ NB506_502.out _ | refine IsS89.far ?_ NB506_503.out _ | refine IsS89.far ?_ NB506_504.out _ | refine IsS89.far ?_ NB506_508.out _) | exact HI506.out)⟩, ⟨by repeat (first | (with_reducible first | exact HB.out | apply below_alloc | apply pw_below_drewN | apply below_drew1 | refine below_set ?_ (IsS89.ge HI506.out) | refine below_set ?_ GE502.out | refine below_set ?_ GE503.out | refine below_set ?_ GE504.out | refine below_set ?_ GE508.out) | exact HB.out)⟩⟩
            · rw [if_neg c19] at H
              exact absurd H (by simp)
          · rw [if_neg c18] at H
            exact absurd H (by simp)
        · rw [if_neg c17] at H
          have c17b0 : decide (x29_1 < (l3.length : Int)) = false := decide_eq_false c17
          clear c17
          simp only [Option.some.injEq, Prod.mk.injEq] at H
          obtain ⟨rfl, rfl⟩ := H
          go_wp2
          go_ret2
          exact ⟨by first | rfl | (simp [errW_none, errW_some] <;> rfl) | (simp [*, errW_none, errW_some] <;> rfl), by repeat (first | (with_reducible first | exact HB.out | apply below_alloc | apply pw_below_drewN | apply below_drew1 | refine below_set ?_ (IsS89.ge HI506.out) | refine below_set ?_ GE502.out | refine below_set ?_ GE503.out | refine below_set ?_ GE504.out) | exact HB.out)⟩
  · rw [if_neg c7] at H
    have c7b0 : (t505 == 0) = false := beq_eq_false_iff_ne.mpr c7
    have c7b1 : (t505 != 0) = true := bne_iff_ne.mpr c7
    simp only [Option.some.injEq, Prod.mk.injEq] at H
    obtain ⟨rfl, rfl⟩ := H
    go_enter Try.func44, Try.ntmps44
    go_wp2_with (first | ((with_reducible refine gate_dst (N := 5) rfl ?_); refine box_event ?hg (N := 5) ?hd (cs := (a0).A) (t := 38) ?hr ?_; (case hd => rfl); (case hg => rfl); (case hr => first | exact AR.run_box_row rfl rfl | (go_simp; done) | (go_simp; rfl)); intro gb502 hg w39 hbox hb; have n0_ := Aside0.mk (sqH HB.out hb); have n1_ := Aside0.mk (hbox); have n2_ := Aside0.mk ((by rw [hg]; exact (below_size (by repeat (first | (with_reducible first | exact HB.out | apply below_alloc | apply pw_below_drewN | apply below_drew1) | exact HB.out))) : w.heap.size ≤ gb502)); have n3_ := n2_; clear HB; have HB := n0_; have BK502 := n1_; have GW502 := n2_; have GE502 := n3_; clear n0_ n1_ n2_ n3_; clear hb hbox hg) | ((with_reducible refine gate_dst (N := 6) rfl ?_); refine box_event ?hg (N := 6) ?hd (cs := (a1).A) (t := 40) ?hr ?_; (case hd => rfl); (case hg => rfl); (case hr => first | exact AR.run_box_row rfl rfl | (go_simp; done) | (go_simp; rfl)); intro gb503 hg w40 hbox hb; have n0_ := Aside0.mk (sqB BK502.out hb); have n1_ := Aside0.mk (sqH HB.out hb); have n2_ := Aside0.mk (hbox); have n3_ := Aside0.mk ((by rw [hg]; exact (below_size (by repeat (first | (with_reducible first | exact HB.out | apply below_alloc | apply pw_below_drewN | apply below_drew1 | refine below_set ?_ GE502.out) | exact HB.out))) : w.heap.size ≤ gb503)); have n4_ := n3_; have n5_ := Aside0.mk ((by rw [hg]; exact Nat.ne_of_lt (blk_lt (g := gb502) (o := .cells (a0).A 38 (0, 0)) (sqO BK502.out)) : gb502 ≠ gb503)); have n6_ := Aside0.mk (Ne.symm n5_.out); clear BK502; clear HB; have BK502 := n0_; have HB := n1_; have BK503 := n2_; have GW503 := n3_; have GE503 := n4_; have NB502_503 := n5_; have NB503_502 := n6_; clear n0_ n1_ n2_ n3_ n4_ n5_ n6_; clear hb hbox hg) | ((with_reducible refine gate_dst (N := 7) rfl ?_); refine box_event ?hg (N := 7) ?hd (cs := #[.int .i8 a2_0, .int .i8 a2_1, .int .i8 a2_2, .int .i8 a2_3, .int .i8 a2_4, .int .i8 a2_5]) (t := 44) ?hr ?_; (case hd => rfl); (case hg => rfl); (case hr => first | (go_simp; done) | (go_simp; rfl)); intro gb504 hg w41 hbox hb; have n0_ := Aside0.mk (sqB BK502.out hb); have n1_ := Aside0.mk (sqB BK503.out hb); have n2_ := Aside0.mk (sqH HB.out hb); have n3_ := Aside0.mk (hbox); have n4_ := Aside0.mk ((by rw [hg]; exact (below_size (by repeat (first | (with_reducible first | exact HB.out | apply below_alloc | apply pw_below_drewN | apply below_drew1 | refine below_set ?_ GE502.out | refine below_set ?_ GE503.out) | exact HB.out))) : w.heap.size ≤ gb504)); have n5_ := n4_; have n6_ := Aside0.mk ((by rw [hg]; exact Nat.ne_of_lt (blk_lt (g := gb502) (o := .cells (a0).A 38 (0, 0)) (sqO BK502.out)) : gb502 ≠ gb504)); have n7_ := Aside0.mk (Ne.symm n6_.out); have n8_ := Aside0.mk ((by rw [hg]; exact Nat.ne_of_lt (blk_lt (g := gb503) (o := .cells (a1).A 40 (0, 0)) (sqO BK503.out)) : gb503 ≠ gb504)); have n9_ := Aside0.mk (Ne.symm n8_.out); clear BK502; clear BK503; clear HB; have BK502 := n0_; have BK503 := n1_; have HB := n2_; have BK504 := n3_; have GW504 := n4_; have GE504 := n5_; have NB502_504 := n6_; have NB504_502 := n7_; have NB503_504 := n8_; have NB504_503 := n9_; clear n0_ n1_ n2_ n3_ n4_ n5_ n6_ n7_ n8_ n9_; clear hb hbox hg) | ((with_reducible refine gate_dst (N := 16) rfl ?_); (with_reducible refine AR.gate_load (t := 38) rfl ?_); (try refine gate_guard (by rfl) ?_); refine AR.wpList_load_blk rfl 38 _ rfl gb502 rfl (a0).A _ (sqO BK502.out) Try.underlying38 rfl (szO38 _) ?_) | ((with_reducible refine gate_dst (N := 17) rfl ?_); (with_reducible refine AR.gate_load (t := 40) rfl ?_); (try refine gate_guard (by rfl) ?_); refine AR.wpList_load_blk rfl 40 _ rfl gb503 rfl (a1).A _ (sqO BK503.out) Try.underlying40 rfl (szO40 _) ?_; have hnb42 := NB504_502.out; have hnc42 := NB502_504.out; have hnb43 := NB504_503.out; have hnc43 := NB503_504.out; obtain ⟨hcz44_0, hcz44_1, hcz44_2, hcz44_3, hcz44_4, hcz44_5⟩ := sqC BK504.out; have hfz44_0 := blk_frozen BK504.out 0; have hfz44_1 := blk_frozen BK504.out 1; have hfz44_2 := blk_frozen BK504.out 2; have hfz44_3 := blk_frozen BK504.out 3; have hfz44_4 := blk_frozen BK504.out 4; have hfz44_5 := blk_frozen BK504.out 5) | ((with_reducible refine gate_callee (f := 40) rfl ?_); refine goesL_ (some 20) rfl rfl Try.func40 (by kernel_rfl) rfl #[VO38 a0, VO40 a1, .agg #[.int .i8 a2_0, .int .i8 a2_1, .int .i8 a2_2, .int .i8 a2_3, .int .i8 a2_4, .int .i8 a2_5], .slice A3 l3.length c3] rfl (by (try simp only [List.map_toArray, List.map_cons, List.map_nil]); first | done | rfl | (simp only [List.length_drop, List.length_take]; rfl)) ?_; (with_reducible refine (impl_driftCode.calls k a0 a1 a2_0 a2_1 a2_2 a2_3 a2_4 a2_5 _ _ l3 t505 _ ?side1 ?side2 A6.out).mono ?_); (case side1 => repeat (first | exact (Kd.C_below HR3.out HB.out) | (with_reducible refine Kd.C_alloc ?_ _) | (with_reducible refine Kd.C_drewN ?_ _) | (with_reducible refine Kd.C_drew ?_))); (case side2 => exact HC3.out); rintro e w45 ⟨rfl, hb⟩; refine ⟨_, rfl, ?_⟩; have n0_ := Aside0.mk (sqB BK502.out hb); have n1_ := Aside0.mk (sqB BK503.out hb); have n2_ := Aside0.mk (sqB BK504.out hb); have n3_ := Aside0.mk (sqH HB.out hb); clear BK502; clear BK503; clear BK504; clear HB; have BK502 := n0_; have BK503 := n1_; have BK504 := n2_; have HB := n3_; clear n0_ n1_ n2_ n3_; (try clear hb); (try clear hb2); (try clear hk); (try clear hi)))
    go_ret2
    exact ⟨by first | rfl | (simp [errW_none, errW_some] <;> rfl) | (simp [*, errW_none, errW_some] <;> rfl), by repeat (first | (with_reducible first | exact HB.out | apply below_alloc | apply pw_below_drewN | apply below_drew1 | refine below_set ?_ GE502.out | refine below_set ?_ GE503.out | refine below_set ?_ GE504.out) | exact HB.out)⟩
end Go.Proofs.Ytmhmfhdmeedcfaa.G
end
section
namespace Go.Proofs.Ytmhmfhdmeedcfaa.G
open Go.RowKit Go.Proofs.YtmhmfhdmeedcfaaW.PrintWords Go.Proofs.YtmhmfhdmeedcfaaW.PrintLast Go.Proofs.YtmhmfhdmeedcfaaW.PrintMore
attribute [local go_sem] max2_int min2_int max_two min_two max_three min_three max_four min_four   -- for this text's walks alone
set_option linter.unusedVariables false
set_option linter.unusedSimpArgs false
def impl_AgroundAt.f (k : Nat) (a0 : O38) (a1 : O40) (a2_0 : Int) (a2_1 : Int) (a2_2 : Int) (a2_3 : Int) (a2_4 : Int) (a2_5 : Int) (l3 : List (S78)) : Option (Int × Int) := (impl_firstHour_46.f k a0 a1 a2_0 a2_1 a2_2 a2_3 a2_4 a2_5 l3 ()).bind fun bt576 => (some (bt576.1, bt576.2))
set_option maxHeartbeats 8000000 in
set_option maxRecDepth 100000 in
theorem impl_AgroundAt.calls (k : Nat) (a0 : O38) (a1 : O40) (a2_0 : Int) (a2_1 : Int) (a2_2 : Int) (a2_3 : Int) (a2_4 : Int) (a2_5 : Int) (A3 : Option Addr) (c3 : Nat) (l3 : List (S78)) (r1 : Int) (r2 : Int) (w : World) (hr3 : Kd.C k78 w A3 l3.length l3) (hc3 : l3.length ≤ c3) (h : impl_AgroundAt.f k a0 a1 a2_0 a2_1 a2_2 a2_3 a2_4 a2_5 l3 = some (r1, r2)) :
    Calls Try.prog 23 #[VO38 a0, VO40 a1, .agg #[.int .i8 a2_0, .int .i8 a2_1, .int .i8 a2_2, .int .i8 a2_3, .int .i8 a2_4, .int .i8 a2_5], .slice A3 l3.length c3] w fun e w' => e = .returned (.tuple #[.int .i64 r1, .int .i64 r2]) ∧ Below w.heap.size w w' := by
  have hu44 := Try.underlying44
  have HR3 := Aside0.mk hr3
  have HC3 := Aside0.mk hc3
  clear hr3 hc3
  have HB := Aside0.mk (Below.refl w.heap.size w)
  have H : ((impl_firstHour_46.f k a0 a1 a2_0 a2_1 a2_2 a2_3 a2_4 a2_5 l3 ()).bind fun bt576 => (some (bt576.1, bt576.2))) = some (r1, r2) := h
  clear h
  replace H := Option.bind_eq_some_iff.mp H
  obtain ⟨⟨t576, t577⟩, A50, H⟩ := H
  replace H : (some (t576, t577)) = some (r1, r2) := H
  have A5 := Aside0.mk A50
  clear A50
  simp only [Option.some.injEq, Prod.mk.injEq] at H
  obtain ⟨rfl, rfl⟩ := H
  go_enter Try.func23, Try.ntmps23
  go_wp2_with (first | ((with_reducible refine gate_dst (N := 4) rfl ?_); refine box_event ?hg (N := 4) ?hd (cs := (a0).A) (t := 38) ?hr ?_; (case hd => rfl); (case hg => rfl); (case hr => first | exact AR.run_box_row rfl rfl | (go_simp; done) | (go_simp; rfl)); intro gb573 hg w6 hbox hb; have n0_ := Aside0.mk (sqH HB.out hb); have n1_ := Aside0.mk (hbox); have n2_ := Aside0.mk ((by rw [hg]; exact (below_size (by repeat (first | (with_reducible first | exact HB.out | apply below_alloc | apply pw_below_drewN | apply below_drew1) | exact HB.out))) : w.heap.size ≤ gb573)); have n3_ := n2_; clear HB; have HB := n0_; have BK573 := n1_; have GW573 := n2_; have GE573 := n3_; clear n0_ n1_ n2_ n3_; clear hb hbox hg) | ((with_reducible refine gate_dst (N := 5) rfl ?_); refine box_event ?hg (N := 5) ?hd (cs := (a1).A) (t := 40) ?hr ?_; (case hd => rfl); (case hg => rfl); (case hr => first | exact AR.run_box_row rfl rfl | (go_simp; done) | (go_simp; rfl)); intro gb574 hg w7 hbox hb; have n0_ := Aside0.mk (sqB BK573.out hb); have n1_ := Aside0.mk (sqH HB.out hb); have n2_ := Aside0.mk (hbox); have n3_ := Aside0.mk ((by rw [hg]; exact (below_size (by repeat (first | (with_reducible first | exact HB.out | apply below_alloc | apply pw_below_drewN | apply below_drew1 | refine below_set ?_ GE573.out) | exact HB.out))) : w.heap.size ≤ gb574)); have n4_ := n3_; have n5_ := Aside0.mk ((by rw [hg]; exact Nat.ne_of_lt (blk_lt (g := gb573) (o := .cells (a0).A 38 (0, 0)) (sqO BK573.out)) : gb573 ≠ gb574)); have n6_ := Aside0.mk (Ne.symm n5_.out); clear BK573; clear HB; have BK573 := n0_; have HB := n1_; have BK574 := n2_; have GW574 := n3_; have GE574 := n4_; have NB573_574 := n5_; have NB574_573 := n6_; clear n0_ n1_ n2_ n3_ n4_ n5_ n6_; clear hb hbox hg) | ((with_reducible refine gate_dst (N := 6) rfl ?_); refine box_event ?hg (N := 6) ?hd (cs := #[.int .i8 a2_0, .int .i8 a2_1, .int .i8 a2_2, .int .i8 a2_3, .int .i8 a2_4, .int .i8 a2_5]) (t := 44) ?hr ?_; (case hd => rfl); (case hg => rfl); (case hr => first | (go_simp; done) | (go_simp; rfl)); intro gb575 hg w8 hbox hb; have n0_ := Aside0.mk (sqB BK573.out hb); have n1_ := Aside0.mk (sqB BK574.out hb); have n2_ := Aside0.mk (sqH HB.out hb); have n3_ := Aside0.mk (hbox); have n4_ := Aside0.mk ((by rw [hg]; exact (below_size (by repeat (first | (with_reducible first | exact HB.out | apply below_alloc | apply pw_below_drewN | apply below_drew1 | refine below_set ?_ GE573.out | refine below_set ?_ GE574.out) | exact HB.out))) : w.heap.size ≤ gb575)); have n5_ := n4_; have n6_ := Aside0.mk ((by rw [hg]; exact Nat.ne_of_lt (blk_lt (g := gb573) (o := .cells (a0).A 38 (0, 0)) (sqO BK573.out)) : gb573 ≠ gb575)); have n7_ := Aside0.mk (Ne.symm n6_.out); have n8_ := Aside0.mk ((by rw [hg]; exact Nat.ne_of_lt (blk_lt (g := gb574) (o := .cells (a1).A 40 (0, 0)) (sqO BK574.out)) : gb574 ≠ gb575)); have n9_ := Aside0.mk (Ne.symm n8_.out); clear BK573; clear BK574; clear HB; have BK573 := n0_; have BK574 := n1_; have HB := n2_; have BK575 := n3_; have GW575 := n4_; have GE575 := n5_; have NB573_575 := n6_; have NB575_573 := n7_; have NB574_575 := n8_; have NB575_574 := n9_; clear n0_ n1_ n2_ n3_ n4_ n5_ n6_ n7_ n8_ n9_; clear hb hbox hg) | ((with_reducible refine gate_dst (N := 10) rfl ?_); (with_reducible refine AR.gate_load (t := 38) rfl ?_); (try refine gate_guard (by rfl) ?_); refine AR.wpList_load_blk rfl 38 _ rfl gb573 rfl (a0).A _ (sqO BK573.out) Try.underlying38 rfl (szO38 _) ?_) | ((with_reducible refine gate_dst (N := 11) rfl ?_); (with_reducible refine AR.gate_load (t := 40) rfl ?_); (try refine gate_guard (by rfl) ?_); refine AR.wpList_load_blk rfl 40 _ rfl gb574 rfl (a1).A _ (sqO BK574.out) Try.underlying40 rfl (szO40 _) ?_; have hnb9 := NB575_573.out; have hnc9 := NB573_575.out; have hnb10 := NB575_574.out; have hnc10 := NB574_575.out; obtain ⟨hcz11_0, hcz11_1, hcz11_2, hcz11_3, hcz11_4, hcz11_5⟩ := sqC BK575.out; have hfz11_0 := blk_frozen BK575.out 0; have hfz11_1 := blk_frozen BK575.out 1; have hfz11_2 := blk_frozen BK575.out 2; have hfz11_3 := blk_frozen BK575.out 3; have hfz11_4 := blk_frozen BK575.out 4; have hfz11_5 := blk_frozen BK575.out 5) | ((with_reducible refine gate_callee (f := 44) rfl ?_); refine goesL_ (some 14) rfl rfl Try.func44 (by kernel_rfl) rfl #[VO38 a0, VO40 a1, .agg #[.int .i8 a2_0, .int .i8 a2_1, .int .i8 a2_2, .int .i8 a2_3, .int .i8 a2_4, .int .i8 a2_5], .slice A3 l3.length c3, .func (.func 46) #[] #[]] rfl (by (try simp only [List.map_toArray, List.map_cons, List.map_nil]); first | done | rfl | (simp only [List.length_drop, List.length_take]; rfl)) ?_; (with_reducible refine (impl_firstHour_46.calls k a0 a1 a2_0 a2_1 a2_2 a2_3 a2_4 a2_5 _ _ l3 () t576 t577 _ ?side1 ?side2 A5.out).mono ?_); (case side1 => repeat (first | exact (Kd.C_below HR3.out HB.out) | (with_reducible refine Kd.C_alloc ?_ _) | (with_reducible refine Kd.C_drewN ?_ _) | (with_reducible refine Kd.C_drew ?_))); (case side2 => exact HC3.out); rintro e w12 ⟨rfl, hb⟩; refine ⟨_, rfl, ?_⟩; have n0_ := Aside0.mk (sqB BK573.out hb); have n1_ := Aside0.mk (sqB BK574.out hb); have n2_ := Aside0.mk (sqB BK575.out hb); have n3_ := Aside0.mk (sqH HB.out hb); clear BK573; clear BK574; clear BK575; clear HB; have BK573 := n0_; have BK574 := n1_; have BK575 := n2_; have HB := n3_; clear n0_ n1_ n2_ n3_; (try clear hb); (try clear hb2); (try clear hk); (try clear hi)))
  go_ret2
  exact ⟨by first | rfl | (simp [errW_none, errW_some] <;> rfl) | (simp [*, errW_none, errW_some] <;> rfl), by repeat (first | (with_reducible first | exact HB.out | apply below_alloc | apply pw_below_drewN | apply below_drew1 | refine below_set ?_ GE573.out | refine below_set ?_ GE574.out | refine below_set ?_ GE575.out) | exact HB.out)⟩
end Go.Proofs.Ytmhmfhdmeedcfaa.G
end
section
namespace Go.Proofs.Ytmhmfhdmeedcfaa.G
open Go.RowKit Go.Proofs.YtmhmfhdmeedcfaaW.PrintWords Go.Proofs.YtmhmfhdmeedcfaaW.PrintLast Go.Proofs.YtmhmfhdmeedcfaaW.PrintMore AR M
set_option linter.unusedVariables false
set_option linter.unusedSimpArgs false
theorem szq24 (b : Flat 258 .i8) (n : Nat) : (Try.prog.info? 24).map (·.size) = some (b.sub n 256).size := by rw [Flat.sub_size]; kernel_rfl
theorem szq40 (b : Flat 256 .u8) (n : Nat) : (Try.prog.info? 40).map (·.size) = some (b.sub n 256).size := by rw [Flat.sub_size]; kernel_rfl
theorem zv24 (w : World) : (zeroValue 24).run Try.prog w = .ok (.agg (Array.replicate 256 (.int .i8 0))) w := by kernel_rfl
theorem zv40 (w : World) : (zeroValue 40).run Try.prog w = .ok (.agg (Array.replicate 256 (.int .u8 0))) w := by kernel_rfl
set_option maxHeartbeats 1000000 in
set_option maxRecDepth 100000 in
theorem toInt8A16_any (b : Flat 258 .i8) (off : Nat) (w : World) : Calls Try.prog 61 #[.agg (b.sub off 16)] w fun e w' => e = .returned (.agg (b.sub off 16)) ∧ Below w.heap.size w w' := by
  have SZ := Lib.hid (szr23 b off)
  go_enter Try.func61, Try.ntmps61
  go_wp2_with (first
    | ((with_reducible refine gate_dst (N := 1) rfl ?_); refine wpList_box_ev rfl 23 _ rfl (b.sub off 16) rfl ?_; intro g w1 hg hb hb1; have HG := Lib.hid hb; have HB0 := Lib.hid hb1; clear hb hb1 hg)
    | ((with_reducible refine gate_dst (N := 2) rfl ?_); refine box_event rfl (N := 2) rfl (t := 23) (exec_alloc rfl (Try.zeroValue23 _)) ?_; intro g2 hg wa ha hb; have HA := Lib.hid ha; have HB1 := Lib.hid (below_join HB0.out hb); have HG1 := Lib.hid (blkB HG.out hb); have h2 := Lib.hid (show w.heap.size ≤ g2 by have := HB0.out.size; omega); have h12 := Lib.hid (show g ≠ g2 by have := (Array.getElem?_eq_some_iff.1 HG.out).1; omega); clear ha hb hg)
    | ((with_reducible refine gate_dst (N := 3) rfl ?_); refine box_event rfl (N := 3) rfl (t := 23) (exec_alloc rfl (Try.zeroValue23 _)) ?_; intro g3 hg wb ha hb; have HO := Lib.hid ha; have HB2 := Lib.hid (below_join HB1.out hb); have HG2 := Lib.hid (blkB HG1.out hb); have HA2 := Lib.hid (blkB HA.out hb); have h3 := Lib.hid (show w.heap.size ≤ g3 by have := HB1.out.size; omega); have h13 := Lib.hid (show g ≠ g3 by have := (Array.getElem?_eq_some_iff.1 HG1.out).1; omega); have h23 := Lib.hid (show g2 ≠ g3 by have := (Array.getElem?_eq_some_iff.1 HA.out).1; omega); clear ha hb hg))
  go_loopw [4] (fun i wr => ∃ (n : Nat) (cur : Array Value), n ≤ 16 ∧ i = .int .i64 n ∧ Hid (wr.heap[g3]? = some (.cells cur 23 (0, 0))) ∧ Hid (CopyTo cur 16 n (b.sub off 16)) ∧ Hid (wr.heap[g]? = some (.cells (b.sub off 16) 23 (0, 0))) ∧ Hid (∃ z : Array Value, z.size = 16 ∧ wr.heap[g2]? = some (.cells z 23 (0, 0))) ∧ Hid (Below w.heap.size w wr)) (fun i _ => 16 - (intOf i).toNat)
  case atStart => exact ⟨0, _, Nat.zero_le _, rfl, HO.out, CopyTo.zero rfl, HG2.out, ⟨_, rfl, HA2.out⟩, HB2.out⟩
  case round =>
    obtain ⟨n, cur, hn, rfl, HC, HT, HS, HZ, HD⟩ := hrel
    by_cases hlt : n < 16
    · have i0 : (n : Int) < 16 := by omega
      have i1 : (0 : Int) ≤ (n : Int) := by omega
      have cc := blk_cell (j := n) HS.out (b.sub_at off 16 hlt)
      have HV := Lib.hid (b.sub_at off 16 hlt)
      generalize b.z (off + n) = v at cc HV
      obtain ⟨u, hu⟩ : ∃ u, cur[n]? = some u := ⟨cur[n]'(by have := HT.out.1; omega), Array.getElem?_eq_getElem _⟩
      have ct := blk_cell HC.out hu
      have cf := blk_frozen HC.out n
      have HW := Lib.hid (setCell_eq_setRow wr g3 n cur _ _ (.int .i8 v) HC.out)
      have HC1 := Lib.hid (setRow_heap wr g3 cur (cur.setIfInBounds n (.int .i8 v)) _ _ HC.out)
      have HT1 := Lib.hid (HT.out.set HV.out hlt)
      have HD1 := Lib.hid (below_setRow HD.out h3.out (cur.setIfInBounds n (.int .i8 v)))
      have HS1 := Lib.hid ((setRow_other wr g3 g (cur.setIfInBounds n (.int .i8 v)) h13.out).trans HS.out)
      have HZ1 := Lib.hid (show ∃ z : Array Value, z.size = 16 ∧ (wr.setRow g3 (cur.setIfInBounds n (.int .i8 v))).heap[g2]? = some (.cells z 23 (0, 0)) by obtain ⟨z, hz, hz2⟩ := HZ.out; exact ⟨z, hz, (setRow_other _ _ _ _ h23.out).trans hz2⟩)
      clear hu
      go_wp2
      go_roundw
      case rel => exact ⟨n + 1, cur.setIfInBounds n (.int .i8 v), by omega, by go_num, by rw [HW.out]; exact HC1.out, HT1.out, by rw [HW.out]; exact HS1.out, by rw [HW.out]; exact HZ1.out, by rw [HW.out]; exact HD1.out⟩
      case measure => simp [intOf]; omega
    · obtain rfl : n = 16 := by omega
      obtain rfl := HT.out.done (b.sub_size off 16)
      obtain ⟨z, hz, hz2⟩ := HZ.out
      have HZ2 := Lib.hid hz2
      have HZS := Lib.hid hz
      clear hz hz2 HZ
      go_wp2_with (first
        | ((with_reducible refine gate_dst (N := 14) rfl ?_); refine Kd.event_run rfl (exec_load_blk rfl rfl HC.out Try.underlying23 rfl SZ.out) ?_)
        | ((with_reducible refine gate_store (t := 23) (p := 2) rfl ?_); refine store_event (t := 23) (p := 2) rfl rfl rfl (exec_store_row (t2 := 23) (vs := b.sub off 16) rfl rfl rfl HZ2.out (by rw [HZS.out, Flat.sub_size]; decide) (b.sub_one _ _) SZ.out) ?_; intro ws hws; have HR := Lib.hid (show ws.heap[g2]? = some (.cells (b.sub off 16) 23 (0, 0)) by rw [hws]; exact setRow_whole HZ2.out (by rw [HZS.out, Flat.sub_size])); have HD1 := Lib.hid (show Below w.heap.size w ws by rw [hws]; exact below_setRow HD.out h2.out _); clear hws))
      (try simp only [Exit.inBlock, Exit.then])
      refine bodyPost_ret (results_cell rfl rfl (run_load_blk _ _ _ _ _ HR.out Try.underlying23 rfl SZ.out)) rfl ?_
      exact ⟨rfl, HD1.out⟩
set_option maxHeartbeats 1000000 in
set_option maxRecDepth 100000 in
theorem toByteA16_any (b : Flat 256 .u8) (off : Nat) (w : World) : Calls Try.prog 37 #[.agg (b.sub off 16)] w fun e w' => e = .returned (.agg (b.sub off 16)) ∧ Below w.heap.size w w' := by
  have SZ := Lib.hid (szr27 b off)
  go_enter Try.func37, Try.ntmps37
  go_wp2_with (first
    | ((with_reducible refine gate_dst (N := 1) rfl ?_); refine wpList_box_ev rfl 27 _ rfl (b.sub off 16) rfl ?_; intro g w1 hg hb hb1; have HG := Lib.hid hb; have HB0 := Lib.hid hb1; clear hb hb1 hg)
    | ((with_reducible refine gate_dst (N := 2) rfl ?_); refine box_event rfl (N := 2) rfl (t := 27) (exec_alloc rfl (Try.zeroValue27 _)) ?_; intro g2 hg wa ha hb; have HA := Lib.hid ha; have HB1 := Lib.hid (below_join HB0.out hb); have HG1 := Lib.hid (blkB HG.out hb); have h2 := Lib.hid (show w.heap.size ≤ g2 by have := HB0.out.size; omega); have h12 := Lib.hid (show g ≠ g2 by have := (Array.getElem?_eq_some_iff.1 HG.out).1; omega); clear ha hb hg)
    | ((with_reducible refine gate_dst (N := 3) rfl ?_); refine box_event rfl (N := 3) rfl (t := 27) (exec_alloc rfl (Try.zeroValue27 _)) ?_; intro g3 hg wb ha hb; have HO := Lib.hid ha; have HB2 := Lib.hid (below_join HB1.out hb); have HG2 := Lib.hid (blkB HG1.out hb); have HA2 := Lib.hid (blkB HA.out hb); have h3 := Lib.hid (show w.heap.size ≤ g3 by have := HB1.out.size; omega); have h13 := Lib.hid (show g ≠ g3 by have := (Array.getElem?_eq_some_iff.1 HG1.out).1; omega); have h23 := Lib.hid (show g2 ≠ g3 by have := (Array.getElem?_eq_some_iff.1 HA.out).1; omega); clear ha hb hg))
  go_loopw [4] (fun i wr => ∃ (n : Nat) (cur : Array Value), n ≤ 16 ∧ i = .int .i64 n ∧ Hid (wr.heap[g3]? = some (.cells cur 27 (0, 0))) ∧ Hid (CopyTo cur 16 n (b.sub off 16)) ∧ Hid (wr.heap[g]? = some (.cells (b.sub off 16) 27 (0, 0))) ∧ Hid (∃ z : Array Value, z.size = 16 ∧ wr.heap[g2]? = some (.cells z 27 (0, 0))) ∧ Hid (Below w.heap.size w wr)) (fun i _ => 16 - (intOf i).toNat)
  case atStart => exact ⟨0, _, Nat.zero_le _, rfl, HO.out, CopyTo.zero rfl, HG2.out, ⟨_, rfl, HA2.out⟩, HB2.out⟩
  case round =>
    obtain ⟨n, cur, hn, rfl, HC, HT, HS, HZ, HD⟩ := hrel
    by_cases hlt : n < 16
    · have i0 : (n : Int) < 16 := by omega
      have i1 : (0 : Int) ≤ (n : Int) := by omega
      have cc := blk_cell (j := n) HS.out (b.sub_at off 16 hlt)
      have HV := Lib.hid (b.sub_at off 16 hlt)
      generalize b.z (off + n) = v at cc HV
      obtain ⟨u, hu⟩ : ∃ u, cur[n]? = some u := ⟨cur[n]'(by have := HT.out.1; omega), Array.getElem?_eq_getElem _⟩
      have ct := blk_cell HC.out hu
      have cf := blk_frozen HC.out n
      have HW := Lib.hid (setCell_eq_setRow wr g3 n cur _ _ (.int .u8 v) HC.out)
      have HC1 := Lib.hid (setRow_heap wr g3 cur (cur.setIfInBounds n (.int .u8 v)) _ _ HC.out)
      have HT1 := Lib.hid (HT.out.set HV.out hlt)
      have HD1 := Lib.hid (below_setRow HD.out h3.out (cur.setIfInBounds n (.int .u8 v)))
      have HS1 := Lib.hid ((setRow_other wr g3 g (cur.setIfInBounds n (.int .u8 v)) h13.out).trans HS.out)
      have HZ1 := Lib.hid (show ∃ z : Array Value, z.size = 16 ∧ (wr.setRow g3 (cur.setIfInBounds n (.int .u8 v))).heap[g2]? = some (.cells z 27 (0, 0)) by obtain ⟨z, hz, hz2⟩ := HZ.out; exact ⟨z, hz, (setRow_other _ _ _ _ h23.out).trans hz2⟩)
      clear hu
      go_wp2
      go_roundw
      case rel => exact ⟨n + 1, cur.setIfInBounds n (.int .u8 v), by omega, by go_num, by rw [HW.out]; exact HC1.out, HT1.out, by rw [HW.out]; exact HS1.out, by rw [HW.out]; exact HZ1.out, by rw [HW.out]; exact HD1.out⟩
      case measure => simp [intOf]; omega
    · obtain rfl : n = 16 := by omega
      obtain rfl := HT.out.done (b.sub_size off 16)
      obtain ⟨z, hz, hz2⟩ := HZ.out
      have HZ2 := Lib.hid hz2
      have HZS := Lib.hid hz
      clear hz hz2 HZ
      go_wp2_with (first
        | ((with_reducible refine gate_dst (N := 14) rfl ?_); refine Kd.event_run rfl (exec_load_blk rfl rfl HC.out Try.underlying27 rfl SZ.out) ?_)
        | ((with_reducible refine gate_store (t := 27) (p := 2) rfl ?_); refine store_event (t := 27) (p := 2) rfl rfl rfl (exec_store_row (t2 := 27) (vs := b.sub off 16) rfl rfl rfl HZ2.out (by rw [HZS.out, Flat.sub_size]; decide) (b.sub_one _ _) SZ.out) ?_; intro ws hws; have HR := Lib.hid (show ws.heap[g2]? = some (.cells (b.sub off 16) 27 (0, 0)) by rw [hws]; exact setRow_whole HZ2.out (by rw [HZS.out, Flat.sub_size])); have HD1 := Lib.hid (show Below w.heap.size w ws by rw [hws]; exact below_setRow HD.out h2.out _); clear hws))
      (try simp only [Exit.inBlock, Exit.then])
      refine bodyPost_ret (results_cell rfl rfl (run_load_blk _ _ _ _ _ HR.out Try.underlying27 rfl SZ.out)) rfl ?_
      exact ⟨rfl, HD1.out⟩
end Go.Proofs.Ytmhmfhdmeedcfaa.G
end
section
namespace Go.Proofs.Ytmhmfhdmeedcfaa.G
open Go.RowKit Go.Proofs.YtmhmfhdmeedcfaaW.PrintWords Go.Proofs.YtmhmfhdmeedcfaaW.PrintLast Go.Proofs.YtmhmfhdmeedcfaaW.PrintMore AR M
set_option linter.unusedVariables false
set_option linter.unusedSimpArgs false
set_option maxHeartbeats 1000000 in
set_option maxRecDepth 100000 in
theorem toInt8A16A16_any (b : Flat 258 .i8) (w : World) : Calls Try.prog 36 #[.agg (b.sub 2 256)] w fun e w' => e = .returned (.agg (b.sub 2 256)) ∧ Below w.heap.size w w' := by
  have SZ := Lib.hid (szq24 b 2)
  have SR := Lib.hid (fun n => szr23 b n)
  have HQ := Lib.hid (fun n W => toInt8A16_any b n W)
  go_enter Try.func36, Try.ntmps36
  go_wp2_with (first
    | ((with_reducible refine gate_dst (N := 1) rfl ?_); refine wpList_box_ev rfl 24 _ rfl (b.sub 2 256) rfl ?_; intro g w1 hg hb hb1; have HG := Lib.hid hb; have HB0 := Lib.hid hb1; clear hb hb1 hg)
    | ((with_reducible refine gate_dst (N := 2) rfl ?_); refine box_event rfl (N := 2) rfl (t := 24) (exec_alloc rfl (zv24 _)) ?_; intro g2 hg wa ha hb; have HA := Lib.hid (show ∃ z : Array Value, z.size = 256 ∧ wa.heap[g2]? = some (.cells z 24 (0, 0)) from ⟨_, Array.size_replicate, ha⟩); have HB1 := Lib.hid (below_join HB0.out hb); have HG1 := Lib.hid (blkB HG.out hb); have h2 := Lib.hid (show w.heap.size ≤ g2 by have := HB0.out.size; omega); have h12 := Lib.hid (show g ≠ g2 by have := (Array.getElem?_eq_some_iff.1 HG.out).1; omega); have l2 := Lib.hid (show g2 < wa.heap.size from (Array.getElem?_eq_some_iff.1 ha).1); clear ha hb hg)
    | ((with_reducible refine gate_dst (N := 3) rfl ?_); refine box_event rfl (N := 3) rfl (t := 24) (exec_alloc rfl (zv24 _)) ?_; intro g3 hg wb ha hb; have HO := Lib.hid (show ∃ z : Array Value, z.size = 256 ∧ wb.heap[g3]? = some (.cells z 24 (0, 0)) from ⟨_, Array.size_replicate, ha⟩); have HB2 := Lib.hid (below_join HB1.out hb); have HG2 := Lib.hid (blkB HG1.out hb); have HA2 := Lib.hid (show ∃ z : Array Value, z.size = 256 ∧ wb.heap[g2]? = some (.cells z 24 (0, 0)) by obtain ⟨z, h, hz⟩ := HA.out; exact ⟨z, h, blkB hz hb⟩); have h3 := Lib.hid (show w.heap.size ≤ g3 by have := HB1.out.size; omega); have h13 := Lib.hid (show g ≠ g3 by have := (Array.getElem?_eq_some_iff.1 HG1.out).1; omega); have h23 := Lib.hid (show g2 ≠ g3 by have := l2.out; omega); clear ha hb hg))
  go_loopw [4] (fun i wr => ∃ (n : Nat) (cur : Array Value), n ≤ 16 ∧ i = .int .i64 n ∧ Hid (wr.heap[g3]? = some (.cells cur 24 (0, 0))) ∧ Hid (CopyTo cur 256 (n * 16) (b.sub 2 256)) ∧ Hid (wr.heap[g]? = some (.cells (b.sub 2 256) 24 (0, 0))) ∧ Hid (∃ z : Array Value, z.size = 256 ∧ wr.heap[g2]? = some (.cells z 24 (0, 0))) ∧ Hid (Below w.heap.size w wr)) (fun i _ => 16 - (intOf i).toNat)
  case atStart => obtain ⟨z, h, hz⟩ := HO.out; exact ⟨0, z, Nat.zero_le _, rfl, hz, by rw [Nat.zero_mul]; exact CopyTo.zero h, HG2.out, HA2.out, HB2.out⟩
  case round =>
    obtain ⟨n, cur, hn, rfl, HC, HT, HS, HZ, HD⟩ := hrel
    by_cases hlt : n < 16
    · have i0 : (n : Int) < 16 := by omega
      have i1 : (0 : Int) ≤ (n : Int) := by omega
      have HP := Lib.hid (show ∀ j v, (b.sub (2 + n * 16) 16)[j]? = some v → (b.sub 2 256)[n * 16 + j]? = some v from fun j v hv => by
        have hj : j < 16 := by have := (Array.getElem?_eq_some_iff.1 hv).1; rwa [Flat.sub_size] at this
        rw [b.sub_at _ _ (show n * 16 + j < 256 by omega), ← hv, b.sub_at _ _ hj]; congr 3; omega)
      go_wp2_with (first
        | ((with_reducible refine gate_dst (N := 12) rfl ?_); refine Kd.event_run rfl (exec_load_sub (n := n * 16) (cs := b.sub (2 + n * 16) 16) rfl (by first | rfl | (simp; done)) HS.out HP.out Try.underlying23 rfl (SR.out _)) ?_)
        | (go_at_call 61; refine (HQ.out (2 + n * 16) _).mono ?_; rintro e w3 ⟨rfl, hb⟩; have HD0 := Lib.hid (below_join HD.out hb); have HC0 := Lib.hid (blkB HC.out hb); have HS0 := Lib.hid (blkB HS.out hb); have HZ0 := Lib.hid (show ∃ z : Array Value, z.size = 256 ∧ w3.heap[g2]? = some (.cells z 24 (0, 0)) by obtain ⟨z, h, hz⟩ := HZ.out; exact ⟨z, h, blkB hz hb⟩); clear hb)
        | ((with_reducible refine gate_store (t := 23) (p := 14) rfl ?_); refine store_event (t := 23) (p := 14) rfl rfl rfl (exec_store_row (n := n * 16) (vs := b.sub (2 + n * 16) 16) rfl (by first | rfl | (simp; done)) rfl HC0.out (by rw [Flat.sub_size]; have := HT.out.1; omega) (b.sub_one _ _) (SR.out _)) ?_; intro ws hws; have HC1 := Lib.hid (show ws.heap[g3]? = some (.cells (cur.toList.take (n * 16) ++ (b.sub (2 + n * 16) 16).toList ++ cur.toList.drop (n * 16 + (b.sub (2 + n * 16) 16).size)).toArray 24 (0, 0)) by rw [hws]; exact setRow_heap _ _ _ _ _ _ HC0.out); have HD1 := Lib.hid (show Below w.heap.size w ws by rw [hws]; exact below_setRow HD0.out h3.out _); have HS1 := Lib.hid (show ws.heap[g]? = some (.cells (b.sub 2 256) 24 (0, 0)) by rw [hws]; exact (setRow_other _ _ _ _ h13.out).trans HS0.out); have HZ1 := Lib.hid (show ∃ z : Array Value, z.size = 256 ∧ ws.heap[g2]? = some (.cells z 24 (0, 0)) by obtain ⟨z, hz, hz2⟩ := HZ0.out; exact ⟨z, hz, by rw [hws]; exact (setRow_other _ _ _ _ h23.out).trans hz2⟩); clear hws))
      go_roundw
      case rel => exact ⟨n + 1, _, by omega, by go_num, HC1.out, by rw [show (n + 1) * 16 = n * 16 + (b.sub (2 + n * 16) 16).size by rw [Flat.sub_size]; omega]; exact HT.out.step (by simp) (by rw [Flat.sub_size]; omega) (fun j hj => by rw [Flat.sub_size] at hj; rw [Array.getElem?_toList, b.sub_at _ _ hj, b.sub_at _ _ (show n * 16 + j < 256 by omega)]; congr 3; omega), HS1.out, HZ1.out, HD1.out⟩
      case measure => simp [intOf]; omega
    · obtain rfl : n = 16 := by omega
      obtain rfl := HT.out.done (b.sub_size 2 256)
      obtain ⟨z, hz, hz2⟩ := HZ.out
      have HZ2 := Lib.hid hz2
      have HZS := Lib.hid hz
      clear hz hz2 HZ
      go_wp2_with (first
        | ((with_reducible refine gate_dst (N := 15) rfl ?_); refine Kd.event_run rfl (exec_load_blk rfl rfl HC.out Try.underlying24 rfl SZ.out) ?_)
        | ((with_reducible refine gate_store (t := 24) (p := 2) rfl ?_); refine store_event (t := 24) (p := 2) rfl rfl rfl (exec_store_row (t2 := 24) (vs := b.sub 2 256) rfl rfl rfl HZ2.out (by rw [HZS.out, Flat.sub_size]; decide) (b.sub_one _ _) SZ.out) ?_; intro ws hws; have HR := Lib.hid (show ws.heap[g2]? = some (.cells (b.sub 2 256) 24 (0, 0)) by rw [hws]; exact setRow_whole HZ2.out (by rw [HZS.out, Flat.sub_size])); have HD1 := Lib.hid (show Below w.heap.size w ws by rw [hws]; exact below_setRow HD.out h2.out _); clear hws))
      (try simp only [Exit.inBlock, Exit.then])
      refine bodyPost_ret (results_cell rfl rfl (run_load_blk _ _ _ _ _ HR.out Try.underlying24 rfl SZ.out)) rfl ?_
      exact ⟨rfl, HD1.out⟩
set_option maxHeartbeats 1000000 in
set_option maxRecDepth 100000 in
theorem toGrounds_any (b : Flat 256 .u8) (w : World) : Calls Try.prog 11 #[.agg (b.sub 0 256)] w fun e w' => e = .returned (.agg (b.sub 0 256)) ∧ Below w.heap.size w w' := by
  have SZ := Lib.hid (szq40 b 0)
  have SR := Lib.hid (fun n => szr27 b n)
  have HQ := Lib.hid (fun n W => toByteA16_any b n W)
  go_enter Try.func11, Try.ntmps11
  go_wp2_with (first
    | ((with_reducible refine gate_dst (N := 1) rfl ?_); refine wpList_box_ev rfl 28 _ rfl (b.sub 0 256) rfl ?_; intro g w1 hg hb hb1; have HG := Lib.hid hb; have HB0 := Lib.hid hb1; clear hb hb1 hg)
    | ((with_reducible refine gate_dst (N := 2) rfl ?_); refine box_event rfl (N := 2) rfl (t := 40) (exec_alloc rfl (zv40 _)) ?_; intro g2 hg wa ha hb; have HA := Lib.hid (show ∃ z : Array Value, z.size = 256 ∧ wa.heap[g2]? = some (.cells z 40 (0, 0)) from ⟨_, Array.size_replicate, ha⟩); have HB1 := Lib.hid (below_join HB0.out hb); have HG1 := Lib.hid (blkB HG.out hb); have h2 := Lib.hid (show w.heap.size ≤ g2 by have := HB0.out.size; omega); have h12 := Lib.hid (show g ≠ g2 by have := (Array.getElem?_eq_some_iff.1 HG.out).1; omega); have l2 := Lib.hid (show g2 < wa.heap.size from (Array.getElem?_eq_some_iff.1 ha).1); clear ha hb hg)
    | ((with_reducible refine gate_dst (N := 3) rfl ?_); refine box_event rfl (N := 3) rfl (t := 40) (exec_alloc rfl (zv40 _)) ?_; intro g3 hg wb ha hb; have HO := Lib.hid (show ∃ z : Array Value, z.size = 256 ∧ wb.heap[g3]? = some (.cells z 40 (0, 0)) from ⟨_, Array.size_replicate, ha⟩); have HB2 := Lib.hid (below_join HB1.out hb); have HG2 := Lib.hid (blkB HG1.out hb); have HA2 := Lib.hid (show ∃ z : Array Value, z.size = 256 ∧ wb.heap[g2]? = some (.cells z 40 (0, 0)) by obtain ⟨z, h, hz⟩ := HA.out; exact ⟨z, h, blkB hz hb⟩); have h3 := Lib.hid (show w.heap.size ≤ g3 by have := HB1.out.size; omega); have h13 := Lib.hid (show g ≠ g3 by have := (Array.getElem?_eq_some_iff.1 HG1.out).1; omega); have h23 := Lib.hid (show g2 ≠ g3 by have := l2.out; omega); clear ha hb hg))
  go_loopw [4] (fun i wr => ∃ (n : Nat) (cur : Array Value), n ≤ 16 ∧ i = .int .i64 n ∧ Hid (wr.heap[g3]? = some (.cells cur 40 (0, 0))) ∧ Hid (CopyTo cur 256 (n * 16) (b.sub 0 256)) ∧ Hid (wr.heap[g]? = some (.cells (b.sub 0 256) 28 (0, 0))) ∧ Hid (∃ z : Array Value, z.size = 256 ∧ wr.heap[g2]? = some (.cells z 40 (0, 0))) ∧ Hid (Below w.heap.size w wr)) (fun i _ => 16 - (intOf i).toNat)
  case atStart => obtain ⟨z, h, hz⟩ := HO.out; exact ⟨0, z, Nat.zero_le _, rfl, hz, by rw [Nat.zero_mul]; exact CopyTo.zero h, HG2.out, HA2.out, HB2.out⟩
  case round =>
    obtain ⟨n, cur, hn, rfl, HC, HT, HS, HZ, HD⟩ := hrel
    by_cases hlt : n < 16
    · have i0 : (n : Int) < 16 := by omega
      have i1 : (0 : Int) ≤ (n : Int) := by omega
      have HP := Lib.hid (show ∀ j v, (b.sub (n * 16) 16)[j]? = some v → (b.sub 0 256)[n * 16 + j]? = some v from fun j v hv => by
        have hj : j < 16 := by have := (Array.getElem?_eq_some_iff.1 hv).1; rwa [Flat.sub_size] at this
        rw [b.sub_at _ _ (show n * 16 + j < 256 by omega), ← hv, b.sub_at _ _ hj]; congr 3; omega)
      go_wp2_with (first
        | ((with_reducible refine gate_dst (N := 12) rfl ?_); refine Kd.event_run rfl (exec_load_sub (n := n * 16) (cs := b.sub (n * 16) 16) rfl (by first | rfl | (simp; done)) HS.out HP.out Try.underlying27 rfl (SR.out _)) ?_)
        | (go_at_call 37; refine (HQ.out (n * 16) _).mono ?_; rintro e w3 ⟨rfl, hb⟩; have HD0 := Lib.hid (below_join HD.out hb); have HC0 := Lib.hid (blkB HC.out hb); have HS0 := Lib.hid (blkB HS.out hb); have HZ0 := Lib.hid (show ∃ z : Array Value, z.size = 256 ∧ w3.heap[g2]? = some (.cells z 40 (0, 0)) by obtain ⟨z, h, hz⟩ := HZ.out; exact ⟨z, h, blkB hz hb⟩); clear hb)
        | ((with_reducible refine gate_store (t := 27) (p := 14) rfl ?_); refine store_event (t := 27) (p := 14) rfl rfl rfl (exec_store_row (n := n * 16) (vs := b.sub (n * 16) 16) rfl (by first | rfl | (simp; done)) rfl HC0.out (by rw [Flat.sub_size]; have := HT.out.1; omega) (b.sub_one _ _) (SR.out _)) ?_; intro ws hws; have HC1 := Lib.hid (show ws.heap[g3]? = some (.cells (cur.toList.take (n * 16) ++ (b.sub (n * 16) 16).toList ++ cur.toList.drop (n * 16 + (b.sub (n * 16) 16).size)).toArray 40 (0, 0)) by rw [hws]; exact setRow_heap _ _ _ _ _ _ HC0.out); have HD1 := Lib.hid (show Below w.heap.size w ws by rw [hws]; exact below_setRow HD0.out h3.out _); have HS1 := Lib.hid (show ws.heap[g]? = some (.cells (b.sub 0 256) 28 (0, 0)) by rw [hws]; exact (setRow_other _ _ _ _ h13.out).trans HS0.out); have HZ1 := Lib.hid (show ∃ z : Array Value, z.size = 256 ∧ ws.heap[g2]? = some (.cells z 40 (0, 0)) by obtain ⟨z, hz, hz2⟩ := HZ0.out; exact ⟨z, hz, by rw [hws]; exact (setRow_other _ _ _ _ h23.out).trans hz2⟩); clear hws))
      go_roundw
      case rel => exact ⟨n + 1, _, by omega, by go_num, HC1.out, by rw [show (n + 1) * 16 = n * 16 + (b.sub (n * 16) 16).size by rw [Flat.sub_size]; omega]; exact HT.out.step (by simp) (by rw [Flat.sub_size]; omega) (fun j hj => by rw [Flat.sub_size] at hj; rw [Array.getElem?_toList, b.sub_at _ _ hj, b.sub_at _ _ (show n * 16 + j < 256 by omega)]; congr 3; omega), HS1.out, HZ1.out, HD1.out⟩
      case measure => simp [intOf]; omega
    · obtain rfl : n = 16 := by omega
      obtain rfl := HT.out.done (b.sub_size 0 256)
      obtain ⟨z, hz, hz2⟩ := HZ.out
      have HZ2 := Lib.hid hz2
      have HZS := Lib.hid hz
      clear hz hz2 HZ
      go_wp2_with (first
        | ((with_reducible refine gate_dst (N := 15) rfl ?_); refine Kd.event_run rfl (exec_load_blk rfl rfl HC.out Try.underlying40 rfl SZ.out) ?_)
        | ((with_reducible refine gate_store (t := 40) (p := 2) rfl ?_); refine store_event (t := 40) (p := 2) rfl rfl rfl (exec_store_row (t2 := 40) (vs := b.sub 0 256) rfl rfl rfl HZ2.out (by rw [HZS.out, Flat.sub_size]; decide) (b.sub_one _ _) SZ.out) ?_; intro ws hws; have HR := Lib.hid (show ws.heap[g2]? = some (.cells (b.sub 0 256) 40 (0, 0)) by rw [hws]; exact setRow_whole HZ2.out (by rw [HZS.out, Flat.sub_size])); have HD1 := Lib.hid (show Below w.heap.size w ws by rw [hws]; exact below_setRow HD.out h2.out _); clear hws))
      (try simp only [Exit.inBlock, Exit.then])
      refine bodyPost_ret (results_cell rfl rfl (run_load_blk _ _ _ _ _ HR.out Try.underlying40 rfl SZ.out)) rfl ?_
      exact ⟨rfl, HD1.out⟩
end Go.Proofs.Ytmhmfhdmeedcfaa.G
end
section
namespace Go.Proofs.Ytmhmfhdmeedcfaa.G
open Go.RowKit Go.Proofs.YtmhmfhdmeedcfaaW.PrintWords Go.Proofs.YtmhmfhdmeedcfaaW.PrintLast Go.Proofs.YtmhmfhdmeedcfaaW.PrintMore AR M
set_option linter.unusedVariables false
set_option linter.unusedSimpArgs false
theorem bay_filled (b : Flat 258 .i8) (z : Array Value) (hz : z.size = 258) : (((z.setIfInBounds 0 (.int .i8 (b.z 0))).setIfInBounds 1 (.int .i8 (b.z 1))).toList.take 2 ++ (b.sub 2 256).toList ++ ((z.setIfInBounds 0 (.int .i8 (b.z 0))).setIfInBounds 1 (.int .i8 (b.z 1))).toList.drop (2 + (b.sub 2 256).size)).toArray = b.A := by
  have h := ((((CopyTo.zero (src := b.A) hz).set (b.at_ (j := 0) (by omega)) (by omega)).set (b.at_ (j := 1) (by omega)) (by omega)).step (m := 256) (vs := (b.sub 2 256).toList) (by simp [Flat.sub_size]) (by omega) (fun j hj => by
    rw [Array.getElem?_toList, b.sub_at _ _ hj, b.at_ (show 0 + 1 + 1 + j < 258 by omega)])).done b.size
  rw [Flat.sub_size]
  exact h
theorem zv38 (w : World) : (zeroValue 38).run Try.prog w = .ok (.agg (Array.replicate 258 (.int .i8 0))) w := by kernel_rfl
set_option maxHeartbeats 1000000 in
set_option maxRecDepth 100000 in
theorem toBay_any (b : Flat 258 .i8) (w : World) : Calls Try.prog 10 #[.agg b.A] w fun e w' => e = .returned (.agg b.A) ∧ Below w.heap.size w w' := by
  have HQ := Lib.hid (fun W => toInt8A16A16_any b W)
  go_enter Try.func10, Try.ntmps10
  go_wp2_with (first
    | ((with_reducible refine gate_dst (N := 1) rfl ?_); refine wpList_box_ev rfl 26 _ rfl b.A rfl ?_; intro g w1 hg hb hb1; have HG := Lib.hid hb; have HB0 := Lib.hid hb1; clear hb hb1 hg)
    | ((with_reducible refine gate_dst (N := 2) rfl ?_); refine box_event rfl (N := 2) rfl (t := 38) (exec_alloc rfl (zv38 _)) ?_; intro g2 hg wa ha hb; have HA := Lib.hid (show ∃ z : Array Value, z.size = 258 ∧ wa.heap[g2]? = some (.cells z 38 (0, 0)) from ⟨_, Array.size_replicate, ha⟩); have HB1 := Lib.hid (below_join HB0.out hb); have HG1 := Lib.hid (blkB HG.out hb); have h2 := Lib.hid (show w.heap.size ≤ g2 by have := HB0.out.size; omega); have l2 := Lib.hid (show g2 < wa.heap.size from (Array.getElem?_eq_some_iff.1 ha).1); clear ha hb hg)
    | ((with_reducible refine gate_dst (N := 3) rfl ?_); refine box_event rfl (N := 3) rfl (t := 38) (exec_alloc rfl (zv38 _)) ?_; intro g3 hg wb ha hb; obtain ⟨z, hz, ha⟩ : ∃ z : Array Value, z.size = 258 ∧ wb.heap[g3]? = some (.cells z 38 (0, 0)) := ⟨_, Array.size_replicate, ha⟩; have HB2 := below_join HB1.out hb; have HG2 := blkB HG1.out hb; have HA2 : ∃ z : Array Value, z.size = 258 ∧ wb.heap[g2]? = some (.cells z 38 (0, 0)) := (by obtain ⟨z, h, hz⟩ := HA.out; exact ⟨z, h, blkB hz hb⟩); have h3 : w.heap.size ≤ g3 := (by have := HB1.out.size; omega); have h13 : g ≠ g3 := (by have := (Array.getElem?_eq_some_iff.1 HG1.out).1; omega); have h31 := h13.symm; have h23 : g2 ≠ g3 := (by have := l2.out; omega);
       have c0 := blk_cell (j := 0) HG2 (b.at_ (by omega)); have c1 := blk_cell (j := 1) HG2 (b.at_ (by omega));
       obtain ⟨u0, hu0⟩ : ∃ u, z[0]? = some u := ⟨z[0]'(by omega), Array.getElem?_eq_getElem _⟩; obtain ⟨u1, hu1⟩ : ∃ u, z[1]? = some u := ⟨z[1]'(by omega), Array.getElem?_eq_getElem _⟩; have t0 := blk_cell ha hu0; have t1 := blk_cell ha hu1; have f0 := blk_frozen ha 0; have f1 := blk_frozen ha 1;
       have HW1 := setCell_eq_setRow wb g3 0 z _ _ (.int .i8 (b.z 0)) ha; have HW2 : (wb.setCell ⟨g3, 0, none⟩ (.int .i8 (b.z 0))).setCell ⟨g3, 1, none⟩ (.int .i8 (b.z 1)) = wb.setRow g3 ((z.setIfInBounds 0 (.int .i8 (b.z 0))).setIfInBounds 1 (.int .i8 (b.z 1))) := (by rw [HW1, setCell_eq_setRow _ g3 1 _ _ _ (.int .i8 (b.z 1)) (setRow_heap _ _ _ _ _ _ ha), setRow_setRow]);
       have HZL := Lib.hid hz;
       have HC := Lib.hid (show ((wb.setCell ⟨g3, 0, none⟩ (.int .i8 (b.z 0))).setCell ⟨g3, 1, none⟩ (.int .i8 (b.z 1))).heap[g3]? = some (.cells ((z.setIfInBounds 0 (.int .i8 (b.z 0))).setIfInBounds 1 (.int .i8 (b.z 1))) 38 (0, 0)) by rw [HW2]; exact setRow_heap _ _ _ _ _ _ ha);
       have HS := Lib.hid (show ((wb.setCell ⟨g3, 0, none⟩ (.int .i8 (b.z 0))).setCell ⟨g3, 1, none⟩ (.int .i8 (b.z 1))).heap[g]? = some (.cells b.A 26 (0, 0)) by rw [HW2]; exact (setRow_other _ _ _ _ h13).trans HG2);
       have HZ := Lib.hid (show ∃ z2 : Array Value, z2.size = 258 ∧ ((wb.setCell ⟨g3, 0, none⟩ (.int .i8 (b.z 0))).setCell ⟨g3, 1, none⟩ (.int .i8 (b.z 1))).heap[g2]? = some (.cells z2 38 (0, 0)) by obtain ⟨z2, q1, q2⟩ := HA2; exact ⟨z2, q1, by rw [HW2]; exact (setRow_other _ _ _ _ h23).trans q2⟩);
       have HD := Lib.hid (show Below w.heap.size w ((wb.setCell ⟨g3, 0, none⟩ (.int .i8 (b.z 0))).setCell ⟨g3, 1, none⟩ (.int .i8 (b.z 1))) by rw [HW2]; exact below_setRow HB2 h3 _);
       have h23' := Lib.hid h23; have h3' := Lib.hid h3;
       clear HW1 HW2 hu0 hu1 ha hb hg hz HB2 HG2 HA2 h23 h3)
    | ((with_reducible refine gate_dst (N := 11) rfl ?_); refine Kd.event_run rfl (exec_load_sub (n := 2) (cs := b.sub 2 256) rfl rfl HS.out (b.sub_in (by omega)) Try.underlying24 rfl (sz24 b)) ?_)
    | (go_at_call 36; refine (HQ.out _).mono ?_; rintro e w3 ⟨rfl, hb⟩; have HD0 := Lib.hid (below_join HD.out hb); have HC0 := Lib.hid (blkB HC.out hb); have HZ0 := Lib.hid (show ∃ z : Array Value, z.size = 258 ∧ w3.heap[g2]? = some (.cells z 38 (0, 0)) by obtain ⟨z, h, hz⟩ := HZ.out; exact ⟨z, h, blkB hz hb⟩); clear hb)
    | ((with_reducible refine gate_store (t := 24) (p := 13) rfl ?_); refine store_event (t := 24) (p := 13) rfl rfl rfl (exec_store_row (n := 2) (vs := b.sub 2 256) rfl rfl rfl HC0.out (by rw [Flat.sub_size]; simp [HZL.out]) (b.sub_one _ _) (sz24 b)) ?_; intro ws hws;
       have HC1 := Lib.hid (show ws.heap[g3]? = some (.cells b.A 38 (0, 0)) by rw [hws, setRow_heap _ _ _ _ _ _ HC0.out, bay_filled b z HZL.out]);
       have HD1 := Lib.hid (show Below w.heap.size w ws by rw [hws]; exact below_setRow HD0.out h3'.out _);
       have HZ1 := Lib.hid (show ∃ z : Array Value, z.size = 258 ∧ ws.heap[g2]? = some (.cells z 38 (0, 0)) by obtain ⟨z, hz, hz2⟩ := HZ0.out; exact ⟨z, hz, by rw [hws]; exact (setRow_other _ _ _ _ h23'.out).trans hz2⟩); clear hws)
    | ((with_reducible refine gate_dst (N := 14) rfl ?_); refine Kd.event_run rfl (exec_load_blk rfl rfl HC1.out Try.underlying38 rfl (szO38 b)) ?_)
    | ((with_reducible refine gate_store (t := 38) (p := 2) rfl ?_); obtain ⟨z9, hz9, hz8⟩ := HZ1.out; refine store_event (t := 38) (p := 2) rfl rfl rfl (exec_store_row (n := 0) (vs := b.A) rfl rfl rfl hz8 (by rw [hz9, Flat.size]; decide) b.one (szO38 b)) ?_; intro wt hwt; have HR := Lib.hid (show wt.heap[g2]? = some (.cells b.A 38 (0, 0)) by rw [hwt]; exact setRow_whole hz8 (by rw [hz9, Flat.size])); have HD2 := Lib.hid (show Below w.heap.size w wt by rw [hwt]; exact below_setRow HD1.out h2.out _); clear hwt hz8 hz9))
  (try simp only [Exit.inBlock, Exit.then])
  refine bodyPost_ret (results_cell rfl rfl (run_load_blk _ _ _ _ _ HR.out Try.underlying38 rfl (szO38 b))) rfl ?_
  exact ⟨rfl, HD2.out⟩
def laws_toBay.f (a0 : O26) : Option (O38) := some a0
def laws_toGrounds.f (a0 : O28) : Option (O40) := some a0
theorem laws_toBay.calls (a0 : O26) (r : O38) (w : World) (h : laws_toBay.f a0 = some r) :
    Calls Try.prog 10 #[VO26 a0] w fun e w' => e = .returned (VO38 r) ∧ Below w.heap.size w w' := by
  obtain rfl := Option.some.inj h
  exact toBay_any a0 w
theorem laws_toGrounds.calls (a0 : O28) (r : O40) (w : World) (h : laws_toGrounds.f a0 = some r) :
    Calls Try.prog 11 #[VO28 a0] w fun e w' => e = .returned (VO40 r) ∧ Below w.heap.size w w' := by
  obtain rfl := Option.some.inj h
  have := toGrounds_any a0 w
  rw [Flat.sub_whole] at this
  exact this
end Go.Proofs.Ytmhmfhdmeedcfaa.G
end
section
namespace Go.Proofs.Ytmhmfhdmeedcfaa.G
open Go.RowKit Go.Proofs.YtmhmfhdmeedcfaaW.PrintWords Go.Proofs.YtmhmfhdmeedcfaaW.PrintLast Go.Proofs.YtmhmfhdmeedcfaaW.PrintMore
attribute [local go_sem] max2_int min2_int max_two min_two max_three min_three max_four min_four   -- for this text's walks alone
set_option linter.unusedVariables false
set_option linter.unusedSimpArgs false
def laws_FnExactAgroundAt.j0 : Nat → List (S80) → List (S78) → Bool → Option (Bool)
  | 0, _, _, _ => none
  | k + 1, x3, x12, x52 => if x52 = true then (some false) else ((laws_toWindS.f k x3).bind fun t608 => ((laws_eqWindS.f k x12 t608).bind fun t611 => (if t611 = true then (some true) else (some false))))
def laws_FnExactAgroundAt.f (k : Nat) (a0 : O26) (a1 : O28) (a2_0 : Int) (a2_1 : Int) (a2_2 : Int) (a2_3 : Int) (a2_4 : Int) (a2_5 : Int) (l3 : List (S80)) : Option (Bool) := (laws_szWindS.f l3 1048576).bind fun t581 => (if t581 < 0 then (some true) else ((laws_toBay.f a0).bind fun t582 => ((laws_toGrounds.f a1).bind fun t583 => ((laws_toBoat.f a2_0 a2_1 a2_2 a2_3 a2_4 a2_5).bind fun bt584 => ((laws_toWindS.f k l3).bind fun t590 => ((spec_AgroundAt.f k t582 t583 bt584.1 bt584.2.1 bt584.2.2.1 bt584.2.2.2.1 bt584.2.2.2.2.1 bt584.2.2.2.2.2 t590).bind fun bt593 => ((laws_toWindS.f k l3).bind fun t595 => ((laws_toBay.f a0).bind fun t598 => ((laws_toGrounds.f a1).bind fun t599 => ((laws_toBoat.f a2_0 a2_1 a2_2 a2_3 a2_4 a2_5).bind fun bt600 => ((impl_AgroundAt.f k t598 t599 bt600.1 bt600.2.1 bt600.2.2.1 bt600.2.2.2.1 bt600.2.2.2.2.1 bt600.2.2.2.2.2 t595).bind fun bt606 => (if bt606.1 = bt593.1 then (laws_FnExactAgroundAt.j0 k l3 t595 (bt606.2 != bt593.2)) else (laws_FnExactAgroundAt.j0 k l3 t595 true)))))))))))))
def laws_FnExactAgroundAt.T5 : Bool × List (List Nat × List Nat) := (true, [([], []), ([0], [0]), ([], []), ([2, 1], [2]), ([], []), ([4, 3], [4]), ([], []), ([6, 5], [6]), ([1, 3, 5, 7, 7], [1, 3, 5, 7]), ([8], [8]), ([9], [9]), ([9], [9]), ([10, 8, 0, 1, 2, 3, 4, 5, 6, 7, 8, 9, 10], [10]), ([11, 12, 0, 1, 2, 3, 4, 5, 6, 7, 8, 9, 10, 11, 12], [11])])
def laws_FnExactAgroundAt.B5 : List Nat := [0, 1, 0, 7, 0, 31, 0, 127, 255, 511, 1023, 1023, 2047, 8191]
theorem laws_FnExactAgroundAt.tab5 : rtab .any (opsOf Try.f5 5) = laws_FnExactAgroundAt.T5 := by kernel_rfl
theorem laws_FnExactAgroundAt.bits5 : waitsOk laws_FnExactAgroundAt.T5.2 laws_FnExactAgroundAt.B5 = true := by kernel_rfl
def laws_FnExactAgroundAt.T7 : Bool × List (List Nat × List Nat) := (true, [([], []), ([0], [0]), ([], []), ([2, 1], [2]), ([], []), ([4, 3], [4]), ([], []), ([1, 3, 5, 6, 5], [1, 3, 5, 6]), ([7], [7]), ([8], [8]), ([8], [8]), ([9, 7, 0, 1, 2, 3, 4, 5, 6, 7, 8, 9], [9]), ([10, 11, 0, 1, 2, 3, 4, 5, 6, 7, 8, 9, 10, 11], [10])])
def laws_FnExactAgroundAt.B7 : List Nat := [0, 1, 0, 7, 0, 31, 0, 127, 255, 511, 511, 1023, 4095]
theorem laws_FnExactAgroundAt.tab7 : rtab .any (opsOf Try.f5 7) = laws_FnExactAgroundAt.T7 := by kernel_rfl
theorem laws_FnExactAgroundAt.bits7 : waitsOk laws_FnExactAgroundAt.T7.2 laws_FnExactAgroundAt.B7 = true := by kernel_rfl
set_option maxHeartbeats 8000000 in
set_option maxRecDepth 100000 in
theorem laws_FnExactAgroundAt.calls (k : Nat) (a0 : O26) (a1 : O28) (a2_0 : Int) (a2_1 : Int) (a2_2 : Int) (a2_3 : Int) (a2_4 : Int) (a2_5 : Int) (A3 : Option Addr) (c3 : Nat) (l3 : List (S80)) (r : Bool) (w : World) (hr0_ : r = true) (hr3 : Kd.C k80 w A3 l3.length l3) (hc3 : l3.length ≤ c3) (h : laws_FnExactAgroundAt.f k a0 a1 a2_0 a2_1 a2_2 a2_3 a2_4 a2_5 l3 = some r) :
    Calls Try.prog 5 #[VO26 a0, VO28 a1, .agg #[.int .i8 a2_0, .int .i8 a2_1, .int .i8 a2_2, .int .i8 a2_3, .int .i8 a2_4, .int .i8 a2_5], .slice A3 l3.length c3] w fun e w' => e = .returned (.bool r) ∧ Below w.heap.size w w' := by
  have hu32 := Try.underlying32
  have HR3 := Aside0.mk hr3
  have HC3 := Aside0.mk hc3
  clear hr3 hc3
  have hr_ := Aside0.mk hr0_
  clear hr0_
  have HB := Aside0.mk (Below.refl w.heap.size w)
  have H : ((laws_szWindS.f l3 1048576).bind fun t581 => (if t581 < 0 then (some true) else ((laws_toBay.f a0).bind fun t582 => ((laws_toGrounds.f a1).bind fun t583 => ((laws_toBoat.f a2_0 a2_1 a2_2 a2_3 a2_4 a2_5).bind fun bt584 => ((laws_toWindS.f k l3).bind fun t590 => ((spec_AgroundAt.f k t582 t583 bt584.1 bt584.2.1 bt584.2.2.1 bt584.2.2.2.1 bt584.2.2.2.2.1 bt584.2.2.2.2.2 t590).bind fun bt593 => ((laws_toWindS.f k l3).bind fun t595 => ((laws_toBay.f a0).bind fun t598 => ((laws_toGrounds.f a1).bind fun t599 => ((laws_toBoat.f a2_0 a2_1 a2_2 a2_3 a2_4 a2_5).bind fun bt600 => ((impl_AgroundAt.f k t598 t599 bt600.1 bt600.2.1 bt600.2.2.1 bt600.2.2.2.1 bt600.2.2.2.2.1 bt600.2.2.2.2.2 t595).bind fun bt606 => (if bt606.1 = bt593.1 then (laws_FnExactAgroundAt.j0 k l3 t595 (bt606.2 != bt593.2)) else (laws_FnExactAgroundAt.j0 k l3 t595 true)))))))))))))) = some r := h
  clear h
  replace H := Option.bind_eq_some_iff.mp H
  obtain ⟨t581, A50, H⟩ := H
  replace H : (if t581 < 0 then (some true) else ((laws_toBay.f a0).bind fun t582 => ((laws_toGrounds.f a1).bind fun t583 => ((laws_toBoat.f a2_0 a2_1 a2_2 a2_3 a2_4 a2_5).bind fun bt584 => ((laws_toWindS.f k l3).bind fun t590 => ((spec_AgroundAt.f k t582 t583 bt584.1 bt584.2.1 bt584.2.2.1 bt584.2.2.2.1 bt584.2.2.2.2.1 bt584.2.2.2.2.2 t590).bind fun bt593 => ((laws_toWindS.f k l3).bind fun t595 => ((laws_toBay.f a0).bind fun t598 => ((laws_toGrounds.f a1).bind fun t599 => ((laws_toBoat.f a2_0 a2_1 a2_2 a2_3 a2_4 a2_5).bind fun bt600 => ((impl_AgroundAt.f k t598 t599 bt600.1 bt600.2.1 bt600.2.2.1 bt600.2.2.2.1 bt600.2.2.2.2.1 bt600.2.2.2.2.2 t595).bind fun bt606 => (if bt606.1 = bt593.1 then (laws_FnExactAgroundAt.j0 k l3 t595 (bt606.2 != bt593.2)) else (laws_FnExactAgroundAt.j0 k l3 t595 true))))))))))))) = some r := H
  have A5 := Aside0.mk A50
  clear A50
  by_cases c6 : t581 < 0
  · rw [if_pos c6] at H
    have c6b0 : decide (t581 < 0) = true := decide_eq_true c6
    clear c6
    obtain rfl := Option.some.inj H
    go_enter Try.func5, Try.ntmps5
    go_wp2_with (first | ((with_reducible refine gate_dst (N := 4) rfl ?_); refine box_event ?hg (N := 4) ?hd (cs := (a0).A) (t := 26) ?hr ?_; (case hd => rfl); (case hg => rfl); (case hr => first | exact AR.run_box_row rfl rfl | (go_simp; done) | (go_simp; rfl)); intro gb578 hg w7 hbox hb; have n0_ := Aside0.mk (sqH HB.out hb); have n1_ := Aside0.mk (hbox); have n2_ := Aside0.mk ((by rw [hg]; exact (below_size (by repeat (first | (with_reducible first | exact HB.out | apply below_alloc | apply pw_below_drewN | apply below_drew1) | exact HB.out))) : w.heap.size ≤ gb578)); have n3_ := n2_; clear HB; have HB := n0_; have BK578 := n1_; have GW578 := n2_; have GE578 := n3_; clear n0_ n1_ n2_ n3_; clear hb hbox hg) | ((with_reducible refine gate_dst (N := 5) rfl ?_); refine box_event ?hg (N := 5) ?hd (cs := (a1).A) (t := 28) ?hr ?_; (case hd => rfl); (case hg => rfl); (case hr => first | exact AR.run_box_row rfl rfl | (go_simp; done) | (go_simp; rfl)); intro gb579 hg w8 hbox hb; have n0_ := Aside0.mk (sqB BK578.out hb); have n1_ := Aside0.mk (sqH HB.out hb); have n2_ := Aside0.mk (hbox); have n3_ := Aside0.mk ((by rw [hg]; exact (below_size (by repeat (first | (with_reducible first | exact HB.out | apply below_alloc | apply pw_below_drewN | apply below_drew1 | refine below_set ?_ GE578.out) | exact HB.out))) : w.heap.size ≤ gb579)); have n4_ := n3_; have n5_ := Aside0.mk ((by rw [hg]; exact Nat.ne_of_lt (blk_lt (g := gb578) (o := .cells (a0).A 26 (0, 0)) (sqO BK578.out)) : gb578 ≠ gb579)); have n6_ := Aside0.mk (Ne.symm n5_.out); clear BK578; clear HB; have BK578 := n0_; have HB := n1_; have BK579 := n2_; have GW579 := n3_; have GE579 := n4_; have NB578_579 := n5_; have NB579_578 := n6_; clear n0_ n1_ n2_ n3_ n4_ n5_ n6_; clear hb hbox hg) | ((with_reducible refine gate_dst (N := 6) rfl ?_); refine box_event ?hg (N := 6) ?hd (cs := #[.int .i8 a2_0, .int .i8 a2_1, .int .i8 a2_2, .int .i8 a2_3, .int .i8 a2_4, .int .i8 a2_5]) (t := 32) ?hr ?_; (case hd => rfl); (case hg => rfl); (case hr => first | (go_simp; done) | (go_simp; rfl)); intro gb580 hg w9 hbox hb; have n0_ := Aside0.mk (sqB BK578.out hb); have n1_ := Aside0.mk (sqB BK579.out hb); have n2_ := Aside0.mk (sqH HB.out hb); have n3_ := Aside0.mk (hbox); have n4_ := Aside0.mk ((by rw [hg]; exact (below_size (by repeat (first | (with_reducible first | exact HB.out | apply below_alloc | apply pw_below_drewN | apply below_drew1 | refine below_set ?_ GE578.out | refine below_set ?_ GE579.out) | exact HB.out))) : w.heap.size ≤ gb580)); have n5_ := n4_; have n6_ := Aside0.mk ((by rw [hg]; exact Nat.ne_of_lt (blk_lt (g := gb578) (o := .cells (a0).A 26 (0, 0)) (sqO BK578.out)) : gb578 ≠ gb580)); have n7_ := Aside0.mk (Ne.symm n6_.out); have n8_ := Aside0.mk ((by rw [hg]; exact Nat.ne_of_lt (blk_lt (g := gb579) (o := .cells (a1).A 28 (0, 0)) (sqO BK579.out)) : gb579 ≠ gb580)); have n9_ := Aside0.mk (Ne.symm n8_.out); clear BK578; clear BK579; clear HB; have BK578 := n0_; have BK579 := n1_; have HB := n2_; have BK580 := n3_; have GW580 := n4_; have GE580 := n5_; have NB578_580 := n6_; have NB580_578 := n7_; have NB579_580 := n8_; have NB580_579 := n9_; clear n0_ n1_ n2_ n3_ n4_ n5_ n6_ n7_ n8_ n9_; clear hb hbox hg) | ((with_reducible refine gate_callee (f := 8) rfl ?_); refine goesL_ (some 17) rfl rfl Try.func8 (by kernel_rfl) rfl #[.slice A3 l3.length c3, .int .i64 1048576] rfl (by (try simp only [List.map_toArray, List.map_cons, List.map_nil]); first | done | rfl | (simp only [List.length_drop, List.length_take]; rfl)) ?_; (with_reducible refine (laws_szWindS.calls _ _ l3 1048576 t581 _ ?side1 ?side2 A5.out).mono ?_); (case side1 => repeat (first | exact (Kd.C_below HR3.out HB.out) | (with_reducible refine Kd.C_alloc ?_ _) | (with_reducible refine Kd.C_drewN ?_ _) | (with_reducible refine Kd.C_drew ?_))); (case side2 => exact HC3.out); rintro e w' ⟨rfl, ⟨nd, rfl⟩⟩; refine ⟨_, rfl, ?_⟩))
    go_ret
    exact ⟨by first | rfl | (simp [errW_none, errW_some] <;> rfl) | (simp [*, errW_none, errW_some] <;> rfl), by repeat (first | (with_reducible first | exact HB.out | apply below_alloc | apply pw_below_drewN | apply below_drew1 | refine below_set ?_ GE578.out | refine below_set ?_ GE579.out | refine below_set ?_ GE580.out) | exact HB.out)⟩
  · rw [if_neg c6] at H
    have c6b0 : decide (t581 < 0) = false := decide_eq_false c6
    clear c6
    replace H := Option.bind_eq_some_iff.mp H
    obtain ⟨t582, A100, H⟩ := H
    replace H : ((laws_toGrounds.f a1).bind fun t583 => ((laws_toBoat.f a2_0 a2_1 a2_2 a2_3 a2_4 a2_5).bind fun bt584 => ((laws_toWindS.f k l3).bind fun t590 => ((spec_AgroundAt.f k t582 t583 bt584.1 bt584.2.1 bt584.2.2.1 bt584.2.2.2.1 bt584.2.2.2.2.1 bt584.2.2.2.2.2 t590).bind fun bt593 => ((laws_toWindS.f k l3).bind fun t595 => ((laws_toBay.f a0).bind fun t598 => ((laws_toGrounds.f a1).bind fun t599 => ((laws_toBoat.f a2_0 a2_1 a2_2 a2_3 a2_4 a2_5).bind fun bt600 => ((impl_AgroundAt.f k t598 t599 bt600.1 bt600.2.1 bt600.2.2.1 bt600.2.2.2.1 bt600.2.2.2.2.1 bt600.2.2.2.2.2 t595).bind fun bt606 => (if bt606.1 = bt593.1 then (laws_FnExactAgroundAt.j0 k l3 t595 (bt606.2 != bt593.2)) else (laws_FnExactAgroundAt.j0 k l3 t595 true))))))))))) = some r := H
    have A10 := Aside0.mk A100
    clear A100
    replace H := Option.bind_eq_some_iff.mp H
    obtain ⟨t583, A110, H⟩ := H
    replace H : ((laws_toBoat.f a2_0 a2_1 a2_2 a2_3 a2_4 a2_5).bind fun bt584 => ((laws_toWindS.f k l3).bind fun t590 => ((spec_AgroundAt.f k t582 t583 bt584.1 bt584.2.1 bt584.2.2.1 bt584.2.2.2.1 bt584.2.2.2.2.1 bt584.2.2.2.2.2 t590).bind fun bt593 => ((laws_toWindS.f k l3).bind fun t595 => ((laws_toBay.f a0).bind fun t598 => ((laws_toGrounds.f a1).bind fun t599 => ((laws_toBoat.f a2_0 a2_1 a2_2 a2_3 a2_4 a2_5).bind fun bt600 => ((impl_AgroundAt.f k t598 t599 bt600.1 bt600.2.1 bt600.2.2.1 bt600.2.2.2.1 bt600.2.2.2.2.1 bt600.2.2.2.2.2 t595).bind fun bt606 => (if bt606.1 = bt593.1 then (laws_FnExactAgroundAt.j0 k l3 t595 (bt606.2 != bt593.2)) else (laws_FnExactAgroundAt.j0 k l3 t595 true)))))))))) = some r := H
    have A11 := Aside0.mk A110
    clear A110
    replace H := Option.bind_eq_some_iff.mp H
    obtain ⟨⟨t584, t585, t586, t587, t588, t589⟩, A120, H⟩ := H
    replace H : ((laws_toWindS.f k l3).bind fun t590 => ((spec_AgroundAt.f k t582 t583 t584 t585 t586 t587 t588 t589 t590).bind fun bt593 => ((laws_toWindS.f k l3).bind fun t595 => ((laws_toBay.f a0).bind fun t598 => ((laws_toGrounds.f a1).bind fun t599 => ((laws_toBoat.f a2_0 a2_1 a2_2 a2_3 a2_4 a2_5).bind fun bt600 => ((impl_AgroundAt.f k t598 t599 bt600.1 bt600.2.1 bt600.2.2.1 bt600.2.2.2.1 bt600.2.2.2.2.1 bt600.2.2.2.2.2 t595).bind fun bt606 => (if bt606.1 = bt593.1 then (laws_FnExactAgroundAt.j0 k l3 t595 (bt606.2 != bt593.2)) else (laws_FnExactAgroundAt.j0 k l3 t595 true))))))))) = some r := H
    have A12 := Aside0.mk A120
    clear A120
    replace H := Option.bind_eq_some_iff.mp H
    obtain ⟨t590, A130, H⟩ := H
    replace H : ((spec_AgroundAt.f k t582 t583 t584 t585 t586 t587 t588 t589 t590).bind fun bt593 => ((laws_toWindS.f k l3).bind fun t595 => ((laws_toBay.f a0).bind fun t598 => ((laws_toGrounds.f a1).bind fun t599 => ((laws_toBoat.f a2_0 a2_1 a2_2 a2_3 a2_4 a2_5).bind fun bt600 => ((impl_AgroundAt.f k t598 t599 bt600.1 bt600.2.1 bt600.2.2.1 bt600.2.2.2.1 bt600.2.2.2.2.1 bt600.2.2.2.2.2 t595).bind fun bt606 => (if bt606.1 = bt593.1 then (laws_FnExactAgroundAt.j0 k l3 t595 (bt606.2 != bt593.2)) else (laws_FnExactAgroundAt.j0 k l3 t595 true)))))))) = some r := H
    have A13 := Aside0.mk A130
    clear A130
    replace H := Option.bind_eq_some_iff.mp H
    obtain ⟨⟨t593, t594⟩, A140, H⟩ := H
    replace H : ((laws_toWindS.f k l3).bind fun t595 => ((laws_toBay.f a0).bind fun t598 => ((laws_toGrounds.f a1).bind fun t599 => ((laws_toBoat.f a2_0 a2_1 a2_2 a2_3 a2_4 a2_5).bind fun bt600 => ((impl_AgroundAt.f k t598 t599 bt600.1 bt600.2.1 bt600.2.2.1 bt600.2.2.2.1 bt600.2.2.2.2.1 bt600.2.2.2.2.2 t595).bind fun bt606 => (if bt606.1 = t593 then (laws_FnExactAgroundAt.j0 k l3 t595 (bt606.2 != t594)) else (laws_FnExactAgroundAt.j0 k l3 t595 true))))))) = some r := H
    have A14 := Aside0.mk A140
    clear A140
    replace H := Option.bind_eq_some_iff.mp H
    obtain ⟨t595, A150, H⟩ := H
    replace H : ((laws_toBay.f a0).bind fun t598 => ((laws_toGrounds.f a1).bind fun t599 => ((laws_toBoat.f a2_0 a2_1 a2_2 a2_3 a2_4 a2_5).bind fun bt600 => ((impl_AgroundAt.f k t598 t599 bt600.1 bt600.2.1 bt600.2.2.1 bt600.2.2.2.1 bt600.2.2.2.2.1 bt600.2.2.2.2.2 t595).bind fun bt606 => (if bt606.1 = t593 then (laws_FnExactAgroundAt.j0 k l3 t595 (bt606.2 != t594)) else (laws_FnExactAgroundAt.j0 k l3 t595 true)))))) = some r := H
    have A15 := Aside0.mk A150
    clear A150
    replace H := Option.bind_eq_some_iff.mp H
    obtain ⟨t598, A160, H⟩ := H
    replace H : ((laws_toGrounds.f a1).bind fun t599 => ((laws_toBoat.f a2_0 a2_1 a2_2 a2_3 a2_4 a2_5).bind fun bt600 => ((impl_AgroundAt.f k t598 t599 bt600.1 bt600.2.1 bt600.2.2.1 bt600.2.2.2.1 bt600.2.2.2.2.1 bt600.2.2.2.2.2 t595).bind fun bt606 => (if bt606.1 = t593 then (laws_FnExactAgroundAt.j0 k l3 t595 (bt606.2 != t594)) else (laws_FnExactAgroundAt.j0 k l3 t595 true))))) = some r := H
    have A16 := Aside0.mk A160
    clear A160
    replace H := Option.bind_eq_some_iff.mp H
    obtain ⟨t599, A170, H⟩ := H
    replace H : ((laws_toBoat.f a2_0 a2_1 a2_2 a2_3 a2_4 a2_5).bind fun bt600 => ((impl_AgroundAt.f k t598 t599 bt600.1 bt600.2.1 bt600.2.2.1 bt600.2.2.2.1 bt600.2.2.2.2.1 bt600.2.2.2.2.2 t595).bind fun bt606 => (if bt606.1 = t593 then (laws_FnExactAgroundAt.j0 k l3 t595 (bt606.2 != t594)) else (laws_FnExactAgroundAt.j0 k l3 t595 true)))) = some r := H
    have A17 := Aside0.mk A170
    clear A170
    replace H := Option.bind_eq_some_iff.mp H
    obtain ⟨⟨t600, t601, t602, t603, t604, t605⟩, A180, H⟩ := H
    replace H : ((impl_AgroundAt.f k t598 t599 t600 t601 t602 t603 t604 t605 t595).bind fun bt606 => (if bt606.1 = t593 then (laws_FnExactAgroundAt.j0 k l3 t595 (bt606.2 != t594)) else (laws_FnExactAgroundAt.j0 k l3 t595 true))) = some r := H
    have A18 := Aside0.mk A180
    clear A180
    replace H := Option.bind_eq_some_iff.mp H
    obtain ⟨⟨t606, t607⟩, A190, H⟩ := H
    replace H : (if t606 = t593 then (laws_FnExactAgroundAt.j0 k l3 t595 (t607 != t594)) else (laws_FnExactAgroundAt.j0 k l3 t595 true)) = some r := H
    have A19 := Aside0.mk A190
    clear A190
    have HC20 := Aside0.mk H
    clear H
    go_enter Try.func5, Try.ntmps5
    try go_wp2_with (first | ((with_reducible refine gate_dst (N := 4) rfl ?_); refine box_event ?hg (N := 4) ?hd (cs := (a0).A) (t := 26) ?hr ?_; (case hd => rfl); (case hg => rfl); (case hr => first | exact AR.run_box_row rfl rfl | (go_simp; done) | (go_simp; rfl)); intro gb578 hg w21 hbox hb; have n0_ := Aside0.mk (sqH HB.out hb); have n1_ := Aside0.mk (hbox); have n2_ := Aside0.mk ((by rw [hg]; exact (below_size (by repeat (first | (with_reducible first | exact HB.out | apply below_alloc | apply pw_below_drewN | apply below_drew1) | exact HB.out))) : w.heap.size ≤ gb578)); have n3_ := n2_; clear HB; have HB := n0_; have BK578 := n1_; have GW578 := n2_; have GE578 := n3_; clear n0_ n1_ n2_ n3_; clear hb hbox hg) | ((with_reducible refine gate_dst (N := 5) rfl ?_); refine box_event ?hg (N := 5) ?hd (cs := (a1).A) (t := 28) ?hr ?_; (case hd => rfl); (case hg => rfl); (case hr => first | exact AR.run_box_row rfl rfl | (go_simp; done) | (go_simp; rfl)); intro gb579 hg w22 hbox hb; have n0_ := Aside0.mk (sqB BK578.out hb); have n1_ := Aside0.mk (sqH HB.out hb); have n2_ := Aside0.mk (hbox); have n3_ := Aside0.mk ((by rw [hg]; exact (below_size (by repeat (first | (with_reducible first | exact HB.out | apply below_alloc | apply pw_below_drewN | apply below_drew1 | refine below_set ?_ GE578.out) | exact HB.out))) : w.heap.size ≤ gb579)); have n4_ := n3_; have n5_ := Aside0.mk ((by rw [hg]; exact Nat.ne_of_lt (blk_lt (g := gb578) (o := .cells (a0).A 26 (0, 0)) (sqO BK578.out)) : gb578 ≠ gb579)); have n6_ := Aside0.mk (Ne.symm n5_.out); clear BK578; clear HB; have BK578 := n0_; have HB := n1_; have BK579 := n2_; have GW579 := n3_; have GE579 := n4_; have NB578_579 := n5_; have NB579_578 := n6_; clear n0_ n1_ n2_ n3_ n4_ n5_ n6_; clear hb hbox hg) | ((with_reducible refine gate_dst (N := 6) rfl ?_); refine box_event ?hg (N := 6) ?hd (cs := #[.int .i8 a2_0, .int .i8 a2_1, .int .i8 a2_2, .int .i8 a2_3, .int .i8 a2_4, .int .i8 a2_5]) (t := 32) ?hr ?_; (case hd => rfl); (case hg => rfl); (case hr => first | (go_simp; done) | (go_simp; rfl)); intro gb580 hg w23 hbox hb; have n0_ := Aside0.mk (sqB BK578.out hb); have n1_ := Aside0.mk (sqB BK579.out hb); have n2_ := Aside0.mk (sqH HB.out hb); have n3_ := Aside0.mk (hbox); have n4_ := Aside0.mk ((by rw [hg]; exact (below_size (by repeat (first | (with_reducible first | exact HB.out | apply below_alloc | apply pw_below_drewN | apply below_drew1 | refine below_set ?_ GE578.out | refine below_set ?_ GE579.out) | exact HB.out))) : w.heap.size ≤ gb580)); have n5_ := n4_; have n6_ := Aside0.mk ((by rw [hg]; exact Nat.ne_of_lt (blk_lt (g := gb578) (o := .cells (a0).A 26 (0, 0)) (sqO BK578.out)) : gb578 ≠ gb580)); have n7_ := Aside0.mk (Ne.symm n6_.out); have n8_ := Aside0.mk ((by rw [hg]; exact Nat.ne_of_lt (blk_lt (g := gb579) (o := .cells (a1).A 28 (0, 0)) (sqO BK579.out)) : gb579 ≠ gb580)); have n9_ := Aside0.mk (Ne.symm n8_.out); clear BK578; clear BK579; clear HB; have BK578 := n0_; have BK579 := n1_; have HB := n2_; have BK580 := n3_; have GW580 := n4_; have GE580 := n5_; have NB578_580 := n6_; have NB580_578 := n7_; have NB579_580 := n8_; have NB580_579 := n9_; clear n0_ n1_ n2_ n3_ n4_ n5_ n6_ n7_ n8_ n9_; clear hb hbox hg) | ((with_reducible refine gate_callee (f := 8) rfl ?_); refine goesL_ (some 17) rfl rfl Try.func8 (by kernel_rfl) rfl #[.slice A3 l3.length c3, .int .i64 1048576] rfl (by (try simp only [List.map_toArray, List.map_cons, List.map_nil]); first | done | rfl | (simp only [List.length_drop, List.length_take]; rfl)) ?_; (with_reducible refine (laws_szWindS.calls _ _ l3 1048576 t581 _ ?side1 ?side2 A5.out).mono ?_); (case side1 => repeat (first | exact (Kd.C_below HR3.out HB.out) | (with_reducible refine Kd.C_alloc ?_ _) | (with_reducible refine Kd.C_drewN ?_ _) | (with_reducible refine Kd.C_drew ?_))); (case side2 => exact HC3.out); rintro e w' ⟨rfl, ⟨nd, rfl⟩⟩; refine ⟨_, rfl, ?_⟩))
    (try (rw [drewN_self w23]; generalize hq_ : World.drewN w23 _ = w23; have n0_ : Aside0 (w23.heap[gb578]? = some (.cells (a0).A 26 (0, 0))) := ⟨by rw [← hq_]; exact (sqO BK578.out)⟩; have n1_ : Aside0 (w23.heap[gb579]? = some (.cells (a1).A 28 (0, 0))) := ⟨by rw [← hq_]; exact (sqO BK579.out)⟩; have n2_ : Aside0 (w23.heap[gb580]? = some (.cells #[.int .i8 a2_0, .int .i8 a2_1, .int .i8 a2_2, .int .i8 a2_3, .int .i8 a2_4, .int .i8 a2_5] 32 (0, 0))) := ⟨by rw [← hq_]; exact (sqO BK580.out)⟩; have n3_ : Aside0 (Below w.heap.size w w23) := ⟨by rw [← hq_]; exact (by repeat (first | (with_reducible first | exact HB.out | apply below_alloc | apply pw_below_drewN | apply below_drew1 | refine below_set ?_ GE578.out | refine below_set ?_ GE579.out | refine below_set ?_ GE580.out) | exact HB.out))⟩; clear BK578 BK579 BK580 HB hq_; have BK578 := n0_; have BK579 := n1_; have BK580 := n2_; have HB := n3_; clear n0_ n1_ n2_ n3_))
    have n0_ := Aside0.mk (blk_drew BK578.out)
    have n1_ := Aside0.mk (blk_drew BK579.out)
    have n2_ := Aside0.mk (blk_drew BK580.out)
    have n3_ := Aside0.mk (below_drew1 HB.out)
    clear BK578
    clear BK579
    clear BK580
    clear HB
    have BK578 := n0_
    have BK579 := n1_
    have BK580 := n2_
    have HB := n3_
    clear n0_ n1_ n2_ n3_
    refine start_ (n := 14) (S := fun w' => w'.heap[gb578]? = some (.cells (a0).A 26 (0, 0)) ∧ w'.heap[gb579]? = some (.cells (a1).A 28 (0, 0)) ∧ w'.cell? ⟨gb580, 0, none⟩ = some (.int .i8 a2_0) ∧ w'.cell? ⟨gb580, 1, none⟩ = some (.int .i8 a2_1) ∧ w'.cell? ⟨gb580, 2, none⟩ = some (.int .i8 a2_2) ∧ w'.cell? ⟨gb580, 3, none⟩ = some (.int .i8 a2_3) ∧ w'.cell? ⟨gb580, 4, none⟩ = some (.int .i8 a2_4) ∧ w'.cell? ⟨gb580, 5, none⟩ = some (.int .i8 a2_5)) (ds := []) #[false, false, false, false, false, false, false, false, false, false, false, false, false, false] (by kernel_rfl) rfl rfl ⟨BK578.out, BK579.out, (blk_cell BK580.out 0).trans rfl, (blk_cell BK580.out 1).trans rfl, (blk_cell BK580.out 2).trans rfl, (blk_cell BK580.out 3).trans rfl, (blk_cell BK580.out 4).trans rfl, (blk_cell BK580.out 5).trans rfl⟩ (fun hHeld => ?_); refine with_tabW laws_FnExactAgroundAt.tab5 laws_FnExactAgroundAt.bits5 (fun HT_ HW_ => ?_)
    generalize w23.drew = w24 at BK578 BK579 BK580 HB hHeld ⊢
    refine pure_ (i := 6) (N := some 27) (v := ?_) (a' := ?_) #[false, false, false, false, false, false, true, false, false, false, false, false, false, false] rfl rfl (any_of HT_.out (by kernel_rfl)) (fun _ _ _ h => h) (Or.inl ⟨by rfl, ?_⟩) ?_ ?_
    rotate_left
    · intro w'
      go_simp
      with_reducible rfl
    rotate_left
    · simp only [Act.put, List.setIfInBounds_toArray, List.set_cons_zero, List.set_cons_succ, i64_w, i32_w]
      rfl
    refine take_ (i := 0) (N := some 21) (v := ?_) (a' := ?_) #[true, false, false, false, false, false, true, false, false, false, false, false, false, false] rfl rfl (take_ofW HT_.out HW_.out (by kernel_rfl)) (fun _ _ _ h => h) (Or.inl ⟨by rfl, ?_⟩) hHeld ?_ ?_
    rotate_left
    · rintro w' ⟨s0, s1, s2, s3, s4, s5, s6, s7⟩
      skip
      first | (refine Eq.trans (AR.exec_load_blk rfl rfl s0 Try.underlying26 rfl (szO26 _)) ?_; with_reducible rfl) | (refine Eq.trans (AR.exec_load_blk rfl rfl s1 Try.underlying28 rfl (szO28 _)) ?_; with_reducible rfl) | (go_simp; with_reducible rfl)
    rotate_left
    · simp only [Act.put, List.setIfInBounds_toArray, List.set_cons_zero, List.set_cons_succ, i64_w, i32_w]
      rfl
    refine take_ (i := 2) (N := some 23) (v := ?_) (a' := ?_) #[true, false, true, false, false, false, true, false, false, false, false, false, false, false] rfl rfl (take_ofW HT_.out HW_.out (by kernel_rfl)) (fun _ _ _ h => h) (Or.inl ⟨by rfl, ?_⟩) hHeld ?_ ?_
    rotate_left
    · rintro w' ⟨s0, s1, s2, s3, s4, s5, s6, s7⟩
      skip
      first | (refine Eq.trans (AR.exec_load_blk rfl rfl s0 Try.underlying26 rfl (szO26 _)) ?_; with_reducible rfl) | (refine Eq.trans (AR.exec_load_blk rfl rfl s1 Try.underlying28 rfl (szO28 _)) ?_; with_reducible rfl) | (go_simp; with_reducible rfl)
    rotate_left
    · simp only [Act.put, List.setIfInBounds_toArray, List.set_cons_zero, List.set_cons_succ, i64_w, i32_w]
      rfl
    refine take_ (i := 4) (N := some 25) (v := ?_) (a' := ?_) #[true, false, true, false, true, false, true, false, false, false, false, false, false, false] rfl rfl (take_ofW HT_.out HW_.out (by kernel_rfl)) (fun _ _ _ h => h) (Or.inl ⟨by rfl, ?_⟩) hHeld ?_ ?_
    rotate_left
    · rintro w' ⟨s0, s1, s2, s3, s4, s5, s6, s7⟩
      skip
      first | (refine Eq.trans (AR.exec_load_blk rfl rfl s0 Try.underlying26 rfl (szO26 _)) ?_; with_reducible rfl) | (refine Eq.trans (AR.exec_load_blk rfl rfl s1 Try.underlying28 rfl (szO28 _)) ?_; with_reducible rfl) | (go_simp; with_reducible rfl)
    rotate_left
    · simp only [Act.put, List.setIfInBounds_toArray, List.set_cons_zero, List.set_cons_succ, i64_w, i32_w]
      rfl
    refine one_ (i := 1) (N := some 22) #[true, true, true, false, true, false, true, false, false, false, false, false, false, false] rfl rfl (one_of HT_.out (by kernel_rfl)) (by decide) (fun K hK => ?_)
    refine goes_ Try.func10 (by kernel_rfl) rfl #[VO26 a0] (by rfl) rfl rfl (by (try simp only [List.map_toArray, List.map_cons, List.map_nil]); first | done | rfl | (simp only [List.length_drop, List.length_take]; rfl)) ?_
    with_reducible refine (laws_toBay.calls a0 t582 _ A10.out).mono ?_
    rintro e w25 ⟨rfl, hb⟩
    refine ⟨_, rfl, ?_⟩
    have n0_ := Aside0.mk (sqB BK578.out hb)
    have n1_ := Aside0.mk (sqB BK579.out hb)
    have n2_ := Aside0.mk (sqB BK580.out hb)
    have n3_ := Aside0.mk (sqH HB.out hb)
    clear BK578
    clear BK579
    clear BK580
    clear HB
    have BK578 := n0_
    have BK579 := n1_
    have BK580 := n2_
    have HB := n3_
    clear n0_ n1_ n2_ n3_
    (try clear hb)
    (try clear hb2)
    (try clear hk)
    (try clear hi)
    refine hK.out _ _ ⟨BK578.out, BK579.out, (blk_cell BK580.out 0).trans rfl, (blk_cell BK580.out 1).trans rfl, (blk_cell BK580.out 2).trans rfl, (blk_cell BK580.out 3).trans rfl, (blk_cell BK580.out 4).trans rfl, (blk_cell BK580.out 5).trans rfl⟩ (fun hHeld => ?_)
    clear hK K
    refine norm_ (a' := ?_) ?_ ?_
    rotate_left
    · show Act.put _ (some 22) _ = _
      simp only [Act.put, List.setIfInBounds_toArray, List.set_cons_zero, List.set_cons_succ, i64_w, i32_w]
      rfl
    refine one_ (i := 3) (N := some 24) #[true, true, true, true, true, false, true, false, false, false, false, false, false, false] rfl rfl (one_of HT_.out (by kernel_rfl)) (by decide) (fun K hK => ?_)
    refine goes_ Try.func11 (by kernel_rfl) rfl #[VO28 a1] (by rfl) rfl rfl (by (try simp only [List.map_toArray, List.map_cons, List.map_nil]); first | done | rfl | (simp only [List.length_drop, List.length_take]; rfl)) ?_
    with_reducible refine (laws_toGrounds.calls a1 t583 _ A11.out).mono ?_
    rintro e w26 ⟨rfl, hb⟩
    refine ⟨_, rfl, ?_⟩
    have n0_ := Aside0.mk (sqB BK578.out hb)
    have n1_ := Aside0.mk (sqB BK579.out hb)
    have n2_ := Aside0.mk (sqB BK580.out hb)
    have n3_ := Aside0.mk (sqH HB.out hb)
    clear BK578
    clear BK579
    clear BK580
    clear HB
    have BK578 := n0_
    have BK579 := n1_
    have BK580 := n2_
    have HB := n3_
    clear n0_ n1_ n2_ n3_
    (try clear hb)
    (try clear hb2)
    (try clear hk)
    (try clear hi)
    refine hK.out _ _ ⟨BK578.out, BK579.out, (blk_cell BK580.out 0).trans rfl, (blk_cell BK580.out 1).trans rfl, (blk_cell BK580.out 2).trans rfl, (blk_cell BK580.out 3).trans rfl, (blk_cell BK580.out 4).trans rfl, (blk_cell BK580.out 5).trans rfl⟩ (fun hHeld => ?_)
    clear hK K
    refine norm_ (a' := ?_) ?_ ?_
    rotate_left
    · show Act.put _ (some 24) _ = _
      simp only [Act.put, List.setIfInBounds_toArray, List.set_cons_zero, List.set_cons_succ, i64_w, i32_w]
      rfl
    refine one_ (i := 5) (N := some 26) #[true, true, true, true, true, true, true, false, false, false, false, false, false, false] rfl rfl (one_of HT_.out (by kernel_rfl)) (by decide) (fun K hK => ?_)
    refine goes_ Try.func12 (by kernel_rfl) rfl #[.agg #[.int .i8 a2_0, .int .i8 a2_1, .int .i8 a2_2, .int .i8 a2_3, .int .i8 a2_4, .int .i8 a2_5]] (by rfl) rfl rfl (by (try simp only [List.map_toArray, List.map_cons, List.map_nil]); first | done | rfl | (simp only [List.length_drop, List.length_take]; rfl)) ?_
    with_reducible refine (laws_toBoat.calls a2_0 a2_1 a2_2 a2_3 a2_4 a2_5 t584 t585 t586 t587 t588 t589 _ A12.out).mono ?_
    rintro e w27 ⟨rfl, hb⟩
    refine ⟨_, rfl, ?_⟩
    have n0_ := Aside0.mk (sqB BK578.out hb)
    have n1_ := Aside0.mk (sqB BK579.out hb)
    have n2_ := Aside0.mk (sqB BK580.out hb)
    have n3_ := Aside0.mk (sqH HB.out hb)
    clear BK578
    clear BK579
    clear BK580
    clear HB
    have BK578 := n0_
    have BK579 := n1_
    have BK580 := n2_
    have HB := n3_
    clear n0_ n1_ n2_ n3_
    (try clear hb)
    (try clear hb2)
    (try clear hk)
    (try clear hi)
    refine hK.out _ _ ⟨BK578.out, BK579.out, (blk_cell BK580.out 0).trans rfl, (blk_cell BK580.out 1).trans rfl, (blk_cell BK580.out 2).trans rfl, (blk_cell BK580.out 3).trans rfl, (blk_cell BK580.out 4).trans rfl, (blk_cell BK580.out 5).trans rfl⟩ (fun hHeld => ?_)
    clear hK K
    refine norm_ (a' := ?_) ?_ ?_
    rotate_left
    · show Act.put _ (some 26) _ = _
      simp only [Act.put, List.setIfInBounds_toArray, List.set_cons_zero, List.set_cons_succ, i64_w, i32_w]
      rfl
    refine one_ (i := 7) (N := some 28) #[true, true, true, true, true, true, true, true, false, false, false, false, false, false] rfl rfl (one_of HT_.out (by kernel_rfl)) (by decide) (fun K hK => ?_)
    refine goes_ Try.func13 (by kernel_rfl) rfl #[.slice A3 l3.length c3] (by rfl) rfl rfl (by (try simp only [List.map_toArray, List.map_cons, List.map_nil]); first | done | rfl | (simp only [List.length_drop, List.length_take]; rfl)) ?_
    with_reducible refine (laws_toWindS.calls k _ _ l3 t590 _ ?side1 ?side2 A13.out).mono ?_
    (case side1 => repeat (first | exact (Kd.C_below HR3.out HB.out) | (with_reducible refine Kd.C_alloc ?_ _) | (with_reducible refine Kd.C_drewN ?_ _) | (with_reducible refine Kd.C_drew ?_)))
    (case side2 => exact HC3.out)
    rintro e w28 ⟨v591, rfl, ho0, hb⟩
    refine ⟨_, rfl, ?_⟩
    have n0_ := Aside0.mk (Kd.R_lower ho0 (below_size (by repeat (first | (with_reducible first | exact HB.out | apply below_alloc | apply pw_below_drewN | apply below_drew1 | refine below_set ?_ GE578.out | refine below_set ?_ GE579.out | refine below_set ?_ GE580.out) | exact HB.out))))
    have n1_ := Aside0.mk (sqB BK578.out hb)
    have n2_ := Aside0.mk (sqB BK579.out hb)
    have n3_ := Aside0.mk (sqB BK580.out hb)
    have n4_ := Aside0.mk (sqH HB.out hb)
    clear BK578
    clear BK579
    clear BK580
    clear HB
    have HO592 := n0_
    have BK578 := n1_
    have BK579 := n2_
    have BK580 := n3_
    have HB := n4_
    clear n0_ n1_ n2_ n3_ n4_
    (try clear hb)
    (try clear hb2)
    (try clear hk)
    (try clear hi)
    (try clear ho0)
    obtain ⟨Ao29, co29, eo29⟩ := Kd.R_slice HO592.out
    (first | subst eo29 | (injection eo29 with f1_ f2_ f3_; have f4_ := f1_.symm; have f5_ := f3_.symm; clear f1_ f2_ f3_; subst f4_; subst f5_))
    refine hK.out _ _ ⟨BK578.out, BK579.out, (blk_cell BK580.out 0).trans rfl, (blk_cell BK580.out 1).trans rfl, (blk_cell BK580.out 2).trans rfl, (blk_cell BK580.out 3).trans rfl, (blk_cell BK580.out 4).trans rfl, (blk_cell BK580.out 5).trans rfl⟩ (fun hHeld => ?_)
    clear hK K
    refine norm_ (a' := ?_) ?_ ?_
    rotate_left
    · show Act.put _ (some 28) _ = _
      simp only [Act.put, List.setIfInBounds_toArray, List.set_cons_zero, List.set_cons_succ, i64_w, i32_w]
      rfl
    refine one_ (i := 8) (N := some 29) #[true, true, true, true, true, true, true, true, true, false, false, false, false, false] rfl rfl (one_of HT_.out (by kernel_rfl)) (by decide) (fun K hK => ?_)
    refine goes_ Try.func22 (by kernel_rfl) rfl #[VO38 t582, VO40 t583, .agg #[.int .i8 t584, .int .i8 t585, .int .i8 t586, .int .i8 t587, .int .i8 t588, .int .i8 t589], .slice Ao29 t590.length co29] (by rfl) rfl rfl (by (try simp only [List.map_toArray, List.map_cons, List.map_nil]); first | done | rfl | (simp only [List.length_drop, List.length_take]; rfl)) ?_
    with_reducible refine (spec_AgroundAt.calls k t582 t583 t584 t585 t586 t587 t588 t589 _ _ t590 t593 t594 _ ?side1 ?side2 A14.out).mono ?_
    (case side1 => repeat (first | exact (Kd.R_reads' HO592.out).2.2 | (with_reducible refine Kd.C_alloc ?_ _) | (with_reducible refine Kd.C_drewN ?_ _) | (with_reducible refine Kd.C_drew ?_)))
    (case side2 => exact (Kd.R_reads' HO592.out).2.1)
    rintro e w30 ⟨rfl, hb⟩
    refine ⟨_, rfl, ?_⟩
    have n0_ := Aside0.mk (Kd.R_below (by (with_reducible repeat (first | apply Kd.R_alloc | apply Kd.R_drewN | apply Kd.R_drew)); exact HO592.out) hb)
    have n1_ := Aside0.mk (sqB BK578.out hb)
    have n2_ := Aside0.mk (sqB BK579.out hb)
    have n3_ := Aside0.mk (sqB BK580.out hb)
    have n4_ := Aside0.mk (sqH HB.out hb)
    clear HO592
    clear BK578
    clear BK579
    clear BK580
    clear HB
    have HO592 := n0_
    have BK578 := n1_
    have BK579 := n2_
    have BK580 := n3_
    have HB := n4_
    clear n0_ n1_ n2_ n3_ n4_
    (try clear hb)
    (try clear hb2)
    (try clear hk)
    (try clear hi)
    refine hK.out _ _ ⟨BK578.out, BK579.out, (blk_cell BK580.out 0).trans rfl, (blk_cell BK580.out 1).trans rfl, (blk_cell BK580.out 2).trans rfl, (blk_cell BK580.out 3).trans rfl, (blk_cell BK580.out 4).trans rfl, (blk_cell BK580.out 5).trans rfl⟩ (fun hHeld => ?_)
    clear hK K
    refine norm_ (a' := ?_) ?_ ?_
    rotate_left
    · show Act.put _ (some 29) _ = _
      simp only [Act.put, List.setIfInBounds_toArray, List.set_cons_zero, List.set_cons_succ, i64_w, i32_w]
      rfl
    refine pure_ (i := 9) (N := some 20) (v := ?_) (a' := ?_) #[true, true, true, true, true, true, true, true, true, true, false, false, false, false] rfl rfl (any_of HT_.out (by kernel_rfl)) (fun _ _ _ h => h) (Or.inl ⟨by rfl, ?_⟩) ?_ ?_
    rotate_left
    · intro w'
      go_simp
      with_reducible rfl
    rotate_left
    · simp only [Act.put, List.setIfInBounds_toArray, List.set_cons_zero, List.set_cons_succ, i64_w, i32_w]
      rfl
    refine pure_ (i := 10) (N := some 30) (v := ?_) (a' := ?_) #[true, true, true, true, true, true, true, true, true, true, true, false, false, false] rfl rfl (any_of HT_.out (by kernel_rfl)) (fun _ _ _ h => h) (Or.inl ⟨by rfl, ?_⟩) ?_ ?_
    rotate_left
    · intro w'
      go_simp
      with_reducible rfl
    rotate_left
    · simp only [Act.put, List.setIfInBounds_toArray, List.set_cons_zero, List.set_cons_succ, i64_w, i32_w]
      rfl
    refine pure_ (i := 11) (N := some 31) (v := ?_) (a' := ?_) #[true, true, true, true, true, true, true, true, true, true, true, true, false, false] rfl rfl (any_of HT_.out (by kernel_rfl)) (fun _ _ _ h => h) (Or.inl ⟨by rfl, ?_⟩) ?_ ?_
    rotate_left
    · intro w'
      go_simp
      with_reducible rfl
    rotate_left
    · simp only [Act.put, List.setIfInBounds_toArray, List.set_cons_zero, List.set_cons_succ, i64_w, i32_w]
      rfl
    refine pure_ (i := 12) (N := some 10) (v := ?_) (a' := ?_) #[true, true, true, true, true, true, true, true, true, true, true, true, true, false] rfl rfl (any_of HT_.out (by kernel_rfl)) (fun _ _ _ h => h) (Or.inl ⟨by rfl, ?_⟩) ?_ ?_
    rotate_left
    · intro w'
      go_simp
      with_reducible rfl
    rotate_left
    · simp only [Act.put, List.setIfInBounds_toArray, List.set_cons_zero, List.set_cons_succ, i64_w, i32_w]
      rfl
    refine pure_ (i := 13) (N := some 11) (v := ?_) (a' := ?_) #[true, true, true, true, true, true, true, true, true, true, true, true, true, true] rfl rfl (any_of HT_.out (by kernel_rfl)) (fun _ _ _ h => h) (Or.inl ⟨by rfl, ?_⟩) ?_ ?_
    rotate_left
    · intro w'
      go_simp
      with_reducible rfl
    rotate_left
    · simp only [Act.put, List.setIfInBounds_toArray, List.set_cons_zero, List.set_cons_succ, i64_w, i32_w]
      rfl
    refine done_ (done_of HT_.out (by kernel_rfl)) ?_
    try go_wp2_with (first | ((with_reducible refine gate_callee (f := 13) rfl ?_); refine goesL_ (some 33) rfl rfl Try.func13 (by kernel_rfl) rfl #[.slice A3 l3.length c3] rfl (by (try simp only [List.map_toArray, List.map_cons, List.map_nil]); first | done | rfl | (simp only [List.length_drop, List.length_take]; rfl)) ?_; (with_reducible refine (laws_toWindS.calls k _ _ l3 t595 _ ?side1 ?side2 A15.out).mono ?_); (case side1 => repeat (first | exact (Kd.C_below HR3.out HB.out) | (with_reducible refine Kd.C_alloc ?_ _) | (with_reducible refine Kd.C_drewN ?_ _) | (with_reducible refine Kd.C_drew ?_))); (case side2 => exact HC3.out); rintro e w31 ⟨v596, rfl, ho0, hb⟩; refine ⟨_, rfl, ?_⟩; have n0_ := Aside0.mk (Kd.R_elder' (by (with_reducible repeat (first | apply Kd.R_alloc | apply Kd.R_drewN | apply Kd.R_drew)); exact HO592.out) (Kd.R_base ho0) hb); have n1_ := Aside0.mk (Kd.R_lower (Kd.R_new' ho0 (Kd.R_lt (by (with_reducible repeat (first | apply Kd.R_alloc | apply Kd.R_drewN | apply Kd.R_drew)); exact HO592.out))) (below_size (by repeat (first | (with_reducible first | exact HB.out | apply below_alloc | apply pw_below_drewN | apply below_drew1 | refine below_set ?_ GE578.out | refine below_set ?_ GE579.out | refine below_set ?_ GE580.out) | exact HB.out)))); have n2_ := Aside0.mk (sqB BK578.out hb); have n3_ := Aside0.mk (sqB BK579.out hb); have n4_ := Aside0.mk (sqB BK580.out hb); have n5_ := Aside0.mk (sqH HB.out hb); clear HO592; clear BK578; clear BK579; clear BK580; clear HB; have HO592 := n0_; have HO597 := n1_; have BK578 := n2_; have BK579 := n3_; have BK580 := n4_; have HB := n5_; clear n0_ n1_ n2_ n3_ n4_ n5_; (try clear hb); (try clear hb2); (try clear hk); (try clear hi); (try clear ho0)))
    have n0_ := Aside0.mk (Kd.R_drew HO592.out)
    have n1_ := Aside0.mk (Kd.R_drew HO597.out)
    have n2_ := Aside0.mk (blk_drew BK578.out)
    have n3_ := Aside0.mk (blk_drew BK579.out)
    have n4_ := Aside0.mk (blk_drew BK580.out)
    have n5_ := Aside0.mk (below_drew1 HB.out)
    clear HO592
    clear HO597
    clear BK578
    clear BK579
    clear BK580
    clear HB
    have HO592 := n0_
    have HO597 := n1_
    have BK578 := n2_
    have BK579 := n3_
    have BK580 := n4_
    have HB := n5_
    clear n0_ n1_ n2_ n3_ n4_ n5_
    refine start_ (n := 13) (S := fun w' => w'.heap[gb578]? = some (.cells (a0).A 26 (0, 0)) ∧ w'.heap[gb579]? = some (.cells (a1).A 28 (0, 0)) ∧ w'.cell? ⟨gb580, 0, none⟩ = some (.int .i8 a2_0) ∧ w'.cell? ⟨gb580, 1, none⟩ = some (.int .i8 a2_1) ∧ w'.cell? ⟨gb580, 2, none⟩ = some (.int .i8 a2_2) ∧ w'.cell? ⟨gb580, 3, none⟩ = some (.int .i8 a2_3) ∧ w'.cell? ⟨gb580, 4, none⟩ = some (.int .i8 a2_4) ∧ w'.cell? ⟨gb580, 5, none⟩ = some (.int .i8 a2_5)) (ds := []) #[false, false, false, false, false, false, false, false, false, false, false, false, false] (by kernel_rfl) rfl rfl ⟨BK578.out, BK579.out, (blk_cell BK580.out 0).trans rfl, (blk_cell BK580.out 1).trans rfl, (blk_cell BK580.out 2).trans rfl, (blk_cell BK580.out 3).trans rfl, (blk_cell BK580.out 4).trans rfl, (blk_cell BK580.out 5).trans rfl⟩ (fun hHeld => ?_); refine with_tabW laws_FnExactAgroundAt.tab7 laws_FnExactAgroundAt.bits7 (fun HT_ HW_ => ?_)
    generalize w31.drew = w32 at HO592 HO597 BK578 BK579 BK580 HB hHeld ⊢
    refine pure_ (i := 6) (N := some 41) (v := ?_) (a' := ?_) #[false, false, false, false, false, false, true, false, false, false, false, false, false] rfl rfl (any_of HT_.out (by kernel_rfl)) (fun _ _ _ h => h) (Or.inl ⟨by rfl, ?_⟩) ?_ ?_
    rotate_left
    · intro w'
      go_simp
      with_reducible rfl
    rotate_left
    · simp only [Act.put, List.setIfInBounds_toArray, List.set_cons_zero, List.set_cons_succ, i64_w, i32_w]
      rfl
    refine take_ (i := 0) (N := some 35) (v := ?_) (a' := ?_) #[true, false, false, false, false, false, true, false, false, false, false, false, false] rfl rfl (take_ofW HT_.out HW_.out (by kernel_rfl)) (fun _ _ _ h => h) (Or.inl ⟨by rfl, ?_⟩) hHeld ?_ ?_
    rotate_left
    · rintro w' ⟨s0, s1, s2, s3, s4, s5, s6, s7⟩
      skip
      first | (refine Eq.trans (AR.exec_load_blk rfl rfl s0 Try.underlying26 rfl (szO26 _)) ?_; with_reducible rfl) | (refine Eq.trans (AR.exec_load_blk rfl rfl s1 Try.underlying28 rfl (szO28 _)) ?_; with_reducible rfl) | (go_simp; with_reducible rfl)
    rotate_left
    · simp only [Act.put, List.setIfInBounds_toArray, List.set_cons_zero, List.set_cons_succ, i64_w, i32_w]
      rfl
    refine take_ (i := 2) (N := some 37) (v := ?_) (a' := ?_) #[true, false, true, false, false, false, true, false, false, false, false, false, false] rfl rfl (take_ofW HT_.out HW_.out (by kernel_rfl)) (fun _ _ _ h => h) (Or.inl ⟨by rfl, ?_⟩) hHeld ?_ ?_
    rotate_left
    · rintro w' ⟨s0, s1, s2, s3, s4, s5, s6, s7⟩
      skip
      first | (refine Eq.trans (AR.exec_load_blk rfl rfl s0 Try.underlying26 rfl (szO26 _)) ?_; with_reducible rfl) | (refine Eq.trans (AR.exec_load_blk rfl rfl s1 Try.underlying28 rfl (szO28 _)) ?_; with_reducible rfl) | (go_simp; with_reducible rfl)
    rotate_left
    · simp only [Act.put, List.setIfInBounds_toArray, List.set_cons_zero, List.set_cons_succ, i64_w, i32_w]
      rfl
    refine take_ (i := 4) (N := some 39) (v := ?_) (a' := ?_) #[true, false, true, false, true, false, true, false, false, false, false, false, false] rfl rfl (take_ofW HT_.out HW_.out (by kernel_rfl)) (fun _ _ _ h => h) (Or.inl ⟨by rfl, ?_⟩) hHeld ?_ ?_
    rotate_left
    · rintro w' ⟨s0, s1, s2, s3, s4, s5, s6, s7⟩
      skip
      first | (refine Eq.trans (AR.exec_load_blk rfl rfl s0 Try.underlying26 rfl (szO26 _)) ?_; with_reducible rfl) | (refine Eq.trans (AR.exec_load_blk rfl rfl s1 Try.underlying28 rfl (szO28 _)) ?_; with_reducible rfl) | (go_simp; with_reducible rfl)
    rotate_left
    · simp only [Act.put, List.setIfInBounds_toArray, List.set_cons_zero, List.set_cons_succ, i64_w, i32_w]
      rfl
    refine one_ (i := 1) (N := some 36) #[true, true, true, false, true, false, true, false, false, false, false, false, false] rfl rfl (one_of HT_.out (by kernel_rfl)) (by decide) (fun K hK => ?_)
    refine goes_ Try.func10 (by kernel_rfl) rfl #[VO26 a0] (by rfl) rfl rfl (by (try simp only [List.map_toArray, List.map_cons, List.map_nil]); first | done | rfl | (simp only [List.length_drop, List.length_take]; rfl)) ?_
    with_reducible refine (laws_toBay.calls a0 t598 _ A16.out).mono ?_
    rintro e w33 ⟨rfl, hb⟩
    refine ⟨_, rfl, ?_⟩
    have n0_ := Aside0.mk (Kd.R_below (by (with_reducible repeat (first | apply Kd.R_alloc | apply Kd.R_drewN | apply Kd.R_drew)); exact HO592.out) hb)
    have n1_ := Aside0.mk (Kd.R_below (by (with_reducible repeat (first | apply Kd.R_alloc | apply Kd.R_drewN | apply Kd.R_drew)); exact HO597.out) hb)
    have n2_ := Aside0.mk (sqB BK578.out hb)
    have n3_ := Aside0.mk (sqB BK579.out hb)
    have n4_ := Aside0.mk (sqB BK580.out hb)
    have n5_ := Aside0.mk (sqH HB.out hb)
    clear HO592
    clear HO597
    clear BK578
    clear BK579
    clear BK580
    clear HB
    have HO592 := n0_
    have HO597 := n1_
    have BK578 := n2_
    have BK579 := n3_
    have BK580 := n4_
    have HB := n5_
    clear n0_ n1_ n2_ n3_ n4_ n5_
    (try clear hb)
    (try clear hb2)
    (try clear hk)
    (try clear hi)
    refine hK.out _ _ ⟨BK578.out, BK579.out, (blk_cell BK580.out 0).trans rfl, (blk_cell BK580.out 1).trans rfl, (blk_cell BK580.out 2).trans rfl, (blk_cell BK580.out 3).trans rfl, (blk_cell BK580.out 4).trans rfl, (blk_cell BK580.out 5).trans rfl⟩ (fun hHeld => ?_)
    clear hK K
    refine norm_ (a' := ?_) ?_ ?_
    rotate_left
    · show Act.put _ (some 36) _ = _
      simp only [Act.put, List.setIfInBounds_toArray, List.set_cons_zero, List.set_cons_succ, i64_w, i32_w]
      rfl
    refine one_ (i := 3) (N := some 38) #[true, true, true, true, true, false, true, false, false, false, false, false, false] rfl rfl (one_of HT_.out (by kernel_rfl)) (by decide) (fun K hK => ?_)
    refine goes_ Try.func11 (by kernel_rfl) rfl #[VO28 a1] (by rfl) rfl rfl (by (try simp only [List.map_toArray, List.map_cons, List.map_nil]); first | done | rfl | (simp only [List.length_drop, List.length_take]; rfl)) ?_
    with_reducible refine (laws_toGrounds.calls a1 t599 _ A17.out).mono ?_
    rintro e w34 ⟨rfl, hb⟩
    refine ⟨_, rfl, ?_⟩
    have n0_ := Aside0.mk (Kd.R_below (by (with_reducible repeat (first | apply Kd.R_alloc | apply Kd.R_drewN | apply Kd.R_drew)); exact HO592.out) hb)
    have n1_ := Aside0.mk (Kd.R_below (by (with_reducible repeat (first | apply Kd.R_alloc | apply Kd.R_drewN | apply Kd.R_drew)); exact HO597.out) hb)
    have n2_ := Aside0.mk (sqB BK578.out hb)
    have n3_ := Aside0.mk (sqB BK579.out hb)
    have n4_ := Aside0.mk (sqB BK580.out hb)
    have n5_ := Aside0.mk (sqH HB.out hb)
    clear HO592
    clear HO597
    clear BK578
    clear BK579
    clear BK580
    clear HB
    have HO592 := n0_
    have HO597 := n1_
    have BK578 := n2_
    have BK579 := n3_
    have BK580 := n4_
    have HB := n5_
    clear n0_ n1_ n2_ n3_ n4_ n5_
    (try clear hb)
    (try clear hb2)
    (try clear hk)
    (try clear hi)
    refine hK.out _ _ ⟨BK578.out, BK579.out, (blk_cell BK580.out 0).trans rfl, (blk_cell BK580.out 1).trans rfl, (blk_cell BK580.out 2).trans rfl, (blk_cell BK580.out 3).trans rfl, (blk_cell BK580.out 4).trans rfl, (blk_cell BK580.out 5).trans rfl⟩ (fun hHeld => ?_)
    clear hK K
    refine norm_ (a' := ?_) ?_ ?_
    rotate_left
    · show Act.put _ (some 38) _ = _
      simp only [Act.put, List.setIfInBounds_toArray, List.set_cons_zero, List.set_cons_succ, i64_w, i32_w]
      rfl
    refine one_ (i := 5) (N := some 40) #[true, true, true, true, true, true, true, false, false, false, false, false, false] rfl rfl (one_of HT_.out (by kernel_rfl)) (by decide) (fun K hK => ?_)
    refine goes_ Try.func12 (by kernel_rfl) rfl #[.agg #[.int .i8 a2_0, .int .i8 a2_1, .int .i8 a2_2, .int .i8 a2_3, .int .i8 a2_4, .int .i8 a2_5]] (by rfl) rfl rfl (by (try simp only [List.map_toArray, List.map_cons, List.map_nil]); first | done | rfl | (simp only [List.length_drop, List.length_take]; rfl)) ?_
    with_reducible refine (laws_toBoat.calls a2_0 a2_1 a2_2 a2_3 a2_4 a2_5 t600 t601 t602 t603 t604 t605 _ A18.out).mono ?_
    rintro e w35 ⟨rfl, hb⟩
    refine ⟨_, rfl, ?_⟩
    have n0_ := Aside0.mk (Kd.R_below (by (with_reducible repeat (first | apply Kd.R_alloc | apply Kd.R_drewN | apply Kd.R_drew)); exact HO592.out) hb)
    have n1_ := Aside0.mk (Kd.R_below (by (with_reducible repeat (first | apply Kd.R_alloc | apply Kd.R_drewN | apply Kd.R_drew)); exact HO597.out) hb)
    have n2_ := Aside0.mk (sqB BK578.out hb)
    have n3_ := Aside0.mk (sqB BK579.out hb)
    have n4_ := Aside0.mk (sqB BK580.out hb)
    have n5_ := Aside0.mk (sqH HB.out hb)
    clear HO592
    clear HO597
    clear BK578
    clear BK579
    clear BK580
    clear HB
    have HO592 := n0_
    have HO597 := n1_
    have BK578 := n2_
    have BK579 := n3_
    have BK580 := n4_
    have HB := n5_
    clear n0_ n1_ n2_ n3_ n4_ n5_
    (try clear hb)
    (try clear hb2)
    (try clear hk)
    (try clear hi)
    obtain ⟨Ao36, co36, eo36⟩ := Kd.R_slice HO597.out
    (first | subst eo36 | (injection eo36 with f1_ f2_ f3_; have f4_ := f1_.symm; have f5_ := f3_.symm; clear f1_ f2_ f3_; subst f4_; subst f5_))
    refine hK.out _ _ ⟨BK578.out, BK579.out, (blk_cell BK580.out 0).trans rfl, (blk_cell BK580.out 1).trans rfl, (blk_cell BK580.out 2).trans rfl, (blk_cell BK580.out 3).trans rfl, (blk_cell BK580.out 4).trans rfl, (blk_cell BK580.out 5).trans rfl⟩ (fun hHeld => ?_)
    clear hK K
    refine norm_ (a' := ?_) ?_ ?_
    rotate_left
    · show Act.put _ (some 40) _ = _
      simp only [Act.put, List.setIfInBounds_toArray, List.set_cons_zero, List.set_cons_succ, i64_w, i32_w]
      rfl
    refine one_ (i := 7) (N := some 42) #[true, true, true, true, true, true, true, true, false, false, false, false, false] rfl rfl (one_of HT_.out (by kernel_rfl)) (by decide) (fun K hK => ?_)
    refine goes_ Try.func23 (by kernel_rfl) rfl #[VO38 t598, VO40 t599, .agg #[.int .i8 t600, .int .i8 t601, .int .i8 t602, .int .i8 t603, .int .i8 t604, .int .i8 t605], .slice Ao36 t595.length co36] (by rfl) rfl rfl (by (try simp only [List.map_toArray, List.map_cons, List.map_nil]); first | done | rfl | (simp only [List.length_drop, List.length_take]; rfl)) ?_
    with_reducible refine (impl_AgroundAt.calls k t598 t599 t600 t601 t602 t603 t604 t605 _ _ t595 t606 t607 _ ?side1 ?side2 A19.out).mono ?_
    (case side1 => repeat (first | exact (Kd.R_reads' HO597.out).2.2 | (with_reducible refine Kd.C_alloc ?_ _) | (with_reducible refine Kd.C_drewN ?_ _) | (with_reducible refine Kd.C_drew ?_)))
    (case side2 => exact (Kd.R_reads' HO597.out).2.1)
    rintro e w37 ⟨rfl, hb⟩
    refine ⟨_, rfl, ?_⟩
    have n0_ := Aside0.mk (Kd.R_below (by (with_reducible repeat (first | apply Kd.R_alloc | apply Kd.R_drewN | apply Kd.R_drew)); exact HO592.out) hb)
    have n1_ := Aside0.mk (Kd.R_below (by (with_reducible repeat (first | apply Kd.R_alloc | apply Kd.R_drewN | apply Kd.R_drew)); exact HO597.out) hb)
    have n2_ := Aside0.mk (sqB BK578.out hb)
    have n3_ := Aside0.mk (sqB BK579.out hb)
    have n4_ := Aside0.mk (sqB BK580.out hb)
    have n5_ := Aside0.mk (sqH HB.out hb)
    clear HO592
    clear HO597
    clear BK578
    clear BK579
    clear BK580
    clear HB
    have HO592 := n0_
    have HO597 := n1_
    have BK578 := n2_
    have BK579 := n3_
    have BK580 := n4_
    have HB := n5_
    clear n0_ n1_ n2_ n3_ n4_ n5_
    (try clear hb)
    (try clear hb2)
    (try clear hk)
    (try clear hi)
    refine hK.out _ _ ⟨BK578.out, BK579.out, (blk_cell BK580.out 0).trans rfl, (blk_cell BK580.out 1).trans rfl, (blk_cell BK580.out 2).trans rfl, (blk_cell BK580.out 3).trans rfl, (blk_cell BK580.out 4).trans rfl, (blk_cell BK580.out 5).trans rfl⟩ (fun hHeld => ?_)
    clear hK K
    refine norm_ (a' := ?_) ?_ ?_
    rotate_left
    · show Act.put _ (some 42) _ = _
      simp only [Act.put, List.setIfInBounds_toArray, List.set_cons_zero, List.set_cons_succ, i64_w, i32_w]
      rfl
    refine pure_ (i := 8) (N := some 34) (v := ?_) (a' := ?_) #[true, true, true, true, true, true, true, true, true, false, false, false, false] rfl rfl (any_of HT_.out (by kernel_rfl)) (fun _ _ _ h => h) (Or.inl ⟨by rfl, ?_⟩) ?_ ?_
    rotate_left
    · intro w'
      go_simp
      with_reducible rfl
    rotate_left
    · simp only [Act.put, List.setIfInBounds_toArray, List.set_cons_zero, List.set_cons_succ, i64_w, i32_w]
      rfl
    refine pure_ (i := 9) (N := some 43) (v := ?_) (a' := ?_) #[true, true, true, true, true, true, true, true, true, true, false, false, false] rfl rfl (any_of HT_.out (by kernel_rfl)) (fun _ _ _ h => h) (Or.inl ⟨by rfl, ?_⟩) ?_ ?_
    rotate_left
    · intro w'
      go_simp
      with_reducible rfl
    rotate_left
    · simp only [Act.put, List.setIfInBounds_toArray, List.set_cons_zero, List.set_cons_succ, i64_w, i32_w]
      rfl
    refine pure_ (i := 10) (N := some 44) (v := ?_) (a' := ?_) #[true, true, true, true, true, true, true, true, true, true, true, false, false] rfl rfl (any_of HT_.out (by kernel_rfl)) (fun _ _ _ h => h) (Or.inl ⟨by rfl, ?_⟩) ?_ ?_
    rotate_left
    · intro w'
      go_simp
      with_reducible rfl
    rotate_left
    · simp only [Act.put, List.setIfInBounds_toArray, List.set_cons_zero, List.set_cons_succ, i64_w, i32_w]
      rfl
    refine pure_ (i := 11) (N := some 13) (v := ?_) (a' := ?_) #[true, true, true, true, true, true, true, true, true, true, true, true, false] rfl rfl (any_of HT_.out (by kernel_rfl)) (fun _ _ _ h => h) (Or.inl ⟨by rfl, ?_⟩) ?_ ?_
    rotate_left
    · intro w'
      go_simp
      with_reducible rfl
    rotate_left
    · simp only [Act.put, List.setIfInBounds_toArray, List.set_cons_zero, List.set_cons_succ, i64_w, i32_w]
      rfl
    refine pure_ (i := 12) (N := some 14) (v := ?_) (a' := ?_) #[true, true, true, true, true, true, true, true, true, true, true, true, true] rfl rfl (any_of HT_.out (by kernel_rfl)) (fun _ _ _ h => h) (Or.inl ⟨by rfl, ?_⟩) ?_ ?_
    rotate_left
    · intro w'
      go_simp
      with_reducible rfl
    rotate_left
    · simp only [Act.put, List.setIfInBounds_toArray, List.set_cons_zero, List.set_cons_succ, i64_w, i32_w]
      rfl
    refine done_ (done_of HT_.out (by kernel_rfl)) ?_
    go_upto_region 8 with (fail)
    go_cut [52] (fun v52 wc => ∃ (kq : Nat) (x52_19 : Bool), v52 = .bool x52_19 ∧ Aside0 (laws_FnExactAgroundAt.j0 kq l3 t595 x52_19 = some r) ∧ Aside0 (kq ≤ k) ∧ Aside0 (Kd.R k78 78 wc w.heap.size (fun _ => True) (.slice Ao36 t595.length co36) t595) ∧ Aside0 (wc.heap[gb578]? = some (.cells (a0).A 26 (0, 0))) ∧ Aside0 (wc.heap[gb579]? = some (.cells (a1).A 28 (0, 0))) ∧ Aside0 (wc.heap[gb580]? = some (.cells #[.int .i8 a2_0, .int .i8 a2_1, .int .i8 a2_2, .int .i8 a2_3, .int .i8 a2_4, .int .i8 a2_5] 32 (0, 0))) ∧ Aside0 (Below w.heap.size w wc))
    case first =>
      have H := HC20.out
      clear HC20
      by_cases c38 : t606 = t593
      · rw [if_pos c38] at H
        have c38b0 : (t606 == t593) = true := beq_iff_eq.mpr c38
        have c38b1 : (t606 != t593) = false := bne_eq_false_iff_eq.mpr c38
        clear c38
        (first | rw [c38b0] | (simp only [i64_w, i32_w]; rw [c38b0]) | skip)
        have H' := Aside0.mk H
        clear H
        go_wp2
        go_meet
        case rel => exact ⟨_, ((t607 != t594)), (by first | rfl | (simp; done) | (simp [*]; done)), H', ⟨by first | omega | exact Nat.le_refl _⟩, ⟨by (with_reducible repeat (first | apply Kd.R_alloc | apply Kd.R_drewN | apply Kd.R_drew)); exact Kd.R_mono HO597.out (fun _ hk => trivial)⟩, ⟨by (with_reducible repeat (first | refine blk_drewN ?_ _ | refine blk_drew ?_ | refine blk_alloc ?_ _)); exact BK578.out⟩, ⟨by (with_reducible repeat (first | refine blk_drewN ?_ _ | refine blk_drew ?_ | refine blk_alloc ?_ _)); exact BK579.out⟩, ⟨by (with_reducible repeat (first | refine blk_drewN ?_ _ | refine blk_drew ?_ | refine blk_alloc ?_ _)); exact BK580.out⟩, ⟨by repeat (first | (with_reducible first | exact HB.out | apply below_alloc | apply pw_below_drewN | apply below_drew1 | refine below_set ?_ GE578.out | refine below_set ?_ GE579.out | refine below_set ?_ GE580.out) | exact HB.out)⟩⟩
      · rw [if_neg c38] at H
        have c38b0 : (t606 == t593) = false := beq_eq_false_iff_ne.mpr c38
        have c38b1 : (t606 != t593) = true := bne_iff_ne.mpr c38
        (first | rw [c38b0] | (simp only [i64_w, i32_w]; rw [c38b0]) | skip)
        have H' := Aside0.mk H
        clear H
        go_wp2
        go_meet
        case rel => exact ⟨_, (true), (by first | rfl | (simp; done) | (simp [*]; done)), H', ⟨by first | omega | exact Nat.le_refl _⟩, ⟨by (with_reducible repeat (first | apply Kd.R_alloc | apply Kd.R_drewN | apply Kd.R_drew)); exact Kd.R_mono HO597.out (fun _ hk => trivial)⟩, ⟨by (with_reducible repeat (first | refine blk_drewN ?_ _ | refine blk_drew ?_ | refine blk_alloc ?_ _)); exact BK578.out⟩, ⟨by (with_reducible repeat (first | refine blk_drewN ?_ _ | refine blk_drew ?_ | refine blk_alloc ?_ _)); exact BK579.out⟩, ⟨by (with_reducible repeat (first | refine blk_drewN ?_ _ | refine blk_drew ?_ | refine blk_alloc ?_ _)); exact BK580.out⟩, ⟨by repeat (first | (with_reducible first | exact HB.out | apply below_alloc | apply pw_below_drewN | apply below_drew1 | refine below_set ?_ GE578.out | refine below_set ?_ GE579.out | refine below_set ?_ GE580.out) | exact HB.out)⟩⟩
    case rest =>
      clear HC20
      try clear c1
      try clear c2
      try clear p2
      try clear c3
      try clear c5
      try clear c6
      try clear c6b0
      try clear c8
      try clear c10
      try clear c11
      try clear c12
      try clear c13
      try clear c22
      try clear c23
      try clear c38
      try clear c38b0
      try clear c38b1
      obtain ⟨kq, x52_19, rfl, HA, HJ19, HO_12, BK578, BK579, BK580, HB⟩ := hcut
      cases kq with
      | zero => exact absurd HA.out (by simp [laws_FnExactAgroundAt.j0])
      | succ kj19 =>
        have H := HA.out
        clear HA
        simp only [laws_FnExactAgroundAt.j0] at H
        by_cases c39 : x52_19 = true
        · subst c39
          have H1 : (some false) = some r := by rw [if_pos rfl] at H; exact H
          clear H
          have H := H1
          clear H1
          exact absurd (Option.some.inj H) (by rw [hr_.out]; decide)
        · replace c39 := Bool.eq_false_iff.mpr c39
          subst c39
          have H1 : ((laws_toWindS.f kj19 l3).bind fun t608 => ((laws_eqWindS.f kj19 t595 t608).bind fun t611 => (if t611 = true then (some true) else (some false)))) = some r := by rw [if_neg (show ¬ (false = true) by decide)] at H; exact H
          clear H
          have H := H1
          clear H1
          replace H := Option.bind_eq_some_iff.mp H
          obtain ⟨t608, A400, H⟩ := H
          replace H : ((laws_eqWindS.f kj19 t595 t608).bind fun t611 => (if t611 = true then (some true) else (some false))) = some r := H
          have A40 := Aside0.mk A400
          clear A400
          replace H := Option.bind_eq_some_iff.mp H
          obtain ⟨t611, A410, H⟩ := H
          replace H : (if t611 = true then (some true) else (some false)) = some r := H
          have A41 := Aside0.mk A410
          clear A410
          by_cases c42 : t611 = true
          · subst c42
            have H1 : (some true) = some r := by rw [if_pos rfl] at H; exact H
            clear H
            have H := H1
            clear H1
            obtain rfl := Option.some.inj H
            go_wp2_with (first | ((with_reducible refine gate_callee (f := 13) rfl ?_); refine goesL_ (some 55) rfl rfl Try.func13 (by kernel_rfl) rfl #[.slice A3 l3.length c3] rfl (by (try simp only [List.map_toArray, List.map_cons, List.map_nil]); first | done | rfl | (simp only [List.length_drop, List.length_take]; rfl)) ?_; (with_reducible refine (laws_toWindS.calls kj19 _ _ l3 t608 _ ?side1 ?side2 A40.out).mono ?_); (case side1 => repeat (first | exact (Kd.C_below HR3.out HB.out) | (with_reducible refine Kd.C_alloc ?_ _) | (with_reducible refine Kd.C_drewN ?_ _) | (with_reducible refine Kd.C_drew ?_))); (case side2 => exact HC3.out); rintro e w43 ⟨v609, rfl, ho0, hb⟩; refine ⟨_, rfl, ?_⟩; have n0_ := Aside0.mk (Kd.R_elder' (by (with_reducible repeat (first | apply Kd.R_alloc | apply Kd.R_drewN | apply Kd.R_drew)); exact HO_12.out) (Kd.R_base ho0) hb); have n1_ := Aside0.mk (Kd.R_lower (Kd.R_new' ho0 (Kd.R_lt (by (with_reducible repeat (first | apply Kd.R_alloc | apply Kd.R_drewN | apply Kd.R_drew)); exact HO_12.out))) (below_size (by repeat (first | (with_reducible first | exact HB.out | apply below_alloc | apply pw_below_drewN | apply below_drew1 | refine below_set ?_ GE578.out | refine below_set ?_ GE579.out | refine below_set ?_ GE580.out) | exact HB.out)))); have n2_ := Aside0.mk (sqB BK578.out hb); have n3_ := Aside0.mk (sqB BK579.out hb); have n4_ := Aside0.mk (sqB BK580.out hb); have n5_ := Aside0.mk (sqH HB.out hb); clear HO_12; clear BK578; clear BK579; clear BK580; clear HB; have HO_12 := n0_; have HO610 := n1_; have BK578 := n2_; have BK579 := n3_; have BK580 := n4_; have HB := n5_; clear n0_ n1_ n2_ n3_ n4_ n5_; (try clear hb); (try clear hb2); (try clear hk); (try clear hi); (try clear ho0); obtain ⟨Ao44, co44, eo44⟩ := Kd.R_slice HO610.out; subst eo44) | ((with_reducible refine gate_callee (f := 16) rfl ?_); refine goesL_ (some 56) rfl rfl Try.func16 (by kernel_rfl) rfl #[.slice Ao36 t595.length co36, .slice Ao44 t608.length co44] rfl (by (try simp only [List.map_toArray, List.map_cons, List.map_nil]); first | done | rfl | (simp only [List.length_drop, List.length_take]; rfl)) ?_; (with_reducible refine (laws_eqWindS.calls kj19 _ _ t595 _ _ t608 true _ ?side1 ?side2 ?side3 ?side4 A41.out).mono ?_); (case side1 => repeat (first | exact (Kd.R_reads' HO_12.out).2.2 | (with_reducible refine Kd.C_alloc ?_ _) | (with_reducible refine Kd.C_drewN ?_ _) | (with_reducible refine Kd.C_drew ?_))); (case side2 => exact (Kd.R_reads' HO_12.out).2.1); (case side3 => repeat (first | exact (Kd.R_reads' HO610.out).2.2 | (with_reducible refine Kd.C_alloc ?_ _) | (with_reducible refine Kd.C_drewN ?_ _) | (with_reducible refine Kd.C_drew ?_))); (case side4 => exact (Kd.R_reads' HO610.out).2.1); rintro e w45 ⟨rfl, hb⟩; refine ⟨_, rfl, ?_⟩; have n0_ := Aside0.mk (Kd.R_below (by (with_reducible repeat (first | apply Kd.R_alloc | apply Kd.R_drewN | apply Kd.R_drew)); exact HO_12.out) hb); have n1_ := Aside0.mk (Kd.R_below (by (with_reducible repeat (first | apply Kd.R_alloc | apply Kd.R_drewN | apply Kd.R_drew)); exact HO610.out) hb); have n2_ := Aside0.mk (sqB BK578.out hb); have n3_ := Aside0.mk (sqB BK579.out hb); have n4_ := Aside0.mk (sqB BK580.out hb); have n5_ := Aside0.mk (sqH HB.out hb); clear HO_12; clear HO610; clear BK578; clear BK579; clear BK580; clear HB; have HO_12 := n0_; have HO610 := n1_; have BK578 := n2_; have BK579 := n3_; have BK580 := n4_; have HB := n5_; clear n0_ n1_ n2_ n3_ n4_ n5_; (try clear hb); (try clear hb2); (try clear hk); (try clear hi)))
            go_ret
            exact ⟨by first | rfl | (simp [errW_none, errW_some] <;> rfl) | (simp [*, errW_none, errW_some] <;> rfl), by repeat (first | (with_reducible first | exact HB.out | apply below_alloc | apply pw_below_drewN | apply below_drew1 | refine below_set ?_ GE578.out | refine below_set ?_ GE579.out | refine below_set ?_ GE580.out) | exact HB.out)⟩
          · replace c42 := Bool.eq_false_iff.mpr c42
            subst c42
            have H1 : (some false) = some r := by rw [if_neg (show ¬ (false = true) by decide)] at H; exact H
            clear H
            have H := H1
            clear H1
            exact absurd (Option.some.inj H) (by rw [hr_.out]; decide)
end Go.Proofs.Ytmhmfhdmeedcfaa.G
end
section
namespace Go.Proofs.Ytmhmfhdmeedcfaa.PL
open Go.RowKit M Go.Proofs.YtmhmfhdmeedcfaaW.PrintWords
theorem i8_wf {x : Int} (h : (Lit.int .i8 x).wf = true) : i8B x = true := by
  have := bounds_i8 h
  simp [i8B, inB]; omega
theorem wsm {x : Int} (h0 : -1000000000000 ≤ x) (h1 : x ≤ 1000000000000) : wrap64 x = x := by
  unfold wrap64; omega
theorem wnx {i : Nat} (h : i ≤ 10000000) : wrap64 ((i : Int) + 1) = ((i + 1 : Nat) : Int) := by
  rw [wsm (by omega) (by omega)]; omega
theorem i8_bounds {x : Int} (h : i8B x = true) : -128 ≤ x ∧ x ≤ 127 := inB_true h
end Go.Proofs.Ytmhmfhdmeedcfaa.PL
end
section
namespace Go.Proofs.Ytmhmfhdmeedcfaa.G.PB
open Go.RowKit M Go.Proofs.Ytmhmfhdmeedcfaa.PL Go.Proofs.YtmhmfhdmeedcfaaW.PrintWords Go.Proofs.YtmhmfhdmeedcfaaW.PrintMore
set_option linter.unusedSimpArgs false
set_option linter.unusedVariables false
abbrev Bay := Flat 258 .i8
def boatV (b : Bay) (x y ch lo dr ki : Int) : Bool := isW b x y && (inB ch 1 60 && (inB lo 0 5 && (inB dr 1 30 && inB ki 0 9)))
def b8 (x : Int) : Prop := -128 ≤ x ∧ x ≤ 127
theorem ws {x : Int} (h : b8 x) : wrap64 x = x := by obtain ⟨h0, h1⟩ := h; unfold wrap64; omega
theorem w8 {x : Int} (h0 : -128 ≤ x) (h1 : x ≤ 127) : IntKind.i8.wrap x = x := by
  unfold IntKind.wrap; simp [IntKind.signed, IntKind.bits]; omega
theorem spec_in (n lo hi : Int) : spec_l00In.f n lo hi = some (inB n lo hi) := by
  unfold spec_l00In.f inB
  by_cases h : lo ≤ n <;> simp [h]
theorem depO_in (b : Bay) {x y : Int} (hx0 : 0 ≤ x) (hx1 : x < 16) (hy0 : 0 ≤ y) (hy1 : y < 16) : depO b x y = some (dep b x y) := if_pos ⟨hx0, hx1, hy0, hy1⟩
theorem bay_small {b : Bay} (h : bayB b = true) : 1 ≤ b.z 0 ∧ b.z 0 ≤ 16 ∧ 1 ≤ b.z 1 ∧ b.z 1 ≤ 16 := by
  obtain ⟨h0, h1, _⟩ := bayB_true h; omega
theorem isP_16 {b : Bay} {x y : Int} (h : bayB b = true) (hp : isP b x y = true) : 0 ≤ x ∧ x < 16 ∧ 0 ≤ y ∧ y < 16 := by
  have := bay_small h; have := isP_bounds hp; omega
theorem isW_isP {b : Bay} {x y : Int} (h : isW b x y = true) : isP b x y = true ∧ 0 < dep b x y := by
  unfold isW at h; simp at h; exact h
theorem boatV_isW {b : Bay} {x y ch lo dr ki : Int} (h : boatV b x y ch lo dr ki = true) : isW b x y = true ∧ (1 ≤ ch ∧ ch ≤ 60) ∧ (0 ≤ lo ∧ lo ≤ 5) ∧ (1 ≤ dr ∧ dr ≤ 30) ∧ (0 ≤ ki ∧ ki ≤ 9) := by
  unfold boatV inB at h; simp at h; omega
theorem dep_30 {b : Bay} {x y : Int} (h : bayB b = true) (h0 : 0 ≤ x) (h1 : x < 16) (h2 : 0 ≤ y) (h3 : y < 16) : 0 ≤ dep b x y ∧ dep b x y ≤ 30 := by
  have := (bayB_true h).2.2 y.toNat (by omega) x.toNat (by omega)
  unfold okD at this
  rw [Bool.and_eq_true] at this
  have h4 := inB_true this.1
  rw [show ((x.toNat : Nat) : Int) = x by omega, show ((y.toNat : Nat) : Int) = y by omega] at h4
  exact h4
theorem impl_place (b : Bay) (x y : Int) : impl_isPlace.f b x y = some (isP b x y) := by
  unfold impl_isPlace.f isP
  by_cases h1 : 0 ≤ x <;> by_cases h2 : x < b.z 0 <;> by_cases h3 : 0 ≤ y <;> simp [h1, h2, h3]
theorem impl_water {b : Bay} (h : bayB b = true) (x y : Int) : impl_isWater.f b x y = some (isW b x y) := by
  unfold impl_isWater.f isW
  rw [impl_place]
  simp only [Option.bind_some]
  cases hp : isP b x y
  · simp
  · obtain ⟨h0, h1, h2, h3⟩ := isP_16 h hp
    unfold impl_depth.f
    rw [if_pos rfl, depO_in b h0 h1 h2 h3]
    simp
theorem impl_boat {b : Bay} (h : bayB b = true) (x y ch lo dr ki : Int) : impl_isBoat.f b x y ch lo dr ki = some (boatV b x y ch lo dr ki) := by
  unfold impl_isBoat.f boatV
  rw [impl_water h]
  simp only [Option.bind_some]
  cases isW b x y
  · simp
  · simp only [if_true, Bool.true_and, inB]
    by_cases h1 : 1 ≤ ch
    · by_cases h2 : ch ≤ 60
      · by_cases h3 : 0 ≤ lo
        · by_cases h4 : lo ≤ 5
          · by_cases h5 : 1 ≤ dr
            · by_cases h6 : dr ≤ 30
              · by_cases h7 : 0 ≤ ki <;> simp [h1, h2, h3, h4, h5, h6, h7]
              · simp [h1, h2, h3, h4, h5, h6]
            · simp [h1, h2, h3, h4, h5]
          · simp [h1, h2, h3, h4]
        · simp [h1, h2, h3]
      · simp [h1, h2]
    · simp [h1]
theorem spec_is (b : Bay) {x y : Int} (hx : b8 x) (hy : b8 y) : spec_l01Is.f b x y = some (isP b x y) := by
  have h0 : b8 (b.z 0) := bounds_i8 (b.ok 0 (by omega))
  have h1 : b8 (b.z 1) := bounds_i8 (b.ok 1 (by omega))
  unfold spec_l01Is.f
  rw [ws hx, ws hy, ws h0, ws h1, wsm (by have := h0.1; omega) (by have := h0.2; omega), wsm (by have := h1.1; omega) (by have := h1.2; omega), spec_in, spec_in, isP_in]
  simp only [Option.bind_some]
  cases inB x 0 (b.z 0 - 1) <;> simp
theorem spec_boat {b : Bay} (h : bayB b = true) {x y ch lo dr ki : Int} (hx : b8 x) (hy : b8 y) (hc : b8 ch) (hl : b8 lo) (hd : b8 dr) (hk : b8 ki) : spec_l01Boat.f b x y ch lo dr ki = some (boatV b x y ch lo dr ki) := by
  unfold spec_l01Boat.f boatV isW
  rw [spec_is b hx hy]
  simp only [Option.bind_some]
  cases hp : isP b x y
  · simp
  · obtain ⟨h0, h1, h2, h3⟩ := isP_16 h hp
    unfold spec_l01Depth.f
    rw [if_pos rfl, depO_in b h0 h1 h2 h3, ws hc, ws hl, ws hd, ws hk, spec_in, spec_in, spec_in, spec_in]
    simp only [Option.bind_some]
    by_cases hw : 0 < dep b x y
    · rw [if_pos hw]
      cases inB ch 1 60 <;> cases inB lo 0 5 <;> cases inB dr 1 30 <;> simp [hw]
    · rw [if_neg hw]; simp [hw]
end Go.Proofs.Ytmhmfhdmeedcfaa.G.PB
end
section
namespace Go.Proofs.Ytmhmfhdmeedcfaa.G.PB
open Go.RowKit M Go.Proofs.Ytmhmfhdmeedcfaa.PL Go.Proofs.YtmhmfhdmeedcfaaW.PrintWords Go.Proofs.YtmhmfhdmeedcfaaW.PrintMore
set_option linter.unusedSimpArgs false
set_option linter.unusedVariables false
abbrev Grd := Flat 256 .u8
def baseV (k : Int) : Int := if k = 0 then 2 else if k = 1 then 4 else if k = 2 then 6 else 1
theorem base_rd {k : Int} (h0 : 0 ≤ k) (h1 : k ≤ 3) : rd [2, 4, 6, 1] k = baseV k := by
  have : k = 0 ∨ k = 1 ∨ k = 2 ∨ k = 3 := by omega
  rcases this with rfl | rfl | rfl | rfl <;> rfl
theorem base_bounds (k : Int) : 1 ≤ baseV k ∧ baseV k ≤ 6 := by unfold baseV; split <;> (try split) <;> (try split) <;> omega
def holdV (b : Bay) (g : Grd) (x y ch : Int) : Int := baseV (g.z (y.toNat * 16 + x.toNat)) + (if 6 < ch / dep b x y then 6 else ch / dep b x y)
theorem ground_3 {b : Bay} {g : Grd} (h : groundsB b g = true) {x y : Int} (h0 : 0 ≤ x) (h1 : x < 16) (h2 : 0 ≤ y) (h3 : y < 16) : 0 ≤ g.z (y.toNat * 16 + x.toNat) ∧ g.z (y.toNat * 16 + x.toNat) ≤ 3 := by
  have := (groundsB_true h).2 y.toNat (by omega) x.toNat (by omega)
  unfold okG at this
  rw [Bool.and_eq_true] at this
  exact ⟨(bounds_u8 (g.ok (y.toNat * 16 + x.toNat) (by omega))).1, by simpa using this.1⟩
theorem impl_hold_tells {b : Bay} {g : Grd} (hg : groundsB b g = true) {x y ch : Int} (lo dr ki : Int) (hw : isW b x y = true) (hc0 : 0 ≤ ch) (hc1 : ch ≤ 127) : impl_hold.f b g x y ch lo dr ki = some (holdV b g x y ch) := by
  have hb := (groundsB_true hg).1
  obtain ⟨hp, hd⟩ := isW_isP hw
  obtain ⟨h0, h1, h2, h3⟩ := isP_16 hb hp
  obtain ⟨g0, g1⟩ := ground_3 hg h0 h1 h2 h3
  have q0 := Int.ediv_nonneg hc0 (Int.le_of_lt hd)
  have q1 : ch / dep b x y ≤ ch := Int.ediv_le_self _ hc0
  have hbb := base_bounds (g.z (y.toNat * 16 + x.toNat))
  unfold impl_hold.f impl_depth.f
  simp only [Option.bind_some]
  rw [if_pos h2, if_pos h3, if_pos h0, if_pos h1, if_pos g0, if_pos (by simp; omega), depO_in b h0 h1 h2 h3]
  simp only [Option.bind_some]
  rw [if_neg (by omega), base_rd g0 g1, wsm (x := ch) (by omega) (by omega), Int.tdiv_eq_ediv_of_nonneg hc0, wsm (x := ch / _) (by omega) (by omega)]
  unfold mn holdV
  split <;> (rw [wsm (by omega) (by omega)])
theorem spec_hold_tells {b : Bay} {g : Grd} (hg : groundsB b g = true) {x y ch : Int} (lo dr ki : Int) (hw : isW b x y = true) (hc0 : 0 ≤ ch) (hc1 : ch ≤ 127) : spec_l07Hold.f b g x y ch lo dr ki = some (holdV b g x y ch) := by
  have hb := (groundsB_true hg).1
  obtain ⟨hp, hd⟩ := isW_isP hw
  obtain ⟨h0, h1, h2, h3⟩ := isP_16 hb hp
  obtain ⟨g0, g1⟩ := ground_3 hg h0 h1 h2 h3
  have q0 := Int.ediv_nonneg hc0 (Int.le_of_lt hd)
  have q1 : ch / dep b x y ≤ ch := Int.ediv_le_self _ hc0
  have hbb := base_bounds (g.z (y.toNat * 16 + x.toNat))
  unfold spec_l07Hold.f spec_l01Depth.f spec_l00Min.f
  simp only [Option.bind_some]
  rw [depO_in b h0 h1 h2 h3]
  simp only [Option.bind_some]
  rw [if_neg (by omega), wsm (x := ch) (by omega) (by omega), Int.tdiv_eq_ediv_of_nonneg hc0, wsm (x := ch / _) (by omega) (by omega)]
  unfold holdV
  split <;> simp only [Option.bind_some, h2, h3, h0, h1, g0, if_true] <;> rw [if_pos (by simp; omega), base_rd g0 g1, wsm (by omega) (by omega)]
end Go.Proofs.Ytmhmfhdmeedcfaa.G.PB
end
section
namespace Go.Proofs.Ytmhmfhdmeedcfaa.G.PB
open Go.RowKit M Go.Proofs.Ytmhmfhdmeedcfaa.PL Go.Proofs.YtmhmfhdmeedcfaaW.PrintWords
set_option linter.unusedSimpArgs false
set_option linter.unusedVariables false
def windB (f t : Int) : Bool := inB f 0 12 && inB t 0 7
def vW (x : S78) : Bool := windB x.f0 x.f1
def okW (x : S78) : Bool := i8B x.f0 && i8B x.f1
theorem spec_wind {f t : Int} (hf : i8B f = true) (ht : i8B t = true) : spec_l07Wind.f f t = some (windB f t) := by
  obtain ⟨a, b⟩ := i8_bounds hf
  obtain ⟨c, d⟩ := i8_bounds ht
  unfold spec_l07Wind.f windB
  rw [wsm (by omega) (by omega), wsm (by omega) (by omega), spec_in, spec_in]
  cases inB f 0 12 <;> simp
theorem impl_wind (f t : Int) : impl_isWind.f f t = some (windB f t) := by
  unfold impl_isWind.f windB inB
  by_cases h1 : 0 ≤ f <;> by_cases h2 : f ≤ 12 <;> by_cases h3 : 0 ≤ t <;> simp [h1, h2, h3]
theorem rdW {l : List S78} {i : Nat} (h : i < l.length) : rd_T78 l (i : Int) = l[i] := by simp [rd_T78, h]
theorem spec_winds_loop (l : List S78) (hl : l.length ≤ 10000000) (hok : l.all okW = true) (d : Nat) : ∀ (k i : Nat), i + d = l.length → d < k → spec_l07Winds.l0 k l i = some ((l.drop i).all vW && decide (l.length ≤ 48)) := by
  induction d with
  | zero =>
    intro k i hi hk
    obtain ⟨k, rfl⟩ : ∃ m, k = m + 1 := ⟨k - 1, by omega⟩
    simp only [spec_l07Winds.l0]; rw [if_neg (by omega), List.drop_of_length_le (by omega)]; simp; omega
  | succ d ih =>
    intro k i hi hk
    obtain ⟨k, rfl⟩ : ∃ m, k = m + 1 := ⟨k - 1, by omega⟩
    have ho : okW (l[i]'(by omega)) = true := List.all_eq_true.mp hok _ (List.getElem_mem (by omega : i < l.length))
    simp only [okW, Bool.and_eq_true] at ho
    simp only [spec_l07Winds.l0]; rw [if_pos (by omega), if_pos (by omega), rdW (by omega), spec_wind ho.1 ho.2]
    rw [List.drop_eq_getElem_cons (by omega : i < l.length), List.all_cons]
    simp only [Option.bind_some]
    cases h : windB (l[i]'(by omega)).f0 (l[i]'(by omega)).f1
    · simp [vW, h]
    · rw [if_pos rfl, wnx (by omega), ih k (i + 1) (by omega) (by omega)]; simp [vW, h]
theorem impl_winds_loop (l : List S78) (hl : l.length ≤ 10000000) (d : Nat) : ∀ (k i : Nat), i + d = l.length → d < k → impl_ValidWinds.l0 k l l l.length i = some ((l.drop i).all vW && decide (l.length ≤ 48)) := by
  induction d with
  | zero =>
    intro k i hi hk
    obtain ⟨k, rfl⟩ : ∃ m, k = m + 1 := ⟨k - 1, by omega⟩
    simp only [impl_ValidWinds.l0]; rw [if_neg (by omega), List.drop_of_length_le (by omega)]; simp; omega
  | succ d ih =>
    intro k i hi hk
    obtain ⟨k, rfl⟩ : ∃ m, k = m + 1 := ⟨k - 1, by omega⟩
    simp only [impl_ValidWinds.l0]; rw [if_pos (by omega), if_pos (by omega), if_pos (by omega), rdW (by omega), impl_wind]
    rw [List.drop_eq_getElem_cons (by omega : i < l.length), List.all_cons]
    simp only [Option.bind_some]
    cases h : windB (l[i]'(by omega)).f0 (l[i]'(by omega)).f1
    · simp [vW, h]
    · rw [if_pos rfl, wnx (by omega), ih k (i + 1) (by omega) (by omega)]; simp [vW, h]
def windsV (l : List S78) : Bool := l.all vW && decide (l.length ≤ 48)
theorem spec_winds_tells {l : List S78} (hl : l.length ≤ 10000000) (hok : l.all okW = true) {k : Nat} (hk : l.length < k) : spec_l07Winds.f k l = some (windsV l) := by
  unfold spec_l07Winds.f windsV
  have := spec_winds_loop l hl hok l.length k 0 (by omega) hk
  rwa [List.drop_zero] at this
theorem impl_winds_tells {l : List S78} (hl : l.length ≤ 10000000) {k : Nat} (hk : l.length < k) : impl_ValidWinds.f k l = some (windsV l) := by
  unfold impl_ValidWinds.f windsV
  have := impl_winds_loop l hl l.length k 0 (by omega) hk
  rwa [List.drop_zero] at this
end Go.Proofs.Ytmhmfhdmeedcfaa.G.PB
end
section
namespace Go.Proofs.Ytmhmfhdmeedcfaa.G.PB
open Go.RowKit M Go.Proofs.Ytmhmfhdmeedcfaa.PL Go.Proofs.YtmhmfhdmeedcfaaW.PrintWords
set_option linter.unusedSimpArgs false
set_option linter.unusedVariables false
def validV (b : Bay) (g : Grd) (x y ch lo dr ki : Int) : Bool := groundsB b g && boatV b x y ch lo dr ki
theorem validV_true {b : Bay} {g : Grd} {x y ch lo dr ki : Int} (h : validV b g x y ch lo dr ki = true) : groundsB b g = true ∧ boatV b x y ch lo dr ki = true := by
  unfold validV at h; simpa using h
theorem spec_valid {b : Bay} {g : Grd} {x y ch lo dr ki : Int} {k : Nat} {l : List S78} {wv : Bool} (hw : spec_l07Winds.f k l = some wv) (hx : b8 x) (hy : b8 y) (hc : b8 ch) (hl : b8 lo) (hd : b8 dr) (hk : b8 ki) : spec_l07Valid.f k b g x y ch lo dr ki l = some (validV b g x y ch lo dr ki && wv) := by
  unfold spec_l07Valid.f spec_l07Grounds.f validV
  cases hg : groundsB b g
  · simp
  · simp only [Option.bind_some, if_true]
    rw [spec_boat (groundsB_true hg).1 hx hy hc hl hd hk]
    cases hb : boatV b x y ch lo dr ki
    · simp
    · simp [hw]
theorem b8_of {x : Int} (h : (Lit.int .i8 x).wf = true) : b8 x := bounds_i8 h
end Go.Proofs.Ytmhmfhdmeedcfaa.G.PB
end
section
namespace Go.Proofs.Ytmhmfhdmeedcfaa.G.PB
open Go.RowKit M Go.Proofs.Ytmhmfhdmeedcfaa.PL Go.Proofs.YtmhmfhdmeedcfaaW.PrintWords
set_option linter.unusedSimpArgs false
set_option linter.unusedVariables false
theorem impl_code {b : Bay} {g : Grd} {x y ch lo dr ki : Int} {k : Nat} {l : List S78} (hl : l.length ≤ 10000000) (hk : l.length < k) : impl_driftCode.f k b g x y ch lo dr ki l = some (if (validV b g x y ch lo dr ki && windsV l) = true then 0 else 1) := by
  unfold impl_driftCode.f impl_ValidGrounds.f validV
  cases hg : groundsB b g
  · simp
  · simp only [Option.bind_some, if_true]
    rw [impl_boat (groundsB_true hg).1]
    cases hb : boatV b x y ch lo dr ki
    · simp
    · simp only [Option.bind_some, if_true]
      rw [impl_winds_tells hl hk]
      cases windsV l <;> simp
end Go.Proofs.Ytmhmfhdmeedcfaa.G.PB
end
section
namespace Go.Proofs.Ytmhmfhdmeedcfaa.G.PS
open Go.RowKit Go.Proofs.Ytmhmfhdmeedcfaa.PL Go.Proofs.YtmhmfhdmeedcfaaW.PrintWords
set_option linter.unusedVariables false
set_option linter.unusedSimpArgs false
def convWind (x : S80) : S78 := ⟨x.f0, x.f1⟩
theorem toWind_loop (l : List S80) (hl : l.length ≤ 10000000) (d : Nat) : ∀ (k i : Nat) (o : List S78), o.length = l.length → o.take i = (l.map convWind).take i → i + d = l.length → d < k → laws_toWindS.l0 k l o i = some (l.map convWind) := by
  induction d with
  | zero =>
    intro k i o ho he hi hk
    obtain ⟨k, rfl⟩ : ∃ m, k = m + 1 := ⟨k - 1, by omega⟩
    rw [List.take_of_length_le (by omega), List.take_of_length_le (by rw [List.length_map]; omega)] at he
    simp only [laws_toWindS.l0]; rw [if_neg (by omega), he]
  | succ d ih =>
    intro k i o ho he hi hk
    obtain ⟨k, rfl⟩ : ∃ m, k = m + 1 := ⟨k - 1, by omega⟩
    simp only [laws_toWindS.l0]; rw [if_pos (by omega), if_pos (by omega)]
    simp only [laws_toWind.f, Option.bind_some]
    rw [if_pos (by omega), wnx (by omega)]
    refine ih k (i + 1) _ (by rw [List.length_set]; exact ho) ?_ (by omega) (by omega)
    rw [Int.toNat_natCast]
    have e2 : rd_T80 l (i : Int) = l[i]'(by omega) := by simp [rd_T80, show i < l.length by omega]
    simp only [e2]
    rw [List.take_add_one, List.take_set_of_le (Nat.le_refl _), List.getElem?_set_self (by omega), he, List.take_add_one (l := l.map convWind), List.getElem?_eq_getElem (by rw [List.length_map]; omega), List.getElem_map]
    rfl
theorem toWind_tells {l : List S80} (hl : l.length ≤ 1048576) {k : Nat} (hk : l.length < k) : laws_toWindS.f k l = some (l.map convWind) := by
  unfold laws_toWindS.f
  rw [if_pos (by omega), if_pos (by omega)]
  exact toWind_loop l (by omega) l.length k 0 _ (by simp) (by simp) (by omega) hk
theorem eqWind_loop (l : List S78) (hl : l.length ≤ 10000000) (d : Nat) : ∀ (k i : Nat), i + d = l.length → d < k → laws_eqWindS.l0 k l l i = some true := by
  induction d with
  | zero =>
    intro k i hi hk
    obtain ⟨k, rfl⟩ : ∃ m, k = m + 1 := ⟨k - 1, by omega⟩
    simp only [laws_eqWindS.l0]; rw [if_neg (by omega)]
  | succ d ih =>
    intro k i hi hk
    obtain ⟨k, rfl⟩ : ∃ m, k = m + 1 := ⟨k - 1, by omega⟩
    simp only [laws_eqWindS.l0]; rw [if_pos (by omega), if_pos (by omega), if_pos (by omega)]
    simp only [laws_eqWind.f, if_true, Option.bind_some]
    rw [wnx (by omega)]
    exact ih k (i + 1) (by omega) (by omega)
theorem eqWind_tells {l : List S78} (hl : l.length ≤ 10000000) {k : Nat} (hk : l.length < k) : laws_eqWindS.f k l l = some true := by
  unfold laws_eqWindS.f; rw [if_pos rfl]; exact eqWind_loop l hl l.length k 0 (by omega) hk
end Go.Proofs.Ytmhmfhdmeedcfaa.G.PS
end
section
namespace Go.Proofs.Ytmhmfhdmeedcfaa.G.PB
open Go.RowKit M Go.Proofs.Ytmhmfhdmeedcfaa.PL Go.Proofs.Ytmhmfhdmeedcfaa.G.PS Go.Proofs.YtmhmfhdmeedcfaaW.PrintWords
set_option linter.unusedSimpArgs false
set_option linter.unusedVariables false
theorem winds_ok {l : List S80} (h : ∀ x ∈ l, ∃ z : Nat → Int, x = (⟨z 0, z 1⟩ : S80) ∧ ∀ j, j < 2 → (Lit.int (([.i8, .i8] : List IntKind).getD j .i64) (z j)).wf = true) : (l.map convWind).all okW = true := by
  rw [List.all_eq_true]
  intro y hy
  rw [List.mem_map] at hy
  obtain ⟨x, hx, rfl⟩ := hy
  obtain ⟨z, rfl, hz⟩ := h x hx
  simp [okW, convWind, i8_wf (hz 0 (by omega)), i8_wf (hz 1 (by omega))]
theorem sz_tellsW {n : Nat} (h : n ≤ 9223372036854775807) : wrap64 (1048576 - (n : Int)) = 1048576 - (n : Int) := by unfold wrap64; omega
end Go.Proofs.Ytmhmfhdmeedcfaa.G.PB
end
section
namespace Go.Proofs.Ytmhmfhdmeedcfaa.G.PB
open Go.RowKit M Go.Proofs.Ytmhmfhdmeedcfaa.PL Go.Proofs.YtmhmfhdmeedcfaaW.PrintWords Go.Proofs.YtmhmfhdmeedcfaaW.PrintMore
set_option linter.unusedSimpArgs false
set_option linter.unusedVariables false
def dxV (sd : Int) : Int := rd [0, 1, 1, 1, 0, (-1), (-1), (-1)] sd
def dyV (sd : Int) : Int := rd [(-1), (-1), 0, 1, 1, 1, 0, (-1)] sd
theorem sd_cases {sd : Int} (h0 : 0 ≤ sd) (h1 : sd ≤ 7) : sd = 0 ∨ sd = 1 ∨ sd = 2 ∨ sd = 3 ∨ sd = 4 ∨ sd = 5 ∨ sd = 6 ∨ sd = 7 := by omega
theorem dx_1 {sd : Int} (h0 : 0 ≤ sd) (h1 : sd ≤ 7) : (-1 ≤ dxV sd ∧ dxV sd ≤ 1) ∧ (-1 ≤ dyV sd ∧ dyV sd ≤ 1) := by
  rcases sd_cases h0 h1 with rfl | rfl | rfl | rfl | rfl | rfl | rfl | rfl <;> decide
theorem spec_side {x y sd : Int} (hx0 : 0 ≤ x) (hx1 : x < 16) (hy0 : 0 ≤ y) (hy1 : y < 16) (h0 : 0 ≤ sd) (h1 : sd ≤ 7) {k : Nat} (hk : 6 ≤ k) : spec_l07Side.f k x y sd = some (x + dxV sd, y + dyV sd) := by
  obtain ⟨m, rfl⟩ : ∃ m, k = m + 1 + 1 + 1 + 1 + 1 + 1 := ⟨k - 6, by omega⟩
  have e1 : IntKind.i8.wrap (y - 1) = y + -1 := by rw [w8 (by omega) (by omega)]; omega
  have e2 : IntKind.i8.wrap (y + 1) = y + 1 := w8 (by omega) (by omega)
  have e3 : IntKind.i8.wrap (x + 1) = x + 1 := w8 (by omega) (by omega)
  have e4 : IntKind.i8.wrap (x - 1) = x + -1 := by rw [w8 (by omega) (by omega)]; omega
  have d0 : dxV 0 = 0 ∧ dxV 1 = 1 ∧ dxV 2 = 1 ∧ dxV 3 = 1 ∧ dxV 4 = 0 ∧ dxV 5 = -1 ∧ dxV 6 = -1 ∧ dxV 7 = -1 := by decide
  have d1 : dyV 0 = -1 ∧ dyV 1 = -1 ∧ dyV 2 = 0 ∧ dyV 3 = 1 ∧ dyV 4 = 1 ∧ dyV 5 = 1 ∧ dyV 6 = 0 ∧ dyV 7 = -1 := by decide
  rcases sd_cases h0 h1 with rfl | rfl | rfl | rfl | rfl | rfl | rfl | rfl <;> simp [spec_l07Side.f, spec_l07Side.j0, spec_l07Side.j1, spec_l07Side.j2, spec_l07Side.j3, spec_l07Side.j4, e1, e2, e3, e4, d0, d1]
def driftV (b : Bay) (g : Grd) (x y ch f sd : Int) : Int × Int × Bool × Bool := if f ≤ holdV b g x y ch then (x, y, false, false) else if isW b (x + dxV sd) (y + dyV sd) = true then (x + dxV sd, y + dyV sd, true, false) else (x, y, true, true)
theorem impl_drift_tells {b : Bay} {g : Grd} (hg : groundsB b g = true) {x y ch : Int} (lo dr ki : Int) (hw : isW b x y = true) (hc0 : 0 ≤ ch) (hc1 : ch ≤ 127) {f sd : Int} (hf : b8 f) (h0 : 0 ≤ sd) (h1 : sd ≤ 7) :
    impl_drift.f b g x y ch lo dr ki f sd = some ((driftV b g x y ch f sd).1, (driftV b g x y ch f sd).2.1, ch, lo, dr, ki, (driftV b g x y ch f sd).2.2.1, (driftV b g x y ch f sd).2.2.2) := by
  have hb := (groundsB_true hg).1
  obtain ⟨x0, x1, y0, y1⟩ := isP_16 hb (isW_isP hw).1
  obtain ⟨⟨a, b'⟩, c, d⟩ := dx_1 h0 h1
  unfold impl_drift.f driftV
  rw [impl_hold_tells hg lo dr ki hw hc0 hc1]
  simp only [Option.bind_some]
  rw [ws hf]
  by_cases hh : f ≤ holdV b g x y ch
  · rw [if_pos hh, if_pos hh]
  · rw [if_neg hh, if_neg hh, if_pos h0, if_pos (by simp; omega), if_pos (by simp; omega), show rd [0, 1, 1, 1, 0, (-1), (-1), (-1)] sd = dxV sd from rfl, show rd [(-1), (-1), 0, 1, 1, 1, 0, (-1)] sd = dyV sd from rfl, w8 (by omega) (by omega), w8 (by omega) (by omega), impl_water hb]
    simp only [Option.bind_some]
    cases isW b (x + dxV sd) (y + dyV sd) <;> simp
theorem spec_once_tells {b : Bay} {g : Grd} (hg : groundsB b g = true) {x y ch : Int} (lo dr ki : Int) (hw : isW b x y = true) (hc0 : 0 ≤ ch) (hc1 : ch ≤ 127) {f sd : Int} (hf : b8 f) (h0 : 0 ≤ sd) (h1 : sd ≤ 7) {k : Nat} (hk : 6 ≤ k) :
    spec_l07Once.f k b g x y ch lo dr ki f sd = some ((driftV b g x y ch f sd).1, (driftV b g x y ch f sd).2.1, ch, lo, dr, ki, (driftV b g x y ch f sd).2.2.2) := by
  have hb := (groundsB_true hg).1
  obtain ⟨x0, x1, y0, y1⟩ := isP_16 hb (isW_isP hw).1
  obtain ⟨⟨a, b'⟩, c, d⟩ := dx_1 h0 h1
  unfold spec_l07Once.f spec_l07Drags.f driftV
  rw [spec_hold_tells hg lo dr ki hw hc0 hc1]
  simp only [Option.bind_some]
  rw [ws hf]
  by_cases hh : f ≤ holdV b g x y ch
  · rw [if_pos hh, if_neg (by simp; omega)]
  · rw [if_neg hh, if_pos (by simp; omega), spec_side x0 x1 y0 y1 h0 h1 hk]
    simp only [Option.bind_some]
    rw [spec_is b ⟨by omega, by omega⟩ ⟨by omega, by omega⟩]
    simp only [Option.bind_some, isW]
    by_cases hp : isP b (x + dxV sd) (y + dyV sd) = true
    case neg =>
      rw [if_neg hp]
      have hp' : isP b (x + dxV sd) (y + dyV sd) = false := by simpa using hp
      simp [hp']
    case pos =>
      obtain ⟨p0, p1, p2, p3⟩ := isP_16 hb hp
      have dd := dep_30 hb p0 p1 p2 p3
      unfold spec_l01Depth.f
      rw [if_pos hp, depO_in b p0 p1 p2 p3]
      simp only [Option.bind_some]
      by_cases hz : dep b (x + dxV sd) (y + dyV sd) = 0
      · simp [hp, hz]
      · have : 0 < dep b (x + dxV sd) (y + dyV sd) := by omega
        simp [hp, hz, this]
end Go.Proofs.Ytmhmfhdmeedcfaa.G.PB
end
section
namespace Go.Proofs.Ytmhmfhdmeedcfaa.G.PB
open Go.RowKit M Go.Proofs.Ytmhmfhdmeedcfaa.PL Go.Proofs.YtmhmfhdmeedcfaaW.PrintWords Go.Proofs.YtmhmfhdmeedcfaaW.PrintMore
set_option linter.unusedSimpArgs false
set_option linter.unusedVariables false
abbrev WdD := S78
abbrev PlD := S42
def dragsV (b : Bay) (g : Grd) (x y ch : Int) (ag : Bool) (f : Int) : Bool := !ag && decide (holdV b g x y ch < f)
def hourV (b : Bay) (g : Grd) (x y ch : Int) (ag : Bool) (f sd : Int) : Int × Int × Bool :=
  if ag = true then (x, y, true) else ((driftV b g x y ch f sd).1, (driftV b g x y ch f sd).2.1, (driftV b g x y ch f sd).2.2.2)
theorem driftV_isW {b : Bay} {g : Grd} {x y ch f sd : Int} (hw : isW b x y = true) : isW b (driftV b g x y ch f sd).1 (driftV b g x y ch f sd).2.1 = true := by
  unfold driftV
  split
  · exact hw
  · split
    · assumption
    · exact hw
theorem hourV_isW {b : Bay} {g : Grd} {x y ch f sd : Int} {ag : Bool} (hw : isW b x y = true) : isW b (hourV b g x y ch ag f sd).1 (hourV b g x y ch ag f sd).2.1 = true := by
  unfold hourV
  split
  · exact hw
  · exact driftV_isW hw
theorem driftV_moves {b : Bay} {g : Grd} {x y ch f sd : Int} : (driftV b g x y ch f sd).2.2.1 = decide (holdV b g x y ch < f) := by
  unfold driftV
  by_cases hh : f ≤ holdV b g x y ch
  · rw [if_pos hh]; simp; omega
  · rw [if_neg hh]; split <;> (simp; omega)
theorem driftV_stays {b : Bay} {g : Grd} {x y ch f sd : Int} (hh : f ≤ holdV b g x y ch) : driftV b g x y ch f sd = (x, y, false, false) := by
  unfold driftV; rw [if_pos hh]
theorem spec_drags_tells {b : Bay} {g : Grd} (hg : groundsB b g = true) {x y ch : Int} (lo dr ki : Int) (hw : isW b x y = true) (hc0 : 0 ≤ ch) (hc1 : ch ≤ 127) {f : Int} (sd : Int) (hf : b8 f) :
    spec_l07Drags.f b g x y ch lo dr ki f sd = some (decide (holdV b g x y ch < f)) := by
  unfold spec_l07Drags.f
  rw [spec_hold_tells hg lo dr ki hw hc0 hc1]
  simp only [Option.bind_some]
  rw [ws hf]
def firstV (b : Bay) (g : Grd) (x y ch : Int) (ag : Bool) (f fi n : Int) : Int := if dragsV b g x y ch ag f = true then (if fi < 0 then n else fi) else fi
def groundV (b : Bay) (g : Grd) (x y ch : Int) (ag : Bool) (f sd gr n : Int) : Int := if ag = true then gr else if (driftV b g x y ch f sd).2.2.2 = true then n else gr
theorem spec_hour_tells {b : Bay} {g : Grd} (hg : groundsB b g = true) {x y ch : Int} (lo dr ki : Int) (hw : isW b x y = true) (hc0 : 0 ≤ ch) (hc1 : ch ≤ 127) (ag : Bool) (fi gr n : Int) (v : Value) {f sd : Int} (hf : b8 f) (h0 : 0 ≤ sd) (h1 : sd ≤ 7) {k : Nat} (hk : 20 ≤ k) :
    spec_l07Drift_hour.f k x y ch lo dr ki ag fi gr v b g f sd n = some ((hourV b g x y ch ag f sd).1, (hourV b g x y ch ag f sd).2.1, ch, lo, dr, ki, (hourV b g x y ch ag f sd).2.2, firstV b g x y ch ag f fi n, groundV b g x y ch ag f sd gr n) := by
  obtain ⟨m, rfl⟩ : ∃ m, k = m + 6 + 1 + 1 + 1 + 1 := ⟨k - 10, by omega⟩
  unfold spec_l07Drift_hour.f hourV firstV groundV dragsV
  cases ag
  · rw [if_neg (by simp), spec_drags_tells hg lo dr ki hw hc0 hc1 sd hf]
    simp only [Option.bind_some, spec_l07Drift_hour.j0]
    by_cases hh : f ≤ holdV b g x y ch
    · rw [if_neg (by simp; omega), driftV_stays hh, spec_l07Drift_hour.j3]
      have : ¬ holdV b g x y ch < f := by omega
      simp [this]
    · have hlt : holdV b g x y ch < f := by omega
      rw [if_pos (by simp; omega)]
      simp only [spec_l07Drift_hour.j1]
      rw [spec_once_tells hg lo dr ki hw hc0 hc1 hf h0 h1 (by omega)]
      simp only [Option.bind_some, spec_l07Drift_hour.j2, spec_l07Drift_hour.j3]
      by_cases hfi : fi < 0 <;> cases (driftV b g x y ch f sd).2.2.2 <;> simp [hlt, hfi]
  · rw [if_pos rfl, spec_l07Drift_hour.j0, if_neg (by simp), spec_l07Drift_hour.j3]
    simp
theorem impl_hour_tells {b : Bay} {g : Grd} (hg : groundsB b g = true) {x y ch : Int} (lo dr ki : Int) (hw : isW b x y = true) (hc0 : 0 ≤ ch) (hc1 : ch ≤ 127) (ag : Bool) {f sd : Int} (hf : b8 f) (h0 : 0 ≤ sd) (h1 : sd ≤ 7) :
    impl_drifting_hour.f x y ch lo dr ki ag b g f sd = some (dragsV b g x y ch ag f, (hourV b g x y ch ag f sd).1, (hourV b g x y ch ag f sd).2.1, ch, lo, dr, ki, (hourV b g x y ch ag f sd).2.2) := by
  unfold impl_drifting_hour.f hourV dragsV
  cases ag
  · rw [if_neg (by simp), impl_drift_tells hg lo dr ki hw hc0 hc1 hf h0 h1]
    simp only [Option.bind_some]
    rw [driftV_moves]
    simp
  · simp
theorem vW_b8 {w : WdD} (h : vW w = true) : b8 w.f0 ∧ 0 ≤ w.f1 ∧ w.f1 ≤ 7 := by
  unfold vW windB inB at h; simp at h; unfold b8; omega
end Go.Proofs.Ytmhmfhdmeedcfaa.G.PB
end
section
namespace Go.Proofs.Ytmhmfhdmeedcfaa.G.PB
open Go.RowKit M Go.Proofs.Ytmhmfhdmeedcfaa.PL Go.Proofs.YtmhmfhdmeedcfaaW.PrintWords Go.Proofs.YtmhmfhdmeedcfaaW.PrintMore
set_option linter.unusedSimpArgs false
set_option linter.unusedVariables false
def gaV (b : Bay) (g : Grd) (ch : Int) : List WdD → Int → Int → Int → Int
  | [], _, _, _ => -1
  | w :: ws, x, y, n => if (hourV b g x y ch false w.f0 w.f1).2.2 = true then n else gaV b g ch ws (hourV b g x y ch false w.f0 w.f1).1 (hourV b g x y ch false w.f0 w.f1).2.1 (n + 1)
def fiV (b : Bay) (g : Grd) (ch : Int) : List WdD → Int → Int → Bool → Int → Int → Int
  | [], _, _, _, fi, _ => fi
  | w :: ws, x, y, ag, fi, n => fiV b g ch ws (hourV b g x y ch ag w.f0 w.f1).1 (hourV b g x y ch ag w.f0 w.f1).2.1 (hourV b g x y ch ag w.f0 w.f1).2.2 (firstV b g x y ch ag w.f0 fi n) (n + 1)
def grV (b : Bay) (g : Grd) (ch : Int) : List WdD → Int → Int → Bool → Int → Int → Int
  | [], _, _, _, gr, _ => gr
  | w :: ws, x, y, ag, gr, n => grV b g ch ws (hourV b g x y ch ag w.f0 w.f1).1 (hourV b g x y ch ag w.f0 w.f1).2.1 (hourV b g x y ch ag w.f0 w.f1).2.2 (groundV b g x y ch ag w.f0 w.f1 gr n) (n + 1)
theorem grV_set (b : Bay) (g : Grd) (ch : Int) : ∀ (l : List WdD) (x y gr n : Int), grV b g ch l x y true gr n = gr
  | [], _, _, _, _ => rfl
  | w :: ws, x, y, gr, n => by
    unfold grV groundV
    rw [if_pos rfl]
    have : (hourV b g x y ch true w.f0 w.f1).2.2 = true := by unfold hourV; rw [if_pos rfl]
    rw [this]; exact grV_set b g ch ws _ _ _ _
theorem hourV_agr (b : Bay) (g : Grd) (x y ch f sd : Int) : (hourV b g x y ch false f sd).2.2 = (driftV b g x y ch f sd).2.2.2 := by
  unfold hourV; rw [if_neg (by decide)]
theorem grV_ga (b : Bay) (g : Grd) (ch : Int) : ∀ (l : List WdD) (x y n : Int), 0 ≤ n → grV b g ch l x y false (-1) n = gaV b g ch l x y n
  | [], _, _, _, _ => rfl
  | w :: ws, x, y, n, h => by
    unfold grV gaV groundV
    rw [if_neg (by decide), hourV_agr]
    cases hd : (driftV b g x y ch w.f0 w.f1).2.2.2
    · rw [if_neg (by decide), if_neg (by decide)]; exact grV_ga b g ch ws _ _ _ (by omega)
    · rw [if_pos rfl, if_pos rfl]; exact grV_set b g ch ws _ _ _ _
theorem spec_first {b : Bay} {g : Grd} (hg : groundsB b g = true) {ch : Int} (lo dr ki : Int) (hc0 : 0 ≤ ch) (hc1 : ch ≤ 127) :
    ∀ (l : List WdD) (n x y : Int) (ag : Bool) (fi gr : Int) (acc : List PlD), l.all vW = true → isW b x y = true → acc.length + l.length < 1000000 →
      ∃ x' y' ag' acc', allDrift b g l n x y ch lo dr ki ag fi gr acc = some (x', y', ch, lo, dr, ki, ag', fiV b g ch l x y ag fi n, grV b g ch l x y ag gr n, acc')
  | [], n, x, y, ag, fi, gr, acc, _, _, _ => ⟨x, y, ag, acc, by simp [allDrift, fiV, grV]⟩
  | w :: ws, n, x, y, ag, fi, gr, acc, hv, hw, hl => by
    simp only [List.all_cons, Bool.and_eq_true] at hv
    simp only [List.length_cons] at hl
    obtain ⟨b1, b2, b3⟩ := vW_b8 hv.1
    obtain ⟨x', y', ag', acc', e⟩ := spec_first hg lo dr ki hc0 hc1 ws (n + 1) (hourV b g x y ch ag w.f0 w.f1).1 (hourV b g x y ch ag w.f0 w.f1).2.1 (hourV b g x y ch ag w.f0 w.f1).2.2 (firstV b g x y ch ag w.f0 fi n) (groundV b g x y ch ag w.f0 w.f1 gr n) (acc ++ [⟨(hourV b g x y ch ag w.f0 w.f1).1, (hourV b g x y ch ag w.f0 w.f1).2.1⟩]) hv.2 (hourV_isW hw) (by simp; omega)
    refine ⟨x', y', ag', acc', ?_⟩
    rw [allDrift, spec_hour_tells hg lo dr ki hw hc0 hc1 ag fi gr n _ b1 b2 b3 (by omega)]
    simp only [Option.bind_some]
    rw [if_pos (by omega), e, fiV, grV]
def tellV (v : Int) : Int × Int := if v < 0 then (0, 6) else (v, 0)
theorem impl_ground {b : Bay} {g : Grd} (hg : groundsB b g = true) {ch : Int} (lo dr ki : Int) (hc0 : 0 ≤ ch) (hc1 : ch ≤ 127) {L : List WdD} (hL : L.length ≤ 48) (hv : L.all vW = true) (d : Nat) :
    ∀ (k i : Nat) (x y : Int), i + d = L.length → d < k → isW b x y = true →
      impl_firstHour_46.l0 k L L.length i b g x y ch lo dr ki false = some (tellV (gaV b g ch (L.drop i) x y i)) := by
  induction d with
  | zero =>
    intro k i x y hi hk hw
    obtain ⟨k, rfl⟩ : ∃ m, k = m + 1 := ⟨k - 1, by omega⟩
    simp only [impl_firstHour_46.l0]; rw [if_neg (by omega), List.drop_of_length_le (by omega), gaV]; rfl
  | succ d ih =>
    intro k i x y hi hk hw
    obtain ⟨k, rfl⟩ : ∃ m, k = m + 1 := ⟨k - 1, by omega⟩
    obtain ⟨b1, b2, b3⟩ := vW_b8 (List.all_eq_true.mp hv _ (List.getElem_mem (by omega : i < L.length)))
    simp only [impl_firstHour_46.l0]; rw [if_pos (by omega), if_pos (by omega), if_pos (by omega), rdW (by omega), impl_hour_tells hg lo dr ki hw hc0 hc1 false b1 b2 b3, List.drop_eq_getElem_cons (by omega : i < L.length)]
    simp only [Option.bind_some, impl_AgroundAt_1.f]
    rw [gaV]
    cases hd : (hourV b g x y ch false (L[i]'(by omega)).f0 (L[i]'(by omega)).f1).2.2
    · rw [if_neg (by decide), if_neg (by decide), wnx (by omega), ih k (i + 1) _ _ (by omega) (by omega) (hourV_isW hw)]
      simp
    · rw [if_pos rfl, if_pos rfl, tellV, if_neg (by omega)]
end Go.Proofs.Ytmhmfhdmeedcfaa.G.PB
end
section
namespace Go.Proofs.Ytmhmfhdmeedcfaa.G.Pure
open Go.RowKit M Go.Proofs.Ytmhmfhdmeedcfaa.PL Go.Proofs.Ytmhmfhdmeedcfaa.G.PB Go.Proofs.Ytmhmfhdmeedcfaa.G.PS
set_option linter.unusedSimpArgs false
set_option linter.unusedVariables false
abbrev Wd := S78
def agroundV (b : PB.Bay) (g : Grd) (x y ch lo dr ki : Int) (ws : List Wd) : Int × Int := if (validV b g x y ch lo dr ki && windsV ws) = true then tellV (gaV b g ch ws x y 0) else (0, 1)
theorem windsV_true {ws : List Wd} (h : windsV ws = true) : ws.all vW = true ∧ ws.length ≤ 48 := by
  unfold windsV at h; simpa using h
theorem spec_tells {b : PB.Bay} {g : Grd} {x y ch lo dr ki : Int} {l : List Wd} (hl : l.length ≤ 10000000) (hok : l.all okW = true) {k : Nat} (hk : l.length + 400 < k) (hx : b8 x) (hy : b8 y) (hc : b8 ch) (hlo : b8 lo) (hd : b8 dr) (hki : b8 ki) : spec_AgroundAt.f k b g x y ch lo dr ki l = some (agroundV b g x y ch lo dr ki l) := by
  unfold spec_AgroundAt.f agroundV
  rw [spec_valid (spec_winds_tells hl hok (by omega)) hx hy hc hlo hd hki]
  simp only [Option.bind_some]
  cases hv : validV b g x y ch lo dr ki
  · simp
  · cases hws : windsV l
    · simp
    · obtain ⟨hg, hb⟩ := validV_true hv
      obtain ⟨hw, h1, _⟩ := boatV_isW hb
      obtain ⟨hvw, h48⟩ := windsV_true hws
      obtain ⟨x', y', ag', acc', e⟩ := spec_first hg (ch := ch) lo dr ki (by omega) (by omega) l 0 x y false (-1) (-1) [] hvw hw (by simp; omega)
      simp only [Bool.and_true, if_true]
      unfold spec_l07All.f
      rw [if_pos (by omega), e]
      simp only [Option.bind_some]
      rw [grV_ga b g ch l x y 0 (by omega), tellV]
      split <;> rfl
theorem impl_tells {b : PB.Bay} {g : Grd} {x y ch lo dr ki : Int} {l : List Wd} (hl : l.length ≤ 10000000) (hok : l.all okW = true) {k : Nat} (hk : l.length + 400 < k) : impl_AgroundAt.f k b g x y ch lo dr ki l = some (agroundV b g x y ch lo dr ki l) := by
  unfold impl_AgroundAt.f impl_firstHour_46.f agroundV
  rw [impl_code hl (by omega)]
  simp only [Option.bind_some]
  cases hv : validV b g x y ch lo dr ki
  · simp
  · cases hws : windsV l
    · simp
    · obtain ⟨hg, hb⟩ := validV_true hv
      obtain ⟨hw, h1, _⟩ := boatV_isW hb
      obtain ⟨hvw, h48⟩ := windsV_true hws
      have := impl_ground hg (ch := ch) lo dr ki (by omega) (by omega) h48 hvw l.length k 0 x y (by omega) (by omega) hw
      rw [show ((0 : Nat) : Int) = 0 from rfl] at this
      simp only [Bool.and_true, if_true]
      rw [this]
      simp
theorem FnExactAgroundAt : ∀ (o0 : O26) (o1 : O28) (a2_0 a2_1 a2_2 a2_3 a2_4 a2_5 : Int) (l3 : List S80), (Lit.int .i8 a2_0).wf = true → (Lit.int .i8 a2_1).wf = true → (Lit.int .i8 a2_2).wf = true → (Lit.int .i8 a2_3).wf = true → (Lit.int .i8 a2_4).wf = true → (Lit.int .i8 a2_5).wf = true → l3.length ≤ 9223372036854775807 → (∀ x ∈ l3, ∃ z : Nat → Int, x = (⟨z 0, z 1⟩ : S80) ∧ ∀ j, j < 2 → (Lit.int (([.i8, .i8] : List IntKind).getD j .i64) (z j)).wf = true) → ∃ k, laws_FnExactAgroundAt.f k o0 o1 a2_0 a2_1 a2_2 a2_3 a2_4 a2_5 l3 = some true := by
  intro b g x y ch lo dr ki l hx hy hc hlo hd hk hl hxs
  have hok := winds_ok hxs
  unfold laws_FnExactAgroundAt.f laws_szWindS.f
  rw [sz_tellsW hl]
  by_cases hbig : (1048576 : Int) - (l.length : Int) < 0
  · exact ⟨0, by rw [if_pos hbig]; rfl⟩
  obtain ⟨K, hK⟩ : ∃ K, K = 3000000 := ⟨_, rfl⟩
  refine ⟨K + 1 + 1 + 1, ?_⟩
  obtain ⟨M, hM⟩ : ∃ M, M = l.map convWind := ⟨_, rfl⟩
  have hMl : M.length ≤ 1048576 := by rw [hM, List.length_map]; omega
  have hto : ∀ k, l.length < k → laws_toWindS.f k l = some M := fun k hk => by rw [hM]; exact toWind_tells (by omega) hk
  rw [← hM] at hok
  have hsp : ∀ k, M.length + 400 < k → spec_AgroundAt.f k b g x y ch lo dr ki M = some (agroundV b g x y ch lo dr ki M) := fun k h => spec_tells (by omega) hok h (b8_of hx) (b8_of hy) (b8_of hc) (b8_of hlo) (b8_of hd) (b8_of hk)
  have him : ∀ k, M.length + 400 < k → impl_AgroundAt.f k b g x y ch lo dr ki M = some (agroundV b g x y ch lo dr ki M) := fun k h => impl_tells (by omega) hok h
  clear hM
  rw [if_neg hbig]
  simp only [Option.bind_some]
  rw [if_neg hbig]
  simp only [laws_toBay.f, laws_toGrounds.f, laws_toBoat.f, laws_toPlace.f, Option.bind_some]
  rw [hto _ (by omega)]
  simp only [Option.bind_some]
  rw [hsp _ (by omega)]
  simp only [Option.bind_some]
  rw [him _ (by omega)]
  simp only [Option.bind_some, if_true, bne_self_eq_false, laws_FnExactAgroundAt.j0]
  rw [if_neg (by simp), hto _ (by omega)]
  simp only [Option.bind_some]
  rw [eqWind_tells (by omega) (by omega)]
  simp
end Go.Proofs.Ytmhmfhdmeedcfaa.G.Pure
end
namespace Go.Proofs.Ytmhmfhdmeedcfaa.rowFnExactAgroundAt
open Go.ChangeShapes Go.WideShapes Go.ChangeAt Go.RowKit G Go.Proofs.YtmhmfhdmeedcfaaW.PrintWords
open Go.ChangeMaps (open_string shut_string)
set_option linter.unusedVariables false
theorem own : ownKnob Try.prog.godebug = none := by kernel_rfl
theorem laidOut : laidOutB Try.prog = true := by kernel_rfl
set_option maxRecDepth 100000 in
theorem lifted (os : Os) (started : os.Started) (H : Type) (enc : TypeId × Value → H) :
    ReturnsInHanded {} Try.checked os 5 .any (Rows.fnExactAgroundAtSpec.pre6 enc Try.prog Try.f5 Rows.fnExactAgroundAtRow.domain false) (Rows.fnExactAgroundAtSpec.post enc Try.prog Try.f5 false true false false) := by
  refine returnsInHanded_of_change_sized (C := Try.checked) own started (by kernel_rfl) Try.func5
    (ChangeSpec.witness6 (enc := enc) (C := Try.checked) false ⟨#[], #[.agg (Array.mk [.int .i8 0, .int .i8 0, .int .i8 0, .int .i8 0, .int .i8 0, .int .i8 0, .int .i8 0, .int .i8 0, .int .i8 0, .int .i8 0, .int .i8 0, .int .i8 0, .int .i8 0, .int .i8 0, .int .i8 0, .int .i8 0, .int .i8 0, .int .i8 0, .int .i8 0, .int .i8 0, .int .i8 0, .int .i8 0, .int .i8 0, .int .i8 0, .int .i8 0, .int .i8 0, .int .i8 0, .int .i8 0, .int .i8 0, .int .i8 0, .int .i8 0, .int .i8 0, .int .i8 0, .int .i8 0, .int .i8 0, .int .i8 0, .int .i8 0, .int .i8 0, .int .i8 0, .int .i8 0, .int .i8 0, .int .i8 0, .int .i8 0, .int .i8 0, .int .i8 0, .int .i8 0, .int .i8 0, .int .i8 0, .int .i8 0, .int .i8 0, .int .i8 0, .int .i8 0, .int .i8 0, .int .i8 0, .int .i8 0, .int .i8 0, .int .i8 0, .int .i8 0, .int .i8 0, .int .i8 0, .int .i8 0, .int .i8 0, .int .i8 0, .int .i8 0, .int .i8 0, .int .i8 0, .int .i8 0, .int .i8 0, .int .i8 0, .int .i8 0, .int .i8 0, .int .i8 0, .int .i8 0, .int .i8 0, .int .i8 0, .int .i8 0, .int .i8 0, .int .i8 0, .int .i8 0, .int .i8 0, .int .i8 0, .int .i8 0, .int .i8 0, .int .i8 0, .int .i8 0, .int .i8 0, .int .i8 0, .int .i8 0, .int .i8 0, .int .i8 0, .int .i8 0, .int .i8 0, .int .i8 0, .int .i8 0, .int .i8 0, .int .i8 0, .int .i8 0, .int .i8 0, .int .i8 0, .int .i8 0, .int .i8 0, .int .i8 0, .int .i8 0, .int .i8 0, .int .i8 0, .int .i8 0, .int .i8 0, .int .i8 0, .int .i8 0, .int .i8 0, .int .i8 0, .int .i8 0, .int .i8 0, .int .i8 0, .int .i8 0, .int .i8 0, .int .i8 0, .int .i8 0, .int .i8 0, .int .i8 0, .int .i8 0, .int .i8 0, .int .i8 0, .int .i8 0, .int .i8 0, .int .i8 0, .int .i8 0, .int .i8 0, .int .i8 0, .int .i8 0, .int .i8 0, .int .i8 0, .int .i8 0, .int .i8 0, .int .i8 0, .int .i8 0, .int .i8 0, .int .i8 0, .int .i8 0, .int .i8 0, .int .i8 0, .int .i8 0, .int .i8 0, .int .i8 0, .int .i8 0, .int .i8 0, .int .i8 0, .int .i8 0, .int .i8 0, .int .i8 0, .int .i8 0, .int .i8 0, .int .i8 0, .int .i8 0, .int .i8 0, .int .i8 0, .int .i8 0, .int .i8 0, .int .i8 0, .int .i8 0, .int .i8 0, .int .i8 0, .int .i8 0, .int .i8 0, .int .i8 0, .int .i8 0, .int .i8 0, .int .i8 0, .int .i8 0, .int .i8 0, .int .i8 0, .int .i8 0, .int .i8 0, .int .i8 0, .int .i8 0, .int .i8 0, .int .i8 0, .int .i8 0, .int .i8 0, .int .i8 0, .int .i8 0, .int .i8 0, .int .i8 0, .int .i8 0, .int .i8 0, .int .i8 0, .int .i8 0, .int .i8 0, .int .i8 0, .int .i8 0, .int .i8 0, .int .i8 0, .int .i8 0, .int .i8 0, .int .i8 0, .int .i8 0, .int .i8 0, .int .i8 0, .int .i8 0, .int .i8 0, .int .i8 0, .int .i8 0, .int .i8 0, .int .i8 0, .int .i8 0, .int .i8 0, .int .i8 0, .int .i8 0, .int .i8 0, .int .i8 0, .int .i8 0, .int .i8 0, .int .i8 0, .int .i8 0, .int .i8 0, .int .i8 0, .int .i8 0, .int .i8 0, .int .i8 0, .int .i8 0, .int .i8 0, .int .i8 0, .int .i8 0, .int .i8 0, .int .i8 0, .int .i8 0, .int .i8 0, .int .i8 0, .int .i8 0, .int .i8 0, .int .i8 0, .int .i8 0, .int .i8 0, .int .i8 0, .int .i8 0, .int .i8 0, .int .i8 0, .int .i8 0, .int .i8 0, .int .i8 0, .int .i8 0, .int .i8 0, .int .i8 0, .int .i8 0, .int .i8 0, .int .i8 0, .int .i8 0, .int .i8 0, .int .i8 0, .int .i8 0, .int .i8 0, .int .i8 0, .int .i8 0, .int .i8 0, .int .i8 0, .int .i8 0, .int .i8 0, .int .i8 0]), .agg (Array.mk [.int .u8 0, .int .u8 0, .int .u8 0, .int .u8 0, .int .u8 0, .int .u8 0, .int .u8 0, .int .u8 0, .int .u8 0, .int .u8 0, .int .u8 0, .int .u8 0, .int .u8 0, .int .u8 0, .int .u8 0, .int .u8 0, .int .u8 0, .int .u8 0, .int .u8 0, .int .u8 0, .int .u8 0, .int .u8 0, .int .u8 0, .int .u8 0, .int .u8 0, .int .u8 0, .int .u8 0, .int .u8 0, .int .u8 0, .int .u8 0, .int .u8 0, .int .u8 0, .int .u8 0, .int .u8 0, .int .u8 0, .int .u8 0, .int .u8 0, .int .u8 0, .int .u8 0, .int .u8 0, .int .u8 0, .int .u8 0, .int .u8 0, .int .u8 0, .int .u8 0, .int .u8 0, .int .u8 0, .int .u8 0, .int .u8 0, .int .u8 0, .int .u8 0, .int .u8 0, .int .u8 0, .int .u8 0, .int .u8 0, .int .u8 0, .int .u8 0, .int .u8 0, .int .u8 0, .int .u8 0, .int .u8 0, .int .u8 0, .int .u8 0, .int .u8 0, .int .u8 0, .int .u8 0, .int .u8 0, .int .u8 0, .int .u8 0, .int .u8 0, .int .u8 0, .int .u8 0, .int .u8 0, .int .u8 0, .int .u8 0, .int .u8 0, .int .u8 0, .int .u8 0, .int .u8 0, .int .u8 0, .int .u8 0, .int .u8 0, .int .u8 0, .int .u8 0, .int .u8 0, .int .u8 0, .int .u8 0, .int .u8 0, .int .u8 0, .int .u8 0, .int .u8 0, .int .u8 0, .int .u8 0, .int .u8 0, .int .u8 0, .int .u8 0, .int .u8 0, .int .u8 0, .int .u8 0, .int .u8 0, .int .u8 0, .int .u8 0, .int .u8 0, .int .u8 0, .int .u8 0, .int .u8 0, .int .u8 0, .int .u8 0, .int .u8 0, .int .u8 0, .int .u8 0, .int .u8 0, .int .u8 0, .int .u8 0, .int .u8 0, .int .u8 0, .int .u8 0, .int .u8 0, .int .u8 0, .int .u8 0, .int .u8 0, .int .u8 0, .int .u8 0, .int .u8 0, .int .u8 0, .int .u8 0, .int .u8 0, .int .u8 0, .int .u8 0, .int .u8 0, .int .u8 0, .int .u8 0, .int .u8 0, .int .u8 0, .int .u8 0, .int .u8 0, .int .u8 0, .int .u8 0, .int .u8 0, .int .u8 0, .int .u8 0, .int .u8 0, .int .u8 0, .int .u8 0, .int .u8 0, .int .u8 0, .int .u8 0, .int .u8 0, .int .u8 0, .int .u8 0, .int .u8 0, .int .u8 0, .int .u8 0, .int .u8 0, .int .u8 0, .int .u8 0, .int .u8 0, .int .u8 0, .int .u8 0, .int .u8 0, .int .u8 0, .int .u8 0, .int .u8 0, .int .u8 0, .int .u8 0, .int .u8 0, .int .u8 0, .int .u8 0, .int .u8 0, .int .u8 0, .int .u8 0, .int .u8 0, .int .u8 0, .int .u8 0, .int .u8 0, .int .u8 0, .int .u8 0, .int .u8 0, .int .u8 0, .int .u8 0, .int .u8 0, .int .u8 0, .int .u8 0, .int .u8 0, .int .u8 0, .int .u8 0, .int .u8 0, .int .u8 0, .int .u8 0, .int .u8 0, .int .u8 0, .int .u8 0, .int .u8 0, .int .u8 0, .int .u8 0, .int .u8 0, .int .u8 0, .int .u8 0, .int .u8 0, .int .u8 0, .int .u8 0, .int .u8 0, .int .u8 0, .int .u8 0, .int .u8 0, .int .u8 0, .int .u8 0, .int .u8 0, .int .u8 0, .int .u8 0, .int .u8 0, .int .u8 0, .int .u8 0, .int .u8 0, .int .u8 0, .int .u8 0, .int .u8 0, .int .u8 0, .int .u8 0, .int .u8 0, .int .u8 0, .int .u8 0, .int .u8 0, .int .u8 0, .int .u8 0, .int .u8 0, .int .u8 0, .int .u8 0, .int .u8 0, .int .u8 0, .int .u8 0, .int .u8 0, .int .u8 0, .int .u8 0, .int .u8 0, .int .u8 0, .int .u8 0, .int .u8 0, .int .u8 0, .int .u8 0, .int .u8 0, .int .u8 0, .int .u8 0, .int .u8 0, .int .u8 0, .int .u8 0, .int .u8 0, .int .u8 0, .int .u8 0, .int .u8 0, .int .u8 0, .int .u8 0, .int .u8 0, .int .u8 0, .int .u8 0, .int .u8 0]), .agg #[.int .i8 0, .int .i8 0, .int .i8 0, .int .i8 0, .int .i8 0, .int .i8 0], .slice none 0 0], []⟩ 8 (by kernel_rfl) (by kernel_rfl) (by kernel_rfl) (by kernel_rfl)) ?_
  intro W base args ds gs before hval0 hW hcnd hsz0 _
  have hsz : (DataW.weightsEach Try.prog (Try.f5.params.toList ++ Rows.fnExactAgroundAtSpec.plain.varTypes Try.prog) (ds ++ gs)).all (· ≤ reachBytes) = true := hsz0
  have hval : ∀ (j : Nat) t v, Try.f5.params[j]? = some t → args[j]? = some v → Value.okWide Try.prog W .any base t v := hval0
  have hW' := hW
  obtain ⟨p, q, hA0, hV, rfl, hfz, hnd⟩ := hW
  have hA : DataW.TrodAll enc Try.prog W 0 (fun _ => true) true Try.f5.params.toList args.toList ds p := hA0
  rw [Try.params5] at hA hval hsz
  obtain ⟨v0, vs0, d0, ds0, p0, q0, hargs, rfl, rfl, h0, r0⟩ := trodAll_cons hA
  obtain ⟨v1, vs1, d1, ds1, p1, q1, rfl, rfl, rfl, h1, r1⟩ := trodAll_cons r0
  obtain ⟨v2, vs2, d2, ds2, p2, q2, rfl, rfl, rfl, h2, r2⟩ := trodAll_cons r1
  obtain ⟨v3, vs3, d3, ds3, p3, q3, rfl, rfl, rfl, h3, r3⟩ := trodAll_cons r2
  obtain ⟨rfl, rfl, rfl⟩ := trodAll_nil r3
  obtain rfl : args = #[v0, v1, v2, v3] := by cases args; simp_all
  obtain ⟨rfl, rfl⟩ := trodVars_none hV
  have k0_ := h0
  have lt0 : ∀ x ∈ p0, x.block < W.heap.size := by obtain ⟨m, hm⟩ := k0_; exact DataW.trod_lt m _ _ _ hm
  obtain ⟨o0, rfl⟩ : ∃ o : O26, v0 = VO26 o := by
    obtain ⟨z, e, hw⟩ := RL.flat_value 258 KSO26 (by kernel_rfl) (by kernel_rfl) (okWide_struct Try.underlying26 (hval 0 26 v0 rfl rfl)) h0
    obtain ⟨o, ho⟩ := openO26 z hw
    exact ⟨o, by first | (rw [e, ho]; done) | (rw [e, ho]; rfl)⟩
  have k1_ := h1
  have lt1 : ∀ x ∈ p1, x.block < W.heap.size := by obtain ⟨m, hm⟩ := k1_; exact DataW.trod_lt m _ _ _ hm
  obtain ⟨o1, rfl⟩ : ∃ o : O28, v1 = VO28 o := by
    obtain ⟨z, e, hw⟩ := RL.flat_value 256 KSO28 (by kernel_rfl) (by kernel_rfl) (RL.okWide_arr Try.underlying28 (hval 1 28 v1 rfl rfl)) h1
    obtain ⟨o, ho⟩ := openO28 z hw
    exact ⟨o, by first | (rw [e, ho]; done) | (rw [e, ho]; rfl)⟩
  have k2_ := h2
  have lt2 : ∀ x ∈ p2, x.block < W.heap.size := by obtain ⟨m, hm⟩ := k2_; exact DataW.trod_lt m _ _ _ hm
  obtain ⟨a2_0, a2_1, a2_2, a2_3, a2_4, a2_5, rfl, w2_0, w2_1, w2_2, w2_3, w2_4, w2_5⟩ : ∃ a2_0 a2_1 a2_2 a2_3 a2_4 a2_5 : Int, v2 = .agg #[.int .i8 a2_0, .int .i8 a2_1, .int .i8 a2_2, .int .i8 a2_3, .int .i8 a2_4, .int .i8 a2_5] ∧ (Lit.int .i8 a2_0).wf = true ∧ (Lit.int .i8 a2_1).wf = true ∧ (Lit.int .i8 a2_2).wf = true ∧ (Lit.int .i8 a2_3).wf = true ∧ (Lit.int .i8 a2_4).wf = true ∧ (Lit.int .i8 a2_5).wf = true := by
    obtain ⟨z, e, hw⟩ := RL.flat_value 6 [.i8, .i8, .i8, .i8, .i8, .i8] (by kernel_rfl) (by kernel_rfl) (okWide_struct Try.underlying32 (hval 2 32 v2 rfl rfl)) h2
    exact ⟨z 0, z 1, z 2, z 3, z 4, z 5, e, hw 0 (by omega), hw 1 (by omega), hw 2 (by omega), hw 3 (by omega), hw 4 (by omega), hw 5 (by omega)⟩
  have k3_ := h3
  have lt3 : ∀ x ∈ p3, x.block < W.heap.size := by obtain ⟨m, hm⟩ := k3_; exact DataW.trod_lt m _ _ _ hm
  obtain ⟨A3, len3, c3, rfl⟩ := okWide_slice Try.underlying33 (hval 3 33 v3 rfl rfl)
  obtain ⟨l3, rfl, C3, g3, m3, y3⟩ := RL.slice_C k80 (fun z => (⟨z 0, z 1⟩ : S80)) 2 [.i8, .i8] rfl (fun z => ⟨[.int .i8 (z 0)], [.int .i8 (z 1)], rfl, rfl, rfl⟩) Try.underlying33 (by kernel_rfl) (by kernel_rfl) h3
  clear hA0 hval0 hsz0 hsz
  obtain ⟨k, hp⟩ := Pure.FnExactAgroundAt o0 o1 a2_0 a2_1 a2_2 a2_3 a2_4 a2_5 l3 w2_0 w2_1 w2_2 w2_3 w2_4 w2_5 m3 y3
  refine (laws_FnExactAgroundAt.calls k o0 o1 a2_0 a2_1 a2_2 a2_3 a2_4 a2_5 A3 c3 l3 true W rfl C3 g3 hp).mono fun e W' ⟨he, bel⟩ => ?_
  subst he
  exact ⟨_, rfl, _, _, _, [], _, [], hW', trodAll_mk1 (shut_bool Try.underlying4 _), (trodAll_cons_mk (Below.trod laidOut (by kernel_rfl) (of_decide_eq_true (by kernel_rfl)) k0_ bel lt0) (trodAll_cons_mk (Below.trod laidOut (by kernel_rfl) (of_decide_eq_true (by kernel_rfl)) k1_ bel lt1) (trodAll_cons_mk (Below.trod laidOut (by kernel_rfl) (of_decide_eq_true (by kernel_rfl)) k2_ bel lt2) (trodAll_cons_mk (Below.trod laidOut (by kernel_rfl) (of_decide_eq_true (by kernel_rfl)) k3_ bel lt3) trodAll_mk0)))), rfl, bel.frame _, fun h => by cases h⟩
set_option maxHeartbeats 8000000 in
theorem closed : joinedFacts Try.pinned.checked.prog 5 Try.f5 Rows.fnExactAgroundAtSpec Rows.fnExactAgroundAtRow = true := by
  kernel_rfl
theorem named : Try.pinned.checked.prog.funcNamed Rows.fnExactAgroundAtRow.func = some 5 := by kernel_rfl
theorem inst : Try.f5.isInstance Try.pinned.checked.prog Rows.fnExactAgroundAtRow.origin Rows.fnExactAgroundAtRow.targs := of_decide_eq_true (by kernel_rfl)
theorem wrapper : Try.f5.isWrapper Try.pinned.checked.prog Rows.fnExactAgroundAtRow.wrapper Rows.fnExactAgroundAtRow.mainSum := by unfold Func.isWrapper; first | (rw [if_pos (by decide +kernel)]; kernel_rfl) | (rw [if_neg (by decide +kernel)]; exact ⟨rfl, rfl⟩)
theorem over : Rows.fnExactAgroundAtRow.holds Try.pinned (OpenSpec.ofChange Rows.fnExactAgroundAtSpec) :=
  OpenClaim.holds_of_wide 5 Try.f5 rfl rfl rfl rfl rfl rfl rfl ⟨rfl, rfl, rfl, rfl, rfl⟩ rfl rfl rfl rfl rfl named Try.func5 closed inst wrapper
    (fun os started H enc _ => lifted os started H enc)
theorem proved : Rows.FnExactAgroundAtSaid := over
#print axioms proved
end Go.Proofs.Ytmhmfhdmeedcfaa.rowFnExactAgroundAt
namespace Go.Proofs.Ytmhmfhdmeedcfaa
theorem fnExactAgroundAt_holds : Rows.FnExactAgroundAtSaid := rowFnExactAgroundAt.proved
end Go.Proofs.Ytmhmfhdmeedcfaa
