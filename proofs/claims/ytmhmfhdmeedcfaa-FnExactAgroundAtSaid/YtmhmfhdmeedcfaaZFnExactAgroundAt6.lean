/- A part of the proof of: FnExactAgroundAt returns true, whatever the input, and leaves its arguments as they were. -/
import Derived.Test.YtmhmfhdmeedcfaaProg
import Derived.Below
import Derived.Deep.Draws
import Derived.Deep.AppendLies
import Derived.Maps.AppendAt
import Derived.OwnWalk
import Derived.Laws.BytesArg
import Derived.Laws.MakeOwn
import Derived.Laws.OwnMore
import Derived.Deep.OwnRows
import Derived.Tactics
import Derived.Lib.ConvBytes
import Derived.Laws.Slices
import Derived.WalkKit
import Derived.KernelRfl
import Derived.RowKit3
import Derived.Deep.LoopGhost
import Derived.Deep.QuietTactic
import Derived.BigQuiet
import Derived.WideLaws
import Derived.Deep.DeepCutAuto
import Derived.Deep.CutBlock
import Derived.Deep.RegionHeld3
import Derived.Laws.Rows
import Derived.Lib.AppendStr
import Derived.ArgAppend
import Derived.Laws.IdiomCopy
import Derived.OrdersHeld
import Derived.Laws.BitsLemmas
import Derived.RowKit
import Derived.Laws.StructEq
import Derived.Deep.Slices
import Derived.ChangeSame
import Derived.ChangeArms
import Derived.OpenShut
import Derived.ProofKit
import Derived.Laws.Tables
import Derived.Lib.Hide
import Derived.Test.YtmhmfhdmeedcfaaZFnExactAgroundAt1
import Derived.Test.YtmhmfhdmeedcfaaZFnExactAgroundAt2
import Derived.Test.YtmhmfhdmeedcfaaZFnExactAgroundAt3
import Derived.Test.YtmhmfhdmeedcfaaZFnExactAgroundAt4
import Derived.Test.YtmhmfhdmeedcfaaZFnExactAgroundAt5
section
namespace Go.Proofs.Ytmhmfhdmeedcfaa.G
open Go.RowKit Go.Proofs.YtmhmfhdmeedcfaaW.PrintWords Go.Proofs.YtmhmfhdmeedcfaaW.PrintLast Go.Proofs.YtmhmfhdmeedcfaaW.PrintMore
attribute [local go_sem] max2_int min2_int max_two min_two max_three min_three max_four min_four   -- for this text's walks alone
set_option linter.unusedVariables false
set_option linter.unusedSimpArgs false
def impl_drift.f (a0 : O38) (a1 : O40) (a2_0 : Int) (a2_1 : Int) (a2_2 : Int) (a2_3 : Int) (a2_4 : Int) (a2_5 : Int) (a3_0 : Int) (a3_1 : Int) : Option (Int × Int × Int × Int × Int × Int × Bool × Bool) := (impl_hold.f a0 a1 a2_0 a2_1 a2_2 a2_3 a2_4 a2_5).bind fun t200 => (if (wrap64 (a3_0)) ≤ t200 then (some (a2_0, a2_1, a2_2, a2_3, a2_4, a2_5, false, false)) else ((some (([0, 1, 1, 1, 0, (-1), (-1), (-1)] : List Int) : List Int)).bind fun y201 => (if 0 ≤ a3_1 then (if a3_1 < (y201.length : Int) then ((some (([(-1), (-1), 0, 1, 1, 1, 0, (-1)] : List Int) : List Int)).bind fun y205 => (if a3_1 < (y205.length : Int) then ((impl_isWater.f a0 (IntKind.i8.wrap (a2_0 + (rd y201 a3_1))) (IntKind.i8.wrap (a2_1 + (rd y205 a3_1)))).bind fun t210 => (if t210 = true then (some (IntKind.i8.wrap (a2_0 + (rd y201 a3_1)), IntKind.i8.wrap (a2_1 + (rd y205 a3_1)), a2_2, a2_3, a2_4, a2_5, true, false)) else (some (a2_0, a2_1, a2_2, a2_3, a2_4, a2_5, true, true)))) else (none))) else (none)) else (none))))
def impl_drift.T1 : Bool × List (List Nat × List Nat) := (true, [([], []), ([0], [0]), ([1], [1]), ([], []), ([], []), ([], []), ([3, 4, 5], [3, 4, 5]), ([2, 6], [2, 6])])
def impl_drift.B1 : List Nat := [0, 1, 3, 0, 0, 0, 56, 127]
theorem impl_drift.tab1 : rtab .any (opsOf Try.f72 1) = impl_drift.T1 := by kernel_rfl
theorem impl_drift.bits1 : waitsOk impl_drift.T1.2 impl_drift.B1 = true := by kernel_rfl
set_option maxHeartbeats 8000000 in
set_option maxRecDepth 100000 in
theorem impl_drift.calls (a0 : O38) (a1 : O40) (a2_0 : Int) (a2_1 : Int) (a2_2 : Int) (a2_3 : Int) (a2_4 : Int) (a2_5 : Int) (a3_0 : Int) (a3_1 : Int) (r1 : Int) (r2 : Int) (r3 : Int) (r4 : Int) (r5 : Int) (r6 : Int) (r7 : Bool) (r8 : Bool) (w : World) (h : impl_drift.f a0 a1 a2_0 a2_1 a2_2 a2_3 a2_4 a2_5 a3_0 a3_1 = some (r1, r2, r3, r4, r5, r6, r7, r8)) :
    Calls Try.prog 72 #[VO38 a0, VO40 a1, .agg #[.int .i8 a2_0, .int .i8 a2_1, .int .i8 a2_2, .int .i8 a2_3, .int .i8 a2_4, .int .i8 a2_5], .agg #[.int .i8 a3_0, .int .i8 a3_1]] w fun e w' => e = .returned (.tuple #[.agg #[.int .i8 r1, .int .i8 r2, .int .i8 r3, .int .i8 r4, .int .i8 r5, .int .i8 r6], .bool r7, .bool r8]) ∧ Below w.heap.size w w' := by
  have hu44 := Try.underlying44
  have hu78 := Try.underlying78
  have hu42 := Try.underlying42
  have HB := Aside0.mk (Below.refl w.heap.size w)
  have H : ((impl_hold.f a0 a1 a2_0 a2_1 a2_2 a2_3 a2_4 a2_5).bind fun t200 => (if (wrap64 (a3_0)) ≤ t200 then (some (a2_0, a2_1, a2_2, a2_3, a2_4, a2_5, false, false)) else ((some (([0, 1, 1, 1, 0, (-1), (-1), (-1)] : List Int) : List Int)).bind fun y201 => (if 0 ≤ a3_1 then (if a3_1 < (y201.length : Int) then ((some (([(-1), (-1), 0, 1, 1, 1, 0, (-1)] : List Int) : List Int)).bind fun y205 => (if a3_1 < (y205.length : Int) then ((impl_isWater.f a0 (IntKind.i8.wrap (a2_0 + (rd y201 a3_1))) (IntKind.i8.wrap (a2_1 + (rd y205 a3_1)))).bind fun t210 => (if t210 = true then (some (IntKind.i8.wrap (a2_0 + (rd y201 a3_1)), IntKind.i8.wrap (a2_1 + (rd y205 a3_1)), a2_2, a2_3, a2_4, a2_5, true, false)) else (some (a2_0, a2_1, a2_2, a2_3, a2_4, a2_5, true, true)))) else (none))) else (none)) else (none))))) = some (r1, r2, r3, r4, r5, r6, r7, r8) := h
  clear h
  replace H := Option.bind_eq_some_iff.mp H
  obtain ⟨t200, A50, H⟩ := H
  replace H : (if (wrap64 (a3_0)) ≤ t200 then (some (a2_0, a2_1, a2_2, a2_3, a2_4, a2_5, false, false)) else ((some (([0, 1, 1, 1, 0, (-1), (-1), (-1)] : List Int) : List Int)).bind fun y201 => (if 0 ≤ a3_1 then (if a3_1 < (y201.length : Int) then ((some (([(-1), (-1), 0, 1, 1, 1, 0, (-1)] : List Int) : List Int)).bind fun y205 => (if a3_1 < (y205.length : Int) then ((impl_isWater.f a0 (IntKind.i8.wrap (a2_0 + (rd y201 a3_1))) (IntKind.i8.wrap (a2_1 + (rd y205 a3_1)))).bind fun t210 => (if t210 = true then (some (IntKind.i8.wrap (a2_0 + (rd y201 a3_1)), IntKind.i8.wrap (a2_1 + (rd y205 a3_1)), a2_2, a2_3, a2_4, a2_5, true, false)) else (some (a2_0, a2_1, a2_2, a2_3, a2_4, a2_5, true, true)))) else (none))) else (none)) else (none)))) = some (r1, r2, r3, r4, r5, r6, r7, r8) := H
  have A5 := Aside0.mk A50
  clear A50
  by_cases c6 : (wrap64 (a3_0)) ≤ t200
  · rw [if_pos c6] at H
    have c6b0 : decide ((wrap64 (a3_0)) ≤ t200) = true := decide_eq_true c6
    clear c6
    simp only [Option.some.injEq, Prod.mk.injEq] at H
    obtain ⟨rfl, rfl, rfl, rfl, rfl, rfl, rfl, rfl⟩ := H
    go_enter Try.func72, Try.ntmps72
    try go_wp2_with (first | ((with_reducible refine gate_dst (N := 4) rfl ?_); refine box_event ?hg (N := 4) ?hd (cs := (a0).A) (t := 38) ?hr ?_; (case hd => rfl); (case hg => rfl); (case hr => first | exact AR.run_box_row rfl rfl | (go_simp; done) | (go_simp; rfl)); intro gb195 hg w7 hbox hb; have n0_ := Aside0.mk (sqH HB.out hb); have n1_ := Aside0.mk (hbox); have n2_ := Aside0.mk ((by rw [hg]; exact (below_size (by repeat (first | (with_reducible first | exact HB.out | apply below_alloc | apply pw_below_drewN | apply below_drew1) | exact HB.out))) : w.heap.size ≤ gb195)); have n3_ := n2_; clear HB; have HB := n0_; have BK195 := n1_; have GW195 := n2_; have GE195 := n3_; clear n0_ n1_ n2_ n3_; clear hb hbox hg) | ((with_reducible refine gate_dst (N := 5) rfl ?_); refine box_event ?hg (N := 5) ?hd (cs := (a1).A) (t := 40) ?hr ?_; (case hd => rfl); (case hg => rfl); (case hr => first | exact AR.run_box_row rfl rfl | (go_simp; done) | (go_simp; rfl)); intro gb196 hg w8 hbox hb; have n0_ := Aside0.mk (sqB BK195.out hb); have n1_ := Aside0.mk (sqH HB.out hb); have n2_ := Aside0.mk (hbox); have n3_ := Aside0.mk ((by rw [hg]; exact (below_size (by repeat (first | (with_reducible first | exact HB.out | apply below_alloc | apply pw_below_drewN | apply below_drew1 | refine below_set ?_ GE195.out) | exact HB.out))) : w.heap.size ≤ gb196)); have n4_ := n3_; have n5_ := Aside0.mk ((by rw [hg]; exact Nat.ne_of_lt (blk_lt (g := gb195) (o := .cells (a0).A 38 (0, 0)) (sqO BK195.out)) : gb195 ≠ gb196)); have n6_ := Aside0.mk (Ne.symm n5_.out); clear BK195; clear HB; have BK195 := n0_; have HB := n1_; have BK196 := n2_; have GW196 := n3_; have GE196 := n4_; have NB195_196 := n5_; have NB196_195 := n6_; clear n0_ n1_ n2_ n3_ n4_ n5_ n6_; clear hb hbox hg) | ((with_reducible refine gate_dst (N := 6) rfl ?_); refine box_event ?hg (N := 6) ?hd (cs := #[.int .i8 a2_0, .int .i8 a2_1, .int .i8 a2_2, .int .i8 a2_3, .int .i8 a2_4, .int .i8 a2_5]) (t := 44) ?hr ?_; (case hd => rfl); (case hg => rfl); (case hr => first | (go_simp; done) | (go_simp; rfl)); intro gb197 hg w9 hbox hb; have n0_ := Aside0.mk (sqB BK195.out hb); have n1_ := Aside0.mk (sqB BK196.out hb); have n2_ := Aside0.mk (sqH HB.out hb); have n3_ := Aside0.mk (hbox); have n4_ := Aside0.mk ((by rw [hg]; exact (below_size (by repeat (first | (with_reducible first | exact HB.out | apply below_alloc | apply pw_below_drewN | apply below_drew1 | refine below_set ?_ GE195.out | refine below_set ?_ GE196.out) | exact HB.out))) : w.heap.size ≤ gb197)); have n5_ := n4_; have n6_ := Aside0.mk ((by rw [hg]; exact Nat.ne_of_lt (blk_lt (g := gb195) (o := .cells (a0).A 38 (0, 0)) (sqO BK195.out)) : gb195 ≠ gb197)); have n7_ := Aside0.mk (Ne.symm n6_.out); have n8_ := Aside0.mk ((by rw [hg]; exact Nat.ne_of_lt (blk_lt (g := gb196) (o := .cells (a1).A 40 (0, 0)) (sqO BK196.out)) : gb196 ≠ gb197)); have n9_ := Aside0.mk (Ne.symm n8_.out); clear BK195; clear BK196; clear HB; have BK195 := n0_; have BK196 := n1_; have HB := n2_; have BK197 := n3_; have GW197 := n4_; have GE197 := n5_; have NB195_197 := n6_; have NB197_195 := n7_; have NB196_197 := n8_; have NB197_196 := n9_; clear n0_ n1_ n2_ n3_ n4_ n5_ n6_ n7_ n8_ n9_; clear hb hbox hg) | ((with_reducible refine gate_dst (N := 7) rfl ?_); refine box_event ?hg (N := 7) ?hd (cs := #[.int .i8 a3_0, .int .i8 a3_1]) (t := 78) ?hr ?_; (case hd => rfl); (case hg => rfl); (case hr => first | (go_simp; done) | (go_simp; rfl)); intro gb198 hg w10 hbox hb; have n0_ := Aside0.mk (sqB BK195.out hb); have n1_ := Aside0.mk (sqB BK196.out hb); have n2_ := Aside0.mk (sqB BK197.out hb); have n3_ := Aside0.mk (sqH HB.out hb); have n4_ := Aside0.mk (hbox); have n5_ := Aside0.mk ((by rw [hg]; exact (below_size (by repeat (first | (with_reducible first | exact HB.out | apply below_alloc | apply pw_below_drewN | apply below_drew1 | refine below_set ?_ GE195.out | refine below_set ?_ GE196.out | refine below_set ?_ GE197.out) | exact HB.out))) : w.heap.size ≤ gb198)); have n6_ := n5_; have n7_ := Aside0.mk ((by rw [hg]; exact Nat.ne_of_lt (blk_lt (g := gb195) (o := .cells (a0).A 38 (0, 0)) (sqO BK195.out)) : gb195 ≠ gb198)); have n8_ := Aside0.mk (Ne.symm n7_.out); have n9_ := Aside0.mk ((by rw [hg]; exact Nat.ne_of_lt (blk_lt (g := gb196) (o := .cells (a1).A 40 (0, 0)) (sqO BK196.out)) : gb196 ≠ gb198)); have n10_ := Aside0.mk (Ne.symm n9_.out); have n11_ := Aside0.mk ((by rw [hg]; exact Nat.ne_of_lt (blk_lt (g := gb197) (o := .cells #[.int .i8 a2_0, .int .i8 a2_1, .int .i8 a2_2, .int .i8 a2_3, .int .i8 a2_4, .int .i8 a2_5] 44 (0, 0)) (sqO BK197.out)) : gb197 ≠ gb198)); have n12_ := Aside0.mk (Ne.symm n11_.out); clear BK195; clear BK196; clear BK197; clear HB; have BK195 := n0_; have BK196 := n1_; have BK197 := n2_; have HB := n3_; have BK198 := n4_; have GW198 := n5_; have GE198 := n6_; have NB195_198 := n7_; have NB198_195 := n8_; have NB196_198 := n9_; have NB198_196 := n10_; have NB197_198 := n11_; have NB198_197 := n12_; clear n0_ n1_ n2_ n3_ n4_ n5_ n6_ n7_ n8_ n9_ n10_ n11_ n12_; clear hb hbox hg) | ((with_reducible refine gate_dst (N := 8) rfl ?_); refine box_event ?hg (N := 8) ?hd (cs := #[.int .i8 0, .int .i8 0, .int .i8 0, .int .i8 0, .int .i8 0, .int .i8 0]) (t := 44) ?hr ?_; (case hd => rfl); (case hg => rfl); (case hr => first | (go_simp; done) | (go_simp; rfl)); intro gb199 hg w11 hbox hb; have n0_ := Aside0.mk (sqB BK195.out hb); have n1_ := Aside0.mk (sqB BK196.out hb); have n2_ := Aside0.mk (sqB BK197.out hb); have n3_ := Aside0.mk (sqB BK198.out hb); have n4_ := Aside0.mk (sqH HB.out hb); have n5_ := Aside0.mk (hbox); have n6_ := Aside0.mk ((by rw [hg]; exact (below_size (by repeat (first | (with_reducible first | exact HB.out | apply below_alloc | apply pw_below_drewN | apply below_drew1 | refine below_set ?_ GE195.out | refine below_set ?_ GE196.out | refine below_set ?_ GE197.out | refine below_set ?_ GE198.out) | exact HB.out))) : w.heap.size ≤ gb199)); have n7_ := n6_; have n8_ := Aside0.mk ((by rw [hg]; exact Nat.ne_of_lt (blk_lt (g := gb195) (o := .cells (a0).A 38 (0, 0)) (sqO BK195.out)) : gb195 ≠ gb199)); have n9_ := Aside0.mk (Ne.symm n8_.out); have n10_ := Aside0.mk ((by rw [hg]; exact Nat.ne_of_lt (blk_lt (g := gb196) (o := .cells (a1).A 40 (0, 0)) (sqO BK196.out)) : gb196 ≠ gb199)); have n11_ := Aside0.mk (Ne.symm n10_.out); have n12_ := Aside0.mk ((by rw [hg]; exact Nat.ne_of_lt (blk_lt (g := gb197) (o := .cells #[.int .i8 a2_0, .int .i8 a2_1, .int .i8 a2_2, .int .i8 a2_3, .int .i8 a2_4, .int .i8 a2_5] 44 (0, 0)) (sqO BK197.out)) : gb197 ≠ gb199)); have n13_ := Aside0.mk (Ne.symm n12_.out); have n14_ := Aside0.mk ((by rw [hg]; exact Nat.ne_of_lt (blk_lt (g := gb198) (o := .cells #[.int .i8 a3_0, .int .i8 a3_1] 78 (0, 0)) (sqO BK198.out)) : gb198 ≠ gb199)); have n15_ := Aside0.mk (Ne.symm n14_.out); clear BK195; clear BK196; clear BK197; clear BK198; clear HB; have BK195 := n0_; have BK196 := n1_; have BK197 := n2_; have BK198 := n3_; have HB := n4_; have BK199 := n5_; have GW199 := n6_; have GE199 := n7_; have NB195_199 := n8_; have NB199_195 := n9_; have NB196_199 := n10_; have NB199_196 := n11_; have NB197_199 := n12_; have NB199_197 := n13_; have NB198_199 := n14_; have NB199_198 := n15_; clear n0_ n1_ n2_ n3_ n4_ n5_ n6_ n7_ n8_ n9_ n10_ n11_ n12_ n13_ n14_ n15_; clear hb hbox hg))
    have n0_ := Aside0.mk (blk_drew BK195.out)
    have n1_ := Aside0.mk (blk_drew BK196.out)
    have n2_ := Aside0.mk (blk_drew BK197.out)
    have n3_ := Aside0.mk (blk_drew BK198.out)
    have n4_ := Aside0.mk (blk_drew BK199.out)
    have n5_ := Aside0.mk (below_drew1 HB.out)
    clear BK195
    clear BK196
    clear BK197
    clear BK198
    clear BK199
    clear HB
    have BK195 := n0_
    have BK196 := n1_
    have BK197 := n2_
    have BK198 := n3_
    have BK199 := n4_
    have HB := n5_
    clear n0_ n1_ n2_ n3_ n4_ n5_
    refine start_ (n := 8) (S := fun w' => w'.cell? ⟨gb198, 0, none⟩ = some (.int .i8 a3_0) ∧ w'.cell? ⟨gb198, 1, none⟩ = some (.int .i8 a3_1) ∧ w'.heap[gb195]? = some (.cells (a0).A 38 (0, 0)) ∧ w'.heap[gb196]? = some (.cells (a1).A 40 (0, 0)) ∧ w'.cell? ⟨gb197, 0, none⟩ = some (.int .i8 a2_0) ∧ w'.cell? ⟨gb197, 1, none⟩ = some (.int .i8 a2_1) ∧ w'.cell? ⟨gb197, 2, none⟩ = some (.int .i8 a2_2) ∧ w'.cell? ⟨gb197, 3, none⟩ = some (.int .i8 a2_3) ∧ w'.cell? ⟨gb197, 4, none⟩ = some (.int .i8 a2_4) ∧ w'.cell? ⟨gb197, 5, none⟩ = some (.int .i8 a2_5)) (ds := []) #[false, false, false, false, false, false, false, false] (by kernel_rfl) rfl rfl ⟨(blk_cell BK198.out 0).trans rfl, (blk_cell BK198.out 1).trans rfl, BK195.out, BK196.out, (blk_cell BK197.out 0).trans rfl, (blk_cell BK197.out 1).trans rfl, (blk_cell BK197.out 2).trans rfl, (blk_cell BK197.out 3).trans rfl, (blk_cell BK197.out 4).trans rfl, (blk_cell BK197.out 5).trans rfl⟩ (fun hHeld => ?_); refine with_tabW impl_drift.tab1 impl_drift.bits1 (fun HT_ HW_ => ?_)
    generalize w11.drew = w12 at BK195 BK196 BK197 BK198 BK199 HB hHeld ⊢
    refine pure_ (i := 0) (N := some 14) (v := ?_) (a' := ?_) #[true, false, false, false, false, false, false, false] rfl rfl (any_of HT_.out (by kernel_rfl)) (fun _ _ _ h => h) (Or.inl ⟨by rfl, ?_⟩) ?_ ?_
    rotate_left
    · intro w'
      go_simp
      with_reducible rfl
    rotate_left
    · simp only [Act.put, List.setIfInBounds_toArray, List.set_cons_zero, List.set_cons_succ, i64_w, i32_w]
      rfl
    refine take_ (i := 1) (N := some 15) (v := ?_) (a' := ?_) #[true, true, false, false, false, false, false, false] rfl rfl (take_ofW HT_.out HW_.out (by kernel_rfl)) (fun _ _ _ h => h) (Or.inl ⟨by rfl, ?_⟩) hHeld ?_ ?_
    rotate_left
    · rintro w' ⟨s0, s1, s2, s3, s4, s5, s6, s7, s8, s9⟩
      skip
      first | (refine Eq.trans (AR.exec_load_blk rfl rfl s2 Try.underlying38 rfl (szO38 _)) ?_; with_reducible rfl) | (refine Eq.trans (AR.exec_load_blk rfl rfl s3 Try.underlying40 rfl (szO40 _)) ?_; with_reducible rfl) | (go_simp; with_reducible rfl)
    rotate_left
    · simp only [Act.put, List.setIfInBounds_toArray, List.set_cons_zero, List.set_cons_succ, i64_w, i32_w]
      rfl
    refine pure_ (i := 2) (N := some 16) (v := ?_) (a' := ?_) #[true, true, true, false, false, false, false, false] rfl rfl (any_of HT_.out (by kernel_rfl)) (fun _ _ _ h => h) (Or.inl ⟨by rfl, ?_⟩) ?_ ?_
    rotate_left
    · intro w'
      go_simp
      with_reducible rfl
    rotate_left
    · simp only [Act.put, List.setIfInBounds_toArray, List.set_cons_zero, List.set_cons_succ, i64_w, i32_w]
      rfl
    refine take_ (i := 3) (N := some 17) (v := ?_) (a' := ?_) #[true, true, true, true, false, false, false, false] rfl rfl (take_ofW HT_.out HW_.out (by kernel_rfl)) (fun _ _ _ h => h) (Or.inl ⟨by rfl, ?_⟩) hHeld ?_ ?_
    rotate_left
    · rintro w' ⟨s0, s1, s2, s3, s4, s5, s6, s7, s8, s9⟩
      skip
      first | (refine Eq.trans (AR.exec_load_blk rfl rfl s2 Try.underlying38 rfl (szO38 _)) ?_; with_reducible rfl) | (refine Eq.trans (AR.exec_load_blk rfl rfl s3 Try.underlying40 rfl (szO40 _)) ?_; with_reducible rfl) | (go_simp; with_reducible rfl)
    rotate_left
    · simp only [Act.put, List.setIfInBounds_toArray, List.set_cons_zero, List.set_cons_succ, i64_w, i32_w]
      rfl
    refine take_ (i := 4) (N := some 18) (v := ?_) (a' := ?_) #[true, true, true, true, true, false, false, false] rfl rfl (take_ofW HT_.out HW_.out (by kernel_rfl)) (fun _ _ _ h => h) (Or.inl ⟨by rfl, ?_⟩) hHeld ?_ ?_
    rotate_left
    · rintro w' ⟨s0, s1, s2, s3, s4, s5, s6, s7, s8, s9⟩
      skip
      first | (refine Eq.trans (AR.exec_load_blk rfl rfl s2 Try.underlying38 rfl (szO38 _)) ?_; with_reducible rfl) | (refine Eq.trans (AR.exec_load_blk rfl rfl s3 Try.underlying40 rfl (szO40 _)) ?_; with_reducible rfl) | (go_simp; with_reducible rfl)
    rotate_left
    · simp only [Act.put, List.setIfInBounds_toArray, List.set_cons_zero, List.set_cons_succ, i64_w, i32_w]
      rfl
    refine take_ (i := 5) (N := some 19) (v := ?_) (a' := ?_) #[true, true, true, true, true, true, false, false] rfl rfl (take_ofW HT_.out HW_.out (by kernel_rfl)) (fun _ _ _ h => h) (Or.inl ⟨by rfl, ?_⟩) hHeld ?_ ?_
    rotate_left
    · rintro w' ⟨s0, s1, s2, s3, s4, s5, s6, s7, s8, s9⟩
      skip
      first | (refine Eq.trans (AR.exec_load_blk rfl rfl s2 Try.underlying38 rfl (szO38 _)) ?_; with_reducible rfl) | (refine Eq.trans (AR.exec_load_blk rfl rfl s3 Try.underlying40 rfl (szO40 _)) ?_; with_reducible rfl) | (go_simp; with_reducible rfl)
    rotate_left
    · simp only [Act.put, List.setIfInBounds_toArray, List.set_cons_zero, List.set_cons_succ, i64_w, i32_w]
      rfl
    refine one_ (i := 6) (N := some 20) #[true, true, true, true, true, true, true, false] rfl rfl (one_of HT_.out (by kernel_rfl)) (by decide) (fun K hK => ?_)
    refine goes_ Try.func83 (by kernel_rfl) rfl #[VO38 a0, VO40 a1, .agg #[.int .i8 a2_0, .int .i8 a2_1, .int .i8 a2_2, .int .i8 a2_3, .int .i8 a2_4, .int .i8 a2_5]] (by rfl) rfl rfl (by (try simp only [List.map_toArray, List.map_cons, List.map_nil]); first | done | rfl | (simp only [List.length_drop, List.length_take]; rfl)) ?_
    with_reducible refine (impl_hold.calls a0 a1 a2_0 a2_1 a2_2 a2_3 a2_4 a2_5 t200 _ A5.out).mono ?_
    rintro e w13 ⟨rfl, hb⟩
    refine ⟨_, rfl, ?_⟩
    have n0_ := Aside0.mk (sqB BK195.out hb)
    have n1_ := Aside0.mk (sqB BK196.out hb)
    have n2_ := Aside0.mk (sqB BK197.out hb)
    have n3_ := Aside0.mk (sqB BK198.out hb)
    have n4_ := Aside0.mk (sqB BK199.out hb)
    have n5_ := Aside0.mk (sqH HB.out hb)
    clear BK195
    clear BK196
    clear BK197
    clear BK198
    clear BK199
    clear HB
    have BK195 := n0_
    have BK196 := n1_
    have BK197 := n2_
    have BK198 := n3_
    have BK199 := n4_
    have HB := n5_
    clear n0_ n1_ n2_ n3_ n4_ n5_
    (try clear hb)
    (try clear hb2)
    (try clear hk)
    (try clear hi)
    refine hK.out _ _ ⟨(blk_cell BK198.out 0).trans rfl, (blk_cell BK198.out 1).trans rfl, BK195.out, BK196.out, (blk_cell BK197.out 0).trans rfl, (blk_cell BK197.out 1).trans rfl, (blk_cell BK197.out 2).trans rfl, (blk_cell BK197.out 3).trans rfl, (blk_cell BK197.out 4).trans rfl, (blk_cell BK197.out 5).trans rfl⟩ (fun hHeld => ?_)
    clear hK K
    refine norm_ (a' := ?_) ?_ ?_
    rotate_left
    · show Act.put _ (some 20) _ = _
      simp only [Act.put, List.setIfInBounds_toArray, List.set_cons_zero, List.set_cons_succ, i64_w, i32_w]
      rfl
    refine pure_ (i := 7) (N := some 21) (v := ?_) (a' := ?_) #[true, true, true, true, true, true, true, true] rfl rfl (any_of HT_.out (by kernel_rfl)) (fun _ _ _ h => h) (Or.inl ⟨by rfl, ?_⟩) ?_ ?_
    rotate_left
    · intro w'
      go_simp
      with_reducible rfl
    rotate_left
    · simp only [Act.put, List.setIfInBounds_toArray, List.set_cons_zero, List.set_cons_succ, i64_w, i32_w]
      rfl
    refine done_ (done_of HT_.out (by kernel_rfl)) ?_
    have hnb14 := NB197_195.out
    have hnc14 := NB195_197.out
    have hnb15 := NB197_196.out
    have hnc15 := NB196_197.out
    have hnb16 := NB197_198.out
    have hnc16 := NB198_197.out
    have hnb17 := NB197_199.out
    have hnc17 := NB199_197.out
    have hcz18_0 : w13.cell? ⟨gb197, 0, none⟩ = some (.int .i8 a2_0) := (blk_cell BK197.out 0).trans rfl
    have hcz18_1 : w13.cell? ⟨gb197, 1, none⟩ = some (.int .i8 a2_1) := (blk_cell BK197.out 1).trans rfl
    have hcz18_2 : w13.cell? ⟨gb197, 2, none⟩ = some (.int .i8 a2_2) := (blk_cell BK197.out 2).trans rfl
    have hcz18_3 : w13.cell? ⟨gb197, 3, none⟩ = some (.int .i8 a2_3) := (blk_cell BK197.out 3).trans rfl
    have hcz18_4 : w13.cell? ⟨gb197, 4, none⟩ = some (.int .i8 a2_4) := (blk_cell BK197.out 4).trans rfl
    have hcz18_5 : w13.cell? ⟨gb197, 5, none⟩ = some (.int .i8 a2_5) := (blk_cell BK197.out 5).trans rfl
    have hfz18_0 := blk_frozen BK197.out 0
    have hfz18_1 := blk_frozen BK197.out 1
    have hfz18_2 := blk_frozen BK197.out 2
    have hfz18_3 := blk_frozen BK197.out 3
    have hfz18_4 := blk_frozen BK197.out 4
    have hfz18_5 := blk_frozen BK197.out 5
    have hnb19 := NB199_195.out
    have hnc19 := NB195_199.out
    have hnb20 := NB199_196.out
    have hnc20 := NB196_199.out
    have hnb21 := NB199_198.out
    have hnc21 := NB198_199.out
    have hcz22_0 : w13.cell? ⟨gb199, 0, none⟩ = some (.int .i8 0) := (blk_cell BK199.out 0).trans rfl
    have hcz22_1 : w13.cell? ⟨gb199, 1, none⟩ = some (.int .i8 0) := (blk_cell BK199.out 1).trans rfl
    have hcz22_2 : w13.cell? ⟨gb199, 2, none⟩ = some (.int .i8 0) := (blk_cell BK199.out 2).trans rfl
    have hcz22_3 : w13.cell? ⟨gb199, 3, none⟩ = some (.int .i8 0) := (blk_cell BK199.out 3).trans rfl
    have hcz22_4 : w13.cell? ⟨gb199, 4, none⟩ = some (.int .i8 0) := (blk_cell BK199.out 4).trans rfl
    have hcz22_5 : w13.cell? ⟨gb199, 5, none⟩ = some (.int .i8 0) := (blk_cell BK199.out 5).trans rfl
    have hfz22_0 := blk_frozen BK199.out 0
    have hfz22_1 := blk_frozen BK199.out 1
    have hfz22_2 := blk_frozen BK199.out 2
    have hfz22_3 := blk_frozen BK199.out 3
    have hfz22_4 := blk_frozen BK199.out 4
    have hfz22_5 := blk_frozen BK199.out 5
    try go_wp2
    refine bodyPost_ret (results_ctt rfl _ _ gb199 44 #[.int .i8 a2_0, .int .i8 a2_1, .int .i8 a2_2, .int .i8 a2_3, .int .i8 a2_4, .int .i8 a2_5] (0, 0) _ rfl (by (with_reducible repeat (first | refine blk_drewN ?_ _ | refine blk_drew ?_ | refine blk_alloc ?_ _)); refine blk_put (cs := #[.int .i8 a2_0, .int .i8 a2_1, .int .i8 a2_2, .int .i8 a2_3, .int .i8 a2_4, .int .i8 0]) ?_ 5 _ rfl; (with_reducible repeat (first | refine blk_drewN ?_ _ | refine blk_drew ?_ | refine blk_alloc ?_ _)); refine blk_put (cs := #[.int .i8 a2_0, .int .i8 a2_1, .int .i8 a2_2, .int .i8 a2_3, .int .i8 0, .int .i8 0]) ?_ 4 _ rfl; (with_reducible repeat (first | refine blk_drewN ?_ _ | refine blk_drew ?_ | refine blk_alloc ?_ _)); refine blk_put (cs := #[.int .i8 a2_0, .int .i8 a2_1, .int .i8 a2_2, .int .i8 0, .int .i8 0, .int .i8 0]) ?_ 3 _ rfl; (with_reducible repeat (first | refine blk_drewN ?_ _ | refine blk_drew ?_ | refine blk_alloc ?_ _)); refine blk_put (cs := #[.int .i8 a2_0, .int .i8 a2_1, .int .i8 0, .int .i8 0, .int .i8 0, .int .i8 0]) ?_ 2 _ rfl; (with_reducible repeat (first | refine blk_drewN ?_ _ | refine blk_drew ?_ | refine blk_alloc ?_ _)); refine blk_put (cs := #[.int .i8 a2_0, .int .i8 0, .int .i8 0, .int .i8 0, .int .i8 0, .int .i8 0]) ?_ 1 _ rfl; (with_reducible repeat (first | refine blk_drewN ?_ _ | refine blk_drew ?_ | refine blk_alloc ?_ _)); refine blk_put (cs := #[.int .i8 0, .int .i8 0, .int .i8 0, .int .i8 0, .int .i8 0, .int .i8 0]) ?_ 0 _ rfl; (with_reducible repeat (first | refine blk_drewN ?_ _ | refine blk_drew ?_ | refine blk_alloc ?_ _)); exact BK199.out) Try.underlying44 rfl (by kernel_rfl)) rfl ?_
    exact ⟨by first | rfl | (simp [errW_none, errW_some] <;> rfl) | (simp [*, errW_none, errW_some] <;> rfl), by repeat (first | (with_reducible first | exact HB.out | apply below_alloc | apply pw_below_drewN | apply below_drew1 | refine below_set ?_ GE195.out | refine below_set ?_ GE196.out | refine below_set ?_ GE197.out | refine below_set ?_ GE198.out | refine below_set ?_ GE199.out) | exact HB.out)⟩
  · rw [if_neg c6] at H
    have c6b0 : decide ((wrap64 (a3_0)) ≤ t200) = false := decide_eq_false c6
    clear c6
    obtain ⟨y201, hy201⟩ : ∃ y_ : List Int, y_ = (([0, 1, 1, 1, 0, (-1), (-1), (-1)] : List Int)) := ⟨_, rfl⟩
    replace H : (if 0 ≤ a3_1 then (if a3_1 < (y201.length : Int) then ((some (([(-1), (-1), 0, 1, 1, 1, 0, (-1)] : List Int) : List Int)).bind fun y205 => (if a3_1 < (y205.length : Int) then ((impl_isWater.f a0 (IntKind.i8.wrap (a2_0 + (rd y201 a3_1))) (IntKind.i8.wrap (a2_1 + (rd y205 a3_1)))).bind fun t210 => (if t210 = true then (some (IntKind.i8.wrap (a2_0 + (rd y201 a3_1)), IntKind.i8.wrap (a2_1 + (rd y205 a3_1)), a2_2, a2_3, a2_4, a2_5, true, false)) else (some (a2_0, a2_1, a2_2, a2_3, a2_4, a2_5, true, true)))) else (none))) else (none)) else (none)) = some (r1, r2, r3, r4, r5, r6, r7, r8) := by first | (rw [hy201]; with_reducible exact H) | (have H2_ := (Option.bind_some _ _).symm.trans H; rw [hy201]; with_reducible exact H2_) | (have H2_ := (Option.bind_some _ _).symm.trans H; with_reducible exact H2_) | with_reducible exact H | (rw [hy201]; exact H) | exact H
    have Ny201 := Aside0.mk hy201
    clear hy201
    by_cases c23 : 0 ≤ a3_1
    · rw [if_pos c23] at H
      have c23b0 : decide (0 ≤ a3_1) = true := decide_eq_true c23
      clear c23
      by_cases c24 : a3_1 < (y201.length : Int)
      · rw [if_pos c24] at H
        have c24b0 : decide (a3_1 < (y201.length : Int)) = true := decide_eq_true c24
        clear c24
        obtain ⟨y205, hy205⟩ : ∃ y_ : List Int, y_ = (([(-1), (-1), 0, 1, 1, 1, 0, (-1)] : List Int)) := ⟨_, rfl⟩
        replace H : (if a3_1 < (y205.length : Int) then ((impl_isWater.f a0 (IntKind.i8.wrap (a2_0 + (rd y201 a3_1))) (IntKind.i8.wrap (a2_1 + (rd y205 a3_1)))).bind fun t210 => (if t210 = true then (some (IntKind.i8.wrap (a2_0 + (rd y201 a3_1)), IntKind.i8.wrap (a2_1 + (rd y205 a3_1)), a2_2, a2_3, a2_4, a2_5, true, false)) else (some (a2_0, a2_1, a2_2, a2_3, a2_4, a2_5, true, true)))) else (none)) = some (r1, r2, r3, r4, r5, r6, r7, r8) := by first | (rw [hy205]; with_reducible exact H) | (have H2_ := (Option.bind_some _ _).symm.trans H; rw [hy205]; with_reducible exact H2_) | (have H2_ := (Option.bind_some _ _).symm.trans H; with_reducible exact H2_) | with_reducible exact H | (rw [hy205]; exact H) | exact H
        have Ny205 := Aside0.mk hy205
        clear hy205
        by_cases c25 : a3_1 < (y205.length : Int)
        · rw [if_pos c25] at H
          have c25b0 : decide (a3_1 < (y205.length : Int)) = true := decide_eq_true c25
          clear c25
          replace H := Option.bind_eq_some_iff.mp H
          obtain ⟨t210, A260, H⟩ := H
          replace H : (if t210 = true then (some (IntKind.i8.wrap (a2_0 + (rd y201 a3_1)), IntKind.i8.wrap (a2_1 + (rd y205 a3_1)), a2_2, a2_3, a2_4, a2_5, true, false)) else (some (a2_0, a2_1, a2_2, a2_3, a2_4, a2_5, true, true))) = some (r1, r2, r3, r4, r5, r6, r7, r8) := H
          have A26 := Aside0.mk A260
          clear A260
          by_cases c27 : t210 = true
          · subst c27
            have H1 : (some (IntKind.i8.wrap (a2_0 + (rd y201 a3_1)), IntKind.i8.wrap (a2_1 + (rd y205 a3_1)), a2_2, a2_3, a2_4, a2_5, true, false)) = some (r1, r2, r3, r4, r5, r6, r7, r8) := by rw [if_pos rfl] at H; exact H
            clear H
            have H := H1
            clear H1
            simp only [Option.some.injEq, Prod.mk.injEq] at H
            obtain ⟨rfl, rfl, rfl, rfl, rfl, rfl, rfl, rfl⟩ := H
            go_enter Try.func72, Try.ntmps72
            try go_wp2_with (first | ((with_reducible refine gate_dst (N := 4) rfl ?_); refine box_event ?hg (N := 4) ?hd (cs := (a0).A) (t := 38) ?hr ?_; (case hd => rfl); (case hg => rfl); (case hr => first | exact AR.run_box_row rfl rfl | (go_simp; done) | (go_simp; rfl)); intro gb195 hg w28 hbox hb; have n0_ := Aside0.mk (sqH HB.out hb); have n1_ := Aside0.mk (hbox); have n2_ := Aside0.mk ((by rw [hg]; exact (below_size (by repeat (first | (with_reducible first | exact HB.out | apply below_alloc | apply pw_below_drewN | apply below_drew1) | exact HB.out))) : w.heap.size ≤ gb195)); have n3_ := n2_; clear HB; have HB := n0_; have BK195 := n1_; have GW195 := n2_; have GE195 := n3_; clear n0_ n1_ n2_ n3_; clear hb hbox hg) | ((with_reducible refine gate_dst (N := 5) rfl ?_); refine box_event ?hg (N := 5) ?hd (cs := (a1).A) (t := 40) ?hr ?_; (case hd => rfl); (case hg => rfl); (case hr => first | exact AR.run_box_row rfl rfl | (go_simp; done) | (go_simp; rfl)); intro gb196 hg w29 hbox hb; have n0_ := Aside0.mk (sqB BK195.out hb); have n1_ := Aside0.mk (sqH HB.out hb); have n2_ := Aside0.mk (hbox); have n3_ := Aside0.mk ((by rw [hg]; exact (below_size (by repeat (first | (with_reducible first | exact HB.out | apply below_alloc | apply pw_below_drewN | apply below_drew1 | refine below_set ?_ GE195.out) | exact HB.out))) : w.heap.size ≤ gb196)); have n4_ := n3_; have n5_ := Aside0.mk ((by rw [hg]; exact Nat.ne_of_lt (blk_lt (g := gb195) (o := .cells (a0).A 38 (0, 0)) (sqO BK195.out)) : gb195 ≠ gb196)); have n6_ := Aside0.mk (Ne.symm n5_.out); clear BK195; clear HB; have BK195 := n0_; have HB := n1_; have BK196 := n2_; have GW196 := n3_; have GE196 := n4_; have NB195_196 := n5_; have NB196_195 := n6_; clear n0_ n1_ n2_ n3_ n4_ n5_ n6_; clear hb hbox hg) | ((with_reducible refine gate_dst (N := 6) rfl ?_); refine box_event ?hg (N := 6) ?hd (cs := #[.int .i8 a2_0, .int .i8 a2_1, .int .i8 a2_2, .int .i8 a2_3, .int .i8 a2_4, .int .i8 a2_5]) (t := 44) ?hr ?_; (case hd => rfl); (case hg => rfl); (case hr => first | (go_simp; done) | (go_simp; rfl)); intro gb197 hg w30 hbox hb; have n0_ := Aside0.mk (sqB BK195.out hb); have n1_ := Aside0.mk (sqB BK196.out hb); have n2_ := Aside0.mk (sqH HB.out hb); have n3_ := Aside0.mk (hbox); have n4_ := Aside0.mk ((by rw [hg]; exact (below_size (by repeat (first | (with_reducible first | exact HB.out | apply below_alloc | apply pw_below_drewN | apply below_drew1 | refine below_set ?_ GE195.out | refine below_set ?_ GE196.out) | exact HB.out))) : w.heap.size ≤ gb197)); have n5_ := n4_; have n6_ := Aside0.mk ((by rw [hg]; exact Nat.ne_of_lt (blk_lt (g := gb195) (o := .cells (a0).A 38 (0, 0)) (sqO BK195.out)) : gb195 ≠ gb197)); have n7_ := Aside0.mk (Ne.symm n6_.out); have n8_ := Aside0.mk ((by rw [hg]; exact Nat.ne_of_lt (blk_lt (g := gb196) (o := .cells (a1).A 40 (0, 0)) (sqO BK196.out)) : gb196 ≠ gb197)); have n9_ := Aside0.mk (Ne.symm n8_.out); clear BK195; clear BK196; clear HB; have BK195 := n0_; have BK196 := n1_; have HB := n2_; have BK197 := n3_; have GW197 := n4_; have GE197 := n5_; have NB195_197 := n6_; have NB197_195 := n7_; have NB196_197 := n8_; have NB197_196 := n9_; clear n0_ n1_ n2_ n3_ n4_ n5_ n6_ n7_ n8_ n9_; clear hb hbox hg) | ((with_reducible refine gate_dst (N := 7) rfl ?_); refine box_event ?hg (N := 7) ?hd (cs := #[.int .i8 a3_0, .int .i8 a3_1]) (t := 78) ?hr ?_; (case hd => rfl); (case hg => rfl); (case hr => first | (go_simp; done) | (go_simp; rfl)); intro gb198 hg w31 hbox hb; have n0_ := Aside0.mk (sqB BK195.out hb); have n1_ := Aside0.mk (sqB BK196.out hb); have n2_ := Aside0.mk (sqB BK197.out hb); have n3_ := Aside0.mk (sqH HB.out hb); have n4_ := Aside0.mk (hbox); have n5_ := Aside0.mk ((by rw [hg]; exact (below_size (by repeat (first | (with_reducible first | exact HB.out | apply below_alloc | apply pw_below_drewN | apply below_drew1 | refine below_set ?_ GE195.out | refine below_set ?_ GE196.out | refine below_set ?_ GE197.out) | exact HB.out))) : w.heap.size ≤ gb198)); have n6_ := n5_; have n7_ := Aside0.mk ((by rw [hg]; exact Nat.ne_of_lt (blk_lt (g := gb195) (o := .cells (a0).A 38 (0, 0)) (sqO BK195.out)) : gb195 ≠ gb198)); have n8_ := Aside0.mk (Ne.symm n7_.out); have n9_ := Aside0.mk ((by rw [hg]; exact Nat.ne_of_lt (blk_lt (g := gb196) (o := .cells (a1).A 40 (0, 0)) (sqO BK196.out)) : gb196 ≠ gb198)); have n10_ := Aside0.mk (Ne.symm n9_.out); have n11_ := Aside0.mk ((by rw [hg]; exact Nat.ne_of_lt (blk_lt (g := gb197) (o := .cells #[.int .i8 a2_0, .int .i8 a2_1, .int .i8 a2_2, .int .i8 a2_3, .int .i8 a2_4, .int .i8 a2_5] 44 (0, 0)) (sqO BK197.out)) : gb197 ≠ gb198)); have n12_ := Aside0.mk (Ne.symm n11_.out); clear BK195; clear BK196; clear BK197; clear HB; have BK195 := n0_; have BK196 := n1_; have BK197 := n2_; have HB := n3_; have BK198 := n4_; have GW198 := n5_; have GE198 := n6_; have NB195_198 := n7_; have NB198_195 := n8_; have NB196_198 := n9_; have NB198_196 := n10_; have NB197_198 := n11_; have NB198_197 := n12_; clear n0_ n1_ n2_ n3_ n4_ n5_ n6_ n7_ n8_ n9_ n10_ n11_ n12_; clear hb hbox hg) | ((with_reducible refine gate_dst (N := 8) rfl ?_); refine box_event ?hg (N := 8) ?hd (cs := #[.int .i8 0, .int .i8 0, .int .i8 0, .int .i8 0, .int .i8 0, .int .i8 0]) (t := 44) ?hr ?_; (case hd => rfl); (case hg => rfl); (case hr => first | (go_simp; done) | (go_simp; rfl)); intro gb199 hg w32 hbox hb; have n0_ := Aside0.mk (sqB BK195.out hb); have n1_ := Aside0.mk (sqB BK196.out hb); have n2_ := Aside0.mk (sqB BK197.out hb); have n3_ := Aside0.mk (sqB BK198.out hb); have n4_ := Aside0.mk (sqH HB.out hb); have n5_ := Aside0.mk (hbox); have n6_ := Aside0.mk ((by rw [hg]; exact (below_size (by repeat (first | (with_reducible first | exact HB.out | apply below_alloc | apply pw_below_drewN | apply below_drew1 | refine below_set ?_ GE195.out | refine below_set ?_ GE196.out | refine below_set ?_ GE197.out | refine below_set ?_ GE198.out) | exact HB.out))) : w.heap.size ≤ gb199)); have n7_ := n6_; have n8_ := Aside0.mk ((by rw [hg]; exact Nat.ne_of_lt (blk_lt (g := gb195) (o := .cells (a0).A 38 (0, 0)) (sqO BK195.out)) : gb195 ≠ gb199)); have n9_ := Aside0.mk (Ne.symm n8_.out); have n10_ := Aside0.mk ((by rw [hg]; exact Nat.ne_of_lt (blk_lt (g := gb196) (o := .cells (a1).A 40 (0, 0)) (sqO BK196.out)) : gb196 ≠ gb199)); have n11_ := Aside0.mk (Ne.symm n10_.out); have n12_ := Aside0.mk ((by rw [hg]; exact Nat.ne_of_lt (blk_lt (g := gb197) (o := .cells #[.int .i8 a2_0, .int .i8 a2_1, .int .i8 a2_2, .int .i8 a2_3, .int .i8 a2_4, .int .i8 a2_5] 44 (0, 0)) (sqO BK197.out)) : gb197 ≠ gb199)); have n13_ := Aside0.mk (Ne.symm n12_.out); have n14_ := Aside0.mk ((by rw [hg]; exact Nat.ne_of_lt (blk_lt (g := gb198) (o := .cells #[.int .i8 a3_0, .int .i8 a3_1] 78 (0, 0)) (sqO BK198.out)) : gb198 ≠ gb199)); have n15_ := Aside0.mk (Ne.symm n14_.out); clear BK195; clear BK196; clear BK197; clear BK198; clear HB; have BK195 := n0_; have BK196 := n1_; have BK197 := n2_; have BK198 := n3_; have HB := n4_; have BK199 := n5_; have GW199 := n6_; have GE199 := n7_; have NB195_199 := n8_; have NB199_195 := n9_; have NB196_199 := n10_; have NB199_196 := n11_; have NB197_199 := n12_; have NB199_197 := n13_; have NB198_199 := n14_; have NB199_198 := n15_; clear n0_ n1_ n2_ n3_ n4_ n5_ n6_ n7_ n8_ n9_ n10_ n11_ n12_ n13_ n14_ n15_; clear hb hbox hg))
            have n0_ := Aside0.mk (blk_drew BK195.out)
            have n1_ := Aside0.mk (blk_drew BK196.out)
            have n2_ := Aside0.mk (blk_drew BK197.out)
            have n3_ := Aside0.mk (blk_drew BK198.out)
            have n4_ := Aside0.mk (blk_drew BK199.out)
            have n5_ := Aside0.mk (below_drew1 HB.out)
            clear BK195
            clear BK196
            clear BK197
            clear BK198
            clear BK199
            clear HB
            have BK195 := n0_
            have BK196 := n1_
            have BK197 := n2_
            have BK198 := n3_
            have BK199 := n4_
            have HB := n5_
            clear n0_ n1_ n2_ n3_ n4_ n5_
            refine start_ (n := 8) (S := fun w' => w'.cell? ⟨gb198, 0, none⟩ = some (.int .i8 a3_0) ∧ w'.cell? ⟨gb198, 1, none⟩ = some (.int .i8 a3_1) ∧ w'.heap[gb195]? = some (.cells (a0).A 38 (0, 0)) ∧ w'.heap[gb196]? = some (.cells (a1).A 40 (0, 0)) ∧ w'.cell? ⟨gb197, 0, none⟩ = some (.int .i8 a2_0) ∧ w'.cell? ⟨gb197, 1, none⟩ = some (.int .i8 a2_1) ∧ w'.cell? ⟨gb197, 2, none⟩ = some (.int .i8 a2_2) ∧ w'.cell? ⟨gb197, 3, none⟩ = some (.int .i8 a2_3) ∧ w'.cell? ⟨gb197, 4, none⟩ = some (.int .i8 a2_4) ∧ w'.cell? ⟨gb197, 5, none⟩ = some (.int .i8 a2_5)) (ds := []) #[false, false, false, false, false, false, false, false] (by kernel_rfl) rfl rfl ⟨(blk_cell BK198.out 0).trans rfl, (blk_cell BK198.out 1).trans rfl, BK195.out, BK196.out, (blk_cell BK197.out 0).trans rfl, (blk_cell BK197.out 1).trans rfl, (blk_cell BK197.out 2).trans rfl, (blk_cell BK197.out 3).trans rfl, (blk_cell BK197.out 4).trans rfl, (blk_cell BK197.out 5).trans rfl⟩ (fun hHeld => ?_); refine with_tabW impl_drift.tab1 impl_drift.bits1 (fun HT_ HW_ => ?_)
            generalize w32.drew = w33 at BK195 BK196 BK197 BK198 BK199 HB hHeld ⊢
            refine pure_ (i := 0) (N := some 14) (v := ?_) (a' := ?_) #[true, false, false, false, false, false, false, false] rfl rfl (any_of HT_.out (by kernel_rfl)) (fun _ _ _ h => h) (Or.inl ⟨by rfl, ?_⟩) ?_ ?_
            rotate_left
            · intro w'
              go_simp
              with_reducible rfl
            rotate_left
            · simp only [Act.put, List.setIfInBounds_toArray, List.set_cons_zero, List.set_cons_succ, i64_w, i32_w]
              rfl
            refine take_ (i := 1) (N := some 15) (v := ?_) (a' := ?_) #[true, true, false, false, false, false, false, false] rfl rfl (take_ofW HT_.out HW_.out (by kernel_rfl)) (fun _ _ _ h => h) (Or.inl ⟨by rfl, ?_⟩) hHeld ?_ ?_
            rotate_left
            · rintro w' ⟨s0, s1, s2, s3, s4, s5, s6, s7, s8, s9⟩
              skip
              first | (refine Eq.trans (AR.exec_load_blk rfl rfl s2 Try.underlying38 rfl (szO38 _)) ?_; with_reducible rfl) | (refine Eq.trans (AR.exec_load_blk rfl rfl s3 Try.underlying40 rfl (szO40 _)) ?_; with_reducible rfl) | (go_simp; with_reducible rfl)
            rotate_left
            · simp only [Act.put, List.setIfInBounds_toArray, List.set_cons_zero, List.set_cons_succ, i64_w, i32_w]
              rfl
            refine pure_ (i := 2) (N := some 16) (v := ?_) (a' := ?_) #[true, true, true, false, false, false, false, false] rfl rfl (any_of HT_.out (by kernel_rfl)) (fun _ _ _ h => h) (Or.inl ⟨by rfl, ?_⟩) ?_ ?_
            rotate_left
            · intro w'
              go_simp
              with_reducible rfl
            rotate_left
            · simp only [Act.put, List.setIfInBounds_toArray, List.set_cons_zero, List.set_cons_succ, i64_w, i32_w]
              rfl
            refine take_ (i := 3) (N := some 17) (v := ?_) (a' := ?_) #[true, true, true, true, false, false, false, false] rfl rfl (take_ofW HT_.out HW_.out (by kernel_rfl)) (fun _ _ _ h => h) (Or.inl ⟨by rfl, ?_⟩) hHeld ?_ ?_
            rotate_left
            · rintro w' ⟨s0, s1, s2, s3, s4, s5, s6, s7, s8, s9⟩
              skip
              first | (refine Eq.trans (AR.exec_load_blk rfl rfl s2 Try.underlying38 rfl (szO38 _)) ?_; with_reducible rfl) | (refine Eq.trans (AR.exec_load_blk rfl rfl s3 Try.underlying40 rfl (szO40 _)) ?_; with_reducible rfl) | (go_simp; with_reducible rfl)
            rotate_left
            · simp only [Act.put, List.setIfInBounds_toArray, List.set_cons_zero, List.set_cons_succ, i64_w, i32_w]
              rfl
            refine take_ (i := 4) (N := some 18) (v := ?_) (a' := ?_) #[true, true, true, true, true, false, false, false] rfl rfl (take_ofW HT_.out HW_.out (by kernel_rfl)) (fun _ _ _ h => h) (Or.inl ⟨by rfl, ?_⟩) hHeld ?_ ?_
            rotate_left
            · rintro w' ⟨s0, s1, s2, s3, s4, s5, s6, s7, s8, s9⟩
              skip
              first | (refine Eq.trans (AR.exec_load_blk rfl rfl s2 Try.underlying38 rfl (szO38 _)) ?_; with_reducible rfl) | (refine Eq.trans (AR.exec_load_blk rfl rfl s3 Try.underlying40 rfl (szO40 _)) ?_; with_reducible rfl) | (go_simp; with_reducible rfl)
            rotate_left
            · simp only [Act.put, List.setIfInBounds_toArray, List.set_cons_zero, List.set_cons_succ, i64_w, i32_w]
              rfl
            refine take_ (i := 5) (N := some 19) (v := ?_) (a' := ?_) #[true, true, true, true, true, true, false, false] rfl rfl (take_ofW HT_.out HW_.out (by kernel_rfl)) (fun _ _ _ h => h) (Or.inl ⟨by rfl, ?_⟩) hHeld ?_ ?_
            rotate_left
            · rintro w' ⟨s0, s1, s2, s3, s4, s5, s6, s7, s8, s9⟩
              skip
              first | (refine Eq.trans (AR.exec_load_blk rfl rfl s2 Try.underlying38 rfl (szO38 _)) ?_; with_reducible rfl) | (refine Eq.trans (AR.exec_load_blk rfl rfl s3 Try.underlying40 rfl (szO40 _)) ?_; with_reducible rfl) | (go_simp; with_reducible rfl)
            rotate_left
            · simp only [Act.put, List.setIfInBounds_toArray, List.set_cons_zero, List.set_cons_succ, i64_w, i32_w]
              rfl
            refine one_ (i := 6) (N := some 20) #[true, true, true, true, true, true, true, false] rfl rfl (one_of HT_.out (by kernel_rfl)) (by decide) (fun K hK => ?_)
            refine goes_ Try.func83 (by kernel_rfl) rfl #[VO38 a0, VO40 a1, .agg #[.int .i8 a2_0, .int .i8 a2_1, .int .i8 a2_2, .int .i8 a2_3, .int .i8 a2_4, .int .i8 a2_5]] (by rfl) rfl rfl (by (try simp only [List.map_toArray, List.map_cons, List.map_nil]); first | done | rfl | (simp only [List.length_drop, List.length_take]; rfl)) ?_
            with_reducible refine (impl_hold.calls a0 a1 a2_0 a2_1 a2_2 a2_3 a2_4 a2_5 t200 _ A5.out).mono ?_
            rintro e w34 ⟨rfl, hb⟩
            refine ⟨_, rfl, ?_⟩
            have n0_ := Aside0.mk (sqB BK195.out hb)
            have n1_ := Aside0.mk (sqB BK196.out hb)
            have n2_ := Aside0.mk (sqB BK197.out hb)
            have n3_ := Aside0.mk (sqB BK198.out hb)
            have n4_ := Aside0.mk (sqB BK199.out hb)
            have n5_ := Aside0.mk (sqH HB.out hb)
            clear BK195
            clear BK196
            clear BK197
            clear BK198
            clear BK199
            clear HB
            have BK195 := n0_
            have BK196 := n1_
            have BK197 := n2_
            have BK198 := n3_
            have BK199 := n4_
            have HB := n5_
            clear n0_ n1_ n2_ n3_ n4_ n5_
            (try clear hb)
            (try clear hb2)
            (try clear hk)
            (try clear hi)
            refine hK.out _ _ ⟨(blk_cell BK198.out 0).trans rfl, (blk_cell BK198.out 1).trans rfl, BK195.out, BK196.out, (blk_cell BK197.out 0).trans rfl, (blk_cell BK197.out 1).trans rfl, (blk_cell BK197.out 2).trans rfl, (blk_cell BK197.out 3).trans rfl, (blk_cell BK197.out 4).trans rfl, (blk_cell BK197.out 5).trans rfl⟩ (fun hHeld => ?_)
            clear hK K
            refine norm_ (a' := ?_) ?_ ?_
            rotate_left
            · show Act.put _ (some 20) _ = _
              simp only [Act.put, List.setIfInBounds_toArray, List.set_cons_zero, List.set_cons_succ, i64_w, i32_w]
              rfl
            refine pure_ (i := 7) (N := some 21) (v := ?_) (a' := ?_) #[true, true, true, true, true, true, true, true] rfl rfl (any_of HT_.out (by kernel_rfl)) (fun _ _ _ h => h) (Or.inl ⟨by rfl, ?_⟩) ?_ ?_
            rotate_left
            · intro w'
              go_simp
              with_reducible rfl
            rotate_left
            · simp only [Act.put, List.setIfInBounds_toArray, List.set_cons_zero, List.set_cons_succ, i64_w, i32_w]
              rfl
            refine done_ (done_of HT_.out (by kernel_rfl)) ?_
            try go_wp2_with (first | ((with_reducible refine gate_dst (N := 23) rfl ?_); refine Kd.R_lit (Kd.int .i8) _ 22 ?hg (N := 23) ?hd (xs := ([0, 1, 1, 1, 0, (-1), (-1), (-1)] : List Int)) (inner := [.int .i8 0, .int .i8 1, .int .i8 1, .int .i8 1, .int .i8 0, .int .i8 (-1), .int .i8 (-1), .int .i8 (-1)]) (ok := fun _ => True) (okp := fun _ => True) ?hr ?hp (fun _ hk => hk) trivial (Below.refl _ _) (Nat.le_refl _) (by simp) ?_; (case hd => rfl); (case hg => rfl); (case hr => first | (go_simp; done) | (go_simp; rfl)); (case hp => exact (Reps.one (show Kd.M (Kd.int .i8) _ _ _ 0 [.int .i8 0] from rfl) (Reps.one (show Kd.M (Kd.int .i8) _ _ _ 1 [.int .i8 1] from rfl) (Reps.one (show Kd.M (Kd.int .i8) _ _ _ 1 [.int .i8 1] from rfl) (Reps.one (show Kd.M (Kd.int .i8) _ _ _ 1 [.int .i8 1] from rfl) (Reps.one (show Kd.M (Kd.int .i8) _ _ _ 0 [.int .i8 0] from rfl) (Reps.one (show Kd.M (Kd.int .i8) _ _ _ (-1) [.int .i8 (-1)] from rfl) (Reps.one (show Kd.M (Kd.int .i8) _ _ _ (-1) [.int .i8 (-1)] from rfl) (Reps.one (show Kd.M (Kd.int .i8) _ _ _ (-1) [.int .i8 (-1)] from rfl) (Reps.none _ _)))))))))); intro v202 w35 ho36 hb hg_ hnew_; clear hg_ hnew_; (first | rw [← Ny201.out] at ho36 | (simp only [Int.reduceToNat] at ho36; rw [← Ny201.out] at ho36)); have n0_ := Aside0.mk (Kd.R_lower ho36 (below_size (by repeat (first | (with_reducible first | exact HB.out | apply below_alloc | apply pw_below_drewN | apply below_drew1 | refine below_set ?_ GE195.out | refine below_set ?_ GE196.out | refine below_set ?_ GE197.out | refine below_set ?_ GE198.out | refine below_set ?_ GE199.out) | exact HB.out)))); have n1_ := Aside0.mk (sqB BK195.out hb); have n2_ := Aside0.mk (sqB BK196.out hb); have n3_ := Aside0.mk (sqB BK197.out hb); have n4_ := Aside0.mk (sqB BK198.out hb); have n5_ := Aside0.mk (sqB BK199.out hb); have n6_ := Aside0.mk (sqH HB.out hb); clear BK195; clear BK196; clear BK197; clear BK198; clear BK199; clear HB; have HO203 := n0_; have BK195 := n1_; have BK196 := n2_; have BK197 := n3_; have BK198 := n4_; have BK199 := n5_; have HB := n6_; clear n0_ n1_ n2_ n3_ n4_ n5_ n6_; clear hb ho36; have hnb37 := NB198_195.out; have hnc37 := NB195_198.out; have hnb38 := NB198_196.out; have hnc38 := NB196_198.out; have hnb39 := NB198_197.out; have hnc39 := NB197_198.out; have hnb40 := NB198_199.out; have hnc40 := NB199_198.out; have hcz41_0 : w35.cell? ⟨gb198, 0, none⟩ = some (.int .i8 a3_0) := (blk_cell BK198.out 0).trans rfl; have hcz41_1 : w35.cell? ⟨gb198, 1, none⟩ = some (.int .i8 a3_1) := (blk_cell BK198.out 1).trans rfl; have hfz41_0 := blk_frozen BK198.out 0; have hfz41_1 := blk_frozen BK198.out 1; obtain ⟨Ao42, co42, eo42⟩ := Kd.R_slice HO203.out; subst eo42; have p204 : 0 ≤ (a3_1 : Int) := of_decide_eq_true (by first | (with_reducible assumption) | assumption); have q204 : a3_1 < (y201.length : Int) := of_decide_eq_true (by first | (with_reducible assumption) | assumption); obtain ⟨ad204, e204, hx204_0⟩ := Kd.at_int (Kd.R_reads' HO203.out).2.2 a3_1 p204 q204; cases e204; replace p204 := eq_true p204; replace q204 := eq_true q204) | ((with_reducible refine gate_dst (N := 28) rfl ?_); refine Kd.R_lit (Kd.int .i8) _ 22 ?hg (N := 28) ?hd (xs := ([(-1), (-1), 0, 1, 1, 1, 0, (-1)] : List Int)) (inner := [.int .i8 (-1), .int .i8 (-1), .int .i8 0, .int .i8 1, .int .i8 1, .int .i8 1, .int .i8 0, .int .i8 (-1)]) (ok := fun _ => True) (okp := fun _ => True) ?hr ?hp (fun _ hk => hk) trivial (Below.refl _ _) (Nat.le_refl _) (by simp) ?_; (case hd => rfl); (case hg => rfl); (case hr => first | (go_simp; done) | (go_simp; rfl)); (case hp => exact (Reps.one (show Kd.M (Kd.int .i8) _ _ _ (-1) [.int .i8 (-1)] from rfl) (Reps.one (show Kd.M (Kd.int .i8) _ _ _ (-1) [.int .i8 (-1)] from rfl) (Reps.one (show Kd.M (Kd.int .i8) _ _ _ 0 [.int .i8 0] from rfl) (Reps.one (show Kd.M (Kd.int .i8) _ _ _ 1 [.int .i8 1] from rfl) (Reps.one (show Kd.M (Kd.int .i8) _ _ _ 1 [.int .i8 1] from rfl) (Reps.one (show Kd.M (Kd.int .i8) _ _ _ 1 [.int .i8 1] from rfl) (Reps.one (show Kd.M (Kd.int .i8) _ _ _ 0 [.int .i8 0] from rfl) (Reps.one (show Kd.M (Kd.int .i8) _ _ _ (-1) [.int .i8 (-1)] from rfl) (Reps.none _ _)))))))))); intro v206 w43 ho44 hb hg_ hnew_; clear hg_ hnew_; (first | rw [← Ny205.out] at ho44 | (simp only [Int.reduceToNat] at ho44; rw [← Ny205.out] at ho44)); have n0_ := Aside0.mk (Kd.R_elder' (by (with_reducible repeat (first | apply Kd.R_alloc | apply Kd.R_drewN | apply Kd.R_drew)); exact HO203.out) (Kd.R_base ho44) hb); have n1_ := Aside0.mk (Kd.R_lower (Kd.R_new' ho44 (Kd.R_lt (by (with_reducible repeat (first | apply Kd.R_alloc | apply Kd.R_drewN | apply Kd.R_drew)); exact HO203.out))) (below_size (by repeat (first | (with_reducible first | exact HB.out | apply below_alloc | apply pw_below_drewN | apply below_drew1 | refine below_set ?_ GE195.out | refine below_set ?_ GE196.out | refine below_set ?_ GE197.out | refine below_set ?_ GE198.out | refine below_set ?_ GE199.out) | exact HB.out)))); have n2_ := Aside0.mk (sqB BK195.out hb); have n3_ := Aside0.mk (sqB BK196.out hb); have n4_ := Aside0.mk (sqB BK197.out hb); have n5_ := Aside0.mk (sqB BK198.out hb); have n6_ := Aside0.mk (sqB BK199.out hb); have n7_ := Aside0.mk (sqH HB.out hb); clear HO203; clear BK195; clear BK196; clear BK197; clear BK198; clear BK199; clear HB; have HO203 := n0_; have HO207 := n1_; have BK195 := n2_; have BK196 := n3_; have BK197 := n4_; have BK198 := n5_; have BK199 := n6_; have HB := n7_; clear n0_ n1_ n2_ n3_ n4_ n5_ n6_ n7_; clear hb ho44; have hcz45_0 : w43.cell? ⟨gb198, 0, none⟩ = some (.int .i8 a3_0) := (blk_cell BK198.out 0).trans rfl; have hcz45_1 : w43.cell? ⟨gb198, 1, none⟩ = some (.int .i8 a3_1) := (blk_cell BK198.out 1).trans rfl; have hfz45_0 := blk_frozen BK198.out 0; have hfz45_1 := blk_frozen BK198.out 1; obtain ⟨Ao46, co46, eo46⟩ := Kd.R_slice HO207.out; subst eo46; have p208 : 0 ≤ (a3_1 : Int) := of_decide_eq_true (by first | (with_reducible assumption) | assumption); have q208 : a3_1 < (y205.length : Int) := of_decide_eq_true (by first | (with_reducible assumption) | assumption); obtain ⟨ad208, e208, hx208_0⟩ := Kd.at_int (Kd.R_reads' HO207.out).2.2 a3_1 p208 q208; cases e208; replace p208 := eq_true p208; replace q208 := eq_true q208; have hnb47 := NB197_195.out; have hnc47 := NB195_197.out; have hnb48 := NB197_196.out; have hnc48 := NB196_197.out; have hnb49 := NB197_199.out; have hnc49 := NB199_197.out; obtain ⟨hcz50_0, hcz50_1, hcz50_2, hcz50_3, hcz50_4, hcz50_5⟩ := sqC BK197.out; have hfz50_0 := blk_frozen BK197.out 0; have hfz50_1 := blk_frozen BK197.out 1; have hfz50_2 := blk_frozen BK197.out 2; have hfz50_3 := blk_frozen BK197.out 3; have hfz50_4 := blk_frozen BK197.out 4; have hfz50_5 := blk_frozen BK197.out 5) | ((with_reducible refine gate_dst (N := 13) rfl ?_); refine box_event ?hg (N := 13) ?hd (cs := #[.int .i8 0, .int .i8 0]) (t := 42) ?hr ?_; (case hd => rfl); (case hg => rfl); (case hr => first | (go_simp; done) | (go_simp; rfl)); intro gb209 hg w51 hbox hb; have n0_ := Aside0.mk (Kd.R_below (by (with_reducible repeat (first | apply Kd.R_alloc | apply Kd.R_drewN | apply Kd.R_drew)); exact HO203.out) hb); have n1_ := Aside0.mk (Kd.R_below (by (with_reducible repeat (first | apply Kd.R_alloc | apply Kd.R_drewN | apply Kd.R_drew)); exact HO207.out) hb); have n2_ := Aside0.mk (sqB BK195.out hb); have n3_ := Aside0.mk (sqB BK196.out hb); have n4_ := Aside0.mk (sqB BK197.out hb); have n5_ := Aside0.mk (sqB BK198.out hb); have n6_ := Aside0.mk (sqB BK199.out hb); have n7_ := Aside0.mk (sqH HB.out hb); have n8_ := Aside0.mk (hbox); have n9_ := Aside0.mk ((by rw [hg]; exact (below_size (by repeat (first | (with_reducible first | exact HB.out | apply below_alloc | apply pw_below_drewN | apply below_drew1 | refine below_set ?_ GE195.out | refine below_set ?_ GE196.out | refine below_set ?_ GE197.out | refine below_set ?_ GE198.out | refine below_set ?_ GE199.out) | exact HB.out))) : w.heap.size ≤ gb209)); have n10_ := n9_; have n11_ := Aside0.mk ((by rw [hg]; exact Nat.ne_of_lt (blk_lt (g := gb195) (o := .cells (a0).A 38 (0, 0)) (sqO BK195.out)) : gb195 ≠ gb209)); have n12_ := Aside0.mk (Ne.symm n11_.out); have n13_ := Aside0.mk ((by rw [hg]; exact Nat.ne_of_lt (blk_lt (g := gb196) (o := .cells (a1).A 40 (0, 0)) (sqO BK196.out)) : gb196 ≠ gb209)); have n14_ := Aside0.mk (Ne.symm n13_.out); have n15_ := Aside0.mk ((by rw [hg]; exact Nat.ne_of_lt (blk_lt (g := gb197) (o := .cells #[.int .i8 a2_0, .int .i8 a2_1, .int .i8 a2_2, .int .i8 a2_3, .int .i8 a2_4, .int .i8 a2_5] 44 (0, 0)) (sqO BK197.out)) : gb197 ≠ gb209)); have n16_ := Aside0.mk (Ne.symm n15_.out); have n17_ := Aside0.mk ((by rw [hg]; exact Nat.ne_of_lt (blk_lt (g := gb198) (o := .cells #[.int .i8 a3_0, .int .i8 a3_1] 78 (0, 0)) (sqO BK198.out)) : gb198 ≠ gb209)); have n18_ := Aside0.mk (Ne.symm n17_.out); have n19_ := Aside0.mk ((by rw [hg]; exact Nat.ne_of_lt (blk_lt (g := gb199) (o := .cells #[.int .i8 0, .int .i8 0, .int .i8 0, .int .i8 0, .int .i8 0, .int .i8 0] 44 (0, 0)) (sqO BK199.out)) : gb199 ≠ gb209)); have n20_ := Aside0.mk (Ne.symm n19_.out); clear HO203; clear HO207; clear BK195; clear BK196; clear BK197; clear BK198; clear BK199; clear HB; have HO203 := n0_; have HO207 := n1_; have BK195 := n2_; have BK196 := n3_; have BK197 := n4_; have BK198 := n5_; have BK199 := n6_; have HB := n7_; have BK209 := n8_; have GW209 := n9_; have GE209 := n10_; have NB195_209 := n11_; have NB209_195 := n12_; have NB196_209 := n13_; have NB209_196 := n14_; have NB197_209 := n15_; have NB209_197 := n16_; have NB198_209 := n17_; have NB209_198 := n18_; have NB199_209 := n19_; have NB209_199 := n20_; clear n0_ n1_ n2_ n3_ n4_ n5_ n6_ n7_ n8_ n9_ n10_ n11_ n12_ n13_ n14_ n15_ n16_ n17_ n18_ n19_ n20_; clear hb hbox hg; have hnb52 := NB209_195.out; have hnc52 := NB195_209.out; have hnb53 := NB209_196.out; have hnc53 := NB196_209.out; have hnb54 := NB209_197.out; have hnc54 := NB197_209.out; have hnb55 := NB209_198.out; have hnc55 := NB198_209.out; have hnb56 := NB209_199.out; have hnc56 := NB199_209.out; have hcz57_0 : w51.cell? ⟨gb209, 0, none⟩ = some (.int .i8 0) := (blk_cell BK209.out 0).trans rfl; have hcz57_1 : w51.cell? ⟨gb209, 1, none⟩ = some (.int .i8 0) := (blk_cell BK209.out 1).trans rfl; have hfz57_0 := blk_frozen BK209.out 0; have hfz57_1 := blk_frozen BK209.out 1) | ((with_reducible refine gate_dst (N := 44) rfl ?_); (with_reducible refine AR.gate_load (t := 38) rfl ?_); (try refine gate_guard (by rfl) ?_); refine AR.wpList_load_blk rfl 38 _ rfl gb195 rfl (a0).A _ (by (with_reducible repeat (first | refine blk_drewN ?_ _ | refine blk_drew ?_ | refine blk_alloc ?_ _)); refine blk_far ?_ NB195_209.out _; (with_reducible repeat (first | refine blk_drewN ?_ _ | refine blk_drew ?_ | refine blk_alloc ?_ _)); refine blk_far ?_ NB195_209.out _; (with_reducible repeat (first | refine blk_drewN ?_ _ | refine blk_drew ?_ | refine blk_alloc ?_ _)); exact BK195.out) Try.underlying38 rfl (szO38 _) ?_) | ((with_reducible refine gate_callee (f := 75) rfl ?_); refine goesL_ (some 46) rfl rfl Try.func75 (by kernel_rfl) rfl #[VO38 a0, .agg #[.int .i8 (IntKind.i8.wrap (a2_0 + (rd y201 a3_1))), .int .i8 (IntKind.i8.wrap (a2_1 + (rd y205 a3_1)))]] rfl (by (try simp only [List.map_toArray, List.map_cons, List.map_nil]); first | done | rfl | (simp only [List.length_drop, List.length_take]; rfl)) ?_; (with_reducible refine (impl_isWater.calls a0 (IntKind.i8.wrap (a2_0 + (rd y201 a3_1))) (IntKind.i8.wrap (a2_1 + (rd y205 a3_1))) true _ A26.out).mono ?_); rintro e w58 ⟨rfl, hb⟩; refine ⟨_, rfl, ?_⟩; have n0_ := Aside0.mk (Kd.R_below (by (with_reducible repeat (first | apply Kd.R_alloc | apply Kd.R_drewN | apply Kd.R_drew)); exact (Kd.R_mono (Kd.R_far (p := ⟨gb209, 1, none⟩) (Kd.R_far (p := ⟨gb209, 0, none⟩) (Kd.R_types HO203.out BK209.out (by decide)) (fun _ hk => hk.2) (.int .i8 (IntKind.i8.wrap (a2_0 + (rd y201 a3_1))))) (fun _ hk => hk.2) (.int .i8 (IntKind.i8.wrap (a2_1 + (rd y205 a3_1))))) (fun _ h_ => h_.1))) hb); have n1_ := Aside0.mk (Kd.R_below (by (with_reducible repeat (first | apply Kd.R_alloc | apply Kd.R_drewN | apply Kd.R_drew)); exact (Kd.R_mono (Kd.R_far (p := ⟨gb209, 1, none⟩) (Kd.R_far (p := ⟨gb209, 0, none⟩) (Kd.R_types HO207.out BK209.out (by decide)) (fun _ hk => hk.2) (.int .i8 (IntKind.i8.wrap (a2_0 + (rd y201 a3_1))))) (fun _ hk => hk.2) (.int .i8 (IntKind.i8.wrap (a2_1 + (rd y205 a3_1))))) (fun _ h_ => h_.1))) hb); have n2_ := Aside0.mk (blk_below (g := gb195) (o := .cells (a0).A 38 (0, 0)) (by (with_reducible repeat (first | refine blk_drewN ?_ _ | refine blk_drew ?_ | refine blk_alloc ?_ _)); refine blk_far ?_ NB195_209.out _; (with_reducible repeat (first | refine blk_drewN ?_ _ | refine blk_drew ?_ | refine blk_alloc ?_ _)); refine blk_far ?_ NB195_209.out _; (with_reducible repeat (first | refine blk_drewN ?_ _ | refine blk_drew ?_ | refine blk_alloc ?_ _)); exact BK195.out) hb); have n3_ := Aside0.mk (blk_below (g := gb196) (o := .cells (a1).A 40 (0, 0)) (by (with_reducible repeat (first | refine blk_drewN ?_ _ | refine blk_drew ?_ | refine blk_alloc ?_ _)); refine blk_far ?_ NB196_209.out _; (with_reducible repeat (first | refine blk_drewN ?_ _ | refine blk_drew ?_ | refine blk_alloc ?_ _)); refine blk_far ?_ NB196_209.out _; (with_reducible repeat (first | refine blk_drewN ?_ _ | refine blk_drew ?_ | refine blk_alloc ?_ _)); exact BK196.out) hb); have n4_ := Aside0.mk (blk_below (g := gb197) (o := .cells #[.int .i8 a2_0, .int .i8 a2_1, .int .i8 a2_2, .int .i8 a2_3, .int .i8 a2_4, .int .i8 a2_5] 44 (0, 0)) (by (with_reducible repeat (first | refine blk_drewN ?_ _ | refine blk_drew ?_ | refine blk_alloc ?_ _)); refine blk_far ?_ NB197_209.out _; (with_reducible repeat (first | refine blk_drewN ?_ _ | refine blk_drew ?_ | refine blk_alloc ?_ _)); refine blk_far ?_ NB197_209.out _; (with_reducible repeat (first | refine blk_drewN ?_ _ | refine blk_drew ?_ | refine blk_alloc ?_ _)); exact BK197.out) hb); have n5_ := Aside0.mk (blk_below (g := gb198) (o := .cells #[.int .i8 a3_0, .int .i8 a3_1] 78 (0, 0)) (by (with_reducible repeat (first | refine blk_drewN ?_ _ | refine blk_drew ?_ | refine blk_alloc ?_ _)); refine blk_far ?_ NB198_209.out _; (with_reducible repeat (first | refine blk_drewN ?_ _ | refine blk_drew ?_ | refine blk_alloc ?_ _)); refine blk_far ?_ NB198_209.out _; (with_reducible repeat (first | refine blk_drewN ?_ _ | refine blk_drew ?_ | refine blk_alloc ?_ _)); exact BK198.out) hb); have n6_ := Aside0.mk (blk_below (g := gb199) (o := .cells #[.int .i8 0, .int .i8 0, .int .i8 0, .int .i8 0, .int .i8 0, .int .i8 0] 44 (0, 0)) (by (with_reducible repeat (first | refine blk_drewN ?_ _ | refine blk_drew ?_ | refine blk_alloc ?_ _)); refine blk_far ?_ NB199_209.out _; (with_reducible repeat (first | refine blk_drewN ?_ _ | refine blk_drew ?_ | refine blk_alloc ?_ _)); refine blk_far ?_ NB199_209.out _; (with_reducible repeat (first | refine blk_drewN ?_ _ | refine blk_drew ?_ | refine blk_alloc ?_ _)); exact BK199.out) hb); have n7_ := Aside0.mk (blk_below (g := gb209) (o := .cells #[.int .i8 (IntKind.i8.wrap (a2_0 + (rd y201 a3_1))), .int .i8 (IntKind.i8.wrap (a2_1 + (rd y205 a3_1)))] 42 (0, 0)) (by (with_reducible repeat (first | refine blk_drewN ?_ _ | refine blk_drew ?_ | refine blk_alloc ?_ _)); refine blk_put (cs := #[.int .i8 (IntKind.i8.wrap (a2_0 + (rd y201 a3_1))), .int .i8 0]) ?_ 1 _ rfl; (with_reducible repeat (first | refine blk_drewN ?_ _ | refine blk_drew ?_ | refine blk_alloc ?_ _)); refine blk_put (cs := #[.int .i8 0, .int .i8 0]) ?_ 0 _ rfl; (with_reducible repeat (first | refine blk_drewN ?_ _ | refine blk_drew ?_ | refine blk_alloc ?_ _)); exact BK209.out) hb); have n8_ := Aside0.mk (sqH HB.out hb); clear HO203; clear HO207; clear BK195; clear BK196; clear BK197; clear BK198; clear BK199; clear BK209; clear HB; have HO203 := n0_; have HO207 := n1_; have BK195 := n2_; have BK196 := n3_; have BK197 := n4_; have BK198 := n5_; have BK199 := n6_; have BK209 := n7_; have HB := n8_; clear n0_ n1_ n2_ n3_ n4_ n5_ n6_ n7_ n8_; (try clear hb); (try clear hb2); (try clear hk); (try clear hi); have hcz59_0 : w58.cell? ⟨gb209, 0, none⟩ = some (.int .i8 (IntKind.i8.wrap (a2_0 + (rd y201 a3_1)))) := (blk_cell BK209.out 0).trans rfl; have hcz59_1 : w58.cell? ⟨gb209, 1, none⟩ = some (.int .i8 (IntKind.i8.wrap (a2_1 + (rd y205 a3_1)))) := (blk_cell BK209.out 1).trans rfl; have hfz59_0 := blk_frozen BK209.out 0; have hfz59_1 := blk_frozen BK209.out 1; obtain ⟨hcz60_0, hcz60_1, hcz60_2, hcz60_3, hcz60_4, hcz60_5⟩ := sqC BK197.out; have hfz60_0 := blk_frozen BK197.out 0; have hfz60_1 := blk_frozen BK197.out 1; have hfz60_2 := blk_frozen BK197.out 2; have hfz60_3 := blk_frozen BK197.out 3; have hfz60_4 := blk_frozen BK197.out 4; have hfz60_5 := blk_frozen BK197.out 5; have hnb61 := NB199_195.out; have hnc61 := NB195_199.out; have hnb62 := NB199_196.out; have hnc62 := NB196_199.out; obtain ⟨hcz63_0, hcz63_1, hcz63_2, hcz63_3, hcz63_4, hcz63_5⟩ := sqC BK199.out; have hfz63_0 := blk_frozen BK199.out 0; have hfz63_1 := blk_frozen BK199.out 1; have hfz63_2 := blk_frozen BK199.out 2; have hfz63_3 := blk_frozen BK199.out 3; have hfz63_4 := blk_frozen BK199.out 4; have hfz63_5 := blk_frozen BK199.out 5))
            refine bodyPost_ret (results_ctt rfl _ _ gb199 44 #[.int .i8 (IntKind.i8.wrap (a2_0 + (rd y201 a3_1))), .int .i8 (IntKind.i8.wrap (a2_1 + (rd y205 a3_1))), .int .i8 a2_2, .int .i8 a2_3, .int .i8 a2_4, .int .i8 a2_5] (0, 0) _ rfl (by (with_reducible repeat (first | refine blk_drewN ?_ _ | refine blk_drew ?_ | refine blk_alloc ?_ _)); refine blk_put (cs := #[.int .i8 (IntKind.i8.wrap (a2_0 + (rd y201 a3_1))), .int .i8 (IntKind.i8.wrap (a2_1 + (rd y205 a3_1))), .int .i8 a2_2, .int .i8 a2_3, .int .i8 a2_4, .int .i8 0]) ?_ 5 _ rfl; (with_reducible repeat (first | refine blk_drewN ?_ _ | refine blk_drew ?_ | refine blk_alloc ?_ _)); refine blk_put (cs := #[.int .i8 (IntKind.i8.wrap (a2_0 + (rd y201 a3_1))), .int .i8 (IntKind.i8.wrap (a2_1 + (rd y205 a3_1))), .int .i8 a2_2, .int .i8 a2_3, .int .i8 0, .int .i8 0]) ?_ 4 _ rfl; (with_reducible repeat (first | refine blk_drewN ?_ _ | refine blk_drew ?_ | refine blk_alloc ?_ _)); refine blk_put (cs := #[.int .i8 (IntKind.i8.wrap (a2_0 + (rd y201 a3_1))), .int .i8 (IntKind.i8.wrap (a2_1 + (rd y205 a3_1))), .int .i8 a2_2, .int .i8 0, .int .i8 0, .int .i8 0]) ?_ 3 _ rfl; (with_reducible repeat (first | refine blk_drewN ?_ _ | refine blk_drew ?_ | refine blk_alloc ?_ _)); refine blk_put (cs := #[.int .i8 (IntKind.i8.wrap (a2_0 + (rd y201 a3_1))), .int .i8 (IntKind.i8.wrap (a2_1 + (rd y205 a3_1))), .int .i8 0, .int .i8 0, .int .i8 0, .int .i8 0]) ?_ 2 _ rfl; (with_reducible repeat (first | refine blk_drewN ?_ _ | refine blk_drew ?_ | refine blk_alloc ?_ _)); refine blk_put (cs := #[.int .i8 (IntKind.i8.wrap (a2_0 + (rd y201 a3_1))), .int .i8 0, .int .i8 0, .int .i8 0, .int .i8 0, .int .i8 0]) ?_ 1 _ rfl; (with_reducible repeat (first | refine blk_drewN ?_ _ | refine blk_drew ?_ | refine blk_alloc ?_ _)); refine blk_put (cs := #[.int .i8 0, .int .i8 0, .int .i8 0, .int .i8 0, .int .i8 0, .int .i8 0]) ?_ 0 _ rfl; (with_reducible repeat (first | refine blk_drewN ?_ _ | refine blk_drew ?_ | refine blk_alloc ?_ _)); refine blk_far ?_ NB199_197.out _; (with_reducible repeat (first | refine blk_drewN ?_ _ | refine blk_drew ?_ | refine blk_alloc ?_ _)); refine blk_far ?_ NB199_197.out _; (with_reducible repeat (first | refine blk_drewN ?_ _ | refine blk_drew ?_ | refine blk_alloc ?_ _)); exact BK199.out) Try.underlying44 rfl (by kernel_rfl)) rfl ?_
            exact ⟨by first | rfl | (simp [errW_none, errW_some] <;> rfl) | (simp [*, errW_none, errW_some] <;> rfl), by repeat (first | (with_reducible first | exact HB.out | apply below_alloc | apply pw_below_drewN | apply below_drew1 | refine below_set ?_ GE195.out | refine below_set ?_ GE196.out | refine below_set ?_ GE197.out | refine below_set ?_ GE198.out | refine below_set ?_ GE199.out | refine below_set ?_ GE209.out) | exact HB.out)⟩
          · replace c27 := Bool.eq_false_iff.mpr c27
            subst c27
            have H1 : (some (a2_0, a2_1, a2_2, a2_3, a2_4, a2_5, true, true)) = some (r1, r2, r3, r4, r5, r6, r7, r8) := by rw [if_neg (show ¬ (false = true) by decide)] at H; exact H
            clear H
            have H := H1
            clear H1
            simp only [Option.some.injEq, Prod.mk.injEq] at H
            obtain ⟨rfl, rfl, rfl, rfl, rfl, rfl, rfl, rfl⟩ := H
            go_enter Try.func72, Try.ntmps72
            try go_wp2_with (first | ((with_reducible refine gate_dst (N := 4) rfl ?_); refine box_event ?hg (N := 4) ?hd (cs := (a0).A) (t := 38) ?hr ?_; (case hd => rfl); (case hg => rfl); (case hr => first | exact AR.run_box_row rfl rfl | (go_simp; done) | (go_simp; rfl)); intro gb195 hg w64 hbox hb; have n0_ := Aside0.mk (sqH HB.out hb); have n1_ := Aside0.mk (hbox); have n2_ := Aside0.mk ((by rw [hg]; exact (below_size (by repeat (first | (with_reducible first | exact HB.out | apply below_alloc | apply pw_below_drewN | apply below_drew1) | exact HB.out))) : w.heap.size ≤ gb195)); have n3_ := n2_; clear HB; have HB := n0_; have BK195 := n1_; have GW195 := n2_; have GE195 := n3_; clear n0_ n1_ n2_ n3_; clear hb hbox hg) | ((with_reducible refine gate_dst (N := 5) rfl ?_); refine box_event ?hg (N := 5) ?hd (cs := (a1).A) (t := 40) ?hr ?_; (case hd => rfl); (case hg => rfl); (case hr => first | exact AR.run_box_row rfl rfl | (go_simp; done) | (go_simp; rfl)); intro gb196 hg w65 hbox hb; have n0_ := Aside0.mk (sqB BK195.out hb); have n1_ := Aside0.mk (sqH HB.out hb); have n2_ := Aside0.mk (hbox); have n3_ := Aside0.mk ((by rw [hg]; exact (below_size (by repeat (first | (with_reducible first | exact HB.out | apply below_alloc | apply pw_below_drewN | apply below_drew1 | refine below_set ?_ GE195.out) | exact HB.out))) : w.heap.size ≤ gb196)); have n4_ := n3_; have n5_ := Aside0.mk ((by rw [hg]; exact Nat.ne_of_lt (blk_lt (g := gb195) (o := .cells (a0).A 38 (0, 0)) (sqO BK195.out)) : gb195 ≠ gb196)); have n6_ := Aside0.mk (Ne.symm n5_.out); clear BK195; clear HB; have BK195 := n0_; have HB := n1_; have BK196 := n2_; have GW196 := n3_; have GE196 := n4_; have NB195_196 := n5_; have NB196_195 := n6_; clear n0_ n1_ n2_ n3_ n4_ n5_ n6_; clear hb hbox hg) | ((with_reducible refine gate_dst (N := 6) rfl ?_); refine box_event ?hg (N := 6) ?hd (cs := #[.int .i8 a2_0, .int .i8 a2_1, .int .i8 a2_2, .int .i8 a2_3, .int .i8 a2_4, .int .i8 a2_5]) (t := 44) ?hr ?_; (case hd => rfl); (case hg => rfl); (case hr => first | (go_simp; done) | (go_simp; rfl)); intro gb197 hg w66 hbox hb; have n0_ := Aside0.mk (sqB BK195.out hb); have n1_ := Aside0.mk (sqB BK196.out hb); have n2_ := Aside0.mk (sqH HB.out hb); have n3_ := Aside0.mk (hbox); have n4_ := Aside0.mk ((by rw [hg]; exact (below_size (by repeat (first | (with_reducible first | exact HB.out | apply below_alloc | apply pw_below_drewN | apply below_drew1 | refine below_set ?_ GE195.out | refine below_set ?_ GE196.out) | exact HB.out))) : w.heap.size ≤ gb197)); have n5_ := n4_; have n6_ := Aside0.mk ((by rw [hg]; exact Nat.ne_of_lt (blk_lt (g := gb195) (o := .cells (a0).A 38 (0, 0)) (sqO BK195.out)) : gb195 ≠ gb197)); have n7_ := Aside0.mk (Ne.symm n6_.out); have n8_ := Aside0.mk ((by rw [hg]; exact Nat.ne_of_lt (blk_lt (g := gb196) (o := .cells (a1).A 40 (0, 0)) (sqO BK196.out)) : gb196 ≠ gb197)); have n9_ := Aside0.mk (Ne.symm n8_.out); clear BK195; clear BK196; clear HB; have BK195 := n0_; have BK196 := n1_; have HB := n2_; have BK197 := n3_; have GW197 := n4_; have GE197 := n5_; have NB195_197 := n6_; have NB197_195 := n7_; have NB196_197 := n8_; have NB197_196 := n9_; clear n0_ n1_ n2_ n3_ n4_ n5_ n6_ n7_ n8_ n9_; clear hb hbox hg) | ((with_reducible refine gate_dst (N := 7) rfl ?_); refine box_event ?hg (N := 7) ?hd (cs := #[.int .i8 a3_0, .int .i8 a3_1]) (t := 78) ?hr ?_; (case hd => rfl); (case hg => rfl); (case hr => first | (go_simp; done) | (go_simp; rfl)); intro gb198 hg w67 hbox hb; have n0_ := Aside0.mk (sqB BK195.out hb); have n1_ := Aside0.mk (sqB BK196.out hb); have n2_ := Aside0.mk (sqB BK197.out hb); have n3_ := Aside0.mk (sqH HB.out hb); have n4_ := Aside0.mk (hbox); have n5_ := Aside0.mk ((by rw [hg]; exact (below_size (by repeat (first | (with_reducible first | exact HB.out | apply below_alloc | apply pw_below_drewN | apply below_drew1 | refine below_set ?_ GE195.out | refine below_set ?_ GE196.out | refine below_set ?_ GE197.out) | exact HB.out))) : w.heap.size ≤ gb198)); have n6_ := n5_; have n7_ := Aside0.mk ((by rw [hg]; exact Nat.ne_of_lt (blk_lt (g := gb195) (o := .cells (a0).A 38 (0, 0)) (sqO BK195.out)) : gb195 ≠ gb198)); have n8_ := Aside0.mk (Ne.symm n7_.out); have n9_ := Aside0.mk ((by rw [hg]; exact Nat.ne_of_lt (blk_lt (g := gb196) (o := .cells (a1).A 40 (0, 0)) (sqO BK196.out)) : gb196 ≠ gb198)); have n10_ := Aside0.mk (Ne.symm n9_.out); have n11_ := Aside0.mk ((by rw [hg]; exact Nat.ne_of_lt (blk_lt (g := gb197) (o := .cells #[.int .i8 a2_0, .int .i8 a2_1, .int .i8 a2_2, .int .i8 a2_3, .int .i8 a2_4, .int .i8 a2_5] 44 (0, 0)) (sqO BK197.out)) : gb197 ≠ gb198)); have n12_ := Aside0.mk (Ne.symm n11_.out); clear BK195; clear BK196; clear BK197; clear HB; have BK195 := n0_; have BK196 := n1_; have BK197 := n2_; have HB := n3_; have BK198 := n4_; have GW198 := n5_; have GE198 := n6_; have NB195_198 := n7_; have NB198_195 := n8_; have NB196_198 := n9_; have NB198_196 := n10_; have NB197_198 := n11_; have NB198_197 := n12_; clear n0_ n1_ n2_ n3_ n4_ n5_ n6_ n7_ n8_ n9_ n10_ n11_ n12_; clear hb hbox hg) | ((with_reducible refine gate_dst (N := 8) rfl ?_); refine box_event ?hg (N := 8) ?hd (cs := #[.int .i8 0, .int .i8 0, .int .i8 0, .int .i8 0, .int .i8 0, .int .i8 0]) (t := 44) ?hr ?_; (case hd => rfl); (case hg => rfl); (case hr => first | (go_simp; done) | (go_simp; rfl)); intro gb199 hg w68 hbox hb; have n0_ := Aside0.mk (sqB BK195.out hb); have n1_ := Aside0.mk (sqB BK196.out hb); have n2_ := Aside0.mk (sqB BK197.out hb); have n3_ := Aside0.mk (sqB BK198.out hb); have n4_ := Aside0.mk (sqH HB.out hb); have n5_ := Aside0.mk (hbox); have n6_ := Aside0.mk ((by rw [hg]; exact (below_size (by repeat (first | (with_reducible first | exact HB.out | apply below_alloc | apply pw_below_drewN | apply below_drew1 | refine below_set ?_ GE195.out | refine below_set ?_ GE196.out | refine below_set ?_ GE197.out | refine below_set ?_ GE198.out) | exact HB.out))) : w.heap.size ≤ gb199)); have n7_ := n6_; have n8_ := Aside0.mk ((by rw [hg]; exact Nat.ne_of_lt (blk_lt (g := gb195) (o := .cells (a0).A 38 (0, 0)) (sqO BK195.out)) : gb195 ≠ gb199)); have n9_ := Aside0.mk (Ne.symm n8_.out); have n10_ := Aside0.mk ((by rw [hg]; exact Nat.ne_of_lt (blk_lt (g := gb196) (o := .cells (a1).A 40 (0, 0)) (sqO BK196.out)) : gb196 ≠ gb199)); have n11_ := Aside0.mk (Ne.symm n10_.out); have n12_ := Aside0.mk ((by rw [hg]; exact Nat.ne_of_lt (blk_lt (g := gb197) (o := .cells #[.int .i8 a2_0, .int .i8 a2_1, .int .i8 a2_2, .int .i8 a2_3, .int .i8 a2_4, .int .i8 a2_5] 44 (0, 0)) (sqO BK197.out)) : gb197 ≠ gb199)); have n13_ := Aside0.mk (Ne.symm n12_.out); have n14_ := Aside0.mk ((by rw [hg]; exact Nat.ne_of_lt (blk_lt (g := gb198) (o := .cells #[.int .i8 a3_0, .int .i8 a3_1] 78 (0, 0)) (sqO BK198.out)) : gb198 ≠ gb199)); have n15_ := Aside0.mk (Ne.symm n14_.out); clear BK195; clear BK196; clear BK197; clear BK198; clear HB; have BK195 := n0_; have BK196 := n1_; have BK197 := n2_; have BK198 := n3_; have HB := n4_; have BK199 := n5_; have GW199 := n6_; have GE199 := n7_; have NB195_199 := n8_; have NB199_195 := n9_; have NB196_199 := n10_; have NB199_196 := n11_; have NB197_199 := n12_; have NB199_197 := n13_; have NB198_199 := n14_; have NB199_198 := n15_; clear n0_ n1_ n2_ n3_ n4_ n5_ n6_ n7_ n8_ n9_ n10_ n11_ n12_ n13_ n14_ n15_; clear hb hbox hg))
            have n0_ := Aside0.mk (blk_drew BK195.out)
            have n1_ := Aside0.mk (blk_drew BK196.out)
            have n2_ := Aside0.mk (blk_drew BK197.out)
            have n3_ := Aside0.mk (blk_drew BK198.out)
            have n4_ := Aside0.mk (blk_drew BK199.out)
            have n5_ := Aside0.mk (below_drew1 HB.out)
            clear BK195
            clear BK196
            clear BK197
            clear BK198
            clear BK199
            clear HB
            have BK195 := n0_
            have BK196 := n1_
            have BK197 := n2_
            have BK198 := n3_
            have BK199 := n4_
            have HB := n5_
            clear n0_ n1_ n2_ n3_ n4_ n5_
            refine start_ (n := 8) (S := fun w' => w'.cell? ⟨gb198, 0, none⟩ = some (.int .i8 a3_0) ∧ w'.cell? ⟨gb198, 1, none⟩ = some (.int .i8 a3_1) ∧ w'.heap[gb195]? = some (.cells (a0).A 38 (0, 0)) ∧ w'.heap[gb196]? = some (.cells (a1).A 40 (0, 0)) ∧ w'.cell? ⟨gb197, 0, none⟩ = some (.int .i8 a2_0) ∧ w'.cell? ⟨gb197, 1, none⟩ = some (.int .i8 a2_1) ∧ w'.cell? ⟨gb197, 2, none⟩ = some (.int .i8 a2_2) ∧ w'.cell? ⟨gb197, 3, none⟩ = some (.int .i8 a2_3) ∧ w'.cell? ⟨gb197, 4, none⟩ = some (.int .i8 a2_4) ∧ w'.cell? ⟨gb197, 5, none⟩ = some (.int .i8 a2_5)) (ds := []) #[false, false, false, false, false, false, false, false] (by kernel_rfl) rfl rfl ⟨(blk_cell BK198.out 0).trans rfl, (blk_cell BK198.out 1).trans rfl, BK195.out, BK196.out, (blk_cell BK197.out 0).trans rfl, (blk_cell BK197.out 1).trans rfl, (blk_cell BK197.out 2).trans rfl, (blk_cell BK197.out 3).trans rfl, (blk_cell BK197.out 4).trans rfl, (blk_cell BK197.out 5).trans rfl⟩ (fun hHeld => ?_); refine with_tabW impl_drift.tab1 impl_drift.bits1 (fun HT_ HW_ => ?_)
            generalize w68.drew = w69 at BK195 BK196 BK197 BK198 BK199 HB hHeld ⊢
            refine pure_ (i := 0) (N := some 14) (v := ?_) (a' := ?_) #[true, false, false, false, false, false, false, false] rfl rfl (any_of HT_.out (by kernel_rfl)) (fun _ _ _ h => h) (Or.inl ⟨by rfl, ?_⟩) ?_ ?_
            rotate_left
            · intro w'
              go_simp
              with_reducible rfl
            rotate_left
            · simp only [Act.put, List.setIfInBounds_toArray, List.set_cons_zero, List.set_cons_succ, i64_w, i32_w]
              rfl
            refine take_ (i := 1) (N := some 15) (v := ?_) (a' := ?_) #[true, true, false, false, false, false, false, false] rfl rfl (take_ofW HT_.out HW_.out (by kernel_rfl)) (fun _ _ _ h => h) (Or.inl ⟨by rfl, ?_⟩) hHeld ?_ ?_
            rotate_left
            · rintro w' ⟨s0, s1, s2, s3, s4, s5, s6, s7, s8, s9⟩
              skip
              first | (refine Eq.trans (AR.exec_load_blk rfl rfl s2 Try.underlying38 rfl (szO38 _)) ?_; with_reducible rfl) | (refine Eq.trans (AR.exec_load_blk rfl rfl s3 Try.underlying40 rfl (szO40 _)) ?_; with_reducible rfl) | (go_simp; with_reducible rfl)
            rotate_left
            · simp only [Act.put, List.setIfInBounds_toArray, List.set_cons_zero, List.set_cons_succ, i64_w, i32_w]
              rfl
            refine pure_ (i := 2) (N := some 16) (v := ?_) (a' := ?_) #[true, true, true, false, false, false, false, false] rfl rfl (any_of HT_.out (by kernel_rfl)) (fun _ _ _ h => h) (Or.inl ⟨by rfl, ?_⟩) ?_ ?_
            rotate_left
            · intro w'
              go_simp
              with_reducible rfl
            rotate_left
            · simp only [Act.put, List.setIfInBounds_toArray, List.set_cons_zero, List.set_cons_succ, i64_w, i32_w]
              rfl
            refine take_ (i := 3) (N := some 17) (v := ?_) (a' := ?_) #[true, true, true, true, false, false, false, false] rfl rfl (take_ofW HT_.out HW_.out (by kernel_rfl)) (fun _ _ _ h => h) (Or.inl ⟨by rfl, ?_⟩) hHeld ?_ ?_
            rotate_left
            · rintro w' ⟨s0, s1, s2, s3, s4, s5, s6, s7, s8, s9⟩
              skip
              first | (refine Eq.trans (AR.exec_load_blk rfl rfl s2 Try.underlying38 rfl (szO38 _)) ?_; with_reducible rfl) | (refine Eq.trans (AR.exec_load_blk rfl rfl s3 Try.underlying40 rfl (szO40 _)) ?_; with_reducible rfl) | (go_simp; with_reducible rfl)
            rotate_left
            · simp only [Act.put, List.setIfInBounds_toArray, List.set_cons_zero, List.set_cons_succ, i64_w, i32_w]
              rfl
            refine take_ (i := 4) (N := some 18) (v := ?_) (a' := ?_) #[true, true, true, true, true, false, false, false] rfl rfl (take_ofW HT_.out HW_.out (by kernel_rfl)) (fun _ _ _ h => h) (Or.inl ⟨by rfl, ?_⟩) hHeld ?_ ?_
            rotate_left
            · rintro w' ⟨s0, s1, s2, s3, s4, s5, s6, s7, s8, s9⟩
              skip
              first | (refine Eq.trans (AR.exec_load_blk rfl rfl s2 Try.underlying38 rfl (szO38 _)) ?_; with_reducible rfl) | (refine Eq.trans (AR.exec_load_blk rfl rfl s3 Try.underlying40 rfl (szO40 _)) ?_; with_reducible rfl) | (go_simp; with_reducible rfl)
            rotate_left
            · simp only [Act.put, List.setIfInBounds_toArray, List.set_cons_zero, List.set_cons_succ, i64_w, i32_w]
              rfl
            refine take_ (i := 5) (N := some 19) (v := ?_) (a' := ?_) #[true, true, true, true, true, true, false, false] rfl rfl (take_ofW HT_.out HW_.out (by kernel_rfl)) (fun _ _ _ h => h) (Or.inl ⟨by rfl, ?_⟩) hHeld ?_ ?_
            rotate_left
            · rintro w' ⟨s0, s1, s2, s3, s4, s5, s6, s7, s8, s9⟩
              skip
              first | (refine Eq.trans (AR.exec_load_blk rfl rfl s2 Try.underlying38 rfl (szO38 _)) ?_; with_reducible rfl) | (refine Eq.trans (AR.exec_load_blk rfl rfl s3 Try.underlying40 rfl (szO40 _)) ?_; with_reducible rfl) | (go_simp; with_reducible rfl)
            rotate_left
            · simp only [Act.put, List.setIfInBounds_toArray, List.set_cons_zero, List.set_cons_succ, i64_w, i32_w]
              rfl
            refine one_ (i := 6) (N := some 20) #[true, true, true, true, true, true, true, false] rfl rfl (one_of HT_.out (by kernel_rfl)) (by decide) (fun K hK => ?_)
            refine goes_ Try.func83 (by kernel_rfl) rfl #[VO38 a0, VO40 a1, .agg #[.int .i8 a2_0, .int .i8 a2_1, .int .i8 a2_2, .int .i8 a2_3, .int .i8 a2_4, .int .i8 a2_5]] (by rfl) rfl rfl (by (try simp only [List.map_toArray, List.map_cons, List.map_nil]); first | done | rfl | (simp only [List.length_drop, List.length_take]; rfl)) ?_
            with_reducible refine (impl_hold.calls a0 a1 a2_0 a2_1 a2_2 a2_3 a2_4 a2_5 t200 _ A5.out).mono ?_
            rintro e w70 ⟨rfl, hb⟩
            refine ⟨_, rfl, ?_⟩
            have n0_ := Aside0.mk (sqB BK195.out hb)
            have n1_ := Aside0.mk (sqB BK196.out hb)
            have n2_ := Aside0.mk (sqB BK197.out hb)
            have n3_ := Aside0.mk (sqB BK198.out hb)
            have n4_ := Aside0.mk (sqB BK199.out hb)
            have n5_ := Aside0.mk (sqH HB.out hb)
            clear BK195
            clear BK196
            clear BK197
            clear BK198
            clear BK199
            clear HB
            have BK195 := n0_
            have BK196 := n1_
            have BK197 := n2_
            have BK198 := n3_
            have BK199 := n4_
            have HB := n5_
            clear n0_ n1_ n2_ n3_ n4_ n5_
            (try clear hb)
            (try clear hb2)
            (try clear hk)
            (try clear hi)
            refine hK.out _ _ ⟨(blk_cell BK198.out 0).trans rfl, (blk_cell BK198.out 1).trans rfl, BK195.out, BK196.out, (blk_cell BK197.out 0).trans rfl, (blk_cell BK197.out 1).trans rfl, (blk_cell BK197.out 2).trans rfl, (blk_cell BK197.out 3).trans rfl, (blk_cell BK197.out 4).trans rfl, (blk_cell BK197.out 5).trans rfl⟩ (fun hHeld => ?_)
            clear hK K
            refine norm_ (a' := ?_) ?_ ?_
            rotate_left
            · show Act.put _ (some 20) _ = _
              simp only [Act.put, List.setIfInBounds_toArray, List.set_cons_zero, List.set_cons_succ, i64_w, i32_w]
              rfl
            refine pure_ (i := 7) (N := some 21) (v := ?_) (a' := ?_) #[true, true, true, true, true, true, true, true] rfl rfl (any_of HT_.out (by kernel_rfl)) (fun _ _ _ h => h) (Or.inl ⟨by rfl, ?_⟩) ?_ ?_
            rotate_left
            · intro w'
              go_simp
              with_reducible rfl
            rotate_left
            · simp only [Act.put, List.setIfInBounds_toArray, List.set_cons_zero, List.set_cons_succ, i64_w, i32_w]
              rfl
            refine done_ (done_of HT_.out (by kernel_rfl)) ?_
            try go_wp2_with (first | ((with_reducible refine gate_dst (N := 23) rfl ?_); refine Kd.R_lit (Kd.int .i8) _ 22 ?hg (N := 23) ?hd (xs := ([0, 1, 1, 1, 0, (-1), (-1), (-1)] : List Int)) (inner := [.int .i8 0, .int .i8 1, .int .i8 1, .int .i8 1, .int .i8 0, .int .i8 (-1), .int .i8 (-1), .int .i8 (-1)]) (ok := fun _ => True) (okp := fun _ => True) ?hr ?hp (fun _ hk => hk) trivial (Below.refl _ _) (Nat.le_refl _) (by simp) ?_; (case hd => rfl); (case hg => rfl); (case hr => first | (go_simp; done) | (go_simp; rfl)); (case hp => exact (Reps.one (show Kd.M (Kd.int .i8) _ _ _ 0 [.int .i8 0] from rfl) (Reps.one (show Kd.M (Kd.int .i8) _ _ _ 1 [.int .i8 1] from rfl) (Reps.one (show Kd.M (Kd.int .i8) _ _ _ 1 [.int .i8 1] from rfl) (Reps.one (show Kd.M (Kd.int .i8) _ _ _ 1 [.int .i8 1] from rfl) (Reps.one (show Kd.M (Kd.int .i8) _ _ _ 0 [.int .i8 0] from rfl) (Reps.one (show Kd.M (Kd.int .i8) _ _ _ (-1) [.int .i8 (-1)] from rfl) (Reps.one (show Kd.M (Kd.int .i8) _ _ _ (-1) [.int .i8 (-1)] from rfl) (Reps.one (show Kd.M (Kd.int .i8) _ _ _ (-1) [.int .i8 (-1)] from rfl) (Reps.none _ _)))))))))); intro v202 w71 ho72 hb hg_ hnew_; clear hg_ hnew_; (first | rw [← Ny201.out] at ho72 | (simp only [Int.reduceToNat] at ho72; rw [← Ny201.out] at ho72)); have n0_ := Aside0.mk (Kd.R_lower ho72 (below_size (by repeat (first | (with_reducible first | exact HB.out | apply below_alloc | apply pw_below_drewN | apply below_drew1 | refine below_set ?_ GE195.out | refine below_set ?_ GE196.out | refine below_set ?_ GE197.out | refine below_set ?_ GE198.out | refine below_set ?_ GE199.out) | exact HB.out)))); have n1_ := Aside0.mk (sqB BK195.out hb); have n2_ := Aside0.mk (sqB BK196.out hb); have n3_ := Aside0.mk (sqB BK197.out hb); have n4_ := Aside0.mk (sqB BK198.out hb); have n5_ := Aside0.mk (sqB BK199.out hb); have n6_ := Aside0.mk (sqH HB.out hb); clear BK195; clear BK196; clear BK197; clear BK198; clear BK199; clear HB; have HO203 := n0_; have BK195 := n1_; have BK196 := n2_; have BK197 := n3_; have BK198 := n4_; have BK199 := n5_; have HB := n6_; clear n0_ n1_ n2_ n3_ n4_ n5_ n6_; clear hb ho72; have hnb73 := NB198_195.out; have hnc73 := NB195_198.out; have hnb74 := NB198_196.out; have hnc74 := NB196_198.out; have hnb75 := NB198_197.out; have hnc75 := NB197_198.out; have hnb76 := NB198_199.out; have hnc76 := NB199_198.out; have hcz77_0 : w71.cell? ⟨gb198, 0, none⟩ = some (.int .i8 a3_0) := (blk_cell BK198.out 0).trans rfl; have hcz77_1 : w71.cell? ⟨gb198, 1, none⟩ = some (.int .i8 a3_1) := (blk_cell BK198.out 1).trans rfl; have hfz77_0 := blk_frozen BK198.out 0; have hfz77_1 := blk_frozen BK198.out 1; obtain ⟨Ao78, co78, eo78⟩ := Kd.R_slice HO203.out; subst eo78; have p204 : 0 ≤ (a3_1 : Int) := of_decide_eq_true (by first | (with_reducible assumption) | assumption); have q204 : a3_1 < (y201.length : Int) := of_decide_eq_true (by first | (with_reducible assumption) | assumption); obtain ⟨ad204, e204, hx204_0⟩ := Kd.at_int (Kd.R_reads' HO203.out).2.2 a3_1 p204 q204; cases e204; replace p204 := eq_true p204; replace q204 := eq_true q204) | ((with_reducible refine gate_dst (N := 28) rfl ?_); refine Kd.R_lit (Kd.int .i8) _ 22 ?hg (N := 28) ?hd (xs := ([(-1), (-1), 0, 1, 1, 1, 0, (-1)] : List Int)) (inner := [.int .i8 (-1), .int .i8 (-1), .int .i8 0, .int .i8 1, .int .i8 1, .int .i8 1, .int .i8 0, .int .i8 (-1)]) (ok := fun _ => True) (okp := fun _ => True) ?hr ?hp (fun _ hk => hk) trivial (Below.refl _ _) (Nat.le_refl _) (by simp) ?_; (case hd => rfl); (case hg => rfl); (case hr => first | (go_simp; done) | (go_simp; rfl)); (case hp => exact (Reps.one (show Kd.M (Kd.int .i8) _ _ _ (-1) [.int .i8 (-1)] from rfl) (Reps.one (show Kd.M (Kd.int .i8) _ _ _ (-1) [.int .i8 (-1)] from rfl) (Reps.one (show Kd.M (Kd.int .i8) _ _ _ 0 [.int .i8 0] from rfl) (Reps.one (show Kd.M (Kd.int .i8) _ _ _ 1 [.int .i8 1] from rfl) (Reps.one (show Kd.M (Kd.int .i8) _ _ _ 1 [.int .i8 1] from rfl) (Reps.one (show Kd.M (Kd.int .i8) _ _ _ 1 [.int .i8 1] from rfl) (Reps.one (show Kd.M (Kd.int .i8) _ _ _ 0 [.int .i8 0] from rfl) (Reps.one (show Kd.M (Kd.int .i8) _ _ _ (-1) [.int .i8 (-1)] from rfl) (Reps.none _ _)))))))))); intro v206 w79 ho80 hb hg_ hnew_; clear hg_ hnew_; (first | rw [← Ny205.out] at ho80 | (simp only [Int.reduceToNat] at ho80; rw [← Ny205.out] at ho80)); have n0_ := Aside0.mk (Kd.R_elder' (by (with_reducible repeat (first | apply Kd.R_alloc | apply Kd.R_drewN | apply Kd.R_drew)); exact HO203.out) (Kd.R_base ho80) hb); have n1_ := Aside0.mk (Kd.R_lower (Kd.R_new' ho80 (Kd.R_lt (by (with_reducible repeat (first | apply Kd.R_alloc | apply Kd.R_drewN | apply Kd.R_drew)); exact HO203.out))) (below_size (by repeat (first | (with_reducible first | exact HB.out | apply below_alloc | apply pw_below_drewN | apply below_drew1 | refine below_set ?_ GE195.out | refine below_set ?_ GE196.out | refine below_set ?_ GE197.out | refine below_set ?_ GE198.out | refine below_set ?_ GE199.out) | exact HB.out)))); have n2_ := Aside0.mk (sqB BK195.out hb); have n3_ := Aside0.mk (sqB BK196.out hb); have n4_ := Aside0.mk (sqB BK197.out hb); have n5_ := Aside0.mk (sqB BK198.out hb); have n6_ := Aside0.mk (sqB BK199.out hb); have n7_ := Aside0.mk (sqH HB.out hb); clear HO203; clear BK195; clear BK196; clear BK197; clear BK198; clear BK199; clear HB; have HO203 := n0_; have HO207 := n1_; have BK195 := n2_; have BK196 := n3_; have BK197 := n4_; have BK198 := n5_; have BK199 := n6_; have HB := n7_; clear n0_ n1_ n2_ n3_ n4_ n5_ n6_ n7_; clear hb ho80; have hcz81_0 : w79.cell? ⟨gb198, 0, none⟩ = some (.int .i8 a3_0) := (blk_cell BK198.out 0).trans rfl; have hcz81_1 : w79.cell? ⟨gb198, 1, none⟩ = some (.int .i8 a3_1) := (blk_cell BK198.out 1).trans rfl; have hfz81_0 := blk_frozen BK198.out 0; have hfz81_1 := blk_frozen BK198.out 1; obtain ⟨Ao82, co82, eo82⟩ := Kd.R_slice HO207.out; subst eo82; have p208 : 0 ≤ (a3_1 : Int) := of_decide_eq_true (by first | (with_reducible assumption) | assumption); have q208 : a3_1 < (y205.length : Int) := of_decide_eq_true (by first | (with_reducible assumption) | assumption); obtain ⟨ad208, e208, hx208_0⟩ := Kd.at_int (Kd.R_reads' HO207.out).2.2 a3_1 p208 q208; cases e208; replace p208 := eq_true p208; replace q208 := eq_true q208; have hnb83 := NB197_195.out; have hnc83 := NB195_197.out; have hnb84 := NB197_196.out; have hnc84 := NB196_197.out; have hnb85 := NB197_199.out; have hnc85 := NB199_197.out; obtain ⟨hcz86_0, hcz86_1, hcz86_2, hcz86_3, hcz86_4, hcz86_5⟩ := sqC BK197.out; have hfz86_0 := blk_frozen BK197.out 0; have hfz86_1 := blk_frozen BK197.out 1; have hfz86_2 := blk_frozen BK197.out 2; have hfz86_3 := blk_frozen BK197.out 3; have hfz86_4 := blk_frozen BK197.out 4; have hfz86_5 := blk_frozen BK197.out 5) | ((with_reducible refine gate_dst (N := 13) rfl ?_); refine box_event ?hg (N := 13) ?hd (cs := #[.int .i8 0, .int .i8 0]) (t := 42) ?hr ?_; (case hd => rfl); (case hg => rfl); (case hr => first | (go_simp; done) | (go_simp; rfl)); intro gb209 hg w87 hbox hb; have n0_ := Aside0.mk (Kd.R_below (by (with_reducible repeat (first | apply Kd.R_alloc | apply Kd.R_drewN | apply Kd.R_drew)); exact HO203.out) hb); have n1_ := Aside0.mk (Kd.R_below (by (with_reducible repeat (first | apply Kd.R_alloc | apply Kd.R_drewN | apply Kd.R_drew)); exact HO207.out) hb); have n2_ := Aside0.mk (sqB BK195.out hb); have n3_ := Aside0.mk (sqB BK196.out hb); have n4_ := Aside0.mk (sqB BK197.out hb); have n5_ := Aside0.mk (sqB BK198.out hb); have n6_ := Aside0.mk (sqB BK199.out hb); have n7_ := Aside0.mk (sqH HB.out hb); have n8_ := Aside0.mk (hbox); have n9_ := Aside0.mk ((by rw [hg]; exact (below_size (by repeat (first | (with_reducible first | exact HB.out | apply below_alloc | apply pw_below_drewN | apply below_drew1 | refine below_set ?_ GE195.out | refine below_set ?_ GE196.out | refine below_set ?_ GE197.out | refine below_set ?_ GE198.out | refine below_set ?_ GE199.out) | exact HB.out))) : w.heap.size ≤ gb209)); have n10_ := n9_; have n11_ := Aside0.mk ((by rw [hg]; exact Nat.ne_of_lt (blk_lt (g := gb195) (o := .cells (a0).A 38 (0, 0)) (sqO BK195.out)) : gb195 ≠ gb209)); have n12_ := Aside0.mk (Ne.symm n11_.out); have n13_ := Aside0.mk ((by rw [hg]; exact Nat.ne_of_lt (blk_lt (g := gb196) (o := .cells (a1).A 40 (0, 0)) (sqO BK196.out)) : gb196 ≠ gb209)); have n14_ := Aside0.mk (Ne.symm n13_.out); have n15_ := Aside0.mk ((by rw [hg]; exact Nat.ne_of_lt (blk_lt (g := gb197) (o := .cells #[.int .i8 a2_0, .int .i8 a2_1, .int .i8 a2_2, .int .i8 a2_3, .int .i8 a2_4, .int .i8 a2_5] 44 (0, 0)) (sqO BK197.out)) : gb197 ≠ gb209)); have n16_ := Aside0.mk (Ne.symm n15_.out); have n17_ := Aside0.mk ((by rw [hg]; exact Nat.ne_of_lt (blk_lt (g := gb198) (o := .cells #[.int .i8 a3_0, .int .i8 a3_1] 78 (0, 0)) (sqO BK198.out)) : gb198 ≠ gb209)); have n18_ := Aside0.mk (Ne.symm n17_.out); have n19_ := Aside0.mk ((by rw [hg]; exact Nat.ne_of_lt (blk_lt (g := gb199) (o := .cells #[.int .i8 0, .int .i8 0, .int .i8 0, .int .i8 0, .int .i8 0, .int .i8 0] 44 (0, 0)) (sqO BK199.out)) : gb199 ≠ gb209)); have n20_ := Aside0.mk (Ne.symm n19_.out); clear HO203; clear HO207; clear BK195; clear BK196; clear BK197; clear BK198; clear BK199; clear HB; have HO203 := n0_; have HO207 := n1_; have BK195 := n2_; have BK196 := n3_; have BK197 := n4_; have BK198 := n5_; have BK199 := n6_; have HB := n7_; have BK209 := n8_; have GW209 := n9_; have GE209 := n10_; have NB195_209 := n11_; have NB209_195 := n12_; have NB196_209 := n13_; have NB209_196 := n14_; have NB197_209 := n15_; have NB209_197 := n16_; have NB198_209 := n17_; have NB209_198 := n18_; have NB199_209 := n19_; have NB209_199 := n20_; clear n0_ n1_ n2_ n3_ n4_ n5_ n6_ n7_ n8_ n9_ n10_ n11_ n12_ n13_ n14_ n15_ n16_ n17_ n18_ n19_ n20_; clear hb hbox hg; have hnb88 := NB209_195.out; have hnc88 := NB195_209.out; have hnb89 := NB209_196.out; have hnc89 := NB196_209.out; have hnb90 := NB209_197.out; have hnc90 := NB197_209.out; have hnb91 := NB209_198.out; have hnc91 := NB198_209.out; have hnb92 := NB209_199.out; have hnc92 := NB199_209.out; have hcz93_0 : w87.cell? ⟨gb209, 0, none⟩ = some (.int .i8 0) := (blk_cell BK209.out 0).trans rfl; have hcz93_1 : w87.cell? ⟨gb209, 1, none⟩ = some (.int .i8 0) := (blk_cell BK209.out 1).trans rfl; have hfz93_0 := blk_frozen BK209.out 0; have hfz93_1 := blk_frozen BK209.out 1) | ((with_reducible refine gate_dst (N := 44) rfl ?_); (with_reducible refine AR.gate_load (t := 38) rfl ?_); (try refine gate_guard (by rfl) ?_); refine AR.wpList_load_blk rfl 38 _ rfl gb195 rfl (a0).A _ (by (with_reducible repeat (first | refine blk_drewN ?_ _ | refine blk_drew ?_ | refine blk_alloc ?_ _)); refine blk_far ?_ NB195_209.out _; (with_reducible repeat (first | refine blk_drewN ?_ _ | refine blk_drew ?_ | refine blk_alloc ?_ _)); refine blk_far ?_ NB195_209.out _; (with_reducible repeat (first | refine blk_drewN ?_ _ | refine blk_drew ?_ | refine blk_alloc ?_ _)); exact BK195.out) Try.underlying38 rfl (szO38 _) ?_) | ((with_reducible refine gate_callee (f := 75) rfl ?_); refine goesL_ (some 46) rfl rfl Try.func75 (by kernel_rfl) rfl #[VO38 a0, .agg #[.int .i8 (IntKind.i8.wrap (a2_0 + (rd y201 a3_1))), .int .i8 (IntKind.i8.wrap (a2_1 + (rd y205 a3_1)))]] rfl (by (try simp only [List.map_toArray, List.map_cons, List.map_nil]); first | done | rfl | (simp only [List.length_drop, List.length_take]; rfl)) ?_; (with_reducible refine (impl_isWater.calls a0 (IntKind.i8.wrap (a2_0 + (rd y201 a3_1))) (IntKind.i8.wrap (a2_1 + (rd y205 a3_1))) false _ A26.out).mono ?_); rintro e w94 ⟨rfl, hb⟩; refine ⟨_, rfl, ?_⟩; have n0_ := Aside0.mk (Kd.R_below (by (with_reducible repeat (first | apply Kd.R_alloc | apply Kd.R_drewN | apply Kd.R_drew)); exact (Kd.R_mono (Kd.R_far (p := ⟨gb209, 1, none⟩) (Kd.R_far (p := ⟨gb209, 0, none⟩) (Kd.R_types HO203.out BK209.out (by decide)) (fun _ hk => hk.2) (.int .i8 (IntKind.i8.wrap (a2_0 + (rd y201 a3_1))))) (fun _ hk => hk.2) (.int .i8 (IntKind.i8.wrap (a2_1 + (rd y205 a3_1))))) (fun _ h_ => h_.1))) hb); have n1_ := Aside0.mk (Kd.R_below (by (with_reducible repeat (first | apply Kd.R_alloc | apply Kd.R_drewN | apply Kd.R_drew)); exact (Kd.R_mono (Kd.R_far (p := ⟨gb209, 1, none⟩) (Kd.R_far (p := ⟨gb209, 0, none⟩) (Kd.R_types HO207.out BK209.out (by decide)) (fun _ hk => hk.2) (.int .i8 (IntKind.i8.wrap (a2_0 + (rd y201 a3_1))))) (fun _ hk => hk.2) (.int .i8 (IntKind.i8.wrap (a2_1 + (rd y205 a3_1))))) (fun _ h_ => h_.1))) hb); have n2_ := Aside0.mk (blk_below (g := gb195) (o := .cells (a0).A 38 (0, 0)) (by (with_reducible repeat (first | refine blk_drewN ?_ _ | refine blk_drew ?_ | refine blk_alloc ?_ _)); refine blk_far ?_ NB195_209.out _; (with_reducible repeat (first | refine blk_drewN ?_ _ | refine blk_drew ?_ | refine blk_alloc ?_ _)); refine blk_far ?_ NB195_209.out _; (with_reducible repeat (first | refine blk_drewN ?_ _ | refine blk_drew ?_ | refine blk_alloc ?_ _)); exact BK195.out) hb); have n3_ := Aside0.mk (blk_below (g := gb196) (o := .cells (a1).A 40 (0, 0)) (by (with_reducible repeat (first | refine blk_drewN ?_ _ | refine blk_drew ?_ | refine blk_alloc ?_ _)); refine blk_far ?_ NB196_209.out _; (with_reducible repeat (first | refine blk_drewN ?_ _ | refine blk_drew ?_ | refine blk_alloc ?_ _)); refine blk_far ?_ NB196_209.out _; (with_reducible repeat (first | refine blk_drewN ?_ _ | refine blk_drew ?_ | refine blk_alloc ?_ _)); exact BK196.out) hb); have n4_ := Aside0.mk (blk_below (g := gb197) (o := .cells #[.int .i8 a2_0, .int .i8 a2_1, .int .i8 a2_2, .int .i8 a2_3, .int .i8 a2_4, .int .i8 a2_5] 44 (0, 0)) (by (with_reducible repeat (first | refine blk_drewN ?_ _ | refine blk_drew ?_ | refine blk_alloc ?_ _)); refine blk_far ?_ NB197_209.out _; (with_reducible repeat (first | refine blk_drewN ?_ _ | refine blk_drew ?_ | refine blk_alloc ?_ _)); refine blk_far ?_ NB197_209.out _; (with_reducible repeat (first | refine blk_drewN ?_ _ | refine blk_drew ?_ | refine blk_alloc ?_ _)); exact BK197.out) hb); have n5_ := Aside0.mk (blk_below (g := gb198) (o := .cells #[.int .i8 a3_0, .int .i8 a3_1] 78 (0, 0)) (by (with_reducible repeat (first | refine blk_drewN ?_ _ | refine blk_drew ?_ | refine blk_alloc ?_ _)); refine blk_far ?_ NB198_209.out _; (with_reducible repeat (first | refine blk_drewN ?_ _ | refine blk_drew ?_ | refine blk_alloc ?_ _)); refine blk_far ?_ NB198_209.out _; (with_reducible repeat (first | refine blk_drewN ?_ _ | refine blk_drew ?_ | refine blk_alloc ?_ _)); exact BK198.out) hb); have n6_ := Aside0.mk (blk_below (g := gb199) (o := .cells #[.int .i8 0, .int .i8 0, .int .i8 0, .int .i8 0, .int .i8 0, .int .i8 0] 44 (0, 0)) (by (with_reducible repeat (first | refine blk_drewN ?_ _ | refine blk_drew ?_ | refine blk_alloc ?_ _)); refine blk_far ?_ NB199_209.out _; (with_reducible repeat (first | refine blk_drewN ?_ _ | refine blk_drew ?_ | refine blk_alloc ?_ _)); refine blk_far ?_ NB199_209.out _; (with_reducible repeat (first | refine blk_drewN ?_ _ | refine blk_drew ?_ | refine blk_alloc ?_ _)); exact BK199.out) hb); have n7_ := Aside0.mk (blk_below (g := gb209) (o := .cells #[.int .i8 (IntKind.i8.wrap (a2_0 + (rd y201 a3_1))), .int .i8 (IntKind.i8.wrap (a2_1 + (rd y205 a3_1)))] 42 (0, 0)) (by (with_reducible repeat (first | refine blk_drewN ?_ _ | refine blk_drew ?_ | refine blk_alloc ?_ _)); refine blk_put (cs := #[.int .i8 (IntKind.i8.wrap (a2_0 + (rd y201 a3_1))), .int .i8 0]) ?_ 1 _ rfl; (with_reducible repeat (first | refine blk_drewN ?_ _ | refine blk_drew ?_ | refine blk_alloc ?_ _)); refine blk_put (cs := #[.int .i8 0, .int .i8 0]) ?_ 0 _ rfl; (with_reducible repeat (first | refine blk_drewN ?_ _ | refine blk_drew ?_ | refine blk_alloc ?_ _)); exact BK209.out) hb); have n8_ := Aside0.mk (sqH HB.out hb); clear HO203; clear HO207; clear BK195; clear BK196; clear BK197; clear BK198; clear BK199; clear BK209; clear HB; have HO203 := n0_; have HO207 := n1_; have BK195 := n2_; have BK196 := n3_; have BK197 := n4_; have BK198 := n5_; have BK199 := n6_; have BK209 := n7_; have HB := n8_; clear n0_ n1_ n2_ n3_ n4_ n5_ n6_ n7_ n8_; (try clear hb); (try clear hb2); (try clear hk); (try clear hi); obtain ⟨hcz95_0, hcz95_1, hcz95_2, hcz95_3, hcz95_4, hcz95_5⟩ := sqC BK197.out; have hfz95_0 := blk_frozen BK197.out 0; have hfz95_1 := blk_frozen BK197.out 1; have hfz95_2 := blk_frozen BK197.out 2; have hfz95_3 := blk_frozen BK197.out 3; have hfz95_4 := blk_frozen BK197.out 4; have hfz95_5 := blk_frozen BK197.out 5; have hnb96 := NB199_195.out; have hnc96 := NB195_199.out; have hnb97 := NB199_196.out; have hnc97 := NB196_199.out; obtain ⟨hcz98_0, hcz98_1, hcz98_2, hcz98_3, hcz98_4, hcz98_5⟩ := sqC BK199.out; have hfz98_0 := blk_frozen BK199.out 0; have hfz98_1 := blk_frozen BK199.out 1; have hfz98_2 := blk_frozen BK199.out 2; have hfz98_3 := blk_frozen BK199.out 3; have hfz98_4 := blk_frozen BK199.out 4; have hfz98_5 := blk_frozen BK199.out 5))
            refine bodyPost_ret (results_ctt rfl _ _ gb199 44 #[.int .i8 a2_0, .int .i8 a2_1, .int .i8 a2_2, .int .i8 a2_3, .int .i8 a2_4, .int .i8 a2_5] (0, 0) _ rfl (by (with_reducible repeat (first | refine blk_drewN ?_ _ | refine blk_drew ?_ | refine blk_alloc ?_ _)); refine blk_put (cs := #[.int .i8 a2_0, .int .i8 a2_1, .int .i8 a2_2, .int .i8 a2_3, .int .i8 a2_4, .int .i8 0]) ?_ 5 _ rfl; (with_reducible repeat (first | refine blk_drewN ?_ _ | refine blk_drew ?_ | refine blk_alloc ?_ _)); refine blk_put (cs := #[.int .i8 a2_0, .int .i8 a2_1, .int .i8 a2_2, .int .i8 a2_3, .int .i8 0, .int .i8 0]) ?_ 4 _ rfl; (with_reducible repeat (first | refine blk_drewN ?_ _ | refine blk_drew ?_ | refine blk_alloc ?_ _)); refine blk_put (cs := #[.int .i8 a2_0, .int .i8 a2_1, .int .i8 a2_2, .int .i8 0, .int .i8 0, .int .i8 0]) ?_ 3 _ rfl; (with_reducible repeat (first | refine blk_drewN ?_ _ | refine blk_drew ?_ | refine blk_alloc ?_ _)); refine blk_put (cs := #[.int .i8 a2_0, .int .i8 a2_1, .int .i8 0, .int .i8 0, .int .i8 0, .int .i8 0]) ?_ 2 _ rfl; (with_reducible repeat (first | refine blk_drewN ?_ _ | refine blk_drew ?_ | refine blk_alloc ?_ _)); refine blk_put (cs := #[.int .i8 a2_0, .int .i8 0, .int .i8 0, .int .i8 0, .int .i8 0, .int .i8 0]) ?_ 1 _ rfl; (with_reducible repeat (first | refine blk_drewN ?_ _ | refine blk_drew ?_ | refine blk_alloc ?_ _)); refine blk_put (cs := #[.int .i8 0, .int .i8 0, .int .i8 0, .int .i8 0, .int .i8 0, .int .i8 0]) ?_ 0 _ rfl; (with_reducible repeat (first | refine blk_drewN ?_ _ | refine blk_drew ?_ | refine blk_alloc ?_ _)); exact BK199.out) Try.underlying44 rfl (by kernel_rfl)) rfl ?_
            exact ⟨by first | rfl | (simp [errW_none, errW_some] <;> rfl) | (simp [*, errW_none, errW_some] <;> rfl), by repeat (first | (with_reducible first | exact HB.out | apply below_alloc | apply pw_below_drewN | apply below_drew1 | refine below_set ?_ GE195.out | refine below_set ?_ GE196.out | refine below_set ?_ GE197.out | refine below_set ?_ GE198.out | refine below_set ?_ GE199.out | refine below_set ?_ GE209.out) | exact HB.out)⟩
        · rw [if_neg c25] at H
          exact absurd H (by simp)
      · rw [if_neg c24] at H
        exact absurd H (by simp)
    · rw [if_neg c23] at H
      exact absurd H (by simp)
end Go.Proofs.Ytmhmfhdmeedcfaa.G
end
section
namespace Go.Proofs.Ytmhmfhdmeedcfaa.G
open Go.RowKit Go.Proofs.YtmhmfhdmeedcfaaW.PrintWords Go.Proofs.YtmhmfhdmeedcfaaW.PrintLast Go.Proofs.YtmhmfhdmeedcfaaW.PrintMore
attribute [local go_sem] max2_int min2_int max_two min_two max_three min_three max_four min_four   -- for this text's walks alone
set_option linter.unusedVariables false
set_option linter.unusedSimpArgs false
def IsS89 (w0 W : World) (g : Nat) (f0 : Int) (f1 : Int) (f2 : Int) (f3 : Int) (f4 : Int) (f5 : Int) (f6 : Bool) : Prop := W.heap[g]? = some (.cells #[.int .i8 f0, .int .i8 f1, .int .i8 f2, .int .i8 f3, .int .i8 f4, .int .i8 f5, .bool f6] 89 (0, 0)) ∧ w0.heap.size ≤ g
theorem IsS89.grown {w0 W : World} {g : Nat} {f0 : Int} {f1 : Int} {f2 : Int} {f3 : Int} {f4 : Int} {f5 : Int} {f6 : Bool} {W1 : World} {row : Option Nat} (h : IsS89 w0 W g f0 f1 f2 f3 f4 f5 f6) (hw : W.grownBy W1 row) (hne : some g ≠ row) : IsS89 w0 W1 g f0 f1 f2 f3 f4 f5 f6 := by
  obtain ⟨hb, hg⟩ := h
  exact ⟨blk_grown hb hw hne, hg⟩
theorem IsS89.kept {w0 W : World} {g : Nat} {f0 : Int} {f1 : Int} {f2 : Int} {f3 : Int} {f4 : Int} {f5 : Int} {f6 : Bool} {W1 : World} {S : Nat → Prop} (h : IsS89 w0 W g f0 f1 f2 f3 f4 f5 f6) (hk : Kept W W1 S) (hne : ¬ S g) : IsS89 w0 W1 g f0 f1 f2 f3 f4 f5 f6 := by
  obtain ⟨hb, hg⟩ := h
  exact ⟨blk_kept hb hk hne, hg⟩
theorem IsS89.below {w0 W : World} {g : Nat} {f0 : Int} {f1 : Int} {f2 : Int} {f3 : Int} {f4 : Int} {f5 : Int} {f6 : Bool} {W1 : World} (h : IsS89 w0 W g f0 f1 f2 f3 f4 f5 f6) (hw : Below W.heap.size W W1) : IsS89 w0 W1 g f0 f1 f2 f3 f4 f5 f6 := h.grown (grown_of_below hw none) (by simp)
theorem IsS89.alloc {w0 W : World} {g : Nat} {f0 : Int} {f1 : Int} {f2 : Int} {f3 : Int} {f4 : Int} {f5 : Int} {f6 : Bool} (h : IsS89 w0 W g f0 f1 f2 f3 f4 f5 f6) (o : Obj) : IsS89 w0 (W.alloc o) g f0 f1 f2 f3 f4 f5 f6 := h.below (below_alloc (Below.refl _ _) o)
theorem IsS89.drewN {w0 W : World} {g : Nat} {f0 : Int} {f1 : Int} {f2 : Int} {f3 : Int} {f4 : Int} {f5 : Int} {f6 : Bool} (h : IsS89 w0 W g f0 f1 f2 f3 f4 f5 f6) (m : Nat) : IsS89 w0 (W.drewN m) g f0 f1 f2 f3 f4 f5 f6 := h
theorem IsS89.drew {w0 W : World} {g : Nat} {f0 : Int} {f1 : Int} {f2 : Int} {f3 : Int} {f4 : Int} {f5 : Int} {f6 : Bool} (h : IsS89 w0 W g f0 f1 f2 f3 f4 f5 f6) : IsS89 w0 W.drew g f0 f1 f2 f3 f4 f5 f6 := h
theorem IsS89.at_ {w0 W : World} {g : Nat} {f0 : Int} {f1 : Int} {f2 : Int} {f3 : Int} {f4 : Int} {f5 : Int} {f6 : Bool} {w' : World} {m : Nat} (hq : W.drewN m = w') (h : IsS89 w0 W g f0 f1 f2 f3 f4 f5 f6) : IsS89 w0 w' g f0 f1 f2 f3 f4 f5 f6 := by subst hq; exact IsS89.drewN h m
theorem IsS89.apart {w0 W : World} {g : Nat} {f0 : Int} {f1 : Int} {f2 : Int} {f3 : Int} {f4 : Int} {f5 : Int} {f6 : Bool} {α : Type} {d : Kd α} {e : Nat} {base : Nat} {ok : Nat → Prop} {v : Value} {xs : List α} (h : IsS89 w0 W g f0 f1 f2 f3 f4 f5 f6) (ho : d.R e W base ok v xs) (ht : ∀ q, q ∈ e :: d.E → q ≠ 89) : d.R e W base (fun k => ok k ∧ k ≠ g) v xs := by
  obtain ⟨hb, hg⟩ := h
  exact Kd.R_types ho hb ht
theorem IsS89.own_ne {w0 W : World} {g : Nat} {f0 : Int} {f1 : Int} {f2 : Int} {f3 : Int} {f4 : Int} {f5 : Int} {f6 : Bool} {α : Type} {d : Kd α} {e : Nat} {base : Nat} {ok : Nat → Prop} {v : Value} {xs : List α} (h : IsS89 w0 W g f0 f1 f2 f3 f4 f5 f6) (ho : d.R e W base ok v xs) (ht : e ≠ 89) : some g ≠ v.ownBlock := by
  obtain ⟨hb, hg⟩ := h
  exact Kd.R_ne ho hb ht
theorem IsS89.lt {w0 W : World} {g : Nat} {f0 : Int} {f1 : Int} {f2 : Int} {f3 : Int} {f4 : Int} {f5 : Int} {f6 : Bool} (h : IsS89 w0 W g f0 f1 f2 f3 f4 f5 f6) : g < W.heap.size := by
  obtain ⟨hb, hg⟩ := h
  exact blk_lt hb
theorem IsS89.ge {w0 W : World} {g : Nat} {f0 : Int} {f1 : Int} {f2 : Int} {f3 : Int} {f4 : Int} {f5 : Int} {f6 : Bool} (h : IsS89 w0 W g f0 f1 f2 f3 f4 f5 f6) : w0.heap.size ≤ g := by
  obtain ⟨hb, hg⟩ := h
  exact hg
theorem IsS89.ne_blk {w0 W : World} {g : Nat} {f0 : Int} {f1 : Int} {f2 : Int} {f3 : Int} {f4 : Int} {f5 : Int} {f6 : Bool} {a : Nat} {cs : Array Value} {t : TypeId} {fr : Nat × Nat} (h : IsS89 w0 W g f0 f1 f2 f3 f4 f5 f6) (hb2 : W.heap[a]? = some (.cells cs t fr)) (ht : t ≠ 89) : g ≠ a := by
  obtain ⟨hb, hg⟩ := h
  rintro rfl
  rw [hb] at hb2
  injection hb2 with hb2
  injection hb2 with _ ht2
  exact ht ht2.symm
theorem IsS89.far {w0 W : World} {g : Nat} {f0 : Int} {f1 : Int} {f2 : Int} {f3 : Int} {f4 : Int} {f5 : Int} {f6 : Bool} {p : Addr} (h : IsS89 w0 W g f0 f1 f2 f3 f4 f5 f6) (hne : g ≠ p.block) (u : Value) : IsS89 w0 (W.setCell p u) g f0 f1 f2 f3 f4 f5 f6 := by
  obtain ⟨hb, hg⟩ := h
  exact ⟨blk_far hb hne u, hg⟩
theorem cellS89_0 {W : World} {g : Nat} {f0 : Int} {f1 : Int} {f2 : Int} {f3 : Int} {f4 : Int} {f5 : Int} {f6 : Bool} (h : W.heap[g]? = some (.cells #[.int .i8 f0, .int .i8 f1, .int .i8 f2, .int .i8 f3, .int .i8 f4, .int .i8 f5, .bool f6] 89 (0, 0))) : W.cell? ⟨g, 0, none⟩ = some (.int .i8 f0) := (blk_cell h 0).trans rfl
theorem IsS89.set_0 {w0 W : World} {g : Nat} {f0 : Int} {f1 : Int} {f2 : Int} {f3 : Int} {f4 : Int} {f5 : Int} {f6 : Bool} (h : IsS89 w0 W g f0 f1 f2 f3 f4 f5 f6) (x : Int) : IsS89 w0 (W.setCell ⟨g, 0, none⟩ (.int .i8 x)) g x f1 f2 f3 f4 f5 f6 := by
  obtain ⟨hb, hg⟩ := h
  exact ⟨by simpa using blk_set hb 0 (.int .i8 x), hg⟩
theorem cellS89_1 {W : World} {g : Nat} {f0 : Int} {f1 : Int} {f2 : Int} {f3 : Int} {f4 : Int} {f5 : Int} {f6 : Bool} (h : W.heap[g]? = some (.cells #[.int .i8 f0, .int .i8 f1, .int .i8 f2, .int .i8 f3, .int .i8 f4, .int .i8 f5, .bool f6] 89 (0, 0))) : W.cell? ⟨g, 1, none⟩ = some (.int .i8 f1) := (blk_cell h 1).trans rfl
theorem IsS89.set_1 {w0 W : World} {g : Nat} {f0 : Int} {f1 : Int} {f2 : Int} {f3 : Int} {f4 : Int} {f5 : Int} {f6 : Bool} (h : IsS89 w0 W g f0 f1 f2 f3 f4 f5 f6) (x : Int) : IsS89 w0 (W.setCell ⟨g, 1, none⟩ (.int .i8 x)) g f0 x f2 f3 f4 f5 f6 := by
  obtain ⟨hb, hg⟩ := h
  exact ⟨by simpa using blk_set hb 1 (.int .i8 x), hg⟩
theorem cellS89_2 {W : World} {g : Nat} {f0 : Int} {f1 : Int} {f2 : Int} {f3 : Int} {f4 : Int} {f5 : Int} {f6 : Bool} (h : W.heap[g]? = some (.cells #[.int .i8 f0, .int .i8 f1, .int .i8 f2, .int .i8 f3, .int .i8 f4, .int .i8 f5, .bool f6] 89 (0, 0))) : W.cell? ⟨g, 2, none⟩ = some (.int .i8 f2) := (blk_cell h 2).trans rfl
theorem IsS89.set_2 {w0 W : World} {g : Nat} {f0 : Int} {f1 : Int} {f2 : Int} {f3 : Int} {f4 : Int} {f5 : Int} {f6 : Bool} (h : IsS89 w0 W g f0 f1 f2 f3 f4 f5 f6) (x : Int) : IsS89 w0 (W.setCell ⟨g, 2, none⟩ (.int .i8 x)) g f0 f1 x f3 f4 f5 f6 := by
  obtain ⟨hb, hg⟩ := h
  exact ⟨by simpa using blk_set hb 2 (.int .i8 x), hg⟩
theorem cellS89_3 {W : World} {g : Nat} {f0 : Int} {f1 : Int} {f2 : Int} {f3 : Int} {f4 : Int} {f5 : Int} {f6 : Bool} (h : W.heap[g]? = some (.cells #[.int .i8 f0, .int .i8 f1, .int .i8 f2, .int .i8 f3, .int .i8 f4, .int .i8 f5, .bool f6] 89 (0, 0))) : W.cell? ⟨g, 3, none⟩ = some (.int .i8 f3) := (blk_cell h 3).trans rfl
theorem IsS89.set_3 {w0 W : World} {g : Nat} {f0 : Int} {f1 : Int} {f2 : Int} {f3 : Int} {f4 : Int} {f5 : Int} {f6 : Bool} (h : IsS89 w0 W g f0 f1 f2 f3 f4 f5 f6) (x : Int) : IsS89 w0 (W.setCell ⟨g, 3, none⟩ (.int .i8 x)) g f0 f1 f2 x f4 f5 f6 := by
  obtain ⟨hb, hg⟩ := h
  exact ⟨by simpa using blk_set hb 3 (.int .i8 x), hg⟩
theorem cellS89_4 {W : World} {g : Nat} {f0 : Int} {f1 : Int} {f2 : Int} {f3 : Int} {f4 : Int} {f5 : Int} {f6 : Bool} (h : W.heap[g]? = some (.cells #[.int .i8 f0, .int .i8 f1, .int .i8 f2, .int .i8 f3, .int .i8 f4, .int .i8 f5, .bool f6] 89 (0, 0))) : W.cell? ⟨g, 4, none⟩ = some (.int .i8 f4) := (blk_cell h 4).trans rfl
theorem IsS89.set_4 {w0 W : World} {g : Nat} {f0 : Int} {f1 : Int} {f2 : Int} {f3 : Int} {f4 : Int} {f5 : Int} {f6 : Bool} (h : IsS89 w0 W g f0 f1 f2 f3 f4 f5 f6) (x : Int) : IsS89 w0 (W.setCell ⟨g, 4, none⟩ (.int .i8 x)) g f0 f1 f2 f3 x f5 f6 := by
  obtain ⟨hb, hg⟩ := h
  exact ⟨by simpa using blk_set hb 4 (.int .i8 x), hg⟩
theorem cellS89_5 {W : World} {g : Nat} {f0 : Int} {f1 : Int} {f2 : Int} {f3 : Int} {f4 : Int} {f5 : Int} {f6 : Bool} (h : W.heap[g]? = some (.cells #[.int .i8 f0, .int .i8 f1, .int .i8 f2, .int .i8 f3, .int .i8 f4, .int .i8 f5, .bool f6] 89 (0, 0))) : W.cell? ⟨g, 5, none⟩ = some (.int .i8 f5) := (blk_cell h 5).trans rfl
theorem IsS89.set_5 {w0 W : World} {g : Nat} {f0 : Int} {f1 : Int} {f2 : Int} {f3 : Int} {f4 : Int} {f5 : Int} {f6 : Bool} (h : IsS89 w0 W g f0 f1 f2 f3 f4 f5 f6) (x : Int) : IsS89 w0 (W.setCell ⟨g, 5, none⟩ (.int .i8 x)) g f0 f1 f2 f3 f4 x f6 := by
  obtain ⟨hb, hg⟩ := h
  exact ⟨by simpa using blk_set hb 5 (.int .i8 x), hg⟩
theorem cellS89_6 {W : World} {g : Nat} {f0 : Int} {f1 : Int} {f2 : Int} {f3 : Int} {f4 : Int} {f5 : Int} {f6 : Bool} (h : W.heap[g]? = some (.cells #[.int .i8 f0, .int .i8 f1, .int .i8 f2, .int .i8 f3, .int .i8 f4, .int .i8 f5, .bool f6] 89 (0, 0))) : W.cell? ⟨g, 6, none⟩ = some (.bool f6) := (blk_cell h 6).trans rfl
theorem IsS89.set_6 {w0 W : World} {g : Nat} {f0 : Int} {f1 : Int} {f2 : Int} {f3 : Int} {f4 : Int} {f5 : Int} {f6 : Bool} (h : IsS89 w0 W g f0 f1 f2 f3 f4 f5 f6) (x : Bool) : IsS89 w0 (W.setCell ⟨g, 6, none⟩ (.bool x)) g f0 f1 f2 f3 f4 f5 x := by
  obtain ⟨hb, hg⟩ := h
  exact ⟨by simpa using blk_set hb 6 (.bool x), hg⟩
def impl_drifting_hour.f (s0_0 : Int) (s0_1 : Int) (s0_2 : Int) (s0_3 : Int) (s0_4 : Int) (s0_5 : Int) (s0_6 : Bool) (a1 : O38) (a2 : O40) (a3_0 : Int) (a3_1 : Int) : Option (Bool × Int × Int × Int × Int × Int × Int × Bool) := if s0_6 = true then (some (false, s0_0, s0_1, s0_2, s0_3, s0_4, s0_5, s0_6)) else ((impl_drift.f a1 a2 s0_0 s0_1 s0_2 s0_3 s0_4 s0_5 a3_0 a3_1).bind fun bt214 => (some (bt214.2.2.2.2.2.2.1, bt214.1, bt214.2.1, bt214.2.2.1, bt214.2.2.2.1, bt214.2.2.2.2.1, bt214.2.2.2.2.2.1, bt214.2.2.2.2.2.2.2)))
def impl_drifting_hour.T3 : Bool × List (List Nat × List Nat) := (true, [([], []), ([], []), ([], []), ([2], [2]), ([3], [3]), ([4], [4]), ([], []), ([0, 1, 5, 6], [0, 1, 5, 6]), ([7], [7]), ([8], [8]), ([8], [8]), ([8], [8]), ([], []), ([12, 9, 7, 0, 1, 2, 3, 4, 5, 6, 7, 8, 9, 12], [9, 12]), ([10, 13, 0, 1, 2, 3, 4, 5, 6, 7, 8, 9, 10, 12, 13], [10]), ([11, 14, 0, 1, 2, 3, 4, 5, 6, 7, 8, 9, 10, 11, 12, 13, 14], [11])])
def impl_drifting_hour.B3 : List Nat := [0, 0, 0, 4, 12, 28, 0, 127, 255, 511, 511, 511, 0, 5119, 14335, 32767]
theorem impl_drifting_hour.tab3 : rtab .any (opsOf Try.f58 3) = impl_drifting_hour.T3 := by kernel_rfl
theorem impl_drifting_hour.bits3 : waitsOk impl_drifting_hour.T3.2 impl_drifting_hour.B3 = true := by kernel_rfl
set_option maxHeartbeats 8000000 in
set_option maxRecDepth 100000 in
theorem impl_drifting_hour.calls (g : Nat) (s0_0 : Int) (s0_1 : Int) (s0_2 : Int) (s0_3 : Int) (s0_4 : Int) (s0_5 : Int) (s0_6 : Bool) (a1 : O38) (a2 : O40) (a3_0 : Int) (a3_1 : Int) (r1 : Bool) (r2 : Int) (r3 : Int) (r4 : Int) (r5 : Int) (r6 : Int) (r7 : Int) (r8 : Bool) (w0 w : World) (hI : IsS89 w0 w g s0_0 s0_1 s0_2 s0_3 s0_4 s0_5 s0_6) (hB : Below w0.heap.size w0 w) (h : impl_drifting_hour.f s0_0 s0_1 s0_2 s0_3 s0_4 s0_5 s0_6 a1 a2 a3_0 a3_1 = some (r1, r2, r3, r4, r5, r6, r7, r8)) :
    Calls Try.prog 58 #[.pointer (some ⟨g, 0, none⟩), VO38 a1, VO40 a2, .agg #[.int .i8 a3_0, .int .i8 a3_1]] w fun e w' => e = .returned (.bool r1) ∧ IsS89 w0 w' g r2 r3 r4 r5 r6 r7 r8 ∧ Below w0.heap.size w0 w' ∧ KeepBut w w' g none := by
  have hu78 := Try.underlying78
  have hu44 := Try.underlying44
  have HI0 := Aside0.mk hI
  have HK := Aside0.mk (KeepBut.refl w g none)
  have HL := Aside0.mk hB.size
  clear hI
  have HW0 := Aside0.mk hB.size
  have HB := Aside0.mk hB
  clear hB
  have H : (if s0_6 = true then (some (false, s0_0, s0_1, s0_2, s0_3, s0_4, s0_5, s0_6)) else ((impl_drift.f a1 a2 s0_0 s0_1 s0_2 s0_3 s0_4 s0_5 a3_0 a3_1).bind fun bt214 => (some (bt214.2.2.2.2.2.2.1, bt214.1, bt214.2.1, bt214.2.2.1, bt214.2.2.2.1, bt214.2.2.2.2.1, bt214.2.2.2.2.2.1, bt214.2.2.2.2.2.2.2)))) = some (r1, r2, r3, r4, r5, r6, r7, r8) := h
  clear h
  by_cases c5 : s0_6 = true
  · subst c5
    have H1 : (some (false, s0_0, s0_1, s0_2, s0_3, s0_4, s0_5, true)) = some (r1, r2, r3, r4, r5, r6, r7, r8) := by rw [if_pos rfl] at H; exact H
    clear H
    have H := H1
    clear H1
    simp only [Option.some.injEq, Prod.mk.injEq] at H
    obtain ⟨rfl, rfl, rfl, rfl, rfl, rfl, rfl, rfl⟩ := H
    go_enter Try.func58, Try.ntmps58
    go_wp2_with (first | ((with_reducible refine gate_dst (N := 5) rfl ?_); refine box_event ?hg (N := 5) ?hd (cs := (a1).A) (t := 38) ?hr ?_; (case hd => rfl); (case hg => rfl); (case hr => first | exact AR.run_box_row rfl rfl | (go_simp; done) | (go_simp; rfl)); intro gb211 hg w6 hbox hb; have n0_ := Aside0.mk (IsS89.below (by repeat (first | (with_reducible first | exact HI0.out | apply IsS89.alloc | apply IsS89.drewN | apply IsS89.drew | apply IsS89.set_0 | apply IsS89.set_1 | apply IsS89.set_2 | apply IsS89.set_3 | apply IsS89.set_4 | apply IsS89.set_5 | apply IsS89.set_6) | exact HI0.out)) hb); have n1_ := Aside0.mk (KeepBut.trans (by repeat (first | (with_reducible first | exact HK.out | apply KeepBut.set_ | apply keep_drewN | apply keep_drew | apply keep_alloc) | exact HK.out)) (KeepBut.of_below hb g none) (.inl rfl)); have n2_ := Aside0.mk (below_step (by repeat (first | (with_reducible first | exact HB.out | apply below_alloc | apply pw_below_drewN | apply below_drew1 | refine below_set ?_ (IsS89.ge HI0.out)) | exact HB.out)) hb); have n3_ := Aside0.mk (hbox); have n4_ := Aside0.mk ((by rw [hg]; exact (keep_size (w := w) (g := g) (row := none) (by repeat (first | (with_reducible first | exact HK.out | apply KeepBut.set_ | apply keep_drewN | apply keep_drew | apply keep_alloc) | exact HK.out))) : w.heap.size ≤ gb211)); have n5_ := Aside0.mk ((Nat.le_trans HW0.out (by rw [hg]; exact (keep_size (w := w) (g := g) (row := none) (by repeat (first | (with_reducible first | exact HK.out | apply KeepBut.set_ | apply keep_drewN | apply keep_drew | apply keep_alloc) | exact HK.out))) : w.heap.size ≤ gb211) : w0.heap.size ≤ gb211)); have n6_ := Aside0.mk ((by rw [hg]; exact Nat.ne_of_lt (IsS89.lt (show IsS89 w0 _ g s0_0 s0_1 s0_2 s0_3 s0_4 s0_5 true from by repeat (first | (with_reducible first | exact HI0.out | apply IsS89.alloc | apply IsS89.drewN | apply IsS89.drew | apply IsS89.set_0 | apply IsS89.set_1 | apply IsS89.set_2 | apply IsS89.set_3 | apply IsS89.set_4 | apply IsS89.set_5 | apply IsS89.set_6) | exact HI0.out))) : g ≠ gb211)); have n7_ := Aside0.mk ((by rw [hg]; exact Nat.ne_of_gt (IsS89.lt (show IsS89 w0 _ g s0_0 s0_1 s0_2 s0_3 s0_4 s0_5 true from by repeat (first | (with_reducible first | exact HI0.out | apply IsS89.alloc | apply IsS89.drewN | apply IsS89.drew | apply IsS89.set_0 | apply IsS89.set_1 | apply IsS89.set_2 | apply IsS89.set_3 | apply IsS89.set_4 | apply IsS89.set_5 | apply IsS89.set_6) | exact HI0.out))) : gb211 ≠ g)); clear HI0; clear HK; clear HB; have HI0 := n0_; have HK := n1_; have HB := n2_; have BK211 := n3_; have GW211 := n4_; have GE211 := n5_; have NB0_211 := n6_; have NB211_0 := n7_; clear n0_ n1_ n2_ n3_ n4_ n5_ n6_ n7_; clear hb hbox hg) | ((with_reducible refine gate_dst (N := 6) rfl ?_); refine box_event ?hg (N := 6) ?hd (cs := (a2).A) (t := 40) ?hr ?_; (case hd => rfl); (case hg => rfl); (case hr => first | exact AR.run_box_row rfl rfl | (go_simp; done) | (go_simp; rfl)); intro gb212 hg w7 hbox hb; have n0_ := Aside0.mk (IsS89.below (by repeat (first | (with_reducible first | exact HI0.out | apply IsS89.alloc | apply IsS89.drewN | apply IsS89.drew | apply IsS89.set_0 | apply IsS89.set_1 | apply IsS89.set_2 | apply IsS89.set_3 | apply IsS89.set_4 | apply IsS89.set_5 | apply IsS89.set_6 | refine IsS89.far ?_ NB0_211.out _) | exact HI0.out)) hb); have n1_ := Aside0.mk (sqB BK211.out hb); have n2_ := Aside0.mk (KeepBut.trans (by repeat (first | (with_reducible first | exact HK.out | apply KeepBut.set_ | apply keep_drewN | apply keep_drew | apply keep_alloc | refine keep_far ?_ GW211.out _) | exact HK.out)) (KeepBut.of_below hb g none) (.inl rfl)); have n3_ := Aside0.mk (below_step (by repeat (first | (with_reducible first | exact HB.out | apply below_alloc | apply pw_below_drewN | apply below_drew1 | refine below_set ?_ (IsS89.ge HI0.out) | refine below_set ?_ GE211.out) | exact HB.out)) hb); have n4_ := Aside0.mk (hbox); have n5_ := Aside0.mk ((by rw [hg]; exact (keep_size (w := w) (g := g) (row := none) (by repeat (first | (with_reducible first | exact HK.out | apply KeepBut.set_ | apply keep_drewN | apply keep_drew | apply keep_alloc | refine keep_far ?_ GW211.out _) | exact HK.out))) : w.heap.size ≤ gb212)); have n6_ := Aside0.mk ((Nat.le_trans HW0.out (by rw [hg]; exact (keep_size (w := w) (g := g) (row := none) (by repeat (first | (with_reducible first | exact HK.out | apply KeepBut.set_ | apply keep_drewN | apply keep_drew | apply keep_alloc | refine keep_far ?_ GW211.out _) | exact HK.out))) : w.heap.size ≤ gb212) : w0.heap.size ≤ gb212)); have n7_ := Aside0.mk ((by rw [hg]; exact Nat.ne_of_lt (blk_lt (g := gb211) (o := .cells (a1).A 38 (0, 0)) (sqO BK211.out)) : gb211 ≠ gb212)); have n8_ := Aside0.mk (Ne.symm n7_.out); have n9_ := Aside0.mk ((by rw [hg]; exact Nat.ne_of_lt (IsS89.lt (show IsS89 w0 _ g s0_0 s0_1 s0_2 s0_3 s0_4 s0_5 true from by repeat (first | (with_reducible first | exact HI0.out | apply IsS89.alloc | apply IsS89.drewN | apply IsS89.drew | apply IsS89.set_0 | apply IsS89.set_1 | apply IsS89.set_2 | apply IsS89.set_3 | apply IsS89.set_4 | apply IsS89.set_5 | apply IsS89.set_6 | refine IsS89.far ?_ NB0_211.out _) | exact HI0.out))) : g ≠ gb212)); have n10_ := Aside0.mk ((by rw [hg]; exact Nat.ne_of_gt (IsS89.lt (show IsS89 w0 _ g s0_0 s0_1 s0_2 s0_3 s0_4 s0_5 true from by repeat (first | (with_reducible first | exact HI0.out | apply IsS89.alloc | apply IsS89.drewN | apply IsS89.drew | apply IsS89.set_0 | apply IsS89.set_1 | apply IsS89.set_2 | apply IsS89.set_3 | apply IsS89.set_4 | apply IsS89.set_5 | apply IsS89.set_6 | refine IsS89.far ?_ NB0_211.out _) | exact HI0.out))) : gb212 ≠ g)); clear HI0; clear BK211; clear HK; clear HB; have HI0 := n0_; have BK211 := n1_; have HK := n2_; have HB := n3_; have BK212 := n4_; have GW212 := n5_; have GE212 := n6_; have NB211_212 := n7_; have NB212_211 := n8_; have NB0_212 := n9_; have NB212_0 := n10_; clear n0_ n1_ n2_ n3_ n4_ n5_ n6_ n7_ n8_ n9_ n10_; clear hb hbox hg) | ((with_reducible refine gate_dst (N := 7) rfl ?_); refine box_event ?hg (N := 7) ?hd (cs := #[.int .i8 a3_0, .int .i8 a3_1]) (t := 78) ?hr ?_; (case hd => rfl); (case hg => rfl); (case hr => first | (go_simp; done) | (go_simp; rfl)); intro gb213 hg w8 hbox hb; have n0_ := Aside0.mk (IsS89.below (by repeat (first | (with_reducible first | exact HI0.out | apply IsS89.alloc | apply IsS89.drewN | apply IsS89.drew | apply IsS89.set_0 | apply IsS89.set_1 | apply IsS89.set_2 | apply IsS89.set_3 | apply IsS89.set_4 | apply IsS89.set_5 | apply IsS89.set_6 | refine IsS89.far ?_ NB0_211.out _ | refine IsS89.far ?_ NB0_212.out _) | exact HI0.out)) hb); have n1_ := Aside0.mk (sqB BK211.out hb); have n2_ := Aside0.mk (sqB BK212.out hb); have n3_ := Aside0.mk (KeepBut.trans (by repeat (first | (with_reducible first | exact HK.out | apply KeepBut.set_ | apply keep_drewN | apply keep_drew | apply keep_alloc | refine keep_far ?_ GW211.out _ | refine keep_far ?_ GW212.out _) | exact HK.out)) (KeepBut.of_below hb g none) (.inl rfl)); have n4_ := Aside0.mk (below_step (by repeat (first | (with_reducible first | exact HB.out | apply below_alloc | apply pw_below_drewN | apply below_drew1 | refine below_set ?_ (IsS89.ge HI0.out) | refine below_set ?_ GE211.out | refine below_set ?_ GE212.out) | exact HB.out)) hb); have n5_ := Aside0.mk (hbox); have n6_ := Aside0.mk ((by rw [hg]; exact (keep_size (w := w) (g := g) (row := none) (by repeat (first | (with_reducible first | exact HK.out | apply KeepBut.set_ | apply keep_drewN | apply keep_drew | apply keep_alloc | refine keep_far ?_ GW211.out _ | refine keep_far ?_ GW212.out _) | exact HK.out))) : w.heap.size ≤ gb213)); have n7_ := Aside0.mk ((Nat.le_trans HW0.out (by rw [hg]; exact (keep_size (w := w) (g := g) (row := none) (by repeat (first | (with_reducible first | exact HK.out | apply KeepBut.set_ | apply keep_drewN | apply keep_drew | apply keep_alloc | refine keep_far ?_ GW211.out _ | refine keep_far ?_ GW212.out _) | exact HK.out))) : w.heap.size ≤ gb213) : w0.heap.size ≤ gb213)); have n8_ := Aside0.mk ((by rw [hg]; exact Nat.ne_of_lt (blk_lt (g := gb211) (o := .cells (a1).A 38 (0, 0)) (sqO BK211.out)) : gb211 ≠ gb213)); have n9_ := Aside0.mk (Ne.symm n8_.out); have n10_ := Aside0.mk ((by rw [hg]; exact Nat.ne_of_lt (blk_lt (g := gb212) (o := .cells (a2).A 40 (0, 0)) (sqO BK212.out)) : gb212 ≠ gb213)); have n11_ := Aside0.mk (Ne.symm n10_.out); have n12_ := Aside0.mk ((by rw [hg]; exact Nat.ne_of_lt (IsS89.lt (show IsS89 w0 _ g s0_0 s0_1 s0_2 s0_3 s0_4 s0_5 true from by repeat (first | (with_reducible first | exact HI0.out | apply IsS89.alloc | apply IsS89.drewN | apply IsS89.drew | apply IsS89.set_0 | apply IsS89.set_1 | apply IsS89.set_2 | apply IsS89.set_3 | apply IsS89.set_4 | apply IsS89.set_5 | apply IsS89.set_6 | refine IsS89.far ?_ NB0_211.out _ | refine IsS89.far ?_ NB0_212.out _) | exact HI0.out))) : g ≠ gb213)); have n13_ := Aside0.mk ((by rw [hg]; exact Nat.ne_of_gt (IsS89.lt (show IsS89 w0 _ g s0_0 s0_1 s0_2 s0_3 s0_4 s0_5 true from by repeat (first | (with_reducible first | exact HI0.out | apply IsS89.alloc | apply IsS89.drewN | apply IsS89.drew | apply IsS89.set_0 | apply IsS89.set_1 | apply IsS89.set_2 | apply IsS89.set_3 | apply IsS89.set_4 | apply IsS89.set_5 | apply IsS89.set_6 | refine IsS89.far ?_ NB0_211.out _ | refine IsS89.far ?_ NB0_212.out _) | exact HI0.out))) : gb213 ≠ g)); clear HI0; clear BK211; clear BK212; clear HK; clear HB; have HI0 := n0_; have BK211 := n1_; have BK212 := n2_; have HK := n3_; have HB := n4_; have BK213 := n5_; have GW213 := n6_; have GE213 := n7_; have NB211_213 := n8_; have NB213_211 := n9_; have NB212_213 := n10_; have NB213_212 := n11_; have NB0_213 := n12_; have NB213_0 := n13_; clear n0_ n1_ n2_ n3_ n4_ n5_ n6_ n7_ n8_ n9_ n10_ n11_ n12_ n13_; clear hb hbox hg; obtain ⟨HGz9, hgz9⟩ := HI0.out; have hcz9_0 := cellS89_0 HGz9; have hcz9_1 := cellS89_1 HGz9; have hcz9_2 := cellS89_2 HGz9; have hcz9_3 := cellS89_3 HGz9; have hcz9_4 := cellS89_4 HGz9; have hcz9_5 := cellS89_5 HGz9; have hcz9_6 := cellS89_6 HGz9; have hfz9_0 := blk_frozen HGz9 0; have hfz9_1 := blk_frozen HGz9 1; have hfz9_2 := blk_frozen HGz9 2; have hfz9_3 := blk_frozen HGz9 3; have hfz9_4 := blk_frozen HGz9 4; have hfz9_5 := blk_frozen HGz9 5; have hfz9_6 := blk_frozen HGz9 6; clear HGz9 hgz9))
    go_ret
    exact ⟨by first | rfl | (simp [errW_none, errW_some] <;> rfl) | (simp [*, errW_none, errW_some] <;> rfl), by repeat (first | (with_reducible first | exact HI0.out | apply IsS89.alloc | apply IsS89.drewN | apply IsS89.drew | apply IsS89.set_0 | apply IsS89.set_1 | apply IsS89.set_2 | apply IsS89.set_3 | apply IsS89.set_4 | apply IsS89.set_5 | apply IsS89.set_6 | refine IsS89.far ?_ NB0_211.out _ | refine IsS89.far ?_ NB0_212.out _ | refine IsS89.far ?_ NB0_213.out _) | exact HI0.out), by repeat (first | (with_reducible first | exact HB.out | apply below_alloc | apply pw_below_drewN | apply below_drew1 | refine below_set ?_ (IsS89.ge HI0.out) | refine below_set ?_ GE211.out | refine below_set ?_ GE212.out | refine below_set ?_ GE213.out) | exact HB.out), by repeat (first | (with_reducible first | exact HK.out | apply KeepBut.set_ | apply keep_drewN | apply keep_drew | apply keep_alloc | refine keep_far ?_ GW211.out _ | refine keep_far ?_ GW212.out _ | refine keep_far ?_ GW213.out _) | exact HK.out)⟩
  · replace c5 := Bool.eq_false_iff.mpr c5
    subst c5
    have H1 : ((impl_drift.f a1 a2 s0_0 s0_1 s0_2 s0_3 s0_4 s0_5 a3_0 a3_1).bind fun bt214 => (some (bt214.2.2.2.2.2.2.1, bt214.1, bt214.2.1, bt214.2.2.1, bt214.2.2.2.1, bt214.2.2.2.2.1, bt214.2.2.2.2.2.1, bt214.2.2.2.2.2.2.2))) = some (r1, r2, r3, r4, r5, r6, r7, r8) := by rw [if_neg (show ¬ (false = true) by decide)] at H; exact H
    clear H
    have H := H1
    clear H1
    replace H := Option.bind_eq_some_iff.mp H
    obtain ⟨⟨t214, t215, t216, t217, t218, t219, t220, t221⟩, A100, H⟩ := H
    replace H : (some (t220, t214, t215, t216, t217, t218, t219, t221)) = some (r1, r2, r3, r4, r5, r6, r7, r8) := H
    have A10 := Aside0.mk A100
    clear A100
    simp only [Option.some.injEq, Prod.mk.injEq] at H
    obtain ⟨rfl, rfl, rfl, rfl, rfl, rfl, rfl, rfl⟩ := H
    go_enter Try.func58, Try.ntmps58
    try go_wp2_with (first | ((with_reducible refine gate_dst (N := 5) rfl ?_); refine box_event ?hg (N := 5) ?hd (cs := (a1).A) (t := 38) ?hr ?_; (case hd => rfl); (case hg => rfl); (case hr => first | exact AR.run_box_row rfl rfl | (go_simp; done) | (go_simp; rfl)); intro gb211 hg w11 hbox hb; have n0_ := Aside0.mk (IsS89.below (by repeat (first | (with_reducible first | exact HI0.out | apply IsS89.alloc | apply IsS89.drewN | apply IsS89.drew | apply IsS89.set_0 | apply IsS89.set_1 | apply IsS89.set_2 | apply IsS89.set_3 | apply IsS89.set_4 | apply IsS89.set_5 | apply IsS89.set_6) | exact HI0.out)) hb); have n1_ := Aside0.mk (KeepBut.trans (by repeat (first | (with_reducible first | exact HK.out | apply KeepBut.set_ | apply keep_drewN | apply keep_drew | apply keep_alloc) | exact HK.out)) (KeepBut.of_below hb g none) (.inl rfl)); have n2_ := Aside0.mk (below_step (by repeat (first | (with_reducible first | exact HB.out | apply below_alloc | apply pw_below_drewN | apply below_drew1 | refine below_set ?_ (IsS89.ge HI0.out)) | exact HB.out)) hb); have n3_ := Aside0.mk (hbox); have n4_ := Aside0.mk ((by rw [hg]; exact (keep_size (w := w) (g := g) (row := none) (by repeat (first | (with_reducible first | exact HK.out | apply KeepBut.set_ | apply keep_drewN | apply keep_drew | apply keep_alloc) | exact HK.out))) : w.heap.size ≤ gb211)); have n5_ := Aside0.mk ((Nat.le_trans HW0.out (by rw [hg]; exact (keep_size (w := w) (g := g) (row := none) (by repeat (first | (with_reducible first | exact HK.out | apply KeepBut.set_ | apply keep_drewN | apply keep_drew | apply keep_alloc) | exact HK.out))) : w.heap.size ≤ gb211) : w0.heap.size ≤ gb211)); have n6_ := Aside0.mk ((by rw [hg]; exact Nat.ne_of_lt (IsS89.lt (show IsS89 w0 _ g s0_0 s0_1 s0_2 s0_3 s0_4 s0_5 false from by repeat (first | (with_reducible first | exact HI0.out | apply IsS89.alloc | apply IsS89.drewN | apply IsS89.drew | apply IsS89.set_0 | apply IsS89.set_1 | apply IsS89.set_2 | apply IsS89.set_3 | apply IsS89.set_4 | apply IsS89.set_5 | apply IsS89.set_6) | exact HI0.out))) : g ≠ gb211)); have n7_ := Aside0.mk ((by rw [hg]; exact Nat.ne_of_gt (IsS89.lt (show IsS89 w0 _ g s0_0 s0_1 s0_2 s0_3 s0_4 s0_5 false from by repeat (first | (with_reducible first | exact HI0.out | apply IsS89.alloc | apply IsS89.drewN | apply IsS89.drew | apply IsS89.set_0 | apply IsS89.set_1 | apply IsS89.set_2 | apply IsS89.set_3 | apply IsS89.set_4 | apply IsS89.set_5 | apply IsS89.set_6) | exact HI0.out))) : gb211 ≠ g)); clear HI0; clear HK; clear HB; have HI0 := n0_; have HK := n1_; have HB := n2_; have BK211 := n3_; have GW211 := n4_; have GE211 := n5_; have NB0_211 := n6_; have NB211_0 := n7_; clear n0_ n1_ n2_ n3_ n4_ n5_ n6_ n7_; clear hb hbox hg) | ((with_reducible refine gate_dst (N := 6) rfl ?_); refine box_event ?hg (N := 6) ?hd (cs := (a2).A) (t := 40) ?hr ?_; (case hd => rfl); (case hg => rfl); (case hr => first | exact AR.run_box_row rfl rfl | (go_simp; done) | (go_simp; rfl)); intro gb212 hg w12 hbox hb; have n0_ := Aside0.mk (IsS89.below (by repeat (first | (with_reducible first | exact HI0.out | apply IsS89.alloc | apply IsS89.drewN | apply IsS89.drew | apply IsS89.set_0 | apply IsS89.set_1 | apply IsS89.set_2 | apply IsS89.set_3 | apply IsS89.set_4 | apply IsS89.set_5 | apply IsS89.set_6 | refine IsS89.far ?_ NB0_211.out _) | exact HI0.out)) hb); have n1_ := Aside0.mk (sqB BK211.out hb); have n2_ := Aside0.mk (KeepBut.trans (by repeat (first | (with_reducible first | exact HK.out | apply KeepBut.set_ | apply keep_drewN | apply keep_drew | apply keep_alloc | refine keep_far ?_ GW211.out _) | exact HK.out)) (KeepBut.of_below hb g none) (.inl rfl)); have n3_ := Aside0.mk (below_step (by repeat (first | (with_reducible first | exact HB.out | apply below_alloc | apply pw_below_drewN | apply below_drew1 | refine below_set ?_ (IsS89.ge HI0.out) | refine below_set ?_ GE211.out) | exact HB.out)) hb); have n4_ := Aside0.mk (hbox); have n5_ := Aside0.mk ((by rw [hg]; exact (keep_size (w := w) (g := g) (row := none) (by repeat (first | (with_reducible first | exact HK.out | apply KeepBut.set_ | apply keep_drewN | apply keep_drew | apply keep_alloc | refine keep_far ?_ GW211.out _) | exact HK.out))) : w.heap.size ≤ gb212)); have n6_ := Aside0.mk ((Nat.le_trans HW0.out (by rw [hg]; exact (keep_size (w := w) (g := g) (row := none) (by repeat (first | (with_reducible first | exact HK.out | apply KeepBut.set_ | apply keep_drewN | apply keep_drew | apply keep_alloc | refine keep_far ?_ GW211.out _) | exact HK.out))) : w.heap.size ≤ gb212) : w0.heap.size ≤ gb212)); have n7_ := Aside0.mk ((by rw [hg]; exact Nat.ne_of_lt (blk_lt (g := gb211) (o := .cells (a1).A 38 (0, 0)) (sqO BK211.out)) : gb211 ≠ gb212)); have n8_ := Aside0.mk (Ne.symm n7_.out); have n9_ := Aside0.mk ((by rw [hg]; exact Nat.ne_of_lt (IsS89.lt (show IsS89 w0 _ g s0_0 s0_1 s0_2 s0_3 s0_4 s0_5 false from by repeat (first | (with_reducible first | exact HI0.out | apply IsS89.alloc | apply IsS89.drewN | apply IsS89.drew | apply IsS89.set_0 | apply IsS89.set_1 | apply IsS89.set_2 | apply IsS89.set_3 | apply IsS89.set_4 | apply IsS89.set_5 | apply IsS89.set_6 | refine IsS89.far ?_ NB0_211.out _) | exact HI0.out))) : g ≠ gb212)); have n10_ := Aside0.mk ((by rw [hg]; exact Nat.ne_of_gt (IsS89.lt (show IsS89 w0 _ g s0_0 s0_1 s0_2 s0_3 s0_4 s0_5 false from by repeat (first | (with_reducible first | exact HI0.out | apply IsS89.alloc | apply IsS89.drewN | apply IsS89.drew | apply IsS89.set_0 | apply IsS89.set_1 | apply IsS89.set_2 | apply IsS89.set_3 | apply IsS89.set_4 | apply IsS89.set_5 | apply IsS89.set_6 | refine IsS89.far ?_ NB0_211.out _) | exact HI0.out))) : gb212 ≠ g)); clear HI0; clear BK211; clear HK; clear HB; have HI0 := n0_; have BK211 := n1_; have HK := n2_; have HB := n3_; have BK212 := n4_; have GW212 := n5_; have GE212 := n6_; have NB211_212 := n7_; have NB212_211 := n8_; have NB0_212 := n9_; have NB212_0 := n10_; clear n0_ n1_ n2_ n3_ n4_ n5_ n6_ n7_ n8_ n9_ n10_; clear hb hbox hg) | ((with_reducible refine gate_dst (N := 7) rfl ?_); refine box_event ?hg (N := 7) ?hd (cs := #[.int .i8 a3_0, .int .i8 a3_1]) (t := 78) ?hr ?_; (case hd => rfl); (case hg => rfl); (case hr => first | (go_simp; done) | (go_simp; rfl)); intro gb213 hg w13 hbox hb; have n0_ := Aside0.mk (IsS89.below (by repeat (first | (with_reducible first | exact HI0.out | apply IsS89.alloc | apply IsS89.drewN | apply IsS89.drew | apply IsS89.set_0 | apply IsS89.set_1 | apply IsS89.set_2 | apply IsS89.set_3 | apply IsS89.set_4 | apply IsS89.set_5 | apply IsS89.set_6 | refine IsS89.far ?_ NB0_211.out _ | refine IsS89.far ?_ NB0_212.out _) | exact HI0.out)) hb); have n1_ := Aside0.mk (sqB BK211.out hb); have n2_ := Aside0.mk (sqB BK212.out hb); have n3_ := Aside0.mk (KeepBut.trans (by repeat (first | (with_reducible first | exact HK.out | apply KeepBut.set_ | apply keep_drewN | apply keep_drew | apply keep_alloc | refine keep_far ?_ GW211.out _ | refine keep_far ?_ GW212.out _) | exact HK.out)) (KeepBut.of_below hb g none) (.inl rfl)); have n4_ := Aside0.mk (below_step (by repeat (first | (with_reducible first | exact HB.out | apply below_alloc | apply pw_below_drewN | apply below_drew1 | refine below_set ?_ (IsS89.ge HI0.out) | refine below_set ?_ GE211.out | refine below_set ?_ GE212.out) | exact HB.out)) hb); have n5_ := Aside0.mk (hbox); have n6_ := Aside0.mk ((by rw [hg]; exact (keep_size (w := w) (g := g) (row := none) (by repeat (first | (with_reducible first | exact HK.out | apply KeepBut.set_ | apply keep_drewN | apply keep_drew | apply keep_alloc | refine keep_far ?_ GW211.out _ | refine keep_far ?_ GW212.out _) | exact HK.out))) : w.heap.size ≤ gb213)); have n7_ := Aside0.mk ((Nat.le_trans HW0.out (by rw [hg]; exact (keep_size (w := w) (g := g) (row := none) (by repeat (first | (with_reducible first | exact HK.out | apply KeepBut.set_ | apply keep_drewN | apply keep_drew | apply keep_alloc | refine keep_far ?_ GW211.out _ | refine keep_far ?_ GW212.out _) | exact HK.out))) : w.heap.size ≤ gb213) : w0.heap.size ≤ gb213)); have n8_ := Aside0.mk ((by rw [hg]; exact Nat.ne_of_lt (blk_lt (g := gb211) (o := .cells (a1).A 38 (0, 0)) (sqO BK211.out)) : gb211 ≠ gb213)); have n9_ := Aside0.mk (Ne.symm n8_.out); have n10_ := Aside0.mk ((by rw [hg]; exact Nat.ne_of_lt (blk_lt (g := gb212) (o := .cells (a2).A 40 (0, 0)) (sqO BK212.out)) : gb212 ≠ gb213)); have n11_ := Aside0.mk (Ne.symm n10_.out); have n12_ := Aside0.mk ((by rw [hg]; exact Nat.ne_of_lt (IsS89.lt (show IsS89 w0 _ g s0_0 s0_1 s0_2 s0_3 s0_4 s0_5 false from by repeat (first | (with_reducible first | exact HI0.out | apply IsS89.alloc | apply IsS89.drewN | apply IsS89.drew | apply IsS89.set_0 | apply IsS89.set_1 | apply IsS89.set_2 | apply IsS89.set_3 | apply IsS89.set_4 | apply IsS89.set_5 | apply IsS89.set_6 | refine IsS89.far ?_ NB0_211.out _ | refine IsS89.far ?_ NB0_212.out _) | exact HI0.out))) : g ≠ gb213)); have n13_ := Aside0.mk ((by rw [hg]; exact Nat.ne_of_gt (IsS89.lt (show IsS89 w0 _ g s0_0 s0_1 s0_2 s0_3 s0_4 s0_5 false from by repeat (first | (with_reducible first | exact HI0.out | apply IsS89.alloc | apply IsS89.drewN | apply IsS89.drew | apply IsS89.set_0 | apply IsS89.set_1 | apply IsS89.set_2 | apply IsS89.set_3 | apply IsS89.set_4 | apply IsS89.set_5 | apply IsS89.set_6 | refine IsS89.far ?_ NB0_211.out _ | refine IsS89.far ?_ NB0_212.out _) | exact HI0.out))) : gb213 ≠ g)); clear HI0; clear BK211; clear BK212; clear HK; clear HB; have HI0 := n0_; have BK211 := n1_; have BK212 := n2_; have HK := n3_; have HB := n4_; have BK213 := n5_; have GW213 := n6_; have GE213 := n7_; have NB211_213 := n8_; have NB213_211 := n9_; have NB212_213 := n10_; have NB213_212 := n11_; have NB0_213 := n12_; have NB213_0 := n13_; clear n0_ n1_ n2_ n3_ n4_ n5_ n6_ n7_ n8_ n9_ n10_ n11_ n12_ n13_; clear hb hbox hg; obtain ⟨HGz14, hgz14⟩ := HI0.out; have hcz14_0 := cellS89_0 HGz14; have hcz14_1 := cellS89_1 HGz14; have hcz14_2 := cellS89_2 HGz14; have hcz14_3 := cellS89_3 HGz14; have hcz14_4 := cellS89_4 HGz14; have hcz14_5 := cellS89_5 HGz14; have hcz14_6 := cellS89_6 HGz14; have hfz14_0 := blk_frozen HGz14 0; have hfz14_1 := blk_frozen HGz14 1; have hfz14_2 := blk_frozen HGz14 2; have hfz14_3 := blk_frozen HGz14 3; have hfz14_4 := blk_frozen HGz14 4; have hfz14_5 := blk_frozen HGz14 5; have hfz14_6 := blk_frozen HGz14 6; clear HGz14 hgz14))
    have n0_ := Aside0.mk (blk_drew BK211.out)
    have n1_ := Aside0.mk (blk_drew BK212.out)
    have n2_ := Aside0.mk (blk_drew BK213.out)
    have n3_ := Aside0.mk (IsS89.drew HI0.out)
    have n4_ := Aside0.mk (keep_drew HK.out)
    have n5_ := Aside0.mk (below_drew1 HB.out)
    clear BK211
    clear BK212
    clear BK213
    clear HI0
    clear HK
    clear HB
    have BK211 := n0_
    have BK212 := n1_
    have BK213 := n2_
    have HI0 := n3_
    have HK := n4_
    have HB := n5_
    clear n0_ n1_ n2_ n3_ n4_ n5_
    refine start_ (n := 16) (S := fun w' => True) (ds := []) #[false, false, false, false, false, false, false, false, false, false, false, false, false, false, false, false] (by kernel_rfl) rfl rfl trivial (fun hHeld => ?_); refine with_tabW impl_drifting_hour.tab3 impl_drifting_hour.bits3 (fun HT_ HW_ => ?_)
    generalize w13.drew = w15 at BK211 BK212 BK213 HI0 HK HB hHeld ⊢
    refine pure_ (i := 2) (N := some 19) (v := ?_) (a' := ?_) #[false, false, true, false, false, false, false, false, false, false, false, false, false, false, false, false] rfl rfl (any_of HT_.out (by kernel_rfl)) (fun _ _ _ h => h) (Or.inl ⟨by rfl, ?_⟩) ?_ ?_
    rotate_left
    · intro w'
      go_simp
      with_reducible rfl
    rotate_left
    · simp only [Act.put, List.setIfInBounds_toArray, List.set_cons_zero, List.set_cons_succ, i64_w, i32_w]
      rfl
    refine inv_at [0, 1, 3, 4, 5, 6, 7, 8, 9, 10, 11, 12, 13, 14, 15] (fun a0_ b a w' => ∃ (gb222 : Nat) (m12_ : Value), a = putSel a0_ b [(0, 17, VO38 a1), (1, 18, VO40 a2), (3, 20, .pointer (some ⟨g, 0, none⟩)), (4, 21, .pointer (some ⟨g, 0, none⟩)), (5, 22, .agg #[.int .i8 s0_0, .int .i8 s0_1, .int .i8 s0_2, .int .i8 s0_3, .int .i8 s0_4, .int .i8 s0_5]), (6, 23, .agg #[.int .i8 a3_0, .int .i8 a3_1]), (7, 24, .tuple #[.agg #[.int .i8 t214, .int .i8 t215, .int .i8 t216, .int .i8 t217, .int .i8 t218, .int .i8 t219], .bool t220, .bool t221]), (8, 16, .tuple #[.agg #[.int .i8 t214, .int .i8 t215, .int .i8 t216, .int .i8 t217, .int .i8 t218, .int .i8 t219], .bool t220, .bool t221]), (9, 25, .agg #[.int .i8 t214, .int .i8 t215, .int .i8 t216, .int .i8 t217, .int .i8 t218, .int .i8 t219]), (10, 26, .bool t220), (11, 27, .bool t221), (12, 9, m12_), (14, 10, .bool t220), (15, 11, .bool t221)] ∧ (w'.heap[gb211]? = some (.cells (a1).A 38 (0, 0))) ∧ (w'.heap[gb212]? = some (.cells (a2).A 40 (0, 0))) ∧ (w'.heap[gb213]? = some (.cells #[.int .i8 a3_0, .int .i8 a3_1] 78 (0, 0))) ∧ (IsS89 w0 w' g s0_0 s0_1 s0_2 s0_3 s0_4 s0_5 false) ∧ (KeepBut w w' g none) ∧ (Below w0.heap.size w0 w') ∧ (b 12 = true → b 13 = false → w'.heap[gb222]? = some (.cells #[.int .i8 0, .int .i8 0, .int .i8 0, .int .i8 0, .int .i8 0, .int .i8 0] 44 (0, 0))) ∧ (b 12 = true → w.heap.size ≤ gb222) ∧ (b 12 = true → w0.heap.size ≤ gb222) ∧ (b 12 = true → g ≠ gb222) ∧ (b 12 = true → gb222 ≠ g) ∧ (b 12 = true → gb211 ≠ gb222) ∧ (b 12 = true → gb222 ≠ gb211) ∧ (b 12 = true → gb212 ≠ gb222) ∧ (b 12 = true → gb222 ≠ gb212) ∧ (b 12 = true → gb213 ≠ gb222) ∧ (b 12 = true → gb222 ≠ gb213) ∧ (b 13 = true → w'.heap[gb222]? = some (.cells #[.int .i8 t214, .int .i8 t215, .int .i8 t216, .int .i8 t217, .int .i8 t218, .int .i8 t219] 44 (0, 0))) ∧ (b 12 = true → (m12_ : Value) = .pointer (some ⟨gb222, 0, none⟩))) HT_.out HW_.out (by kernel_rfl) (by kernel_rfl) ?_ ?_ ?_
    · exact ⟨0, .bool false, by simp only [putSel, Bool.false_eq_true, if_false], BK211.out, BK212.out, BK213.out, HI0.out, HK.out, HB.out, fun h_ => absurd h_ (by decide), fun h_ => absurd h_ (by decide), fun h_ => absurd h_ (by decide), fun h_ => absurd h_ (by decide), fun h_ => absurd h_ (by decide), fun h_ => absurd h_ (by decide), fun h_ => absurd h_ (by decide), fun h_ => absurd h_ (by decide), fun h_ => absurd h_ (by decide), fun h_ => absurd h_ (by decide), fun h_ => absurd h_ (by decide), fun h_ => absurd h_ (by decide), fun h_ => absurd h_ (by decide)⟩
    · skip
      clear BK211 BK212 BK213 HB HI0 HK
      refine steps_cons ?_ ?_
      · rintro b a w' ⟨gb222, m12_, ha, Q_BK211, Q_BK212, Q_BK213, Q_HI0, Q_HK, Q_HB, Q_BK222, Q_GW222, Q_GE222, Q_NB0_222, Q_NB222_0, Q_NB211_222, Q_NB222_211, Q_NB212_222, Q_NB222_212, Q_NB213_222, Q_NB222_213, Q_BK222_e13, Q_X12_⟩ hb_ hon hoff
        refine ⟨_, rfl, fun K hK => ?_⟩
        have e5 : a.tmps[5]? = some (.pointer (some ⟨gb211, 0, none⟩)) := by rw [ha]; exact (putSel_off rfl).trans rfl
        replace ha := Aside0.mk ha
        have BK211 := Aside0.mk Q_BK211
        have BK212 := Aside0.mk Q_BK212
        have BK213 := Aside0.mk Q_BK213
        have HI0 := Aside0.mk Q_HI0
        have HK := Aside0.mk Q_HK
        have HB := Aside0.mk Q_HB
        have hc0_ : w'.heap[gb211]? = some (.cells (a1).A 38 (0, 0)) := BK211.out
        refine value_ (w1 := w') (v := VO38 a1) (by rfl) rfl ?_ ?_
        · first | (refine Eq.trans (AR.exec_load_blk rfl (by first | (go_simp; done) | (go_simp; rfl)) hc0_ Try.underlying38 rfl (szO38 _)) ?_; rfl) | (go_simp; (try simp only [i64_w]); try rfl)
        refine hK.out _ _ ⟨gb222, m12_, (by rw [ha.out]; exact putSel_upk 0 hb_ rfl rfl rfl), Q_BK211, Q_BK212, Q_BK213, Q_HI0, Q_HK, Q_HB, Q_BK222, Q_GW222, Q_GE222, Q_NB0_222, Q_NB222_0, Q_NB211_222, Q_NB222_211, Q_NB212_222, Q_NB222_212, Q_NB213_222, Q_NB222_213, fun h0_ => absurd ((hoff 13 (by kernel_rfl)).symm.trans h0_) (by decide), Q_X12_⟩
      refine steps_cons ?_ ?_
      · rintro b a w' ⟨gb222, m12_, ha, Q_BK211, Q_BK212, Q_BK213, Q_HI0, Q_HK, Q_HB, Q_BK222, Q_GW222, Q_GE222, Q_NB0_222, Q_NB222_0, Q_NB211_222, Q_NB222_211, Q_NB212_222, Q_NB222_212, Q_NB213_222, Q_NB222_213, Q_BK222_e13, Q_X12_⟩ hb_ hon hoff
        refine ⟨_, rfl, fun K hK => ?_⟩
        have e6 : a.tmps[6]? = some (.pointer (some ⟨gb212, 0, none⟩)) := by rw [ha]; exact (putSel_off rfl).trans rfl
        replace ha := Aside0.mk ha
        have BK211 := Aside0.mk Q_BK211
        have BK212 := Aside0.mk Q_BK212
        have BK213 := Aside0.mk Q_BK213
        have HI0 := Aside0.mk Q_HI0
        have HK := Aside0.mk Q_HK
        have HB := Aside0.mk Q_HB
        have hc0_ : w'.heap[gb212]? = some (.cells (a2).A 40 (0, 0)) := BK212.out
        refine value_ (w1 := w') (v := VO40 a2) (by rfl) rfl ?_ ?_
        · first | (refine Eq.trans (AR.exec_load_blk rfl (by first | (go_simp; done) | (go_simp; rfl)) hc0_ Try.underlying40 rfl (szO40 _)) ?_; rfl) | (go_simp; (try simp only [i64_w]); try rfl)
        refine hK.out _ _ ⟨gb222, m12_, (by rw [ha.out]; exact putSel_upk 1 hb_ rfl rfl rfl), Q_BK211, Q_BK212, Q_BK213, Q_HI0, Q_HK, Q_HB, Q_BK222, Q_GW222, Q_GE222, Q_NB0_222, Q_NB222_0, Q_NB211_222, Q_NB222_211, Q_NB212_222, Q_NB222_212, Q_NB213_222, Q_NB222_213, fun h0_ => absurd ((hoff 13 (by kernel_rfl)).symm.trans h0_) (by decide), Q_X12_⟩
      refine steps_cons ?_ ?_
      · rintro b a w' ⟨gb222, m12_, ha, Q_BK211, Q_BK212, Q_BK213, Q_HI0, Q_HK, Q_HB, Q_BK222, Q_GW222, Q_GE222, Q_NB0_222, Q_NB222_0, Q_NB211_222, Q_NB222_211, Q_NB212_222, Q_NB222_212, Q_NB213_222, Q_NB222_213, Q_BK222_e13, Q_X12_⟩ hb_ hon hoff
        refine ⟨_, rfl, fun K hK => ?_⟩
        have e19 : a.tmps[19]? = some (.pointer (some ⟨g, 0, none⟩)) := by rw [ha]; exact (putSel_off rfl).trans rfl
        replace ha := Aside0.mk ha
        have BK211 := Aside0.mk Q_BK211
        have BK212 := Aside0.mk Q_BK212
        have BK213 := Aside0.mk Q_BK213
        have HI0 := Aside0.mk Q_HI0
        have HK := Aside0.mk Q_HK
        have HB := Aside0.mk Q_HB
        refine value_ (w1 := w') (v := .pointer (some ⟨g, 0, none⟩)) (by rfl) rfl ?_ ?_
        · go_simp
          (try simp only [i64_w])
          try rfl
        refine hK.out _ _ ⟨gb222, m12_, (by rw [ha.out]; exact putSel_upk 2 hb_ rfl rfl rfl), Q_BK211, Q_BK212, Q_BK213, Q_HI0, Q_HK, Q_HB, Q_BK222, Q_GW222, Q_GE222, Q_NB0_222, Q_NB222_0, Q_NB211_222, Q_NB222_211, Q_NB212_222, Q_NB222_212, Q_NB213_222, Q_NB222_213, fun h0_ => absurd ((hoff 13 (by kernel_rfl)).symm.trans h0_) (by decide), Q_X12_⟩
      refine steps_cons ?_ ?_
      · rintro b a w' ⟨gb222, m12_, ha, Q_BK211, Q_BK212, Q_BK213, Q_HI0, Q_HK, Q_HB, Q_BK222, Q_GW222, Q_GE222, Q_NB0_222, Q_NB222_0, Q_NB211_222, Q_NB222_211, Q_NB212_222, Q_NB222_212, Q_NB213_222, Q_NB222_213, Q_BK222_e13, Q_X12_⟩ hb_ hon hoff
        refine ⟨_, rfl, fun K hK => ?_⟩
        have e20 : a.tmps[20]? = some (.pointer (some ⟨g, 0, none⟩)) := by rw [ha]; exact putSel_on (e := (3, 20, .pointer (some ⟨g, 0, none⟩))) 2 rfl rfl (hon 3 (by kernel_rfl)) rfl
        replace ha := Aside0.mk ha
        have BK211 := Aside0.mk Q_BK211
        have BK212 := Aside0.mk Q_BK212
        have BK213 := Aside0.mk Q_BK213
        have HI0 := Aside0.mk Q_HI0
        have HK := Aside0.mk Q_HK
        have HB := Aside0.mk Q_HB
        refine value_ (w1 := w') (v := .pointer (some ⟨g, 0, none⟩)) (by rfl) rfl ?_ ?_
        · go_simp
          (try simp only [i64_w])
          try rfl
        refine hK.out _ _ ⟨gb222, m12_, (by rw [ha.out]; exact putSel_upk 3 hb_ rfl rfl rfl), Q_BK211, Q_BK212, Q_BK213, Q_HI0, Q_HK, Q_HB, Q_BK222, Q_GW222, Q_GE222, Q_NB0_222, Q_NB222_0, Q_NB211_222, Q_NB222_211, Q_NB212_222, Q_NB222_212, Q_NB213_222, Q_NB222_213, fun h0_ => absurd ((hoff 13 (by kernel_rfl)).symm.trans h0_) (by decide), Q_X12_⟩
      refine steps_cons ?_ ?_
      · rintro b a w' ⟨gb222, m12_, ha, Q_BK211, Q_BK212, Q_BK213, Q_HI0, Q_HK, Q_HB, Q_BK222, Q_GW222, Q_GE222, Q_NB0_222, Q_NB222_0, Q_NB211_222, Q_NB222_211, Q_NB212_222, Q_NB222_212, Q_NB213_222, Q_NB222_213, Q_BK222_e13, Q_X12_⟩ hb_ hon hoff
        refine ⟨_, rfl, fun K hK => ?_⟩
        have e21 : a.tmps[21]? = some (.pointer (some ⟨g, 0, none⟩)) := by rw [ha]; exact putSel_on (e := (4, 21, .pointer (some ⟨g, 0, none⟩))) 3 rfl rfl (hon 4 (by kernel_rfl)) rfl
        replace ha := Aside0.mk ha
        have BK211 := Aside0.mk Q_BK211
        have BK212 := Aside0.mk Q_BK212
        have BK213 := Aside0.mk Q_BK213
        have HI0 := Aside0.mk Q_HI0
        have HK := Aside0.mk Q_HK
        have HB := Aside0.mk Q_HB
        have hc0_ : w'.cell? ⟨g, 0, none⟩ = some (.int .i8 s0_0) := (by obtain ⟨HG_, _⟩ := HI0.out; exact cellS89_0 HG_)
        have hc1_ : w'.cell? ⟨g, 1, none⟩ = some (.int .i8 s0_1) := (by obtain ⟨HG_, _⟩ := HI0.out; exact cellS89_1 HG_)
        have hc2_ : w'.cell? ⟨g, 2, none⟩ = some (.int .i8 s0_2) := (by obtain ⟨HG_, _⟩ := HI0.out; exact cellS89_2 HG_)
        have hc3_ : w'.cell? ⟨g, 3, none⟩ = some (.int .i8 s0_3) := (by obtain ⟨HG_, _⟩ := HI0.out; exact cellS89_3 HG_)
        have hc4_ : w'.cell? ⟨g, 4, none⟩ = some (.int .i8 s0_4) := (by obtain ⟨HG_, _⟩ := HI0.out; exact cellS89_4 HG_)
        have hc5_ : w'.cell? ⟨g, 5, none⟩ = some (.int .i8 s0_5) := (by obtain ⟨HG_, _⟩ := HI0.out; exact cellS89_5 HG_)
        have hc6_ : w'.cell? ⟨g, 6, none⟩ = some (.bool false) := (by obtain ⟨HG_, _⟩ := HI0.out; exact cellS89_6 HG_)
        refine value_ (w1 := w') (v := .agg #[.int .i8 s0_0, .int .i8 s0_1, .int .i8 s0_2, .int .i8 s0_3, .int .i8 s0_4, .int .i8 s0_5]) (by rfl) rfl ?_ ?_
        · go_simp
          (try simp only [i64_w])
          try rfl
        refine hK.out _ _ ⟨gb222, m12_, (by rw [ha.out]; exact putSel_upk 4 hb_ rfl rfl rfl), Q_BK211, Q_BK212, Q_BK213, Q_HI0, Q_HK, Q_HB, Q_BK222, Q_GW222, Q_GE222, Q_NB0_222, Q_NB222_0, Q_NB211_222, Q_NB222_211, Q_NB212_222, Q_NB222_212, Q_NB213_222, Q_NB222_213, fun h0_ => absurd ((hoff 13 (by kernel_rfl)).symm.trans h0_) (by decide), Q_X12_⟩
      refine steps_cons ?_ ?_
      · rintro b a w' ⟨gb222, m12_, ha, Q_BK211, Q_BK212, Q_BK213, Q_HI0, Q_HK, Q_HB, Q_BK222, Q_GW222, Q_GE222, Q_NB0_222, Q_NB222_0, Q_NB211_222, Q_NB222_211, Q_NB212_222, Q_NB222_212, Q_NB213_222, Q_NB222_213, Q_BK222_e13, Q_X12_⟩ hb_ hon hoff
        refine ⟨_, rfl, fun K hK => ?_⟩
        have e7 : a.tmps[7]? = some (.pointer (some ⟨gb213, 0, none⟩)) := by rw [ha]; exact (putSel_off rfl).trans rfl
        replace ha := Aside0.mk ha
        have BK211 := Aside0.mk Q_BK211
        have BK212 := Aside0.mk Q_BK212
        have BK213 := Aside0.mk Q_BK213
        have HI0 := Aside0.mk Q_HI0
        have HK := Aside0.mk Q_HK
        have HB := Aside0.mk Q_HB
        have hc0_ : w'.cell? ⟨gb213, 0, none⟩ = some (.int .i8 a3_0) := (blk_cell BK213.out 0).trans rfl
        have hc1_ : w'.cell? ⟨gb213, 1, none⟩ = some (.int .i8 a3_1) := (blk_cell BK213.out 1).trans rfl
        refine value_ (w1 := w') (v := .agg #[.int .i8 a3_0, .int .i8 a3_1]) (by rfl) rfl ?_ ?_
        · go_simp
          (try simp only [i64_w])
          try rfl
        refine hK.out _ _ ⟨gb222, m12_, (by rw [ha.out]; exact putSel_upk 5 hb_ rfl rfl rfl), Q_BK211, Q_BK212, Q_BK213, Q_HI0, Q_HK, Q_HB, Q_BK222, Q_GW222, Q_GE222, Q_NB0_222, Q_NB222_0, Q_NB211_222, Q_NB222_211, Q_NB212_222, Q_NB222_212, Q_NB213_222, Q_NB222_213, fun h0_ => absurd ((hoff 13 (by kernel_rfl)).symm.trans h0_) (by decide), Q_X12_⟩
      refine steps_cons ?_ ?_
      · rintro b a w' ⟨gb222, m12_, ha, Q_BK211, Q_BK212, Q_BK213, Q_HI0, Q_HK, Q_HB, Q_BK222, Q_GW222, Q_GE222, Q_NB0_222, Q_NB222_0, Q_NB211_222, Q_NB222_211, Q_NB212_222, Q_NB222_212, Q_NB213_222, Q_NB222_213, Q_BK222_e13, Q_X12_⟩ hb_ hon hoff
        refine ⟨_, rfl, fun K hK => ?_⟩
        have e17 : a.tmps[17]? = some (VO38 a1) := by rw [ha]; exact putSel_on (e := (0, 17, VO38 a1)) 0 rfl rfl (hon 0 (by kernel_rfl)) rfl
        have e18 : a.tmps[18]? = some (VO40 a2) := by rw [ha]; exact putSel_on (e := (1, 18, VO40 a2)) 1 rfl rfl (hon 1 (by kernel_rfl)) rfl
        have e22 : a.tmps[22]? = some (.agg #[.int .i8 s0_0, .int .i8 s0_1, .int .i8 s0_2, .int .i8 s0_3, .int .i8 s0_4, .int .i8 s0_5]) := by rw [ha]; exact putSel_on (e := (5, 22, .agg #[.int .i8 s0_0, .int .i8 s0_1, .int .i8 s0_2, .int .i8 s0_3, .int .i8 s0_4, .int .i8 s0_5])) 4 rfl rfl (hon 5 (by kernel_rfl)) rfl
        have e23 : a.tmps[23]? = some (.agg #[.int .i8 a3_0, .int .i8 a3_1]) := by rw [ha]; exact putSel_on (e := (6, 23, .agg #[.int .i8 a3_0, .int .i8 a3_1])) 5 rfl rfl (hon 6 (by kernel_rfl)) rfl
        replace ha := Aside0.mk ha
        have BK211 := Aside0.mk Q_BK211
        have BK212 := Aside0.mk Q_BK212
        have BK213 := Aside0.mk Q_BK213
        have HI0 := Aside0.mk Q_HI0
        have HK := Aside0.mk Q_HK
        have HB := Aside0.mk Q_HB
        refine goes_ Try.func72 (by kernel_rfl) rfl #[VO38 a1, VO40 a2, .agg #[.int .i8 s0_0, .int .i8 s0_1, .int .i8 s0_2, .int .i8 s0_3, .int .i8 s0_4, .int .i8 s0_5], .agg #[.int .i8 a3_0, .int .i8 a3_1]] (by rfl) rfl rfl (by first | (simp only [List.map_toArray, List.map_cons, List.map_nil, Act.eval, Array.getD_eq_getD_getElem?, Option.getD_some, e17, e18, e22, e23]; done) | (simp only [List.map_toArray, List.map_cons, List.map_nil, Act.eval, Array.getD_eq_getD_getElem?, Option.getD_some, e17, e18, e22, e23]; rfl)) ?_
        with_reducible refine (impl_drift.calls a1 a2 s0_0 s0_1 s0_2 s0_3 s0_4 s0_5 a3_0 a3_1 t214 t215 t216 t217 t218 t219 t220 t221 _ A10.out).mono ?_
        rintro e w16 ⟨rfl, hb⟩
        refine ⟨_, rfl, ?_⟩
        have n0_ := Aside0.mk (IsS89.below (by repeat (first | (with_reducible first | exact HI0.out | apply IsS89.alloc | apply IsS89.drewN | apply IsS89.drew | apply IsS89.set_0 | apply IsS89.set_1 | apply IsS89.set_2 | apply IsS89.set_3 | apply IsS89.set_4 | apply IsS89.set_5 | apply IsS89.set_6 | refine IsS89.far ?_ NB0_211.out _ | refine IsS89.far ?_ NB0_212.out _ | refine IsS89.far ?_ NB0_213.out _) | exact HI0.out)) hb)
        have n1_ := Aside0.mk (sqB BK211.out hb)
        have n2_ := Aside0.mk (sqB BK212.out hb)
        have n3_ := Aside0.mk (sqB BK213.out hb)
        have n4_ := Aside0.mk (KeepBut.trans (by repeat (first | (with_reducible first | exact HK.out | apply KeepBut.set_ | apply keep_drewN | apply keep_drew | apply keep_alloc | refine keep_far ?_ GW211.out _ | refine keep_far ?_ GW212.out _ | refine keep_far ?_ GW213.out _) | exact HK.out)) (KeepBut.of_below hb g none) (.inl rfl))
        have n5_ := Aside0.mk (below_step (by repeat (first | (with_reducible first | exact HB.out | apply below_alloc | apply pw_below_drewN | apply below_drew1 | refine below_set ?_ (IsS89.ge HI0.out) | refine below_set ?_ GE211.out | refine below_set ?_ GE212.out | refine below_set ?_ GE213.out) | exact HB.out)) hb)
        have z_BK222 := fun (h0_ : b 12 = true) (h1_ : b 13 = false) => (show w16.heap[gb222]? = some (.cells #[.int .i8 0, .int .i8 0, .int .i8 0, .int .i8 0, .int .i8 0, .int .i8 0] 44 (0, 0)) from by first | exact (blk_below (g := gb222) (o := .cells #[.int .i8 0, .int .i8 0, .int .i8 0, .int .i8 0, .int .i8 0, .int .i8 0] 44 (0, 0)) (by (with_reducible repeat (first | refine blk_drewN ?_ _ | refine blk_drew ?_ | refine blk_alloc ?_ _)); exact (Q_BK222 h0_ h1_)) hb))
        clear HI0
        clear BK211
        clear BK212
        clear BK213
        clear HK
        clear HB
        have HI0 := n0_
        have BK211 := n1_
        have BK212 := n2_
        have BK213 := n3_
        have HK := n4_
        have HB := n5_
        clear n0_ n1_ n2_ n3_ n4_ n5_
        (try clear hb)
        (try clear hb2)
        (try clear hk)
        (try clear hi)
        refine hK.out _ _ ⟨gb222, m12_, (by rw [ha.out]; exact putSel_upk 6 hb_ rfl rfl rfl), (sqO BK211.out), (sqO BK212.out), (sqO BK213.out), (by repeat (first | (with_reducible first | exact HI0.out | apply IsS89.alloc | apply IsS89.drewN | apply IsS89.drew | apply IsS89.set_0 | apply IsS89.set_1 | apply IsS89.set_2 | apply IsS89.set_3 | apply IsS89.set_4 | apply IsS89.set_5 | apply IsS89.set_6 | refine IsS89.far ?_ NB0_211.out _ | refine IsS89.far ?_ NB0_212.out _ | refine IsS89.far ?_ NB0_213.out _) | exact HI0.out)), (by repeat (first | (with_reducible first | exact HK.out | apply KeepBut.set_ | apply keep_drewN | apply keep_drew | apply keep_alloc | refine keep_far ?_ GW211.out _ | refine keep_far ?_ GW212.out _ | refine keep_far ?_ GW213.out _) | exact HK.out)), (by repeat (first | (with_reducible first | exact HB.out | apply below_alloc | apply pw_below_drewN | apply below_drew1 | refine below_set ?_ (IsS89.ge HI0.out) | refine below_set ?_ GE211.out | refine below_set ?_ GE212.out | refine below_set ?_ GE213.out) | exact HB.out)), z_BK222, Q_GW222, Q_GE222, Q_NB0_222, Q_NB222_0, Q_NB211_222, Q_NB222_211, Q_NB212_222, Q_NB222_212, Q_NB213_222, Q_NB222_213, fun h0_ => absurd ((hoff 13 (by kernel_rfl)).symm.trans h0_) (by decide), Q_X12_⟩
      refine steps_cons ?_ ?_
      · rintro b a w' ⟨gb222, m12_, ha, Q_BK211, Q_BK212, Q_BK213, Q_HI0, Q_HK, Q_HB, Q_BK222, Q_GW222, Q_GE222, Q_NB0_222, Q_NB222_0, Q_NB211_222, Q_NB222_211, Q_NB212_222, Q_NB222_212, Q_NB213_222, Q_NB222_213, Q_BK222_e13, Q_X12_⟩ hb_ hon hoff
        refine ⟨_, rfl, fun K hK => ?_⟩
        have e24 : a.tmps[24]? = some (.tuple #[.agg #[.int .i8 t214, .int .i8 t215, .int .i8 t216, .int .i8 t217, .int .i8 t218, .int .i8 t219], .bool t220, .bool t221]) := by rw [ha]; exact putSel_on (e := (7, 24, .tuple #[.agg #[.int .i8 t214, .int .i8 t215, .int .i8 t216, .int .i8 t217, .int .i8 t218, .int .i8 t219], .bool t220, .bool t221])) 6 rfl rfl (hon 7 (by kernel_rfl)) rfl
        replace ha := Aside0.mk ha
        have BK211 := Aside0.mk Q_BK211
        have BK212 := Aside0.mk Q_BK212
        have BK213 := Aside0.mk Q_BK213
        have HI0 := Aside0.mk Q_HI0
        have HK := Aside0.mk Q_HK
        have HB := Aside0.mk Q_HB
        refine value_ (w1 := w') (v := .tuple #[.agg #[.int .i8 t214, .int .i8 t215, .int .i8 t216, .int .i8 t217, .int .i8 t218, .int .i8 t219], .bool t220, .bool t221]) (by rfl) rfl ?_ ?_
        · go_simp
          (try simp only [i64_w])
          try rfl
        refine hK.out _ _ ⟨gb222, m12_, (by rw [ha.out]; exact putSel_upk 7 hb_ rfl rfl rfl), Q_BK211, Q_BK212, Q_BK213, Q_HI0, Q_HK, Q_HB, Q_BK222, Q_GW222, Q_GE222, Q_NB0_222, Q_NB222_0, Q_NB211_222, Q_NB222_211, Q_NB212_222, Q_NB222_212, Q_NB213_222, Q_NB222_213, fun h0_ => absurd ((hoff 13 (by kernel_rfl)).symm.trans h0_) (by decide), Q_X12_⟩
      refine steps_cons ?_ ?_
      · rintro b a w' ⟨gb222, m12_, ha, Q_BK211, Q_BK212, Q_BK213, Q_HI0, Q_HK, Q_HB, Q_BK222, Q_GW222, Q_GE222, Q_NB0_222, Q_NB222_0, Q_NB211_222, Q_NB222_211, Q_NB212_222, Q_NB222_212, Q_NB213_222, Q_NB222_213, Q_BK222_e13, Q_X12_⟩ hb_ hon hoff
        refine ⟨_, rfl, fun K hK => ?_⟩
        have e16 : a.tmps[16]? = some (.tuple #[.agg #[.int .i8 t214, .int .i8 t215, .int .i8 t216, .int .i8 t217, .int .i8 t218, .int .i8 t219], .bool t220, .bool t221]) := by rw [ha]; exact putSel_on (e := (8, 16, .tuple #[.agg #[.int .i8 t214, .int .i8 t215, .int .i8 t216, .int .i8 t217, .int .i8 t218, .int .i8 t219], .bool t220, .bool t221])) 7 rfl rfl (hon 8 (by kernel_rfl)) rfl
        replace ha := Aside0.mk ha
        have BK211 := Aside0.mk Q_BK211
        have BK212 := Aside0.mk Q_BK212
        have BK213 := Aside0.mk Q_BK213
        have HI0 := Aside0.mk Q_HI0
        have HK := Aside0.mk Q_HK
        have HB := Aside0.mk Q_HB
        refine value_ (w1 := w') (v := .agg #[.int .i8 t214, .int .i8 t215, .int .i8 t216, .int .i8 t217, .int .i8 t218, .int .i8 t219]) (by rfl) rfl ?_ ?_
        · go_simp
          (try simp only [i64_w])
          try rfl
        refine hK.out _ _ ⟨gb222, m12_, (by rw [ha.out]; exact putSel_upk 8 hb_ rfl rfl rfl), Q_BK211, Q_BK212, Q_BK213, Q_HI0, Q_HK, Q_HB, Q_BK222, Q_GW222, Q_GE222, Q_NB0_222, Q_NB222_0, Q_NB211_222, Q_NB222_211, Q_NB212_222, Q_NB222_212, Q_NB213_222, Q_NB222_213, fun h0_ => absurd ((hoff 13 (by kernel_rfl)).symm.trans h0_) (by decide), Q_X12_⟩
      refine steps_cons ?_ ?_
      · rintro b a w' ⟨gb222, m12_, ha, Q_BK211, Q_BK212, Q_BK213, Q_HI0, Q_HK, Q_HB, Q_BK222, Q_GW222, Q_GE222, Q_NB0_222, Q_NB222_0, Q_NB211_222, Q_NB222_211, Q_NB212_222, Q_NB222_212, Q_NB213_222, Q_NB222_213, Q_BK222_e13, Q_X12_⟩ hb_ hon hoff
        refine ⟨_, rfl, fun K hK => ?_⟩
        have e16 : a.tmps[16]? = some (.tuple #[.agg #[.int .i8 t214, .int .i8 t215, .int .i8 t216, .int .i8 t217, .int .i8 t218, .int .i8 t219], .bool t220, .bool t221]) := by rw [ha]; exact putSel_on (e := (8, 16, .tuple #[.agg #[.int .i8 t214, .int .i8 t215, .int .i8 t216, .int .i8 t217, .int .i8 t218, .int .i8 t219], .bool t220, .bool t221])) 7 rfl rfl (hon 8 (by kernel_rfl)) rfl
        replace ha := Aside0.mk ha
        have BK211 := Aside0.mk Q_BK211
        have BK212 := Aside0.mk Q_BK212
        have BK213 := Aside0.mk Q_BK213
        have HI0 := Aside0.mk Q_HI0
        have HK := Aside0.mk Q_HK
        have HB := Aside0.mk Q_HB
        refine value_ (w1 := w') (v := .bool t220) (by rfl) rfl ?_ ?_
        · go_simp
          (try simp only [i64_w])
          try rfl
        refine hK.out _ _ ⟨gb222, m12_, (by rw [ha.out]; exact putSel_upk 9 hb_ rfl rfl rfl), Q_BK211, Q_BK212, Q_BK213, Q_HI0, Q_HK, Q_HB, Q_BK222, Q_GW222, Q_GE222, Q_NB0_222, Q_NB222_0, Q_NB211_222, Q_NB222_211, Q_NB212_222, Q_NB222_212, Q_NB213_222, Q_NB222_213, Q_BK222_e13, Q_X12_⟩
      refine steps_cons ?_ ?_
      · rintro b a w' ⟨gb222, m12_, ha, Q_BK211, Q_BK212, Q_BK213, Q_HI0, Q_HK, Q_HB, Q_BK222, Q_GW222, Q_GE222, Q_NB0_222, Q_NB222_0, Q_NB211_222, Q_NB222_211, Q_NB212_222, Q_NB222_212, Q_NB213_222, Q_NB222_213, Q_BK222_e13, Q_X12_⟩ hb_ hon hoff
        refine ⟨_, rfl, fun K hK => ?_⟩
        have e16 : a.tmps[16]? = some (.tuple #[.agg #[.int .i8 t214, .int .i8 t215, .int .i8 t216, .int .i8 t217, .int .i8 t218, .int .i8 t219], .bool t220, .bool t221]) := by rw [ha]; exact putSel_on (e := (8, 16, .tuple #[.agg #[.int .i8 t214, .int .i8 t215, .int .i8 t216, .int .i8 t217, .int .i8 t218, .int .i8 t219], .bool t220, .bool t221])) 7 rfl rfl (hon 8 (by kernel_rfl)) rfl
        replace ha := Aside0.mk ha
        have BK211 := Aside0.mk Q_BK211
        have BK212 := Aside0.mk Q_BK212
        have BK213 := Aside0.mk Q_BK213
        have HI0 := Aside0.mk Q_HI0
        have HK := Aside0.mk Q_HK
        have HB := Aside0.mk Q_HB
        refine value_ (w1 := w') (v := .bool t221) (by rfl) rfl ?_ ?_
        · go_simp
          (try simp only [i64_w])
          try rfl
        refine hK.out _ _ ⟨gb222, m12_, (by rw [ha.out]; exact putSel_upk 10 hb_ rfl rfl rfl), Q_BK211, Q_BK212, Q_BK213, Q_HI0, Q_HK, Q_HB, Q_BK222, Q_GW222, Q_GE222, Q_NB0_222, Q_NB222_0, Q_NB211_222, Q_NB222_211, Q_NB212_222, Q_NB222_212, Q_NB213_222, Q_NB222_213, Q_BK222_e13, Q_X12_⟩
      refine steps_cons ?_ ?_
      · rintro b a w' ⟨gb222, m12_, ha, Q_BK211, Q_BK212, Q_BK213, Q_HI0, Q_HK, Q_HB, Q_BK222, Q_GW222, Q_GE222, Q_NB0_222, Q_NB222_0, Q_NB211_222, Q_NB222_211, Q_NB212_222, Q_NB222_212, Q_NB213_222, Q_NB222_213, Q_BK222_e13, Q_X12_⟩ hb_ hon hoff
        refine ⟨_, rfl, fun K hK => ?_⟩
        replace ha := Aside0.mk ha
        have BK211 := Aside0.mk Q_BK211
        have BK212 := Aside0.mk Q_BK212
        have BK213 := Aside0.mk Q_BK213
        have HI0 := Aside0.mk Q_HI0
        have HK := Aside0.mk Q_HK
        have HB := Aside0.mk Q_HB
        refine box_step ?hg (N := 9) ?hd (cs := #[.int .i8 0, .int .i8 0, .int .i8 0, .int .i8 0, .int .i8 0, .int .i8 0]) (t := 44) ?hr ?_; (case hd => rfl); (case hg => rfl); (case hr => first | (go_simp; done) | (go_simp; rfl))
        intro gb222 hg w16 hbox hb
        have n0_ := Aside0.mk (IsS89.below (by repeat (first | (with_reducible first | exact HI0.out | apply IsS89.alloc | apply IsS89.drewN | apply IsS89.drew | apply IsS89.set_0 | apply IsS89.set_1 | apply IsS89.set_2 | apply IsS89.set_3 | apply IsS89.set_4 | apply IsS89.set_5 | apply IsS89.set_6 | refine IsS89.far ?_ NB0_211.out _ | refine IsS89.far ?_ NB0_212.out _ | refine IsS89.far ?_ NB0_213.out _) | exact HI0.out)) hb)
        have n1_ := Aside0.mk (sqB BK211.out hb)
        have n2_ := Aside0.mk (sqB BK212.out hb)
        have n3_ := Aside0.mk (sqB BK213.out hb)
        have n4_ := Aside0.mk (KeepBut.trans (by repeat (first | (with_reducible first | exact HK.out | apply KeepBut.set_ | apply keep_drewN | apply keep_drew | apply keep_alloc | refine keep_far ?_ GW211.out _ | refine keep_far ?_ GW212.out _ | refine keep_far ?_ GW213.out _) | exact HK.out)) (KeepBut.of_below hb g none) (.inl rfl))
        have n5_ := Aside0.mk (below_step (by repeat (first | (with_reducible first | exact HB.out | apply below_alloc | apply pw_below_drewN | apply below_drew1 | refine below_set ?_ (IsS89.ge HI0.out) | refine below_set ?_ GE211.out | refine below_set ?_ GE212.out | refine below_set ?_ GE213.out) | exact HB.out)) hb)
        have n6_ := Aside0.mk (hbox)
        have n7_ := Aside0.mk ((by rw [hg]; exact (keep_size (w := w) (g := g) (row := none) (by repeat (first | (with_reducible first | exact HK.out | apply KeepBut.set_ | apply keep_drewN | apply keep_drew | apply keep_alloc | refine keep_far ?_ GW211.out _ | refine keep_far ?_ GW212.out _ | refine keep_far ?_ GW213.out _) | exact HK.out))) : w.heap.size ≤ gb222))
        have n8_ := Aside0.mk ((Nat.le_trans HW0.out (by rw [hg]; exact (keep_size (w := w) (g := g) (row := none) (by repeat (first | (with_reducible first | exact HK.out | apply KeepBut.set_ | apply keep_drewN | apply keep_drew | apply keep_alloc | refine keep_far ?_ GW211.out _ | refine keep_far ?_ GW212.out _ | refine keep_far ?_ GW213.out _) | exact HK.out))) : w.heap.size ≤ gb222) : w0.heap.size ≤ gb222))
        have n9_ := Aside0.mk ((by rw [hg]; exact Nat.ne_of_lt (blk_lt (g := gb211) (o := .cells (a1).A 38 (0, 0)) (sqO BK211.out)) : gb211 ≠ gb222))
        have n10_ := Aside0.mk ((by rw [hg]; exact Nat.ne_of_gt (blk_lt (g := gb211) (o := .cells (a1).A 38 (0, 0)) (sqO BK211.out)) : gb222 ≠ gb211))
        have n11_ := Aside0.mk ((by rw [hg]; exact Nat.ne_of_lt (blk_lt (g := gb212) (o := .cells (a2).A 40 (0, 0)) (sqO BK212.out)) : gb212 ≠ gb222))
        have n12_ := Aside0.mk ((by rw [hg]; exact Nat.ne_of_gt (blk_lt (g := gb212) (o := .cells (a2).A 40 (0, 0)) (sqO BK212.out)) : gb222 ≠ gb212))
        have n13_ := Aside0.mk ((by rw [hg]; exact Nat.ne_of_lt (blk_lt (g := gb213) (o := .cells #[.int .i8 a3_0, .int .i8 a3_1] 78 (0, 0)) (sqO BK213.out)) : gb213 ≠ gb222))
        have n14_ := Aside0.mk ((by rw [hg]; exact Nat.ne_of_gt (blk_lt (g := gb213) (o := .cells #[.int .i8 a3_0, .int .i8 a3_1] 78 (0, 0)) (sqO BK213.out)) : gb222 ≠ gb213))
        have n15_ := Aside0.mk ((by rw [hg]; exact Nat.ne_of_lt (IsS89.lt (show IsS89 w0 _ g s0_0 s0_1 s0_2 s0_3 s0_4 s0_5 false from by repeat (first | (with_reducible first | exact HI0.out | apply IsS89.alloc | apply IsS89.drewN | apply IsS89.drew | apply IsS89.set_0 | apply IsS89.set_1 | apply IsS89.set_2 | apply IsS89.set_3 | apply IsS89.set_4 | apply IsS89.set_5 | apply IsS89.set_6 | refine IsS89.far ?_ NB0_211.out _ | refine IsS89.far ?_ NB0_212.out _ | refine IsS89.far ?_ NB0_213.out _) | exact HI0.out))) : g ≠ gb222))
        have n16_ := Aside0.mk ((by rw [hg]; exact Nat.ne_of_gt (IsS89.lt (show IsS89 w0 _ g s0_0 s0_1 s0_2 s0_3 s0_4 s0_5 false from by repeat (first | (with_reducible first | exact HI0.out | apply IsS89.alloc | apply IsS89.drewN | apply IsS89.drew | apply IsS89.set_0 | apply IsS89.set_1 | apply IsS89.set_2 | apply IsS89.set_3 | apply IsS89.set_4 | apply IsS89.set_5 | apply IsS89.set_6 | refine IsS89.far ?_ NB0_211.out _ | refine IsS89.far ?_ NB0_212.out _ | refine IsS89.far ?_ NB0_213.out _) | exact HI0.out))) : gb222 ≠ g))
        clear HI0
        clear BK211
        clear BK212
        clear BK213
        clear HK
        clear HB
        have HI0 := n0_
        have BK211 := n1_
        have BK212 := n2_
        have BK213 := n3_
        have HK := n4_
        have HB := n5_
        have BK222 := n6_
        have GW222 := n7_
        have GE222 := n8_
        have NB211_222 := n9_
        have NB222_211 := n10_
        have NB212_222 := n11_
        have NB222_212 := n12_
        have NB213_222 := n13_
        have NB222_213 := n14_
        have NB0_222 := n15_
        have NB222_0 := n16_
        clear n0_ n1_ n2_ n3_ n4_ n5_ n6_ n7_ n8_ n9_ n10_ n11_ n12_ n13_ n14_ n15_ n16_
        clear hb hbox hg
        refine hK.out _ _ ⟨gb222, (.pointer (some ⟨gb222, 0, none⟩)), (by rw [ha.out]; exact putSel_upk 11 hb_ rfl rfl rfl), (sqO BK211.out), (sqO BK212.out), (sqO BK213.out), (by repeat (first | (with_reducible first | exact HI0.out | apply IsS89.alloc | apply IsS89.drewN | apply IsS89.drew | apply IsS89.set_0 | apply IsS89.set_1 | apply IsS89.set_2 | apply IsS89.set_3 | apply IsS89.set_4 | apply IsS89.set_5 | apply IsS89.set_6 | refine IsS89.far ?_ NB0_211.out _ | refine IsS89.far ?_ NB0_212.out _ | refine IsS89.far ?_ NB0_213.out _ | refine IsS89.far ?_ NB0_222.out _) | exact HI0.out)), (by repeat (first | (with_reducible first | exact HK.out | apply KeepBut.set_ | apply keep_drewN | apply keep_drew | apply keep_alloc | refine keep_far ?_ GW211.out _ | refine keep_far ?_ GW212.out _ | refine keep_far ?_ GW213.out _ | refine keep_far ?_ GW222.out _) | exact HK.out)), (by repeat (first | (with_reducible first | exact HB.out | apply below_alloc | apply pw_below_drewN | apply below_drew1 | refine below_set ?_ (IsS89.ge HI0.out) | refine below_set ?_ GE211.out | refine below_set ?_ GE212.out | refine below_set ?_ GE213.out | refine below_set ?_ GE222.out) | exact HB.out)), fun _ _ => (sqO BK222.out), fun _ => GW222.out, fun _ => GE222.out, fun _ => NB0_222.out, fun _ => NB222_0.out, fun _ => NB211_222.out, fun _ => NB222_211.out, fun _ => NB212_222.out, fun _ => NB222_212.out, fun _ => NB213_222.out, fun _ => NB222_213.out, fun h0_ => absurd ((hoff 13 (by kernel_rfl)).symm.trans h0_) (by decide), fun _ => rfl⟩
      refine steps_cons ?_ ?_
      · rintro b a w' ⟨gb222, m12_, ha, Q_BK211, Q_BK212, Q_BK213, Q_HI0, Q_HK, Q_HB, Q_BK222, Q_GW222, Q_GE222, Q_NB0_222, Q_NB222_0, Q_NB211_222, Q_NB222_211, Q_NB212_222, Q_NB222_212, Q_NB213_222, Q_NB222_213, Q_BK222_e13, Q_X12_⟩ hb_ hon hoff
        refine ⟨_, rfl, fun K hK => ?_⟩
        have e9 : a.tmps[9]? = some (m12_) := by rw [ha]; exact putSel_on (e := (12, 9, m12_)) 11 rfl rfl (hon 12 (by kernel_rfl)) rfl
        rw [Q_X12_ (hon 12 (by kernel_rfl))] at e9
        have e25 : a.tmps[25]? = some (.agg #[.int .i8 t214, .int .i8 t215, .int .i8 t216, .int .i8 t217, .int .i8 t218, .int .i8 t219]) := by rw [ha]; exact putSel_on (e := (9, 25, .agg #[.int .i8 t214, .int .i8 t215, .int .i8 t216, .int .i8 t217, .int .i8 t218, .int .i8 t219])) 8 rfl rfl (hon 9 (by kernel_rfl)) rfl
        replace ha := Aside0.mk ha
        have BK211 := Aside0.mk Q_BK211
        have BK212 := Aside0.mk Q_BK212
        have BK213 := Aside0.mk Q_BK213
        have HI0 := Aside0.mk Q_HI0
        have HK := Aside0.mk Q_HK
        have HB := Aside0.mk Q_HB
        have BK222 := Aside0.mk (Q_BK222 (hon 12 (by kernel_rfl)) hb_)
        have GW222 := Aside0.mk (Q_GW222 (hon 12 (by kernel_rfl)))
        have GE222 := Aside0.mk (Q_GE222 (hon 12 (by kernel_rfl)))
        have NB0_222 := Aside0.mk (Q_NB0_222 (hon 12 (by kernel_rfl)))
        have NB222_0 := Aside0.mk (Q_NB222_0 (hon 12 (by kernel_rfl)))
        have NB211_222 := Aside0.mk (Q_NB211_222 (hon 12 (by kernel_rfl)))
        have NB222_211 := Aside0.mk (Q_NB222_211 (hon 12 (by kernel_rfl)))
        have NB212_222 := Aside0.mk (Q_NB212_222 (hon 12 (by kernel_rfl)))
        have NB222_212 := Aside0.mk (Q_NB222_212 (hon 12 (by kernel_rfl)))
        have NB213_222 := Aside0.mk (Q_NB213_222 (hon 12 (by kernel_rfl)))
        have NB222_213 := Aside0.mk (Q_NB222_213 (hon 12 (by kernel_rfl)))
        have hs19 : w'.cell? ⟨gb222, 0, none⟩ = some (.int .i8 0) := (blk_cell BK222.out 0).trans rfl
        have hfs19 := blk_frozen BK222.out 0
        have hns19_0 := NB211_222.out
        have hns19_1 := NB212_222.out
        have hns19_2 := NB213_222.out
        have hms19_0 := NB222_211.out
        have hms19_1 := NB222_212.out
        have hms19_2 := NB222_213.out
        have hs20 : w'.cell? ⟨gb222, 1, none⟩ = some (.int .i8 0) := (blk_cell BK222.out 1).trans rfl
        have hfs20 := blk_frozen BK222.out 1
        have hns20_0 := NB211_222.out
        have hns20_1 := NB212_222.out
        have hns20_2 := NB213_222.out
        have hms20_0 := NB222_211.out
        have hms20_1 := NB222_212.out
        have hms20_2 := NB222_213.out
        have hs21 : w'.cell? ⟨gb222, 2, none⟩ = some (.int .i8 0) := (blk_cell BK222.out 2).trans rfl
        have hfs21 := blk_frozen BK222.out 2
        have hns21_0 := NB211_222.out
        have hns21_1 := NB212_222.out
        have hns21_2 := NB213_222.out
        have hms21_0 := NB222_211.out
        have hms21_1 := NB222_212.out
        have hms21_2 := NB222_213.out
        have hs22 : w'.cell? ⟨gb222, 3, none⟩ = some (.int .i8 0) := (blk_cell BK222.out 3).trans rfl
        have hfs22 := blk_frozen BK222.out 3
        have hns22_0 := NB211_222.out
        have hns22_1 := NB212_222.out
        have hns22_2 := NB213_222.out
        have hms22_0 := NB222_211.out
        have hms22_1 := NB222_212.out
        have hms22_2 := NB222_213.out
        have hs23 : w'.cell? ⟨gb222, 4, none⟩ = some (.int .i8 0) := (blk_cell BK222.out 4).trans rfl
        have hfs23 := blk_frozen BK222.out 4
        have hns23_0 := NB211_222.out
        have hns23_1 := NB212_222.out
        have hns23_2 := NB213_222.out
        have hms23_0 := NB222_211.out
        have hms23_1 := NB222_212.out
        have hms23_2 := NB222_213.out
        have hs24 : w'.cell? ⟨gb222, 5, none⟩ = some (.int .i8 0) := (blk_cell BK222.out 5).trans rfl
        have hfs24 := blk_frozen BK222.out 5
        have hns24_0 := NB211_222.out
        have hns24_1 := NB212_222.out
        have hns24_2 := NB213_222.out
        have hms24_0 := NB222_211.out
        have hms24_1 := NB222_212.out
        have hms24_2 := NB222_213.out
        refine skip_ (w1 := ?_) (by rfl) rfl ?_ ?_
        rotate_left
        · go_simp
          rfl
        refine hK.out _ _ ⟨gb222, m12_, (by rw [ha.out]; exact putSel_none (v := undef) rfl), (by (with_reducible repeat (first | refine blk_drewN ?_ _ | refine blk_drew ?_ | refine blk_alloc ?_ _)); refine blk_far ?_ NB211_222.out _; (with_reducible repeat (first | refine blk_drewN ?_ _ | refine blk_drew ?_ | refine blk_alloc ?_ _)); refine blk_far ?_ NB211_222.out _; (with_reducible repeat (first | refine blk_drewN ?_ _ | refine blk_drew ?_ | refine blk_alloc ?_ _)); refine blk_far ?_ NB211_222.out _; (with_reducible repeat (first | refine blk_drewN ?_ _ | refine blk_drew ?_ | refine blk_alloc ?_ _)); refine blk_far ?_ NB211_222.out _; (with_reducible repeat (first | refine blk_drewN ?_ _ | refine blk_drew ?_ | refine blk_alloc ?_ _)); refine blk_far ?_ NB211_222.out _; (with_reducible repeat (first | refine blk_drewN ?_ _ | refine blk_drew ?_ | refine blk_alloc ?_ _)); refine blk_far ?_ NB211_222.out _; (with_reducible repeat (first | refine blk_drewN ?_ _ | refine blk_drew ?_ | refine blk_alloc ?_ _)); exact BK211.out), (by (with_reducible repeat (first | refine blk_drewN ?_ _ | refine blk_drew ?_ | refine blk_alloc ?_ _)); refine blk_far ?_ NB212_222.out _; (with_reducible repeat (first | refine blk_drewN ?_ _ | refine blk_drew ?_ | refine blk_alloc ?_ _)); refine blk_far ?_ NB212_222.out _; (with_reducible repeat (first | refine blk_drewN ?_ _ | refine blk_drew ?_ | refine blk_alloc ?_ _)); refine blk_far ?_ NB212_222.out _; (with_reducible repeat (first | refine blk_drewN ?_ _ | refine blk_drew ?_ | refine blk_alloc ?_ _)); refine blk_far ?_ NB212_222.out _; (with_reducible repeat (first | refine blk_drewN ?_ _ | refine blk_drew ?_ | refine blk_alloc ?_ _)); refine blk_far ?_ NB212_222.out _; (with_reducible repeat (first | refine blk_drewN ?_ _ | refine blk_drew ?_ | refine blk_alloc ?_ _)); refine blk_far ?_ NB212_222.out _; (with_reducible repeat (first | refine blk_drewN ?_ _ | refine blk_drew ?_ | refine blk_alloc ?_ _)); exact BK212.out), (by (with_reducible repeat (first | refine blk_drewN ?_ _ | refine blk_drew ?_ | refine blk_alloc ?_ _)); refine blk_far ?_ NB213_222.out _; (with_reducible repeat (first | refine blk_drewN ?_ _ | refine blk_drew ?_ | refine blk_alloc ?_ _)); refine blk_far ?_ NB213_222.out _; (with_reducible repeat (first | refine blk_drewN ?_ _ | refine blk_drew ?_ | refine blk_alloc ?_ _)); refine blk_far ?_ NB213_222.out _; (with_reducible repeat (first | refine blk_drewN ?_ _ | refine blk_drew ?_ | refine blk_alloc ?_ _)); refine blk_far ?_ NB213_222.out _; (with_reducible repeat (first | refine blk_drewN ?_ _ | refine blk_drew ?_ | refine blk_alloc ?_ _)); refine blk_far ?_ NB213_222.out _; (with_reducible repeat (first | refine blk_drewN ?_ _ | refine blk_drew ?_ | refine blk_alloc ?_ _)); refine blk_far ?_ NB213_222.out _; (with_reducible repeat (first | refine blk_drewN ?_ _ | refine blk_drew ?_ | refine blk_alloc ?_ _)); exact BK213.out), (by repeat (first | (with_reducible first | exact HI0.out | apply IsS89.alloc | apply IsS89.drewN | apply IsS89.drew | apply IsS89.set_0 | apply IsS89.set_1 | apply IsS89.set_2 | apply IsS89.set_3 | apply IsS89.set_4 | apply IsS89.set_5 | apply IsS89.set_6 | refine IsS89.far ?_ NB0_211.out _ | refine IsS89.far ?_ NB0_212.out _ | refine IsS89.far ?_ NB0_213.out _ | refine IsS89.far ?_ NB0_222.out _) | exact HI0.out)), (by repeat (first | (with_reducible first | exact HK.out | apply KeepBut.set_ | apply keep_drewN | apply keep_drew | apply keep_alloc | refine keep_far ?_ GW211.out _ | refine keep_far ?_ GW212.out _ | refine keep_far ?_ GW213.out _ | refine keep_far ?_ GW222.out _) | exact HK.out)), (by repeat (first | (with_reducible first | exact HB.out | apply below_alloc | apply pw_below_drewN | apply below_drew1 | refine below_set ?_ (IsS89.ge HI0.out) | refine below_set ?_ GE211.out | refine below_set ?_ GE212.out | refine below_set ?_ GE213.out | refine below_set ?_ GE222.out) | exact HB.out)), fun _ h1_ => absurd ((up_self b 13).symm.trans h1_) (by decide), fun _ => GW222.out, fun _ => GE222.out, fun _ => NB0_222.out, fun _ => NB222_0.out, fun _ => NB211_222.out, fun _ => NB222_211.out, fun _ => NB212_222.out, fun _ => NB222_212.out, fun _ => NB213_222.out, fun _ => NB222_213.out, fun _ => (by (with_reducible repeat (first | refine blk_drewN ?_ _ | refine blk_drew ?_ | refine blk_alloc ?_ _)); refine blk_put (cs := #[.int .i8 t214, .int .i8 t215, .int .i8 t216, .int .i8 t217, .int .i8 t218, .int .i8 0]) ?_ 5 _ rfl; (with_reducible repeat (first | refine blk_drewN ?_ _ | refine blk_drew ?_ | refine blk_alloc ?_ _)); refine blk_put (cs := #[.int .i8 t214, .int .i8 t215, .int .i8 t216, .int .i8 t217, .int .i8 0, .int .i8 0]) ?_ 4 _ rfl; (with_reducible repeat (first | refine blk_drewN ?_ _ | refine blk_drew ?_ | refine blk_alloc ?_ _)); refine blk_put (cs := #[.int .i8 t214, .int .i8 t215, .int .i8 t216, .int .i8 0, .int .i8 0, .int .i8 0]) ?_ 3 _ rfl; (with_reducible repeat (first | refine blk_drewN ?_ _ | refine blk_drew ?_ | refine blk_alloc ?_ _)); refine blk_put (cs := #[.int .i8 t214, .int .i8 t215, .int .i8 0, .int .i8 0, .int .i8 0, .int .i8 0]) ?_ 2 _ rfl; (with_reducible repeat (first | refine blk_drewN ?_ _ | refine blk_drew ?_ | refine blk_alloc ?_ _)); refine blk_put (cs := #[.int .i8 t214, .int .i8 0, .int .i8 0, .int .i8 0, .int .i8 0, .int .i8 0]) ?_ 1 _ rfl; (with_reducible repeat (first | refine blk_drewN ?_ _ | refine blk_drew ?_ | refine blk_alloc ?_ _)); refine blk_put (cs := #[.int .i8 0, .int .i8 0, .int .i8 0, .int .i8 0, .int .i8 0, .int .i8 0]) ?_ 0 _ rfl; (with_reducible repeat (first | refine blk_drewN ?_ _ | refine blk_drew ?_ | refine blk_alloc ?_ _)); exact BK222.out), Q_X12_⟩
      refine steps_cons ?_ ?_
      · rintro b a w' ⟨gb222, m12_, ha, Q_BK211, Q_BK212, Q_BK213, Q_HI0, Q_HK, Q_HB, Q_BK222, Q_GW222, Q_GE222, Q_NB0_222, Q_NB222_0, Q_NB211_222, Q_NB222_211, Q_NB212_222, Q_NB222_212, Q_NB213_222, Q_NB222_213, Q_BK222_e13, Q_X12_⟩ hb_ hon hoff
        refine ⟨_, rfl, fun K hK => ?_⟩
        have e26 : a.tmps[26]? = some (.bool t220) := by rw [ha]; exact putSel_on (e := (10, 26, .bool t220)) 9 rfl rfl (hon 10 (by kernel_rfl)) rfl
        replace ha := Aside0.mk ha
        have BK211 := Aside0.mk Q_BK211
        have BK212 := Aside0.mk Q_BK212
        have BK213 := Aside0.mk Q_BK213
        have HI0 := Aside0.mk Q_HI0
        have HK := Aside0.mk Q_HK
        have HB := Aside0.mk Q_HB
        have GW222 := Aside0.mk (Q_GW222 (hon 12 (by kernel_rfl)))
        have GE222 := Aside0.mk (Q_GE222 (hon 12 (by kernel_rfl)))
        have NB0_222 := Aside0.mk (Q_NB0_222 (hon 12 (by kernel_rfl)))
        have NB222_0 := Aside0.mk (Q_NB222_0 (hon 12 (by kernel_rfl)))
        have NB211_222 := Aside0.mk (Q_NB211_222 (hon 12 (by kernel_rfl)))
        have NB222_211 := Aside0.mk (Q_NB222_211 (hon 12 (by kernel_rfl)))
        have NB212_222 := Aside0.mk (Q_NB212_222 (hon 12 (by kernel_rfl)))
        have NB222_212 := Aside0.mk (Q_NB222_212 (hon 12 (by kernel_rfl)))
        have NB213_222 := Aside0.mk (Q_NB213_222 (hon 12 (by kernel_rfl)))
        have NB222_213 := Aside0.mk (Q_NB222_213 (hon 12 (by kernel_rfl)))
        have BK222 := Aside0.mk (Q_BK222_e13 (hon 13 (by kernel_rfl)))
        refine value_ (w1 := w') (v := .bool t220) (by rfl) rfl ?_ ?_
        · go_simp
          (try simp only [i64_w])
          try rfl
        refine hK.out _ _ ⟨gb222, m12_, (by rw [ha.out]; exact putSel_upk 12 hb_ rfl rfl rfl), Q_BK211, Q_BK212, Q_BK213, Q_HI0, Q_HK, Q_HB, fun _ h1_ => absurd ((hon 13 (by kernel_rfl)).symm.trans h1_) (by decide), Q_GW222, Q_GE222, Q_NB0_222, Q_NB222_0, Q_NB211_222, Q_NB222_211, Q_NB212_222, Q_NB222_212, Q_NB213_222, Q_NB222_213, Q_BK222_e13, Q_X12_⟩
      refine steps_cons ?_ ?_
      · rintro b a w' ⟨gb222, m12_, ha, Q_BK211, Q_BK212, Q_BK213, Q_HI0, Q_HK, Q_HB, Q_BK222, Q_GW222, Q_GE222, Q_NB0_222, Q_NB222_0, Q_NB211_222, Q_NB222_211, Q_NB212_222, Q_NB222_212, Q_NB213_222, Q_NB222_213, Q_BK222_e13, Q_X12_⟩ hb_ hon hoff
        refine ⟨_, rfl, fun K hK => ?_⟩
        have e27 : a.tmps[27]? = some (.bool t221) := by rw [ha]; exact putSel_on (e := (11, 27, .bool t221)) 10 rfl rfl (hon 11 (by kernel_rfl)) rfl
        replace ha := Aside0.mk ha
        have BK211 := Aside0.mk Q_BK211
        have BK212 := Aside0.mk Q_BK212
        have BK213 := Aside0.mk Q_BK213
        have HI0 := Aside0.mk Q_HI0
        have HK := Aside0.mk Q_HK
        have HB := Aside0.mk Q_HB
        have GW222 := Aside0.mk (Q_GW222 (hon 12 (by kernel_rfl)))
        have GE222 := Aside0.mk (Q_GE222 (hon 12 (by kernel_rfl)))
        have NB0_222 := Aside0.mk (Q_NB0_222 (hon 12 (by kernel_rfl)))
        have NB222_0 := Aside0.mk (Q_NB222_0 (hon 12 (by kernel_rfl)))
        have NB211_222 := Aside0.mk (Q_NB211_222 (hon 12 (by kernel_rfl)))
        have NB222_211 := Aside0.mk (Q_NB222_211 (hon 12 (by kernel_rfl)))
        have NB212_222 := Aside0.mk (Q_NB212_222 (hon 12 (by kernel_rfl)))
        have NB222_212 := Aside0.mk (Q_NB222_212 (hon 12 (by kernel_rfl)))
        have NB213_222 := Aside0.mk (Q_NB213_222 (hon 12 (by kernel_rfl)))
        have NB222_213 := Aside0.mk (Q_NB222_213 (hon 12 (by kernel_rfl)))
        have BK222 := Aside0.mk (Q_BK222_e13 (hon 13 (by kernel_rfl)))
        refine value_ (w1 := w') (v := .bool t221) (by rfl) rfl ?_ ?_
        · go_simp
          (try simp only [i64_w])
          try rfl
        refine hK.out _ _ ⟨gb222, m12_, (by rw [ha.out]; exact putSel_upk 13 hb_ rfl rfl rfl), Q_BK211, Q_BK212, Q_BK213, Q_HI0, Q_HK, Q_HB, fun _ h1_ => absurd ((hon 13 (by kernel_rfl)).symm.trans h1_) (by decide), Q_GW222, Q_GE222, Q_NB0_222, Q_NB222_0, Q_NB211_222, Q_NB222_211, Q_NB212_222, Q_NB222_212, Q_NB213_222, Q_NB222_213, Q_BK222_e13, Q_X12_⟩
      exact steps_nil
    rintro b a w24 hall ⟨gb222, m12_, ha, Q_BK211, Q_BK212, Q_BK213, Q_HI0, Q_HK, Q_HB, Q_BK222, Q_GW222, Q_GE222, Q_NB0_222, Q_NB222_0, Q_NB211_222, Q_NB222_211, Q_NB212_222, Q_NB222_212, Q_NB213_222, Q_NB222_213, Q_BK222_e13, Q_X12_⟩
    clear BK211 BK212 BK213 HB HI0 HK
    have hb0_ := hall 0 (by kernel_rfl)
    have hb1_ := hall 1 (by kernel_rfl)
    have hb3_ := hall 3 (by kernel_rfl)
    have hb4_ := hall 4 (by kernel_rfl)
    have hb5_ := hall 5 (by kernel_rfl)
    have hb6_ := hall 6 (by kernel_rfl)
    have hb7_ := hall 7 (by kernel_rfl)
    have hb8_ := hall 8 (by kernel_rfl)
    have hb9_ := hall 9 (by kernel_rfl)
    have hb10_ := hall 10 (by kernel_rfl)
    have hb11_ := hall 11 (by kernel_rfl)
    have hb12_ := hall 12 (by kernel_rfl)
    have hb13_ := hall 13 (by kernel_rfl)
    have hb14_ := hall 14 (by kernel_rfl)
    have hb15_ := hall 15 (by kernel_rfl)
    subst ha
    obtain rfl := Q_X12_ hb12_
    simp only [putSel, hb0_, hb1_, hb3_, hb4_, hb5_, hb6_, hb7_, hb8_, hb9_, hb10_, hb11_, hb12_, hb13_, hb14_, hb15_, if_true, Act.put, List.setIfInBounds_toArray, List.set_cons_zero, List.set_cons_succ]
    have BK211 := Aside0.mk Q_BK211
    clear Q_BK211
    have BK212 := Aside0.mk Q_BK212
    clear Q_BK212
    have BK213 := Aside0.mk Q_BK213
    clear Q_BK213
    have HI0 := Aside0.mk Q_HI0
    clear Q_HI0
    have HK := Aside0.mk Q_HK
    clear Q_HK
    have HB := Aside0.mk Q_HB
    clear Q_HB
    clear Q_BK222
    have GW222 := Aside0.mk (Q_GW222 hb12_)
    clear Q_GW222
    have GE222 := Aside0.mk (Q_GE222 hb12_)
    clear Q_GE222
    have NB0_222 := Aside0.mk (Q_NB0_222 hb12_)
    clear Q_NB0_222
    have NB222_0 := Aside0.mk (Q_NB222_0 hb12_)
    clear Q_NB222_0
    have NB211_222 := Aside0.mk (Q_NB211_222 hb12_)
    clear Q_NB211_222
    have NB222_211 := Aside0.mk (Q_NB222_211 hb12_)
    clear Q_NB222_211
    have NB212_222 := Aside0.mk (Q_NB212_222 hb12_)
    clear Q_NB212_222
    have NB222_212 := Aside0.mk (Q_NB222_212 hb12_)
    clear Q_NB222_212
    have NB213_222 := Aside0.mk (Q_NB213_222 hb12_)
    clear Q_NB213_222
    have NB222_213 := Aside0.mk (Q_NB222_213 hb12_)
    clear Q_NB222_213
    have BK222 := Aside0.mk (Q_BK222_e13 hb13_)
    clear Q_BK222_e13
    clear hall hb0_ hb1_ hb3_ hb4_ hb5_ hb6_ hb7_ hb8_ hb9_ hb10_ hb11_ hb12_ hb13_ hb14_ hb15_
    have hnb25 := NB222_211.out
    have hnc25 := NB211_222.out
    have hnb26 := NB222_212.out
    have hnc26 := NB212_222.out
    have hnb27 := NB222_213.out
    have hnc27 := NB213_222.out
    have hnb28 := NB222_0.out
    have hnc28 := NB0_222.out
    have hcz29_0 : w24.cell? ⟨gb222, 0, none⟩ = some (.int .i8 t214) := (blk_cell BK222.out 0).trans rfl
    have hcz29_1 : w24.cell? ⟨gb222, 1, none⟩ = some (.int .i8 t215) := (blk_cell BK222.out 1).trans rfl
    have hcz29_2 : w24.cell? ⟨gb222, 2, none⟩ = some (.int .i8 t216) := (blk_cell BK222.out 2).trans rfl
    have hcz29_3 : w24.cell? ⟨gb222, 3, none⟩ = some (.int .i8 t217) := (blk_cell BK222.out 3).trans rfl
    have hcz29_4 : w24.cell? ⟨gb222, 4, none⟩ = some (.int .i8 t218) := (blk_cell BK222.out 4).trans rfl
    have hcz29_5 : w24.cell? ⟨gb222, 5, none⟩ = some (.int .i8 t219) := (blk_cell BK222.out 5).trans rfl
    have hfz29_0 := blk_frozen BK222.out 0
    have hfz29_1 := blk_frozen BK222.out 1
    have hfz29_2 := blk_frozen BK222.out 2
    have hfz29_3 := blk_frozen BK222.out 3
    have hfz29_4 := blk_frozen BK222.out 4
    have hfz29_5 := blk_frozen BK222.out 5
    obtain ⟨HGz30, hgz30⟩ := HI0.out
    have hcz30_0 := cellS89_0 HGz30
    have hcz30_1 := cellS89_1 HGz30
    have hcz30_2 := cellS89_2 HGz30
    have hcz30_3 := cellS89_3 HGz30
    have hcz30_4 := cellS89_4 HGz30
    have hcz30_5 := cellS89_5 HGz30
    have hcz30_6 := cellS89_6 HGz30
    have hfz30_0 := blk_frozen HGz30 0
    have hfz30_1 := blk_frozen HGz30 1
    have hfz30_2 := blk_frozen HGz30 2
    have hfz30_3 := blk_frozen HGz30 3
    have hfz30_4 := blk_frozen HGz30 4
    have hfz30_5 := blk_frozen HGz30 5
    have hfz30_6 := blk_frozen HGz30 6
    clear HGz30 hgz30
    try go_wp2
    go_ret
    exact ⟨by first | rfl | (simp [errW_none, errW_some] <;> rfl) | (simp [*, errW_none, errW_some] <;> rfl), by repeat (first | (with_reducible first | exact HI0.out | apply IsS89.alloc | apply IsS89.drewN | apply IsS89.drew | apply IsS89.set_0 | apply IsS89.set_1 | apply IsS89.set_2 | apply IsS89.set_3 | apply IsS89.set_4 | apply IsS89.set_5 | apply IsS89.set_6 | refine IsS89.far ?_ NB0_211.out _ | refine IsS89.far ?_ NB0_212.out _ | refine IsS89.far ?_ NB0_213.out _ | refine IsS89.far ?_ NB0_222.out _) | exact HI0.out), by repeat (first | (with_reducible first | exact HB.out | apply below_alloc | apply pw_below_drewN | apply below_drew1 | refine below_set ?_ (IsS89.ge HI0.out) | refine below_set ?_ GE211.out | refine below_set ?_ GE212.out | refine below_set ?_ GE213.out | refine below_set ?_ GE222.out) | exact HB.out), by repeat (first | (with_reducible first | exact HK.out | apply KeepBut.set_ | apply keep_drewN | apply keep_drew | apply keep_alloc | refine keep_far ?_ GW211.out _ | refine keep_far ?_ GW212.out _ | refine keep_far ?_ GW213.out _ | refine keep_far ?_ GW222.out _) | exact HK.out)⟩
end Go.Proofs.Ytmhmfhdmeedcfaa.G
end
section
namespace Go.Proofs.Ytmhmfhdmeedcfaa.G
open Go.RowKit Go.Proofs.YtmhmfhdmeedcfaaW.PrintWords Go.Proofs.YtmhmfhdmeedcfaaW.PrintLast Go.Proofs.YtmhmfhdmeedcfaaW.PrintMore
attribute [local go_sem] max2_int min2_int max_two min_two max_three min_three max_four min_four   -- for this text's walks alone
set_option linter.unusedVariables false
set_option linter.unusedSimpArgs false
def impl_AgroundAt_1.f (s0_0 : Int) (s0_1 : Int) (s0_2 : Int) (s0_3 : Int) (s0_4 : Int) (s0_5 : Int) (s0_6 : Bool) (a1 : Bool) : Option (Bool × Int × Int × Int × Int × Int × Int × Bool) := some (s0_6, s0_0, s0_1, s0_2, s0_3, s0_4, s0_5, s0_6)
set_option maxHeartbeats 8000000 in
set_option maxRecDepth 100000 in
theorem impl_AgroundAt_1.calls (g : Nat) (s0_0 : Int) (s0_1 : Int) (s0_2 : Int) (s0_3 : Int) (s0_4 : Int) (s0_5 : Int) (s0_6 : Bool) (a1 : Bool) (r1 : Bool) (r2 : Int) (r3 : Int) (r4 : Int) (r5 : Int) (r6 : Int) (r7 : Int) (r8 : Bool) (w0 w : World) (hI : IsS89 w0 w g s0_0 s0_1 s0_2 s0_3 s0_4 s0_5 s0_6) (hB : Below w0.heap.size w0 w) (h : impl_AgroundAt_1.f s0_0 s0_1 s0_2 s0_3 s0_4 s0_5 s0_6 a1 = some (r1, r2, r3, r4, r5, r6, r7, r8)) :
    Calls Try.prog 46 #[.pointer (some ⟨g, 0, none⟩), .bool a1] w fun e w' => e = .returned (.bool r1) ∧ IsS89 w0 w' g r2 r3 r4 r5 r6 r7 r8 ∧ Below w0.heap.size w0 w' ∧ KeepBut w w' g none := by
  have HI0 := Aside0.mk hI
  have HK := Aside0.mk (KeepBut.refl w g none)
  have HL := Aside0.mk hB.size
  clear hI
  have HW0 := Aside0.mk hB.size
  have HB := Aside0.mk hB
  clear hB
  have H : (some (s0_6, s0_0, s0_1, s0_2, s0_3, s0_4, s0_5, s0_6)) = some (r1, r2, r3, r4, r5, r6, r7, r8) := h
  clear h
  simp only [Option.some.injEq, Prod.mk.injEq] at H
  obtain ⟨rfl, rfl, rfl, rfl, rfl, rfl, rfl, rfl⟩ := H
  obtain ⟨HGz3, hgz3⟩ := HI0.out
  have hcz3_0 := cellS89_0 HGz3
  have hcz3_1 := cellS89_1 HGz3
  have hcz3_2 := cellS89_2 HGz3
  have hcz3_3 := cellS89_3 HGz3
  have hcz3_4 := cellS89_4 HGz3
  have hcz3_5 := cellS89_5 HGz3
  have hcz3_6 := cellS89_6 HGz3
  have hfz3_0 := blk_frozen HGz3 0
  have hfz3_1 := blk_frozen HGz3 1
  have hfz3_2 := blk_frozen HGz3 2
  have hfz3_3 := blk_frozen HGz3 3
  have hfz3_4 := blk_frozen HGz3 4
  have hfz3_5 := blk_frozen HGz3 5
  have hfz3_6 := blk_frozen HGz3 6
  clear HGz3 hgz3
  go_enter Try.func46, Try.ntmps46
  go_wp2
  go_ret
  exact ⟨by first | rfl | (simp [errW_none, errW_some] <;> rfl) | (simp [*, errW_none, errW_some] <;> rfl), by repeat (first | (with_reducible first | exact HI0.out | apply IsS89.alloc | apply IsS89.drewN | apply IsS89.drew | apply IsS89.set_0 | apply IsS89.set_1 | apply IsS89.set_2 | apply IsS89.set_3 | apply IsS89.set_4 | apply IsS89.set_5 | apply IsS89.set_6) | exact HI0.out), by repeat (first | (with_reducible first | exact HB.out | apply below_alloc | apply pw_below_drewN | apply below_drew1 | refine below_set ?_ (IsS89.ge HI0.out)) | exact HB.out), by repeat (first | (with_reducible first | exact HK.out | apply KeepBut.set_ | apply keep_drewN | apply keep_drew | apply keep_alloc) | exact HK.out)⟩
end Go.Proofs.Ytmhmfhdmeedcfaa.G
end
