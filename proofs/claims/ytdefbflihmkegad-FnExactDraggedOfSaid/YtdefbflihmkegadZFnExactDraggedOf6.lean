/- A part of the proof of: FnExactDraggedOf returns true, whatever the input, and leaves its arguments as they were. -/
import Derived.Test.YtdefbflihmkegadProg
import Derived.Below
import Derived.Deep.Draws
import Derived.Deep.AppendLies
import Derived.Maps.AppendAt
import Derived.OwnWalk
import Derived.Laws.BytesArg
import Derived.Laws.MakeOwn
import Derived.Laws.OwnMore
import Derived.Deep.OwnRows
import Derived.Tactics
import Derived.Lib.ConvBytes
import Derived.Laws.Slices
import Derived.WalkKit
import Derived.KernelRfl
import Derived.RowKit3
import Derived.Deep.LoopGhost
import Derived.Deep.QuietTactic
import Derived.BigQuiet
import Derived.WideLaws
import Derived.Deep.DeepCutAuto
import Derived.Deep.CutBlock
import Derived.Deep.RegionHeld3
import Derived.Laws.Rows
import Derived.Lib.AppendStr
import Derived.ArgAppend
import Derived.Laws.IdiomCopy
import Derived.OrdersHeld
import Derived.Laws.BitsLemmas
import Derived.RowKit
import Derived.Laws.StructEq
import Derived.Deep.Slices
import Derived.ChangeSame
import Derived.ChangeArms
import Derived.OpenShut
import Derived.ProofKit
import Derived.Laws.Tables
import Derived.Laws.CopyOwn
import Derived.Laws.CopyRow
import Derived.Lib.Hide
import Derived.Test.YtdefbflihmkegadZFnExactDraggedOf1
import Derived.Test.YtdefbflihmkegadZFnExactDraggedOf2
import Derived.Test.YtdefbflihmkegadZFnExactDraggedOf3
import Derived.Test.YtdefbflihmkegadZFnExactDraggedOf4
import Derived.Test.YtdefbflihmkegadZFnExactDraggedOf5
section
namespace Go.Proofs.Ytdefbflihmkegad.G
open Go.RowKit Go.Proofs.YtdefbflihmkegadW.PrintWords Go.Proofs.YtdefbflihmkegadW.PrintLast Go.Proofs.YtdefbflihmkegadW.PrintMore
attribute [local go_sem] max2_int min2_int max_two min_two max_three min_three max_four min_four   -- for this text's walks alone
set_option linter.unusedVariables false
set_option linter.unusedSimpArgs false
def laws_markBoatS.l0 : Nat → List (S57) → Int → Int → Option (Int × (List (S57)))
  | 0, _, _, _ => none
  | k + 1, x0, x1, x5 => if x5 < (x0.length : Int) then (if 0 ≤ x5 then ((some (x0.set (x5 : Int).toNat (⟨(⟨IntKind.i8.wrap (x1), (rd_T57 x0 x5).f0.f1⟩ : S55), (rd_T57 x0 x5).f1, (rd_T57 x0 x5).f2, (rd_T57 x0 x5).f3, (rd_T57 x0 x5).f4⟩ : S57) : List (S57))).bind fun y249 => ((some (y249.set (x5 : Int).toNat (⟨(⟨(rd_T57 y249 x5).f0.f0, IntKind.i8.wrap (wrap64 (x1 + 1))⟩ : S55), (rd_T57 y249 x5).f1, (rd_T57 y249 x5).f2, (rd_T57 y249 x5).f3, (rd_T57 y249 x5).f4⟩ : S57) : List (S57))).bind fun y250 => ((some (y250.set (x5 : Int).toNat (⟨(⟨(rd_T57 y250 x5).f0.f0, (rd_T57 y250 x5).f0.f1⟩ : S55), IntKind.i8.wrap (wrap64 ((wrap64 (x1 + 1)) + 1)), (rd_T57 y250 x5).f2, (rd_T57 y250 x5).f3, (rd_T57 y250 x5).f4⟩ : S57) : List (S57))).bind fun y251 => ((some (y251.set (x5 : Int).toNat (⟨(⟨(rd_T57 y251 x5).f0.f0, (rd_T57 y251 x5).f0.f1⟩ : S55), (rd_T57 y251 x5).f1, IntKind.i8.wrap (wrap64 ((wrap64 ((wrap64 (x1 + 1)) + 1)) + 1)), (rd_T57 y251 x5).f3, (rd_T57 y251 x5).f4⟩ : S57) : List (S57))).bind fun y252 => ((some (y252.set (x5 : Int).toNat (⟨(⟨(rd_T57 y252 x5).f0.f0, (rd_T57 y252 x5).f0.f1⟩ : S55), (rd_T57 y252 x5).f1, (rd_T57 y252 x5).f2, IntKind.i8.wrap (wrap64 ((wrap64 ((wrap64 ((wrap64 (x1 + 1)) + 1)) + 1)) + 1)), (rd_T57 y252 x5).f4⟩ : S57) : List (S57))).bind fun y253 => (laws_markBoatS.l0 k (y253.set (x5 : Int).toNat (⟨(⟨(rd_T57 y253 x5).f0.f0, (rd_T57 y253 x5).f0.f1⟩ : S55), (rd_T57 y253 x5).f1, (rd_T57 y253 x5).f2, (rd_T57 y253 x5).f3, IntKind.i8.wrap (wrap64 ((wrap64 ((wrap64 ((wrap64 ((wrap64 (x1 + 1)) + 1)) + 1)) + 1)) + 1))⟩ : S57)) (wrap64 ((wrap64 ((wrap64 ((wrap64 ((wrap64 ((wrap64 (x1 + 1)) + 1)) + 1)) + 1)) + 1)) + 1)) (wrap64 (x5 + 1)))))))) else (none)) else (some (x1, x0))
def laws_markBoatS.f (k : Nat) (l0 : List (S57)) (a1 : Int) : Option (Int × (List (S57))) := laws_markBoatS.l0 k l0 a1 0
set_option maxHeartbeats 8000000 in
set_option maxRecDepth 100000 in
theorem laws_markBoatS.calls (k : Nat) (P0_ : Nat → Prop) (u9000_ : Value) (l0 : List (S57)) (a1 : Int) (r1 : Int) (r2 : List (S57)) (w0 w : World) (hB : Below w0.heap.size w0 w) (ho0 : Kd.R k57 57 w w0.heap.size P0_ u9000_ l0) (h : laws_markBoatS.f k l0 a1 = some (r1, r2)) :
    Calls Try.prog 14 #[u9000_, .int .i64 a1] w fun e w' => e = .returned (.int .i64 r1) ∧ Kd.R k57 57 w' w0.heap.size (fun k_ => (P0_ k_ ∨ w.heap.size ≤ k_)) u9000_ r2 ∧ Below w0.heap.size w0 w' ∧ Kept w w' (fun k_ => P0_ k_) := by
  have HO0 := Aside0.mk (show Kd.R k57 57 w w0.heap.size (fun k_ => (P0_ k_ ∨ w.heap.size ≤ k_)) u9000_ l0 from Kd.R_mono ho0 (fun k_ hk => (.inl hk)))
  have HK := Aside0.mk (Kept.refl w (fun k_ => P0_ k_))
  have HW0 := Aside0.mk hB.size
  have HB := Aside0.mk hB
  clear hB
  have H : (laws_markBoatS.l0 k l0 a1 0) = some (r1, r2) := h
  clear h
  have H' := Aside0.mk H
  clear H
  go_enter Try.func14, Try.ntmps14
  go_wp2
  go_loopg [1, 5] k (fun kq v1 v5 w' => ∃ (x0_1 : List (S57)) (x1_1 : Int) (x5_1 : Int), v1 = .int .i64 x1_1 ∧ v5 = .int .i64 x5_1 ∧ Aside0 (laws_markBoatS.l0 kq x0_1 x1_1 x5_1 = some (r1, r2)) ∧ Aside0 (kq ≤ k) ∧ Aside0 (Kd.R k57 57 w' w0.heap.size (fun k_ => (P0_ k_ ∨ w.heap.size ≤ k_)) u9000_ x0_1) ∧ Aside0 (Kept w w' (fun k_ => P0_ k_)) ∧ Aside0 (Below w0.heap.size w0 w'))
  case atStart => exact ⟨(l0), (a1), (0), (by first | rfl | (simp; done) | (simp [*]; done)), (by first | rfl | (simp; done) | (simp [*]; done)), H', ⟨Nat.le_refl _⟩, ⟨by (with_reducible repeat (first | apply Kd.R_alloc | apply Kd.R_drewN | apply Kd.R_drew)); exact HO0.out⟩, ⟨by repeat (first | (with_reducible first | exact HK.out | apply Kept.alloc | apply Kept.drewN | apply Kept.drew) | exact HK.out)⟩, ⟨by repeat (first | (with_reducible first | exact HB.out | apply below_alloc | apply pw_below_drewN | apply below_drew1) | exact HB.out)⟩⟩
  case round =>
    clear H'
    try clear c1
    try clear p2
    obtain ⟨x0_1, x1_1, x5_1, rfl, rfl, HA, HK1, HO_0, HK, HB⟩ := hrel
    cases gk with
    | zero => exact absurd HA.out (by simp [laws_markBoatS.l0])
    | succ k1 =>
      have H := HA.out
      clear HA
      simp only [laws_markBoatS.l0] at H
      by_cases c3 : x5_1 < (x0_1.length : Int)
      · rw [if_pos c3] at H
        have c3b0 : decide (x5_1 < (x0_1.length : Int)) = true := decide_eq_true c3
        clear c3
        by_cases c4 : 0 ≤ x5_1
        · rw [if_pos c4] at H
          have c4b0 : decide (0 ≤ x5_1) = true := decide_eq_true c4
          clear c4
          obtain ⟨y249, hy249⟩ : ∃ y_ : List (S57), y_ = (x0_1.set (x5_1 : Int).toNat (⟨(⟨IntKind.i8.wrap (x1_1), (rd_T57 x0_1 x5_1).f0.f1⟩ : S55), (rd_T57 x0_1 x5_1).f1, (rd_T57 x0_1 x5_1).f2, (rd_T57 x0_1 x5_1).f3, (rd_T57 x0_1 x5_1).f4⟩ : S57)) := ⟨_, rfl⟩
          replace H : ((some (y249.set (x5_1 : Int).toNat (⟨(⟨(rd_T57 y249 x5_1).f0.f0, IntKind.i8.wrap (wrap64 (x1_1 + 1))⟩ : S55), (rd_T57 y249 x5_1).f1, (rd_T57 y249 x5_1).f2, (rd_T57 y249 x5_1).f3, (rd_T57 y249 x5_1).f4⟩ : S57) : List (S57))).bind fun y250 => ((some (y250.set (x5_1 : Int).toNat (⟨(⟨(rd_T57 y250 x5_1).f0.f0, (rd_T57 y250 x5_1).f0.f1⟩ : S55), IntKind.i8.wrap (wrap64 ((wrap64 (x1_1 + 1)) + 1)), (rd_T57 y250 x5_1).f2, (rd_T57 y250 x5_1).f3, (rd_T57 y250 x5_1).f4⟩ : S57) : List (S57))).bind fun y251 => ((some (y251.set (x5_1 : Int).toNat (⟨(⟨(rd_T57 y251 x5_1).f0.f0, (rd_T57 y251 x5_1).f0.f1⟩ : S55), (rd_T57 y251 x5_1).f1, IntKind.i8.wrap (wrap64 ((wrap64 ((wrap64 (x1_1 + 1)) + 1)) + 1)), (rd_T57 y251 x5_1).f3, (rd_T57 y251 x5_1).f4⟩ : S57) : List (S57))).bind fun y252 => ((some (y252.set (x5_1 : Int).toNat (⟨(⟨(rd_T57 y252 x5_1).f0.f0, (rd_T57 y252 x5_1).f0.f1⟩ : S55), (rd_T57 y252 x5_1).f1, (rd_T57 y252 x5_1).f2, IntKind.i8.wrap (wrap64 ((wrap64 ((wrap64 ((wrap64 (x1_1 + 1)) + 1)) + 1)) + 1)), (rd_T57 y252 x5_1).f4⟩ : S57) : List (S57))).bind fun y253 => (laws_markBoatS.l0 k1 (y253.set (x5_1 : Int).toNat (⟨(⟨(rd_T57 y253 x5_1).f0.f0, (rd_T57 y253 x5_1).f0.f1⟩ : S55), (rd_T57 y253 x5_1).f1, (rd_T57 y253 x5_1).f2, (rd_T57 y253 x5_1).f3, IntKind.i8.wrap (wrap64 ((wrap64 ((wrap64 ((wrap64 ((wrap64 (x1_1 + 1)) + 1)) + 1)) + 1)) + 1))⟩ : S57)) (wrap64 ((wrap64 ((wrap64 ((wrap64 ((wrap64 ((wrap64 (x1_1 + 1)) + 1)) + 1)) + 1)) + 1)) + 1)) (wrap64 (x5_1 + 1))))))) = some (r1, r2) := by first | (rw [hy249]; with_reducible exact H) | (have H2_ := (Option.bind_some _ _).symm.trans H; rw [hy249]; with_reducible exact H2_) | (have H2_ := (Option.bind_some _ _).symm.trans H; with_reducible exact H2_) | with_reducible exact H | (rw [hy249]; exact H) | exact H
          have Ny249 := Aside0.mk hy249
          clear hy249
          obtain ⟨y250, hy250⟩ : ∃ y_ : List (S57), y_ = (y249.set (x5_1 : Int).toNat (⟨(⟨(rd_T57 y249 x5_1).f0.f0, IntKind.i8.wrap (wrap64 (x1_1 + 1))⟩ : S55), (rd_T57 y249 x5_1).f1, (rd_T57 y249 x5_1).f2, (rd_T57 y249 x5_1).f3, (rd_T57 y249 x5_1).f4⟩ : S57)) := ⟨_, rfl⟩
          replace H : ((some (y250.set (x5_1 : Int).toNat (⟨(⟨(rd_T57 y250 x5_1).f0.f0, (rd_T57 y250 x5_1).f0.f1⟩ : S55), IntKind.i8.wrap (wrap64 ((wrap64 (x1_1 + 1)) + 1)), (rd_T57 y250 x5_1).f2, (rd_T57 y250 x5_1).f3, (rd_T57 y250 x5_1).f4⟩ : S57) : List (S57))).bind fun y251 => ((some (y251.set (x5_1 : Int).toNat (⟨(⟨(rd_T57 y251 x5_1).f0.f0, (rd_T57 y251 x5_1).f0.f1⟩ : S55), (rd_T57 y251 x5_1).f1, IntKind.i8.wrap (wrap64 ((wrap64 ((wrap64 (x1_1 + 1)) + 1)) + 1)), (rd_T57 y251 x5_1).f3, (rd_T57 y251 x5_1).f4⟩ : S57) : List (S57))).bind fun y252 => ((some (y252.set (x5_1 : Int).toNat (⟨(⟨(rd_T57 y252 x5_1).f0.f0, (rd_T57 y252 x5_1).f0.f1⟩ : S55), (rd_T57 y252 x5_1).f1, (rd_T57 y252 x5_1).f2, IntKind.i8.wrap (wrap64 ((wrap64 ((wrap64 ((wrap64 (x1_1 + 1)) + 1)) + 1)) + 1)), (rd_T57 y252 x5_1).f4⟩ : S57) : List (S57))).bind fun y253 => (laws_markBoatS.l0 k1 (y253.set (x5_1 : Int).toNat (⟨(⟨(rd_T57 y253 x5_1).f0.f0, (rd_T57 y253 x5_1).f0.f1⟩ : S55), (rd_T57 y253 x5_1).f1, (rd_T57 y253 x5_1).f2, (rd_T57 y253 x5_1).f3, IntKind.i8.wrap (wrap64 ((wrap64 ((wrap64 ((wrap64 ((wrap64 (x1_1 + 1)) + 1)) + 1)) + 1)) + 1))⟩ : S57)) (wrap64 ((wrap64 ((wrap64 ((wrap64 ((wrap64 ((wrap64 (x1_1 + 1)) + 1)) + 1)) + 1)) + 1)) + 1)) (wrap64 (x5_1 + 1)))))) = some (r1, r2) := by first | (rw [hy250]; with_reducible exact H) | (have H2_ := (Option.bind_some _ _).symm.trans H; rw [hy250]; with_reducible exact H2_) | (have H2_ := (Option.bind_some _ _).symm.trans H; with_reducible exact H2_) | with_reducible exact H | (rw [hy250]; exact H) | exact H
          have Ny250 := Aside0.mk hy250
          clear hy250
          obtain ⟨y251, hy251⟩ : ∃ y_ : List (S57), y_ = (y250.set (x5_1 : Int).toNat (⟨(⟨(rd_T57 y250 x5_1).f0.f0, (rd_T57 y250 x5_1).f0.f1⟩ : S55), IntKind.i8.wrap (wrap64 ((wrap64 (x1_1 + 1)) + 1)), (rd_T57 y250 x5_1).f2, (rd_T57 y250 x5_1).f3, (rd_T57 y250 x5_1).f4⟩ : S57)) := ⟨_, rfl⟩
          replace H : ((some (y251.set (x5_1 : Int).toNat (⟨(⟨(rd_T57 y251 x5_1).f0.f0, (rd_T57 y251 x5_1).f0.f1⟩ : S55), (rd_T57 y251 x5_1).f1, IntKind.i8.wrap (wrap64 ((wrap64 ((wrap64 (x1_1 + 1)) + 1)) + 1)), (rd_T57 y251 x5_1).f3, (rd_T57 y251 x5_1).f4⟩ : S57) : List (S57))).bind fun y252 => ((some (y252.set (x5_1 : Int).toNat (⟨(⟨(rd_T57 y252 x5_1).f0.f0, (rd_T57 y252 x5_1).f0.f1⟩ : S55), (rd_T57 y252 x5_1).f1, (rd_T57 y252 x5_1).f2, IntKind.i8.wrap (wrap64 ((wrap64 ((wrap64 ((wrap64 (x1_1 + 1)) + 1)) + 1)) + 1)), (rd_T57 y252 x5_1).f4⟩ : S57) : List (S57))).bind fun y253 => (laws_markBoatS.l0 k1 (y253.set (x5_1 : Int).toNat (⟨(⟨(rd_T57 y253 x5_1).f0.f0, (rd_T57 y253 x5_1).f0.f1⟩ : S55), (rd_T57 y253 x5_1).f1, (rd_T57 y253 x5_1).f2, (rd_T57 y253 x5_1).f3, IntKind.i8.wrap (wrap64 ((wrap64 ((wrap64 ((wrap64 ((wrap64 (x1_1 + 1)) + 1)) + 1)) + 1)) + 1))⟩ : S57)) (wrap64 ((wrap64 ((wrap64 ((wrap64 ((wrap64 ((wrap64 (x1_1 + 1)) + 1)) + 1)) + 1)) + 1)) + 1)) (wrap64 (x5_1 + 1))))) = some (r1, r2) := by first | (rw [hy251]; with_reducible exact H) | (have H2_ := (Option.bind_some _ _).symm.trans H; rw [hy251]; with_reducible exact H2_) | (have H2_ := (Option.bind_some _ _).symm.trans H; with_reducible exact H2_) | with_reducible exact H | (rw [hy251]; exact H) | exact H
          have Ny251 := Aside0.mk hy251
          clear hy251
          obtain ⟨y252, hy252⟩ : ∃ y_ : List (S57), y_ = (y251.set (x5_1 : Int).toNat (⟨(⟨(rd_T57 y251 x5_1).f0.f0, (rd_T57 y251 x5_1).f0.f1⟩ : S55), (rd_T57 y251 x5_1).f1, IntKind.i8.wrap (wrap64 ((wrap64 ((wrap64 (x1_1 + 1)) + 1)) + 1)), (rd_T57 y251 x5_1).f3, (rd_T57 y251 x5_1).f4⟩ : S57)) := ⟨_, rfl⟩
          replace H : ((some (y252.set (x5_1 : Int).toNat (⟨(⟨(rd_T57 y252 x5_1).f0.f0, (rd_T57 y252 x5_1).f0.f1⟩ : S55), (rd_T57 y252 x5_1).f1, (rd_T57 y252 x5_1).f2, IntKind.i8.wrap (wrap64 ((wrap64 ((wrap64 ((wrap64 (x1_1 + 1)) + 1)) + 1)) + 1)), (rd_T57 y252 x5_1).f4⟩ : S57) : List (S57))).bind fun y253 => (laws_markBoatS.l0 k1 (y253.set (x5_1 : Int).toNat (⟨(⟨(rd_T57 y253 x5_1).f0.f0, (rd_T57 y253 x5_1).f0.f1⟩ : S55), (rd_T57 y253 x5_1).f1, (rd_T57 y253 x5_1).f2, (rd_T57 y253 x5_1).f3, IntKind.i8.wrap (wrap64 ((wrap64 ((wrap64 ((wrap64 ((wrap64 (x1_1 + 1)) + 1)) + 1)) + 1)) + 1))⟩ : S57)) (wrap64 ((wrap64 ((wrap64 ((wrap64 ((wrap64 ((wrap64 (x1_1 + 1)) + 1)) + 1)) + 1)) + 1)) + 1)) (wrap64 (x5_1 + 1)))) = some (r1, r2) := by first | (rw [hy252]; with_reducible exact H) | (have H2_ := (Option.bind_some _ _).symm.trans H; rw [hy252]; with_reducible exact H2_) | (have H2_ := (Option.bind_some _ _).symm.trans H; with_reducible exact H2_) | with_reducible exact H | (rw [hy252]; exact H) | exact H
          have Ny252 := Aside0.mk hy252
          clear hy252
          obtain ⟨y253, hy253⟩ : ∃ y_ : List (S57), y_ = (y252.set (x5_1 : Int).toNat (⟨(⟨(rd_T57 y252 x5_1).f0.f0, (rd_T57 y252 x5_1).f0.f1⟩ : S55), (rd_T57 y252 x5_1).f1, (rd_T57 y252 x5_1).f2, IntKind.i8.wrap (wrap64 ((wrap64 ((wrap64 ((wrap64 (x1_1 + 1)) + 1)) + 1)) + 1)), (rd_T57 y252 x5_1).f4⟩ : S57)) := ⟨_, rfl⟩
          replace H : (laws_markBoatS.l0 k1 (y253.set (x5_1 : Int).toNat (⟨(⟨(rd_T57 y253 x5_1).f0.f0, (rd_T57 y253 x5_1).f0.f1⟩ : S55), (rd_T57 y253 x5_1).f1, (rd_T57 y253 x5_1).f2, (rd_T57 y253 x5_1).f3, IntKind.i8.wrap (wrap64 ((wrap64 ((wrap64 ((wrap64 ((wrap64 (x1_1 + 1)) + 1)) + 1)) + 1)) + 1))⟩ : S57)) (wrap64 ((wrap64 ((wrap64 ((wrap64 ((wrap64 ((wrap64 (x1_1 + 1)) + 1)) + 1)) + 1)) + 1)) + 1)) (wrap64 (x5_1 + 1))) = some (r1, r2) := by first | (rw [hy253]; with_reducible exact H) | (have H2_ := (Option.bind_some _ _).symm.trans H; rw [hy253]; with_reducible exact H2_) | (have H2_ := (Option.bind_some _ _).symm.trans H; with_reducible exact H2_) | with_reducible exact H | (rw [hy253]; exact H) | exact H
          have Ny253 := Aside0.mk hy253
          clear hy253
          obtain ⟨y254, hy254⟩ : ∃ y_ : List (S57), y_ = (y253.set (x5_1 : Int).toNat (⟨(⟨(rd_T57 y253 x5_1).f0.f0, (rd_T57 y253 x5_1).f0.f1⟩ : S55), (rd_T57 y253 x5_1).f1, (rd_T57 y253 x5_1).f2, (rd_T57 y253 x5_1).f3, IntKind.i8.wrap (wrap64 ((wrap64 ((wrap64 ((wrap64 ((wrap64 (x1_1 + 1)) + 1)) + 1)) + 1)) + 1))⟩ : S57)) := ⟨_, rfl⟩
          replace H : (laws_markBoatS.l0 k1 y254 (wrap64 ((wrap64 ((wrap64 ((wrap64 ((wrap64 ((wrap64 (x1_1 + 1)) + 1)) + 1)) + 1)) + 1)) + 1)) (wrap64 (x5_1 + 1))) = some (r1, r2) := by first | (rw [hy254]; with_reducible exact H) | (have H2_ := (Option.bind_some _ _).symm.trans H; rw [hy254]; with_reducible exact H2_) | (have H2_ := (Option.bind_some _ _).symm.trans H; with_reducible exact H2_) | with_reducible exact H | (rw [hy254]; exact H) | exact H
          have Ny254 := Aside0.mk hy254
          clear hy254
          have H' := Aside0.mk H
          clear H
          obtain ⟨Ao11, co11, eo11⟩ := Kd.R_slice HO_0.out
          subst eo11
          have p5 : 0 ≤ (x5_1 : Int) := of_decide_eq_true (by first | (with_reducible assumption) | assumption)
          have q5 : (x5_1 : Int) < ((x0_1.length : Int) : Int) := of_decide_eq_true (by first | (with_reducible assumption) | assumption)
          obtain ⟨go5, co5, eo5, gb5, gl5, cl5, HG5⟩ := Kd.R_form HO_0.out (by omega)
          (first | cases eo5 | (injection eo5 with ea_ en_ ec_; (first | subst ea_ | (injection ea_ with ea_; subst ea_)); subst ec_; clear en_))
          have GB5 := Aside0.mk gb5
          have GG5 := Aside0.mk HG5
          clear gb5 gl5 HG5
          have HMgo5 := Aside0.mk (show (P0_ go5 ∨ w.heap.size ≤ go5) from (HO_0.out.1 _ rfl))
          obtain ⟨ce5, hcl5, hM5, hcc5, hfr5⟩ := Kd.R_elem HO_0.out z57 (x5_1 : Int) p5 q5
          obtain rfl := k57_openM hM5
          have hx5_0 : wr.cell? ⟨go5, (x5_1 : Int).toNat * 6, none⟩ = some (.int .i8 ((rd_T57 x0_1 x5_1).f0.f0)) := hcc5 0 _ rfl
          have hx5_1 : wr.cell? ⟨go5, (x5_1 : Int).toNat * 6 + 1, none⟩ = some (.int .i8 ((rd_T57 x0_1 x5_1).f0.f1)) := hcc5 1 _ rfl
          have hx5_2 : wr.cell? ⟨go5, (x5_1 : Int).toNat * 6 + 2, none⟩ = some (.int .i8 ((rd_T57 x0_1 x5_1).f1)) := hcc5 2 _ rfl
          have hx5_3 : wr.cell? ⟨go5, (x5_1 : Int).toNat * 6 + 3, none⟩ = some (.int .i8 ((rd_T57 x0_1 x5_1).f2)) := hcc5 3 _ rfl
          have hx5_4 : wr.cell? ⟨go5, (x5_1 : Int).toNat * 6 + 4, none⟩ = some (.int .i8 ((rd_T57 x0_1 x5_1).f3)) := hcc5 4 _ rfl
          have hx5_5 : wr.cell? ⟨go5, (x5_1 : Int).toNat * 6 + 5, none⟩ = some (.int .i8 ((rd_T57 x0_1 x5_1).f4)) := hcc5 5 _ rfl
          have hf5_0 : wr.frozen? ⟨go5, (x5_1 : Int).toNat * 6, none⟩ = false := hfr5 0
          have hf5_1 : wr.frozen? ⟨go5, (x5_1 : Int).toNat * 6 + 1, none⟩ = false := hfr5 1
          have hf5_2 : wr.frozen? ⟨go5, (x5_1 : Int).toNat * 6 + 2, none⟩ = false := hfr5 2
          have hf5_3 : wr.frozen? ⟨go5, (x5_1 : Int).toNat * 6 + 3, none⟩ = false := hfr5 3
          have hf5_4 : wr.frozen? ⟨go5, (x5_1 : Int).toNat * 6 + 4, none⟩ = false := hfr5 4
          have hf5_5 : wr.frozen? ⟨go5, (x5_1 : Int).toNat * 6 + 5, none⟩ = false := hfr5 5
          (try clear hcl5); (try clear hcc5); (try clear hfr5); (try clear hM5)
          replace p5 := eq_true p5
          replace q5 := eq_true q5
          have HX12 := Aside0.mk (show Kd.R k57 57 wr w0.heap.size (fun k_ => (P0_ k_ ∨ w.heap.size ≤ k_)) (.slice (some ⟨go5, 0, none⟩) x0_1.length co11) x0_1 from (by (with_reducible repeat (first | apply Kd.R_alloc | apply Kd.R_drewN | apply Kd.R_drew)); exact HO_0.out))
          obtain ⟨ce12, hcl12, hM12, hcc12, hfr12⟩ := Kd.R_elem HX12.out z57 (x5_1 : Int) (of_decide_eq_true (by first | (with_reducible assumption) | assumption)) (by have h_ : (x5_1 : Int) < ((x0_1.length : Int) : Int) := of_decide_eq_true (by first | (with_reducible assumption) | assumption); first | exact h_ | (have e_ := (Kd.R_reads' HO_0.out).1; omega) | simpa using h_)
          obtain rfl := k57_openM hM12
          have HP12 := Kd.R_seg HX12.out (x5_1 : Int) (of_decide_eq_true (by first | (with_reducible assumption) | assumption)) (by have h_ : (x5_1 : Int) < ((x0_1.length : Int) : Int) := of_decide_eq_true (by first | (with_reducible assumption) | assumption); first | exact h_ | (have e_ := (Kd.R_reads' HO_0.out).1; omega) | simpa using h_) (seg := [.int .i8 (IntKind.i8.wrap (x1_1))]) (j := 0) hcl12 hcc12 (show 1 ≤ 6 from by decide) (x' := (⟨(⟨IntKind.i8.wrap (x1_1), (rd_T57 x0_1 x5_1).f0.f1⟩ : S55), (rd_T57 x0_1 x5_1).f1, (rd_T57 x0_1 x5_1).f2, (rd_T57 x0_1 x5_1).f3, (rd_T57 x0_1 x5_1).f4⟩ : S57)) (k57_mkM _ _ _ (⟨(⟨IntKind.i8.wrap (x1_1), (rd_T57 x0_1 x5_1).f0.f1⟩ : S55), (rd_T57 x0_1 x5_1).f1, (rd_T57 x0_1 x5_1).f2, (rd_T57 x0_1 x5_1).f3, (rd_T57 x0_1 x5_1).f4⟩ : S57) ) (fun _ hk => hk)
          have hx12_0 := hcc12 0 _ rfl
          (try simp only [show (k57).sz = 6 from rfl, Nat.mul_one, Nat.add_zero] at hx12_0)
          have hf12_0 := hfr12 0
          (try simp only [show (k57).sz = 6 from rfl, Nat.mul_one, Nat.add_zero] at hf12_0)
          (try clear hcl12); (try clear hcc12); (try clear hfr12); (try clear hM12)
          go_wp2_with (first | ((with_reducible refine gate_store (t := 22) (p := 18) rfl ?_); refine store_event (t := 22) (p := 18) (v := ?vo_w13) (w1 := (wr.setCell ⟨go5, (x5_1 : Int).toNat * 6, none⟩ (.int .i8 (IntKind.i8.wrap (x1_1))))) ?hg ?ho ?hn ?hr ?_; (case ho => rfl); (case hg => rfl); (case hn => rfl); (case hr => first | (go_simp; done) | (go_simp; rfl)); intro w13 hw; have hg : wr.grownBy w13 (some go5) := (by rw [hw]; exact HP12.2); have hp_ : Kd.R k57 57 w13 w0.heap.size (fun k_ => (P0_ k_ ∨ w.heap.size ≤ k_)) (.slice (some ⟨go5, 0, none⟩) x0_1.length co11) y249 := (by rw [hw, Ny249.out]; exact HP12.1); clear HP12; have n0_ := Aside0.mk (hp_); have n1_ := Aside0.mk ((by rw [hw]; exact below_set (HB.out) GB5.out : Below w0.heap.size w0 w13)); have n2_ := Aside0.mk (Kept.of_grown (S := (fun k_ => P0_ k_)) hg (by repeat (first | (with_reducible first | exact HK.out | apply Kept.alloc | apply Kept.drewN | apply Kept.drew) | exact HK.out)) (fun k_ e_ => (HO_0.out.1 k_ e_))); clear HO_0; clear HB; clear HK; have HO_0 := n0_; have HB := n1_; have HK := n2_; clear n0_ n1_ n2_; clear hg hw hp_; have p6 : 0 ≤ (x5_1 : Int) := of_decide_eq_true (by first | (with_reducible assumption) | assumption); have q6 : (x5_1 : Int) < ((x0_1.length : Int) : Int) := of_decide_eq_true (by first | (with_reducible assumption) | assumption); obtain ⟨ce6, hcl6, hM6, hcc6, hfr6⟩ := Kd.R_elem HO_0.out z57 (x5_1 : Int) p6 q6; obtain rfl := k57_openM hM6; have hx6_0 : w13.cell? ⟨go5, (x5_1 : Int).toNat * 6, none⟩ = some (.int .i8 ((rd_T57 y249 x5_1).f0.f0)) := hcc6 0 _ rfl; have hx6_1 : w13.cell? ⟨go5, (x5_1 : Int).toNat * 6 + 1, none⟩ = some (.int .i8 ((rd_T57 y249 x5_1).f0.f1)) := hcc6 1 _ rfl; have hx6_2 : w13.cell? ⟨go5, (x5_1 : Int).toNat * 6 + 2, none⟩ = some (.int .i8 ((rd_T57 y249 x5_1).f1)) := hcc6 2 _ rfl; have hx6_3 : w13.cell? ⟨go5, (x5_1 : Int).toNat * 6 + 3, none⟩ = some (.int .i8 ((rd_T57 y249 x5_1).f2)) := hcc6 3 _ rfl; have hx6_4 : w13.cell? ⟨go5, (x5_1 : Int).toNat * 6 + 4, none⟩ = some (.int .i8 ((rd_T57 y249 x5_1).f3)) := hcc6 4 _ rfl; have hx6_5 : w13.cell? ⟨go5, (x5_1 : Int).toNat * 6 + 5, none⟩ = some (.int .i8 ((rd_T57 y249 x5_1).f4)) := hcc6 5 _ rfl; have hf6_0 : w13.frozen? ⟨go5, (x5_1 : Int).toNat * 6, none⟩ = false := hfr6 0; have hf6_1 : w13.frozen? ⟨go5, (x5_1 : Int).toNat * 6 + 1, none⟩ = false := hfr6 1; have hf6_2 : w13.frozen? ⟨go5, (x5_1 : Int).toNat * 6 + 2, none⟩ = false := hfr6 2; have hf6_3 : w13.frozen? ⟨go5, (x5_1 : Int).toNat * 6 + 3, none⟩ = false := hfr6 3; have hf6_4 : w13.frozen? ⟨go5, (x5_1 : Int).toNat * 6 + 4, none⟩ = false := hfr6 4; have hf6_5 : w13.frozen? ⟨go5, (x5_1 : Int).toNat * 6 + 5, none⟩ = false := hfr6 5; (try clear hcl6); (try clear hcc6); (try clear hfr6); (try clear hM6); replace p6 := eq_true p6; replace q6 := eq_true q6; have HX14 := Aside0.mk (show Kd.R k57 57 w13 w0.heap.size (fun k_ => (P0_ k_ ∨ w.heap.size ≤ k_)) (.slice (some ⟨go5, 0, none⟩) x0_1.length co11) y249 from (by (with_reducible repeat (first | apply Kd.R_alloc | apply Kd.R_drewN | apply Kd.R_drew)); exact HO_0.out)); obtain ⟨ce14, hcl14, hM14, hcc14, hfr14⟩ := Kd.R_elem HX14.out z57 (x5_1 : Int) (of_decide_eq_true (by first | (with_reducible assumption) | assumption)) (by have h_ : (x5_1 : Int) < ((x0_1.length : Int) : Int) := of_decide_eq_true (by first | (with_reducible assumption) | assumption); first | exact h_ | (have e_ := (Kd.R_reads' HO_0.out).1; omega) | simpa using h_); obtain rfl := k57_openM hM14; have HP14 := Kd.R_seg HX14.out (x5_1 : Int) (of_decide_eq_true (by first | (with_reducible assumption) | assumption)) (by have h_ : (x5_1 : Int) < ((x0_1.length : Int) : Int) := of_decide_eq_true (by first | (with_reducible assumption) | assumption); first | exact h_ | (have e_ := (Kd.R_reads' HO_0.out).1; omega) | simpa using h_) (seg := [.int .i8 (IntKind.i8.wrap (wrap64 (x1_1 + 1)))]) (j := 1) hcl14 hcc14 (show 2 ≤ 6 from by decide) (x' := (⟨(⟨(rd_T57 y249 x5_1).f0.f0, IntKind.i8.wrap (wrap64 (x1_1 + 1))⟩ : S55), (rd_T57 y249 x5_1).f1, (rd_T57 y249 x5_1).f2, (rd_T57 y249 x5_1).f3, (rd_T57 y249 x5_1).f4⟩ : S57)) (k57_mkM _ _ _ (⟨(⟨(rd_T57 y249 x5_1).f0.f0, IntKind.i8.wrap (wrap64 (x1_1 + 1))⟩ : S55), (rd_T57 y249 x5_1).f1, (rd_T57 y249 x5_1).f2, (rd_T57 y249 x5_1).f3, (rd_T57 y249 x5_1).f4⟩ : S57) ) (fun _ hk => hk); have hx14_1 := hcc14 1 _ rfl; (try simp only [show (k57).sz = 6 from rfl, Nat.mul_one, Nat.add_zero] at hx14_1); have hf14_1 := hfr14 1; (try simp only [show (k57).sz = 6 from rfl, Nat.mul_one, Nat.add_zero] at hf14_1); (try clear hcl14); (try clear hcc14); (try clear hfr14); (try clear hM14)) | ((with_reducible refine gate_store (t := 22) (p := 27) rfl ?_); refine store_event (t := 22) (p := 27) (v := ?vo_w15) (w1 := (w13.setCell ⟨go5, (x5_1 : Int).toNat * 6 + 1, none⟩ (.int .i8 (IntKind.i8.wrap (wrap64 (x1_1 + 1)))))) ?hg ?ho ?hn ?hr ?_; (case ho => rfl); (case hg => rfl); (case hn => rfl); (case hr => first | (go_simp; done) | (go_simp; rfl)); intro w15 hw; have hg : w13.grownBy w15 (some go5) := (by rw [hw]; exact HP14.2); have hp_ : Kd.R k57 57 w15 w0.heap.size (fun k_ => (P0_ k_ ∨ w.heap.size ≤ k_)) (.slice (some ⟨go5, 0, none⟩) x0_1.length co11) y250 := (by rw [hw, Ny250.out]; exact HP14.1); clear HP14; have n0_ := Aside0.mk (hp_); have n1_ := Aside0.mk ((by rw [hw]; exact below_set (HB.out) GB5.out : Below w0.heap.size w0 w15)); have n2_ := Aside0.mk (Kept.of_grown (S := (fun k_ => P0_ k_)) hg (by repeat (first | (with_reducible first | exact HK.out | apply Kept.alloc | apply Kept.drewN | apply Kept.drew) | exact HK.out)) (fun k_ e_ => (HO_0.out.1 k_ e_))); clear HO_0; clear HB; clear HK; have HO_0 := n0_; have HB := n1_; have HK := n2_; clear n0_ n1_ n2_; clear hg hw hp_; have p7 : 0 ≤ (x5_1 : Int) := of_decide_eq_true (by first | (with_reducible assumption) | assumption); have q7 : (x5_1 : Int) < ((x0_1.length : Int) : Int) := of_decide_eq_true (by first | (with_reducible assumption) | assumption); obtain ⟨ce7, hcl7, hM7, hcc7, hfr7⟩ := Kd.R_elem HO_0.out z57 (x5_1 : Int) p7 q7; obtain rfl := k57_openM hM7; have hx7_0 : w15.cell? ⟨go5, (x5_1 : Int).toNat * 6, none⟩ = some (.int .i8 ((rd_T57 y250 x5_1).f0.f0)) := hcc7 0 _ rfl; have hx7_1 : w15.cell? ⟨go5, (x5_1 : Int).toNat * 6 + 1, none⟩ = some (.int .i8 ((rd_T57 y250 x5_1).f0.f1)) := hcc7 1 _ rfl; have hx7_2 : w15.cell? ⟨go5, (x5_1 : Int).toNat * 6 + 2, none⟩ = some (.int .i8 ((rd_T57 y250 x5_1).f1)) := hcc7 2 _ rfl; have hx7_3 : w15.cell? ⟨go5, (x5_1 : Int).toNat * 6 + 3, none⟩ = some (.int .i8 ((rd_T57 y250 x5_1).f2)) := hcc7 3 _ rfl; have hx7_4 : w15.cell? ⟨go5, (x5_1 : Int).toNat * 6 + 4, none⟩ = some (.int .i8 ((rd_T57 y250 x5_1).f3)) := hcc7 4 _ rfl; have hx7_5 : w15.cell? ⟨go5, (x5_1 : Int).toNat * 6 + 5, none⟩ = some (.int .i8 ((rd_T57 y250 x5_1).f4)) := hcc7 5 _ rfl; have hf7_0 : w15.frozen? ⟨go5, (x5_1 : Int).toNat * 6, none⟩ = false := hfr7 0; have hf7_1 : w15.frozen? ⟨go5, (x5_1 : Int).toNat * 6 + 1, none⟩ = false := hfr7 1; have hf7_2 : w15.frozen? ⟨go5, (x5_1 : Int).toNat * 6 + 2, none⟩ = false := hfr7 2; have hf7_3 : w15.frozen? ⟨go5, (x5_1 : Int).toNat * 6 + 3, none⟩ = false := hfr7 3; have hf7_4 : w15.frozen? ⟨go5, (x5_1 : Int).toNat * 6 + 4, none⟩ = false := hfr7 4; have hf7_5 : w15.frozen? ⟨go5, (x5_1 : Int).toNat * 6 + 5, none⟩ = false := hfr7 5; (try clear hcl7); (try clear hcc7); (try clear hfr7); (try clear hM7); replace p7 := eq_true p7; replace q7 := eq_true q7; have HX16 := Aside0.mk (show Kd.R k57 57 w15 w0.heap.size (fun k_ => (P0_ k_ ∨ w.heap.size ≤ k_)) (.slice (some ⟨go5, 0, none⟩) x0_1.length co11) y250 from (by (with_reducible repeat (first | apply Kd.R_alloc | apply Kd.R_drewN | apply Kd.R_drew)); exact HO_0.out)); obtain ⟨ce16, hcl16, hM16, hcc16, hfr16⟩ := Kd.R_elem HX16.out z57 (x5_1 : Int) (of_decide_eq_true (by first | (with_reducible assumption) | assumption)) (by have h_ : (x5_1 : Int) < ((x0_1.length : Int) : Int) := of_decide_eq_true (by first | (with_reducible assumption) | assumption); first | exact h_ | (have e_ := (Kd.R_reads' HO_0.out).1; omega) | simpa using h_); obtain rfl := k57_openM hM16; have HP16 := Kd.R_seg HX16.out (x5_1 : Int) (of_decide_eq_true (by first | (with_reducible assumption) | assumption)) (by have h_ : (x5_1 : Int) < ((x0_1.length : Int) : Int) := of_decide_eq_true (by first | (with_reducible assumption) | assumption); first | exact h_ | (have e_ := (Kd.R_reads' HO_0.out).1; omega) | simpa using h_) (seg := [.int .i8 (IntKind.i8.wrap (wrap64 ((wrap64 (x1_1 + 1)) + 1)))]) (j := 2) hcl16 hcc16 (show 3 ≤ 6 from by decide) (x' := (⟨(⟨(rd_T57 y250 x5_1).f0.f0, (rd_T57 y250 x5_1).f0.f1⟩ : S55), IntKind.i8.wrap (wrap64 ((wrap64 (x1_1 + 1)) + 1)), (rd_T57 y250 x5_1).f2, (rd_T57 y250 x5_1).f3, (rd_T57 y250 x5_1).f4⟩ : S57)) (k57_mkM _ _ _ (⟨(⟨(rd_T57 y250 x5_1).f0.f0, (rd_T57 y250 x5_1).f0.f1⟩ : S55), IntKind.i8.wrap (wrap64 ((wrap64 (x1_1 + 1)) + 1)), (rd_T57 y250 x5_1).f2, (rd_T57 y250 x5_1).f3, (rd_T57 y250 x5_1).f4⟩ : S57) ) (fun _ hk => hk); have hx16_2 := hcc16 2 _ rfl; (try simp only [show (k57).sz = 6 from rfl, Nat.mul_one, Nat.add_zero] at hx16_2); have hf16_2 := hfr16 2; (try simp only [show (k57).sz = 6 from rfl, Nat.mul_one, Nat.add_zero] at hf16_2); (try clear hcl16); (try clear hcc16); (try clear hfr16); (try clear hM16)) | ((with_reducible refine gate_store (t := 22) (p := 35) rfl ?_); refine store_event (t := 22) (p := 35) (v := ?vo_w17) (w1 := (w15.setCell ⟨go5, (x5_1 : Int).toNat * 6 + 2, none⟩ (.int .i8 (IntKind.i8.wrap (wrap64 ((wrap64 (x1_1 + 1)) + 1)))))) ?hg ?ho ?hn ?hr ?_; (case ho => rfl); (case hg => rfl); (case hn => rfl); (case hr => first | (go_simp; done) | (go_simp; rfl)); intro w17 hw; have hg : w15.grownBy w17 (some go5) := (by rw [hw]; exact HP16.2); have hp_ : Kd.R k57 57 w17 w0.heap.size (fun k_ => (P0_ k_ ∨ w.heap.size ≤ k_)) (.slice (some ⟨go5, 0, none⟩) x0_1.length co11) y251 := (by rw [hw, Ny251.out]; exact HP16.1); clear HP16; have n0_ := Aside0.mk (hp_); have n1_ := Aside0.mk ((by rw [hw]; exact below_set (HB.out) GB5.out : Below w0.heap.size w0 w17)); have n2_ := Aside0.mk (Kept.of_grown (S := (fun k_ => P0_ k_)) hg (by repeat (first | (with_reducible first | exact HK.out | apply Kept.alloc | apply Kept.drewN | apply Kept.drew) | exact HK.out)) (fun k_ e_ => (HO_0.out.1 k_ e_))); clear HO_0; clear HB; clear HK; have HO_0 := n0_; have HB := n1_; have HK := n2_; clear n0_ n1_ n2_; clear hg hw hp_; have p8 : 0 ≤ (x5_1 : Int) := of_decide_eq_true (by first | (with_reducible assumption) | assumption); have q8 : (x5_1 : Int) < ((x0_1.length : Int) : Int) := of_decide_eq_true (by first | (with_reducible assumption) | assumption); obtain ⟨ce8, hcl8, hM8, hcc8, hfr8⟩ := Kd.R_elem HO_0.out z57 (x5_1 : Int) p8 q8; obtain rfl := k57_openM hM8; have hx8_0 : w17.cell? ⟨go5, (x5_1 : Int).toNat * 6, none⟩ = some (.int .i8 ((rd_T57 y251 x5_1).f0.f0)) := hcc8 0 _ rfl; have hx8_1 : w17.cell? ⟨go5, (x5_1 : Int).toNat * 6 + 1, none⟩ = some (.int .i8 ((rd_T57 y251 x5_1).f0.f1)) := hcc8 1 _ rfl; have hx8_2 : w17.cell? ⟨go5, (x5_1 : Int).toNat * 6 + 2, none⟩ = some (.int .i8 ((rd_T57 y251 x5_1).f1)) := hcc8 2 _ rfl; have hx8_3 : w17.cell? ⟨go5, (x5_1 : Int).toNat * 6 + 3, none⟩ = some (.int .i8 ((rd_T57 y251 x5_1).f2)) := hcc8 3 _ rfl; have hx8_4 : w17.cell? ⟨go5, (x5_1 : Int).toNat * 6 + 4, none⟩ = some (.int .i8 ((rd_T57 y251 x5_1).f3)) := hcc8 4 _ rfl; have hx8_5 : w17.cell? ⟨go5, (x5_1 : Int).toNat * 6 + 5, none⟩ = some (.int .i8 ((rd_T57 y251 x5_1).f4)) := hcc8 5 _ rfl; have hf8_0 : w17.frozen? ⟨go5, (x5_1 : Int).toNat * 6, none⟩ = false := hfr8 0; have hf8_1 : w17.frozen? ⟨go5, (x5_1 : Int).toNat * 6 + 1, none⟩ = false := hfr8 1; have hf8_2 : w17.frozen? ⟨go5, (x5_1 : Int).toNat * 6 + 2, none⟩ = false := hfr8 2; have hf8_3 : w17.frozen? ⟨go5, (x5_1 : Int).toNat * 6 + 3, none⟩ = false := hfr8 3; have hf8_4 : w17.frozen? ⟨go5, (x5_1 : Int).toNat * 6 + 4, none⟩ = false := hfr8 4; have hf8_5 : w17.frozen? ⟨go5, (x5_1 : Int).toNat * 6 + 5, none⟩ = false := hfr8 5; (try clear hcl8); (try clear hcc8); (try clear hfr8); (try clear hM8); replace p8 := eq_true p8; replace q8 := eq_true q8; have HX18 := Aside0.mk (show Kd.R k57 57 w17 w0.heap.size (fun k_ => (P0_ k_ ∨ w.heap.size ≤ k_)) (.slice (some ⟨go5, 0, none⟩) x0_1.length co11) y251 from (by (with_reducible repeat (first | apply Kd.R_alloc | apply Kd.R_drewN | apply Kd.R_drew)); exact HO_0.out)); obtain ⟨ce18, hcl18, hM18, hcc18, hfr18⟩ := Kd.R_elem HX18.out z57 (x5_1 : Int) (of_decide_eq_true (by first | (with_reducible assumption) | assumption)) (by have h_ : (x5_1 : Int) < ((x0_1.length : Int) : Int) := of_decide_eq_true (by first | (with_reducible assumption) | assumption); first | exact h_ | (have e_ := (Kd.R_reads' HO_0.out).1; omega) | simpa using h_); obtain rfl := k57_openM hM18; have HP18 := Kd.R_seg HX18.out (x5_1 : Int) (of_decide_eq_true (by first | (with_reducible assumption) | assumption)) (by have h_ : (x5_1 : Int) < ((x0_1.length : Int) : Int) := of_decide_eq_true (by first | (with_reducible assumption) | assumption); first | exact h_ | (have e_ := (Kd.R_reads' HO_0.out).1; omega) | simpa using h_) (seg := [.int .i8 (IntKind.i8.wrap (wrap64 ((wrap64 ((wrap64 (x1_1 + 1)) + 1)) + 1)))]) (j := 3) hcl18 hcc18 (show 4 ≤ 6 from by decide) (x' := (⟨(⟨(rd_T57 y251 x5_1).f0.f0, (rd_T57 y251 x5_1).f0.f1⟩ : S55), (rd_T57 y251 x5_1).f1, IntKind.i8.wrap (wrap64 ((wrap64 ((wrap64 (x1_1 + 1)) + 1)) + 1)), (rd_T57 y251 x5_1).f3, (rd_T57 y251 x5_1).f4⟩ : S57)) (k57_mkM _ _ _ (⟨(⟨(rd_T57 y251 x5_1).f0.f0, (rd_T57 y251 x5_1).f0.f1⟩ : S55), (rd_T57 y251 x5_1).f1, IntKind.i8.wrap (wrap64 ((wrap64 ((wrap64 (x1_1 + 1)) + 1)) + 1)), (rd_T57 y251 x5_1).f3, (rd_T57 y251 x5_1).f4⟩ : S57) ) (fun _ hk => hk); have hx18_3 := hcc18 3 _ rfl; (try simp only [show (k57).sz = 6 from rfl, Nat.mul_one, Nat.add_zero] at hx18_3); have hf18_3 := hfr18 3; (try simp only [show (k57).sz = 6 from rfl, Nat.mul_one, Nat.add_zero] at hf18_3); (try clear hcl18); (try clear hcc18); (try clear hfr18); (try clear hM18)) | ((with_reducible refine gate_store (t := 22) (p := 43) rfl ?_); refine store_event (t := 22) (p := 43) (v := ?vo_w19) (w1 := (w17.setCell ⟨go5, (x5_1 : Int).toNat * 6 + 3, none⟩ (.int .i8 (IntKind.i8.wrap (wrap64 ((wrap64 ((wrap64 (x1_1 + 1)) + 1)) + 1)))))) ?hg ?ho ?hn ?hr ?_; (case ho => rfl); (case hg => rfl); (case hn => rfl); (case hr => first | (go_simp; done) | (go_simp; rfl)); intro w19 hw; have hg : w17.grownBy w19 (some go5) := (by rw [hw]; exact HP18.2); have hp_ : Kd.R k57 57 w19 w0.heap.size (fun k_ => (P0_ k_ ∨ w.heap.size ≤ k_)) (.slice (some ⟨go5, 0, none⟩) x0_1.length co11) y252 := (by rw [hw, Ny252.out]; exact HP18.1); clear HP18; have n0_ := Aside0.mk (hp_); have n1_ := Aside0.mk ((by rw [hw]; exact below_set (HB.out) GB5.out : Below w0.heap.size w0 w19)); have n2_ := Aside0.mk (Kept.of_grown (S := (fun k_ => P0_ k_)) hg (by repeat (first | (with_reducible first | exact HK.out | apply Kept.alloc | apply Kept.drewN | apply Kept.drew) | exact HK.out)) (fun k_ e_ => (HO_0.out.1 k_ e_))); clear HO_0; clear HB; clear HK; have HO_0 := n0_; have HB := n1_; have HK := n2_; clear n0_ n1_ n2_; clear hg hw hp_; have p9 : 0 ≤ (x5_1 : Int) := of_decide_eq_true (by first | (with_reducible assumption) | assumption); have q9 : (x5_1 : Int) < ((x0_1.length : Int) : Int) := of_decide_eq_true (by first | (with_reducible assumption) | assumption); obtain ⟨ce9, hcl9, hM9, hcc9, hfr9⟩ := Kd.R_elem HO_0.out z57 (x5_1 : Int) p9 q9; obtain rfl := k57_openM hM9; have hx9_0 : w19.cell? ⟨go5, (x5_1 : Int).toNat * 6, none⟩ = some (.int .i8 ((rd_T57 y252 x5_1).f0.f0)) := hcc9 0 _ rfl; have hx9_1 : w19.cell? ⟨go5, (x5_1 : Int).toNat * 6 + 1, none⟩ = some (.int .i8 ((rd_T57 y252 x5_1).f0.f1)) := hcc9 1 _ rfl; have hx9_2 : w19.cell? ⟨go5, (x5_1 : Int).toNat * 6 + 2, none⟩ = some (.int .i8 ((rd_T57 y252 x5_1).f1)) := hcc9 2 _ rfl; have hx9_3 : w19.cell? ⟨go5, (x5_1 : Int).toNat * 6 + 3, none⟩ = some (.int .i8 ((rd_T57 y252 x5_1).f2)) := hcc9 3 _ rfl; have hx9_4 : w19.cell? ⟨go5, (x5_1 : Int).toNat * 6 + 4, none⟩ = some (.int .i8 ((rd_T57 y252 x5_1).f3)) := hcc9 4 _ rfl; have hx9_5 : w19.cell? ⟨go5, (x5_1 : Int).toNat * 6 + 5, none⟩ = some (.int .i8 ((rd_T57 y252 x5_1).f4)) := hcc9 5 _ rfl; have hf9_0 : w19.frozen? ⟨go5, (x5_1 : Int).toNat * 6, none⟩ = false := hfr9 0; have hf9_1 : w19.frozen? ⟨go5, (x5_1 : Int).toNat * 6 + 1, none⟩ = false := hfr9 1; have hf9_2 : w19.frozen? ⟨go5, (x5_1 : Int).toNat * 6 + 2, none⟩ = false := hfr9 2; have hf9_3 : w19.frozen? ⟨go5, (x5_1 : Int).toNat * 6 + 3, none⟩ = false := hfr9 3; have hf9_4 : w19.frozen? ⟨go5, (x5_1 : Int).toNat * 6 + 4, none⟩ = false := hfr9 4; have hf9_5 : w19.frozen? ⟨go5, (x5_1 : Int).toNat * 6 + 5, none⟩ = false := hfr9 5; (try clear hcl9); (try clear hcc9); (try clear hfr9); (try clear hM9); replace p9 := eq_true p9; replace q9 := eq_true q9; have HX20 := Aside0.mk (show Kd.R k57 57 w19 w0.heap.size (fun k_ => (P0_ k_ ∨ w.heap.size ≤ k_)) (.slice (some ⟨go5, 0, none⟩) x0_1.length co11) y252 from (by (with_reducible repeat (first | apply Kd.R_alloc | apply Kd.R_drewN | apply Kd.R_drew)); exact HO_0.out)); obtain ⟨ce20, hcl20, hM20, hcc20, hfr20⟩ := Kd.R_elem HX20.out z57 (x5_1 : Int) (of_decide_eq_true (by first | (with_reducible assumption) | assumption)) (by have h_ : (x5_1 : Int) < ((x0_1.length : Int) : Int) := of_decide_eq_true (by first | (with_reducible assumption) | assumption); first | exact h_ | (have e_ := (Kd.R_reads' HO_0.out).1; omega) | simpa using h_); obtain rfl := k57_openM hM20; have HP20 := Kd.R_seg HX20.out (x5_1 : Int) (of_decide_eq_true (by first | (with_reducible assumption) | assumption)) (by have h_ : (x5_1 : Int) < ((x0_1.length : Int) : Int) := of_decide_eq_true (by first | (with_reducible assumption) | assumption); first | exact h_ | (have e_ := (Kd.R_reads' HO_0.out).1; omega) | simpa using h_) (seg := [.int .i8 (IntKind.i8.wrap (wrap64 ((wrap64 ((wrap64 ((wrap64 (x1_1 + 1)) + 1)) + 1)) + 1)))]) (j := 4) hcl20 hcc20 (show 5 ≤ 6 from by decide) (x' := (⟨(⟨(rd_T57 y252 x5_1).f0.f0, (rd_T57 y252 x5_1).f0.f1⟩ : S55), (rd_T57 y252 x5_1).f1, (rd_T57 y252 x5_1).f2, IntKind.i8.wrap (wrap64 ((wrap64 ((wrap64 ((wrap64 (x1_1 + 1)) + 1)) + 1)) + 1)), (rd_T57 y252 x5_1).f4⟩ : S57)) (k57_mkM _ _ _ (⟨(⟨(rd_T57 y252 x5_1).f0.f0, (rd_T57 y252 x5_1).f0.f1⟩ : S55), (rd_T57 y252 x5_1).f1, (rd_T57 y252 x5_1).f2, IntKind.i8.wrap (wrap64 ((wrap64 ((wrap64 ((wrap64 (x1_1 + 1)) + 1)) + 1)) + 1)), (rd_T57 y252 x5_1).f4⟩ : S57) ) (fun _ hk => hk); have hx20_4 := hcc20 4 _ rfl; (try simp only [show (k57).sz = 6 from rfl, Nat.mul_one, Nat.add_zero] at hx20_4); have hf20_4 := hfr20 4; (try simp only [show (k57).sz = 6 from rfl, Nat.mul_one, Nat.add_zero] at hf20_4); (try clear hcl20); (try clear hcc20); (try clear hfr20); (try clear hM20)) | ((with_reducible refine gate_store (t := 22) (p := 51) rfl ?_); refine store_event (t := 22) (p := 51) (v := ?vo_w21) (w1 := (w19.setCell ⟨go5, (x5_1 : Int).toNat * 6 + 4, none⟩ (.int .i8 (IntKind.i8.wrap (wrap64 ((wrap64 ((wrap64 ((wrap64 (x1_1 + 1)) + 1)) + 1)) + 1)))))) ?hg ?ho ?hn ?hr ?_; (case ho => rfl); (case hg => rfl); (case hn => rfl); (case hr => first | (go_simp; done) | (go_simp; rfl)); intro w21 hw; have hg : w19.grownBy w21 (some go5) := (by rw [hw]; exact HP20.2); have hp_ : Kd.R k57 57 w21 w0.heap.size (fun k_ => (P0_ k_ ∨ w.heap.size ≤ k_)) (.slice (some ⟨go5, 0, none⟩) x0_1.length co11) y253 := (by rw [hw, Ny253.out]; exact HP20.1); clear HP20; have n0_ := Aside0.mk (hp_); have n1_ := Aside0.mk ((by rw [hw]; exact below_set (HB.out) GB5.out : Below w0.heap.size w0 w21)); have n2_ := Aside0.mk (Kept.of_grown (S := (fun k_ => P0_ k_)) hg (by repeat (first | (with_reducible first | exact HK.out | apply Kept.alloc | apply Kept.drewN | apply Kept.drew) | exact HK.out)) (fun k_ e_ => (HO_0.out.1 k_ e_))); clear HO_0; clear HB; clear HK; have HO_0 := n0_; have HB := n1_; have HK := n2_; clear n0_ n1_ n2_; clear hg hw hp_; have p10 : 0 ≤ (x5_1 : Int) := of_decide_eq_true (by first | (with_reducible assumption) | assumption); have q10 : (x5_1 : Int) < ((x0_1.length : Int) : Int) := of_decide_eq_true (by first | (with_reducible assumption) | assumption); obtain ⟨ce10, hcl10, hM10, hcc10, hfr10⟩ := Kd.R_elem HO_0.out z57 (x5_1 : Int) p10 q10; obtain rfl := k57_openM hM10; have hx10_0 : w21.cell? ⟨go5, (x5_1 : Int).toNat * 6, none⟩ = some (.int .i8 ((rd_T57 y253 x5_1).f0.f0)) := hcc10 0 _ rfl; have hx10_1 : w21.cell? ⟨go5, (x5_1 : Int).toNat * 6 + 1, none⟩ = some (.int .i8 ((rd_T57 y253 x5_1).f0.f1)) := hcc10 1 _ rfl; have hx10_2 : w21.cell? ⟨go5, (x5_1 : Int).toNat * 6 + 2, none⟩ = some (.int .i8 ((rd_T57 y253 x5_1).f1)) := hcc10 2 _ rfl; have hx10_3 : w21.cell? ⟨go5, (x5_1 : Int).toNat * 6 + 3, none⟩ = some (.int .i8 ((rd_T57 y253 x5_1).f2)) := hcc10 3 _ rfl; have hx10_4 : w21.cell? ⟨go5, (x5_1 : Int).toNat * 6 + 4, none⟩ = some (.int .i8 ((rd_T57 y253 x5_1).f3)) := hcc10 4 _ rfl; have hx10_5 : w21.cell? ⟨go5, (x5_1 : Int).toNat * 6 + 5, none⟩ = some (.int .i8 ((rd_T57 y253 x5_1).f4)) := hcc10 5 _ rfl; have hf10_0 : w21.frozen? ⟨go5, (x5_1 : Int).toNat * 6, none⟩ = false := hfr10 0; have hf10_1 : w21.frozen? ⟨go5, (x5_1 : Int).toNat * 6 + 1, none⟩ = false := hfr10 1; have hf10_2 : w21.frozen? ⟨go5, (x5_1 : Int).toNat * 6 + 2, none⟩ = false := hfr10 2; have hf10_3 : w21.frozen? ⟨go5, (x5_1 : Int).toNat * 6 + 3, none⟩ = false := hfr10 3; have hf10_4 : w21.frozen? ⟨go5, (x5_1 : Int).toNat * 6 + 4, none⟩ = false := hfr10 4; have hf10_5 : w21.frozen? ⟨go5, (x5_1 : Int).toNat * 6 + 5, none⟩ = false := hfr10 5; (try clear hcl10); (try clear hcc10); (try clear hfr10); (try clear hM10); replace p10 := eq_true p10; replace q10 := eq_true q10; have HX22 := Aside0.mk (show Kd.R k57 57 w21 w0.heap.size (fun k_ => (P0_ k_ ∨ w.heap.size ≤ k_)) (.slice (some ⟨go5, 0, none⟩) x0_1.length co11) y253 from (by (with_reducible repeat (first | apply Kd.R_alloc | apply Kd.R_drewN | apply Kd.R_drew)); exact HO_0.out)); obtain ⟨ce22, hcl22, hM22, hcc22, hfr22⟩ := Kd.R_elem HX22.out z57 (x5_1 : Int) (of_decide_eq_true (by first | (with_reducible assumption) | assumption)) (by have h_ : (x5_1 : Int) < ((x0_1.length : Int) : Int) := of_decide_eq_true (by first | (with_reducible assumption) | assumption); first | exact h_ | (have e_ := (Kd.R_reads' HO_0.out).1; omega) | simpa using h_); obtain rfl := k57_openM hM22; have HP22 := Kd.R_seg HX22.out (x5_1 : Int) (of_decide_eq_true (by first | (with_reducible assumption) | assumption)) (by have h_ : (x5_1 : Int) < ((x0_1.length : Int) : Int) := of_decide_eq_true (by first | (with_reducible assumption) | assumption); first | exact h_ | (have e_ := (Kd.R_reads' HO_0.out).1; omega) | simpa using h_) (seg := [.int .i8 (IntKind.i8.wrap (wrap64 ((wrap64 ((wrap64 ((wrap64 ((wrap64 (x1_1 + 1)) + 1)) + 1)) + 1)) + 1)))]) (j := 5) hcl22 hcc22 (show 6 ≤ 6 from by decide) (x' := (⟨(⟨(rd_T57 y253 x5_1).f0.f0, (rd_T57 y253 x5_1).f0.f1⟩ : S55), (rd_T57 y253 x5_1).f1, (rd_T57 y253 x5_1).f2, (rd_T57 y253 x5_1).f3, IntKind.i8.wrap (wrap64 ((wrap64 ((wrap64 ((wrap64 ((wrap64 (x1_1 + 1)) + 1)) + 1)) + 1)) + 1))⟩ : S57)) (k57_mkM _ _ _ (⟨(⟨(rd_T57 y253 x5_1).f0.f0, (rd_T57 y253 x5_1).f0.f1⟩ : S55), (rd_T57 y253 x5_1).f1, (rd_T57 y253 x5_1).f2, (rd_T57 y253 x5_1).f3, IntKind.i8.wrap (wrap64 ((wrap64 ((wrap64 ((wrap64 ((wrap64 (x1_1 + 1)) + 1)) + 1)) + 1)) + 1))⟩ : S57) ) (fun _ hk => hk); have hx22_5 := hcc22 5 _ rfl; (try simp only [show (k57).sz = 6 from rfl, Nat.mul_one, Nat.add_zero] at hx22_5); have hf22_5 := hfr22 5; (try simp only [show (k57).sz = 6 from rfl, Nat.mul_one, Nat.add_zero] at hf22_5); (try clear hcl22); (try clear hcc22); (try clear hfr22); (try clear hM22)) | ((with_reducible refine gate_store (t := 22) (p := 59) rfl ?_); refine store_event (t := 22) (p := 59) (v := ?vo_w23) (w1 := (w21.setCell ⟨go5, (x5_1 : Int).toNat * 6 + 5, none⟩ (.int .i8 (IntKind.i8.wrap (wrap64 ((wrap64 ((wrap64 ((wrap64 ((wrap64 (x1_1 + 1)) + 1)) + 1)) + 1)) + 1)))))) ?hg ?ho ?hn ?hr ?_; (case ho => rfl); (case hg => rfl); (case hn => rfl); (case hr => first | (go_simp; done) | (go_simp; rfl)); intro w23 hw; have hg : w21.grownBy w23 (some go5) := (by rw [hw]; exact HP22.2); have hp_ : Kd.R k57 57 w23 w0.heap.size (fun k_ => (P0_ k_ ∨ w.heap.size ≤ k_)) (.slice (some ⟨go5, 0, none⟩) x0_1.length co11) y254 := (by rw [hw, Ny254.out]; exact HP22.1); clear HP22; have n0_ := Aside0.mk (hp_); have n1_ := Aside0.mk ((by rw [hw]; exact below_set (HB.out) GB5.out : Below w0.heap.size w0 w23)); have n2_ := Aside0.mk (Kept.of_grown (S := (fun k_ => P0_ k_)) hg (by repeat (first | (with_reducible first | exact HK.out | apply Kept.alloc | apply Kept.drewN | apply Kept.drew) | exact HK.out)) (fun k_ e_ => (HO_0.out.1 k_ e_))); clear HO_0; clear HB; clear HK; have HO_0 := n0_; have HB := n1_; have HK := n2_; clear n0_ n1_ n2_; clear hg hw hp_))
          go_roundg k1
          case measure => have := HK1.out; omega
          case rel => exact ⟨(y254), (wrap64 ((wrap64 ((wrap64 ((wrap64 ((wrap64 ((wrap64 (x1_1 + 1)) + 1)) + 1)) + 1)) + 1)) + 1)), (wrap64 (x5_1 + 1)), (by first | rfl | (simp; done) | (simp [*]; done)), (by first | rfl | (simp; done) | (simp [*]; done)), H', ⟨by have := HK1.out; omega⟩, ⟨by (with_reducible repeat (first | apply Kd.R_alloc | apply Kd.R_drewN | apply Kd.R_drew)); exact HO_0.out⟩, ⟨by repeat (first | (with_reducible first | exact HK.out | apply Kept.alloc | apply Kept.drewN | apply Kept.drew) | exact HK.out)⟩, ⟨by repeat (first | (with_reducible first | exact HB.out | apply below_alloc | apply pw_below_drewN | apply below_drew1) | exact HB.out)⟩⟩
        · rw [if_neg c4] at H
          exact absurd H (by simp)
      · rw [if_neg c3] at H
        have c3b0 : decide (x5_1 < (x0_1.length : Int)) = false := decide_eq_false c3
        clear c3
        simp only [Option.some.injEq, Prod.mk.injEq] at H
        obtain ⟨rfl, rfl⟩ := H
        obtain ⟨Ao24, co24, eo24⟩ := Kd.R_slice HO_0.out
        subst eo24
        go_wp2
        go_ret
        exact ⟨by first | rfl | (simp [errW_none, errW_some] <;> rfl) | (simp [*, errW_none, errW_some] <;> rfl), by (with_reducible repeat (first | apply Kd.R_alloc | apply Kd.R_drewN | apply Kd.R_drew)); exact HO_0.out, by repeat (first | (with_reducible first | exact HB.out | apply below_alloc | apply pw_below_drewN | apply below_drew1) | exact HB.out), by repeat (first | (with_reducible first | exact HK.out | apply Kept.alloc | apply Kept.drewN | apply Kept.drew) | exact HK.out)⟩
end Go.Proofs.Ytdefbflihmkegad.G
end
section
namespace Go.Proofs.Ytdefbflihmkegad.G
open Go.RowKit Go.Proofs.YtdefbflihmkegadW.PrintWords Go.Proofs.YtdefbflihmkegadW.PrintLast Go.Proofs.YtdefbflihmkegadW.PrintMore
attribute [local go_sem] max2_int min2_int max_two min_two max_three min_three max_four min_four   -- for this text's walks alone
set_option linter.unusedVariables false
set_option linter.unusedSimpArgs false
def laws_markInt64S.l0 : Nat → List Int → Int → Int → Option (Int × List Int)
  | 0, _, _, _ => none
  | k + 1, x0, x1, x5 => if x5 < (x0.length : Int) then (if 0 ≤ x5 then (laws_markInt64S.l0 k (x0.set (x5 : Int).toNat x1) (wrap64 (x1 + 1)) (wrap64 (x5 + 1))) else (none)) else (some (x1, x0))
def laws_markInt64S.f (k : Nat) (l0 : List Int) (a1 : Int) : Option (Int × List Int) := laws_markInt64S.l0 k l0 a1 0
set_option maxHeartbeats 8000000 in
set_option maxRecDepth 100000 in
theorem laws_markInt64S.calls (k : Nat) (P0_ : Nat → Prop) (u9000_ : Value) (l0 : List Int) (a1 : Int) (r1 : Int) (r2 : List Int) (w0 w : World) (hB : Below w0.heap.size w0 w) (ho0 : Kd.R (Kd.int .i64) 2 w w0.heap.size P0_ u9000_ l0) (h : laws_markInt64S.f k l0 a1 = some (r1, r2)) :
    Calls Try.prog 16 #[u9000_, .int .i64 a1] w fun e w' => e = .returned (.int .i64 r1) ∧ Kd.R (Kd.int .i64) 2 w' w0.heap.size (fun k_ => (P0_ k_ ∨ w.heap.size ≤ k_)) u9000_ r2 ∧ Below w0.heap.size w0 w' ∧ Kept w w' (fun k_ => P0_ k_) := by
  have HO0 := Aside0.mk (show Kd.R (Kd.int .i64) 2 w w0.heap.size (fun k_ => (P0_ k_ ∨ w.heap.size ≤ k_)) u9000_ l0 from Kd.R_mono ho0 (fun k_ hk => (.inl hk)))
  have HK := Aside0.mk (Kept.refl w (fun k_ => P0_ k_))
  have HW0 := Aside0.mk hB.size
  have HB := Aside0.mk hB
  clear hB
  have H : (laws_markInt64S.l0 k l0 a1 0) = some (r1, r2) := h
  clear h
  have H' := Aside0.mk H
  clear H
  go_enter Try.func16, Try.ntmps16
  go_wp2
  go_loopg [1, 5] k (fun kq v1 v5 w' => ∃ (x0_1 : List Int) (x1_1 : Int) (x5_1 : Int), v1 = .int .i64 x1_1 ∧ v5 = .int .i64 x5_1 ∧ Aside0 (laws_markInt64S.l0 kq x0_1 x1_1 x5_1 = some (r1, r2)) ∧ Aside0 (kq ≤ k) ∧ Aside0 (Kd.R (Kd.int .i64) 2 w' w0.heap.size (fun k_ => (P0_ k_ ∨ w.heap.size ≤ k_)) u9000_ x0_1) ∧ Aside0 (Kept w w' (fun k_ => P0_ k_)) ∧ Aside0 (Below w0.heap.size w0 w'))
  case atStart => exact ⟨(l0), (a1), (0), (by first | rfl | (simp; done) | (simp [*]; done)), (by first | rfl | (simp; done) | (simp [*]; done)), H', ⟨Nat.le_refl _⟩, ⟨by (with_reducible repeat (first | apply Kd.R_alloc | apply Kd.R_drewN | apply Kd.R_drew)); exact HO0.out⟩, ⟨by repeat (first | (with_reducible first | exact HK.out | apply Kept.alloc | apply Kept.drewN | apply Kept.drew) | exact HK.out)⟩, ⟨by repeat (first | (with_reducible first | exact HB.out | apply below_alloc | apply pw_below_drewN | apply below_drew1) | exact HB.out)⟩⟩
  case round =>
    clear H'
    try clear c1
    try clear p2
    obtain ⟨x0_1, x1_1, x5_1, rfl, rfl, HA, HK1, HO_0, HK, HB⟩ := hrel
    cases gk with
    | zero => exact absurd HA.out (by simp [laws_markInt64S.l0])
    | succ k1 =>
      have H := HA.out
      clear HA
      simp only [laws_markInt64S.l0] at H
      by_cases c3 : x5_1 < (x0_1.length : Int)
      · rw [if_pos c3] at H
        have c3b0 : decide (x5_1 < (x0_1.length : Int)) = true := decide_eq_true c3
        clear c3
        by_cases c4 : 0 ≤ x5_1
        · rw [if_pos c4] at H
          have c4b0 : decide (0 ≤ x5_1) = true := decide_eq_true c4
          clear c4
          obtain ⟨y255, hy255⟩ : ∃ y_ : List Int, y_ = (x0_1.set (x5_1 : Int).toNat x1_1) := ⟨_, rfl⟩
          replace H : (laws_markInt64S.l0 k1 y255 (wrap64 (x1_1 + 1)) (wrap64 (x5_1 + 1))) = some (r1, r2) := by first | (rw [hy255]; with_reducible exact H) | (have H2_ := (Option.bind_some _ _).symm.trans H; rw [hy255]; with_reducible exact H2_) | (have H2_ := (Option.bind_some _ _).symm.trans H; with_reducible exact H2_) | with_reducible exact H | (rw [hy255]; exact H) | exact H
          have Ny255 := Aside0.mk hy255
          clear hy255
          have H' := Aside0.mk H
          clear H
          obtain ⟨Ao6, co6, eo6⟩ := Kd.R_slice HO_0.out
          subst eo6
          have p5 : 0 ≤ (x5_1 : Int) := of_decide_eq_true (by first | (with_reducible assumption) | assumption)
          have q5 : (x5_1 : Int) < ((x0_1.length : Int) : Int) := of_decide_eq_true (by first | (with_reducible assumption) | assumption)
          obtain ⟨go5, co5, eo5, gb5, gl5, cl5, HG5⟩ := Kd.R_form HO_0.out (by omega)
          (first | cases eo5 | (injection eo5 with ea_ en_ ec_; (first | subst ea_ | (injection ea_ with ea_; subst ea_)); subst ec_; clear en_))
          have GB5 := Aside0.mk gb5
          have GG5 := Aside0.mk HG5
          clear gb5 gl5 HG5
          have HMgo5 := Aside0.mk (show (P0_ go5 ∨ w.heap.size ≤ go5) from (HO_0.out.1 _ rfl))
          obtain ⟨hx5_0, hf5_0⟩ := Kd.R_celln 0 HO_0.out (x5_1 : Int) p5 q5
          replace p5 := eq_true p5
          replace q5 := eq_true q5
          have HP7 := Kd.R_putg HO_0.out (x5_1 : Int) x1_1
          go_wp2_with (first | ((with_reducible refine gate_store (t := 2) (p := 15) rfl ?_); refine store_event (t := 2) (p := 15) (v := ?vo_w8) (w1 := (wr.setCell ⟨go5, (x5_1 : Int).toNat, none⟩ (.int .i64 x1_1))) ?hg ?ho ?hn ?hr ?_; (case ho => rfl); (case hg => rfl); (case hn => rfl); (case hr => first | (go_simp; done) | (go_simp; rfl)); intro w8 hw; have hg : wr.grownBy w8 (some go5) := (by rw [hw]; exact HP7.2); have hp_ : Kd.R (Kd.int .i64) 2 w8 w0.heap.size (fun k_ => (P0_ k_ ∨ w.heap.size ≤ k_)) (.slice (some ⟨go5, 0, none⟩) x0_1.length co6) y255 := (by rw [hw, Ny255.out]; exact HP7.1); clear HP7; have n0_ := Aside0.mk (hp_); have n1_ := Aside0.mk ((by rw [hw]; exact below_set (HB.out) GB5.out : Below w0.heap.size w0 w8)); have n2_ := Aside0.mk (Kept.of_grown (S := (fun k_ => P0_ k_)) hg (by repeat (first | (with_reducible first | exact HK.out | apply Kept.alloc | apply Kept.drewN | apply Kept.drew) | exact HK.out)) (fun k_ e_ => (HO_0.out.1 k_ e_))); clear HO_0; clear HB; clear HK; have HO_0 := n0_; have HB := n1_; have HK := n2_; clear n0_ n1_ n2_; clear hg hw hp_))
          go_roundg k1
          case measure => have := HK1.out; omega
          case rel => exact ⟨(y255), (wrap64 (x1_1 + 1)), (wrap64 (x5_1 + 1)), (by first | rfl | (simp; done) | (simp [*]; done)), (by first | rfl | (simp; done) | (simp [*]; done)), H', ⟨by have := HK1.out; omega⟩, ⟨by (with_reducible repeat (first | apply Kd.R_alloc | apply Kd.R_drewN | apply Kd.R_drew)); exact HO_0.out⟩, ⟨by repeat (first | (with_reducible first | exact HK.out | apply Kept.alloc | apply Kept.drewN | apply Kept.drew) | exact HK.out)⟩, ⟨by repeat (first | (with_reducible first | exact HB.out | apply below_alloc | apply pw_below_drewN | apply below_drew1) | exact HB.out)⟩⟩
        · rw [if_neg c4] at H
          exact absurd H (by simp)
      · rw [if_neg c3] at H
        have c3b0 : decide (x5_1 < (x0_1.length : Int)) = false := decide_eq_false c3
        clear c3
        simp only [Option.some.injEq, Prod.mk.injEq] at H
        obtain ⟨rfl, rfl⟩ := H
        obtain ⟨Ao9, co9, eo9⟩ := Kd.R_slice HO_0.out
        subst eo9
        go_wp2
        go_ret
        exact ⟨by first | rfl | (simp [errW_none, errW_some] <;> rfl) | (simp [*, errW_none, errW_some] <;> rfl), by (with_reducible repeat (first | apply Kd.R_alloc | apply Kd.R_drewN | apply Kd.R_drew)); exact HO_0.out, by repeat (first | (with_reducible first | exact HB.out | apply below_alloc | apply pw_below_drewN | apply below_drew1) | exact HB.out), by repeat (first | (with_reducible first | exact HK.out | apply Kept.alloc | apply Kept.drewN | apply Kept.drew) | exact HK.out)⟩
end Go.Proofs.Ytdefbflihmkegad.G
end
section
namespace Go.Proofs.Ytdefbflihmkegad.G
open Go.RowKit Go.Proofs.YtdefbflihmkegadW.PrintWords Go.Proofs.YtdefbflihmkegadW.PrintLast Go.Proofs.YtdefbflihmkegadW.PrintMore
attribute [local go_sem] max2_int min2_int max_two min_two max_three min_three max_four min_four   -- for this text's walks alone
set_option linter.unusedVariables false
set_option linter.unusedSimpArgs false
def laws_heldInt64S.l0 : Nat → List Int → Int → Int → Option (Int)
  | 0, _, _, _ => none
  | k + 1, x0, x1, x5 => if x5 < (x0.length : Int) then (if 0 ≤ x5 then (if (rd x0 x5) = x1 then (laws_heldInt64S.l0 k x0 (wrap64 (x1 + 1)) (wrap64 (x5 + 1))) else (some (-1))) else (none)) else (some x1)
def laws_heldInt64S.f (k : Nat) (l0 : List Int) (a1 : Int) : Option (Int) := laws_heldInt64S.l0 k l0 a1 0
set_option maxHeartbeats 8000000 in
set_option maxRecDepth 100000 in
theorem laws_heldInt64S.calls (k : Nat) (A0 : Option Addr) (c0 : Nat) (l0 : List Int) (a1 : Int) (r : Int) (w : World) (hr0 : Kd.C (Kd.int .i64) w A0 l0.length l0) (hc0 : l0.length ≤ c0) (h : laws_heldInt64S.f k l0 a1 = some r) :
    Calls Try.prog 17 #[.slice A0 l0.length c0, .int .i64 a1] w fun e w' => e = .returned (.int .i64 r) ∧ Drawn0 w w' := by
  have HR0 := Aside0.mk hr0
  have HC0 := Aside0.mk hc0
  clear hr0 hc0
  have H : (laws_heldInt64S.l0 k l0 a1 0) = some r := h
  clear h
  have H' := Aside0.mk H
  clear H
  go_enter Try.func17, Try.ntmps17
  go_wp2
  go_loopg [1, 5] k (fun kq v1 v5 w' => ∃ (x1_1 : Int) (x5_1 : Int), v1 = .int .i64 x1_1 ∧ v5 = .int .i64 x5_1 ∧ Aside0 (laws_heldInt64S.l0 kq l0 x1_1 x5_1 = some r) ∧ Aside0 (kq ≤ k) ∧ Drawn0 w w')
  case atStart => exact ⟨(a1), (0), (by first | rfl | (simp; done) | (simp [*]; done)), (by first | rfl | (simp; done) | (simp [*]; done)), H', ⟨Nat.le_refl _⟩, by repeat (first | exact Drawn0.refl _ | apply Drawn0.step)⟩
  case round =>
    clear H'
    try clear c1
    try clear p2
    obtain ⟨x1_1, x5_1, rfl, rfl, HA, HK1, ⟨m1, rfl⟩⟩ := hrel
    cases gk with
    | zero => exact absurd HA.out (by simp [laws_heldInt64S.l0])
    | succ k1 =>
      have H := HA.out
      clear HA
      simp only [laws_heldInt64S.l0] at H
      by_cases c3 : x5_1 < (l0.length : Int)
      · rw [if_pos c3] at H
        have c3b0 : decide (x5_1 < (l0.length : Int)) = true := decide_eq_true c3
        clear c3
        by_cases c4 : 0 ≤ x5_1
        · rw [if_pos c4] at H
          have c4b0 : decide (0 ≤ x5_1) = true := decide_eq_true c4
          clear c4
          by_cases c5 : (rd l0 x5_1) = x1_1
          · rw [if_pos c5] at H
            have c5b0 : ((rd l0 x5_1) == x1_1) = true := beq_iff_eq.mpr c5
            have c5b1 : ((rd l0 x5_1) != x1_1) = false := bne_eq_false_iff_eq.mpr c5
            clear c5
            have H' := Aside0.mk H
            clear H
            have p256 : 0 ≤ (x5_1 : Int) := of_decide_eq_true (by first | (with_reducible assumption) | assumption)
            have q256 : x5_1 < (l0.length : Int) := of_decide_eq_true (by first | (with_reducible assumption) | assumption)
            obtain ⟨ad256, e256, hx256_0⟩ := Kd.at_int HR0.out x5_1 p256 q256
            cases e256
            replace p256 := eq_true p256
            replace q256 := eq_true q256
            go_wp2
            go_roundg k1
            case measure => have := HK1.out; omega
            case rel => exact ⟨(wrap64 (x1_1 + 1)), (wrap64 (x5_1 + 1)), (by first | rfl | (simp; done) | (simp [*]; done)), (by first | rfl | (simp; done) | (simp [*]; done)), H', ⟨by have := HK1.out; omega⟩, by repeat (first | exact Drawn0.refl _ | apply Drawn0.step)⟩
          · rw [if_neg c5] at H
            have c5b0 : ((rd l0 x5_1) == x1_1) = false := beq_eq_false_iff_ne.mpr c5
            have c5b1 : ((rd l0 x5_1) != x1_1) = true := bne_iff_ne.mpr c5
            obtain rfl := Option.some.inj H
            have p256 : 0 ≤ (x5_1 : Int) := of_decide_eq_true (by first | (with_reducible assumption) | assumption)
            have q256 : x5_1 < (l0.length : Int) := of_decide_eq_true (by first | (with_reducible assumption) | assumption)
            obtain ⟨ad256, e256, hx256_0⟩ := Kd.at_int HR0.out x5_1 p256 q256
            cases e256
            replace p256 := eq_true p256
            replace q256 := eq_true q256
            go_wp2
            go_ret
            exact ⟨by first | rfl | (simp; done) | (simp [*]; done), by repeat (first | exact Drawn0.refl _ | apply Drawn0.step)⟩
        · rw [if_neg c4] at H
          exact absurd H (by simp)
      · rw [if_neg c3] at H
        have c3b0 : decide (x5_1 < (l0.length : Int)) = false := decide_eq_false c3
        clear c3
        obtain rfl := Option.some.inj H
        go_wp2
        go_ret
        exact ⟨by first | rfl | (simp; done) | (simp [*]; done), by repeat (first | exact Drawn0.refl _ | apply Drawn0.step)⟩
end Go.Proofs.Ytdefbflihmkegad.G
end
section
namespace Go.Proofs.Ytdefbflihmkegad.AR
open Go.RowKit Go.Proofs.YtdefbflihmkegadW.PrintWords
variable {P : Program} {ops : Array Oper} {rest : List Oper} {o : Oper} {a : Act} {Q : Exit → Act → World → Prop}
theorem results_cell {fn : Func} {p : Tmp} {ty : TypeId} (h : fn.results = #[.cell p ty]) {tmps : Array Value} {w : World} {g : Nat} {cs : Array Value} (hp : tmps.getD p undef = .pointer (some ⟨g, 0, none⟩))
    (hl : (loadVar ty ⟨g, 0, none⟩).run P w = .ok (.agg cs) w) : (results fn tmps).run P w = .ok (.agg cs) w := by
  have e : (results fn tmps).run P w = ((asAddr (tmps.getD p undef)).run P w).andThen fun a w₁ => (loadVar ty a).run P w₁ := by
    simp only [results, h]
    simp [Sem.run_bind, Result.andThen]
  rw [e, hp]
  exact hl
def CopyTo (cur : Array Value) (N i : Nat) (src : Array Value) : Prop := cur.size = N ∧ ∀ j, j < i → cur[j]? = src[j]?
theorem CopyTo.zero {cur : Array Value} {N : Nat} {src : Array Value} (h : cur.size = N) : CopyTo cur N 0 src := ⟨h, fun j hj => absurd hj (by omega)⟩
theorem CopyTo.step {cur src : Array Value} {N i m : Nat} {vs : List Value} (h : CopyTo cur N i src) (hm : vs.length = m) (hi : i + m ≤ N) (hv : ∀ j, j < m → vs[j]? = src[i + j]?) :
    CopyTo (cur.toList.take i ++ vs ++ cur.toList.drop (i + m)).toArray N (i + m) src := by
  obtain ⟨h1, h2⟩ := h
  have hl : cur.toList.length = N := by simpa using h1
  refine ⟨by simp [hm]; omega, fun j hj => ?_⟩
  simp only [List.getElem?_toArray]
  by_cases hji : j < i
  · rw [List.append_assoc, List.getElem?_append_left (by simp; omega), List.getElem?_take_of_lt hji, ← h2 j hji]; simp
  · rw [List.getElem?_append_left (by simp; omega), List.getElem?_append_right (by simp; omega), show (cur.toList.take i).length = i by simp; omega, hv (j - i) (by omega)]
    congr 1; omega
theorem CopyTo.set {cur src : Array Value} {N i : Nat} {v : Value} (h : CopyTo cur N i src) (hv : src[i]? = some v) (hi : i < N) : CopyTo (cur.setIfInBounds i v) N (i + 1) src := by
  obtain ⟨h1, h2⟩ := h
  refine ⟨by simpa using h1, fun j hj => ?_⟩
  by_cases e : j = i
  · subst e; rw [hv, Array.getElem?_setIfInBounds_self_of_lt (by omega)]
  · rw [Array.getElem?_setIfInBounds_ne (Ne.symm e)]; exact h2 j (by omega)
theorem CopyTo.done {cur src : Array Value} {N : Nat} (h : CopyTo cur N N src) (hs : src.size = N) : cur = src := by
  apply Array.ext_getElem?
  intro j
  by_cases hj : j < N
  · exact h.2 j hj
  · rw [Array.getElem?_eq_none (by have := h.1; omega), Array.getElem?_eq_none (by omega)]
end Go.Proofs.Ytdefbflihmkegad.AR
end
section
namespace Go.Proofs.Ytdefbflihmkegad.G
open Go.RowKit Go.Proofs.YtdefbflihmkegadW.PrintWords Go.Proofs.YtdefbflihmkegadW.PrintLast Go.Proofs.YtdefbflihmkegadW.PrintMore AR M
set_option linter.unusedVariables false
set_option linter.unusedSimpArgs false
theorem szq24 (b : Flat 258 .i8) (n : Nat) : (Try.prog.info? 24).map (·.size) = some (b.sub n 256).size := by rw [Flat.sub_size]; kernel_rfl
theorem zv24 (w : World) : (zeroValue 24).run Try.prog w = .ok (.agg (Array.replicate 256 (.int .i8 0))) w := by kernel_rfl
set_option maxHeartbeats 1000000 in
set_option maxRecDepth 100000 in
theorem toInt8A16_any (b : Flat 258 .i8) (off : Nat) (w : World) : Calls Try.prog 38 #[.agg (b.sub off 16)] w fun e w' => e = .returned (.agg (b.sub off 16)) ∧ Below w.heap.size w w' := by
  have SZ := Lib.hid (szr23 b off)
  go_enter Try.func38, Try.ntmps38
  go_wp2_with (first
    | ((with_reducible refine gate_dst (N := 1) rfl ?_); refine wpList_box_ev rfl 23 _ rfl (b.sub off 16) rfl ?_; intro g w1 hg hb hb1; have HG := Lib.hid hb; have HB0 := Lib.hid hb1; clear hb hb1 hg)
    | ((with_reducible refine gate_dst (N := 2) rfl ?_); refine box_event rfl (N := 2) rfl (t := 23) (exec_alloc rfl (Try.zeroValue23 _)) ?_; intro g2 hg wa ha hb; have HA := Lib.hid ha; have HB1 := Lib.hid (below_join HB0.out hb); have HG1 := Lib.hid (blkB HG.out hb); have h2 := Lib.hid (show w.heap.size ≤ g2 by have := HB0.out.size; omega); have h12 := Lib.hid (show g ≠ g2 by have := (Array.getElem?_eq_some_iff.1 HG.out).1; omega); clear ha hb hg)
    | ((with_reducible refine gate_dst (N := 3) rfl ?_); refine box_event rfl (N := 3) rfl (t := 23) (exec_alloc rfl (Try.zeroValue23 _)) ?_; intro g3 hg wb ha hb; have HO := Lib.hid ha; have HB2 := Lib.hid (below_join HB1.out hb); have HG2 := Lib.hid (blkB HG1.out hb); have HA2 := Lib.hid (blkB HA.out hb); have h3 := Lib.hid (show w.heap.size ≤ g3 by have := HB1.out.size; omega); have h13 := Lib.hid (show g ≠ g3 by have := (Array.getElem?_eq_some_iff.1 HG1.out).1; omega); have h23 := Lib.hid (show g2 ≠ g3 by have := (Array.getElem?_eq_some_iff.1 HA.out).1; omega); clear ha hb hg))
  go_loopw [4] (fun i wr => ∃ (n : Nat) (cur : Array Value), n ≤ 16 ∧ i = .int .i64 n ∧ Hid (wr.heap[g3]? = some (.cells cur 23 (0, 0))) ∧ Hid (CopyTo cur 16 n (b.sub off 16)) ∧ Hid (wr.heap[g]? = some (.cells (b.sub off 16) 23 (0, 0))) ∧ Hid (∃ z : Array Value, z.size = 16 ∧ wr.heap[g2]? = some (.cells z 23 (0, 0))) ∧ Hid (Below w.heap.size w wr)) (fun i _ => 16 - (intOf i).toNat)
  case atStart => exact ⟨0, _, Nat.zero_le _, rfl, HO.out, CopyTo.zero rfl, HG2.out, ⟨_, rfl, HA2.out⟩, HB2.out⟩
  case round =>
    obtain ⟨n, cur, hn, rfl, HC, HT, HS, HZ, HD⟩ := hrel
    by_cases hlt : n < 16
    · have i0 : (n : Int) < 16 := by omega
      have i1 : (0 : Int) ≤ (n : Int) := by omega
      have cc := blk_cell (j := n) HS.out (b.sub_at off 16 hlt)
      have HV := Lib.hid (b.sub_at off 16 hlt)
      generalize b.z (off + n) = v at cc HV
      obtain ⟨u, hu⟩ : ∃ u, cur[n]? = some u := ⟨cur[n]'(by have := HT.out.1; omega), Array.getElem?_eq_getElem _⟩
      have ct := blk_cell HC.out hu
      have cf := blk_frozen HC.out n
      have HW := Lib.hid (setCell_eq_setRow wr g3 n cur _ _ (.int .i8 v) HC.out)
      have HC1 := Lib.hid (setRow_heap wr g3 cur (cur.setIfInBounds n (.int .i8 v)) _ _ HC.out)
      have HT1 := Lib.hid (HT.out.set HV.out hlt)
      have HD1 := Lib.hid (below_setRow HD.out h3.out (cur.setIfInBounds n (.int .i8 v)))
      have HS1 := Lib.hid ((setRow_other wr g3 g (cur.setIfInBounds n (.int .i8 v)) h13.out).trans HS.out)
      have HZ1 := Lib.hid (show ∃ z : Array Value, z.size = 16 ∧ (wr.setRow g3 (cur.setIfInBounds n (.int .i8 v))).heap[g2]? = some (.cells z 23 (0, 0)) by obtain ⟨z, hz, hz2⟩ := HZ.out; exact ⟨z, hz, (setRow_other _ _ _ _ h23.out).trans hz2⟩)
      clear hu
      go_wp2
      go_roundw
      case rel => exact ⟨n + 1, cur.setIfInBounds n (.int .i8 v), by omega, by go_num, by rw [HW.out]; exact HC1.out, HT1.out, by rw [HW.out]; exact HS1.out, by rw [HW.out]; exact HZ1.out, by rw [HW.out]; exact HD1.out⟩
      case measure => simp [intOf]; omega
    · obtain rfl : n = 16 := by omega
      obtain rfl := HT.out.done (b.sub_size off 16)
      obtain ⟨z, hz, hz2⟩ := HZ.out
      have HZ2 := Lib.hid hz2
      have HZS := Lib.hid hz
      clear hz hz2 HZ
      go_wp2_with (first
        | ((with_reducible refine gate_dst (N := 14) rfl ?_); refine Kd.event_run rfl (exec_load_blk rfl rfl HC.out Try.underlying23 rfl SZ.out) ?_)
        | ((with_reducible refine gate_store (t := 23) (p := 2) rfl ?_); refine store_event (t := 23) (p := 2) rfl rfl rfl (exec_store_row (t2 := 23) (vs := b.sub off 16) rfl rfl rfl HZ2.out (by rw [HZS.out, Flat.sub_size]; decide) (b.sub_one _ _) SZ.out) ?_; intro ws hws; have HR := Lib.hid (show ws.heap[g2]? = some (.cells (b.sub off 16) 23 (0, 0)) by rw [hws]; exact setRow_whole HZ2.out (by rw [HZS.out, Flat.sub_size])); have HD1 := Lib.hid (show Below w.heap.size w ws by rw [hws]; exact below_setRow HD.out h2.out _); clear hws))
      (try simp only [Exit.inBlock, Exit.then])
      refine bodyPost_ret (results_cell rfl rfl (run_load_blk _ _ _ _ _ HR.out Try.underlying23 rfl SZ.out)) rfl ?_
      exact ⟨rfl, HD1.out⟩
end Go.Proofs.Ytdefbflihmkegad.G
end
section
namespace Go.Proofs.Ytdefbflihmkegad.G
open Go.RowKit Go.Proofs.YtdefbflihmkegadW.PrintWords Go.Proofs.YtdefbflihmkegadW.PrintLast Go.Proofs.YtdefbflihmkegadW.PrintMore AR M
set_option linter.unusedVariables false
set_option linter.unusedSimpArgs false
set_option maxHeartbeats 1000000 in
set_option maxRecDepth 100000 in
theorem toInt8A16A16_any (b : Flat 258 .i8) (w : World) : Calls Try.prog 23 #[.agg (b.sub 2 256)] w fun e w' => e = .returned (.agg (b.sub 2 256)) ∧ Below w.heap.size w w' := by
  have SZ := Lib.hid (szq24 b 2)
  have SR := Lib.hid (fun n => szr23 b n)
  have HQ := Lib.hid (fun n W => toInt8A16_any b n W)
  go_enter Try.func23, Try.ntmps23
  go_wp2_with (first
    | ((with_reducible refine gate_dst (N := 1) rfl ?_); refine wpList_box_ev rfl 24 _ rfl (b.sub 2 256) rfl ?_; intro g w1 hg hb hb1; have HG := Lib.hid hb; have HB0 := Lib.hid hb1; clear hb hb1 hg)
    | ((with_reducible refine gate_dst (N := 2) rfl ?_); refine box_event rfl (N := 2) rfl (t := 24) (exec_alloc rfl (zv24 _)) ?_; intro g2 hg wa ha hb; have HA := Lib.hid (show ∃ z : Array Value, z.size = 256 ∧ wa.heap[g2]? = some (.cells z 24 (0, 0)) from ⟨_, Array.size_replicate, ha⟩); have HB1 := Lib.hid (below_join HB0.out hb); have HG1 := Lib.hid (blkB HG.out hb); have h2 := Lib.hid (show w.heap.size ≤ g2 by have := HB0.out.size; omega); have h12 := Lib.hid (show g ≠ g2 by have := (Array.getElem?_eq_some_iff.1 HG.out).1; omega); have l2 := Lib.hid (show g2 < wa.heap.size from (Array.getElem?_eq_some_iff.1 ha).1); clear ha hb hg)
    | ((with_reducible refine gate_dst (N := 3) rfl ?_); refine box_event rfl (N := 3) rfl (t := 24) (exec_alloc rfl (zv24 _)) ?_; intro g3 hg wb ha hb; have HO := Lib.hid (show ∃ z : Array Value, z.size = 256 ∧ wb.heap[g3]? = some (.cells z 24 (0, 0)) from ⟨_, Array.size_replicate, ha⟩); have HB2 := Lib.hid (below_join HB1.out hb); have HG2 := Lib.hid (blkB HG1.out hb); have HA2 := Lib.hid (show ∃ z : Array Value, z.size = 256 ∧ wb.heap[g2]? = some (.cells z 24 (0, 0)) by obtain ⟨z, h, hz⟩ := HA.out; exact ⟨z, h, blkB hz hb⟩); have h3 := Lib.hid (show w.heap.size ≤ g3 by have := HB1.out.size; omega); have h13 := Lib.hid (show g ≠ g3 by have := (Array.getElem?_eq_some_iff.1 HG1.out).1; omega); have h23 := Lib.hid (show g2 ≠ g3 by have := l2.out; omega); clear ha hb hg))
  go_loopw [4] (fun i wr => ∃ (n : Nat) (cur : Array Value), n ≤ 16 ∧ i = .int .i64 n ∧ Hid (wr.heap[g3]? = some (.cells cur 24 (0, 0))) ∧ Hid (CopyTo cur 256 (n * 16) (b.sub 2 256)) ∧ Hid (wr.heap[g]? = some (.cells (b.sub 2 256) 24 (0, 0))) ∧ Hid (∃ z : Array Value, z.size = 256 ∧ wr.heap[g2]? = some (.cells z 24 (0, 0))) ∧ Hid (Below w.heap.size w wr)) (fun i _ => 16 - (intOf i).toNat)
  case atStart => obtain ⟨z, h, hz⟩ := HO.out; exact ⟨0, z, Nat.zero_le _, rfl, hz, by rw [Nat.zero_mul]; exact CopyTo.zero h, HG2.out, HA2.out, HB2.out⟩
  case round =>
    obtain ⟨n, cur, hn, rfl, HC, HT, HS, HZ, HD⟩ := hrel
    by_cases hlt : n < 16
    · have i0 : (n : Int) < 16 := by omega
      have i1 : (0 : Int) ≤ (n : Int) := by omega
      have HP := Lib.hid (show ∀ j v, (b.sub (2 + n * 16) 16)[j]? = some v → (b.sub 2 256)[n * 16 + j]? = some v from fun j v hv => by
        have hj : j < 16 := by have := (Array.getElem?_eq_some_iff.1 hv).1; rwa [Flat.sub_size] at this
        rw [b.sub_at _ _ (show n * 16 + j < 256 by omega), ← hv, b.sub_at _ _ hj]; congr 3; omega)
      go_wp2_with (first
        | ((with_reducible refine gate_dst (N := 12) rfl ?_); refine Kd.event_run rfl (exec_load_sub (n := n * 16) (cs := b.sub (2 + n * 16) 16) rfl (by first | rfl | (simp; done)) HS.out HP.out Try.underlying23 rfl (SR.out _)) ?_)
        | (go_at_call 38; refine (HQ.out (2 + n * 16) _).mono ?_; rintro e w3 ⟨rfl, hb⟩; have HD0 := Lib.hid (below_join HD.out hb); have HC0 := Lib.hid (blkB HC.out hb); have HS0 := Lib.hid (blkB HS.out hb); have HZ0 := Lib.hid (show ∃ z : Array Value, z.size = 256 ∧ w3.heap[g2]? = some (.cells z 24 (0, 0)) by obtain ⟨z, h, hz⟩ := HZ.out; exact ⟨z, h, blkB hz hb⟩); clear hb)
        | ((with_reducible refine gate_store (t := 23) (p := 14) rfl ?_); refine store_event (t := 23) (p := 14) rfl rfl rfl (exec_store_row (n := n * 16) (vs := b.sub (2 + n * 16) 16) rfl (by first | rfl | (simp; done)) rfl HC0.out (by rw [Flat.sub_size]; have := HT.out.1; omega) (b.sub_one _ _) (SR.out _)) ?_; intro ws hws; have HC1 := Lib.hid (show ws.heap[g3]? = some (.cells (cur.toList.take (n * 16) ++ (b.sub (2 + n * 16) 16).toList ++ cur.toList.drop (n * 16 + (b.sub (2 + n * 16) 16).size)).toArray 24 (0, 0)) by rw [hws]; exact setRow_heap _ _ _ _ _ _ HC0.out); have HD1 := Lib.hid (show Below w.heap.size w ws by rw [hws]; exact below_setRow HD0.out h3.out _); have HS1 := Lib.hid (show ws.heap[g]? = some (.cells (b.sub 2 256) 24 (0, 0)) by rw [hws]; exact (setRow_other _ _ _ _ h13.out).trans HS0.out); have HZ1 := Lib.hid (show ∃ z : Array Value, z.size = 256 ∧ ws.heap[g2]? = some (.cells z 24 (0, 0)) by obtain ⟨z, hz, hz2⟩ := HZ0.out; exact ⟨z, hz, by rw [hws]; exact (setRow_other _ _ _ _ h23.out).trans hz2⟩); clear hws))
      go_roundw
      case rel => exact ⟨n + 1, _, by omega, by go_num, HC1.out, by rw [show (n + 1) * 16 = n * 16 + (b.sub (2 + n * 16) 16).size by rw [Flat.sub_size]; omega]; exact HT.out.step (by simp) (by rw [Flat.sub_size]; omega) (fun j hj => by rw [Flat.sub_size] at hj; rw [Array.getElem?_toList, b.sub_at _ _ hj, b.sub_at _ _ (show n * 16 + j < 256 by omega)]; congr 3; omega), HS1.out, HZ1.out, HD1.out⟩
      case measure => simp [intOf]; omega
    · obtain rfl : n = 16 := by omega
      obtain rfl := HT.out.done (b.sub_size 2 256)
      obtain ⟨z, hz, hz2⟩ := HZ.out
      have HZ2 := Lib.hid hz2
      have HZS := Lib.hid hz
      clear hz hz2 HZ
      go_wp2_with (first
        | ((with_reducible refine gate_dst (N := 15) rfl ?_); refine Kd.event_run rfl (exec_load_blk rfl rfl HC.out Try.underlying24 rfl SZ.out) ?_)
        | ((with_reducible refine gate_store (t := 24) (p := 2) rfl ?_); refine store_event (t := 24) (p := 2) rfl rfl rfl (exec_store_row (t2 := 24) (vs := b.sub 2 256) rfl rfl rfl HZ2.out (by rw [HZS.out, Flat.sub_size]; decide) (b.sub_one _ _) SZ.out) ?_; intro ws hws; have HR := Lib.hid (show ws.heap[g2]? = some (.cells (b.sub 2 256) 24 (0, 0)) by rw [hws]; exact setRow_whole HZ2.out (by rw [HZS.out, Flat.sub_size])); have HD1 := Lib.hid (show Below w.heap.size w ws by rw [hws]; exact below_setRow HD.out h2.out _); clear hws))
      (try simp only [Exit.inBlock, Exit.then])
      refine bodyPost_ret (results_cell rfl rfl (run_load_blk _ _ _ _ _ HR.out Try.underlying24 rfl SZ.out)) rfl ?_
      exact ⟨rfl, HD1.out⟩
end Go.Proofs.Ytdefbflihmkegad.G
end
section
namespace Go.Proofs.Ytdefbflihmkegad.G
open Go.RowKit Go.Proofs.YtdefbflihmkegadW.PrintWords Go.Proofs.YtdefbflihmkegadW.PrintLast Go.Proofs.YtdefbflihmkegadW.PrintMore AR M
set_option linter.unusedVariables false
set_option linter.unusedSimpArgs false
theorem bay_filled (b : Flat 258 .i8) (z : Array Value) (hz : z.size = 258) : (((z.setIfInBounds 0 (.int .i8 (b.z 0))).setIfInBounds 1 (.int .i8 (b.z 1))).toList.take 2 ++ (b.sub 2 256).toList ++ ((z.setIfInBounds 0 (.int .i8 (b.z 0))).setIfInBounds 1 (.int .i8 (b.z 1))).toList.drop (2 + (b.sub 2 256).size)).toArray = b.A := by
  have h := ((((CopyTo.zero (src := b.A) hz).set (b.at_ (j := 0) (by omega)) (by omega)).set (b.at_ (j := 1) (by omega)) (by omega)).step (m := 256) (vs := (b.sub 2 256).toList) (by simp [Flat.sub_size]) (by omega) (fun j hj => by
    rw [Array.getElem?_toList, b.sub_at _ _ hj, b.at_ (show 0 + 1 + 1 + j < 258 by omega)])).done b.size
  rw [Flat.sub_size]
  exact h
theorem zv34 (w : World) : (zeroValue 34).run Try.prog w = .ok (.agg (Array.replicate 258 (.int .i8 0))) w := by kernel_rfl
set_option maxHeartbeats 1000000 in
set_option maxRecDepth 100000 in
theorem toBay_any (b : Flat 258 .i8) (w : World) : Calls Try.prog 7 #[.agg b.A] w fun e w' => e = .returned (.agg b.A) ∧ Below w.heap.size w w' := by
  have HQ := Lib.hid (fun W => toInt8A16A16_any b W)
  go_enter Try.func7, Try.ntmps7
  go_wp2_with (first
    | ((with_reducible refine gate_dst (N := 1) rfl ?_); refine wpList_box_ev rfl 26 _ rfl b.A rfl ?_; intro g w1 hg hb hb1; have HG := Lib.hid hb; have HB0 := Lib.hid hb1; clear hb hb1 hg)
    | ((with_reducible refine gate_dst (N := 2) rfl ?_); refine box_event rfl (N := 2) rfl (t := 34) (exec_alloc rfl (zv34 _)) ?_; intro g2 hg wa ha hb; have HA := Lib.hid (show ∃ z : Array Value, z.size = 258 ∧ wa.heap[g2]? = some (.cells z 34 (0, 0)) from ⟨_, Array.size_replicate, ha⟩); have HB1 := Lib.hid (below_join HB0.out hb); have HG1 := Lib.hid (blkB HG.out hb); have h2 := Lib.hid (show w.heap.size ≤ g2 by have := HB0.out.size; omega); have l2 := Lib.hid (show g2 < wa.heap.size from (Array.getElem?_eq_some_iff.1 ha).1); clear ha hb hg)
    | ((with_reducible refine gate_dst (N := 3) rfl ?_); refine box_event rfl (N := 3) rfl (t := 34) (exec_alloc rfl (zv34 _)) ?_; intro g3 hg wb ha hb; obtain ⟨z, hz, ha⟩ : ∃ z : Array Value, z.size = 258 ∧ wb.heap[g3]? = some (.cells z 34 (0, 0)) := ⟨_, Array.size_replicate, ha⟩; have HB2 := below_join HB1.out hb; have HG2 := blkB HG1.out hb; have HA2 : ∃ z : Array Value, z.size = 258 ∧ wb.heap[g2]? = some (.cells z 34 (0, 0)) := (by obtain ⟨z, h, hz⟩ := HA.out; exact ⟨z, h, blkB hz hb⟩); have h3 : w.heap.size ≤ g3 := (by have := HB1.out.size; omega); have h13 : g ≠ g3 := (by have := (Array.getElem?_eq_some_iff.1 HG1.out).1; omega); have h31 := h13.symm; have h23 : g2 ≠ g3 := (by have := l2.out; omega);
       have c0 := blk_cell (j := 0) HG2 (b.at_ (by omega)); have c1 := blk_cell (j := 1) HG2 (b.at_ (by omega));
       obtain ⟨u0, hu0⟩ : ∃ u, z[0]? = some u := ⟨z[0]'(by omega), Array.getElem?_eq_getElem _⟩; obtain ⟨u1, hu1⟩ : ∃ u, z[1]? = some u := ⟨z[1]'(by omega), Array.getElem?_eq_getElem _⟩; have t0 := blk_cell ha hu0; have t1 := blk_cell ha hu1; have f0 := blk_frozen ha 0; have f1 := blk_frozen ha 1;
       have HW1 := setCell_eq_setRow wb g3 0 z _ _ (.int .i8 (b.z 0)) ha; have HW2 : (wb.setCell ⟨g3, 0, none⟩ (.int .i8 (b.z 0))).setCell ⟨g3, 1, none⟩ (.int .i8 (b.z 1)) = wb.setRow g3 ((z.setIfInBounds 0 (.int .i8 (b.z 0))).setIfInBounds 1 (.int .i8 (b.z 1))) := (by rw [HW1, setCell_eq_setRow _ g3 1 _ _ _ (.int .i8 (b.z 1)) (setRow_heap _ _ _ _ _ _ ha), setRow_setRow]);
       have HZL := Lib.hid hz;
       have HC := Lib.hid (show ((wb.setCell ⟨g3, 0, none⟩ (.int .i8 (b.z 0))).setCell ⟨g3, 1, none⟩ (.int .i8 (b.z 1))).heap[g3]? = some (.cells ((z.setIfInBounds 0 (.int .i8 (b.z 0))).setIfInBounds 1 (.int .i8 (b.z 1))) 34 (0, 0)) by rw [HW2]; exact setRow_heap _ _ _ _ _ _ ha);
       have HS := Lib.hid (show ((wb.setCell ⟨g3, 0, none⟩ (.int .i8 (b.z 0))).setCell ⟨g3, 1, none⟩ (.int .i8 (b.z 1))).heap[g]? = some (.cells b.A 26 (0, 0)) by rw [HW2]; exact (setRow_other _ _ _ _ h13).trans HG2);
       have HZ := Lib.hid (show ∃ z2 : Array Value, z2.size = 258 ∧ ((wb.setCell ⟨g3, 0, none⟩ (.int .i8 (b.z 0))).setCell ⟨g3, 1, none⟩ (.int .i8 (b.z 1))).heap[g2]? = some (.cells z2 34 (0, 0)) by obtain ⟨z2, q1, q2⟩ := HA2; exact ⟨z2, q1, by rw [HW2]; exact (setRow_other _ _ _ _ h23).trans q2⟩);
       have HD := Lib.hid (show Below w.heap.size w ((wb.setCell ⟨g3, 0, none⟩ (.int .i8 (b.z 0))).setCell ⟨g3, 1, none⟩ (.int .i8 (b.z 1))) by rw [HW2]; exact below_setRow HB2 h3 _);
       have h23' := Lib.hid h23; have h3' := Lib.hid h3;
       clear HW1 HW2 hu0 hu1 ha hb hg hz HB2 HG2 HA2 h23 h3)
    | ((with_reducible refine gate_dst (N := 11) rfl ?_); refine Kd.event_run rfl (exec_load_sub (n := 2) (cs := b.sub 2 256) rfl rfl HS.out (b.sub_in (by omega)) Try.underlying24 rfl (sz24 b)) ?_)
    | (go_at_call 23; refine (HQ.out _).mono ?_; rintro e w3 ⟨rfl, hb⟩; have HD0 := Lib.hid (below_join HD.out hb); have HC0 := Lib.hid (blkB HC.out hb); have HZ0 := Lib.hid (show ∃ z : Array Value, z.size = 258 ∧ w3.heap[g2]? = some (.cells z 34 (0, 0)) by obtain ⟨z, h, hz⟩ := HZ.out; exact ⟨z, h, blkB hz hb⟩); clear hb)
    | ((with_reducible refine gate_store (t := 24) (p := 13) rfl ?_); refine store_event (t := 24) (p := 13) rfl rfl rfl (exec_store_row (n := 2) (vs := b.sub 2 256) rfl rfl rfl HC0.out (by rw [Flat.sub_size]; simp [HZL.out]) (b.sub_one _ _) (sz24 b)) ?_; intro ws hws;
       have HC1 := Lib.hid (show ws.heap[g3]? = some (.cells b.A 34 (0, 0)) by rw [hws, setRow_heap _ _ _ _ _ _ HC0.out, bay_filled b z HZL.out]);
       have HD1 := Lib.hid (show Below w.heap.size w ws by rw [hws]; exact below_setRow HD0.out h3'.out _);
       have HZ1 := Lib.hid (show ∃ z : Array Value, z.size = 258 ∧ ws.heap[g2]? = some (.cells z 34 (0, 0)) by obtain ⟨z, hz, hz2⟩ := HZ0.out; exact ⟨z, hz, by rw [hws]; exact (setRow_other _ _ _ _ h23'.out).trans hz2⟩); clear hws)
    | ((with_reducible refine gate_dst (N := 14) rfl ?_); refine Kd.event_run rfl (exec_load_blk rfl rfl HC1.out Try.underlying34 rfl (szO34 b)) ?_)
    | ((with_reducible refine gate_store (t := 34) (p := 2) rfl ?_); obtain ⟨z9, hz9, hz8⟩ := HZ1.out; refine store_event (t := 34) (p := 2) rfl rfl rfl (exec_store_row (n := 0) (vs := b.A) rfl rfl rfl hz8 (by rw [hz9, Flat.size]; decide) b.one (szO34 b)) ?_; intro wt hwt; have HR := Lib.hid (show wt.heap[g2]? = some (.cells b.A 34 (0, 0)) by rw [hwt]; exact setRow_whole hz8 (by rw [hz9, Flat.size])); have HD2 := Lib.hid (show Below w.heap.size w wt by rw [hwt]; exact below_setRow HD1.out h2.out _); clear hwt hz8 hz9))
  (try simp only [Exit.inBlock, Exit.then])
  refine bodyPost_ret (results_cell rfl rfl (run_load_blk _ _ _ _ _ HR.out Try.underlying34 rfl (szO34 b))) rfl ?_
  exact ⟨rfl, HD2.out⟩
def laws_toBay.f (a0 : O26) : Option (O34) := some a0
theorem laws_toBay.calls (a0 : O26) (r : O34) (w : World) (h : laws_toBay.f a0 = some r) :
    Calls Try.prog 7 #[VO26 a0] w fun e w' => e = .returned (VO34 r) ∧ Below w.heap.size w w' := by
  obtain rfl := Option.some.inj h
  exact toBay_any a0 w
end Go.Proofs.Ytdefbflihmkegad.G
end
section
namespace Go.Proofs.Ytdefbflihmkegad.G
open Go.RowKit Go.Proofs.YtdefbflihmkegadW.PrintWords Go.Proofs.YtdefbflihmkegadW.PrintLast Go.Proofs.YtdefbflihmkegadW.PrintMore
attribute [local go_sem] max2_int min2_int max_two min_two max_three min_three max_four min_four   -- for this text's walks alone
set_option linter.unusedVariables false
set_option linter.unusedSimpArgs false
def laws_markPlaceS.l0 : Nat → List (S55) → Int → Int → Option (Int × (List (S55)))
  | 0, _, _, _ => none
  | k + 1, x0, x1, x5 => if x5 < (x0.length : Int) then (if 0 ≤ x5 then ((some (x0.set (x5 : Int).toNat (⟨IntKind.i8.wrap (x1), (rd_T55 x0 x5).f1⟩ : S55) : List (S55))).bind fun y255 => (laws_markPlaceS.l0 k (y255.set (x5 : Int).toNat (⟨(rd_T55 y255 x5).f0, IntKind.i8.wrap (wrap64 (x1 + 1))⟩ : S55)) (wrap64 ((wrap64 (x1 + 1)) + 1)) (wrap64 (x5 + 1)))) else (none)) else (some (x1, x0))
def laws_markPlaceS.f (k : Nat) (l0 : List (S55)) (a1 : Int) : Option (Int × (List (S55))) := laws_markPlaceS.l0 k l0 a1 0
set_option maxHeartbeats 8000000 in
set_option maxRecDepth 100000 in
theorem laws_markPlaceS.calls (k : Nat) (P0_ : Nat → Prop) (u9000_ : Value) (l0 : List (S55)) (a1 : Int) (r1 : Int) (r2 : List (S55)) (w0 w : World) (hB : Below w0.heap.size w0 w) (ho0 : Kd.R k55 55 w w0.heap.size P0_ u9000_ l0) (h : laws_markPlaceS.f k l0 a1 = some (r1, r2)) :
    Calls Try.prog 32 #[u9000_, .int .i64 a1] w fun e w' => e = .returned (.int .i64 r1) ∧ Kd.R k55 55 w' w0.heap.size (fun k_ => (P0_ k_ ∨ w.heap.size ≤ k_)) u9000_ r2 ∧ Below w0.heap.size w0 w' ∧ Kept w w' (fun k_ => P0_ k_) := by
  have HO0 := Aside0.mk (show Kd.R k55 55 w w0.heap.size (fun k_ => (P0_ k_ ∨ w.heap.size ≤ k_)) u9000_ l0 from Kd.R_mono ho0 (fun k_ hk => (.inl hk)))
  have HK := Aside0.mk (Kept.refl w (fun k_ => P0_ k_))
  have HW0 := Aside0.mk hB.size
  have HB := Aside0.mk hB
  clear hB
  have H : (laws_markPlaceS.l0 k l0 a1 0) = some (r1, r2) := h
  clear h
  have H' := Aside0.mk H
  clear H
  go_enter Try.func32, Try.ntmps32
  go_wp2
  go_loopg [1, 5] k (fun kq v1 v5 w' => ∃ (x0_1 : List (S55)) (x1_1 : Int) (x5_1 : Int), v1 = .int .i64 x1_1 ∧ v5 = .int .i64 x5_1 ∧ Aside0 (laws_markPlaceS.l0 kq x0_1 x1_1 x5_1 = some (r1, r2)) ∧ Aside0 (kq ≤ k) ∧ Aside0 (Kd.R k55 55 w' w0.heap.size (fun k_ => (P0_ k_ ∨ w.heap.size ≤ k_)) u9000_ x0_1) ∧ Aside0 (Kept w w' (fun k_ => P0_ k_)) ∧ Aside0 (Below w0.heap.size w0 w'))
  case atStart => exact ⟨(l0), (a1), (0), (by first | rfl | (simp; done) | (simp [*]; done)), (by first | rfl | (simp; done) | (simp [*]; done)), H', ⟨Nat.le_refl _⟩, ⟨by (with_reducible repeat (first | apply Kd.R_alloc | apply Kd.R_drewN | apply Kd.R_drew)); exact HO0.out⟩, ⟨by repeat (first | (with_reducible first | exact HK.out | apply Kept.alloc | apply Kept.drewN | apply Kept.drew) | exact HK.out)⟩, ⟨by repeat (first | (with_reducible first | exact HB.out | apply below_alloc | apply pw_below_drewN | apply below_drew1) | exact HB.out)⟩⟩
  case round =>
    clear H'
    try clear p2
    obtain ⟨x0_1, x1_1, x5_1, rfl, rfl, HA, HK1, HO_0, HK, HB⟩ := hrel
    cases gk with
    | zero => exact absurd HA.out (by simp [laws_markPlaceS.l0])
    | succ k1 =>
      have H := HA.out
      clear HA
      simp only [laws_markPlaceS.l0] at H
      by_cases c3 : x5_1 < (x0_1.length : Int)
      · rw [if_pos c3] at H
        have c3b0 : decide (x5_1 < (x0_1.length : Int)) = true := decide_eq_true c3
        clear c3
        by_cases c4 : 0 ≤ x5_1
        · rw [if_pos c4] at H
          have c4b0 : decide (0 ≤ x5_1) = true := decide_eq_true c4
          clear c4
          obtain ⟨y255, hy255⟩ : ∃ y_ : List (S55), y_ = (x0_1.set (x5_1 : Int).toNat (⟨IntKind.i8.wrap (x1_1), (rd_T55 x0_1 x5_1).f1⟩ : S55)) := ⟨_, rfl⟩
          replace H : (laws_markPlaceS.l0 k1 (y255.set (x5_1 : Int).toNat (⟨(rd_T55 y255 x5_1).f0, IntKind.i8.wrap (wrap64 (x1_1 + 1))⟩ : S55)) (wrap64 ((wrap64 (x1_1 + 1)) + 1)) (wrap64 (x5_1 + 1))) = some (r1, r2) := by first | (rw [hy255]; with_reducible exact H) | (have H2_ := (Option.bind_some _ _).symm.trans H; rw [hy255]; with_reducible exact H2_) | (have H2_ := (Option.bind_some _ _).symm.trans H; with_reducible exact H2_) | with_reducible exact H | (rw [hy255]; exact H) | exact H
          have Ny255 := Aside0.mk hy255
          clear hy255
          obtain ⟨y256, hy256⟩ : ∃ y_ : List (S55), y_ = (y255.set (x5_1 : Int).toNat (⟨(rd_T55 y255 x5_1).f0, IntKind.i8.wrap (wrap64 (x1_1 + 1))⟩ : S55)) := ⟨_, rfl⟩
          replace H : (laws_markPlaceS.l0 k1 y256 (wrap64 ((wrap64 (x1_1 + 1)) + 1)) (wrap64 (x5_1 + 1))) = some (r1, r2) := by first | (rw [hy256]; with_reducible exact H) | (have H2_ := (Option.bind_some _ _).symm.trans H; rw [hy256]; with_reducible exact H2_) | (have H2_ := (Option.bind_some _ _).symm.trans H; with_reducible exact H2_) | with_reducible exact H | (rw [hy256]; exact H) | exact H
          have Ny256 := Aside0.mk hy256
          clear hy256
          have H' := Aside0.mk H
          clear H
          obtain ⟨Ao7, co7, eo7⟩ := Kd.R_slice HO_0.out
          subst eo7
          have p5 : 0 ≤ (x5_1 : Int) := of_decide_eq_true (by first | (with_reducible assumption) | assumption)
          have q5 : (x5_1 : Int) < ((x0_1.length : Int) : Int) := of_decide_eq_true (by first | (with_reducible assumption) | assumption)
          obtain ⟨go5, co5, eo5, gb5, gl5, cl5, HG5⟩ := Kd.R_form HO_0.out (by omega)
          (first | cases eo5 | (injection eo5 with ea_ en_ ec_; (first | subst ea_ | (injection ea_ with ea_; subst ea_)); subst ec_; clear en_))
          have GB5 := Aside0.mk gb5
          have GG5 := Aside0.mk HG5
          clear gb5 gl5 HG5
          have HMgo5 := Aside0.mk (show (P0_ go5 ∨ w.heap.size ≤ go5) from (HO_0.out.1 _ rfl))
          obtain ⟨ce5, hcl5, hM5, hcc5, hfr5⟩ := Kd.R_elem HO_0.out z55 (x5_1 : Int) p5 q5
          obtain rfl := k55_openM hM5
          have hx5_0 : wr.cell? ⟨go5, (x5_1 : Int).toNat * 2, none⟩ = some (.int .i8 ((rd_T55 x0_1 x5_1).f0)) := hcc5 0 _ rfl
          have hx5_1 : wr.cell? ⟨go5, (x5_1 : Int).toNat * 2 + 1, none⟩ = some (.int .i8 ((rd_T55 x0_1 x5_1).f1)) := hcc5 1 _ rfl
          have hf5_0 : wr.frozen? ⟨go5, (x5_1 : Int).toNat * 2, none⟩ = false := hfr5 0
          have hf5_1 : wr.frozen? ⟨go5, (x5_1 : Int).toNat * 2 + 1, none⟩ = false := hfr5 1
          (try clear hcl5); (try clear hcc5); (try clear hfr5); (try clear hM5)
          replace p5 := eq_true p5
          replace q5 := eq_true q5
          have HX8 := Aside0.mk (show Kd.R k55 55 wr w0.heap.size (fun k_ => (P0_ k_ ∨ w.heap.size ≤ k_)) (.slice (some ⟨go5, 0, none⟩) x0_1.length co7) x0_1 from (by (with_reducible repeat (first | apply Kd.R_alloc | apply Kd.R_drewN | apply Kd.R_drew)); exact HO_0.out))
          obtain ⟨ce8, hcl8, hM8, hcc8, hfr8⟩ := Kd.R_elem HX8.out z55 (x5_1 : Int) (of_decide_eq_true (by first | (with_reducible assumption) | assumption)) (by have h_ : (x5_1 : Int) < ((x0_1.length : Int) : Int) := of_decide_eq_true (by first | (with_reducible assumption) | assumption); first | exact h_ | (have e_ := (Kd.R_reads' HO_0.out).1; omega) | simpa using h_)
          obtain rfl := k55_openM hM8
          have HP8 := Kd.R_seg HX8.out (x5_1 : Int) (of_decide_eq_true (by first | (with_reducible assumption) | assumption)) (by have h_ : (x5_1 : Int) < ((x0_1.length : Int) : Int) := of_decide_eq_true (by first | (with_reducible assumption) | assumption); first | exact h_ | (have e_ := (Kd.R_reads' HO_0.out).1; omega) | simpa using h_) (seg := [.int .i8 (IntKind.i8.wrap (x1_1))]) (j := 0) hcl8 hcc8 (show 1 ≤ 2 from by decide) (x' := (⟨IntKind.i8.wrap (x1_1), (rd_T55 x0_1 x5_1).f1⟩ : S55)) (k55_mkM _ _ _ (⟨IntKind.i8.wrap (x1_1), (rd_T55 x0_1 x5_1).f1⟩ : S55) ) (fun _ hk => hk)
          have hx8_0 := hcc8 0 _ rfl
          (try simp only [show (k55).sz = 2 from rfl, Nat.mul_one, Nat.add_zero] at hx8_0)
          have hf8_0 := hfr8 0
          (try simp only [show (k55).sz = 2 from rfl, Nat.mul_one, Nat.add_zero] at hf8_0)
          (try clear hcl8); (try clear hcc8); (try clear hfr8); (try clear hM8)
          go_wp2_with (first | ((with_reducible refine gate_store (t := 22) (p := 17) rfl ?_); refine store_event (t := 22) (p := 17) (v := ?vo_w9) (w1 := (wr.setCell ⟨go5, (x5_1 : Int).toNat * 2, none⟩ (.int .i8 (IntKind.i8.wrap (x1_1))))) ?hg ?ho ?hn ?hr ?_; (case ho => rfl); (case hg => rfl); (case hn => rfl); (case hr => first | (go_simp; done) | (go_simp; rfl)); intro w9 hw; have hg : wr.grownBy w9 (some go5) := (by rw [hw]; exact HP8.2); have hp_ : Kd.R k55 55 w9 w0.heap.size (fun k_ => (P0_ k_ ∨ w.heap.size ≤ k_)) (.slice (some ⟨go5, 0, none⟩) x0_1.length co7) y255 := (by rw [hw, Ny255.out]; exact HP8.1); clear HP8; have n0_ := Aside0.mk (hp_); have n1_ := Aside0.mk ((by rw [hw]; exact below_set (HB.out) GB5.out : Below w0.heap.size w0 w9)); have n2_ := Aside0.mk (Kept.of_grown (S := (fun k_ => P0_ k_)) hg (by repeat (first | (with_reducible first | exact HK.out | apply Kept.alloc | apply Kept.drewN | apply Kept.drew) | exact HK.out)) (fun k_ e_ => (HO_0.out.1 k_ e_))); clear HO_0; clear HB; clear HK; have HO_0 := n0_; have HB := n1_; have HK := n2_; clear n0_ n1_ n2_; clear hg hw hp_; have p6 : 0 ≤ (x5_1 : Int) := of_decide_eq_true (by first | (with_reducible assumption) | assumption); have q6 : (x5_1 : Int) < ((x0_1.length : Int) : Int) := of_decide_eq_true (by first | (with_reducible assumption) | assumption); obtain ⟨ce6, hcl6, hM6, hcc6, hfr6⟩ := Kd.R_elem HO_0.out z55 (x5_1 : Int) p6 q6; obtain rfl := k55_openM hM6; have hx6_0 : w9.cell? ⟨go5, (x5_1 : Int).toNat * 2, none⟩ = some (.int .i8 ((rd_T55 y255 x5_1).f0)) := hcc6 0 _ rfl; have hx6_1 : w9.cell? ⟨go5, (x5_1 : Int).toNat * 2 + 1, none⟩ = some (.int .i8 ((rd_T55 y255 x5_1).f1)) := hcc6 1 _ rfl; have hf6_0 : w9.frozen? ⟨go5, (x5_1 : Int).toNat * 2, none⟩ = false := hfr6 0; have hf6_1 : w9.frozen? ⟨go5, (x5_1 : Int).toNat * 2 + 1, none⟩ = false := hfr6 1; (try clear hcl6); (try clear hcc6); (try clear hfr6); (try clear hM6); replace p6 := eq_true p6; replace q6 := eq_true q6; have HX10 := Aside0.mk (show Kd.R k55 55 w9 w0.heap.size (fun k_ => (P0_ k_ ∨ w.heap.size ≤ k_)) (.slice (some ⟨go5, 0, none⟩) x0_1.length co7) y255 from (by (with_reducible repeat (first | apply Kd.R_alloc | apply Kd.R_drewN | apply Kd.R_drew)); exact HO_0.out)); obtain ⟨ce10, hcl10, hM10, hcc10, hfr10⟩ := Kd.R_elem HX10.out z55 (x5_1 : Int) (of_decide_eq_true (by first | (with_reducible assumption) | assumption)) (by have h_ : (x5_1 : Int) < ((x0_1.length : Int) : Int) := of_decide_eq_true (by first | (with_reducible assumption) | assumption); first | exact h_ | (have e_ := (Kd.R_reads' HO_0.out).1; omega) | simpa using h_); obtain rfl := k55_openM hM10; have HP10 := Kd.R_seg HX10.out (x5_1 : Int) (of_decide_eq_true (by first | (with_reducible assumption) | assumption)) (by have h_ : (x5_1 : Int) < ((x0_1.length : Int) : Int) := of_decide_eq_true (by first | (with_reducible assumption) | assumption); first | exact h_ | (have e_ := (Kd.R_reads' HO_0.out).1; omega) | simpa using h_) (seg := [.int .i8 (IntKind.i8.wrap (wrap64 (x1_1 + 1)))]) (j := 1) hcl10 hcc10 (show 2 ≤ 2 from by decide) (x' := (⟨(rd_T55 y255 x5_1).f0, IntKind.i8.wrap (wrap64 (x1_1 + 1))⟩ : S55)) (k55_mkM _ _ _ (⟨(rd_T55 y255 x5_1).f0, IntKind.i8.wrap (wrap64 (x1_1 + 1))⟩ : S55) ) (fun _ hk => hk); have hx10_1 := hcc10 1 _ rfl; (try simp only [show (k55).sz = 2 from rfl, Nat.mul_one, Nat.add_zero] at hx10_1); have hf10_1 := hfr10 1; (try simp only [show (k55).sz = 2 from rfl, Nat.mul_one, Nat.add_zero] at hf10_1); (try clear hcl10); (try clear hcc10); (try clear hfr10); (try clear hM10)) | ((with_reducible refine gate_store (t := 22) (p := 25) rfl ?_); refine store_event (t := 22) (p := 25) (v := ?vo_w11) (w1 := (w9.setCell ⟨go5, (x5_1 : Int).toNat * 2 + 1, none⟩ (.int .i8 (IntKind.i8.wrap (wrap64 (x1_1 + 1)))))) ?hg ?ho ?hn ?hr ?_; (case ho => rfl); (case hg => rfl); (case hn => rfl); (case hr => first | (go_simp; done) | (go_simp; rfl)); intro w11 hw; have hg : w9.grownBy w11 (some go5) := (by rw [hw]; exact HP10.2); have hp_ : Kd.R k55 55 w11 w0.heap.size (fun k_ => (P0_ k_ ∨ w.heap.size ≤ k_)) (.slice (some ⟨go5, 0, none⟩) x0_1.length co7) y256 := (by rw [hw, Ny256.out]; exact HP10.1); clear HP10; have n0_ := Aside0.mk (hp_); have n1_ := Aside0.mk ((by rw [hw]; exact below_set (HB.out) GB5.out : Below w0.heap.size w0 w11)); have n2_ := Aside0.mk (Kept.of_grown (S := (fun k_ => P0_ k_)) hg (by repeat (first | (with_reducible first | exact HK.out | apply Kept.alloc | apply Kept.drewN | apply Kept.drew) | exact HK.out)) (fun k_ e_ => (HO_0.out.1 k_ e_))); clear HO_0; clear HB; clear HK; have HO_0 := n0_; have HB := n1_; have HK := n2_; clear n0_ n1_ n2_; clear hg hw hp_))
          go_roundg k1
          case measure => have := HK1.out; omega
          case rel => exact ⟨(y256), (wrap64 ((wrap64 (x1_1 + 1)) + 1)), (wrap64 (x5_1 + 1)), (by first | rfl | (simp; done) | (simp [*]; done)), (by first | rfl | (simp; done) | (simp [*]; done)), H', ⟨by have := HK1.out; omega⟩, ⟨by (with_reducible repeat (first | apply Kd.R_alloc | apply Kd.R_drewN | apply Kd.R_drew)); exact HO_0.out⟩, ⟨by repeat (first | (with_reducible first | exact HK.out | apply Kept.alloc | apply Kept.drewN | apply Kept.drew) | exact HK.out)⟩, ⟨by repeat (first | (with_reducible first | exact HB.out | apply below_alloc | apply pw_below_drewN | apply below_drew1) | exact HB.out)⟩⟩
        · rw [if_neg c4] at H
          exact absurd H (by simp)
      · rw [if_neg c3] at H
        have c3b0 : decide (x5_1 < (x0_1.length : Int)) = false := decide_eq_false c3
        clear c3
        simp only [Option.some.injEq, Prod.mk.injEq] at H
        obtain ⟨rfl, rfl⟩ := H
        obtain ⟨Ao12, co12, eo12⟩ := Kd.R_slice HO_0.out
        subst eo12
        go_wp2
        go_ret
        exact ⟨by first | rfl | (simp [errW_none, errW_some] <;> rfl) | (simp [*, errW_none, errW_some] <;> rfl), by (with_reducible repeat (first | apply Kd.R_alloc | apply Kd.R_drewN | apply Kd.R_drew)); exact HO_0.out, by repeat (first | (with_reducible first | exact HB.out | apply below_alloc | apply pw_below_drewN | apply below_drew1) | exact HB.out), by repeat (first | (with_reducible first | exact HK.out | apply Kept.alloc | apply Kept.drewN | apply Kept.drew) | exact HK.out)⟩
end Go.Proofs.Ytdefbflihmkegad.G
end
section
namespace Go.Proofs.Ytdefbflihmkegad.PL
open Go.RowKit M Go.Proofs.YtdefbflihmkegadW.PrintWords
theorem i8_wf {x : Int} (h : (Lit.int .i8 x).wf = true) : i8B x = true := by
  have := bounds_i8 h
  simp [i8B, inB]; omega
theorem wsm {x : Int} (h0 : -1000000000000 ≤ x) (h1 : x ≤ 1000000000000) : wrap64 x = x := by
  unfold wrap64; omega
theorem wnx {i : Nat} (h : i ≤ 10000000) : wrap64 ((i : Int) + 1) = ((i + 1 : Nat) : Int) := by
  rw [wsm (by omega) (by omega)]; omega
theorem rd_at {l : List Int} {i : Nat} (h : i < l.length) : rd l (i : Int) = l[i] := by simp [rd, h]
theorem i8_bounds {x : Int} (h : i8B x = true) : -128 ≤ x ∧ x ≤ 127 := inB_true h
end Go.Proofs.Ytdefbflihmkegad.PL
end
section
namespace Go.Proofs.YtdefbflihmkegadW.PrintWords
open Go.RowKit
section
variable {α : Type} {d : Kd α} {e t base : Nat} {ok S : Nat → Prop} {W W2 : World} {v : Value} {xs : List α}
theorem Kd.R_keptR (h : d.R e W base ok v xs) (hk : Kept W W2 (fun k_ => S k_ ∨ ∃ cells, W.heap[k_]? = some (.cells cells t (0, 0)))) (hne : ∀ k, ok k → ¬ S k) (ht : ∀ q, q ∈ e :: d.E → q ≠ t) : d.R e W2 base (fun k => ok k ∧ (¬ S k ∧ k < W.heap.size)) v xs := by
  have h2 := Kd.R_mono (ok' := fun k => ok k ∧ (¬ S k ∧ k < W.heap.size) ∧ ¬ ∃ cells, W.heap[k]? = some (.cells cells t (0, 0))) (Kd.R_bound h) (fun k hk => by
    obtain ⟨h1, h2, h3, q, hq, cells, hc⟩ := hk
    refine ⟨h1, ⟨hne k h1, h3⟩, fun ⟨c2, hc2⟩ => ?_⟩
    rw [hc] at hc2
    injection hc2 with hc2
    injection hc2 with _ hc2
    exact ht q hq hc2)
  exact Kd.R_mono (Kd.R_step h2 (fun k ho hlt => hk.2 k hlt (fun hs => hs.elim ho.2.1.1 ho.2.2))) (fun k hk => ⟨hk.1, hk.2.1⟩)
theorem blk_keptR {g t' : Nat} {cs : Array Value} (hb : W.heap[g]? = some (.cells cs t' (0, 0))) (hk : Kept W W2 (fun k_ => S k_ ∨ ∃ cells, W.heap[k_]? = some (.cells cells t (0, 0)))) (hne : ¬ S g) (ht : t' ≠ t := by decide) : W2.heap[g]? = some (.cells cs t' (0, 0)) := by
  refine (hk.2 g (blk_lt hb) (fun hs => hs.elim hne (fun ⟨c2, hc2⟩ => ?_))).trans hb
  rw [hb] at hc2
  injection hc2 with hc2
  injection hc2 with _ hc2
  exact ht hc2
end
end Go.Proofs.YtdefbflihmkegadW.PrintWords
namespace Go.Proofs.Ytdefbflihmkegad.G
open Go.RowKit Go.Proofs.YtdefbflihmkegadW.PrintWords Go.Proofs.YtdefbflihmkegadW.PrintLast Go.Proofs.YtdefbflihmkegadW.PrintMore Go.Proofs.Ytdefbflihmkegad.PL
set_option linter.unusedVariables false
set_option linter.unusedSimpArgs false
abbrev PlS := S55
def totP : List (List PlS) → Nat
  | [] => 0
  | r :: rs => r.length + totP rs
theorem totP_take {l : List (List PlS)} {i : Nat} (h : i < l.length) : totP (l.take (i + 1)) = totP (l.take i) + l[i].length := by
  induction l generalizing i with
  | nil => exact absurd h (by simp)
  | cons x xs ih =>
    cases i with
    | zero => simp [totP]
    | succ i => simp only [List.take_succ_cons, totP, List.getElem_cons_succ]; rw [ih (by simpa using h)]; omega
theorem totP_le {l : List (List PlS)} (i : Nat) : totP (l.take i) ≤ totP l := by
  induction l generalizing i with
  | nil => simp [totP]
  | cons x xs ih =>
    cases i with
    | zero => simp [totP]
    | succ i => simp only [List.take_succ_cons, totP]; have := ih i; omega
def laws_markPlaceSS.f (l0 : List (List PlS)) (a1 : Int) : Option Int := if 0 ≤ a1 ∧ a1 + 2 * (totP l0 : Int) ≤ 1000000000 ∧ l0.length ≤ 1000000000 then some (a1 + 2 * (totP l0 : Int)) else none
theorem markS_any (L : Nat) (hl : L ≤ 1000000000) (d : Nat) : ∀ (k i : Nat) (o : List PlS) (a : Int), o.length = L → 0 ≤ a → a + 2 * (d : Int) ≤ 1000000000 → i + d = L → d < k → ∃ r, laws_markPlaceS.l0 k o a i = some (a + 2 * (d : Int), r) ∧ r.length = L := by
  induction d with
  | zero =>
    intro k i o a ho h0 h1 hi hk
    obtain ⟨k, rfl⟩ : ∃ m, k = m + 1 := ⟨k - 1, by omega⟩
    exact ⟨o, by simp only [laws_markPlaceS.l0]; rw [if_neg (by omega)]; simp, ho⟩
  | succ d ih =>
    intro k i o a ho h0 h1 hi hk
    obtain ⟨k, rfl⟩ : ∃ m, k = m + 1 := ⟨k - 1, by omega⟩
    simp only [laws_markPlaceS.l0]
    rw [if_pos (by omega), if_pos (by omega)]
    simp only [Option.bind_some]
    have hw : wrap64 ((i : Int) + 1) = ((i + 1 : Nat) : Int) := by unfold wrap64; omega
    rw [hw, wsm (x := a + 1) (by omega) (by omega), wsm (x := a + 1 + 1) (by omega) (by omega)]
    obtain ⟨r, e, hr⟩ := ih k (i + 1) ((o.set (i : Int).toNat (⟨IntKind.i8.wrap a, (rd_T55 o i).f1⟩ : PlS)).set (i : Int).toNat (⟨(rd_T55 (o.set (i : Int).toNat (⟨IntKind.i8.wrap a, (rd_T55 o i).f1⟩ : PlS)) i).f0, IntKind.i8.wrap (a + 1)⟩ : PlS)) (a + 1 + 1) (by simp [ho]) (by omega) (by omega) (by omega) (by omega)
    exact ⟨r, by rw [e]; congr 2; omega, hr⟩
theorem measS {n N : Nat} {x : Int} (h : x = ((n + 1 : Nat) : Int)) (hn : n < N) : N - (intOf (.int .i64 x)).toNat < N - (intOf (.int .i64 (n : Int))).toNat := by subst h; show N - (((n + 1 : Nat) : Int)).toNat < N - ((n : Int)).toNat; omega
set_option maxHeartbeats 4000000 in
set_option maxRecDepth 100000 in
theorem laws_markPlaceSS.calls (P0_ : Nat → Prop) (u : Value) (l0 : List (List PlS)) (a1 : Int) (r : Int) (w0 w : World) (hB : Below w0.heap.size w0 w) (ho0 : Kd.S (Kd.slice 55 k55) 51 w w0.heap.size (fun _ => True) u l0) (h : laws_markPlaceSS.f l0 a1 = some r) :
    Calls Try.prog 15 #[u, .int .i64 a1] w fun e w' => e = .returned (.int .i64 r) ∧ Below w0.heap.size w0 w' ∧ Kept w w' (fun k_ => P0_ k_ ∨ ∃ cells, w.heap[k_]? = some (.cells cells 55 (0, 0))) := by
  unfold laws_markPlaceSS.f at h
  by_cases hc : 0 ≤ a1 ∧ a1 + 2 * (totP l0 : Int) ≤ 1000000000 ∧ l0.length ≤ 1000000000
  case neg => rw [if_neg hc] at h; cases h
  rw [if_pos hc] at h
  injection h with h
  subst h
  obtain ⟨h0, h1, h2⟩ := hc
  obtain ⟨A, c, rfl⟩ := Kd.S_slice ho0
  have hu0_ := Try.underlying38
  have hu1_ := Try.underlying51
  have hu2_ := Try.underlying55
  have HL0 := Aside0.mk h0
  have HL1 := Aside0.mk h1
  have HL2 := Aside0.mk h2
  have HS := Aside0.mk ho0
  have HB := Aside0.mk hB
  clear hB ho0 h0 h1 h2
  have HK := Aside0.mk (Kept.refl w (fun k_ => ∃ cells, w.heap[k_]? = some (.cells cells 55 (0, 0))))
  go_enter Try.func15, Try.ntmps15
  go_wp2
  go_loopw [1, 5] (fun v1 v5 wr => ∃ (n : Nat) (l : List (List PlS)), n ≤ l0.length ∧ v5 = .int .i64 n ∧ v1 = .int .i64 (a1 + 2 * (totP (l0.take n) : Int)) ∧ Aside0 (l.map List.length = l0.map List.length) ∧ Aside0 (Kd.S (Kd.slice 55 k55) 51 wr w0.heap.size (fun _ => True) (.slice A l0.length c) l) ∧ Aside0 (Below w0.heap.size w0 wr) ∧ Aside0 (Kept w wr (fun k_ => ∃ cells, w.heap[k_]? = some (.cells cells 55 (0, 0))))) (fun _ v5 _ => l0.length - (intOf v5).toNat)
  case atStart => exact ⟨0, l0, Nat.zero_le _, rfl, by simp [totP], ⟨rfl⟩, HS, HB, HK⟩
  case round =>
    clear HS HB HK
    obtain ⟨n, l, hn, rfl, rfl, HM, HS, HB, HK⟩ := hrel
    by_cases hlt : n < l0.length
    · have i0 : (n : Int) < (l0.length : Int) := by omega
      have i1 : (0 : Int) ≤ (n : Int) := by omega
      have hll : l.length = l0.length := by simpa using congrArg List.length HM.out
      have hnl : n < l.length := by omega
      have hln : (l[n]'hnl).length = (l0[n]).length := by
        have := congrArg (fun z => z[n]?) HM.out
        simpa [hlt, hnl] using this
      obtain ⟨g, c', e, hg0, hgl, cells, hcells⟩ := Kd.S_form HS.out (by omega)
      injection e with e1 e2 e3
      subst e1 e3
      obtain ⟨oki, ce, hcl, hM, hcc, hfr, hoki, hH⟩ := Kd.S_elem HS.out ([] : List PlS) (n : Int) i1 i0
      obtain ⟨ve, rfl, ge⟩ := hM
      rw [show l.getD (n : Int).toNat [] = l[n] by simp [hnl]] at ge
      have hx := hcc 0 ve rfl
      simp only [show (Kd.slice 55 k55).sz = 1 from rfl, Nat.mul_one, Nat.add_zero, Int.toNat_natCast] at hx
      obtain ⟨Ai, ci, ei⟩ := Kd.R_slice ge
      subst ei
      have ht1 := totP_take hlt
      have ht2 := totP_le (l := l0) (n + 1)
      have hq0 := HL0.out
      have hq1 := HL1.out
      obtain ⟨r2, er, hr2⟩ := markS_any l[n].length (by omega) l[n].length (l[n].length + 1) 0 l[n] (a1 + 2 * (totP (l0.take n) : Int)) rfl (by omega) (by omega) (by omega) (by omega)
      have HR := Aside0.mk (Kd.R_tight rfl ge)
      have HG := Aside0.mk ge
      have HH := Aside0.mk hH
      have HE := Aside0.mk er
      have hw64 : wrap64 ((n : Int) + 1) = ((n + 1 : Nat) : Int) := by have := HL2.out; unfold wrap64; omega
      have HL := Aside0.mk hln
      have HT := Aside0.mk ht1
      have HR2 := Aside0.mk hr2
      clear hcl hcc hfr hoki hH ge er hcells hg0 hgl hq0 hq1 e2 hll hln ht1 ht2 hr2
      go_wp2_with (go_at_call 32; refine (laws_markPlaceS.calls (l[n].length + 1) (fun k_ => some k_ = (.slice Ai l[n].length ci : Value).ownBlock) (.slice Ai l[n].length ci) l[n] _ _ _ w0 wr HB.out HR.out HE.out).mono ?_; rintro e w6 ⟨rfl, hy, hb, hkp⟩; have HY := Aside0.mk hy; have HB6 := Aside0.mk hb; have HKP := Aside0.mk hkp; clear hy hb hkp)
      go_roundw
      case rel =>
        have hln := HL.out
        have ht1 := HT.out
        have hr2 := HR2.out
        have hS2 : Kd.S (Kd.slice 55 k55) 51 w6 w0.heap.size (fun _ => True) (.slice (some ⟨g, 0, none⟩) l0.length c) (l.set (n : Int).toNat r2) := Kd.H_back (Kd.H_step HH.out (fun k _ hn_ hlt_ => HKP.out.2 k hlt_ (fun e_ => hn_ (HG.out.1 k e_.symm)))) ⟨_, rfl, Kd.R_tight rfl (by rw [← hr2] at HY ⊢; exact HY.out)⟩ (fun k hk => HG.out.1 k hk.symm)
        rw [Int.toNat_natCast] at hS2
        refine ⟨n + 1, l.set n r2, by omega, congrArg (Value.int .i64) hw64, ?_, ⟨?_⟩, ⟨hS2⟩, HB6, ⟨?_⟩⟩
        · rw [ht1]; exact congrArg (Value.int .i64) (by omega)
        · rw [List.map_set, HM.out, hr2, hln]
          apply List.ext_getElem (by simp)
          intro i h1 h2
          rw [List.getElem_set]
          split
          · rename_i e; subst e; simp
          · rfl
        · refine Kept.then_ HK.out HKP.out (fun k hk => ?_)
          by_cases hkl : w.heap.size ≤ k
          · exact .inr hkl
          · refine .inl (Classical.byContradiction fun hs => ?_)
            obtain ⟨cs, hcs⟩ := Kd.R_typed HG.out k hk.symm
            exact hs ⟨cs, by rw [← hcs]; exact (HK.out.2 k (by omega) hs).symm⟩
      case measure => exact measS hw64 hlt
    · have e : n = l0.length := by omega
      have i0 : ¬ (n : Int) < (l0.length : Int) := by omega
      go_wp2
      go_ret
      exact ⟨by first | rfl | (rw [e, List.take_length]; done), HB.out, Kept.mono HK.out (fun k hk => .inr hk)⟩
end Go.Proofs.Ytdefbflihmkegad.G
end
section
namespace Go.Proofs.Ytdefbflihmkegad.G
open Go.RowKit Go.Proofs.YtdefbflihmkegadW.PrintWords Go.Proofs.YtdefbflihmkegadW.PrintLast Go.Proofs.YtdefbflihmkegadW.PrintMore
attribute [local go_sem] max2_int min2_int max_two min_two max_three min_three max_four min_four   -- for this text's walks alone
set_option linter.unusedVariables false
set_option linter.unusedSimpArgs false
mutual
def laws_FnExactDraggedOf.j0 : Nat → List (S63) → List (List (S61)) → List Int → Int → List (S57) → List (List (S55)) → List Int → Int → Bool → O26 → Option (Bool)
  | 0, _, _, _, _, _, _, _, _, _, _ => none
  | k + 1, x1, x2, x8, x9, x10, x11, x12, x13, x59, x258000 => if x59 = true then (some false) else ((laws_toBoatS.f k x1).bind fun t283 => ((laws_eqBoatS.f k x10 t283).bind fun t286 => (if t286 = true then ((laws_toPlaceSS.f k x2).bind fun t287 => ((laws_eqPlaceSS.f k x11 t287).bind fun t290 => (if t290 = true then ((laws_markBoatS.f k x10 1).bind fun bt291 => ((laws_markPlaceSS.f x11 bt291.1).bind fun t293 => (if t293 < 0 then (laws_FnExactDraggedOf.j1 k x1 x2 x8 x9 x12 true x258000) else ((laws_eqInt64S.f k x12 x8).bind fun t294 => (if t294 = true then (laws_FnExactDraggedOf.j1 k x1 x2 x8 x9 x12 (x13 != x9) x258000) else (laws_FnExactDraggedOf.j1 k x1 x2 x8 x9 x12 true x258000)))))) else (some false)))) else (some false))))
def laws_FnExactDraggedOf.j1 : Nat → List (S63) → List (List (S61)) → List Int → Int → List Int → Bool → O26 → Option (Bool)
  | 0, _, _, _, _, _, _, _ => none
  | k + 1, x1, x2, x8, x9, x12, x88, x258000 => if x88 = true then (some false) else ((laws_markInt64S.f k x12 1).bind fun bt295 => ((laws_heldInt64S.f k bt295.2 1).bind fun t297 => (if t297 < 0 then (some false) else (if t297 = bt295.1 then ((laws_toBay.f x258000).bind fun t298 => ((laws_toBoatS.f k x1).bind fun t299 => ((laws_toPlaceSS.f k x2).bind fun t302 => ((impl_DraggedOf.f k t298 t299 t302).bind fun bt305 => ((laws_eqInt64S.f k bt305.1 x8).bind fun t309 => (if t309 = true then (laws_FnExactDraggedOf.j2 k bt295.2 bt295.1 (bt305.2 != x9)) else (laws_FnExactDraggedOf.j2 k bt295.2 bt295.1 true))))))) else (some false)))))
def laws_FnExactDraggedOf.j2 : Nat → List Int → Int → Bool → Option (Bool)
  | 0, _, _, _ => none
  | k + 1, x12, x15, x118 => if x118 = true then (some false) else ((laws_heldInt64S.f k x12 1).bind fun t310 => (if t310 < 0 then (some false) else (if t310 = x15 then (some true) else (some false))))
end
def laws_FnExactDraggedOf.f (k : Nat) (a0 : O26) (l1 : List (S63)) (l2 : List (List (S61))) : Option (Bool) := (laws_szBoatS.f l1 1048576).bind fun t258 => (if t258 < 0 then (some true) else ((laws_szPlaceSS.f k l2 t258).bind fun t259 => (if t259 < 0 then (some true) else ((laws_toBay.f a0).bind fun t260 => ((laws_toBoatS.f k l1).bind fun t261 => ((laws_toPlaceSS.f k l2).bind fun t264 => ((spec_DraggedOf.f k t260 t261 t264).bind fun bt267 => ((laws_toBoatS.f k l1).bind fun t271 => ((laws_toPlaceSS.f k l2).bind fun t274 => ((laws_toBay.f a0).bind fun t277 => ((impl_DraggedOf.f k t277 t271 t274).bind fun bt278 => ((laws_eqInt64S.f k bt278.1 bt267.1).bind fun t282 => (if t282 = true then (laws_FnExactDraggedOf.j0 k l1 l2 bt267.1 bt267.2 t271 t274 bt278.1 bt278.2 (bt278.2 != bt267.2) a0) else (laws_FnExactDraggedOf.j0 k l1 l2 bt267.1 bt267.2 t271 t274 bt278.1 bt278.2 true a0))))))))))))))
set_option maxHeartbeats 8000000 in
set_option maxRecDepth 100000 in
theorem laws_FnExactDraggedOf.calls (k : Nat) (a0 : O26) (A1 : Option Addr) (c1 : Nat) (l1 : List (S63)) (A2 : Option Addr) (c2 : Nat) (l2 : List (List (S61))) (r : Bool) (w : World) (hr0_ : r = true) (hr1 : Kd.C k63 w A1 l1.length l1) (hc1 : l1.length ≤ c1) (hr2 : Kd.C (Kd.slice 61 k61) w A2 l2.length l2) (hc2 : l2.length ≤ c2) (h : laws_FnExactDraggedOf.f k a0 l1 l2 = some r) :
    Calls Try.prog 3 #[VO26 a0, .slice A1 l1.length c1, .slice A2 l2.length c2] w fun e w' => e = .returned (.bool r) ∧ Below w.heap.size w w' := by
  have HR1 := Aside0.mk hr1
  have HC1 := Aside0.mk hc1
  clear hr1 hc1
  have HR2 := Aside0.mk hr2
  have HC2 := Aside0.mk hc2
  clear hr2 hc2
  have hr_ := Aside0.mk hr0_
  clear hr0_
  have HB := Aside0.mk (Below.refl w.heap.size w)
  have H : ((laws_szBoatS.f l1 1048576).bind fun t258 => (if t258 < 0 then (some true) else ((laws_szPlaceSS.f k l2 t258).bind fun t259 => (if t259 < 0 then (some true) else ((laws_toBay.f a0).bind fun t260 => ((laws_toBoatS.f k l1).bind fun t261 => ((laws_toPlaceSS.f k l2).bind fun t264 => ((spec_DraggedOf.f k t260 t261 t264).bind fun bt267 => ((laws_toBoatS.f k l1).bind fun t271 => ((laws_toPlaceSS.f k l2).bind fun t274 => ((laws_toBay.f a0).bind fun t277 => ((impl_DraggedOf.f k t277 t271 t274).bind fun bt278 => ((laws_eqInt64S.f k bt278.1 bt267.1).bind fun t282 => (if t282 = true then (laws_FnExactDraggedOf.j0 k l1 l2 bt267.1 bt267.2 t271 t274 bt278.1 bt278.2 (bt278.2 != bt267.2) a0) else (laws_FnExactDraggedOf.j0 k l1 l2 bt267.1 bt267.2 t271 t274 bt278.1 bt278.2 true a0))))))))))))))) = some r := h
  clear h
  replace H := Option.bind_eq_some_iff.mp H
  obtain ⟨t258, A40, H⟩ := H
  replace H : (if t258 < 0 then (some true) else ((laws_szPlaceSS.f k l2 t258).bind fun t259 => (if t259 < 0 then (some true) else ((laws_toBay.f a0).bind fun t260 => ((laws_toBoatS.f k l1).bind fun t261 => ((laws_toPlaceSS.f k l2).bind fun t264 => ((spec_DraggedOf.f k t260 t261 t264).bind fun bt267 => ((laws_toBoatS.f k l1).bind fun t271 => ((laws_toPlaceSS.f k l2).bind fun t274 => ((laws_toBay.f a0).bind fun t277 => ((impl_DraggedOf.f k t277 t271 t274).bind fun bt278 => ((laws_eqInt64S.f k bt278.1 bt267.1).bind fun t282 => (if t282 = true then (laws_FnExactDraggedOf.j0 k l1 l2 bt267.1 bt267.2 t271 t274 bt278.1 bt278.2 (bt278.2 != bt267.2) a0) else (laws_FnExactDraggedOf.j0 k l1 l2 bt267.1 bt267.2 t271 t274 bt278.1 bt278.2 true a0)))))))))))))) = some r := H
  have A4 := Aside0.mk A40
  clear A40
  by_cases c5 : t258 < 0
  · rw [if_pos c5] at H
    have c5b0 : decide (t258 < 0) = true := decide_eq_true c5
    clear c5
    obtain rfl := Option.some.inj H
    go_enter Try.func3, Try.ntmps3
    go_wp2_with (first | ((with_reducible refine gate_dst (N := 3) rfl ?_); refine box_event ?hg (N := 3) ?hd (cs := (a0).A) (t := 26) ?hr ?_; (case hd => rfl); (case hg => rfl); (case hr => first | exact AR.run_box_row rfl rfl | (go_simp; done) | (go_simp; rfl)); intro gb257 hg w6 hbox hb; have n0_ := Aside0.mk (below_step (by repeat (first | (with_reducible first | exact HB.out | apply below_alloc | apply pw_below_drewN | apply below_drew1) | exact HB.out)) hb); have n1_ := Aside0.mk (hbox); have n2_ := Aside0.mk ((by rw [hg]; exact (below_size (by repeat (first | (with_reducible first | exact HB.out | apply below_alloc | apply pw_below_drewN | apply below_drew1) | exact HB.out))) : w.heap.size ≤ gb257)); have n3_ := Aside0.mk ((by rw [hg]; exact (below_size (by repeat (first | (with_reducible first | exact HB.out | apply below_alloc | apply pw_below_drewN | apply below_drew1) | exact HB.out))) : w.heap.size ≤ gb257)); clear HB; have HB := n0_; have BK257 := n1_; have GW257 := n2_; have GE257 := n3_; clear n0_ n1_ n2_ n3_; clear hb hbox hg) | ((with_reducible refine gate_callee (f := 4) rfl ?_); refine goesL_ (some 21) rfl rfl Try.func4 (by kernel_rfl) rfl #[.slice A1 l1.length c1, .int .i64 1048576] rfl (by (try simp only [List.map_toArray, List.map_cons, List.map_nil]); first | done | rfl | (simp only [List.length_drop, List.length_take]; rfl)) ?_; (with_reducible refine (laws_szBoatS.calls _ _ l1 1048576 t258 _ ?side1 ?side2 A4.out).mono ?_); (case side1 => repeat (first | exact (Kd.C_below HR1.out HB.out) | (with_reducible refine Kd.C_alloc ?_ _) | (with_reducible refine Kd.C_drewN ?_ _) | (with_reducible refine Kd.C_drew ?_))); (case side2 => exact HC1.out); rintro e w' ⟨rfl, ⟨nd, rfl⟩⟩; refine ⟨_, rfl, ?_⟩))
    go_ret
    exact ⟨by first | rfl | (simp [errW_none, errW_some] <;> rfl) | (simp [*, errW_none, errW_some] <;> rfl), by repeat (first | (with_reducible first | exact HB.out | apply below_alloc | apply pw_below_drewN | apply below_drew1 | refine below_set ?_ GE257.out) | exact HB.out)⟩
  · rw [if_neg c5] at H
    have c5b0 : decide (t258 < 0) = false := decide_eq_false c5
    clear c5
    replace H := Option.bind_eq_some_iff.mp H
    obtain ⟨t259, A70, H⟩ := H
    replace H : (if t259 < 0 then (some true) else ((laws_toBay.f a0).bind fun t260 => ((laws_toBoatS.f k l1).bind fun t261 => ((laws_toPlaceSS.f k l2).bind fun t264 => ((spec_DraggedOf.f k t260 t261 t264).bind fun bt267 => ((laws_toBoatS.f k l1).bind fun t271 => ((laws_toPlaceSS.f k l2).bind fun t274 => ((laws_toBay.f a0).bind fun t277 => ((impl_DraggedOf.f k t277 t271 t274).bind fun bt278 => ((laws_eqInt64S.f k bt278.1 bt267.1).bind fun t282 => (if t282 = true then (laws_FnExactDraggedOf.j0 k l1 l2 bt267.1 bt267.2 t271 t274 bt278.1 bt278.2 (bt278.2 != bt267.2) a0) else (laws_FnExactDraggedOf.j0 k l1 l2 bt267.1 bt267.2 t271 t274 bt278.1 bt278.2 true a0)))))))))))) = some r := H
    have A7 := Aside0.mk A70
    clear A70
    by_cases c8 : t259 < 0
    · rw [if_pos c8] at H
      have c8b0 : decide (t259 < 0) = true := decide_eq_true c8
      clear c8
      obtain rfl := Option.some.inj H
      go_enter Try.func3, Try.ntmps3
      go_wp2_with (first | ((with_reducible refine gate_dst (N := 3) rfl ?_); refine box_event ?hg (N := 3) ?hd (cs := (a0).A) (t := 26) ?hr ?_; (case hd => rfl); (case hg => rfl); (case hr => first | exact AR.run_box_row rfl rfl | (go_simp; done) | (go_simp; rfl)); intro gb257 hg w9 hbox hb; have n0_ := Aside0.mk (below_step (by repeat (first | (with_reducible first | exact HB.out | apply below_alloc | apply pw_below_drewN | apply below_drew1) | exact HB.out)) hb); have n1_ := Aside0.mk (hbox); have n2_ := Aside0.mk ((by rw [hg]; exact (below_size (by repeat (first | (with_reducible first | exact HB.out | apply below_alloc | apply pw_below_drewN | apply below_drew1) | exact HB.out))) : w.heap.size ≤ gb257)); have n3_ := Aside0.mk ((by rw [hg]; exact (below_size (by repeat (first | (with_reducible first | exact HB.out | apply below_alloc | apply pw_below_drewN | apply below_drew1) | exact HB.out))) : w.heap.size ≤ gb257)); clear HB; have HB := n0_; have BK257 := n1_; have GW257 := n2_; have GE257 := n3_; clear n0_ n1_ n2_ n3_; clear hb hbox hg) | ((with_reducible refine gate_callee (f := 4) rfl ?_); refine goesL_ (some 21) rfl rfl Try.func4 (by kernel_rfl) rfl #[.slice A1 l1.length c1, .int .i64 1048576] rfl (by (try simp only [List.map_toArray, List.map_cons, List.map_nil]); first | done | rfl | (simp only [List.length_drop, List.length_take]; rfl)) ?_; (with_reducible refine (laws_szBoatS.calls _ _ l1 1048576 t258 _ ?side1 ?side2 A4.out).mono ?_); (case side1 => repeat (first | exact (Kd.C_below HR1.out HB.out) | (with_reducible refine Kd.C_alloc ?_ _) | (with_reducible refine Kd.C_drewN ?_ _) | (with_reducible refine Kd.C_drew ?_))); (case side2 => exact HC1.out); rintro e w' ⟨rfl, ⟨nd, rfl⟩⟩; refine ⟨_, rfl, ?_⟩) | ((with_reducible refine gate_callee (f := 5) rfl ?_); refine goesL_ (some 26) rfl rfl Try.func5 (by kernel_rfl) rfl #[.slice A2 l2.length c2, .int .i64 t258] rfl (by (try simp only [List.map_toArray, List.map_cons, List.map_nil]); first | done | rfl | (simp only [List.length_drop, List.length_take]; rfl)) ?_; (with_reducible refine (laws_szPlaceSS.calls k _ _ l2 t258 t259 _ ?side1 ?side2 A7.out).mono ?_); (case side1 => repeat (first | exact (Kd.C_below HR2.out (by repeat (first | (with_reducible first | exact HB.out | apply below_alloc | apply pw_below_drewN | apply below_drew1 | refine below_set ?_ GE257.out) | exact HB.out))) | (with_reducible refine Kd.C_alloc ?_ _) | (with_reducible refine Kd.C_drewN ?_ _) | (with_reducible refine Kd.C_drew ?_))); (case side2 => exact HC2.out); rintro e w' ⟨rfl, ⟨nd, rfl⟩⟩; refine ⟨_, rfl, ?_⟩))
      go_ret
      exact ⟨by first | rfl | (simp [errW_none, errW_some] <;> rfl) | (simp [*, errW_none, errW_some] <;> rfl), by repeat (first | (with_reducible first | exact HB.out | apply below_alloc | apply pw_below_drewN | apply below_drew1 | refine below_set ?_ GE257.out) | exact HB.out)⟩
    · rw [if_neg c8] at H
      have c8b0 : decide (t259 < 0) = false := decide_eq_false c8
      clear c8
      replace H := Option.bind_eq_some_iff.mp H
      obtain ⟨t260, A100, H⟩ := H
      replace H : ((laws_toBoatS.f k l1).bind fun t261 => ((laws_toPlaceSS.f k l2).bind fun t264 => ((spec_DraggedOf.f k t260 t261 t264).bind fun bt267 => ((laws_toBoatS.f k l1).bind fun t271 => ((laws_toPlaceSS.f k l2).bind fun t274 => ((laws_toBay.f a0).bind fun t277 => ((impl_DraggedOf.f k t277 t271 t274).bind fun bt278 => ((laws_eqInt64S.f k bt278.1 bt267.1).bind fun t282 => (if t282 = true then (laws_FnExactDraggedOf.j0 k l1 l2 bt267.1 bt267.2 t271 t274 bt278.1 bt278.2 (bt278.2 != bt267.2) a0) else (laws_FnExactDraggedOf.j0 k l1 l2 bt267.1 bt267.2 t271 t274 bt278.1 bt278.2 true a0)))))))))) = some r := H
      have A10 := Aside0.mk A100
      clear A100
      replace H := Option.bind_eq_some_iff.mp H
      obtain ⟨t261, A110, H⟩ := H
      replace H : ((laws_toPlaceSS.f k l2).bind fun t264 => ((spec_DraggedOf.f k t260 t261 t264).bind fun bt267 => ((laws_toBoatS.f k l1).bind fun t271 => ((laws_toPlaceSS.f k l2).bind fun t274 => ((laws_toBay.f a0).bind fun t277 => ((impl_DraggedOf.f k t277 t271 t274).bind fun bt278 => ((laws_eqInt64S.f k bt278.1 bt267.1).bind fun t282 => (if t282 = true then (laws_FnExactDraggedOf.j0 k l1 l2 bt267.1 bt267.2 t271 t274 bt278.1 bt278.2 (bt278.2 != bt267.2) a0) else (laws_FnExactDraggedOf.j0 k l1 l2 bt267.1 bt267.2 t271 t274 bt278.1 bt278.2 true a0))))))))) = some r := H
      have A11 := Aside0.mk A110
      clear A110
      replace H := Option.bind_eq_some_iff.mp H
      obtain ⟨t264, A120, H⟩ := H
      replace H : ((spec_DraggedOf.f k t260 t261 t264).bind fun bt267 => ((laws_toBoatS.f k l1).bind fun t271 => ((laws_toPlaceSS.f k l2).bind fun t274 => ((laws_toBay.f a0).bind fun t277 => ((impl_DraggedOf.f k t277 t271 t274).bind fun bt278 => ((laws_eqInt64S.f k bt278.1 bt267.1).bind fun t282 => (if t282 = true then (laws_FnExactDraggedOf.j0 k l1 l2 bt267.1 bt267.2 t271 t274 bt278.1 bt278.2 (bt278.2 != bt267.2) a0) else (laws_FnExactDraggedOf.j0 k l1 l2 bt267.1 bt267.2 t271 t274 bt278.1 bt278.2 true a0)))))))) = some r := H
      have A12 := Aside0.mk A120
      clear A120
      replace H := Option.bind_eq_some_iff.mp H
      obtain ⟨⟨t267, t268⟩, A130, H⟩ := H
      replace H : ((laws_toBoatS.f k l1).bind fun t271 => ((laws_toPlaceSS.f k l2).bind fun t274 => ((laws_toBay.f a0).bind fun t277 => ((impl_DraggedOf.f k t277 t271 t274).bind fun bt278 => ((laws_eqInt64S.f k bt278.1 t267).bind fun t282 => (if t282 = true then (laws_FnExactDraggedOf.j0 k l1 l2 t267 t268 t271 t274 bt278.1 bt278.2 (bt278.2 != t268) a0) else (laws_FnExactDraggedOf.j0 k l1 l2 t267 t268 t271 t274 bt278.1 bt278.2 true a0))))))) = some r := H
      have A13 := Aside0.mk A130
      clear A130
      replace H := Option.bind_eq_some_iff.mp H
      obtain ⟨t271, A140, H⟩ := H
      replace H : ((laws_toPlaceSS.f k l2).bind fun t274 => ((laws_toBay.f a0).bind fun t277 => ((impl_DraggedOf.f k t277 t271 t274).bind fun bt278 => ((laws_eqInt64S.f k bt278.1 t267).bind fun t282 => (if t282 = true then (laws_FnExactDraggedOf.j0 k l1 l2 t267 t268 t271 t274 bt278.1 bt278.2 (bt278.2 != t268) a0) else (laws_FnExactDraggedOf.j0 k l1 l2 t267 t268 t271 t274 bt278.1 bt278.2 true a0)))))) = some r := H
      have A14 := Aside0.mk A140
      clear A140
      replace H := Option.bind_eq_some_iff.mp H
      obtain ⟨t274, A150, H⟩ := H
      replace H : ((laws_toBay.f a0).bind fun t277 => ((impl_DraggedOf.f k t277 t271 t274).bind fun bt278 => ((laws_eqInt64S.f k bt278.1 t267).bind fun t282 => (if t282 = true then (laws_FnExactDraggedOf.j0 k l1 l2 t267 t268 t271 t274 bt278.1 bt278.2 (bt278.2 != t268) a0) else (laws_FnExactDraggedOf.j0 k l1 l2 t267 t268 t271 t274 bt278.1 bt278.2 true a0))))) = some r := H
      have A15 := Aside0.mk A150
      clear A150
      replace H := Option.bind_eq_some_iff.mp H
      obtain ⟨t277, A160, H⟩ := H
      replace H : ((impl_DraggedOf.f k t277 t271 t274).bind fun bt278 => ((laws_eqInt64S.f k bt278.1 t267).bind fun t282 => (if t282 = true then (laws_FnExactDraggedOf.j0 k l1 l2 t267 t268 t271 t274 bt278.1 bt278.2 (bt278.2 != t268) a0) else (laws_FnExactDraggedOf.j0 k l1 l2 t267 t268 t271 t274 bt278.1 bt278.2 true a0)))) = some r := H
      have A16 := Aside0.mk A160
      clear A160
      replace H := Option.bind_eq_some_iff.mp H
      obtain ⟨⟨t278, t279⟩, A170, H⟩ := H
      replace H : ((laws_eqInt64S.f k t278 t267).bind fun t282 => (if t282 = true then (laws_FnExactDraggedOf.j0 k l1 l2 t267 t268 t271 t274 t278 t279 (t279 != t268) a0) else (laws_FnExactDraggedOf.j0 k l1 l2 t267 t268 t271 t274 t278 t279 true a0))) = some r := H
      have A17 := Aside0.mk A170
      clear A170
      have HC18 := Aside0.mk H
      clear H
      go_enter Try.func3, Try.ntmps3
      go_upto_region 12 with (first | ((with_reducible refine gate_dst (N := 3) rfl ?_); refine box_event ?hg (N := 3) ?hd (cs := (a0).A) (t := 26) ?hr ?_; (case hd => rfl); (case hg => rfl); (case hr => first | exact AR.run_box_row rfl rfl | (go_simp; done) | (go_simp; rfl)); intro gb257 hg w19 hbox hb; have n0_ := Aside0.mk (below_step (by repeat (first | (with_reducible first | exact HB.out | apply below_alloc | apply pw_below_drewN | apply below_drew1) | exact HB.out)) hb); have n1_ := Aside0.mk (hbox); have n2_ := Aside0.mk ((by rw [hg]; exact (below_size (by repeat (first | (with_reducible first | exact HB.out | apply below_alloc | apply pw_below_drewN | apply below_drew1) | exact HB.out))) : w.heap.size ≤ gb257)); have n3_ := Aside0.mk ((by rw [hg]; exact (below_size (by repeat (first | (with_reducible first | exact HB.out | apply below_alloc | apply pw_below_drewN | apply below_drew1) | exact HB.out))) : w.heap.size ≤ gb257)); clear HB; have HB := n0_; have BK257 := n1_; have GW257 := n2_; have GE257 := n3_; clear n0_ n1_ n2_ n3_; clear hb hbox hg) | ((with_reducible refine gate_callee (f := 4) rfl ?_); refine goesL_ (some 21) rfl rfl Try.func4 (by kernel_rfl) rfl #[.slice A1 l1.length c1, .int .i64 1048576] rfl (by (try simp only [List.map_toArray, List.map_cons, List.map_nil]); first | done | rfl | (simp only [List.length_drop, List.length_take]; rfl)) ?_; (with_reducible refine (laws_szBoatS.calls _ _ l1 1048576 t258 _ ?side1 ?side2 A4.out).mono ?_); (case side1 => repeat (first | exact (Kd.C_below HR1.out HB.out) | (with_reducible refine Kd.C_alloc ?_ _) | (with_reducible refine Kd.C_drewN ?_ _) | (with_reducible refine Kd.C_drew ?_))); (case side2 => exact HC1.out); rintro e w' ⟨rfl, ⟨nd, rfl⟩⟩; refine ⟨_, rfl, ?_⟩) | ((with_reducible refine gate_callee (f := 5) rfl ?_); refine goesL_ (some 26) rfl rfl Try.func5 (by kernel_rfl) rfl #[.slice A2 l2.length c2, .int .i64 t258] rfl (by (try simp only [List.map_toArray, List.map_cons, List.map_nil]); first | done | rfl | (simp only [List.length_drop, List.length_take]; rfl)) ?_; (with_reducible refine (laws_szPlaceSS.calls k _ _ l2 t258 t259 _ ?side1 ?side2 A7.out).mono ?_); (case side1 => repeat (first | exact (Kd.C_below HR2.out (by repeat (first | (with_reducible first | exact HB.out | apply below_alloc | apply pw_below_drewN | apply below_drew1 | refine below_set ?_ GE257.out) | exact HB.out))) | (with_reducible refine Kd.C_alloc ?_ _) | (with_reducible refine Kd.C_drewN ?_ _) | (with_reducible refine Kd.C_drew ?_))); (case side2 => exact HC2.out); rintro e w' ⟨rfl, ⟨nd, rfl⟩⟩; refine ⟨_, rfl, ?_⟩) | ((with_reducible refine gate_dst (N := 30) rfl ?_); (with_reducible refine AR.gate_load (t := 26) rfl ?_); (try refine gate_guard (by rfl) ?_); refine AR.wpList_load_blk rfl 26 _ rfl gb257 rfl (a0).A _ (by (with_reducible repeat (first | refine blk_drewN ?_ _ | refine blk_drew ?_ | refine blk_alloc ?_ _)); exact BK257.out) Try.underlying26 rfl (szO26 _) ?_) | ((with_reducible refine gate_callee (f := 7) rfl ?_); refine goesL_ (some 31) rfl rfl Try.func7 (by kernel_rfl) rfl #[VO26 a0] rfl (by (try simp only [List.map_toArray, List.map_cons, List.map_nil]); first | done | rfl | (simp only [List.length_drop, List.length_take]; rfl)) ?_; (with_reducible refine (laws_toBay.calls a0 t260 _ A10.out).mono ?_); rintro e w20 ⟨rfl, hb⟩; refine ⟨_, rfl, ?_⟩; have n0_ := Aside0.mk (blk_below (g := gb257) (o := .cells (a0).A 26 (0, 0)) (by (with_reducible repeat (first | refine blk_drewN ?_ _ | refine blk_drew ?_ | refine blk_alloc ?_ _)); exact BK257.out) hb); have n1_ := Aside0.mk (below_step (by repeat (first | (with_reducible first | exact HB.out | apply below_alloc | apply pw_below_drewN | apply below_drew1 | refine below_set ?_ GE257.out) | exact HB.out)) hb); clear BK257; clear HB; have BK257 := n0_; have HB := n1_; clear n0_ n1_; (try clear hb); (try clear hb2); (try clear hk); (try clear hi)) | ((with_reducible refine gate_callee (f := 8) rfl ?_); refine goesL_ (some 33) rfl rfl Try.func8 (by kernel_rfl) rfl #[.slice A1 l1.length c1] rfl (by (try simp only [List.map_toArray, List.map_cons, List.map_nil]); first | done | rfl | (simp only [List.length_drop, List.length_take]; rfl)) ?_; (with_reducible refine (laws_toBoatS.calls k _ _ l1 t261 _ ?side1 ?side2 A11.out).mono ?_); (case side1 => repeat (first | exact (Kd.C_below HR1.out HB.out) | (with_reducible refine Kd.C_alloc ?_ _) | (with_reducible refine Kd.C_drewN ?_ _) | (with_reducible refine Kd.C_drew ?_))); (case side2 => exact HC1.out); rintro e w21 ⟨v262, rfl, ho0, hb⟩; refine ⟨_, rfl, ?_⟩; have n0_ := Aside0.mk (Kd.R_lower ho0 (below_size (by repeat (first | (with_reducible first | exact HB.out | apply below_alloc | apply pw_below_drewN | apply below_drew1 | refine below_set ?_ GE257.out) | exact HB.out)))); have n1_ := Aside0.mk (blk_below (g := gb257) (o := .cells (a0).A 26 (0, 0)) (by (with_reducible repeat (first | refine blk_drewN ?_ _ | refine blk_drew ?_ | refine blk_alloc ?_ _)); exact BK257.out) hb); have n2_ := Aside0.mk (below_step (by repeat (first | (with_reducible first | exact HB.out | apply below_alloc | apply pw_below_drewN | apply below_drew1 | refine below_set ?_ GE257.out) | exact HB.out)) hb); clear BK257; clear HB; have HO263 := n0_; have BK257 := n1_; have HB := n2_; clear n0_ n1_ n2_; (try clear hb); (try clear hb2); (try clear hk); (try clear hi); (try clear ho0)) | ((with_reducible refine gate_callee (f := 9) rfl ?_); refine goesL_ (some 35) rfl rfl Try.func9 (by kernel_rfl) rfl #[.slice A2 l2.length c2] rfl (by (try simp only [List.map_toArray, List.map_cons, List.map_nil]); first | done | rfl | (simp only [List.length_drop, List.length_take]; rfl)) ?_; (with_reducible refine (laws_toPlaceSS.calls k _ _ l2 t264 _ ?side1 ?side2 A12.out).mono ?_); (case side1 => repeat (first | exact (Kd.C_below HR2.out HB.out) | (with_reducible refine Kd.C_alloc ?_ _) | (with_reducible refine Kd.C_drewN ?_ _) | (with_reducible refine Kd.C_drew ?_))); (case side2 => exact HC2.out); rintro e w22 ⟨v265, rfl, ho0, hb⟩; refine ⟨_, rfl, ?_⟩; have n0_ := Aside0.mk (Kd.R_below (by (with_reducible repeat (first | apply Kd.R_alloc | apply Kd.R_drewN | apply Kd.R_drew)); exact HO263.out) hb); have n1_ := Aside0.mk (Kd.S_lower ho0 (below_size (by repeat (first | (with_reducible first | exact HB.out | apply below_alloc | apply pw_below_drewN | apply below_drew1 | refine below_set ?_ GE257.out) | exact HB.out)))); have n2_ := Aside0.mk (blk_below (g := gb257) (o := .cells (a0).A 26 (0, 0)) (by (with_reducible repeat (first | refine blk_drewN ?_ _ | refine blk_drew ?_ | refine blk_alloc ?_ _)); exact BK257.out) hb); have n3_ := Aside0.mk (below_step (by repeat (first | (with_reducible first | exact HB.out | apply below_alloc | apply pw_below_drewN | apply below_drew1 | refine below_set ?_ GE257.out) | exact HB.out)) hb); clear HO263; clear BK257; clear HB; have HO263 := n0_; have HO266 := n1_; have BK257 := n2_; have HB := n3_; clear n0_ n1_ n2_ n3_; (try clear hb); (try clear hb2); (try clear hk); (try clear hi); (try clear ho0); obtain ⟨Ao23, co23, eo23⟩ := Kd.R_slice HO263.out; subst eo23; obtain ⟨Ao24, co24, eo24⟩ := Kd.S_slice HO266.out; subst eo24) | ((with_reducible refine gate_callee (f := 6) rfl ?_); refine goesL_ (some 36) rfl rfl Try.func6 (by kernel_rfl) rfl #[VO34 t260, .slice Ao23 t261.length co23, .slice Ao24 t264.length co24] rfl (by (try simp only [List.map_toArray, List.map_cons, List.map_nil]); first | done | rfl | (simp only [List.length_drop, List.length_take]; rfl)) ?_; (with_reducible refine (spec_DraggedOf.calls k t260 _ _ t261 _ _ t264 t267 t268 _ ?side1 ?side2 ?side3 ?side4 A13.out).mono ?_); (case side1 => repeat (first | exact (Kd.R_reads' HO263.out).2.2 | (with_reducible refine Kd.C_alloc ?_ _) | (with_reducible refine Kd.C_drewN ?_ _) | (with_reducible refine Kd.C_drew ?_))); (case side2 => exact (Kd.R_reads' HO263.out).2.1); (case side3 => repeat (first | exact (Kd.S_reads' HO266.out).2.2 | (with_reducible refine Kd.C_alloc ?_ _) | (with_reducible refine Kd.C_drewN ?_ _) | (with_reducible refine Kd.C_drew ?_))); (case side4 => exact (Kd.S_reads' HO266.out).2.1); rintro e w25 ⟨v269, rfl, ho0, hb⟩; refine ⟨_, rfl, ?_⟩; have n0_ := Aside0.mk (Kd.R_below (by (with_reducible repeat (first | apply Kd.R_alloc | apply Kd.R_drewN | apply Kd.R_drew)); exact HO263.out) hb); have n1_ := Aside0.mk (Kd.S_below (by (with_reducible repeat (first | apply Kd.S_alloc | apply Kd.S_drewN | apply Kd.S_drew)); exact HO266.out) hb); have n2_ := Aside0.mk (Kd.R_lower ho0 (below_size (by repeat (first | (with_reducible first | exact HB.out | apply below_alloc | apply pw_below_drewN | apply below_drew1 | refine below_set ?_ GE257.out) | exact HB.out)))); have n3_ := Aside0.mk (blk_below (g := gb257) (o := .cells (a0).A 26 (0, 0)) (by (with_reducible repeat (first | refine blk_drewN ?_ _ | refine blk_drew ?_ | refine blk_alloc ?_ _)); exact BK257.out) hb); have n4_ := Aside0.mk (below_step (by repeat (first | (with_reducible first | exact HB.out | apply below_alloc | apply pw_below_drewN | apply below_drew1 | refine below_set ?_ GE257.out) | exact HB.out)) hb); clear HO263; clear HO266; clear BK257; clear HB; have HO263 := n0_; have HO266 := n1_; have HO270 := n2_; have BK257 := n3_; have HB := n4_; clear n0_ n1_ n2_ n3_ n4_; (try clear hb); (try clear hb2); (try clear hk); (try clear hi); (try clear ho0)) | ((with_reducible refine gate_callee (f := 8) rfl ?_); refine goesL_ (some 40) rfl rfl Try.func8 (by kernel_rfl) rfl #[.slice A1 l1.length c1] rfl (by (try simp only [List.map_toArray, List.map_cons, List.map_nil]); first | done | rfl | (simp only [List.length_drop, List.length_take]; rfl)) ?_; (with_reducible refine (laws_toBoatS.calls k _ _ l1 t271 _ ?side1 ?side2 A14.out).mono ?_); (case side1 => repeat (first | exact (Kd.C_below HR1.out HB.out) | (with_reducible refine Kd.C_alloc ?_ _) | (with_reducible refine Kd.C_drewN ?_ _) | (with_reducible refine Kd.C_drew ?_))); (case side2 => exact HC1.out); rintro e w26 ⟨v272, rfl, ho0, hb⟩; refine ⟨_, rfl, ?_⟩; have n0_ := Aside0.mk (Kd.R_elder' (by (with_reducible repeat (first | apply Kd.R_alloc | apply Kd.R_drewN | apply Kd.R_drew)); exact HO263.out) (Kd.R_base ho0) hb); have n1_ := Aside0.mk (Kd.S_below (by (with_reducible repeat (first | apply Kd.S_alloc | apply Kd.S_drewN | apply Kd.S_drew)); exact HO266.out) hb); have n2_ := Aside0.mk (Kd.R_below (by (with_reducible repeat (first | apply Kd.R_alloc | apply Kd.R_drewN | apply Kd.R_drew)); exact HO270.out) hb); have n3_ := Aside0.mk (Kd.R_lower (Kd.R_new' ho0 (Kd.R_lt (by (with_reducible repeat (first | apply Kd.R_alloc | apply Kd.R_drewN | apply Kd.R_drew)); exact HO263.out))) (below_size (by repeat (first | (with_reducible first | exact HB.out | apply below_alloc | apply pw_below_drewN | apply below_drew1 | refine below_set ?_ GE257.out) | exact HB.out)))); have n4_ := Aside0.mk (blk_below (g := gb257) (o := .cells (a0).A 26 (0, 0)) (by (with_reducible repeat (first | refine blk_drewN ?_ _ | refine blk_drew ?_ | refine blk_alloc ?_ _)); exact BK257.out) hb); have n5_ := Aside0.mk (below_step (by repeat (first | (with_reducible first | exact HB.out | apply below_alloc | apply pw_below_drewN | apply below_drew1 | refine below_set ?_ GE257.out) | exact HB.out)) hb); clear HO263; clear HO266; clear HO270; clear BK257; clear HB; have HO263 := n0_; have HO266 := n1_; have HO270 := n2_; have HO273 := n3_; have BK257 := n4_; have HB := n5_; clear n0_ n1_ n2_ n3_ n4_ n5_; (try clear hb); (try clear hb2); (try clear hk); (try clear hi); (try clear ho0)) | ((with_reducible refine gate_callee (f := 9) rfl ?_); refine goesL_ (some 42) rfl rfl Try.func9 (by kernel_rfl) rfl #[.slice A2 l2.length c2] rfl (by (try simp only [List.map_toArray, List.map_cons, List.map_nil]); first | done | rfl | (simp only [List.length_drop, List.length_take]; rfl)) ?_; (with_reducible refine (laws_toPlaceSS.calls k _ _ l2 t274 _ ?side1 ?side2 A15.out).mono ?_); (case side1 => repeat (first | exact (Kd.C_below HR2.out HB.out) | (with_reducible refine Kd.C_alloc ?_ _) | (with_reducible refine Kd.C_drewN ?_ _) | (with_reducible refine Kd.C_drew ?_))); (case side2 => exact HC2.out); rintro e w27 ⟨v275, rfl, ho0, hb⟩; refine ⟨_, rfl, ?_⟩; have n0_ := Aside0.mk (Kd.R_below (by (with_reducible repeat (first | apply Kd.R_alloc | apply Kd.R_drewN | apply Kd.R_drew)); exact HO263.out) hb); have n1_ := Aside0.mk (Kd.S_elder' (by (with_reducible repeat (first | apply Kd.S_alloc | apply Kd.S_drewN | apply Kd.S_drew)); exact HO266.out) (Kd.S_base ho0) hb); have n2_ := Aside0.mk (Kd.R_below (by (with_reducible repeat (first | apply Kd.R_alloc | apply Kd.R_drewN | apply Kd.R_drew)); exact HO270.out) hb); have n3_ := Aside0.mk (Kd.R_below (by (with_reducible repeat (first | apply Kd.R_alloc | apply Kd.R_drewN | apply Kd.R_drew)); exact HO273.out) hb); have n4_ := Aside0.mk (Kd.S_lower (Kd.S_new' ho0 (Kd.S_lt (by (with_reducible repeat (first | apply Kd.S_alloc | apply Kd.S_drewN | apply Kd.S_drew)); exact HO266.out))) (below_size (by repeat (first | (with_reducible first | exact HB.out | apply below_alloc | apply pw_below_drewN | apply below_drew1 | refine below_set ?_ GE257.out) | exact HB.out)))); have n5_ := Aside0.mk (blk_below (g := gb257) (o := .cells (a0).A 26 (0, 0)) (by (with_reducible repeat (first | refine blk_drewN ?_ _ | refine blk_drew ?_ | refine blk_alloc ?_ _)); exact BK257.out) hb); have n6_ := Aside0.mk (below_step (by repeat (first | (with_reducible first | exact HB.out | apply below_alloc | apply pw_below_drewN | apply below_drew1 | refine below_set ?_ GE257.out) | exact HB.out)) hb); clear HO263; clear HO266; clear HO270; clear HO273; clear BK257; clear HB; have HO263 := n0_; have HO266 := n1_; have HO270 := n2_; have HO273 := n3_; have HO276 := n4_; have BK257 := n5_; have HB := n6_; clear n0_ n1_ n2_ n3_ n4_ n5_ n6_; (try clear hb); (try clear hb2); (try clear hk); (try clear hi); (try clear ho0)) | ((with_reducible refine gate_dst (N := 44) rfl ?_); (with_reducible refine AR.gate_load (t := 26) rfl ?_); (try refine gate_guard (by rfl) ?_); refine AR.wpList_load_blk rfl 26 _ rfl gb257 rfl (a0).A _ (by (with_reducible repeat (first | refine blk_drewN ?_ _ | refine blk_drew ?_ | refine blk_alloc ?_ _)); exact BK257.out) Try.underlying26 rfl (szO26 _) ?_) | ((with_reducible refine gate_callee (f := 7) rfl ?_); refine goesL_ (some 45) rfl rfl Try.func7 (by kernel_rfl) rfl #[VO26 a0] rfl (by (try simp only [List.map_toArray, List.map_cons, List.map_nil]); first | done | rfl | (simp only [List.length_drop, List.length_take]; rfl)) ?_; (with_reducible refine (laws_toBay.calls a0 t277 _ A16.out).mono ?_); rintro e w28 ⟨rfl, hb⟩; refine ⟨_, rfl, ?_⟩; have n0_ := Aside0.mk (Kd.R_below (by (with_reducible repeat (first | apply Kd.R_alloc | apply Kd.R_drewN | apply Kd.R_drew)); exact HO263.out) hb); have n1_ := Aside0.mk (Kd.S_below (by (with_reducible repeat (first | apply Kd.S_alloc | apply Kd.S_drewN | apply Kd.S_drew)); exact HO266.out) hb); have n2_ := Aside0.mk (Kd.R_below (by (with_reducible repeat (first | apply Kd.R_alloc | apply Kd.R_drewN | apply Kd.R_drew)); exact HO270.out) hb); have n3_ := Aside0.mk (Kd.R_below (by (with_reducible repeat (first | apply Kd.R_alloc | apply Kd.R_drewN | apply Kd.R_drew)); exact HO273.out) hb); have n4_ := Aside0.mk (Kd.S_below (by (with_reducible repeat (first | apply Kd.S_alloc | apply Kd.S_drewN | apply Kd.S_drew)); exact HO276.out) hb); have n5_ := Aside0.mk (blk_below (g := gb257) (o := .cells (a0).A 26 (0, 0)) (by (with_reducible repeat (first | refine blk_drewN ?_ _ | refine blk_drew ?_ | refine blk_alloc ?_ _)); exact BK257.out) hb); have n6_ := Aside0.mk (below_step (by repeat (first | (with_reducible first | exact HB.out | apply below_alloc | apply pw_below_drewN | apply below_drew1 | refine below_set ?_ GE257.out) | exact HB.out)) hb); clear HO263; clear HO266; clear HO270; clear HO273; clear HO276; clear BK257; clear HB; have HO263 := n0_; have HO266 := n1_; have HO270 := n2_; have HO273 := n3_; have HO276 := n4_; have BK257 := n5_; have HB := n6_; clear n0_ n1_ n2_ n3_ n4_ n5_ n6_; (try clear hb); (try clear hb2); (try clear hk); (try clear hi); obtain ⟨Ao29, co29, eo29⟩ := Kd.R_slice HO273.out; subst eo29; obtain ⟨Ao30, co30, eo30⟩ := Kd.S_slice HO276.out; subst eo30) | ((with_reducible refine gate_callee (f := 10) rfl ?_); refine goesL_ (some 48) rfl rfl Try.func10 (by kernel_rfl) rfl #[VO34 t277, .slice Ao29 t271.length co29, .slice Ao30 t274.length co30] rfl (by (try simp only [List.map_toArray, List.map_cons, List.map_nil]); first | done | rfl | (simp only [List.length_drop, List.length_take]; rfl)) ?_; (with_reducible refine (impl_DraggedOf.calls k t277 _ _ t271 _ _ t274 t278 t279 _ ?side1 ?side2 ?side3 ?side4 A17.out).mono ?_); (case side1 => repeat (first | exact (Kd.R_reads' HO273.out).2.2 | (with_reducible refine Kd.C_alloc ?_ _) | (with_reducible refine Kd.C_drewN ?_ _) | (with_reducible refine Kd.C_drew ?_))); (case side2 => exact (Kd.R_reads' HO273.out).2.1); (case side3 => repeat (first | exact (Kd.S_reads' HO276.out).2.2 | (with_reducible refine Kd.C_alloc ?_ _) | (with_reducible refine Kd.C_drewN ?_ _) | (with_reducible refine Kd.C_drew ?_))); (case side4 => exact (Kd.S_reads' HO276.out).2.1); rintro e w31 ⟨v280, rfl, ho0, hb⟩; refine ⟨_, rfl, ?_⟩; have n0_ := Aside0.mk (Kd.R_below (by (with_reducible repeat (first | apply Kd.R_alloc | apply Kd.R_drewN | apply Kd.R_drew)); exact HO263.out) hb); have n1_ := Aside0.mk (Kd.S_below (by (with_reducible repeat (first | apply Kd.S_alloc | apply Kd.S_drewN | apply Kd.S_drew)); exact HO266.out) hb); have n2_ := Aside0.mk (Kd.R_elder' (by (with_reducible repeat (first | apply Kd.R_alloc | apply Kd.R_drewN | apply Kd.R_drew)); exact HO270.out) (Kd.R_base ho0) hb); have n3_ := Aside0.mk (Kd.R_below (by (with_reducible repeat (first | apply Kd.R_alloc | apply Kd.R_drewN | apply Kd.R_drew)); exact HO273.out) hb); have n4_ := Aside0.mk (Kd.S_below (by (with_reducible repeat (first | apply Kd.S_alloc | apply Kd.S_drewN | apply Kd.S_drew)); exact HO276.out) hb); have n5_ := Aside0.mk (Kd.R_lower (Kd.R_new' ho0 (Kd.R_lt (by (with_reducible repeat (first | apply Kd.R_alloc | apply Kd.R_drewN | apply Kd.R_drew)); exact HO270.out))) (below_size (by repeat (first | (with_reducible first | exact HB.out | apply below_alloc | apply pw_below_drewN | apply below_drew1 | refine below_set ?_ GE257.out) | exact HB.out)))); have n6_ := Aside0.mk (blk_below (g := gb257) (o := .cells (a0).A 26 (0, 0)) (by (with_reducible repeat (first | refine blk_drewN ?_ _ | refine blk_drew ?_ | refine blk_alloc ?_ _)); exact BK257.out) hb); have n7_ := Aside0.mk (below_step (by repeat (first | (with_reducible first | exact HB.out | apply below_alloc | apply pw_below_drewN | apply below_drew1 | refine below_set ?_ GE257.out) | exact HB.out)) hb); clear HO263; clear HO266; clear HO270; clear HO273; clear HO276; clear BK257; clear HB; have HO263 := n0_; have HO266 := n1_; have HO270 := n2_; have HO273 := n3_; have HO276 := n4_; have HO281 := n5_; have BK257 := n6_; have HB := n7_; clear n0_ n1_ n2_ n3_ n4_ n5_ n6_ n7_; (try clear hb); (try clear hb2); (try clear hk); (try clear hi); (try clear ho0)))
      (try simp only [Act.put, List.setIfInBounds_toArray, List.set_cons_zero, List.set_cons_succ])
      go_cut [59] (fun v59 wc => ∃ (kq : Nat) (x59_17 : Bool), v59 = .bool x59_17 ∧ Aside0 (laws_FnExactDraggedOf.j0 kq l1 l2 t267 t268 t271 t274 t278 t279 x59_17 a0 = some r) ∧ Aside0 (kq ≤ k) ∧ Aside0 (Kd.R (Kd.int .i64) 2 wc w.heap.size (fun k_ => some k_ ≠ (v280 : Value).ownBlock) v269 t267) ∧ Aside0 (Kd.R k57 57 wc w.heap.size (fun _ => True) (.slice Ao29 t271.length co29) t271) ∧ Aside0 (Kd.S (Kd.slice 55 k55) 51 wc w.heap.size (fun _ => True) (.slice Ao30 t274.length co30) t274) ∧ Aside0 (Kd.R (Kd.int .i64) 2 wc w.heap.size (fun k_ => some k_ ≠ (v269 : Value).ownBlock) v280 t278) ∧ Aside0 (wc.heap[gb257]? = some (.cells (a0).A 26 (0, 0))) ∧ Aside0 (Below w.heap.size w wc))
      case first =>
        have H := HC18.out
        clear HC18
        replace H := Option.bind_eq_some_iff.mp H
        obtain ⟨t282, A320, H⟩ := H
        replace H : (if t282 = true then (laws_FnExactDraggedOf.j0 k l1 l2 t267 t268 t271 t274 t278 t279 (t279 != t268) a0) else (laws_FnExactDraggedOf.j0 k l1 l2 t267 t268 t271 t274 t278 t279 true a0)) = some r := H
        have A32 := Aside0.mk A320
        clear A320
        by_cases c33 : t282 = true
        · subst c33
          have H1 : (laws_FnExactDraggedOf.j0 k l1 l2 t267 t268 t271 t274 t278 t279 (t279 != t268) a0) = some r := by rw [if_pos rfl] at H; exact H
          clear H
          have H := H1
          clear H1
          have H' := Aside0.mk H
          clear H
          obtain ⟨Ao34, co34, eo34⟩ := Kd.R_slice HO281.out
          subst eo34
          obtain ⟨Ao35, co35, eo35⟩ := Kd.R_slice HO270.out
          subst eo35
          go_wp2_with (first | ((with_reducible refine gate_callee (f := 11) rfl ?_); refine goesL_ (some 53) rfl rfl Try.func11 (by kernel_rfl) rfl #[.slice Ao34 t278.length co34, .slice Ao35 t267.length co35] rfl (by (try simp only [List.map_toArray, List.map_cons, List.map_nil]); first | done | rfl | (simp only [List.length_drop, List.length_take]; rfl)) ?_; (with_reducible refine (laws_eqInt64S.calls k _ _ t278 _ _ t267 true _ ?side1 ?side2 ?side3 ?side4 A32.out).mono ?_); (case side1 => repeat (first | exact (Kd.R_reads' HO281.out).2.2 | (with_reducible refine Kd.C_alloc ?_ _) | (with_reducible refine Kd.C_drewN ?_ _) | (with_reducible refine Kd.C_drew ?_))); (case side2 => exact (Kd.R_reads' HO281.out).2.1); (case side3 => repeat (first | exact (Kd.R_reads' HO270.out).2.2 | (with_reducible refine Kd.C_alloc ?_ _) | (with_reducible refine Kd.C_drewN ?_ _) | (with_reducible refine Kd.C_drew ?_))); (case side4 => exact (Kd.R_reads' HO270.out).2.1); rintro e w' ⟨rfl, ⟨nd, rfl⟩⟩; refine ⟨_, rfl, ?_⟩))
          go_meet
          case rel => exact ⟨_, ((t279 != t268)), (by first | rfl | (simp; done) | (simp [*]; done)), H', ⟨by first | omega | exact Nat.le_refl _⟩, ⟨by (with_reducible repeat (first | apply Kd.R_alloc | apply Kd.R_drewN | apply Kd.R_drew)); exact Kd.R_mono HO270.out (fun _ hk => hk.2)⟩, ⟨by (with_reducible repeat (first | apply Kd.R_alloc | apply Kd.R_drewN | apply Kd.R_drew)); exact Kd.R_mono HO273.out (fun _ hk => trivial)⟩, ⟨by (with_reducible repeat (first | apply Kd.S_alloc | apply Kd.S_drewN | apply Kd.S_drew)); exact Kd.S_mono HO276.out (fun _ hk => trivial)⟩, ⟨by (with_reducible repeat (first | apply Kd.R_alloc | apply Kd.R_drewN | apply Kd.R_drew)); exact Kd.R_mono HO281.out (fun _ hk => hk.2)⟩, ⟨by (with_reducible repeat (first | refine blk_drewN ?_ _ | refine blk_drew ?_ | refine blk_alloc ?_ _)); exact BK257.out⟩, ⟨by repeat (first | (with_reducible first | exact HB.out | apply below_alloc | apply pw_below_drewN | apply below_drew1 | refine below_set ?_ GE257.out) | exact HB.out)⟩⟩
        · replace c33 := Bool.eq_false_iff.mpr c33
          subst c33
          have H1 : (laws_FnExactDraggedOf.j0 k l1 l2 t267 t268 t271 t274 t278 t279 true a0) = some r := by rw [if_neg (show ¬ (false = true) by decide)] at H; exact H
          clear H
          have H := H1
          clear H1
          have H' := Aside0.mk H
          clear H
          obtain ⟨Ao36, co36, eo36⟩ := Kd.R_slice HO281.out
          subst eo36
          obtain ⟨Ao37, co37, eo37⟩ := Kd.R_slice HO270.out
          subst eo37
          go_wp2_with (first | ((with_reducible refine gate_callee (f := 11) rfl ?_); refine goesL_ (some 53) rfl rfl Try.func11 (by kernel_rfl) rfl #[.slice Ao36 t278.length co36, .slice Ao37 t267.length co37] rfl (by (try simp only [List.map_toArray, List.map_cons, List.map_nil]); first | done | rfl | (simp only [List.length_drop, List.length_take]; rfl)) ?_; (with_reducible refine (laws_eqInt64S.calls k _ _ t278 _ _ t267 false _ ?side1 ?side2 ?side3 ?side4 A32.out).mono ?_); (case side1 => repeat (first | exact (Kd.R_reads' HO281.out).2.2 | (with_reducible refine Kd.C_alloc ?_ _) | (with_reducible refine Kd.C_drewN ?_ _) | (with_reducible refine Kd.C_drew ?_))); (case side2 => exact (Kd.R_reads' HO281.out).2.1); (case side3 => repeat (first | exact (Kd.R_reads' HO270.out).2.2 | (with_reducible refine Kd.C_alloc ?_ _) | (with_reducible refine Kd.C_drewN ?_ _) | (with_reducible refine Kd.C_drew ?_))); (case side4 => exact (Kd.R_reads' HO270.out).2.1); rintro e w' ⟨rfl, ⟨nd, rfl⟩⟩; refine ⟨_, rfl, ?_⟩))
          go_meet
          case rel => exact ⟨_, (true), (by first | rfl | (simp; done) | (simp [*]; done)), H', ⟨by first | omega | exact Nat.le_refl _⟩, ⟨by (with_reducible repeat (first | apply Kd.R_alloc | apply Kd.R_drewN | apply Kd.R_drew)); exact Kd.R_mono HO270.out (fun _ hk => hk.2)⟩, ⟨by (with_reducible repeat (first | apply Kd.R_alloc | apply Kd.R_drewN | apply Kd.R_drew)); exact Kd.R_mono HO273.out (fun _ hk => trivial)⟩, ⟨by (with_reducible repeat (first | apply Kd.S_alloc | apply Kd.S_drewN | apply Kd.S_drew)); exact Kd.S_mono HO276.out (fun _ hk => trivial)⟩, ⟨by (with_reducible repeat (first | apply Kd.R_alloc | apply Kd.R_drewN | apply Kd.R_drew)); exact Kd.R_mono HO281.out (fun _ hk => hk.2)⟩, ⟨by (with_reducible repeat (first | refine blk_drewN ?_ _ | refine blk_drew ?_ | refine blk_alloc ?_ _)); exact BK257.out⟩, ⟨by repeat (first | (with_reducible first | exact HB.out | apply below_alloc | apply pw_below_drewN | apply below_drew1 | refine below_set ?_ GE257.out) | exact HB.out)⟩⟩
      case rest =>
        clear HC18
        try clear c1
        try clear c2
        try clear p2
        try clear c3
        try clear c4
        try clear c5
        try clear c5b0
        try clear c6
        try clear c7
        try clear c8
        try clear c8b0
        try clear c9
        try clear c10
        try clear c11
        try clear c33
        obtain ⟨kq, x59_17, rfl, HA, HJ17, HO_8, HO_10, HO_11, HO_12, BK257, HB⟩ := hcut
        cases kq with
        | zero => exact absurd HA.out (by simp [laws_FnExactDraggedOf.j0])
        | succ kj17 =>
          have H := HA.out
          clear HA
          simp only [laws_FnExactDraggedOf.j0] at H
          by_cases c38 : x59_17 = true
          · subst c38
            have H1 : (some false) = some r := by rw [if_pos rfl] at H; exact H
            clear H
            have H := H1
            clear H1
            exact absurd (Option.some.inj H) (by rw [hr_.out]; decide)
          · replace c38 := Bool.eq_false_iff.mpr c38
            subst c38
            have H1 : ((laws_toBoatS.f kj17 l1).bind fun t283 => ((laws_eqBoatS.f kj17 t271 t283).bind fun t286 => (if t286 = true then ((laws_toPlaceSS.f kj17 l2).bind fun t287 => ((laws_eqPlaceSS.f kj17 t274 t287).bind fun t290 => (if t290 = true then ((laws_markBoatS.f kj17 t271 1).bind fun bt291 => ((laws_markPlaceSS.f t274 bt291.1).bind fun t293 => (if t293 < 0 then (laws_FnExactDraggedOf.j1 kj17 l1 l2 t267 t268 t278 true a0) else ((laws_eqInt64S.f kj17 t278 t267).bind fun t294 => (if t294 = true then (laws_FnExactDraggedOf.j1 kj17 l1 l2 t267 t268 t278 (t279 != t268) a0) else (laws_FnExactDraggedOf.j1 kj17 l1 l2 t267 t268 t278 true a0)))))) else (some false)))) else (some false)))) = some r := by rw [if_neg (show ¬ (false = true) by decide)] at H; exact H
            clear H
            have H := H1
            clear H1
            replace H := Option.bind_eq_some_iff.mp H
            obtain ⟨t283, A390, H⟩ := H
            replace H : ((laws_eqBoatS.f kj17 t271 t283).bind fun t286 => (if t286 = true then ((laws_toPlaceSS.f kj17 l2).bind fun t287 => ((laws_eqPlaceSS.f kj17 t274 t287).bind fun t290 => (if t290 = true then ((laws_markBoatS.f kj17 t271 1).bind fun bt291 => ((laws_markPlaceSS.f t274 bt291.1).bind fun t293 => (if t293 < 0 then (laws_FnExactDraggedOf.j1 kj17 l1 l2 t267 t268 t278 true a0) else ((laws_eqInt64S.f kj17 t278 t267).bind fun t294 => (if t294 = true then (laws_FnExactDraggedOf.j1 kj17 l1 l2 t267 t268 t278 (t279 != t268) a0) else (laws_FnExactDraggedOf.j1 kj17 l1 l2 t267 t268 t278 true a0)))))) else (some false)))) else (some false))) = some r := H
            have A39 := Aside0.mk A390
            clear A390
            replace H := Option.bind_eq_some_iff.mp H
            obtain ⟨t286, A400, H⟩ := H
            replace H : (if t286 = true then ((laws_toPlaceSS.f kj17 l2).bind fun t287 => ((laws_eqPlaceSS.f kj17 t274 t287).bind fun t290 => (if t290 = true then ((laws_markBoatS.f kj17 t271 1).bind fun bt291 => ((laws_markPlaceSS.f t274 bt291.1).bind fun t293 => (if t293 < 0 then (laws_FnExactDraggedOf.j1 kj17 l1 l2 t267 t268 t278 true a0) else ((laws_eqInt64S.f kj17 t278 t267).bind fun t294 => (if t294 = true then (laws_FnExactDraggedOf.j1 kj17 l1 l2 t267 t268 t278 (t279 != t268) a0) else (laws_FnExactDraggedOf.j1 kj17 l1 l2 t267 t268 t278 true a0)))))) else (some false)))) else (some false)) = some r := H
            have A40 := Aside0.mk A400
            clear A400
            by_cases c41 : t286 = true
            · subst c41
              have H1 : ((laws_toPlaceSS.f kj17 l2).bind fun t287 => ((laws_eqPlaceSS.f kj17 t274 t287).bind fun t290 => (if t290 = true then ((laws_markBoatS.f kj17 t271 1).bind fun bt291 => ((laws_markPlaceSS.f t274 bt291.1).bind fun t293 => (if t293 < 0 then (laws_FnExactDraggedOf.j1 kj17 l1 l2 t267 t268 t278 true a0) else ((laws_eqInt64S.f kj17 t278 t267).bind fun t294 => (if t294 = true then (laws_FnExactDraggedOf.j1 kj17 l1 l2 t267 t268 t278 (t279 != t268) a0) else (laws_FnExactDraggedOf.j1 kj17 l1 l2 t267 t268 t278 true a0)))))) else (some false)))) = some r := by rw [if_pos rfl] at H; exact H
              clear H
              have H := H1
              clear H1
              replace H := Option.bind_eq_some_iff.mp H
              obtain ⟨t287, A420, H⟩ := H
              replace H : ((laws_eqPlaceSS.f kj17 t274 t287).bind fun t290 => (if t290 = true then ((laws_markBoatS.f kj17 t271 1).bind fun bt291 => ((laws_markPlaceSS.f t274 bt291.1).bind fun t293 => (if t293 < 0 then (laws_FnExactDraggedOf.j1 kj17 l1 l2 t267 t268 t278 true a0) else ((laws_eqInt64S.f kj17 t278 t267).bind fun t294 => (if t294 = true then (laws_FnExactDraggedOf.j1 kj17 l1 l2 t267 t268 t278 (t279 != t268) a0) else (laws_FnExactDraggedOf.j1 kj17 l1 l2 t267 t268 t278 true a0)))))) else (some false))) = some r := H
              have A42 := Aside0.mk A420
              clear A420
              replace H := Option.bind_eq_some_iff.mp H
              obtain ⟨t290, A430, H⟩ := H
              replace H : (if t290 = true then ((laws_markBoatS.f kj17 t271 1).bind fun bt291 => ((laws_markPlaceSS.f t274 bt291.1).bind fun t293 => (if t293 < 0 then (laws_FnExactDraggedOf.j1 kj17 l1 l2 t267 t268 t278 true a0) else ((laws_eqInt64S.f kj17 t278 t267).bind fun t294 => (if t294 = true then (laws_FnExactDraggedOf.j1 kj17 l1 l2 t267 t268 t278 (t279 != t268) a0) else (laws_FnExactDraggedOf.j1 kj17 l1 l2 t267 t268 t278 true a0)))))) else (some false)) = some r := H
              have A43 := Aside0.mk A430
              clear A430
              by_cases c44 : t290 = true
              · subst c44
                have H1 : ((laws_markBoatS.f kj17 t271 1).bind fun bt291 => ((laws_markPlaceSS.f t274 bt291.1).bind fun t293 => (if t293 < 0 then (laws_FnExactDraggedOf.j1 kj17 l1 l2 t267 t268 t278 true a0) else ((laws_eqInt64S.f kj17 t278 t267).bind fun t294 => (if t294 = true then (laws_FnExactDraggedOf.j1 kj17 l1 l2 t267 t268 t278 (t279 != t268) a0) else (laws_FnExactDraggedOf.j1 kj17 l1 l2 t267 t268 t278 true a0)))))) = some r := by rw [if_pos rfl] at H; exact H
                clear H
                have H := H1
                clear H1
                replace H := Option.bind_eq_some_iff.mp H
                obtain ⟨⟨t291, t292⟩, A450, H⟩ := H
                replace H : ((laws_markPlaceSS.f t274 t291).bind fun t293 => (if t293 < 0 then (laws_FnExactDraggedOf.j1 kj17 l1 l2 t267 t268 t278 true a0) else ((laws_eqInt64S.f kj17 t278 t267).bind fun t294 => (if t294 = true then (laws_FnExactDraggedOf.j1 kj17 l1 l2 t267 t268 t278 (t279 != t268) a0) else (laws_FnExactDraggedOf.j1 kj17 l1 l2 t267 t268 t278 true a0))))) = some r := H
                have A45 := Aside0.mk A450
                clear A450
                replace H := Option.bind_eq_some_iff.mp H
                obtain ⟨t293, A460, H⟩ := H
                replace H : (if t293 < 0 then (laws_FnExactDraggedOf.j1 kj17 l1 l2 t267 t268 t278 true a0) else ((laws_eqInt64S.f kj17 t278 t267).bind fun t294 => (if t294 = true then (laws_FnExactDraggedOf.j1 kj17 l1 l2 t267 t268 t278 (t279 != t268) a0) else (laws_FnExactDraggedOf.j1 kj17 l1 l2 t267 t268 t278 true a0)))) = some r := H
                have A46 := Aside0.mk A460
                clear A460
                have HC47 := Aside0.mk H
                clear H
                go_upto_region 21 with (first | ((with_reducible refine gate_callee (f := 8) rfl ?_); refine goesL_ (some 62) rfl rfl Try.func8 (by kernel_rfl) rfl #[.slice A1 l1.length c1] rfl (by (try simp only [List.map_toArray, List.map_cons, List.map_nil]); first | done | rfl | (simp only [List.length_drop, List.length_take]; rfl)) ?_; (with_reducible refine (laws_toBoatS.calls kj17 _ _ l1 t283 _ ?side1 ?side2 A39.out).mono ?_); (case side1 => repeat (first | exact (Kd.C_below HR1.out HB.out) | (with_reducible refine Kd.C_alloc ?_ _) | (with_reducible refine Kd.C_drewN ?_ _) | (with_reducible refine Kd.C_drew ?_))); (case side2 => exact HC1.out); rintro e w48 ⟨v284, rfl, ho0, hb⟩; refine ⟨_, rfl, ?_⟩; have n0_ := Aside0.mk (Kd.R_below (by (with_reducible repeat (first | apply Kd.R_alloc | apply Kd.R_drewN | apply Kd.R_drew)); exact HO_8.out) hb); have n1_ := Aside0.mk (Kd.R_elder' (by (with_reducible repeat (first | apply Kd.R_alloc | apply Kd.R_drewN | apply Kd.R_drew)); exact HO_10.out) (Kd.R_base ho0) hb); have n2_ := Aside0.mk (Kd.S_below (by (with_reducible repeat (first | apply Kd.S_alloc | apply Kd.S_drewN | apply Kd.S_drew)); exact HO_11.out) hb); have n3_ := Aside0.mk (Kd.R_below (by (with_reducible repeat (first | apply Kd.R_alloc | apply Kd.R_drewN | apply Kd.R_drew)); exact HO_12.out) hb); have n4_ := Aside0.mk (Kd.R_lower (Kd.R_new' ho0 (Kd.R_lt (by (with_reducible repeat (first | apply Kd.R_alloc | apply Kd.R_drewN | apply Kd.R_drew)); exact HO_10.out))) (below_size (by repeat (first | (with_reducible first | exact HB.out | apply below_alloc | apply pw_below_drewN | apply below_drew1 | refine below_set ?_ GE257.out) | exact HB.out)))); have n5_ := Aside0.mk (blk_below (g := gb257) (o := .cells (a0).A 26 (0, 0)) (by (with_reducible repeat (first | refine blk_drewN ?_ _ | refine blk_drew ?_ | refine blk_alloc ?_ _)); exact BK257.out) hb); have n6_ := Aside0.mk (below_step (by repeat (first | (with_reducible first | exact HB.out | apply below_alloc | apply pw_below_drewN | apply below_drew1 | refine below_set ?_ GE257.out) | exact HB.out)) hb); clear HO_8; clear HO_10; clear HO_11; clear HO_12; clear BK257; clear HB; have HO_8 := n0_; have HO_10 := n1_; have HO_11 := n2_; have HO_12 := n3_; have HO285 := n4_; have BK257 := n5_; have HB := n6_; clear n0_ n1_ n2_ n3_ n4_ n5_ n6_; (try clear hb); (try clear hb2); (try clear hk); (try clear hi); (try clear ho0); obtain ⟨Ao49, co49, eo49⟩ := Kd.R_slice HO285.out; subst eo49) | ((with_reducible refine gate_callee (f := 12) rfl ?_); refine goesL_ (some 63) rfl rfl Try.func12 (by kernel_rfl) rfl #[.slice Ao29 t271.length co29, .slice Ao49 t283.length co49] rfl (by (try simp only [List.map_toArray, List.map_cons, List.map_nil]); first | done | rfl | (simp only [List.length_drop, List.length_take]; rfl)) ?_; (with_reducible refine (laws_eqBoatS.calls kj17 _ _ t271 _ _ t283 true _ ?side1 ?side2 ?side3 ?side4 A40.out).mono ?_); (case side1 => repeat (first | exact (Kd.R_reads' HO_10.out).2.2 | (with_reducible refine Kd.C_alloc ?_ _) | (with_reducible refine Kd.C_drewN ?_ _) | (with_reducible refine Kd.C_drew ?_))); (case side2 => exact (Kd.R_reads' HO_10.out).2.1); (case side3 => repeat (first | exact (Kd.R_reads' HO285.out).2.2 | (with_reducible refine Kd.C_alloc ?_ _) | (with_reducible refine Kd.C_drewN ?_ _) | (with_reducible refine Kd.C_drew ?_))); (case side4 => exact (Kd.R_reads' HO285.out).2.1); rintro e w50 ⟨rfl, hb⟩; refine ⟨_, rfl, ?_⟩; have n0_ := Aside0.mk (Kd.R_below (by (with_reducible repeat (first | apply Kd.R_alloc | apply Kd.R_drewN | apply Kd.R_drew)); exact HO_8.out) hb); have n1_ := Aside0.mk (Kd.R_below (by (with_reducible repeat (first | apply Kd.R_alloc | apply Kd.R_drewN | apply Kd.R_drew)); exact HO_10.out) hb); have n2_ := Aside0.mk (Kd.S_below (by (with_reducible repeat (first | apply Kd.S_alloc | apply Kd.S_drewN | apply Kd.S_drew)); exact HO_11.out) hb); have n3_ := Aside0.mk (Kd.R_below (by (with_reducible repeat (first | apply Kd.R_alloc | apply Kd.R_drewN | apply Kd.R_drew)); exact HO_12.out) hb); have n4_ := Aside0.mk (Kd.R_below (by (with_reducible repeat (first | apply Kd.R_alloc | apply Kd.R_drewN | apply Kd.R_drew)); exact HO285.out) hb); have n5_ := Aside0.mk (blk_below (g := gb257) (o := .cells (a0).A 26 (0, 0)) (by (with_reducible repeat (first | refine blk_drewN ?_ _ | refine blk_drew ?_ | refine blk_alloc ?_ _)); exact BK257.out) hb); have n6_ := Aside0.mk (below_step (by repeat (first | (with_reducible first | exact HB.out | apply below_alloc | apply pw_below_drewN | apply below_drew1 | refine below_set ?_ GE257.out) | exact HB.out)) hb); clear HO_8; clear HO_10; clear HO_11; clear HO_12; clear HO285; clear BK257; clear HB; have HO_8 := n0_; have HO_10 := n1_; have HO_11 := n2_; have HO_12 := n3_; have HO285 := n4_; have BK257 := n5_; have HB := n6_; clear n0_ n1_ n2_ n3_ n4_ n5_ n6_; (try clear hb); (try clear hb2); (try clear hk); (try clear hi)) | ((with_reducible refine gate_callee (f := 9) rfl ?_); refine goesL_ (some 67) rfl rfl Try.func9 (by kernel_rfl) rfl #[.slice A2 l2.length c2] rfl (by (try simp only [List.map_toArray, List.map_cons, List.map_nil]); first | done | rfl | (simp only [List.length_drop, List.length_take]; rfl)) ?_; (with_reducible refine (laws_toPlaceSS.calls kj17 _ _ l2 t287 _ ?side1 ?side2 A42.out).mono ?_); (case side1 => repeat (first | exact (Kd.C_below HR2.out HB.out) | (with_reducible refine Kd.C_alloc ?_ _) | (with_reducible refine Kd.C_drewN ?_ _) | (with_reducible refine Kd.C_drew ?_))); (case side2 => exact HC2.out); rintro e w51 ⟨v288, rfl, ho0, hb⟩; refine ⟨_, rfl, ?_⟩; have n0_ := Aside0.mk (Kd.R_below (by (with_reducible repeat (first | apply Kd.R_alloc | apply Kd.R_drewN | apply Kd.R_drew)); exact HO_8.out) hb); have n1_ := Aside0.mk (Kd.R_below (by (with_reducible repeat (first | apply Kd.R_alloc | apply Kd.R_drewN | apply Kd.R_drew)); exact HO_10.out) hb); have n2_ := Aside0.mk (Kd.S_elder' (by (with_reducible repeat (first | apply Kd.S_alloc | apply Kd.S_drewN | apply Kd.S_drew)); exact HO_11.out) (Kd.S_base ho0) hb); have n3_ := Aside0.mk (Kd.R_below (by (with_reducible repeat (first | apply Kd.R_alloc | apply Kd.R_drewN | apply Kd.R_drew)); exact HO_12.out) hb); have n4_ := Aside0.mk (Kd.R_below (by (with_reducible repeat (first | apply Kd.R_alloc | apply Kd.R_drewN | apply Kd.R_drew)); exact HO285.out) hb); have n5_ := Aside0.mk (Kd.S_lower (Kd.S_new' ho0 (Kd.S_lt (by (with_reducible repeat (first | apply Kd.S_alloc | apply Kd.S_drewN | apply Kd.S_drew)); exact HO_11.out))) (below_size (by repeat (first | (with_reducible first | exact HB.out | apply below_alloc | apply pw_below_drewN | apply below_drew1 | refine below_set ?_ GE257.out) | exact HB.out)))); have n6_ := Aside0.mk (blk_below (g := gb257) (o := .cells (a0).A 26 (0, 0)) (by (with_reducible repeat (first | refine blk_drewN ?_ _ | refine blk_drew ?_ | refine blk_alloc ?_ _)); exact BK257.out) hb); have n7_ := Aside0.mk (below_step (by repeat (first | (with_reducible first | exact HB.out | apply below_alloc | apply pw_below_drewN | apply below_drew1 | refine below_set ?_ GE257.out) | exact HB.out)) hb); clear HO_8; clear HO_10; clear HO_11; clear HO_12; clear HO285; clear BK257; clear HB; have HO_8 := n0_; have HO_10 := n1_; have HO_11 := n2_; have HO_12 := n3_; have HO285 := n4_; have HO289 := n5_; have BK257 := n6_; have HB := n7_; clear n0_ n1_ n2_ n3_ n4_ n5_ n6_ n7_; (try clear hb); (try clear hb2); (try clear hk); (try clear hi); (try clear ho0); obtain ⟨Ao52, co52, eo52⟩ := Kd.S_slice HO289.out; subst eo52) | ((with_reducible refine gate_callee (f := 13) rfl ?_); refine goesL_ (some 68) rfl rfl Try.func13 (by kernel_rfl) rfl #[.slice Ao30 t274.length co30, .slice Ao52 t287.length co52] rfl (by (try simp only [List.map_toArray, List.map_cons, List.map_nil]); first | done | rfl | (simp only [List.length_drop, List.length_take]; rfl)) ?_; (with_reducible refine (laws_eqPlaceSS.calls kj17 _ _ t274 _ _ t287 true _ ?side1 ?side2 ?side3 ?side4 A43.out).mono ?_); (case side1 => repeat (first | exact (Kd.S_reads' HO_11.out).2.2 | (with_reducible refine Kd.C_alloc ?_ _) | (with_reducible refine Kd.C_drewN ?_ _) | (with_reducible refine Kd.C_drew ?_))); (case side2 => exact (Kd.S_reads' HO_11.out).2.1); (case side3 => repeat (first | exact (Kd.S_reads' HO289.out).2.2 | (with_reducible refine Kd.C_alloc ?_ _) | (with_reducible refine Kd.C_drewN ?_ _) | (with_reducible refine Kd.C_drew ?_))); (case side4 => exact (Kd.S_reads' HO289.out).2.1); rintro e w53 ⟨rfl, hb⟩; refine ⟨_, rfl, ?_⟩; have n0_ := Aside0.mk (Kd.R_below (by (with_reducible repeat (first | apply Kd.R_alloc | apply Kd.R_drewN | apply Kd.R_drew)); exact HO_8.out) hb); have n1_ := Aside0.mk (Kd.R_below (by (with_reducible repeat (first | apply Kd.R_alloc | apply Kd.R_drewN | apply Kd.R_drew)); exact HO_10.out) hb); have n2_ := Aside0.mk (Kd.S_below (by (with_reducible repeat (first | apply Kd.S_alloc | apply Kd.S_drewN | apply Kd.S_drew)); exact HO_11.out) hb); have n3_ := Aside0.mk (Kd.R_below (by (with_reducible repeat (first | apply Kd.R_alloc | apply Kd.R_drewN | apply Kd.R_drew)); exact HO_12.out) hb); have n4_ := Aside0.mk (Kd.R_below (by (with_reducible repeat (first | apply Kd.R_alloc | apply Kd.R_drewN | apply Kd.R_drew)); exact HO285.out) hb); have n5_ := Aside0.mk (Kd.S_below (by (with_reducible repeat (first | apply Kd.S_alloc | apply Kd.S_drewN | apply Kd.S_drew)); exact HO289.out) hb); have n6_ := Aside0.mk (blk_below (g := gb257) (o := .cells (a0).A 26 (0, 0)) (by (with_reducible repeat (first | refine blk_drewN ?_ _ | refine blk_drew ?_ | refine blk_alloc ?_ _)); exact BK257.out) hb); have n7_ := Aside0.mk (below_step (by repeat (first | (with_reducible first | exact HB.out | apply below_alloc | apply pw_below_drewN | apply below_drew1 | refine below_set ?_ GE257.out) | exact HB.out)) hb); clear HO_8; clear HO_10; clear HO_11; clear HO_12; clear HO285; clear HO289; clear BK257; clear HB; have HO_8 := n0_; have HO_10 := n1_; have HO_11 := n2_; have HO_12 := n3_; have HO285 := n4_; have HO289 := n5_; have BK257 := n6_; have HB := n7_; clear n0_ n1_ n2_ n3_ n4_ n5_ n6_ n7_; (try clear hb); (try clear hb2); (try clear hk); (try clear hi)) | ((with_reducible refine gate_callee (f := 14) rfl ?_); refine goesL_ (some 72) rfl rfl Try.func14 (by kernel_rfl) rfl #[.slice Ao29 t271.length co29, .int .i64 1] rfl (by (try simp only [List.map_toArray, List.map_cons, List.map_nil]); first | done | rfl | (simp only [List.length_drop, List.length_take]; rfl)) ?_; (with_reducible refine (laws_markBoatS.calls kj17 (fun k_ => some k_ = (.slice Ao29 t271.length co29 : Value).ownBlock) (.slice Ao29 t271.length co29) t271 1 t291 t292 w _ ?side1 ?side2 A45.out).mono ?_); (case side1 => repeat (first | (with_reducible first | exact HB.out | apply below_alloc | apply pw_below_drewN | apply below_drew1 | refine below_set ?_ GE257.out) | exact HB.out)); (case side2 => exact Kd.R_tight rfl HO_10.out); rintro e w54 ⟨rfl, hy0, hb, hkp⟩; refine ⟨_, rfl, ?_⟩; have n0_ := Aside0.mk (Kd.R_mono (ok' := fun k_ => some k_ ≠ (v280 : Value).ownBlock) (Kd.R_keptB ((Kd.R_apart' HO_8.out (Kd.R_typed HO_10.out) (by decide))) hkp (fun k_ hk_ hs_ => (hk_.2) hs_)) (fun k_ hk_ => hk_.1.1)); have n1_ := Aside0.mk (Kd.R_reok rfl hy0 (fun k_ e_ => HO_10.out.1 k_ e_)); have n2_ := Aside0.mk (Kd.S_mono (ok' := fun k_ => some k_ ≠ (.slice Ao52 t287.length co52 : Value).ownBlock) (Kd.S_keptB ((Kd.S_apart' HO_11.out (Kd.R_typed HO_10.out) (by decide))) hkp (fun k_ hk_ hs_ => (hk_.2) hs_)) (fun k_ hk_ => hk_.1.1.2)); have n3_ := Aside0.mk (Kd.R_mono (ok' := fun k_ => some k_ ≠ (v269 : Value).ownBlock) (Kd.R_keptB ((Kd.R_apart' HO_12.out (Kd.R_typed HO_10.out) (by decide))) hkp (fun k_ hk_ hs_ => (hk_.2) hs_)) (fun k_ hk_ => hk_.1.1)); have n4_ := Aside0.mk (blk_kept (by (with_reducible repeat (first | refine blk_drewN ?_ _ | refine blk_drew ?_ | refine blk_alloc ?_ _)); exact BK257.out) hkp (fun hs_ => (fun e_ => (Kd.R_ne HO_10.out BK257.out (by decide)) e_) hs_)); have n5_ := Aside0.mk (Kd.R_mono (ok' := fun k_ => some k_ ≠ (.slice Ao29 t271.length co29 : Value).ownBlock) (Kd.R_keptB (HO285.out) hkp (fun k_ hk_ hs_ => (hk_.2) hs_)) (fun k_ hk_ => hk_.1.2)); have n6_ := Aside0.mk (Kd.S_mono (ok' := fun k_ => some k_ ≠ (.slice Ao30 t274.length co30 : Value).ownBlock) (Kd.S_keptB ((Kd.S_apart' HO289.out (Kd.R_typed HO_10.out) (by decide))) hkp (fun k_ hk_ hs_ => (hk_.2) hs_)) (fun k_ hk_ => hk_.1.1.2)); have n7_ := Aside0.mk (hb); clear HO_8; clear HO_10; clear HO_11; clear HO_12; clear BK257; clear HO285; clear HO289; clear HB; have HO_8 := n0_; have HO_10 := n1_; have HO_11 := n2_; have HO_12 := n3_; have BK257 := n4_; have HO285 := n5_; have HO289 := n6_; have HB := n7_; clear n0_ n1_ n2_ n3_ n4_ n5_ n6_ n7_; (try clear hb); (try clear hkp); (try clear hy0)) | ((with_reducible refine gate_callee (f := 15) rfl ?_); refine goesL_ (some 75) rfl rfl Try.func15 (by kernel_rfl) rfl #[.slice Ao30 t274.length co30, .int .i64 t291] rfl (by (try simp only [List.map_toArray, List.map_cons, List.map_nil]); first | done | rfl | (simp only [List.length_drop, List.length_take]; rfl)) ?_; (with_reducible refine (laws_markPlaceSS.calls (fun k_ => some k_ = (.slice Ao30 t274.length co30 : Value).ownBlock) (.slice Ao30 t274.length co30) t274 t291 t293 w _ ?side1 ?side2 A46.out).mono ?_); (case side1 => repeat (first | (with_reducible first | exact HB.out | apply below_alloc | apply pw_below_drewN | apply below_drew1 | refine below_set ?_ GE257.out) | exact HB.out)); (case side2 => exact Kd.S_mono HO_11.out (fun _ _ => trivial)); rintro e w55 ⟨rfl, hb, hkp⟩; refine ⟨_, rfl, ?_⟩; have n0_ := Aside0.mk (Kd.R_mono (ok' := fun k_ => some k_ ≠ (v280 : Value).ownBlock) (Kd.R_keptR ((Kd.R_apart' HO_8.out (Kd.S_typed HO_11.out) (by decide))) hkp (fun k_ hk_ hs_ => (hk_.2) hs_) (by decide)) (fun k_ hk_ => hk_.1.1)); have n1_ := Aside0.mk (Kd.R_mono (ok' := fun k_ => some k_ ≠ (.slice Ao49 t283.length co49 : Value).ownBlock) (Kd.R_keptR ((Kd.R_apart' HO_10.out (Kd.S_typed HO_11.out) (by decide))) hkp (fun k_ hk_ hs_ => (hk_.2) hs_) (by decide)) (fun k_ hk_ => hk_.1.1.2)); have n2_ := Aside0.mk (Kd.R_mono (ok' := fun k_ => some k_ ≠ (v269 : Value).ownBlock) (Kd.R_keptR ((Kd.R_apart' HO_12.out (Kd.S_typed HO_11.out) (by decide))) hkp (fun k_ hk_ hs_ => (hk_.2) hs_) (by decide)) (fun k_ hk_ => hk_.1.1)); have n3_ := Aside0.mk (blk_keptR (by (with_reducible repeat (first | refine blk_drewN ?_ _ | refine blk_drew ?_ | refine blk_alloc ?_ _)); exact BK257.out) hkp (fun hs_ => (fun e_ => (Kd.S_ne HO_11.out BK257.out (by decide)) e_) hs_)); have n4_ := Aside0.mk (Kd.R_mono (ok' := fun k_ => some k_ ≠ (.slice Ao29 t271.length co29 : Value).ownBlock) (Kd.R_keptR ((Kd.R_apart' HO285.out (Kd.S_typed HO_11.out) (by decide))) hkp (fun k_ hk_ hs_ => (hk_.2) hs_) (by decide)) (fun k_ hk_ => hk_.1.1)); have n5_ := HO289; have n6_ := Aside0.mk (hb); clear HO_8; clear HO_10; clear HO_12; clear BK257; clear HO285; clear HO289; clear HB; clear HO_11; have HO_8 := n0_; have HO_10 := n1_; have HO_12 := n2_; have BK257 := n3_; have HO285 := n4_; have HO289 := n5_; have HB := n6_; clear n0_ n1_ n2_ n3_ n4_ n5_ n6_; (try clear hb); (try clear hkp)))
                (try simp only [Act.put, List.setIfInBounds_toArray, List.set_cons_zero, List.set_cons_succ])
                go_cut [88] (fun v88 wc => ∃ (kq : Nat) (x88_46 : Bool), v88 = .bool x88_46 ∧ Aside0 (laws_FnExactDraggedOf.j1 kq l1 l2 t267 t268 t278 x88_46 a0 = some r) ∧ Aside0 (kq ≤ kj17) ∧ Aside0 (Kd.R (Kd.int .i64) 2 wc w.heap.size (fun k_ => some k_ ≠ (v280 : Value).ownBlock) v269 t267) ∧ Aside0 (Kd.R (Kd.int .i64) 2 wc w.heap.size (fun k_ => some k_ ≠ (v269 : Value).ownBlock) v280 t278) ∧ Aside0 (wc.heap[gb257]? = some (.cells (a0).A 26 (0, 0))) ∧ Aside0 (Below w.heap.size w wc))
                case first =>
                  have H := HC47.out
                  clear HC47
                  by_cases c56 : t293 < 0
                  · rw [if_pos c56] at H
                    have c56b0 : decide (t293 < 0) = true := decide_eq_true c56
                    clear c56
                    (first | rw [c56b0] | (simp only [i64_w, i32_w]; rw [c56b0]) | skip)
                    have H' := Aside0.mk H
                    clear H
                    go_wp2
                    go_meet
                    case rel => exact ⟨_, (true), (by first | rfl | (simp; done) | (simp [*]; done)), H', ⟨by have := HJ17.out; first | omega | exact Nat.le_refl _⟩, ⟨by (with_reducible repeat (first | apply Kd.R_alloc | apply Kd.R_drewN | apply Kd.R_drew)); exact HO_8.out⟩, ⟨by (with_reducible repeat (first | apply Kd.R_alloc | apply Kd.R_drewN | apply Kd.R_drew)); exact HO_12.out⟩, ⟨by (with_reducible repeat (first | refine blk_drewN ?_ _ | refine blk_drew ?_ | refine blk_alloc ?_ _)); exact BK257.out⟩, ⟨by repeat (first | (with_reducible first | exact HB.out | apply below_alloc | apply pw_below_drewN | apply below_drew1 | refine below_set ?_ GE257.out) | exact HB.out)⟩⟩
                  · rw [if_neg c56] at H
                    have c56b0 : decide (t293 < 0) = false := decide_eq_false c56
                    clear c56
                    (first | rw [c56b0] | (simp only [i64_w, i32_w]; rw [c56b0]) | skip)
                    replace H := Option.bind_eq_some_iff.mp H
                    obtain ⟨t294, A570, H⟩ := H
                    replace H : (if t294 = true then (laws_FnExactDraggedOf.j1 kj17 l1 l2 t267 t268 t278 (t279 != t268) a0) else (laws_FnExactDraggedOf.j1 kj17 l1 l2 t267 t268 t278 true a0)) = some r := H
                    have A57 := Aside0.mk A570
                    clear A570
                    by_cases c58 : t294 = true
                    · subst c58
                      have H1 : (laws_FnExactDraggedOf.j1 kj17 l1 l2 t267 t268 t278 (t279 != t268) a0) = some r := by rw [if_pos rfl] at H; exact H
                      clear H
                      have H := H1
                      clear H1
                      have H' := Aside0.mk H
                      clear H
                      obtain ⟨Ao59, co59, eo59⟩ := Kd.R_slice HO_12.out
                      subst eo59
                      obtain ⟨Ao60, co60, eo60⟩ := Kd.R_slice HO_8.out
                      subst eo60
                      go_wp2_with (first | (go_at_call 11; (with_reducible refine (laws_eqInt64S.calls kj17 _ _ t278 _ _ t267 true _ ?side1 ?side2 ?side3 ?side4 A57.out).mono ?_); (case side1 => repeat (first | exact (Kd.R_reads' HO_12.out).2.2 | (with_reducible refine Kd.C_alloc ?_ _) | (with_reducible refine Kd.C_drewN ?_ _) | (with_reducible refine Kd.C_drew ?_))); (case side2 => exact (Kd.R_reads' HO_12.out).2.1); (case side3 => repeat (first | exact (Kd.R_reads' HO_8.out).2.2 | (with_reducible refine Kd.C_alloc ?_ _) | (with_reducible refine Kd.C_drewN ?_ _) | (with_reducible refine Kd.C_drew ?_))); (case side4 => exact (Kd.R_reads' HO_8.out).2.1); rintro e w' ⟨rfl, ⟨nd, rfl⟩⟩))
                      go_meet
                      case rel => exact ⟨_, ((t279 != t268)), (by first | rfl | (simp; done) | (simp [*]; done)), H', ⟨by have := HJ17.out; first | omega | exact Nat.le_refl _⟩, ⟨by (with_reducible repeat (first | apply Kd.R_alloc | apply Kd.R_drewN | apply Kd.R_drew)); exact HO_8.out⟩, ⟨by (with_reducible repeat (first | apply Kd.R_alloc | apply Kd.R_drewN | apply Kd.R_drew)); exact HO_12.out⟩, ⟨by (with_reducible repeat (first | refine blk_drewN ?_ _ | refine blk_drew ?_ | refine blk_alloc ?_ _)); exact BK257.out⟩, ⟨by repeat (first | (with_reducible first | exact HB.out | apply below_alloc | apply pw_below_drewN | apply below_drew1 | refine below_set ?_ GE257.out) | exact HB.out)⟩⟩
                    · replace c58 := Bool.eq_false_iff.mpr c58
                      subst c58
                      have H1 : (laws_FnExactDraggedOf.j1 kj17 l1 l2 t267 t268 t278 true a0) = some r := by rw [if_neg (show ¬ (false = true) by decide)] at H; exact H
                      clear H
                      have H := H1
                      clear H1
                      have H' := Aside0.mk H
                      clear H
                      obtain ⟨Ao61, co61, eo61⟩ := Kd.R_slice HO_12.out
                      subst eo61
                      obtain ⟨Ao62, co62, eo62⟩ := Kd.R_slice HO_8.out
                      subst eo62
                      go_wp2_with (first | (go_at_call 11; (with_reducible refine (laws_eqInt64S.calls kj17 _ _ t278 _ _ t267 false _ ?side1 ?side2 ?side3 ?side4 A57.out).mono ?_); (case side1 => repeat (first | exact (Kd.R_reads' HO_12.out).2.2 | (with_reducible refine Kd.C_alloc ?_ _) | (with_reducible refine Kd.C_drewN ?_ _) | (with_reducible refine Kd.C_drew ?_))); (case side2 => exact (Kd.R_reads' HO_12.out).2.1); (case side3 => repeat (first | exact (Kd.R_reads' HO_8.out).2.2 | (with_reducible refine Kd.C_alloc ?_ _) | (with_reducible refine Kd.C_drewN ?_ _) | (with_reducible refine Kd.C_drew ?_))); (case side4 => exact (Kd.R_reads' HO_8.out).2.1); rintro e w' ⟨rfl, ⟨nd, rfl⟩⟩))
                      go_meet
                      case rel => exact ⟨_, (true), (by first | rfl | (simp; done) | (simp [*]; done)), H', ⟨by have := HJ17.out; first | omega | exact Nat.le_refl _⟩, ⟨by (with_reducible repeat (first | apply Kd.R_alloc | apply Kd.R_drewN | apply Kd.R_drew)); exact HO_8.out⟩, ⟨by (with_reducible repeat (first | apply Kd.R_alloc | apply Kd.R_drewN | apply Kd.R_drew)); exact HO_12.out⟩, ⟨by (with_reducible repeat (first | refine blk_drewN ?_ _ | refine blk_drew ?_ | refine blk_alloc ?_ _)); exact BK257.out⟩, ⟨by repeat (first | (with_reducible first | exact HB.out | apply below_alloc | apply pw_below_drewN | apply below_drew1 | refine below_set ?_ GE257.out) | exact HB.out)⟩⟩
                case rest =>
                  clear HC47
                  try clear c1
                  try clear c2
                  try clear p2
                  try clear c3
                  try clear c4
                  try clear c5
                  try clear c5b0
                  try clear c6
                  try clear c7
                  try clear c8
                  try clear c8b0
                  try clear c9
                  try clear c10
                  try clear c11
                  try clear c12
                  try clear c13
                  try clear c14
                  try clear c15
                  try clear c33
                  try clear c38
                  try clear c41
                  try clear c44
                  try clear c56
                  try clear c56b0
                  try clear c58
                  try clear p2
                  obtain ⟨kq, x88_46, rfl, HA, HJ46, HO_8, HO_12, BK257, HB⟩ := hcut
                  cases kq with
                  | zero => exact absurd HA.out (by simp [laws_FnExactDraggedOf.j1])
                  | succ kj46 =>
                    have H := HA.out
                    clear HA
                    simp only [laws_FnExactDraggedOf.j1] at H
                    by_cases c63 : x88_46 = true
                    · subst c63
                      have H1 : (some false) = some r := by rw [if_pos rfl] at H; exact H
                      clear H
                      have H := H1
                      clear H1
                      exact absurd (Option.some.inj H) (by rw [hr_.out]; decide)
                    · replace c63 := Bool.eq_false_iff.mpr c63
                      subst c63
                      have H1 : ((laws_markInt64S.f kj46 t278 1).bind fun bt295 => ((laws_heldInt64S.f kj46 bt295.2 1).bind fun t297 => (if t297 < 0 then (some false) else (if t297 = bt295.1 then ((laws_toBay.f a0).bind fun t298 => ((laws_toBoatS.f kj46 l1).bind fun t299 => ((laws_toPlaceSS.f kj46 l2).bind fun t302 => ((impl_DraggedOf.f kj46 t298 t299 t302).bind fun bt305 => ((laws_eqInt64S.f kj46 bt305.1 t267).bind fun t309 => (if t309 = true then (laws_FnExactDraggedOf.j2 kj46 bt295.2 bt295.1 (bt305.2 != t268)) else (laws_FnExactDraggedOf.j2 kj46 bt295.2 bt295.1 true))))))) else (some false))))) = some r := by rw [if_neg (show ¬ (false = true) by decide)] at H; exact H
                      clear H
                      have H := H1
                      clear H1
                      replace H := Option.bind_eq_some_iff.mp H
                      obtain ⟨⟨t295, t296⟩, A640, H⟩ := H
                      replace H : ((laws_heldInt64S.f kj46 t296 1).bind fun t297 => (if t297 < 0 then (some false) else (if t297 = t295 then ((laws_toBay.f a0).bind fun t298 => ((laws_toBoatS.f kj46 l1).bind fun t299 => ((laws_toPlaceSS.f kj46 l2).bind fun t302 => ((impl_DraggedOf.f kj46 t298 t299 t302).bind fun bt305 => ((laws_eqInt64S.f kj46 bt305.1 t267).bind fun t309 => (if t309 = true then (laws_FnExactDraggedOf.j2 kj46 t296 t295 (bt305.2 != t268)) else (laws_FnExactDraggedOf.j2 kj46 t296 t295 true))))))) else (some false)))) = some r := H
                      have A64 := Aside0.mk A640
                      clear A640
                      replace H := Option.bind_eq_some_iff.mp H
                      obtain ⟨t297, A650, H⟩ := H
                      replace H : (if t297 < 0 then (some false) else (if t297 = t295 then ((laws_toBay.f a0).bind fun t298 => ((laws_toBoatS.f kj46 l1).bind fun t299 => ((laws_toPlaceSS.f kj46 l2).bind fun t302 => ((impl_DraggedOf.f kj46 t298 t299 t302).bind fun bt305 => ((laws_eqInt64S.f kj46 bt305.1 t267).bind fun t309 => (if t309 = true then (laws_FnExactDraggedOf.j2 kj46 t296 t295 (bt305.2 != t268)) else (laws_FnExactDraggedOf.j2 kj46 t296 t295 true))))))) else (some false))) = some r := H
                      have A65 := Aside0.mk A650
                      clear A650
                      by_cases c66 : t297 < 0
                      · rw [if_pos c66] at H
                        have c66b0 : decide (t297 < 0) = true := decide_eq_true c66
                        clear c66
                        exact absurd (Option.some.inj H) (by rw [hr_.out]; decide)
                      · rw [if_neg c66] at H
                        have c66b0 : decide (t297 < 0) = false := decide_eq_false c66
                        clear c66
                        by_cases c67 : t297 = t295
                        · rw [if_pos c67] at H
                          have c67b0 : (t297 == t295) = true := beq_iff_eq.mpr c67
                          have c67b1 : (t297 != t295) = false := bne_eq_false_iff_eq.mpr c67
                          clear c67
                          replace H := Option.bind_eq_some_iff.mp H
                          obtain ⟨t298, A680, H⟩ := H
                          replace H : ((laws_toBoatS.f kj46 l1).bind fun t299 => ((laws_toPlaceSS.f kj46 l2).bind fun t302 => ((impl_DraggedOf.f kj46 t298 t299 t302).bind fun bt305 => ((laws_eqInt64S.f kj46 bt305.1 t267).bind fun t309 => (if t309 = true then (laws_FnExactDraggedOf.j2 kj46 t296 t295 (bt305.2 != t268)) else (laws_FnExactDraggedOf.j2 kj46 t296 t295 true)))))) = some r := H
                          have A68 := Aside0.mk A680
                          clear A680
                          replace H := Option.bind_eq_some_iff.mp H
                          obtain ⟨t299, A690, H⟩ := H
                          replace H : ((laws_toPlaceSS.f kj46 l2).bind fun t302 => ((impl_DraggedOf.f kj46 t298 t299 t302).bind fun bt305 => ((laws_eqInt64S.f kj46 bt305.1 t267).bind fun t309 => (if t309 = true then (laws_FnExactDraggedOf.j2 kj46 t296 t295 (bt305.2 != t268)) else (laws_FnExactDraggedOf.j2 kj46 t296 t295 true))))) = some r := H
                          have A69 := Aside0.mk A690
                          clear A690
                          replace H := Option.bind_eq_some_iff.mp H
                          obtain ⟨t302, A700, H⟩ := H
                          replace H : ((impl_DraggedOf.f kj46 t298 t299 t302).bind fun bt305 => ((laws_eqInt64S.f kj46 bt305.1 t267).bind fun t309 => (if t309 = true then (laws_FnExactDraggedOf.j2 kj46 t296 t295 (bt305.2 != t268)) else (laws_FnExactDraggedOf.j2 kj46 t296 t295 true)))) = some r := H
                          have A70 := Aside0.mk A700
                          clear A700
                          replace H := Option.bind_eq_some_iff.mp H
                          obtain ⟨⟨t305, t306⟩, A710, H⟩ := H
                          replace H : ((laws_eqInt64S.f kj46 t305 t267).bind fun t309 => (if t309 = true then (laws_FnExactDraggedOf.j2 kj46 t296 t295 (t306 != t268)) else (laws_FnExactDraggedOf.j2 kj46 t296 t295 true))) = some r := H
                          have A71 := Aside0.mk A710
                          clear A710
                          have HC72 := Aside0.mk H
                          clear H
                          obtain ⟨Ao73, co73, eo73⟩ := Kd.R_slice HO_12.out
                          subst eo73
                          go_upto_region 32 with (first | ((with_reducible refine gate_callee (f := 16) rfl ?_); refine goesL_ (some 91) rfl rfl Try.func16 (by kernel_rfl) rfl #[.slice Ao73 t278.length co73, .int .i64 1] rfl (by (try simp only [List.map_toArray, List.map_cons, List.map_nil]); first | done | rfl | (simp only [List.length_drop, List.length_take]; rfl)) ?_; (with_reducible refine (laws_markInt64S.calls kj46 (fun k_ => some k_ = (.slice Ao73 t278.length co73 : Value).ownBlock) (.slice Ao73 t278.length co73) t278 1 t295 t296 w _ ?side1 ?side2 A64.out).mono ?_); (case side1 => repeat (first | (with_reducible first | exact HB.out | apply below_alloc | apply pw_below_drewN | apply below_drew1 | refine below_set ?_ GE257.out) | exact HB.out)); (case side2 => exact Kd.R_tight rfl HO_12.out); rintro e w74 ⟨rfl, hy0, hb, hkp⟩; refine ⟨_, rfl, ?_⟩; have n0_ := Aside0.mk (Kd.R_mono (ok' := fun k_ => some k_ ≠ (.slice Ao73 t278.length co73 : Value).ownBlock) (Kd.R_keptB (HO_8.out) hkp (fun k_ hk_ hs_ => (hk_) hs_)) (fun k_ hk_ => hk_.1)); have n1_ := Aside0.mk (Kd.R_reok rfl hy0 (fun k_ e_ => HO_12.out.1 k_ e_)); have n2_ := Aside0.mk (blk_kept (by (with_reducible repeat (first | refine blk_drewN ?_ _ | refine blk_drew ?_ | refine blk_alloc ?_ _)); exact BK257.out) hkp (fun hs_ => (fun e_ => (Kd.R_ne HO_12.out BK257.out (by decide)) e_) hs_)); have n3_ := Aside0.mk (hb); clear HO_8; clear HO_12; clear BK257; clear HB; have HO_8 := n0_; have HO_12 := n1_; have BK257 := n2_; have HB := n3_; clear n0_ n1_ n2_ n3_; (try clear hb); (try clear hkp); (try clear hy0)) | ((with_reducible refine gate_callee (f := 17) rfl ?_); refine goesL_ (some 94) rfl rfl Try.func17 (by kernel_rfl) rfl #[.slice Ao73 t296.length co73, .int .i64 1] rfl (by (try simp only [List.map_toArray, List.map_cons, List.map_nil]); first | done | (rw [show t296.length = t278.length from (Kd.R_reads' HO_12.out).1.symm] <;> rfl) | rfl | (simp only [List.length_drop, List.length_take]; rfl)) ?_; (with_reducible refine (laws_heldInt64S.calls kj46 _ _ t296 1 t297 _ ?side1 ?side2 A65.out).mono ?_); (case side1 => repeat (first | exact (Kd.R_reads' HO_12.out).2.2 | (with_reducible refine Kd.C_alloc ?_ _) | (with_reducible refine Kd.C_drewN ?_ _) | (with_reducible refine Kd.C_drew ?_))); (case side2 => rw [show t296.length = t278.length from (Kd.R_reads' HO_12.out).1.symm]; exact (Kd.R_reads' HO_12.out).2.1); rintro e w' ⟨rfl, ⟨nd, rfl⟩⟩; refine ⟨_, rfl, ?_⟩) | ((with_reducible refine gate_dst (N := 101) rfl ?_); (with_reducible refine AR.gate_load (t := 26) rfl ?_); (try refine gate_guard (by rfl) ?_); refine AR.wpList_load_blk rfl 26 _ rfl gb257 rfl (a0).A _ (by (with_reducible repeat (first | refine blk_drewN ?_ _ | refine blk_drew ?_ | refine blk_alloc ?_ _)); exact BK257.out) Try.underlying26 rfl (szO26 _) ?_) | ((with_reducible refine gate_callee (f := 7) rfl ?_); refine goesL_ (some 102) rfl rfl Try.func7 (by kernel_rfl) rfl #[VO26 a0] rfl (by (try simp only [List.map_toArray, List.map_cons, List.map_nil]); first | done | rfl | (simp only [List.length_drop, List.length_take]; rfl)) ?_; (with_reducible refine (laws_toBay.calls a0 t298 _ A68.out).mono ?_); rintro e w75 ⟨rfl, hb⟩; refine ⟨_, rfl, ?_⟩; have n0_ := Aside0.mk (Kd.R_below (by (with_reducible repeat (first | apply Kd.R_alloc | apply Kd.R_drewN | apply Kd.R_drew)); exact HO_8.out) hb); have n1_ := Aside0.mk (Kd.R_below (by (with_reducible repeat (first | apply Kd.R_alloc | apply Kd.R_drewN | apply Kd.R_drew)); exact HO_12.out) hb); have n2_ := Aside0.mk (blk_below (g := gb257) (o := .cells (a0).A 26 (0, 0)) (by (with_reducible repeat (first | refine blk_drewN ?_ _ | refine blk_drew ?_ | refine blk_alloc ?_ _)); exact BK257.out) hb); have n3_ := Aside0.mk (below_step (by repeat (first | (with_reducible first | exact HB.out | apply below_alloc | apply pw_below_drewN | apply below_drew1 | refine below_set ?_ GE257.out) | exact HB.out)) hb); clear HO_8; clear HO_12; clear BK257; clear HB; have HO_8 := n0_; have HO_12 := n1_; have BK257 := n2_; have HB := n3_; clear n0_ n1_ n2_ n3_; (try clear hb); (try clear hb2); (try clear hk); (try clear hi)) | ((with_reducible refine gate_callee (f := 8) rfl ?_); refine goesL_ (some 104) rfl rfl Try.func8 (by kernel_rfl) rfl #[.slice A1 l1.length c1] rfl (by (try simp only [List.map_toArray, List.map_cons, List.map_nil]); first | done | rfl | (simp only [List.length_drop, List.length_take]; rfl)) ?_; (with_reducible refine (laws_toBoatS.calls kj46 _ _ l1 t299 _ ?side1 ?side2 A69.out).mono ?_); (case side1 => repeat (first | exact (Kd.C_below HR1.out HB.out) | (with_reducible refine Kd.C_alloc ?_ _) | (with_reducible refine Kd.C_drewN ?_ _) | (with_reducible refine Kd.C_drew ?_))); (case side2 => exact HC1.out); rintro e w76 ⟨v300, rfl, ho0, hb⟩; refine ⟨_, rfl, ?_⟩; have n0_ := Aside0.mk (Kd.R_below (by (with_reducible repeat (first | apply Kd.R_alloc | apply Kd.R_drewN | apply Kd.R_drew)); exact HO_8.out) hb); have n1_ := Aside0.mk (Kd.R_below (by (with_reducible repeat (first | apply Kd.R_alloc | apply Kd.R_drewN | apply Kd.R_drew)); exact HO_12.out) hb); have n2_ := Aside0.mk (Kd.R_lower ho0 (below_size (by repeat (first | (with_reducible first | exact HB.out | apply below_alloc | apply pw_below_drewN | apply below_drew1 | refine below_set ?_ GE257.out) | exact HB.out)))); have n3_ := Aside0.mk (blk_below (g := gb257) (o := .cells (a0).A 26 (0, 0)) (by (with_reducible repeat (first | refine blk_drewN ?_ _ | refine blk_drew ?_ | refine blk_alloc ?_ _)); exact BK257.out) hb); have n4_ := Aside0.mk (below_step (by repeat (first | (with_reducible first | exact HB.out | apply below_alloc | apply pw_below_drewN | apply below_drew1 | refine below_set ?_ GE257.out) | exact HB.out)) hb); clear HO_8; clear HO_12; clear BK257; clear HB; have HO_8 := n0_; have HO_12 := n1_; have HO301 := n2_; have BK257 := n3_; have HB := n4_; clear n0_ n1_ n2_ n3_ n4_; (try clear hb); (try clear hb2); (try clear hk); (try clear hi); (try clear ho0)) | ((with_reducible refine gate_callee (f := 9) rfl ?_); refine goesL_ (some 106) rfl rfl Try.func9 (by kernel_rfl) rfl #[.slice A2 l2.length c2] rfl (by (try simp only [List.map_toArray, List.map_cons, List.map_nil]); first | done | rfl | (simp only [List.length_drop, List.length_take]; rfl)) ?_; (with_reducible refine (laws_toPlaceSS.calls kj46 _ _ l2 t302 _ ?side1 ?side2 A70.out).mono ?_); (case side1 => repeat (first | exact (Kd.C_below HR2.out HB.out) | (with_reducible refine Kd.C_alloc ?_ _) | (with_reducible refine Kd.C_drewN ?_ _) | (with_reducible refine Kd.C_drew ?_))); (case side2 => exact HC2.out); rintro e w77 ⟨v303, rfl, ho0, hb⟩; refine ⟨_, rfl, ?_⟩; have n0_ := Aside0.mk (Kd.R_below (by (with_reducible repeat (first | apply Kd.R_alloc | apply Kd.R_drewN | apply Kd.R_drew)); exact HO_8.out) hb); have n1_ := Aside0.mk (Kd.R_below (by (with_reducible repeat (first | apply Kd.R_alloc | apply Kd.R_drewN | apply Kd.R_drew)); exact HO_12.out) hb); have n2_ := Aside0.mk (Kd.R_below (by (with_reducible repeat (first | apply Kd.R_alloc | apply Kd.R_drewN | apply Kd.R_drew)); exact HO301.out) hb); have n3_ := Aside0.mk (Kd.S_lower ho0 (below_size (by repeat (first | (with_reducible first | exact HB.out | apply below_alloc | apply pw_below_drewN | apply below_drew1 | refine below_set ?_ GE257.out) | exact HB.out)))); have n4_ := Aside0.mk (blk_below (g := gb257) (o := .cells (a0).A 26 (0, 0)) (by (with_reducible repeat (first | refine blk_drewN ?_ _ | refine blk_drew ?_ | refine blk_alloc ?_ _)); exact BK257.out) hb); have n5_ := Aside0.mk (below_step (by repeat (first | (with_reducible first | exact HB.out | apply below_alloc | apply pw_below_drewN | apply below_drew1 | refine below_set ?_ GE257.out) | exact HB.out)) hb); clear HO_8; clear HO_12; clear HO301; clear BK257; clear HB; have HO_8 := n0_; have HO_12 := n1_; have HO301 := n2_; have HO304 := n3_; have BK257 := n4_; have HB := n5_; clear n0_ n1_ n2_ n3_ n4_ n5_; (try clear hb); (try clear hb2); (try clear hk); (try clear hi); (try clear ho0); obtain ⟨Ao78, co78, eo78⟩ := Kd.R_slice HO301.out; subst eo78; obtain ⟨Ao79, co79, eo79⟩ := Kd.S_slice HO304.out; subst eo79) | ((with_reducible refine gate_callee (f := 10) rfl ?_); refine goesL_ (some 107) rfl rfl Try.func10 (by kernel_rfl) rfl #[VO34 t298, .slice Ao78 t299.length co78, .slice Ao79 t302.length co79] rfl (by (try simp only [List.map_toArray, List.map_cons, List.map_nil]); first | done | rfl | (simp only [List.length_drop, List.length_take]; rfl)) ?_; (with_reducible refine (impl_DraggedOf.calls kj46 t298 _ _ t299 _ _ t302 t305 t306 _ ?side1 ?side2 ?side3 ?side4 A71.out).mono ?_); (case side1 => repeat (first | exact (Kd.R_reads' HO301.out).2.2 | (with_reducible refine Kd.C_alloc ?_ _) | (with_reducible refine Kd.C_drewN ?_ _) | (with_reducible refine Kd.C_drew ?_))); (case side2 => exact (Kd.R_reads' HO301.out).2.1); (case side3 => repeat (first | exact (Kd.S_reads' HO304.out).2.2 | (with_reducible refine Kd.C_alloc ?_ _) | (with_reducible refine Kd.C_drewN ?_ _) | (with_reducible refine Kd.C_drew ?_))); (case side4 => exact (Kd.S_reads' HO304.out).2.1); rintro e w80 ⟨v307, rfl, ho0, hb⟩; refine ⟨_, rfl, ?_⟩; have n0_ := Aside0.mk (Kd.R_elder' (by (with_reducible repeat (first | apply Kd.R_alloc | apply Kd.R_drewN | apply Kd.R_drew)); exact HO_8.out) (Kd.R_base ho0) hb); have n1_ := Aside0.mk (Kd.R_elder' (by (with_reducible repeat (first | apply Kd.R_alloc | apply Kd.R_drewN | apply Kd.R_drew)); exact HO_12.out) (Kd.R_base ho0) hb); have n2_ := Aside0.mk (Kd.R_below (by (with_reducible repeat (first | apply Kd.R_alloc | apply Kd.R_drewN | apply Kd.R_drew)); exact HO301.out) hb); have n3_ := Aside0.mk (Kd.S_below (by (with_reducible repeat (first | apply Kd.S_alloc | apply Kd.S_drewN | apply Kd.S_drew)); exact HO304.out) hb); have n4_ := Aside0.mk (Kd.R_lower (Kd.R_new' (Kd.R_new' ho0 (Kd.R_lt (by (with_reducible repeat (first | apply Kd.R_alloc | apply Kd.R_drewN | apply Kd.R_drew)); exact HO_8.out))) (Kd.R_lt (by (with_reducible repeat (first | apply Kd.R_alloc | apply Kd.R_drewN | apply Kd.R_drew)); exact HO_12.out))) (below_size (by repeat (first | (with_reducible first | exact HB.out | apply below_alloc | apply pw_below_drewN | apply below_drew1 | refine below_set ?_ GE257.out) | exact HB.out)))); have n5_ := Aside0.mk (blk_below (g := gb257) (o := .cells (a0).A 26 (0, 0)) (by (with_reducible repeat (first | refine blk_drewN ?_ _ | refine blk_drew ?_ | refine blk_alloc ?_ _)); exact BK257.out) hb); have n6_ := Aside0.mk (below_step (by repeat (first | (with_reducible first | exact HB.out | apply below_alloc | apply pw_below_drewN | apply below_drew1 | refine below_set ?_ GE257.out) | exact HB.out)) hb); clear HO_8; clear HO_12; clear HO301; clear HO304; clear BK257; clear HB; have HO_8 := n0_; have HO_12 := n1_; have HO301 := n2_; have HO304 := n3_; have HO308 := n4_; have BK257 := n5_; have HB := n6_; clear n0_ n1_ n2_ n3_ n4_ n5_ n6_; (try clear hb); (try clear hb2); (try clear hk); (try clear hi); (try clear ho0)))
                          (try simp only [Act.put, List.setIfInBounds_toArray, List.set_cons_zero, List.set_cons_succ])
                          go_cut [118] (fun v118 wc => ∃ (kq : Nat) (x118_71 : Bool), v118 = .bool x118_71 ∧ Aside0 (laws_FnExactDraggedOf.j2 kq t296 t295 x118_71 = some r) ∧ Aside0 (kq ≤ kj46) ∧ Aside0 (Kd.R (Kd.int .i64) 2 wc w.heap.size (fun _ => True) (.slice Ao73 t278.length co73) t296) ∧ Aside0 (wc.heap[gb257]? = some (.cells (a0).A 26 (0, 0))) ∧ Aside0 (Below w.heap.size w wc))
                          case first =>
                            have H := HC72.out
                            clear HC72
                            replace H := Option.bind_eq_some_iff.mp H
                            obtain ⟨t309, A810, H⟩ := H
                            replace H : (if t309 = true then (laws_FnExactDraggedOf.j2 kj46 t296 t295 (t306 != t268)) else (laws_FnExactDraggedOf.j2 kj46 t296 t295 true)) = some r := H
                            have A81 := Aside0.mk A810
                            clear A810
                            by_cases c82 : t309 = true
                            · subst c82
                              have H1 : (laws_FnExactDraggedOf.j2 kj46 t296 t295 (t306 != t268)) = some r := by rw [if_pos rfl] at H; exact H
                              clear H
                              have H := H1
                              clear H1
                              have H' := Aside0.mk H
                              clear H
                              obtain ⟨Ao83, co83, eo83⟩ := Kd.R_slice HO308.out
                              subst eo83
                              obtain ⟨Ao84, co84, eo84⟩ := Kd.R_slice HO_8.out
                              subst eo84
                              go_wp2_with (first | ((with_reducible refine gate_callee (f := 11) rfl ?_); refine goesL_ (some 112) rfl rfl Try.func11 (by kernel_rfl) rfl #[.slice Ao83 t305.length co83, .slice Ao84 t267.length co84] rfl (by (try simp only [List.map_toArray, List.map_cons, List.map_nil]); first | done | rfl | (simp only [List.length_drop, List.length_take]; rfl)) ?_; (with_reducible refine (laws_eqInt64S.calls kj46 _ _ t305 _ _ t267 true _ ?side1 ?side2 ?side3 ?side4 A81.out).mono ?_); (case side1 => repeat (first | exact (Kd.R_reads' HO308.out).2.2 | (with_reducible refine Kd.C_alloc ?_ _) | (with_reducible refine Kd.C_drewN ?_ _) | (with_reducible refine Kd.C_drew ?_))); (case side2 => exact (Kd.R_reads' HO308.out).2.1); (case side3 => repeat (first | exact (Kd.R_reads' HO_8.out).2.2 | (with_reducible refine Kd.C_alloc ?_ _) | (with_reducible refine Kd.C_drewN ?_ _) | (with_reducible refine Kd.C_drew ?_))); (case side4 => exact (Kd.R_reads' HO_8.out).2.1); rintro e w' ⟨rfl, ⟨nd, rfl⟩⟩; refine ⟨_, rfl, ?_⟩))
                              go_meet
                              case rel => exact ⟨_, ((t306 != t268)), (by first | rfl | (simp; done) | (simp [*]; done)), H', ⟨by have := HJ17.out; have := HJ46.out; first | omega | exact Nat.le_refl _⟩, ⟨by (with_reducible repeat (first | apply Kd.R_alloc | apply Kd.R_drewN | apply Kd.R_drew)); exact Kd.R_mono HO_12.out (fun _ hk => trivial)⟩, ⟨by (with_reducible repeat (first | refine blk_drewN ?_ _ | refine blk_drew ?_ | refine blk_alloc ?_ _)); exact BK257.out⟩, ⟨by repeat (first | (with_reducible first | exact HB.out | apply below_alloc | apply pw_below_drewN | apply below_drew1 | refine below_set ?_ GE257.out) | exact HB.out)⟩⟩
                            · replace c82 := Bool.eq_false_iff.mpr c82
                              subst c82
                              have H1 : (laws_FnExactDraggedOf.j2 kj46 t296 t295 true) = some r := by rw [if_neg (show ¬ (false = true) by decide)] at H; exact H
                              clear H
                              have H := H1
                              clear H1
                              have H' := Aside0.mk H
                              clear H
                              obtain ⟨Ao85, co85, eo85⟩ := Kd.R_slice HO308.out
                              subst eo85
                              obtain ⟨Ao86, co86, eo86⟩ := Kd.R_slice HO_8.out
                              subst eo86
                              go_wp2_with (first | ((with_reducible refine gate_callee (f := 11) rfl ?_); refine goesL_ (some 112) rfl rfl Try.func11 (by kernel_rfl) rfl #[.slice Ao85 t305.length co85, .slice Ao86 t267.length co86] rfl (by (try simp only [List.map_toArray, List.map_cons, List.map_nil]); first | done | rfl | (simp only [List.length_drop, List.length_take]; rfl)) ?_; (with_reducible refine (laws_eqInt64S.calls kj46 _ _ t305 _ _ t267 false _ ?side1 ?side2 ?side3 ?side4 A81.out).mono ?_); (case side1 => repeat (first | exact (Kd.R_reads' HO308.out).2.2 | (with_reducible refine Kd.C_alloc ?_ _) | (with_reducible refine Kd.C_drewN ?_ _) | (with_reducible refine Kd.C_drew ?_))); (case side2 => exact (Kd.R_reads' HO308.out).2.1); (case side3 => repeat (first | exact (Kd.R_reads' HO_8.out).2.2 | (with_reducible refine Kd.C_alloc ?_ _) | (with_reducible refine Kd.C_drewN ?_ _) | (with_reducible refine Kd.C_drew ?_))); (case side4 => exact (Kd.R_reads' HO_8.out).2.1); rintro e w' ⟨rfl, ⟨nd, rfl⟩⟩; refine ⟨_, rfl, ?_⟩))
                              go_meet
                              case rel => exact ⟨_, (true), (by first | rfl | (simp; done) | (simp [*]; done)), H', ⟨by have := HJ17.out; have := HJ46.out; first | omega | exact Nat.le_refl _⟩, ⟨by (with_reducible repeat (first | apply Kd.R_alloc | apply Kd.R_drewN | apply Kd.R_drew)); exact Kd.R_mono HO_12.out (fun _ hk => trivial)⟩, ⟨by (with_reducible repeat (first | refine blk_drewN ?_ _ | refine blk_drew ?_ | refine blk_alloc ?_ _)); exact BK257.out⟩, ⟨by repeat (first | (with_reducible first | exact HB.out | apply below_alloc | apply pw_below_drewN | apply below_drew1 | refine below_set ?_ GE257.out) | exact HB.out)⟩⟩
                          case rest =>
                            clear HC72
                            try clear c1
                            try clear c2
                            try clear p2
                            try clear c3
                            try clear c4
                            try clear c5
                            try clear c5b0
                            try clear c6
                            try clear c7
                            try clear c8
                            try clear c8b0
                            try clear c9
                            try clear c10
                            try clear c11
                            try clear c12
                            try clear c13
                            try clear c14
                            try clear c15
                            try clear c16
                            try clear c17
                            try clear c33
                            try clear c38
                            try clear c41
                            try clear c44
                            try clear c56
                            try clear c56b0
                            try clear c58
                            try clear c63
                            try clear c66
                            try clear c66b0
                            try clear c67
                            try clear c67b0
                            try clear c67b1
                            try clear c82
                            try clear p2
                            obtain ⟨kq, x118_71, rfl, HA, HJ71, HO_12, BK257, HB⟩ := hcut
                            have hl12_71 := (Kd.R_reads' HO_12.out).1
                            rw [hl12_71] at HO_12
                            (try simp only [hl12_71])
                            (try simp only [hl12_71] at BK257)
                            cases kq with
                            | zero => exact absurd HA.out (by simp [laws_FnExactDraggedOf.j2])
                            | succ kj71 =>
                              have H := HA.out
                              clear HA
                              simp only [laws_FnExactDraggedOf.j2] at H
                              by_cases c87 : x118_71 = true
                              · subst c87
                                have H1 : (some false) = some r := by rw [if_pos rfl] at H; exact H
                                clear H
                                have H := H1
                                clear H1
                                exact absurd (Option.some.inj H) (by rw [hr_.out]; decide)
                              · replace c87 := Bool.eq_false_iff.mpr c87
                                subst c87
                                have H1 : ((laws_heldInt64S.f kj71 t296 1).bind fun t310 => (if t310 < 0 then (some false) else (if t310 = t295 then (some true) else (some false)))) = some r := by rw [if_neg (show ¬ (false = true) by decide)] at H; exact H
                                clear H
                                have H := H1
                                clear H1
                                replace H := Option.bind_eq_some_iff.mp H
                                obtain ⟨t310, A880, H⟩ := H
                                replace H : (if t310 < 0 then (some false) else (if t310 = t295 then (some true) else (some false))) = some r := H
                                have A88 := Aside0.mk A880
                                clear A880
                                by_cases c89 : t310 < 0
                                · rw [if_pos c89] at H
                                  have c89b0 : decide (t310 < 0) = true := decide_eq_true c89
                                  clear c89
                                  exact absurd (Option.some.inj H) (by rw [hr_.out]; decide)
                                · rw [if_neg c89] at H
                                  have c89b0 : decide (t310 < 0) = false := decide_eq_false c89
                                  clear c89
                                  by_cases c90 : t310 = t295
                                  · rw [if_pos c90] at H
                                    have c90b0 : (t310 == t295) = true := beq_iff_eq.mpr c90
                                    have c90b1 : (t310 != t295) = false := bne_eq_false_iff_eq.mpr c90
                                    clear c90
                                    obtain rfl := Option.some.inj H
                                    go_wp2_with (first | ((with_reducible refine gate_callee (f := 17) rfl ?_); refine goesL_ (some 121) rfl rfl Try.func17 (by kernel_rfl) rfl #[.slice Ao73 t296.length co73, .int .i64 1] rfl (by (try simp only [List.map_toArray, List.map_cons, List.map_nil]); first | done | rfl | (simp only [List.length_drop, List.length_take]; rfl)) ?_; (with_reducible refine (laws_heldInt64S.calls kj71 _ _ t296 1 t310 _ ?side1 ?side2 A88.out).mono ?_); (case side1 => repeat (first | exact (Kd.R_reads' HO_12.out).2.2 | (with_reducible refine Kd.C_alloc ?_ _) | (with_reducible refine Kd.C_drewN ?_ _) | (with_reducible refine Kd.C_drew ?_))); (case side2 => exact (Kd.R_reads' HO_12.out).2.1); rintro e w' ⟨rfl, ⟨nd, rfl⟩⟩; refine ⟨_, rfl, ?_⟩))
                                    go_ret
                                    exact ⟨by first | rfl | (simp [errW_none, errW_some] <;> rfl) | (simp [*, errW_none, errW_some] <;> rfl), by repeat (first | (with_reducible first | exact HB.out | apply below_alloc | apply pw_below_drewN | apply below_drew1 | refine below_set ?_ GE257.out) | exact HB.out)⟩
                                  · rw [if_neg c90] at H
                                    have c90b0 : (t310 == t295) = false := beq_eq_false_iff_ne.mpr c90
                                    have c90b1 : (t310 != t295) = true := bne_iff_ne.mpr c90
                                    exact absurd (Option.some.inj H) (by rw [hr_.out]; decide)
                        · rw [if_neg c67] at H
                          have c67b0 : (t297 == t295) = false := beq_eq_false_iff_ne.mpr c67
                          have c67b1 : (t297 != t295) = true := bne_iff_ne.mpr c67
                          exact absurd (Option.some.inj H) (by rw [hr_.out]; decide)
              · replace c44 := Bool.eq_false_iff.mpr c44
                subst c44
                have H1 : (some false) = some r := by rw [if_neg (show ¬ (false = true) by decide)] at H; exact H
                clear H
                have H := H1
                clear H1
                exact absurd (Option.some.inj H) (by rw [hr_.out]; decide)
            · replace c41 := Bool.eq_false_iff.mpr c41
              subst c41
              have H1 : (some false) = some r := by rw [if_neg (show ¬ (false = true) by decide)] at H; exact H
              clear H
              have H := H1
              clear H1
              exact absurd (Option.some.inj H) (by rw [hr_.out]; decide)
end Go.Proofs.Ytdefbflihmkegad.G
end
section
namespace Go.Proofs.Ytdefbflihmkegad.G.PB
open Go.RowKit M Go.Proofs.Ytdefbflihmkegad.PL Go.Proofs.YtdefbflihmkegadW.PrintWords Go.Proofs.YtdefbflihmkegadW.PrintMore
set_option linter.unusedSimpArgs false
set_option linter.unusedVariables false
abbrev Bay := Flat 258 .i8
def boatV (b : Bay) (x y ch lo dr ki : Int) : Bool := isW b x y && (inB ch 1 60 && (inB lo 0 5 && (inB dr 1 30 && inB ki 0 9)))
def b8 (x : Int) : Prop := -128 ≤ x ∧ x ≤ 127
theorem ws {x : Int} (h : b8 x) : wrap64 x = x := by obtain ⟨h0, h1⟩ := h; unfold wrap64; omega
theorem w8 {x : Int} (h0 : -128 ≤ x) (h1 : x ≤ 127) : IntKind.i8.wrap x = x := by
  unfold IntKind.wrap; simp [IntKind.signed, IntKind.bits]; omega
theorem spec_in (n lo hi : Int) : spec_l00In.f n lo hi = some (inB n lo hi) := by
  unfold spec_l00In.f inB
  by_cases h : lo ≤ n <;> simp [h]
theorem depO_in (b : Bay) {x y : Int} (hx0 : 0 ≤ x) (hx1 : x < 16) (hy0 : 0 ≤ y) (hy1 : y < 16) : depO b x y = some (dep b x y) := if_pos ⟨hx0, hx1, hy0, hy1⟩
theorem bay_small {b : Bay} (h : bayB b = true) : 1 ≤ b.z 0 ∧ b.z 0 ≤ 16 ∧ 1 ≤ b.z 1 ∧ b.z 1 ≤ 16 := by
  obtain ⟨h0, h1, _⟩ := bayB_true h; omega
theorem isP_16 {b : Bay} {x y : Int} (h : bayB b = true) (hp : isP b x y = true) : 0 ≤ x ∧ x < 16 ∧ 0 ≤ y ∧ y < 16 := by
  have := bay_small h; have := isP_bounds hp; omega
theorem isW_isP {b : Bay} {x y : Int} (h : isW b x y = true) : isP b x y = true ∧ 0 < dep b x y := by
  unfold isW at h; simp at h; exact h
theorem boatV_isW {b : Bay} {x y ch lo dr ki : Int} (h : boatV b x y ch lo dr ki = true) : isW b x y = true ∧ (1 ≤ ch ∧ ch ≤ 60) ∧ (0 ≤ lo ∧ lo ≤ 5) ∧ (1 ≤ dr ∧ dr ≤ 30) ∧ (0 ≤ ki ∧ ki ≤ 9) := by
  unfold boatV inB at h; simp at h; omega
theorem dep_30 {b : Bay} {x y : Int} (h : bayB b = true) (h0 : 0 ≤ x) (h1 : x < 16) (h2 : 0 ≤ y) (h3 : y < 16) : 0 ≤ dep b x y ∧ dep b x y ≤ 30 := by
  have := (bayB_true h).2.2 y.toNat (by omega) x.toNat (by omega)
  unfold okD at this
  rw [Bool.and_eq_true] at this
  have h4 := inB_true this.1
  rw [show ((x.toNat : Nat) : Int) = x by omega, show ((y.toNat : Nat) : Int) = y by omega] at h4
  exact h4
theorem impl_place (b : Bay) (x y : Int) : impl_isPlace.f b x y = some (isP b x y) := by
  unfold impl_isPlace.f isP
  by_cases h1 : 0 ≤ x <;> by_cases h2 : x < b.z 0 <;> by_cases h3 : 0 ≤ y <;> simp [h1, h2, h3]
theorem impl_water {b : Bay} (h : bayB b = true) (x y : Int) : impl_isWater.f b x y = some (isW b x y) := by
  unfold impl_isWater.f isW
  rw [impl_place]
  simp only [Option.bind_some]
  cases hp : isP b x y
  · simp
  · obtain ⟨h0, h1, h2, h3⟩ := isP_16 h hp
    unfold impl_depth.f
    rw [if_pos rfl, depO_in b h0 h1 h2 h3]
    simp
theorem impl_boat {b : Bay} (h : bayB b = true) (x y ch lo dr ki : Int) : impl_isBoat.f b x y ch lo dr ki = some (boatV b x y ch lo dr ki) := by
  unfold impl_isBoat.f boatV
  rw [impl_water h]
  simp only [Option.bind_some]
  cases isW b x y
  · simp
  · simp only [if_true, Bool.true_and, inB]
    by_cases h1 : 1 ≤ ch
    · by_cases h2 : ch ≤ 60
      · by_cases h3 : 0 ≤ lo
        · by_cases h4 : lo ≤ 5
          · by_cases h5 : 1 ≤ dr
            · by_cases h6 : dr ≤ 30
              · by_cases h7 : 0 ≤ ki <;> simp [h1, h2, h3, h4, h5, h6, h7]
              · simp [h1, h2, h3, h4, h5, h6]
            · simp [h1, h2, h3, h4, h5]
          · simp [h1, h2, h3, h4]
        · simp [h1, h2, h3]
      · simp [h1, h2]
    · simp [h1]
theorem spec_is (b : Bay) {x y : Int} (hx : b8 x) (hy : b8 y) : spec_l01Is.f b x y = some (isP b x y) := by
  have h0 : b8 (b.z 0) := bounds_i8 (b.ok 0 (by omega))
  have h1 : b8 (b.z 1) := bounds_i8 (b.ok 1 (by omega))
  unfold spec_l01Is.f
  rw [ws hx, ws hy, ws h0, ws h1, wsm (by have := h0.1; omega) (by have := h0.2; omega), wsm (by have := h1.1; omega) (by have := h1.2; omega), spec_in, spec_in, isP_in]
  simp only [Option.bind_some]
  cases inB x 0 (b.z 0 - 1) <;> simp
theorem spec_boat {b : Bay} (h : bayB b = true) {x y ch lo dr ki : Int} (hx : b8 x) (hy : b8 y) (hc : b8 ch) (hl : b8 lo) (hd : b8 dr) (hk : b8 ki) : spec_l01Boat.f b x y ch lo dr ki = some (boatV b x y ch lo dr ki) := by
  unfold spec_l01Boat.f boatV isW
  rw [spec_is b hx hy]
  simp only [Option.bind_some]
  cases hp : isP b x y
  · simp
  · obtain ⟨h0, h1, h2, h3⟩ := isP_16 h hp
    unfold spec_l01Depth.f
    rw [if_pos rfl, depO_in b h0 h1 h2 h3, ws hc, ws hl, ws hd, ws hk, spec_in, spec_in, spec_in, spec_in]
    simp only [Option.bind_some]
    by_cases hw : 0 < dep b x y
    · rw [if_pos hw]
      cases inB ch 1 60 <;> cases inB lo 0 5 <;> cases inB dr 1 30 <;> simp [hw]
    · rw [if_neg hw]; simp [hw]
end Go.Proofs.Ytdefbflihmkegad.G.PB
end
section
namespace Go.Proofs.Ytdefbflihmkegad.G.PB
open Go.RowKit M Go.Proofs.Ytdefbflihmkegad.PL Go.Proofs.YtdefbflihmkegadW.PrintWords Go.Proofs.YtdefbflihmkegadW.PrintMore
set_option linter.unusedSimpArgs false
set_option linter.unusedVariables false
def rootFrom (n : Int) : Nat → Int → Int
  | 0, r => r
  | d + 1, r => if (r + 1) * (r + 1) ≤ n then rootFrom n d (r + 1) else r
theorem root_bounds (n : Int) (d : Nat) : ∀ r, 0 ≤ r → r ≤ rootFrom n d r ∧ rootFrom n d r ≤ r + d := by
  induction d with
  | zero => intro r h; simp [rootFrom]
  | succ d ih =>
    intro r h
    simp only [rootFrom]
    split
    · have := ih (r + 1) (by omega); omega
    · omega
theorem sq_bounds {r B : Int} (h0 : 0 ≤ r) (h1 : r ≤ B) : 0 ≤ r * r ∧ r * r ≤ B * B := mul_bounds h0 h1 h0 h1
def rootV (n : Int) : Int := rootFrom n 60 0
theorem spec_root (n : Int) (hn : n ≤ 3600) (d : Nat) : ∀ (k : Nat) (r : Int), 0 ≤ r → r + d = 60 → d < k → spec_l01Reach.l0 k n r = some (rootFrom n d r) := by
  induction d with
  | zero =>
    intro k r h0 h1 hk
    obtain ⟨k, rfl⟩ : ∃ m, k = m + 1 := ⟨k - 1, by omega⟩
    obtain rfl : r = 60 := by omega
    simp only [spec_l01Reach.l0]; rw [wsm (x := 60 + 1) (by omega) (by omega), wsm (by omega) (by omega), if_neg (by omega)]; rfl
  | succ d ih =>
    intro k r h0 h1 hk
    obtain ⟨k, rfl⟩ : ∃ m, k = m + 1 := ⟨k - 1, by omega⟩
    have hs := sq_bounds (r := r + 1) (B := 61) (by omega) (by omega)
    simp only [spec_l01Reach.l0]; rw [wsm (x := r + 1) (by omega) (by omega), wsm (by omega) (by omega)]
    simp only [rootFrom]
    split
    · exact ih k (r + 1) (by omega) (by omega) (by omega)
    · rfl
theorem impl_root_loop (n : Int) (hn : n ≤ 3600) (d : Nat) : ∀ (k : Nat) (r : Int), 0 ≤ r → r + d = 60 → d < k → impl_root.l0 k n r = some (rootFrom n d r) := by
  induction d with
  | zero =>
    intro k r h0 h1 hk
    obtain ⟨k, rfl⟩ : ∃ m, k = m + 1 := ⟨k - 1, by omega⟩
    obtain rfl : r = 60 := by omega
    simp only [impl_root.l0]; rw [wsm (x := 60 + 1) (by omega) (by omega), wsm (by omega) (by omega), if_neg (by omega)]; rfl
  | succ d ih =>
    intro k r h0 h1 hk
    obtain ⟨k, rfl⟩ : ∃ m, k = m + 1 := ⟨k - 1, by omega⟩
    have hs := sq_bounds (r := r + 1) (B := 61) (by omega) (by omega)
    simp only [impl_root.l0]; rw [wsm (x := r + 1) (by omega) (by omega), wsm (by omega) (by omega)]
    simp only [rootFrom]
    split
    · exact ih k (r + 1) (by omega) (by omega) (by omega)
    · rfl
def reachV (b : Bay) (x y ch : Int) : Int := if ch * ch - dep b x y * dep b x y < 0 then -1 else rootV (ch * ch - dep b x y * dep b x y)
theorem reachV_bounds (b : Bay) (x y ch : Int) : -1 ≤ reachV b x y ch ∧ reachV b x y ch ≤ 60 := by
  unfold reachV rootV
  have := root_bounds (ch * ch - dep b x y * dep b x y) 60 0 (by omega)
  split <;> omega
theorem spec_reach_tells {b : Bay} (h : bayB b = true) {x y ch : Int} (lo dr ki : Int) (h0 : 0 ≤ x) (h1 : x < 16) (h2 : 0 ≤ y) (h3 : y < 16) (hc0 : 0 ≤ ch) (hc1 : ch ≤ 60) {k : Nat} (hk : 60 < k) : spec_l01Reach.f k b x y ch lo dr ki = some (reachV b x y ch) := by
  obtain ⟨d0, d1⟩ := dep_30 h h0 h1 h2 h3
  have hc := sq_bounds hc0 hc1
  have hd := sq_bounds d0 d1
  unfold spec_l01Reach.f spec_l01Depth.f reachV rootV
  rw [depO_in b h0 h1 h2 h3]
  simp only [Option.bind_some]
  rw [wsm (x := ch) (by omega) (by omega), wsm (x := ch * ch) (by omega) (by omega), wsm (x := dep b x y * dep b x y) (by omega) (by omega), wsm (by omega) (by omega)]
  split
  · rfl
  · exact spec_root _ (by omega) 60 k 0 (by omega) (by omega) (by omega)
theorem impl_reach_tells {b : Bay} (h : bayB b = true) {x y ch : Int} (lo dr ki : Int) (h0 : 0 ≤ x) (h1 : x < 16) (h2 : 0 ≤ y) (h3 : y < 16) (hc0 : 0 ≤ ch) (hc1 : ch ≤ 60) {k : Nat} (hk : 60 < k) : impl_reachOf.f k b x y ch lo dr ki = some (reachV b x y ch) := by
  obtain ⟨d0, d1⟩ := dep_30 h h0 h1 h2 h3
  have hc := sq_bounds hc0 hc1
  have hd := sq_bounds d0 d1
  unfold impl_reachOf.f impl_depth.f reachV rootV
  rw [depO_in b h0 h1 h2 h3]
  simp only [Option.bind_some]
  rw [wsm (x := ch) (by omega) (by omega), wsm (x := ch * ch) (by omega) (by omega), wsm (x := dep b x y * dep b x y) (by omega) (by omega), wsm (by omega) (by omega)]
  split
  · rfl
  · unfold impl_root.f
    rw [impl_root_loop _ (by omega) 60 k 0 (by omega) (by omega) (by omega)]; rfl
theorem boat_reach {b : Bay} (h : bayB b = true) {x y ch lo dr ki : Int} (hb : boatV b x y ch lo dr ki = true) {k : Nat} (hk : 60 < k) : impl_reachOf.f k b x y ch lo dr ki = some (reachV b x y ch) ∧ spec_l01Reach.f k b x y ch lo dr ki = some (reachV b x y ch) := by
  obtain ⟨hw, hc, _⟩ := boatV_isW hb
  obtain ⟨h0, h1, h2, h3⟩ := isP_16 h (isW_isP hw).1
  exact ⟨impl_reach_tells h lo dr ki h0 h1 h2 h3 (by omega) (by omega) hk, spec_reach_tells h lo dr ki h0 h1 h2 h3 (by omega) (by omega) hk⟩
end Go.Proofs.Ytdefbflihmkegad.G.PB
end
section
namespace Go.Proofs.Ytdefbflihmkegad.G.PB
open Go.RowKit M Go.Proofs.Ytdefbflihmkegad.PL Go.Proofs.YtdefbflihmkegadW.PrintWords Go.Proofs.YtdefbflihmkegadW.PrintMore
set_option linter.unusedSimpArgs false
set_option linter.unusedVariables false
abbrev PlL := S55
def okP (p : PlL) : Bool := i8B p.f0 && i8B p.f1
theorem okP_b8 {p : PlL} (h : okP p = true) : b8 p.f0 ∧ b8 p.f1 := by
  simp only [okP, Bool.and_eq_true] at h
  exact ⟨i8_bounds h.1, i8_bounds h.2⟩
theorem rdP {l : List PlL} {i : Nat} (h : i < l.length) : rd_T55 l (i : Int) = l[i] := by simp [rd_T55, h]
def farV (p : PlL) (x y : Int) : Int := (p.f0 - x) * (p.f0 - x) + (p.f1 - y) * (p.f1 - y)
theorem sq_abs {a : Int} (h0 : -255 ≤ a) (h1 : a ≤ 255) : 0 ≤ a * a ∧ a * a ≤ 65025 := by
  by_cases h : 0 ≤ a
  · exact mul_bounds h h1 h h1
  · have := mul_bounds (a := -a) (b := -a) (A := 255) (B := 255) (by omega) (by omega) (by omega) (by omega)
    rw [Int.neg_mul_neg] at this
    exact this
theorem impl_far_tells {p : PlL} {x y : Int} (hp : okP p = true) (hx : b8 x) (hy : b8 y) : impl_far.f p.f0 p.f1 x y = some (farV p x y) := by
  obtain ⟨p0, p1⟩ := okP_b8 hp
  have hx' := hx; have hy' := hy; have p0' := p0; have p1' := p1
  unfold b8 at hx' hy' p0' p1'
  have s0 := sq_abs (a := p.f0 - x) (by omega) (by omega)
  have s1 := sq_abs (a := p.f1 - y) (by omega) (by omega)
  unfold impl_far.f farV
  rw [ws p0, ws p1, ws hx, ws hy, wsm (x := p.f0 - x) (by omega) (by omega), wsm (x := p.f1 - y) (by omega) (by omega), wsm (x := (p.f0 - x) * _) (by omega) (by omega), wsm (x := (p.f1 - y) * _) (by omega) (by omega), wsm (by omega) (by omega)]
theorem spec_far_tells {p : PlL} {x y : Int} (hp : okP p = true) (hx : b8 x) (hy : b8 y) : spec_l01Far.f p.f0 p.f1 x y = some (farV p x y) := by
  have := impl_far_tells hp hx hy
  unfold impl_far.f at this
  unfold spec_l01Far.f
  exact this
def offFrom (l : List PlL) (s x y : Int) : Nat → Nat → Int
  | 0, _ => -1
  | d + 1, i => if farV (l.getD i ⟨0, 0⟩) x y > s * s then (i : Int) else offFrom l s x y d (i + 1)
theorem getD_at {l : List PlL} {i : Nat} (h : i < l.length) : l.getD i ⟨0, 0⟩ = l[i] := by simp [h]
theorem impl_off_loop {l : List PlL} (hl : l.length ≤ 10000000) (hok : l.all okP = true) {s x y : Int} (c lo dr ki : Int) (hs0 : -1 ≤ s) (hs : s ≤ 1000) (hx : b8 x) (hy : b8 y) (d : Nat) : ∀ (k i : Nat), i + d = l.length → d < k → impl_off.l0 k s l l.length i x y c lo dr ki = some (offFrom l s x y d i) := by
  have hss : 0 ≤ s * s ∧ s * s ≤ 1000000 := by
    by_cases h : 0 ≤ s
    · exact sq_bounds h hs
    · obtain rfl : s = -1 := by omega
      omega
  induction d with
  | zero =>
    intro k i hi hk
    obtain ⟨k, rfl⟩ : ∃ m, k = m + 1 := ⟨k - 1, by omega⟩
    simp only [impl_off.l0]; rw [if_neg (by omega)]; rfl
  | succ d ih =>
    intro k i hi hk
    obtain ⟨k, rfl⟩ : ∃ m, k = m + 1 := ⟨k - 1, by omega⟩
    have ho : okP (l[i]'(by omega)) = true := List.all_eq_true.mp hok _ (List.getElem_mem (by omega : i < l.length))
    simp only [impl_off.l0]; rw [if_pos (by omega), if_pos (by omega), if_pos (by omega), rdP (by omega), impl_far_tells ho hx hy]
    simp only [Option.bind_some, offFrom]
    rw [wsm (x := s * s) (by omega) (by omega), getD_at (by omega)]
    split
    · rfl
    · rw [wnx (by omega)]; exact ih k (i + 1) (by omega) (by omega)
theorem spec_off_loop {l : List PlL} (hl : l.length ≤ 10000000) (hok : l.all okP = true) {s x y : Int} (c lo dr ki : Int) (hs0 : -1 ≤ s) (hs : s ≤ 1000) (hx : b8 x) (hy : b8 y) (d : Nat) : ∀ (k i : Nat), i + d = l.length → d < k → spec_l07Off.l0 k l s i x y c lo dr ki = some (offFrom l s x y d i) := by
  have hss : 0 ≤ s * s ∧ s * s ≤ 1000000 := by
    by_cases h : 0 ≤ s
    · exact sq_bounds h hs
    · obtain rfl : s = -1 := by omega
      omega
  induction d with
  | zero =>
    intro k i hi hk
    obtain ⟨k, rfl⟩ : ∃ m, k = m + 1 := ⟨k - 1, by omega⟩
    simp only [spec_l07Off.l0]; rw [if_neg (by omega)]; rfl
  | succ d ih =>
    intro k i hi hk
    obtain ⟨k, rfl⟩ : ∃ m, k = m + 1 := ⟨k - 1, by omega⟩
    have ho : okP (l[i]'(by omega)) = true := List.all_eq_true.mp hok _ (List.getElem_mem (by omega : i < l.length))
    simp only [spec_l07Off.l0]; rw [if_pos (by omega), if_pos (by omega), rdP (by omega), spec_far_tells ho hx hy]
    simp only [Option.bind_some, offFrom]
    rw [wsm (x := s * s) (by omega) (by omega), getD_at (by omega)]
    split
    · rfl
    · rw [wnx (by omega)]; exact ih k (i + 1) (by omega) (by omega)
def offV (b : Bay) (x y ch lo : Int) (l : List PlL) : Int := offFrom l (reachV b x y ch + lo) x y l.length 0
theorem impl_off_tells {b : Bay} (h : bayB b = true) {x y ch lo dr ki : Int} (hb : boatV b x y ch lo dr ki = true) {l : List PlL} (hl : l.length ≤ 10000000) (hok : l.all okP = true) {k : Nat} (hk : 60 < k) (hk2 : l.length < k) : impl_off.f k b x y ch lo dr ki l = some (offV b x y ch lo l) := by
  obtain ⟨hw, hc, hlo, _⟩ := boatV_isW hb
  obtain ⟨h0, h1, h2, h3⟩ := isP_16 h (isW_isP hw).1
  have hr := reachV_bounds b x y ch
  unfold impl_off.f impl_swingOf.f offV
  rw [(boat_reach h hb hk).1]
  simp only [Option.bind_some]
  rw [wsm (x := lo) (by omega) (by omega), wsm (by omega) (by omega)]
  exact impl_off_loop hl hok ch lo dr ki (by omega) (by omega) ⟨by omega, by omega⟩ ⟨by omega, by omega⟩ l.length k 0 (by omega) hk2
theorem spec_off_tells {b : Bay} (h : bayB b = true) {x y ch lo dr ki : Int} (hb : boatV b x y ch lo dr ki = true) {l : List PlL} (hl : l.length ≤ 10000000) (hok : l.all okP = true) {k : Nat} (hk : 60 < k) (hk2 : l.length < k) : spec_l07Off.f k b x y ch lo dr ki l = some (offV b x y ch lo l) := by
  obtain ⟨hw, hc, hlo, _⟩ := boatV_isW hb
  obtain ⟨h0, h1, h2, h3⟩ := isP_16 h (isW_isP hw).1
  have hr := reachV_bounds b x y ch
  unfold spec_l07Off.f offV
  rw [(boat_reach h hb hk).2]
  simp only [Option.bind_some]
  rw [wsm (x := lo) (by omega) (by omega), wsm (by omega) (by omega)]
  exact spec_off_loop hl hok ch lo dr ki (by omega) (by omega) ⟨by omega, by omega⟩ ⟨by omega, by omega⟩ l.length k 0 (by omega) hk2
def inBay (b : Bay) (p : PlL) : Bool := isP b p.f0 p.f1
theorem spec_log_loop (b : Bay) {l : List PlL} (hl : l.length ≤ 10000000) (hok : l.all okP = true) (d : Nat) : ∀ (k i : Nat), i + d = l.length → d < k → spec_l07Log.l0 k l i b = some ((l.drop i).all (inBay b)) := by
  induction d with
  | zero =>
    intro k i hi hk
    obtain ⟨k, rfl⟩ : ∃ m, k = m + 1 := ⟨k - 1, by omega⟩
    simp only [spec_l07Log.l0]; rw [if_neg (by omega), List.drop_of_length_le (by omega)]; rfl
  | succ d ih =>
    intro k i hi hk
    obtain ⟨k, rfl⟩ : ∃ m, k = m + 1 := ⟨k - 1, by omega⟩
    have ho : okP (l[i]'(by omega)) = true := List.all_eq_true.mp hok _ (List.getElem_mem (by omega : i < l.length))
    simp only [spec_l07Log.l0]; rw [if_pos (by omega), if_pos (by omega), rdP (by omega), spec_is b (okP_b8 ho).1 (okP_b8 ho).2, List.drop_eq_getElem_cons (by omega : i < l.length), List.all_cons]
    simp only [Option.bind_some]
    cases hp : isP b (l[i]'(by omega)).f0 (l[i]'(by omega)).f1
    · simp [inBay, hp]
    · rw [if_pos rfl, wnx (by omega), ih k (i + 1) (by omega) (by omega)]; simp [inBay, hp]
theorem spec_log_tells (b : Bay) {l : List PlL} (hl : l.length ≤ 10000000) (hok : l.all okP = true) {k : Nat} (hk : l.length < k) : spec_l07Log.f k b l = some (l.all (inBay b)) := by
  have := spec_log_loop b hl hok l.length k 0 (by omega) hk
  rwa [List.drop_zero] at this
theorem impl_log_inner (b : Bay) (L : List (List PlL)) (X Y : Int) {l : List PlL} (hl : l.length ≤ 10000000) (d : Nat) : ∀ (k i : Nat), i + d = l.length → impl_logCode.l2 (k + d + 1) L X Y l l.length i b = if (l.drop i).all (inBay b) = true then impl_logCode.l1 k L X (wrap64 (Y + 1)) b else some 2 := by
  induction d with
  | zero =>
    intro k i hi
    rw [Nat.add_zero]
    simp only [impl_logCode.l2]; rw [if_neg (by omega), List.drop_of_length_le (by omega)]; simp
  | succ d ih =>
    intro k i hi
    obtain ⟨K, hK⟩ : ∃ K, K = k + d + 1 := ⟨_, rfl⟩
    rw [show k + (d + 1) + 1 = K + 1 by omega]
    simp only [impl_logCode.l2]; rw [if_pos (by omega), if_pos (by omega), if_pos (by omega), rdP (by omega), impl_place, List.drop_eq_getElem_cons (by omega : i < l.length), List.all_cons]
    simp only [Option.bind_some]
    cases hp : isP b (l[i]'(by omega)).f0 (l[i]'(by omega)).f1
    · simp [inBay, hp]
    · rw [if_pos rfl, wnx (by omega)]; subst hK; rw [ih k (i + 1) (by omega)]; simp [inBay, hp]
end Go.Proofs.Ytdefbflihmkegad.G.PB
end
section
namespace Go.Proofs.Ytdefbflihmkegad.G.PB
open Go.RowKit M Go.Proofs.Ytdefbflihmkegad.PL Go.Proofs.YtdefbflihmkegadW.PrintWords Go.Proofs.YtdefbflihmkegadW.PrintMore
set_option linter.unusedSimpArgs false
set_option linter.unusedVariables false
abbrev Bt := S57
def okB (t : Bt) : Bool := (i8B t.f0.f0 && i8B t.f0.f1) && (i8B t.f1 && (i8B t.f2 && (i8B t.f3 && i8B t.f4)))
def boatS (b : Bay) (t : Bt) : Bool := boatV b t.f0.f0 t.f0.f1 t.f1 t.f2 t.f3 t.f4
theorem okB_b8 {t : Bt} (h : okB t = true) : b8 t.f0.f0 ∧ b8 t.f0.f1 ∧ b8 t.f1 ∧ b8 t.f2 ∧ b8 t.f3 ∧ b8 t.f4 := by
  simp only [okB, Bool.and_eq_true] at h
  exact ⟨i8_bounds h.1.1, i8_bounds h.1.2, i8_bounds h.2.1, i8_bounds h.2.2.1, i8_bounds h.2.2.2.1, i8_bounds h.2.2.2.2⟩
theorem rdB {l : List Bt} {i : Nat} (h : i < l.length) : rd_T57 l (i : Int) = l[i] := by simp [rd_T57, h]
theorem spec_asked_loop {b : Bay} (hb : bayB b = true) {l : List Bt} (hl : l.length ≤ 10000000) (hok : l.all okB = true) (d : Nat) : ∀ (k i : Nat), i + d = l.length → d < k → spec_l01Asked.l0 k l i b = some (if (l.drop i).all (boatS b) = true then (if 10 < l.length then 3 else 0) else 1) := by
  induction d with
  | zero =>
    intro k i hi hk
    obtain ⟨k, rfl⟩ : ∃ m, k = m + 1 := ⟨k - 1, by omega⟩
    simp only [spec_l01Asked.l0]; rw [if_neg (by omega), List.drop_of_length_le (by omega), List.all_nil, if_pos rfl]
    by_cases h : 10 < l.length
    · rw [if_pos (by omega), if_pos h]
    · rw [if_neg (by omega), if_neg h]
  | succ d ih =>
    intro k i hi hk
    obtain ⟨k, rfl⟩ : ∃ m, k = m + 1 := ⟨k - 1, by omega⟩
    have ho := okB_b8 (List.all_eq_true.mp hok _ (List.getElem_mem (by omega : i < l.length)))
    simp only [spec_l01Asked.l0]; rw [if_pos (by omega), if_pos (by omega), rdB (by omega), spec_boat hb ho.1 ho.2.1 ho.2.2.1 ho.2.2.2.1 ho.2.2.2.2.1 ho.2.2.2.2.2, List.drop_eq_getElem_cons (by omega : i < l.length), List.all_cons]
    simp only [Option.bind_some]
    cases hp : boatV b (l[i]'(by omega)).f0.f0 (l[i]'(by omega)).f0.f1 (l[i]'(by omega)).f1 (l[i]'(by omega)).f2 (l[i]'(by omega)).f3 (l[i]'(by omega)).f4
    · simp [boatS, hp]
    · rw [if_pos rfl, wnx (by omega), ih k (i + 1) (by omega) (by omega)]; simp [boatS, hp]
def askedV (b : Bay) (l : List Bt) : Int := if bayB b = true then (if l.all (boatS b) = true then (if 10 < l.length then 3 else 0) else 1) else 1
theorem spec_asked_tells {b : Bay} {l : List Bt} (hl : l.length ≤ 10000000) (hok : l.all okB = true) {k : Nat} (hk : l.length < k) : spec_l01Asked.f k b l = some (askedV b l) := by
  unfold spec_l01Asked.f spec_l01Bay.f askedV
  cases hb : bayB b
  · simp
  · have := spec_asked_loop hb hl hok l.length k 0 (by omega) hk
    rw [List.drop_zero] at this
    simpa using this
end Go.Proofs.Ytdefbflihmkegad.G.PB
end
section
namespace Go.Proofs.Ytdefbflihmkegad.G.PS
open Go.RowKit Go.Proofs.Ytdefbflihmkegad.PL Go.Proofs.YtdefbflihmkegadW.PrintWords
set_option linter.unusedVariables false
set_option linter.unusedSimpArgs false
def convPlace (x : S61) : S55 := ⟨x.f0, x.f1⟩
theorem toPlace_loop (l : List S61) (hl : l.length ≤ 10000000) (d : Nat) : ∀ (k i : Nat) (o : List S55), o.length = l.length → o.take i = (l.map convPlace).take i → i + d = l.length → d < k → laws_toPlaceS.l0 k l o i = some (l.map convPlace) := by
  induction d with
  | zero =>
    intro k i o ho he hi hk
    obtain ⟨k, rfl⟩ : ∃ m, k = m + 1 := ⟨k - 1, by omega⟩
    rw [List.take_of_length_le (by omega), List.take_of_length_le (by rw [List.length_map]; omega)] at he
    simp only [laws_toPlaceS.l0]; rw [if_neg (by omega), he]
  | succ d ih =>
    intro k i o ho he hi hk
    obtain ⟨k, rfl⟩ : ∃ m, k = m + 1 := ⟨k - 1, by omega⟩
    simp only [laws_toPlaceS.l0]; rw [if_pos (by omega), if_pos (by omega)]
    simp only [laws_toPlace.f, Option.bind_some]
    rw [if_pos (by omega), wnx (by omega)]
    refine ih k (i + 1) _ (by rw [List.length_set]; exact ho) ?_ (by omega) (by omega)
    rw [Int.toNat_natCast]
    have e2 : rd_T61 l (i : Int) = l[i]'(by omega) := by simp [rd_T61, show i < l.length by omega]
    simp only [e2]
    rw [List.take_add_one, List.take_set_of_le (Nat.le_refl _), List.getElem?_set_self (by omega), he, List.take_add_one (l := l.map convPlace), List.getElem?_eq_getElem (by rw [List.length_map]; omega), List.getElem_map]
    rfl
theorem toPlace_tells {l : List S61} (hl : l.length ≤ 1048576) {k : Nat} (hk : l.length < k) : laws_toPlaceS.f k l = some (l.map convPlace) := by
  unfold laws_toPlaceS.f
  rw [if_pos (by omega), if_pos (by omega)]
  exact toPlace_loop l (by omega) l.length k 0 _ (by simp) (by simp) (by omega) hk
theorem eqPlace_loop (l : List S55) (hl : l.length ≤ 10000000) (d : Nat) : ∀ (k i : Nat), i + d = l.length → d < k → laws_eqPlaceS.l0 k l l i = some true := by
  induction d with
  | zero =>
    intro k i hi hk
    obtain ⟨k, rfl⟩ : ∃ m, k = m + 1 := ⟨k - 1, by omega⟩
    simp only [laws_eqPlaceS.l0]; rw [if_neg (by omega)]
  | succ d ih =>
    intro k i hi hk
    obtain ⟨k, rfl⟩ : ∃ m, k = m + 1 := ⟨k - 1, by omega⟩
    simp only [laws_eqPlaceS.l0]; rw [if_pos (by omega), if_pos (by omega), if_pos (by omega)]
    simp only [laws_eqPlace.f, if_true, Option.bind_some]
    rw [wnx (by omega)]
    exact ih k (i + 1) (by omega) (by omega)
theorem eqPlace_tells {l : List S55} (hl : l.length ≤ 10000000) {k : Nat} (hk : l.length < k) : laws_eqPlaceS.f k l l = some true := by
  unfold laws_eqPlaceS.f; rw [if_pos rfl]; exact eqPlace_loop l hl l.length k 0 (by omega) hk
end Go.Proofs.Ytdefbflihmkegad.G.PS
end
section
namespace Go.Proofs.Ytdefbflihmkegad.G.PS
open Go.RowKit Go.Proofs.Ytdefbflihmkegad.PL Go.Proofs.YtdefbflihmkegadW.PrintWords Go.Proofs.Ytdefbflihmkegad.G
set_option linter.unusedVariables false
set_option linter.unusedSimpArgs false
abbrev BtL := S63
abbrev BtI := S57
abbrev PcL := S61
abbrev PcI := S55
def convBoat (x : BtL) : BtI := ⟨⟨x.f0.f0, x.f0.f1⟩, x.f1, x.f2, x.f3, x.f4⟩
theorem toBoat_loop (l : List BtL) (hl : l.length ≤ 10000000) (d : Nat) : ∀ (k i : Nat) (o : List BtI), o.length = l.length → o.take i = (l.map convBoat).take i → i + d = l.length → d < k → laws_toBoatS.l0 k l o i = some (l.map convBoat) := by
  induction d with
  | zero =>
    intro k i o ho he hi hk
    obtain ⟨k, rfl⟩ : ∃ m, k = m + 1 := ⟨k - 1, by omega⟩
    rw [List.take_of_length_le (by omega), List.take_of_length_le (by rw [List.length_map]; omega)] at he
    simp only [laws_toBoatS.l0]; rw [if_neg (by omega), he]
  | succ d ih =>
    intro k i o ho he hi hk
    obtain ⟨k, rfl⟩ : ∃ m, k = m + 1 := ⟨k - 1, by omega⟩
    have h : i < l.length := by omega
    simp only [laws_toBoatS.l0, laws_toBoat.f, laws_toPlace.f]; rw [if_pos (by omega), if_pos (by omega)]
    simp only [Option.bind_some]
    rw [if_pos (by omega), wnx (by omega)]
    refine ih k (i + 1) _ (by rw [List.length_set]; exact ho) ?_ (by omega) (by omega)
    rw [Int.toNat_natCast]
    have e2 : rd_T63 l (i : Int) = l[i] := by simp [rd_T63, h]
    simp only [e2]
    rw [List.take_add_one, List.take_set_of_le (Nat.le_refl _), List.getElem?_set_self (by omega), he, List.take_add_one (l := l.map convBoat), List.getElem?_eq_getElem (by rw [List.length_map]; omega), List.getElem_map]
    rfl
theorem toBoat_tells {l : List BtL} (hl : l.length ≤ 1048576) {k : Nat} (hk : l.length < k) : laws_toBoatS.f k l = some (l.map convBoat) := by
  unfold laws_toBoatS.f
  rw [if_pos (by omega), if_pos (by omega)]
  exact toBoat_loop l (by omega) l.length k 0 _ (by simp) (by simp) (by omega) hk
theorem eqBoat_loop (l : List BtI) (hl : l.length ≤ 10000000) (d : Nat) : ∀ (k i : Nat), i + d = l.length → d < k → laws_eqBoatS.l0 k l l i = some true := by
  induction d with
  | zero =>
    intro k i hi hk
    obtain ⟨k, rfl⟩ : ∃ m, k = m + 1 := ⟨k - 1, by omega⟩
    simp only [laws_eqBoatS.l0]; rw [if_neg (by omega)]
  | succ d ih =>
    intro k i hi hk
    obtain ⟨k, rfl⟩ : ∃ m, k = m + 1 := ⟨k - 1, by omega⟩
    simp only [laws_eqBoatS.l0, laws_eqBoat.f, laws_eqPlace.f]; rw [if_pos (by omega), if_pos (by omega), if_pos (by omega)]
    simp only [if_true, Option.bind_some]
    rw [wnx (by omega)]
    exact ih k (i + 1) (by omega) (by omega)
theorem eqBoat_tells {l : List BtI} (hl : l.length ≤ 10000000) {k : Nat} (hk : l.length < k) : laws_eqBoatS.f k l l = some true := by
  unfold laws_eqBoatS.f; rw [if_pos rfl]; exact eqBoat_loop l hl l.length k 0 (by omega) hk
theorem markBoat_loop (L : Nat) (hl : L ≤ 10000000) (d : Nat) : ∀ (k i : Nat) (o : List BtI) (a : Int), o.length = L → 0 ≤ a → a ≤ 1 + 6 * i → i + d = L → d < k → ∃ r, laws_markBoatS.l0 k o a i = some (a + 6 * (d : Int), r) := by
  induction d with
  | zero =>
    intro k i o a ho h0 h1 hi hk
    obtain ⟨k, rfl⟩ : ∃ m, k = m + 1 := ⟨k - 1, by omega⟩
    exact ⟨o, by simp only [laws_markBoatS.l0]; rw [if_neg (by omega)]; simp⟩
  | succ d ih =>
    intro k i o a ho h0 h1 hi hk
    obtain ⟨k, rfl⟩ : ∃ m, k = m + 1 := ⟨k - 1, by omega⟩
    simp only [laws_markBoatS.l0]
    rw [if_pos (by omega), if_pos (by omega)]
    simp only [Option.bind_some]
    have w1 : wrap64 (a + 1) = a + 1 := wsm (by omega) (by omega)
    have w2 : wrap64 (a + 1 + 1) = a + 1 + 1 := wsm (by omega) (by omega)
    have w3 : wrap64 (a + 1 + 1 + 1) = a + 1 + 1 + 1 := wsm (by omega) (by omega)
    have w4 : wrap64 (a + 1 + 1 + 1 + 1) = a + 1 + 1 + 1 + 1 := wsm (by omega) (by omega)
    have w5 : wrap64 (a + 1 + 1 + 1 + 1 + 1) = a + 1 + 1 + 1 + 1 + 1 := wsm (by omega) (by omega)
    have w6 : wrap64 (a + 1 + 1 + 1 + 1 + 1 + 1) = a + 1 + 1 + 1 + 1 + 1 + 1 := wsm (by omega) (by omega)
    simp only [w1, w2, w3, w4, w5, w6]
    rw [wnx (by omega)]
    have key : ∀ o' : List BtI, o'.length = L → ∃ r, laws_markBoatS.l0 k o' (a + 1 + 1 + 1 + 1 + 1 + 1) ((i + 1 : Nat) : Int) = some (a + 6 * ((d + 1 : Nat) : Int), r) := fun o' ho' => by
      obtain ⟨r, e⟩ := ih k (i + 1) o' (a + 1 + 1 + 1 + 1 + 1 + 1) ho' (by omega) (by omega) (by omega) (by omega)
      exact ⟨r, by rw [e]; congr 2; omega⟩
    exact key _ (by simp only [List.length_set]; exact ho)
theorem markBoat_tells {l : List BtI} (hl : l.length ≤ 10000000) {k : Nat} (hk : l.length < k) : ∃ r, laws_markBoatS.f k l 1 = some (1 + 6 * (l.length : Int), r) := markBoat_loop l.length hl l.length k 0 l 1 rfl (by omega) (by omega) (by omega) hk
def totL : List (List PcL) → Nat
  | [] => 0
  | r :: rs => r.length + totL rs
theorem rdL3 {l : List (List PcL)} {i : Nat} (h : i < l.length) : rd_L3 l (i : Int) = l[i] := by simp [rd_L3, h]
theorem rdL9 {l : List (List PcI)} {i : Nat} (h : i < l.length) : rd_L9 l (i : Int) = l[i] := by simp [rd_L9, h]
theorem totL_drop {l : List (List PcL)} {i : Nat} (h : i < l.length) : totL (l.drop i) = l[i].length + totL (l.drop (i + 1)) := by
  rw [List.drop_eq_getElem_cons h]; rfl
theorem len_totL : ∀ (l : List (List PcL)) (r : List PcL), r ∈ l → r.length ≤ totL l
  | [], _, h => by cases h
  | x :: xs, r, h => by
    rcases List.mem_cons.1 h with rfl | h
    · simp [totL]
    · have := len_totL xs r h; simp only [totL]; omega
def convPP (l : List (List PcL)) : List (List PcI) := l.map (fun r => r.map convPlace)
theorem totP_conv : ∀ l : List (List PcL), totP (convPP l) = totL l
  | [] => rfl
  | r :: rs => by
    have := totP_conv rs
    simp only [convPP] at this
    simp only [convPP, List.map_cons, totP, totL, List.length_map]; rw [this]
theorem szPP_loop (l : List (List PcL)) (hlen : ∀ r ∈ l, r.length ≤ 9223372036854775807) (hl : l.length ≤ 1048576) (d : Nat) : ∀ (k i : Nat) (left : Int), 0 ≤ left → left ≤ 1048576 → i + d = l.length → d < k → ∃ r, laws_szPlaceSS.l0 k l left i = some r ∧ (r < 0 ∨ (totL (l.drop i) : Int) ≤ left) := by
  induction d with
  | zero =>
    intro k i left h0 h1 hi hk
    obtain ⟨k, rfl⟩ : ∃ m, k = m + 1 := ⟨k - 1, by omega⟩
    exact ⟨left, by rw [laws_szPlaceSS.l0, if_neg (by omega)], .inr (by rw [List.drop_of_length_le (by omega)]; exact h0)⟩
  | succ d ih =>
    intro k i left h0 h1 hi hk
    obtain ⟨k, rfl⟩ : ∃ m, k = m + 1 := ⟨k - 1, by omega⟩
    have h : i < l.length := by omega
    have hr := hlen _ (List.getElem_mem h)
    have hw : wrap64 (left - (l[i].length : Int)) = left - (l[i].length : Int) := by unfold wrap64; omega
    rw [laws_szPlaceSS.l0, if_pos (by omega), if_pos (by omega), rdL3 h, laws_szPlaceS.f, hw]
    by_cases hn : left - (l[i].length : Int) < 0
    · rw [if_pos hn]
      exact ⟨-1, by simp, .inl (by omega)⟩
    · rw [if_neg hn]
      simp only [Option.bind_some]
      rw [if_neg hn, wnx (by omega)]
      obtain ⟨r, e, hr2⟩ := ih k (i + 1) (left - (l[i].length : Int)) (by omega) (by omega) (by omega) (by omega)
      exact ⟨r, e, hr2.imp id (fun h2 => by rw [totL_drop h]; omega)⟩
theorem szPP_tells {l : List (List PcL)} {left : Int} (h0 : 0 ≤ left) (h1 : left ≤ 1048576) (hlen : ∀ r ∈ l, r.length ≤ 9223372036854775807) (hl : l.length ≤ 9223372036854775807) {k : Nat} (hk : 1048577 < k) : ∃ r, laws_szPlaceSS.f k l left = some r ∧ (r < 0 ∨ (l.length ≤ 1048576 ∧ totL l ≤ 1048576)) := by
  have hw : wrap64 (left - (l.length : Int)) = left - (l.length : Int) := by unfold wrap64; omega
  unfold laws_szPlaceSS.f
  rw [hw]
  by_cases hn : left - (l.length : Int) < 0
  · rw [if_pos hn]; exact ⟨-1, rfl, .inl (by omega)⟩
  · rw [if_neg hn]
    obtain ⟨r, e, h⟩ := szPP_loop l hlen (by omega) l.length k 0 (left - (l.length : Int)) (by omega) (by omega) (by omega) (by omega)
    exact ⟨r, e, h.imp id (fun h => by rw [List.drop_zero] at h; omega)⟩
theorem toPP_loop (l : List (List PcL)) (ht : ∀ r ∈ l, r.length ≤ 1048576) (hl : l.length ≤ 1048576) (d : Nat) : ∀ (k i : Nat) (o : List (List PcI)), o.length = l.length → o.take i = (convPP l).take i → i + d = l.length → d + 1048577 < k → laws_toPlaceSS.l0 k l o i = some (convPP l) := by
  have hcl : (convPP l).length = l.length := by simp [convPP]
  induction d with
  | zero =>
    intro k i o ho he hi hk
    obtain ⟨k, rfl⟩ : ∃ m, k = m + 1 := ⟨k - 1, by omega⟩
    rw [List.take_of_length_le (by omega), List.take_of_length_le (by omega)] at he
    rw [laws_toPlaceSS.l0, if_neg (by omega), he]
  | succ d ih =>
    intro k i o ho he hi hk
    obtain ⟨k, rfl⟩ : ∃ m, k = m + 1 := ⟨k - 1, by omega⟩
    have h : i < l.length := by omega
    have hr := ht _ (List.getElem_mem h)
    rw [laws_toPlaceSS.l0, if_pos (by omega), if_pos (by omega), rdL3 h, toPlace_tells hr (by omega)]
    simp only [Option.bind_some]
    rw [if_pos (by omega), wnx (by omega), Int.toNat_natCast]
    refine ih k (i + 1) _ (by rw [List.length_set]; exact ho) ?_ (by omega) (by omega)
    rw [List.take_add_one, List.take_set_of_le (Nat.le_refl _), List.getElem?_set_self (by omega), he, List.take_add_one (l := convPP l), List.getElem?_eq_getElem (by omega)]
    simp [convPP]
theorem toPP_tells {l : List (List PcL)} (ht : ∀ r ∈ l, r.length ≤ 1048576) (hl : l.length ≤ 1048576) {k : Nat} (hk : l.length + 1048577 < k) : laws_toPlaceSS.f k l = some (convPP l) := by
  unfold laws_toPlaceSS.f
  rw [if_pos (by omega), if_pos (by omega)]
  exact toPP_loop l ht hl l.length k 0 _ (by simp) (by simp) (by omega) hk
theorem eqPP_loop (l : List (List PcI)) (ht : ∀ r ∈ l, r.length ≤ 1048576) (hl : l.length ≤ 1048576) (d : Nat) : ∀ (k i : Nat), i + d = l.length → d + 1048577 < k → laws_eqPlaceSS.l0 k l l i = some true := by
  induction d with
  | zero =>
    intro k i hi hk
    obtain ⟨k, rfl⟩ : ∃ m, k = m + 1 := ⟨k - 1, by omega⟩
    rw [laws_eqPlaceSS.l0, if_neg (by omega)]
  | succ d ih =>
    intro k i hi hk
    obtain ⟨k, rfl⟩ : ∃ m, k = m + 1 := ⟨k - 1, by omega⟩
    have h : i < l.length := by omega
    have hr := ht _ (List.getElem_mem h)
    rw [laws_eqPlaceSS.l0, if_pos (by omega), if_pos (by omega), if_pos (by omega), rdL9 h, eqPlace_tells (by omega) (by omega)]
    simp only [Option.bind_some, if_true]
    rw [wnx (by omega)]
    exact ih k (i + 1) (by omega) (by omega)
theorem eqPP_tells {l : List (List PcI)} (ht : ∀ r ∈ l, r.length ≤ 1048576) (hl : l.length ≤ 1048576) {k : Nat} (hk : l.length + 1048577 < k) : laws_eqPlaceSS.f k l l = some true := by
  unfold laws_eqPlaceSS.f; rw [if_pos rfl]; exact eqPP_loop l ht hl l.length k 0 (by omega) hk
end Go.Proofs.Ytdefbflihmkegad.G.PS
end
section
namespace Go.Proofs.Ytdefbflihmkegad.G.PB
open Go.RowKit M Go.Proofs.Ytdefbflihmkegad.PL Go.Proofs.YtdefbflihmkegadW.PrintWords Go.Proofs.YtdefbflihmkegadW.PrintMore Go.Proofs.Ytdefbflihmkegad.G.PS
set_option linter.unusedSimpArgs false
set_option linter.unusedVariables false
theorem impl_asked_loop {b : Bay} (hb : bayB b = true) {l : List Bt} (hl : l.length ≤ 10000000) (d : Nat) : ∀ (k i : Nat), i + d = l.length → d < k → impl_boatsCode.l0 k l l l.length i b = some (if (l.drop i).all (boatS b) = true then (if 10 < l.length then 3 else 0) else 1) := by
  induction d with
  | zero =>
    intro k i hi hk
    obtain ⟨k, rfl⟩ : ∃ m, k = m + 1 := ⟨k - 1, by omega⟩
    simp only [impl_boatsCode.l0]; rw [if_neg (by omega), List.drop_of_length_le (by omega), List.all_nil, if_pos rfl]
    by_cases h : 10 < l.length
    · rw [if_pos (by omega), if_pos h]
    · rw [if_neg (by omega), if_neg h]
  | succ d ih =>
    intro k i hi hk
    obtain ⟨k, rfl⟩ : ∃ m, k = m + 1 := ⟨k - 1, by omega⟩
    simp only [impl_boatsCode.l0]; rw [if_pos (by omega), if_pos (by omega), if_pos (by omega), rdB (by omega), impl_boat hb, List.drop_eq_getElem_cons (by omega : i < l.length), List.all_cons]
    simp only [Option.bind_some]
    cases hp : boatV b (l[i]'(by omega)).f0.f0 (l[i]'(by omega)).f0.f1 (l[i]'(by omega)).f1 (l[i]'(by omega)).f2 (l[i]'(by omega)).f3 (l[i]'(by omega)).f4
    · simp [boatS, hp]
    · rw [if_pos rfl, wnx (by omega), ih k (i + 1) (by omega) (by omega)]; simp [boatS, hp]
theorem impl_asked_tells {b : Bay} {l : List Bt} (hl : l.length ≤ 10000000) {k : Nat} (hk : l.length < k) : impl_boatsCode.f k b l = some (askedV b l) := by
  unfold impl_boatsCode.f impl_ValidBay.f askedV
  cases hb : bayB b
  · simp
  · have := impl_asked_loop hb hl l.length k 0 (by omega) hk
    rw [List.drop_zero] at this
    simpa using this
def limB (l : List PlL) : Bool := decide (48 < l.length)
def inAll (b : Bay) (l : List PlL) : Bool := l.all (inBay b)
def cstP : List (List PlL) → Nat
  | [] => 1
  | r :: rs => r.length + 2 + cstP rs
theorem cstP_drop {l : List (List PlL)} {i : Nat} (h : i < l.length) : cstP (l.drop i) = l[i].length + 2 + cstP (l.drop (i + 1)) := by
  rw [List.drop_eq_getElem_cons h]; rfl
theorem cstP_tot : ∀ (l : List (List PlL)), cstP l = totP l + 2 * l.length + 1
  | [] => rfl
  | r :: rs => by rw [cstP, cstP_tot rs, totP, List.length_cons]; omega
theorem len_totP : ∀ (l : List (List PlL)) (r : List PlL), r ∈ l → r.length ≤ totP l
  | [], _, h => by cases h
  | x :: xs, r, h => by
    rcases List.mem_cons.1 h with rfl | h
    · simp [totP]
    · have := len_totP xs r h; simp only [totP]; omega
structure LogsOk (L : List (List PlL)) : Prop where
  len : L.length ≤ 1048576
  tot : totP L ≤ 1048576
  ok : ∀ l ∈ L, l.all okP = true
theorem LogsOk.at {L : List (List PlL)} (h : LogsOk L) {i : Nat} (hi : i < L.length) : L[i].length ≤ 1048576 ∧ L[i].all okP = true := ⟨Nat.le_trans (len_totP L _ (List.getElem_mem hi)) h.tot, h.ok _ (List.getElem_mem hi)⟩
theorem impl_logs1 (b : Bay) {L : List (List PlL)} (h : LogsOk L) (d : Nat) : ∀ (k i : Nat), i + d = L.length → cstP (L.drop i) ≤ k → impl_logCode.l1 k L L.length i b = some (if (L.drop i).all (inAll b) = true then 0 else 2) := by
  have hl := h.len
  induction d with
  | zero =>
    intro k i hi hk
    rw [List.drop_of_length_le (by omega)] at hk ⊢
    obtain ⟨k, rfl⟩ : ∃ m, k = m + 1 := ⟨k - 1, by simp only [cstP] at hk; omega⟩
    simp only [impl_logCode.l1]; rw [if_neg (by omega)]; rfl
  | succ d ih =>
    intro k i hi hk
    have hx : i < L.length := by omega
    rw [cstP_drop hx] at hk
    obtain ⟨k, rfl⟩ : ∃ m, k = m + L[i].length + 1 + 1 := ⟨k - (L[i].length + 2), by omega⟩
    simp only [impl_logCode.l1]; rw [if_pos (by omega), if_pos (by omega), if_pos (by omega), rdL9 hx, List.drop_eq_getElem_cons hx, List.all_cons]
    have := impl_log_inner b L (L.length : Int) (i : Int) (l := L[i]) (by have := (h.at hx).1; omega) L[i].length k 0 (by omega)
    rw [show (0 : Int) = ((0 : Nat) : Int) from rfl, this, List.drop_zero, wnx (by omega)]
    cases ha : L[i].all (inBay b)
    · simp [inAll, ha]
    · rw [if_pos rfl, ih k (i + 1) (by omega) (by omega)]; simp [inAll, ha]
theorem impl_logs0 (b : Bay) {L : List (List PlL)} (h : LogsOk L) (d : Nat) : ∀ (k i : Nat), i + d = L.length → d + 4000000 < k → impl_logCode.l0 k L L L.length i b = some (if (L.drop i).any limB = true then 3 else if L.all (inAll b) = true then 0 else 2) := by
  have hl := h.len
  have ht := h.tot
  induction d with
  | zero =>
    intro k i hi hk
    obtain ⟨k, rfl⟩ : ∃ m, k = m + 1 := ⟨k - 1, by omega⟩
    have := impl_logs1 b h L.length k 0 (by omega) (by rw [List.drop_zero, cstP_tot]; omega)
    rw [List.drop_zero, show ((0 : Nat) : Int) = 0 from rfl] at this
    simp only [impl_logCode.l0]; rw [if_neg (by omega), this, List.drop_of_length_le (by omega)]; rfl
  | succ d ih =>
    intro k i hi hk
    obtain ⟨k, rfl⟩ : ∃ m, k = m + 1 := ⟨k - 1, by omega⟩
    have hx : i < L.length := by omega
    simp only [impl_logCode.l0]; rw [if_pos (by omega), if_pos (by omega), if_pos (by omega), rdL9 hx, List.drop_eq_getElem_cons hx, List.any_cons]
    by_cases h48 : 48 < L[i].length
    · rw [if_pos (by omega)]; simp [limB, h48]
    · rw [if_neg (by omega), wnx (by omega), ih k (i + 1) (by omega) (by omega)]; simp [limB, h48]
theorem impl_logs_tells (b : Bay) {L : List (List PlL)} (h : LogsOk L) {k : Nat} (hk : 6000000 < k) : impl_logCode.f k b L = some (if L.any limB = true then 3 else if L.all (inAll b) = true then 0 else 2) := by
  have hl := h.len
  have := impl_logs0 b h L.length k 0 (by omega) (by omega)
  rwa [List.drop_zero] at this
def reachN (b : Bay) (t : Bt) : Bool := decide (reachV b t.f0.f0 t.f0.f1 t.f1 < 0)
def offB (b : Bay) (t : Bt) (l : List PlL) : Int := offV b t.f0.f0 t.f0.f1 t.f1 t.f2 l
def zB : Bt := ⟨⟨0, 0⟩, 0, 0, 0, 0⟩
def outD (b : Bay) (B : List Bt) (L : List (List PlL)) : Nat → Nat → List Int → List Int
  | 0, _, acc => acc
  | d + 1, i, acc => outD b B L d (i + 1) (if 0 ≤ offB b (B.getD i zB) (L.getD i []) then acc ++ [(i : Int)] else acc)
theorem outD_length (b : Bay) (B : List Bt) (L : List (List PlL)) : ∀ (d i : Nat) (acc : List Int), (outD b B L d i acc).length ≤ acc.length + d
  | 0, _, acc => by simp [outD]
  | d + 1, i, acc => by
    rw [outD]
    refine Nat.le_trans (outD_length b B L d (i + 1) _) ?_
    split <;> simp <;> omega
structure Fine (b : Bay) (B : List Bt) (L : List (List PlL)) : Prop where
  bay : bayB b = true
  boats : B.all (boatS b) = true
  blen : B.length ≤ 1048576
  logs : LogsOk L
theorem Fine.boat {b : Bay} {B : List Bt} {L : List (List PlL)} (h : Fine b B L) {i : Nat} (hi : i < B.length) : boatV b B[i].f0.f0 B[i].f0.f1 B[i].f1 B[i].f2 B[i].f3 B[i].f4 = true := List.all_eq_true.mp h.boats _ (List.getElem_mem hi)
theorem impl_out {b : Bay} {B : List Bt} {L : List (List PlL)} (h : Fine b B L) (he : L.length = B.length) (d : Nat) : ∀ (k i : Nat) (acc : List Int), i + d = B.length → acc.length ≤ i → d + 2000000 < k → impl_DraggedOf.l1 k L acc B B.length i b = some (outD b B L d i acc, 0) := by
  have hb := h.blen
  induction d with
  | zero =>
    intro k i acc hi ha hk
    obtain ⟨k, rfl⟩ : ∃ m, k = m + 1 := ⟨k - 1, by omega⟩
    simp only [impl_DraggedOf.l1]; rw [if_neg (by omega), outD]
  | succ d ih =>
    intro k i acc hi ha hk
    obtain ⟨k, rfl⟩ : ∃ m, k = m + 1 := ⟨k - 1, by omega⟩
    have hx : i < B.length := by omega
    have hy : i < L.length := by omega
    obtain ⟨l1, l2⟩ := h.logs.at hy
    simp only [impl_DraggedOf.l1]
    rw [if_pos (by omega), if_pos (by omega), if_pos (by omega), if_pos (by omega), rdB hx, rdL9 hy, impl_off_tells h.bay (h.boat hx) (by omega) l2 (by omega) (by omega)]
    simp only [Option.bind_some]
    rw [outD, show B.getD i zB = B[i] by simp [hx], show L.getD i [] = L[i] by simp [hy]]
    by_cases ho : 0 ≤ offB b B[i] L[i]
    · rw [if_pos (show offV b B[i].f0.f0 B[i].f0.f1 B[i].f1 B[i].f2 L[i] ≥ 0 from ho), if_pos (by omega), if_pos ho, wnx (by omega), ih k (i + 1) _ (by omega) (by simp; omega) (by omega)]
    · rw [if_neg (show ¬ offV b B[i].f0.f0 B[i].f0.f1 B[i].f1 B[i].f2 L[i] ≥ 0 from ho), if_neg ho, wnx (by omega), ih k (i + 1) _ (by omega) (by omega) (by omega)]
theorem spec_out {b : Bay} {B : List Bt} {L : List (List PlL)} (h : Fine b B L) (he : L.length = B.length) (d : Nat) : ∀ (k i : Nat) (acc : List Int), i + d = B.length → acc.length ≤ i → d + 2000000 < k → spec_DraggedOf.l3 k B L acc i b = some (outD b B L d i acc, 0) := by
  have hb := h.blen
  induction d with
  | zero =>
    intro k i acc hi ha hk
    obtain ⟨k, rfl⟩ : ∃ m, k = m + 1 := ⟨k - 1, by omega⟩
    rw [spec_DraggedOf.l3, if_neg (by omega), outD]
  | succ d ih =>
    intro k i acc hi ha hk
    obtain ⟨k, rfl⟩ : ∃ m, k = m + 1 := ⟨k - 1, by omega⟩
    have hx : i < B.length := by omega
    have hy : i < L.length := by omega
    obtain ⟨l1, l2⟩ := h.logs.at hy
    rw [spec_DraggedOf.l3, if_pos (by omega), if_pos (by omega), if_pos (by omega), rdB hx, rdL9 hy, spec_off_tells h.bay (h.boat hx) (by omega) l2 (by omega) (by omega)]
    simp only [Option.bind_some]
    rw [outD, show B.getD i zB = B[i] by simp [hx], show L.getD i [] = L[i] by simp [hy]]
    by_cases ho : 0 ≤ offB b B[i] L[i]
    · rw [if_pos (show offV b B[i].f0.f0 B[i].f0.f1 B[i].f1 B[i].f2 L[i] ≥ 0 from ho), if_pos (by omega), if_pos ho, wnx (by omega), ih k (i + 1) _ (by omega) (by simp; omega) (by omega)]
    · rw [if_neg (show ¬ offV b B[i].f0.f0 B[i].f0.f1 B[i].f1 B[i].f2 L[i] ≥ 0 from ho), if_neg ho, wnx (by omega), ih k (i + 1) _ (by omega) (by omega) (by omega)]
def lastV (b : Bay) (B : List Bt) (L : List (List PlL)) : List Int × Int := if B.any (reachN b) = true then ([], 4) else (outD b B L B.length 0 [], 0)
theorem impl_reach {b : Bay} {B : List Bt} {L : List (List PlL)} (h : Fine b B L) (he : L.length = B.length) (d : Nat) : ∀ (k i : Nat), i + d = B.length → d + 5000000 < k → impl_DraggedOf.l0 k B L B B.length i b = some (if (B.drop i).any (reachN b) = true then ([], 4) else (outD b B L B.length 0 [], 0)) := by
  have hb := h.blen
  induction d with
  | zero =>
    intro k i hi hk
    obtain ⟨k, rfl⟩ : ∃ m, k = m + 1 := ⟨k - 1, by omega⟩
    have := impl_out h he B.length k 0 [] (by omega) (by simp) (by omega)
    rw [show ((0 : Nat) : Int) = 0 from rfl] at this
    simp only [impl_DraggedOf.l0]; rw [if_neg (by omega), this, List.drop_of_length_le (by omega)]; rfl
  | succ d ih =>
    intro k i hi hk
    obtain ⟨k, rfl⟩ : ∃ m, k = m + 1 := ⟨k - 1, by omega⟩
    have hx : i < B.length := by omega
    simp only [impl_DraggedOf.l0]; rw [if_pos (by omega), if_pos (by omega), if_pos (by omega), rdB hx, (boat_reach h.bay (h.boat hx) (by omega)).1, List.drop_eq_getElem_cons hx, List.any_cons]
    simp only [Option.bind_some]
    by_cases hr : reachV b B[i].f0.f0 B[i].f0.f1 B[i].f1 < 0
    · rw [if_pos hr]; simp [reachN, hr]
    · rw [if_neg hr, wnx (by omega), ih k (i + 1) (by omega) (by omega)]; simp [reachN, hr]
theorem spec_c2 (b : Bay) (B : List Bt) (L : List (List PlL)) {c : Int} (hc : c ≠ 0) (k : Nat) (x : Int) (hk : 2 < k) : spec_DraggedOf.l2 k B L [] c x b = some ([], c) := by
  obtain ⟨k, rfl⟩ : ∃ m, k = m + 1 + 1 := ⟨k - 2, by omega⟩
  have e : (c == 0) = false := beq_eq_false_iff_ne.2 hc
  rw [spec_DraggedOf.l2, e, ite_self, spec_DraggedOf.j7, if_neg (by decide), if_neg hc]
theorem spec_c1 (b : Bay) (B : List Bt) (L : List (List PlL)) {c : Int} (hc : c ≠ 0) (k : Nat) (x : Int) (hk : 5 < k) : spec_DraggedOf.l1 k B L [] c x b = some ([], c) := by
  obtain ⟨k, rfl⟩ : ∃ m, k = m + 1 + 1 := ⟨k - 2, by omega⟩
  have e : (c == 0) = false := beq_eq_false_iff_ne.2 hc
  rw [spec_DraggedOf.l1, e, ite_self, spec_DraggedOf.j5, if_neg (by decide), spec_c2 b B L hc k 0 (by omega)]
theorem spec_c0 (b : Bay) (B : List Bt) (L : List (List PlL)) {c : Int} (hc : c ≠ 0) (k : Nat) (x : Int) (hk : 10 < k) : spec_DraggedOf.l0 k B L [] c x b = some ([], c) := by
  obtain ⟨k, rfl⟩ : ∃ m, k = m + 1 + 1 + 1 + 1 := ⟨k - 4, by omega⟩
  have e : (c == 0) = false := beq_eq_false_iff_ne.2 hc
  rw [spec_DraggedOf.l0, e, ite_self, spec_DraggedOf.j1, if_neg (by decide), if_neg hc, spec_DraggedOf.j2, if_neg (by decide), spec_DraggedOf.j3, spec_c1 b B L hc k 0 (by omega)]
theorem spec_reachL {b : Bay} {B : List Bt} {L : List (List PlL)} (h : Fine b B L) (he : L.length = B.length) (d : Nat) : ∀ (k i : Nat), i + d = B.length → 2 * d + 5000000 < k → spec_DraggedOf.l2 k B L [] 0 i b = some (if (B.drop i).any (reachN b) = true then ([], 4) else (outD b B L B.length 0 [], 0)) := by
  have hb := h.blen
  induction d with
  | zero =>
    intro k i hi hk
    obtain ⟨k, rfl⟩ : ∃ m, k = m + 1 + 1 := ⟨k - 2, by omega⟩
    have := spec_out h he B.length k 0 [] (by omega) (by simp) (by omega)
    rw [show ((0 : Nat) : Int) = 0 from rfl] at this
    rw [spec_DraggedOf.l2, if_neg (by omega), spec_DraggedOf.j7, if_neg (by decide), if_pos rfl, this, List.drop_of_length_le (by omega)]; rfl
  | succ d ih =>
    intro k i hi hk
    obtain ⟨k, rfl⟩ : ∃ m, k = m + 1 + 1 := ⟨k - 2, by omega⟩
    have hx : i < B.length := by omega
    rw [spec_DraggedOf.l2, if_pos (by omega), spec_DraggedOf.j7, if_pos (by decide), if_pos (by omega), if_pos (by omega), rdB hx, (boat_reach h.bay (h.boat hx) (by omega)).2, List.drop_eq_getElem_cons hx, List.any_cons]
    simp only [Option.bind_some]
    by_cases hr : reachV b B[i].f0.f0 B[i].f0.f1 B[i].f1 < 0
    · rw [if_pos hr, spec_c2 b B L (by decide) k _ (by omega)]; simp [reachN, hr]
    · rw [if_neg hr, wnx (by omega), ih k (i + 1) (by omega) (by omega)]; simp [reachN, hr]
theorem spec_logsL {b : Bay} {B : List Bt} {L : List (List PlL)} (h : Fine b B L) (he : L.length = B.length) (d : Nat) : ∀ (k i : Nat), i + d = L.length → 2 * d + 8000000 < k → spec_DraggedOf.l1 k B L [] 0 i b = some (if (L.drop i).all (inAll b) = true then lastV b B L else ([], 2)) := by
  have hb := h.blen
  induction d with
  | zero =>
    intro k i hi hk
    obtain ⟨k, rfl⟩ : ∃ m, k = m + 1 + 1 := ⟨k - 2, by omega⟩
    have := spec_reachL h he B.length k 0 (by omega) (by omega)
    rw [List.drop_zero, show ((0 : Nat) : Int) = 0 from rfl] at this
    rw [spec_DraggedOf.l1, if_neg (by omega), spec_DraggedOf.j5, if_neg (by decide), this, List.drop_of_length_le (by omega)]; rfl
  | succ d ih =>
    intro k i hi hk
    obtain ⟨k, rfl⟩ : ∃ m, k = m + 1 + 1 := ⟨k - 2, by omega⟩
    have hx : i < L.length := by omega
    obtain ⟨l1, l2⟩ := h.logs.at hx
    rw [spec_DraggedOf.l1, if_pos (by omega), spec_DraggedOf.j5, if_pos (by decide), if_pos (by omega), if_pos (by omega), rdL9 hx, spec_log_tells b (by omega) l2 (by omega), List.drop_eq_getElem_cons hx, List.all_cons]
    simp only [Option.bind_some]
    rw [wnx (by omega)]
    cases ha : L[i].all (inBay b)
    · rw [if_neg (by decide), spec_c1 b B L (by decide) k _ (by omega)]; simp [inAll, ha]
    · rw [if_pos rfl, ih k (i + 1) (by omega) (by omega)]; simp [inAll, ha]
def restV (b : Bay) (B : List Bt) (L : List (List PlL)) : List Int × Int := if L.length = B.length then (if L.all (inAll b) = true then lastV b B L else ([], 2)) else ([], 2)
theorem spec_limL {b : Bay} {B : List Bt} {L : List (List PlL)} (h : Fine b B L) (d : Nat) : ∀ (k i : Nat), i + d = L.length → 2 * d + 12000000 < k → spec_DraggedOf.l0 k B L [] 0 i b = some (if (L.drop i).any limB = true then ([], 3) else restV b B L) := by
  have hb := h.blen
  have hl := h.logs.len
  induction d with
  | zero =>
    intro k i hi hk
    obtain ⟨k, rfl⟩ : ∃ m, k = m + 1 + 1 + 1 + 1 := ⟨k - 4, by omega⟩
    rw [spec_DraggedOf.l0, if_neg (by omega), spec_DraggedOf.j1, if_neg (by decide), if_pos rfl, spec_DraggedOf.j2, List.drop_of_length_le (by omega), List.any_nil, if_neg (show ¬ (false = true) by decide)]
    unfold restV
    by_cases he : L.length = B.length
    · have := spec_logsL h he L.length k 0 (by omega) (by omega)
      rw [List.drop_zero, show ((0 : Nat) : Int) = 0 from rfl] at this
      rw [if_neg (by simp [he]), spec_DraggedOf.j3, this, if_pos he]
    · rw [if_pos (by rw [bne_iff_ne]; omega), spec_DraggedOf.j3, spec_c1 b B L (by decide) k 0 (by omega), if_neg he]
  | succ d ih =>
    intro k i hi hk
    obtain ⟨k, rfl⟩ : ∃ m, k = m + 1 + 1 := ⟨k - 2, by omega⟩
    have hx : i < L.length := by omega
    rw [spec_DraggedOf.l0, if_pos (by omega), spec_DraggedOf.j1, if_pos (by decide), if_pos (by omega), if_pos (by omega), rdL9 hx, List.drop_eq_getElem_cons hx, List.any_cons, wnx (by omega)]
    by_cases h48 : 48 < L[i].length
    · rw [if_pos (by omega), spec_c0 b B L (by decide) k _ (by omega)]; simp [limB, h48]
    · rw [if_neg (by omega), ih k (i + 1) (by omega) (by omega)]; simp [limB, h48]
def draggedV (b : Bay) (B : List Bt) (L : List (List PlL)) : List Int × Int := if askedV b B = 0 then (if L.any limB = true then ([], 3) else restV b B L) else ([], askedV b B)
theorem draggedV_length (b : Bay) (B : List Bt) (L : List (List PlL)) : (draggedV b B L).1.length ≤ B.length := by
  unfold draggedV restV lastV
  repeat' split
  all_goals first | (simp; done) | exact Nat.le_trans (outD_length b B L _ _ _) (by simp)
theorem asked_fine {b : Bay} {B : List Bt} {L : List (List PlL)} (hB : B.length ≤ 1048576) (hL : LogsOk L) (h : askedV b B = 0) : Fine b B L := by
  unfold askedV at h
  cases hb : bayB b
  · simp [hb] at h
  · cases ha : B.all (boatS b)
    · simp [hb, ha] at h
    · exact ⟨hb, ha, hB, hL⟩
theorem spec_tellsD {b : Bay} {B : List Bt} {L : List (List PlL)} (hB : B.length ≤ 1048576) (hBo : B.all okB = true) (hL : LogsOk L) {k : Nat} (hk : 16000000 < k) : spec_DraggedOf.f k b B L = some (draggedV b B L) := by
  have hl := hL.len
  unfold spec_DraggedOf.f draggedV
  rw [spec_asked_tells (by omega) hBo (by omega)]
  simp only [Option.bind_some]
  by_cases ha : askedV b B = 0
  · have := spec_limL (asked_fine hB hL ha) L.length k 0 (by omega) (by omega)
    rw [List.drop_zero, show ((0 : Nat) : Int) = 0 from rfl] at this
    rw [if_pos ha, ha, this]
  · rw [if_neg ha, spec_c0 b B L ha k 0 (by omega)]
theorem impl_tellsD {b : Bay} {B : List Bt} {L : List (List PlL)} (hB : B.length ≤ 1048576) (hL : LogsOk L) {k : Nat} (hk : 16000000 < k) : impl_DraggedOf.f k b B L = some (draggedV b B L) := by
  have hl := hL.len
  unfold impl_DraggedOf.f draggedV
  rw [impl_asked_tells (by omega) (by omega)]
  simp only [Option.bind_some]
  by_cases ha : askedV b B = 0
  · rw [if_pos ha, if_pos ha, impl_logs_tells b hL (by omega)]
    simp only [Option.bind_some]
    cases hm : L.any limB
    · cases hi : L.all (inAll b)
      · rw [if_neg (by decide), if_neg (by decide), if_neg (by decide), if_neg (by decide), restV, hi]; simp
      · have e0 : (if (false = true) then (([] : List Int), (3 : Int)) else restV b B L) = restV b B L := if_neg (by decide)
        rw [if_pos (by decide), e0, restV, hi]
        by_cases he : L.length = B.length
        · have := impl_reach (asked_fine hB hL ha) he B.length k 0 (by omega) (by omega)
          rw [List.drop_zero, show ((0 : Nat) : Int) = 0 from rfl] at this
          rw [if_pos (by omega), this, if_pos he, if_pos rfl]; rfl
        · rw [if_neg (by omega), if_neg he]
    · rw [if_pos rfl, if_neg (by decide), if_pos rfl]
  · rw [if_neg ha, if_neg ha]
end Go.Proofs.Ytdefbflihmkegad.G.PB
end
section
namespace Go.Proofs.Ytdefbflihmkegad.G.PB
open Go.RowKit M Go.Proofs.Ytdefbflihmkegad.PL Go.Proofs.Ytdefbflihmkegad.G.PS Go.Proofs.YtdefbflihmkegadW.PrintWords
set_option linter.unusedSimpArgs false
set_option linter.unusedVariables false
theorem places_ok {l : List S61} (h : ∀ x ∈ l, ∃ z : Nat → Int, x = (⟨z 0, z 1⟩ : S61) ∧ ∀ j, j < 2 → (Lit.int (([.i8, .i8] : List IntKind).getD j .i64) (z j)).wf = true) : (l.map convPlace).all okP = true := by
  rw [List.all_eq_true]
  intro y hy
  rw [List.mem_map] at hy
  obtain ⟨x, hx, rfl⟩ := hy
  obtain ⟨z, rfl, hz⟩ := h x hx
  simp [okP, convPlace, i8_wf (hz 0 (by omega)), i8_wf (hz 1 (by omega))]
theorem sz_tellsP {n : Nat} (h : n ≤ 9223372036854775807) : wrap64 (1048576 - (n : Int)) = 1048576 - (n : Int) := by unfold wrap64; omega
end Go.Proofs.Ytdefbflihmkegad.G.PB
end
section
namespace Go.Proofs.Ytdefbflihmkegad.G.PS
open Go.RowKit Go.Proofs.Ytdefbflihmkegad.PL Go.Proofs.YtdefbflihmkegadW.PrintWords
set_option linter.unusedVariables false
set_option linter.unusedSimpArgs false
theorem eqInt64_loop (l : List Int) (hl : l.length ≤ 10000000) (d : Nat) : ∀ (k i : Nat), i + d = l.length → d < k → laws_eqInt64S.l0 k l l i = some true := by
  induction d with
  | zero =>
    intro k i hi hk
    obtain ⟨k, rfl⟩ : ∃ m, k = m + 1 := ⟨k - 1, by omega⟩
    simp only [laws_eqInt64S.l0]; rw [if_neg (by omega)]
  | succ d ih =>
    intro k i hi hk
    obtain ⟨k, rfl⟩ : ∃ m, k = m + 1 := ⟨k - 1, by omega⟩
    simp only [laws_eqInt64S.l0]; rw [if_pos (by omega), if_pos (by omega), if_pos (by omega)]
    rw [if_pos trivial, wnx (by omega)]
    exact ih k (i + 1) (by omega) (by omega)
theorem eqInt64_tells {l : List Int} (hl : l.length ≤ 10000000) {k : Nat} (hk : l.length < k) : laws_eqInt64S.f k l l = some true := by
  unfold laws_eqInt64S.f; rw [if_pos rfl]; exact eqInt64_loop l hl l.length k 0 (by omega) hk
end Go.Proofs.Ytdefbflihmkegad.G.PS
end
section
namespace Go.Proofs.Ytdefbflihmkegad.G.PS
open Go.RowKit Go.Proofs.Ytdefbflihmkegad.PL Go.Proofs.YtdefbflihmkegadW.PrintWords
set_option linter.unusedVariables false
set_option linter.unusedSimpArgs false
def ups (m : Nat) : List Int := (List.range m).map fun (i : Nat) => 1 + (i : Int)
theorem ups_succ (m : Nat) : ups (m + 1) = ups m ++ [1 + (m : Int)] := by simp [ups, List.range_succ]
theorem ups_length (m : Nat) : (ups m).length = m := by simp [ups]
theorem markI_loop (l : List Int) (hl : l.length ≤ 10000000) (d : Nat) : ∀ (k i : Nat), i + d = l.length → d < k → laws_markInt64S.l0 k (ups i ++ l.drop i) (1 + i) i = some (1 + (l.length : Int), ups l.length) := by
  induction d with
  | zero =>
    intro k i hi hk
    obtain ⟨k, rfl⟩ : ∃ m, k = m + 1 := ⟨k - 1, by omega⟩
    have e : i = l.length := by omega
    subst e
    simp only [laws_markInt64S.l0]; rw [if_neg (by simp [ups_length])]; simp
  | succ d ih =>
    intro k i hi hk
    obtain ⟨k, rfl⟩ : ∃ m, k = m + 1 := ⟨k - 1, by omega⟩
    have hlen : (ups i ++ l.drop i).length = l.length := by simp [ups_length]; omega
    have hset : (ups i ++ l.drop i).set ((i : Int)).toNat (1 + i) = ups (i + 1) ++ l.drop (i + 1) := by
      rw [Int.toNat_natCast, List.set_append_right _ _ (by rw [ups_length]; omega), ups_length, Nat.sub_self, List.drop_eq_getElem_cons (by omega : i < l.length), List.set_cons_zero, ups_succ, List.append_assoc]
      rfl
    simp only [laws_markInt64S.l0]; rw [hlen, if_pos (by omega), if_pos (by omega), hset, wnx (by omega), wsm (by omega) (by omega)]
    have := ih k (i + 1) (by omega) (by omega)
    rw [show (1 : Int) + i + 1 = 1 + ((i + 1 : Nat) : Int) by omega]
    exact this
theorem markI_tells {l : List Int} (hl : l.length ≤ 10000000) {k : Nat} (hk : l.length < k) : laws_markInt64S.f k l 1 = some (1 + (l.length : Int), ups l.length) := by
  have := markI_loop l hl l.length k 0 (by omega) hk
  simpa [ups, laws_markInt64S.f] using this
theorem heldI_loop (m : Nat) (hl : m ≤ 10000000) (d : Nat) : ∀ (k i : Nat), i + d = m → d < k → laws_heldInt64S.l0 k (ups m) (1 + i) i = some (1 + (m : Int)) := by
  induction d with
  | zero =>
    intro k i hi hk
    obtain ⟨k, rfl⟩ : ∃ m, k = m + 1 := ⟨k - 1, by omega⟩
    simp only [laws_heldInt64S.l0]; rw [if_neg (by rw [ups_length]; omega)]; simp; omega
  | succ d ih =>
    intro k i hi hk
    obtain ⟨k, rfl⟩ : ∃ m, k = m + 1 := ⟨k - 1, by omega⟩
    have hr : rd (ups m) (i : Int) = 1 + i := by rw [rd_at (by rw [ups_length]; omega)]; simp [ups]
    simp only [laws_heldInt64S.l0]; rw [if_pos (by rw [ups_length]; omega), if_pos (by omega), hr, if_pos rfl, wnx (by omega), wsm (by omega) (by omega)]
    have := ih k (i + 1) (by omega) (by omega)
    rw [show (1 : Int) + i + 1 = 1 + ((i + 1 : Nat) : Int) by omega]
    exact this
theorem heldI_tells {m : Nat} (hl : m ≤ 10000000) {k : Nat} (hk : m < k) : laws_heldInt64S.f k (ups m) 1 = some (1 + (m : Int)) := by
  have := heldI_loop m hl m k 0 (by omega) hk
  simpa [laws_heldInt64S.f] using this
end Go.Proofs.Ytdefbflihmkegad.G.PS
end
section
namespace Go.Proofs.Ytdefbflihmkegad.G.Pure
open Go.RowKit M Go.Proofs.Ytdefbflihmkegad.PL Go.Proofs.Ytdefbflihmkegad.G.PB Go.Proofs.Ytdefbflihmkegad.G.PS
set_option linter.unusedSimpArgs false
set_option linter.unusedVariables false
theorem boats_ok {l : List BtL} (h : ∀ x ∈ l, ∃ z : Nat → Int, x = (⟨(⟨z 0, z 1⟩ : S61), z 2, z 3, z 4, z 5⟩ : BtL) ∧ ∀ j, j < 6 → (Lit.int (([.i8, .i8, .i8, .i8, .i8, .i8] : List IntKind).getD j .i64) (z j)).wf = true) : (l.map convBoat).all okB = true := by
  rw [List.all_eq_true]
  intro y hy
  rw [List.mem_map] at hy
  obtain ⟨x, hx, rfl⟩ := hy
  obtain ⟨z, rfl, hz⟩ := h x hx
  simp [okB, convBoat, i8_wf (hz 0 (by omega)), i8_wf (hz 1 (by omega)), i8_wf (hz 2 (by omega)), i8_wf (hz 3 (by omega)), i8_wf (hz 4 (by omega)), i8_wf (hz 5 (by omega))]
theorem FnExactDraggedOf : ∀ (o0 : O26) (l1 : List S63) (l2 : List (List S61)), l1.length ≤ 9223372036854775807 → (∀ x ∈ l1, ∃ z : Nat → Int, x = (⟨(⟨z 0, z 1⟩ : S61), z 2, z 3, z 4, z 5⟩ : S63) ∧ ∀ j, j < 6 → (Lit.int (([.i8, .i8, .i8, .i8, .i8, .i8] : List IntKind).getD j .i64) (z j)).wf = true) → l2.length ≤ 9223372036854775807 → (∀ y ∈ l2, y.length ≤ 9223372036854775807 ∧ ∀ x ∈ y, ∃ z : Nat → Int, x = (⟨z 0, z 1⟩ : S61) ∧ ∀ j, j < 2 → (Lit.int (([.i8, .i8] : List IntKind).getD j .i64) (z j)).wf = true) → ∃ k, laws_FnExactDraggedOf.f k o0 l1 l2 = some true := by
  intro b l m hl hlx hm hmx
  have hok := boats_ok hlx
  have hokp : ∀ r ∈ convPP m, r.all okP = true := by
    intro r hr
    simp only [convPP, List.mem_map] at hr
    obtain ⟨y, hy, rfl⟩ := hr
    exact places_ok (hmx y hy).2
  unfold laws_FnExactDraggedOf.f laws_szBoatS.f
  rw [sz_tellsP hl]
  by_cases hbig : (1048576 : Int) - (l.length : Int) < 0
  · exact ⟨0, by rw [if_pos hbig]; rfl⟩
  obtain ⟨K, hK⟩ : ∃ K, K = 20000000 := ⟨_, rfl⟩
  obtain ⟨r, er, hr⟩ := szPP_tells (l := m) (left := 1048576 - (l.length : Int)) (by omega) (by omega) (fun y hy => (hmx y hy).1) hm (k := K + 1 + 1 + 1) (by omega)
  refine ⟨K + 1 + 1 + 1, ?_⟩
  rw [if_neg hbig]
  simp only [Option.bind_some]
  rw [if_neg hbig, er]
  simp only [Option.bind_some]
  by_cases hneg : r < 0
  · rw [if_pos hneg]
  rw [if_neg hneg]
  obtain ⟨hml, hmt⟩ : m.length ≤ 1048576 ∧ totL m ≤ 1048576 := hr.resolve_left hneg
  have hrow : ∀ y ∈ m, y.length ≤ 1048576 := fun y h => Nat.le_trans (len_totL m y h) hmt
  have hcl : (convPP m).length = m.length := by simp [convPP]
  have hct := totP_conv m
  have hrow2 : ∀ y ∈ convPP m, y.length ≤ 1048576 := fun y h => Nat.le_trans (len_totP (convPP m) y h) (by omega)
  have hL : LogsOk (convPP m) := ⟨by omega, by omega, hokp⟩
  obtain ⟨B, hB⟩ : ∃ B, B = l.map convBoat := ⟨_, rfl⟩
  obtain ⟨L, hLe⟩ : ∃ L, L = convPP m := ⟨_, rfl⟩
  have hBl : B.length ≤ 1048576 := by rw [hB, List.length_map]; omega
  have tB : ∀ k, 10000000 < k → laws_toBoatS.f k l = some B := fun k h => by rw [hB]; exact toBoat_tells (by omega) (by omega)
  have tL : ∀ k, 10000000 < k → laws_toPlaceSS.f k m = some L := fun k h => by rw [hLe]; exact toPP_tells hrow hml (by omega)
  rw [← hB] at hok
  rw [← hLe] at hL hrow2 hcl hct
  have hv := draggedV_length b B L
  obtain ⟨V, hV⟩ : ∃ V, V = draggedV b B L := ⟨_, rfl⟩
  have hsp : ∀ k, 16000000 < k → spec_DraggedOf.f k b B L = some V := fun k h => by rw [hV]; exact spec_tellsD hBl hok hL h
  have him : ∀ k, 16000000 < k → impl_DraggedOf.f k b B L = some V := fun k h => by rw [hV]; exact impl_tellsD hBl hL h
  rw [← hV] at hv
  have hmark : laws_markPlaceSS.f L (1 + 6 * (B.length : Int)) = some (1 + 6 * (B.length : Int) + 2 * (totP L : Int)) := by
    unfold laws_markPlaceSS.f; rw [if_pos ⟨by omega, by omega, by omega⟩]
  simp only [laws_toBay.f, Option.bind_some]
  rw [tB _ (by omega)]
  simp only [Option.bind_some]
  rw [tL _ (by omega)]
  simp only [Option.bind_some]
  rw [hsp _ (by omega)]
  simp only [Option.bind_some]
  rw [him _ (by omega)]
  simp only [Option.bind_some]
  rw [eqInt64_tells (by omega) (by omega)]
  simp only [Option.bind_some, if_true, bne_self_eq_false, laws_FnExactDraggedOf.j0]
  rw [if_neg (by simp), tB _ (by omega)]
  simp only [Option.bind_some]
  rw [eqBoat_tells (by omega) (by omega)]
  simp only [Option.bind_some, if_true]
  rw [tL _ (by omega)]
  simp only [Option.bind_some]
  rw [eqPP_tells hrow2 (by omega) (by omega)]
  obtain ⟨r2, hr2⟩ := markBoat_tells (l := B) (k := K + 1 + 1) (by omega) (by omega)
  simp only [Option.bind_some, if_true]
  rw [hr2]
  simp only [Option.bind_some]
  rw [hmark]
  simp only [Option.bind_some]
  rw [if_neg (by omega), eqInt64_tells (by omega) (by omega)]
  simp only [Option.bind_some, if_true, bne_self_eq_false, laws_FnExactDraggedOf.j1]
  rw [if_neg (by simp), markI_tells (by omega) (by omega)]
  simp only [Option.bind_some]
  rw [heldI_tells (by omega) (by omega)]
  simp only [Option.bind_some]
  rw [if_neg (by omega)]
  simp only [eq_self, if_true]
  simp only [laws_toBay.f, Option.bind_some]
  rw [tB _ (by omega)]
  simp only [Option.bind_some]
  rw [tL _ (by omega)]
  simp only [Option.bind_some]
  rw [him _ (by omega)]
  simp only [Option.bind_some]
  rw [eqInt64_tells (by omega) (by omega)]
  simp only [Option.bind_some, if_true, bne_self_eq_false, laws_FnExactDraggedOf.j2]
  rw [if_neg (by simp), heldI_tells (by omega) (by omega)]
  simp only [Option.bind_some]
  rw [if_neg (by omega)]
  simp only [eq_self, if_true]
end Go.Proofs.Ytdefbflihmkegad.G.Pure
end
