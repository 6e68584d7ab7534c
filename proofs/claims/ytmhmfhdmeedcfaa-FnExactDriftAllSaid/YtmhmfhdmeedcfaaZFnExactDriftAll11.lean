/- A part of the proof of: FnExactDriftAll returns true, whatever the input, and leaves its arguments as they were. -/
import Derived.Test.YtmhmfhdmeedcfaaProg
import Derived.Below
import Derived.Deep.Draws
import Derived.Deep.AppendLies
import Derived.Maps.AppendAt
import Derived.OwnWalk
import Derived.Laws.BytesArg
import Derived.Laws.MakeOwn
import Derived.Laws.OwnMore
import Derived.Deep.OwnRows
import Derived.Tactics
import Derived.Lib.ConvBytes
import Derived.Laws.Slices
import Derived.WalkKit
import Derived.KernelRfl
import Derived.RowKit3
import Derived.Deep.LoopGhost
import Derived.Deep.QuietTactic
import Derived.BigQuiet
import Derived.WideLaws
import Derived.Deep.DeepCutAuto
import Derived.Deep.CutBlock
import Derived.Deep.RegionHeld3
import Derived.Laws.Rows
import Derived.Lib.AppendStr
import Derived.ArgAppend
import Derived.Laws.IdiomCopy
import Derived.OrdersHeld
import Derived.Laws.BitsLemmas
import Derived.RowKit
import Derived.Laws.StructEq
import Derived.Deep.Slices
import Derived.ChangeSame
import Derived.ChangeArms
import Derived.OpenShut
import Derived.ProofKit
import Derived.Laws.Tables
import Derived.Lib.Hide
import Derived.Test.YtmhmfhdmeedcfaaZFnExactDriftAll1
import Derived.Test.YtmhmfhdmeedcfaaZFnExactDriftAll2
import Derived.Test.YtmhmfhdmeedcfaaZFnExactDriftAll3
import Derived.Test.YtmhmfhdmeedcfaaZFnExactDriftAll4
import Derived.Test.YtmhmfhdmeedcfaaZFnExactDriftAll5
import Derived.Test.YtmhmfhdmeedcfaaZFnExactDriftAll6
import Derived.Test.YtmhmfhdmeedcfaaZFnExactDriftAll7
import Derived.Test.YtmhmfhdmeedcfaaZFnExactDriftAll8
import Derived.Test.YtmhmfhdmeedcfaaZFnExactDriftAll9
import Derived.Test.YtmhmfhdmeedcfaaZFnExactDriftAll10
section
namespace Go.Proofs.Ytmhmfhdmeedcfaa.G
open Go.RowKit Go.Proofs.YtmhmfhdmeedcfaaW.PrintWords Go.Proofs.YtmhmfhdmeedcfaaW.PrintLast Go.Proofs.YtmhmfhdmeedcfaaW.PrintMore
attribute [local go_sem] max2_int min2_int max_two min_two max_three min_three max_four min_four   -- for this text's walks alone
set_option linter.unusedVariables false
set_option linter.unusedSimpArgs false
def IsS89 (w0 W : World) (g : Nat) (f0 : Int) (f1 : Int) (f2 : Int) (f3 : Int) (f4 : Int) (f5 : Int) (f6 : Bool) : Prop := W.heap[g]? = some (.cells #[.int .i8 f0, .int .i8 f1, .int .i8 f2, .int .i8 f3, .int .i8 f4, .int .i8 f5, .bool f6] 89 (0, 0)) ∧ w0.heap.size ≤ g
theorem IsS89.grown {w0 W : World} {g : Nat} {f0 : Int} {f1 : Int} {f2 : Int} {f3 : Int} {f4 : Int} {f5 : Int} {f6 : Bool} {W1 : World} {row : Option Nat} (h : IsS89 w0 W g f0 f1 f2 f3 f4 f5 f6) (hw : W.grownBy W1 row) (hne : some g ≠ row) : IsS89 w0 W1 g f0 f1 f2 f3 f4 f5 f6 := by
 obtain ⟨hb, hg⟩ := h
 exact ⟨blk_grown hb hw hne, hg⟩
theorem IsS89.kept {w0 W : World} {g : Nat} {f0 : Int} {f1 : Int} {f2 : Int} {f3 : Int} {f4 : Int} {f5 : Int} {f6 : Bool} {W1 : World} {S : Nat → Prop} (h : IsS89 w0 W g f0 f1 f2 f3 f4 f5 f6) (hk : Kept W W1 S) (hne : ¬ S g) : IsS89 w0 W1 g f0 f1 f2 f3 f4 f5 f6 := by
 obtain ⟨hb, hg⟩ := h
 exact ⟨blk_kept hb hk hne, hg⟩
theorem IsS89.below {w0 W : World} {g : Nat} {f0 : Int} {f1 : Int} {f2 : Int} {f3 : Int} {f4 : Int} {f5 : Int} {f6 : Bool} {W1 : World} (h : IsS89 w0 W g f0 f1 f2 f3 f4 f5 f6) (hw : Below W.heap.size W W1) : IsS89 w0 W1 g f0 f1 f2 f3 f4 f5 f6 := h.grown (grown_of_below hw none) (by simp)
theorem IsS89.alloc {w0 W : World} {g : Nat} {f0 : Int} {f1 : Int} {f2 : Int} {f3 : Int} {f4 : Int} {f5 : Int} {f6 : Bool} (h : IsS89 w0 W g f0 f1 f2 f3 f4 f5 f6) (o : Obj) : IsS89 w0 (W.alloc o) g f0 f1 f2 f3 f4 f5 f6 := h.below (below_alloc (Below.refl _ _) o)
theorem IsS89.drewN {w0 W : World} {g : Nat} {f0 : Int} {f1 : Int} {f2 : Int} {f3 : Int} {f4 : Int} {f5 : Int} {f6 : Bool} (h : IsS89 w0 W g f0 f1 f2 f3 f4 f5 f6) (m : Nat) : IsS89 w0 (W.drewN m) g f0 f1 f2 f3 f4 f5 f6 := h
theorem IsS89.drew {w0 W : World} {g : Nat} {f0 : Int} {f1 : Int} {f2 : Int} {f3 : Int} {f4 : Int} {f5 : Int} {f6 : Bool} (h : IsS89 w0 W g f0 f1 f2 f3 f4 f5 f6) : IsS89 w0 W.drew g f0 f1 f2 f3 f4 f5 f6 := h
theorem IsS89.at_ {w0 W : World} {g : Nat} {f0 : Int} {f1 : Int} {f2 : Int} {f3 : Int} {f4 : Int} {f5 : Int} {f6 : Bool} {w' : World} {m : Nat} (hq : W.drewN m = w') (h : IsS89 w0 W g f0 f1 f2 f3 f4 f5 f6) : IsS89 w0 w' g f0 f1 f2 f3 f4 f5 f6 := by subst hq; exact IsS89.drewN h m
theorem IsS89.apart {w0 W : World} {g : Nat} {f0 : Int} {f1 : Int} {f2 : Int} {f3 : Int} {f4 : Int} {f5 : Int} {f6 : Bool} {α : Type} {d : Kd α} {e : Nat} {base : Nat} {ok : Nat → Prop} {v : Value} {xs : List α} (h : IsS89 w0 W g f0 f1 f2 f3 f4 f5 f6) (ho : d.R e W base ok v xs) (ht : ∀ q, q ∈ e :: d.E → q ≠ 89) : d.R e W base (fun k => ok k ∧ k ≠ g) v xs := by
 obtain ⟨hb, hg⟩ := h
 exact Kd.R_types ho hb ht
theorem IsS89.own_ne {w0 W : World} {g : Nat} {f0 : Int} {f1 : Int} {f2 : Int} {f3 : Int} {f4 : Int} {f5 : Int} {f6 : Bool} {α : Type} {d : Kd α} {e : Nat} {base : Nat} {ok : Nat → Prop} {v : Value} {xs : List α} (h : IsS89 w0 W g f0 f1 f2 f3 f4 f5 f6) (ho : d.R e W base ok v xs) (ht : e ≠ 89) : some g ≠ v.ownBlock := by
 obtain ⟨hb, hg⟩ := h
 exact Kd.R_ne ho hb ht
theorem IsS89.lt {w0 W : World} {g : Nat} {f0 : Int} {f1 : Int} {f2 : Int} {f3 : Int} {f4 : Int} {f5 : Int} {f6 : Bool} (h : IsS89 w0 W g f0 f1 f2 f3 f4 f5 f6) : g < W.heap.size := by
 obtain ⟨hb, hg⟩ := h
 exact blk_lt hb
theorem IsS89.ge {w0 W : World} {g : Nat} {f0 : Int} {f1 : Int} {f2 : Int} {f3 : Int} {f4 : Int} {f5 : Int} {f6 : Bool} (h : IsS89 w0 W g f0 f1 f2 f3 f4 f5 f6) : w0.heap.size ≤ g := by
 obtain ⟨hb, hg⟩ := h
 exact hg
theorem IsS89.ne_blk {w0 W : World} {g : Nat} {f0 : Int} {f1 : Int} {f2 : Int} {f3 : Int} {f4 : Int} {f5 : Int} {f6 : Bool} {a : Nat} {cs : Array Value} {t : TypeId} {fr : Nat × Nat} (h : IsS89 w0 W g f0 f1 f2 f3 f4 f5 f6) (hb2 : W.heap[a]? = some (.cells cs t fr)) (ht : t ≠ 89) : g ≠ a := by
 obtain ⟨hb, hg⟩ := h
 rintro rfl
 rw [hb] at hb2
 injection hb2 with hb2
 injection hb2 with _ ht2
 exact ht ht2.symm
theorem IsS89.far {w0 W : World} {g : Nat} {f0 : Int} {f1 : Int} {f2 : Int} {f3 : Int} {f4 : Int} {f5 : Int} {f6 : Bool} {p : Addr} (h : IsS89 w0 W g f0 f1 f2 f3 f4 f5 f6) (hne : g ≠ p.block) (u : Value) : IsS89 w0 (W.setCell p u) g f0 f1 f2 f3 f4 f5 f6 := by
 obtain ⟨hb, hg⟩ := h
 exact ⟨blk_far hb hne u, hg⟩
theorem cellS89_0 {W : World} {g : Nat} {f0 : Int} {f1 : Int} {f2 : Int} {f3 : Int} {f4 : Int} {f5 : Int} {f6 : Bool} (h : W.heap[g]? = some (.cells #[.int .i8 f0, .int .i8 f1, .int .i8 f2, .int .i8 f3, .int .i8 f4, .int .i8 f5, .bool f6] 89 (0, 0))) : W.cell? ⟨g, 0, none⟩ = some (.int .i8 f0) := (blk_cell h 0).trans rfl
theorem IsS89.set_0 {w0 W : World} {g : Nat} {f0 : Int} {f1 : Int} {f2 : Int} {f3 : Int} {f4 : Int} {f5 : Int} {f6 : Bool} (h : IsS89 w0 W g f0 f1 f2 f3 f4 f5 f6) (x : Int) : IsS89 w0 (W.setCell ⟨g, 0, none⟩ (.int .i8 x)) g x f1 f2 f3 f4 f5 f6 := by
 obtain ⟨hb, hg⟩ := h
 exact ⟨by simpa using blk_set hb 0 (.int .i8 x), hg⟩
theorem cellS89_1 {W : World} {g : Nat} {f0 : Int} {f1 : Int} {f2 : Int} {f3 : Int} {f4 : Int} {f5 : Int} {f6 : Bool} (h : W.heap[g]? = some (.cells #[.int .i8 f0, .int .i8 f1, .int .i8 f2, .int .i8 f3, .int .i8 f4, .int .i8 f5, .bool f6] 89 (0, 0))) : W.cell? ⟨g, 1, none⟩ = some (.int .i8 f1) := (blk_cell h 1).trans rfl
theorem IsS89.set_1 {w0 W : World} {g : Nat} {f0 : Int} {f1 : Int} {f2 : Int} {f3 : Int} {f4 : Int} {f5 : Int} {f6 : Bool} (h : IsS89 w0 W g f0 f1 f2 f3 f4 f5 f6) (x : Int) : IsS89 w0 (W.setCell ⟨g, 1, none⟩ (.int .i8 x)) g f0 x f2 f3 f4 f5 f6 := by
 obtain ⟨hb, hg⟩ := h
 exact ⟨by simpa using blk_set hb 1 (.int .i8 x), hg⟩
theorem cellS89_2 {W : World} {g : Nat} {f0 : Int} {f1 : Int} {f2 : Int} {f3 : Int} {f4 : Int} {f5 : Int} {f6 : Bool} (h : W.heap[g]? = some (.cells #[.int .i8 f0, .int .i8 f1, .int .i8 f2, .int .i8 f3, .int .i8 f4, .int .i8 f5, .bool f6] 89 (0, 0))) : W.cell? ⟨g, 2, none⟩ = some (.int .i8 f2) := (blk_cell h 2).trans rfl
theorem IsS89.set_2 {w0 W : World} {g : Nat} {f0 : Int} {f1 : Int} {f2 : Int} {f3 : Int} {f4 : Int} {f5 : Int} {f6 : Bool} (h : IsS89 w0 W g f0 f1 f2 f3 f4 f5 f6) (x : Int) : IsS89 w0 (W.setCell ⟨g, 2, none⟩ (.int .i8 x)) g f0 f1 x f3 f4 f5 f6 := by
 obtain ⟨hb, hg⟩ := h
 exact ⟨by simpa using blk_set hb 2 (.int .i8 x), hg⟩
theorem cellS89_3 {W : World} {g : Nat} {f0 : Int} {f1 : Int} {f2 : Int} {f3 : Int} {f4 : Int} {f5 : Int} {f6 : Bool} (h : W.heap[g]? = some (.cells #[.int .i8 f0, .int .i8 f1, .int .i8 f2, .int .i8 f3, .int .i8 f4, .int .i8 f5, .bool f6] 89 (0, 0))) : W.cell? ⟨g, 3, none⟩ = some (.int .i8 f3) := (blk_cell h 3).trans rfl
theorem IsS89.set_3 {w0 W : World} {g : Nat} {f0 : Int} {f1 : Int} {f2 : Int} {f3 : Int} {f4 : Int} {f5 : Int} {f6 : Bool} (h : IsS89 w0 W g f0 f1 f2 f3 f4 f5 f6) (x : Int) : IsS89 w0 (W.setCell ⟨g, 3, none⟩ (.int .i8 x)) g f0 f1 f2 x f4 f5 f6 := by
 obtain ⟨hb, hg⟩ := h
 exact ⟨by simpa using blk_set hb 3 (.int .i8 x), hg⟩
theorem cellS89_4 {W : World} {g : Nat} {f0 : Int} {f1 : Int} {f2 : Int} {f3 : Int} {f4 : Int} {f5 : Int} {f6 : Bool} (h : W.heap[g]? = some (.cells #[.int .i8 f0, .int .i8 f1, .int .i8 f2, .int .i8 f3, .int .i8 f4, .int .i8 f5, .bool f6] 89 (0, 0))) : W.cell? ⟨g, 4, none⟩ = some (.int .i8 f4) := (blk_cell h 4).trans rfl
theorem IsS89.set_4 {w0 W : World} {g : Nat} {f0 : Int} {f1 : Int} {f2 : Int} {f3 : Int} {f4 : Int} {f5 : Int} {f6 : Bool} (h : IsS89 w0 W g f0 f1 f2 f3 f4 f5 f6) (x : Int) : IsS89 w0 (W.setCell ⟨g, 4, none⟩ (.int .i8 x)) g f0 f1 f2 f3 x f5 f6 := by
 obtain ⟨hb, hg⟩ := h
 exact ⟨by simpa using blk_set hb 4 (.int .i8 x), hg⟩
theorem cellS89_5 {W : World} {g : Nat} {f0 : Int} {f1 : Int} {f2 : Int} {f3 : Int} {f4 : Int} {f5 : Int} {f6 : Bool} (h : W.heap[g]? = some (.cells #[.int .i8 f0, .int .i8 f1, .int .i8 f2, .int .i8 f3, .int .i8 f4, .int .i8 f5, .bool f6] 89 (0, 0))) : W.cell? ⟨g, 5, none⟩ = some (.int .i8 f5) := (blk_cell h 5).trans rfl
theorem IsS89.set_5 {w0 W : World} {g : Nat} {f0 : Int} {f1 : Int} {f2 : Int} {f3 : Int} {f4 : Int} {f5 : Int} {f6 : Bool} (h : IsS89 w0 W g f0 f1 f2 f3 f4 f5 f6) (x : Int) : IsS89 w0 (W.setCell ⟨g, 5, none⟩ (.int .i8 x)) g f0 f1 f2 f3 f4 x f6 := by
 obtain ⟨hb, hg⟩ := h
 exact ⟨by simpa using blk_set hb 5 (.int .i8 x), hg⟩
theorem cellS89_6 {W : World} {g : Nat} {f0 : Int} {f1 : Int} {f2 : Int} {f3 : Int} {f4 : Int} {f5 : Int} {f6 : Bool} (h : W.heap[g]? = some (.cells #[.int .i8 f0, .int .i8 f1, .int .i8 f2, .int .i8 f3, .int .i8 f4, .int .i8 f5, .bool f6] 89 (0, 0))) : W.cell? ⟨g, 6, none⟩ = some (.bool f6) := (blk_cell h 6).trans rfl
theorem IsS89.set_6 {w0 W : World} {g : Nat} {f0 : Int} {f1 : Int} {f2 : Int} {f3 : Int} {f4 : Int} {f5 : Int} {f6 : Bool} (h : IsS89 w0 W g f0 f1 f2 f3 f4 f5 f6) (x : Bool) : IsS89 w0 (W.setCell ⟨g, 6, none⟩ (.bool x)) g f0 f1 f2 f3 f4 f5 x := by
 obtain ⟨hb, hg⟩ := h
 exact ⟨by simpa using blk_set hb 6 (.bool x), hg⟩
def impl_drifting_hour.f (s0_0 : Int) (s0_1 : Int) (s0_2 : Int) (s0_3 : Int) (s0_4 : Int) (s0_5 : Int) (s0_6 : Bool) (a1 : O38) (a2 : O40) (a3_0 : Int) (a3_1 : Int) : Option (Bool × Int × Int × Int × Int × Int × Int × Bool) := if s0_6 = true then (some (false, s0_0, s0_1, s0_2, s0_3, s0_4, s0_5, s0_6)) else ((impl_drift.f a1 a2 s0_0 s0_1 s0_2 s0_3 s0_4 s0_5 a3_0 a3_1).bind fun bt214 => (some (bt214.2.2.2.2.2.2.1, bt214.1, bt214.2.1, bt214.2.2.1, bt214.2.2.2.1, bt214.2.2.2.2.1, bt214.2.2.2.2.2.1, bt214.2.2.2.2.2.2.2)))
def impl_drifting_hour.T3 : Bool × List (List Nat × List Nat) := (true, [([], []), ([], []), ([], []), ([2], [2]), ([3], [3]), ([4], [4]), ([], []), ([0, 1, 5, 6], [0, 1, 5, 6]), ([7], [7]), ([8], [8]), ([8], [8]), ([8], [8]), ([], []), ([12, 9, 7, 0, 1, 2, 3, 4, 5, 6, 7, 8, 9, 12], [9, 12]), ([10, 13, 0, 1, 2, 3, 4, 5, 6, 7, 8, 9, 10, 12, 13], [10]), ([11, 14, 0, 1, 2, 3, 4, 5, 6, 7, 8, 9, 10, 11, 12, 13, 14], [11])])
def impl_drifting_hour.B3 : List Nat := [0, 0, 0, 4, 12, 28, 0, 127, 255, 511, 511, 511, 0, 5119, 14335, 32767]
theorem impl_drifting_hour.tab3 : rtab .any (opsOf Try.f58 3) = impl_drifting_hour.T3 := by kernel_rfl
theorem impl_drifting_hour.bits3 : waitsOk impl_drifting_hour.T3.2 impl_drifting_hour.B3 = true := by kernel_rfl
set_option maxHeartbeats 8000000 in
set_option maxRecDepth 100000 in
theorem impl_drifting_hour.calls (g : Nat) (s0_0 : Int) (s0_1 : Int) (s0_2 : Int) (s0_3 : Int) (s0_4 : Int) (s0_5 : Int) (s0_6 : Bool) (a1 : O38) (a2 : O40) (a3_0 : Int) (a3_1 : Int) (r1 : Bool) (r2 : Int) (r3 : Int) (r4 : Int) (r5 : Int) (r6 : Int) (r7 : Int) (r8 : Bool) (w0 w : World) (hI : IsS89 w0 w g s0_0 s0_1 s0_2 s0_3 s0_4 s0_5 s0_6) (hB : Below w0.heap.size w0 w) (h : impl_drifting_hour.f s0_0 s0_1 s0_2 s0_3 s0_4 s0_5 s0_6 a1 a2 a3_0 a3_1 = some (r1, r2, r3, r4, r5, r6, r7, r8)) :
  Calls Try.prog 58 #[.pointer (some ⟨g, 0, none⟩), VO38 a1, VO40 a2, .agg #[.int .i8 a3_0, .int .i8 a3_1]] w fun e w' => e = .returned (.bool r1) ∧ IsS89 w0 w' g r2 r3 r4 r5 r6 r7 r8 ∧ Below w0.heap.size w0 w' ∧ KeepBut w w' g none := by
 have hu78 := Try.underlying78
 have hu44 := Try.underlying44
 have HI0 := Aside0.mk hI
 have HK := Aside0.mk (KeepBut.refl w g none)
 have HL := Aside0.mk hB.size
 clear hI
 have HW0 := Aside0.mk hB.size
 have HB := Aside0.mk hB
 clear hB
 have H : (if s0_6 = true then (some (false, s0_0, s0_1, s0_2, s0_3, s0_4, s0_5, s0_6)) else ((impl_drift.f a1 a2 s0_0 s0_1 s0_2 s0_3 s0_4 s0_5 a3_0 a3_1).bind fun bt214 => (some (bt214.2.2.2.2.2.2.1, bt214.1, bt214.2.1, bt214.2.2.1, bt214.2.2.2.1, bt214.2.2.2.2.1, bt214.2.2.2.2.2.1, bt214.2.2.2.2.2.2.2)))) = some (r1, r2, r3, r4, r5, r6, r7, r8) := h
 clear h
 by_cases c5 : s0_6 = true
 ·subst c5
  have H1 : (some (false, s0_0, s0_1, s0_2, s0_3, s0_4, s0_5, true)) = some (r1, r2, r3, r4, r5, r6, r7, r8) := by rw [if_pos rfl] at H; exact H
  clear H
  have H := H1
  clear H1
  simp only [Option.some.injEq, Prod.mk.injEq] at H
  obtain ⟨rfl, rfl, rfl, rfl, rfl, rfl, rfl, rfl⟩ := H
  go_enter Try.func58, Try.ntmps58
  go_wp2_with (first | ((with_reducible refine gate_dst (N := 5) rfl ?_); refine box_event ?hg (N := 5) ?hd (cs := (a1).A) (t := 38) ?hr ?_; (case hd => rfl); (case hg => rfl); (case hr => first | exact AR.run_box_row rfl rfl | (go_simp; done) | (go_simp; rfl)); intro gb211 hg w6 hbox hb; have n0_ := Aside0.mk (IsS89.below (by repeat (first | (with_reducible first | exact HI0.out | apply IsS89.alloc | apply IsS89.drewN | apply IsS89.drew | apply IsS89.set_0 | apply IsS89.set_1 | apply IsS89.set_2 | apply IsS89.set_3 | apply IsS89.set_4 | apply IsS89.set_5 | apply IsS89.set_6) | exact HI0.out)) hb); have n1_ := Aside0.mk (KeepBut.trans (by repeat (first | (with_reducible first | exact HK.out | apply KeepBut.set_ | apply keep_drewN | apply keep_drew | apply keep_alloc) | exact HK.out)) (KeepBut.of_below hb g none) (.inl rfl)); have n2_ := Aside0.mk (below_step (by repeat (first | (with_reducible first | exact HB.out | apply below_alloc | apply pw_below_drewN | apply below_drew1 | refine below_set ?_ (IsS89.ge HI0.out)) | exact HB.out)) hb); have n3_ := Aside0.mk (hbox); have n4_ := Aside0.mk ((by rw [hg]; exact (keep_size (w := w) (g := g) (row := none) (by repeat (first | (with_reducible first | exact HK.out | apply KeepBut.set_ | apply keep_drewN | apply keep_drew | apply keep_alloc) | exact HK.out))) : w.heap.size ≤ gb211)); have n5_ := Aside0.mk ((Nat.le_trans HW0.out (by rw [hg]; exact (keep_size (w := w) (g := g) (row := none) (by repeat (first | (with_reducible first | exact HK.out | apply KeepBut.set_ | apply keep_drewN | apply keep_drew | apply keep_alloc) | exact HK.out))) : w.heap.size ≤ gb211) : w0.heap.size ≤ gb211)); have n6_ := Aside0.mk ((by rw [hg]; exact Nat.ne_of_lt (IsS89.lt (show IsS89 w0 _ g s0_0 s0_1 s0_2 s0_3 s0_4 s0_5 true from by repeat (first | (with_reducible first | exact HI0.out | apply IsS89.alloc | apply IsS89.drewN | apply IsS89.drew | apply IsS89.set_0 | apply IsS89.set_1 | apply IsS89.set_2 | apply IsS89.set_3 | apply IsS89.set_4 | apply IsS89.set_5 | apply IsS89.set_6) | exact HI0.out))) : g ≠ gb211)); have n7_ := Aside0.mk ((by rw [hg]; exact Nat.ne_of_gt (IsS89.lt (show IsS89 w0 _ g s0_0 s0_1 s0_2 s0_3 s0_4 s0_5 true from by repeat (first | (with_reducible first | exact HI0.out | apply IsS89.alloc | apply IsS89.drewN | apply IsS89.drew | apply IsS89.set_0 | apply IsS89.set_1 | apply IsS89.set_2 | apply IsS89.set_3 | apply IsS89.set_4 | apply IsS89.set_5 | apply IsS89.set_6) | exact HI0.out))) : gb211 ≠ g)); clear HI0; clear HK; clear HB; have HI0 := n0_; have HK := n1_; have HB := n2_; have BK211 := n3_; have GW211 := n4_; have GE211 := n5_; have NB0_211 := n6_; have NB211_0 := n7_; clear n0_ n1_ n2_ n3_ n4_ n5_ n6_ n7_; clear hb hbox hg) | ((with_reducible refine gate_dst (N := 6) rfl ?_); refine box_event ?hg (N := 6) ?hd (cs := (a2).A) (t := 40) ?hr ?_; (case hd => rfl); (case hg => rfl); (case hr => first | exact AR.run_box_row rfl rfl | (go_simp; done) | (go_simp; rfl)); intro gb212 hg w7 hbox hb; have n0_ := Aside0.mk (IsS89.below (by repeat (first | (with_reducible first | exact HI0.out | apply IsS89.alloc | apply IsS89.drewN | apply IsS89.drew | apply IsS89.set_0 | apply IsS89.set_1 | apply IsS89.set_2 | apply IsS89.set_3 | apply IsS89.set_4 | apply IsS89.set_5 | apply IsS89.set_6 | refine IsS89.far ?_ NB0_211.out _) | exact HI0.out)) hb); have n1_ := Aside0.mk (sqB BK211.out hb); have n2_ := Aside0.mk (KeepBut.trans (by repeat (first | (with_reducible first | exact HK.out | apply KeepBut.set_ | apply keep_drewN | apply keep_drew | apply keep_alloc | refine keep_far ?_ GW211.out _) | exact HK.out)) (KeepBut.of_below hb g none) (.inl rfl)); have n3_ := Aside0.mk (below_step (by repeat (first | (with_reducible first | exact HB.out | apply below_alloc | apply pw_below_drewN | apply below_drew1 | refine below_set ?_ (IsS89.ge HI0.out) | refine below_set ?_ GE211.out) | exact HB.out)) hb); have n4_ := Aside0.mk (hbox); have n5_ := Aside0.mk ((by rw [hg]; exact (keep_size (w := w) (g := g) (row := none) (by repeat (first | (with_reducible first | exact HK.out | apply KeepBut.set_ | apply keep_drewN | apply keep_drew | apply keep_alloc | refine keep_far ?_ GW211.out _) | exact HK.out))) : w.heap.size ≤ gb212)); have n6_ := Aside0.mk ((Nat.le_trans HW0.out (by rw [hg]; exact (keep_size (w := w) (g := g) (row := none) (by repeat (first | (with_reducible first | exact HK.out | apply KeepBut.set_ | apply keep_drewN | apply keep_drew | apply keep_alloc | refine keep_far ?_ GW211.out _) | exact HK.out))) : w.heap.size ≤ gb212) : w0.heap.size ≤ gb212)); have n7_ := Aside0.mk ((by rw [hg]; exact Nat.ne_of_lt (blk_lt (g := gb211) (o := .cells (a1).A 38 (0, 0)) (sqO BK211.out)) : gb211 ≠ gb212)); have n8_ := Aside0.mk (Ne.symm n7_.out); have n9_ := Aside0.mk ((by rw [hg]; exact Nat.ne_of_lt (IsS89.lt (show IsS89 w0 _ g s0_0 s0_1 s0_2 s0_3 s0_4 s0_5 true from by repeat (first | (with_reducible first | exact HI0.out | apply IsS89.alloc | apply IsS89.drewN | apply IsS89.drew | apply IsS89.set_0 | apply IsS89.set_1 | apply IsS89.set_2 | apply IsS89.set_3 | apply IsS89.set_4 | apply IsS89.set_5 | apply IsS89.set_6 | refine IsS89.far ?_ NB0_211.out _) | exact HI0.out))) : g ≠ gb212)); have n10_ := Aside0.mk ((by rw [hg]; exact Nat.ne_of_gt (IsS89.lt (show IsS89 w0 _ g s0_0 s0_1 s0_2 s0_3 s0_4 s0_5 true from by repeat (first | (with_reducible first | exact HI0.out | apply IsS89.alloc | apply IsS89.drewN | apply IsS89.drew | apply IsS89.set_0 | apply IsS89.set_1 | apply IsS89.set_2 | apply IsS89.set_3 | apply IsS89.set_4 | apply IsS89.set_5 | apply IsS89.set_6 | refine IsS89.far ?_ NB0_211.out _) | exact HI0.out))) : gb212 ≠ g)); clear HI0; clear BK211; clear HK; clear HB; have HI0 := n0_; have BK211 := n1_; have HK := n2_; have HB := n3_; have BK212 := n4_; have GW212 := n5_; have GE212 := n6_; have NB211_212 := n7_; have NB212_211 := n8_; have NB0_212 := n9_; have NB212_0 := n10_; clear n0_ n1_ n2_ n3_ n4_ n5_ n6_ n7_ n8_ n9_ n10_; clear hb hbox hg) | ((with_reducible refine gate_dst (N := 7) rfl ?_); refine box_event ?hg (N := 7) ?hd (cs := #[.int .i8 a3_0, .int .i8 a3_1]) (t := 78) ?hr ?_; (case hd => rfl); (case hg => rfl); (case hr => first | (go_simp; done) | (go_simp; rfl)); intro gb213 hg w8 hbox hb; have n0_ := Aside0.mk (IsS89.below (by repeat (first | (with_reducible first | exact HI0.out | apply IsS89.alloc | apply IsS89.drewN | apply IsS89.drew | apply IsS89.set_0 | apply IsS89.set_1 | apply IsS89.set_2 | apply IsS89.set_3 | apply IsS89.set_4 | apply IsS89.set_5 | apply IsS89.set_6 | refine IsS89.far ?_ NB0_211.out _ | refine IsS89.far ?_ NB0_212.out _) | exact HI0.out)) hb); have n1_ := Aside0.mk (sqB BK211.out hb); have n2_ := Aside0.mk (sqB BK212.out hb); have n3_ := Aside0.mk (KeepBut.trans (by repeat (first | (with_reducible first | exact HK.out | apply KeepBut.set_ | apply keep_drewN | apply keep_drew | apply keep_alloc | refine keep_far ?_ GW211.out _ | refine keep_far ?_ GW212.out _) | exact HK.out)) (KeepBut.of_below hb g none) (.inl rfl)); have n4_ := Aside0.mk (below_step (by repeat (first | (with_reducible first | exact HB.out | apply below_alloc | apply pw_below_drewN | apply below_drew1 | refine below_set ?_ (IsS89.ge HI0.out) | refine below_set ?_ GE211.out | refine below_set ?_ GE212.out) | exact HB.out)) hb); have n5_ := Aside0.mk (hbox); have n6_ := Aside0.mk ((by rw [hg]; exact (keep_size (w := w) (g := g) (row := none) (by repeat (first | (with_reducible first | exact HK.out | apply KeepBut.set_ | apply keep_drewN | apply keep_drew | apply keep_alloc | refine keep_far ?_ GW211.out _ | refine keep_far ?_ GW212.out _) | exact HK.out))) : w.heap.size ≤ gb213)); have n7_ := Aside0.mk ((Nat.le_trans HW0.out (by rw [hg]; exact (keep_size (w := w) (g := g) (row := none) (by repeat (first | (with_reducible first | exact HK.out | apply KeepBut.set_ | apply keep_drewN | apply keep_drew | apply keep_alloc | refine keep_far ?_ GW211.out _ | refine keep_far ?_ GW212.out _) | exact HK.out))) : w.heap.size ≤ gb213) : w0.heap.size ≤ gb213)); have n8_ := Aside0.mk ((by rw [hg]; exact Nat.ne_of_lt (blk_lt (g := gb211) (o := .cells (a1).A 38 (0, 0)) (sqO BK211.out)) : gb211 ≠ gb213)); have n9_ := Aside0.mk (Ne.symm n8_.out); have n10_ := Aside0.mk ((by rw [hg]; exact Nat.ne_of_lt (blk_lt (g := gb212) (o := .cells (a2).A 40 (0, 0)) (sqO BK212.out)) : gb212 ≠ gb213)); have n11_ := Aside0.mk (Ne.symm n10_.out); have n12_ := Aside0.mk ((by rw [hg]; exact Nat.ne_of_lt (IsS89.lt (show IsS89 w0 _ g s0_0 s0_1 s0_2 s0_3 s0_4 s0_5 true from by repeat (first | (with_reducible first | exact HI0.out | apply IsS89.alloc | apply IsS89.drewN | apply IsS89.drew | apply IsS89.set_0 | apply IsS89.set_1 | apply IsS89.set_2 | apply IsS89.set_3 | apply IsS89.set_4 | apply IsS89.set_5 | apply IsS89.set_6 | refine IsS89.far ?_ NB0_211.out _ | refine IsS89.far ?_ NB0_212.out _) | exact HI0.out))) : g ≠ gb213)); have n13_ := Aside0.mk ((by rw [hg]; exact Nat.ne_of_gt (IsS89.lt (show IsS89 w0 _ g s0_0 s0_1 s0_2 s0_3 s0_4 s0_5 true from by repeat (first | (with_reducible first | exact HI0.out | apply IsS89.alloc | apply IsS89.drewN | apply IsS89.drew | apply IsS89.set_0 | apply IsS89.set_1 | apply IsS89.set_2 | apply IsS89.set_3 | apply IsS89.set_4 | apply IsS89.set_5 | apply IsS89.set_6 | refine IsS89.far ?_ NB0_211.out _ | refine IsS89.far ?_ NB0_212.out _) | exact HI0.out))) : gb213 ≠ g)); clear HI0; clear BK211; clear BK212; clear HK; clear HB; have HI0 := n0_; have BK211 := n1_; have BK212 := n2_; have HK := n3_; have HB := n4_; have BK213 := n5_; have GW213 := n6_; have GE213 := n7_; have NB211_213 := n8_; have NB213_211 := n9_; have NB212_213 := n10_; have NB213_212 := n11_; have NB0_213 := n12_; have NB213_0 := n13_; clear n0_ n1_ n2_ n3_ n4_ n5_ n6_ n7_ n8_ n9_ n10_ n11_ n12_ n13_; clear hb hbox hg; obtain ⟨HGz9, hgz9⟩ := HI0.out; have hcz9_0 := cellS89_0 HGz9; have hcz9_1 := cellS89_1 HGz9; have hcz9_2 := cellS89_2 HGz9; have hcz9_3 := cellS89_3 HGz9; have hcz9_4 := cellS89_4 HGz9; have hcz9_5 := cellS89_5 HGz9; have hcz9_6 := cellS89_6 HGz9; have hfz9_0 := blk_frozen HGz9 0; have hfz9_1 := blk_frozen HGz9 1; have hfz9_2 := blk_frozen HGz9 2; have hfz9_3 := blk_frozen HGz9 3; have hfz9_4 := blk_frozen HGz9 4; have hfz9_5 := blk_frozen HGz9 5; have hfz9_6 := blk_frozen HGz9 6; clear HGz9 hgz9))
  go_ret
  exact ⟨by first | rfl | (simp [errW_none, errW_some] <;> rfl) | (simp [*, errW_none, errW_some] <;> rfl), by repeat (first | (with_reducible first | exact HI0.out | apply IsS89.alloc | apply IsS89.drewN | apply IsS89.drew | apply IsS89.set_0 | apply IsS89.set_1 | apply IsS89.set_2 | apply IsS89.set_3 | apply IsS89.set_4 | apply IsS89.set_5 | apply IsS89.set_6 | refine IsS89.far ?_ NB0_211.out _ | refine IsS89.far ?_ NB0_212.out _ | refine IsS89.far ?_ NB0_213.out _) | exact HI0.out), by repeat (first | (with_reducible first | exact HB.out | apply below_alloc | apply pw_below_drewN | apply below_drew1 | refine below_set ?_ (IsS89.ge HI0.out) | refine below_set ?_ GE211.out | refine below_set ?_ GE212.out | refine below_set ?_ GE213.out) | exact HB.out), by repeat (first | (with_reducible first | exact HK.out | apply KeepBut.set_ | apply keep_drewN | apply keep_drew | apply keep_alloc | refine keep_far ?_ GW211.out _ | refine keep_far ?_ GW212.out _ | refine keep_far ?_ GW213.out _) | exact HK.out)⟩
 ·replace c5 := Bool.eq_false_iff.mpr c5
  subst c5
  have H1 : ((impl_drift.f a1 a2 s0_0 s0_1 s0_2 s0_3 s0_4 s0_5 a3_0 a3_1).bind fun bt214 => (some (bt214.2.2.2.2.2.2.1, bt214.1, bt214.2.1, bt214.2.2.1, bt214.2.2.2.1, bt214.2.2.2.2.1, bt214.2.2.2.2.2.1, bt214.2.2.2.2.2.2.2))) = some (r1, r2, r3, r4, r5, r6, r7, r8) := by rw [if_neg (show ¬ (false = true) by decide)] at H; exact H
  clear H
  have H := H1
  clear H1
  replace H := Option.bind_eq_some_iff.mp H
  obtain ⟨⟨t214, t215, t216, t217, t218, t219, t220, t221⟩, A100, H⟩ := H
  replace H : (some (t220, t214, t215, t216, t217, t218, t219, t221)) = some (r1, r2, r3, r4, r5, r6, r7, r8) := H
  have A10 := Aside0.mk A100
  clear A100
  simp only [Option.some.injEq, Prod.mk.injEq] at H
  obtain ⟨rfl, rfl, rfl, rfl, rfl, rfl, rfl, rfl⟩ := H
  go_enter Try.func58, Try.ntmps58
  try go_wp2_with (first | ((with_reducible refine gate_dst (N := 5) rfl ?_); refine box_event ?hg (N := 5) ?hd (cs := (a1).A) (t := 38) ?hr ?_; (case hd => rfl); (case hg => rfl); (case hr => first | exact AR.run_box_row rfl rfl | (go_simp; done) | (go_simp; rfl)); intro gb211 hg w11 hbox hb; have n0_ := Aside0.mk (IsS89.below (by repeat (first | (with_reducible first | exact HI0.out | apply IsS89.alloc | apply IsS89.drewN | apply IsS89.drew | apply IsS89.set_0 | apply IsS89.set_1 | apply IsS89.set_2 | apply IsS89.set_3 | apply IsS89.set_4 | apply IsS89.set_5 | apply IsS89.set_6) | exact HI0.out)) hb); have n1_ := Aside0.mk (KeepBut.trans (by repeat (first | (with_reducible first | exact HK.out | apply KeepBut.set_ | apply keep_drewN | apply keep_drew | apply keep_alloc) | exact HK.out)) (KeepBut.of_below hb g none) (.inl rfl)); have n2_ := Aside0.mk (below_step (by repeat (first | (with_reducible first | exact HB.out | apply below_alloc | apply pw_below_drewN | apply below_drew1 | refine below_set ?_ (IsS89.ge HI0.out)) | exact HB.out)) hb); have n3_ := Aside0.mk (hbox); have n4_ := Aside0.mk ((by rw [hg]; exact (keep_size (w := w) (g := g) (row := none) (by repeat (first | (with_reducible first | exact HK.out | apply KeepBut.set_ | apply keep_drewN | apply keep_drew | apply keep_alloc) | exact HK.out))) : w.heap.size ≤ gb211)); have n5_ := Aside0.mk ((Nat.le_trans HW0.out (by rw [hg]; exact (keep_size (w := w) (g := g) (row := none) (by repeat (first | (with_reducible first | exact HK.out | apply KeepBut.set_ | apply keep_drewN | apply keep_drew | apply keep_alloc) | exact HK.out))) : w.heap.size ≤ gb211) : w0.heap.size ≤ gb211)); have n6_ := Aside0.mk ((by rw [hg]; exact Nat.ne_of_lt (IsS89.lt (show IsS89 w0 _ g s0_0 s0_1 s0_2 s0_3 s0_4 s0_5 false from by repeat (first | (with_reducible first | exact HI0.out | apply IsS89.alloc | apply IsS89.drewN | apply IsS89.drew | apply IsS89.set_0 | apply IsS89.set_1 | apply IsS89.set_2 | apply IsS89.set_3 | apply IsS89.set_4 | apply IsS89.set_5 | apply IsS89.set_6) | exact HI0.out))) : g ≠ gb211)); have n7_ := Aside0.mk ((by rw [hg]; exact Nat.ne_of_gt (IsS89.lt (show IsS89 w0 _ g s0_0 s0_1 s0_2 s0_3 s0_4 s0_5 false from by repeat (first | (with_reducible first | exact HI0.out | apply IsS89.alloc | apply IsS89.drewN | apply IsS89.drew | apply IsS89.set_0 | apply IsS89.set_1 | apply IsS89.set_2 | apply IsS89.set_3 | apply IsS89.set_4 | apply IsS89.set_5 | apply IsS89.set_6) | exact HI0.out))) : gb211 ≠ g)); clear HI0; clear HK; clear HB; have HI0 := n0_; have HK := n1_; have HB := n2_; have BK211 := n3_; have GW211 := n4_; have GE211 := n5_; have NB0_211 := n6_; have NB211_0 := n7_; clear n0_ n1_ n2_ n3_ n4_ n5_ n6_ n7_; clear hb hbox hg) | ((with_reducible refine gate_dst (N := 6) rfl ?_); refine box_event ?hg (N := 6) ?hd (cs := (a2).A) (t := 40) ?hr ?_; (case hd => rfl); (case hg => rfl); (case hr => first | exact AR.run_box_row rfl rfl | (go_simp; done) | (go_simp; rfl)); intro gb212 hg w12 hbox hb; have n0_ := Aside0.mk (IsS89.below (by repeat (first | (with_reducible first | exact HI0.out | apply IsS89.alloc | apply IsS89.drewN | apply IsS89.drew | apply IsS89.set_0 | apply IsS89.set_1 | apply IsS89.set_2 | apply IsS89.set_3 | apply IsS89.set_4 | apply IsS89.set_5 | apply IsS89.set_6 | refine IsS89.far ?_ NB0_211.out _) | exact HI0.out)) hb); have n1_ := Aside0.mk (sqB BK211.out hb); have n2_ := Aside0.mk (KeepBut.trans (by repeat (first | (with_reducible first | exact HK.out | apply KeepBut.set_ | apply keep_drewN | apply keep_drew | apply keep_alloc | refine keep_far ?_ GW211.out _) | exact HK.out)) (KeepBut.of_below hb g none) (.inl rfl)); have n3_ := Aside0.mk (below_step (by repeat (first | (with_reducible first | exact HB.out | apply below_alloc | apply pw_below_drewN | apply below_drew1 | refine below_set ?_ (IsS89.ge HI0.out) | refine below_set ?_ GE211.out) | exact HB.out)) hb); have n4_ := Aside0.mk (hbox); have n5_ := Aside0.mk ((by rw [hg]; exact (keep_size (w := w) (g := g) (row := none) (by repeat (first | (with_reducible first | exact HK.out | apply KeepBut.set_ | apply keep_drewN | apply keep_drew | apply keep_alloc | refine keep_far ?_ GW211.out _) | exact HK.out))) : w.heap.size ≤ gb212)); have n6_ := Aside0.mk ((Nat.le_trans HW0.out (by rw [hg]; exact (keep_size (w := w) (g := g) (row := none) (by repeat (first | (with_reducible first | exact HK.out | apply KeepBut.set_ | apply keep_drewN | apply keep_drew | apply keep_alloc | refine keep_far ?_ GW211.out _) | exact HK.out))) : w.heap.size ≤ gb212) : w0.heap.size ≤ gb212)); have n7_ := Aside0.mk ((by rw [hg]; exact Nat.ne_of_lt (blk_lt (g := gb211) (o := .cells (a1).A 38 (0, 0)) (sqO BK211.out)) : gb211 ≠ gb212)); have n8_ := Aside0.mk (Ne.symm n7_.out); have n9_ := Aside0.mk ((by rw [hg]; exact Nat.ne_of_lt (IsS89.lt (show IsS89 w0 _ g s0_0 s0_1 s0_2 s0_3 s0_4 s0_5 false from by repeat (first | (with_reducible first | exact HI0.out | apply IsS89.alloc | apply IsS89.drewN | apply IsS89.drew | apply IsS89.set_0 | apply IsS89.set_1 | apply IsS89.set_2 | apply IsS89.set_3 | apply IsS89.set_4 | apply IsS89.set_5 | apply IsS89.set_6 | refine IsS89.far ?_ NB0_211.out _) | exact HI0.out))) : g ≠ gb212)); have n10_ := Aside0.mk ((by rw [hg]; exact Nat.ne_of_gt (IsS89.lt (show IsS89 w0 _ g s0_0 s0_1 s0_2 s0_3 s0_4 s0_5 false from by repeat (first | (with_reducible first | exact HI0.out | apply IsS89.alloc | apply IsS89.drewN | apply IsS89.drew | apply IsS89.set_0 | apply IsS89.set_1 | apply IsS89.set_2 | apply IsS89.set_3 | apply IsS89.set_4 | apply IsS89.set_5 | apply IsS89.set_6 | refine IsS89.far ?_ NB0_211.out _) | exact HI0.out))) : gb212 ≠ g)); clear HI0; clear BK211; clear HK; clear HB; have HI0 := n0_; have BK211 := n1_; have HK := n2_; have HB := n3_; have BK212 := n4_; have GW212 := n5_; have GE212 := n6_; have NB211_212 := n7_; have NB212_211 := n8_; have NB0_212 := n9_; have NB212_0 := n10_; clear n0_ n1_ n2_ n3_ n4_ n5_ n6_ n7_ n8_ n9_ n10_; clear hb hbox hg) | ((with_reducible refine gate_dst (N := 7) rfl ?_); refine box_event ?hg (N := 7) ?hd (cs := #[.int .i8 a3_0, .int .i8 a3_1]) (t := 78) ?hr ?_; (case hd => rfl); (case hg => rfl); (case hr => first | (go_simp; done) | (go_simp; rfl)); intro gb213 hg w13 hbox hb; have n0_ := Aside0.mk (IsS89.below (by repeat (first | (with_reducible first | exact HI0.out | apply IsS89.alloc | apply IsS89.drewN | apply IsS89.drew | apply IsS89.set_0 | apply IsS89.set_1 | apply IsS89.set_2 | apply IsS89.set_3 | apply IsS89.set_4 | apply IsS89.set_5 | apply IsS89.set_6 | refine IsS89.far ?_ NB0_211.out _ | refine IsS89.far ?_ NB0_212.out _) | exact HI0.out)) hb); have n1_ := Aside0.mk (sqB BK211.out hb); have n2_ := Aside0.mk (sqB BK212.out hb); have n3_ := Aside0.mk (KeepBut.trans (by repeat (first | (with_reducible first | exact HK.out | apply KeepBut.set_ | apply keep_drewN | apply keep_drew | apply keep_alloc | refine keep_far ?_ GW211.out _ | refine keep_far ?_ GW212.out _) | exact HK.out)) (KeepBut.of_below hb g none) (.inl rfl)); have n4_ := Aside0.mk (below_step (by repeat (first | (with_reducible first | exact HB.out | apply below_alloc | apply pw_below_drewN | apply below_drew1 | refine below_set ?_ (IsS89.ge HI0.out) | refine below_set ?_ GE211.out | refine below_set ?_ GE212.out) | exact HB.out)) hb); have n5_ := Aside0.mk (hbox); have n6_ := Aside0.mk ((by rw [hg]; exact (keep_size (w := w) (g := g) (row := none) (by repeat (first | (with_reducible first | exact HK.out | apply KeepBut.set_ | apply keep_drewN | apply keep_drew | apply keep_alloc | refine keep_far ?_ GW211.out _ | refine keep_far ?_ GW212.out _) | exact HK.out))) : w.heap.size ≤ gb213)); have n7_ := Aside0.mk ((Nat.le_trans HW0.out (by rw [hg]; exact (keep_size (w := w) (g := g) (row := none) (by repeat (first | (with_reducible first | exact HK.out | apply KeepBut.set_ | apply keep_drewN | apply keep_drew | apply keep_alloc | refine keep_far ?_ GW211.out _ | refine keep_far ?_ GW212.out _) | exact HK.out))) : w.heap.size ≤ gb213) : w0.heap.size ≤ gb213)); have n8_ := Aside0.mk ((by rw [hg]; exact Nat.ne_of_lt (blk_lt (g := gb211) (o := .cells (a1).A 38 (0, 0)) (sqO BK211.out)) : gb211 ≠ gb213)); have n9_ := Aside0.mk (Ne.symm n8_.out); have n10_ := Aside0.mk ((by rw [hg]; exact Nat.ne_of_lt (blk_lt (g := gb212) (o := .cells (a2).A 40 (0, 0)) (sqO BK212.out)) : gb212 ≠ gb213)); have n11_ := Aside0.mk (Ne.symm n10_.out); have n12_ := Aside0.mk ((by rw [hg]; exact Nat.ne_of_lt (IsS89.lt (show IsS89 w0 _ g s0_0 s0_1 s0_2 s0_3 s0_4 s0_5 false from by repeat (first | (with_reducible first | exact HI0.out | apply IsS89.alloc | apply IsS89.drewN | apply IsS89.drew | apply IsS89.set_0 | apply IsS89.set_1 | apply IsS89.set_2 | apply IsS89.set_3 | apply IsS89.set_4 | apply IsS89.set_5 | apply IsS89.set_6 | refine IsS89.far ?_ NB0_211.out _ | refine IsS89.far ?_ NB0_212.out _) | exact HI0.out))) : g ≠ gb213)); have n13_ := Aside0.mk ((by rw [hg]; exact Nat.ne_of_gt (IsS89.lt (show IsS89 w0 _ g s0_0 s0_1 s0_2 s0_3 s0_4 s0_5 false from by repeat (first | (with_reducible first | exact HI0.out | apply IsS89.alloc | apply IsS89.drewN | apply IsS89.drew | apply IsS89.set_0 | apply IsS89.set_1 | apply IsS89.set_2 | apply IsS89.set_3 | apply IsS89.set_4 | apply IsS89.set_5 | apply IsS89.set_6 | refine IsS89.far ?_ NB0_211.out _ | refine IsS89.far ?_ NB0_212.out _) | exact HI0.out))) : gb213 ≠ g)); clear HI0; clear BK211; clear BK212; clear HK; clear HB; have HI0 := n0_; have BK211 := n1_; have BK212 := n2_; have HK := n3_; have HB := n4_; have BK213 := n5_; have GW213 := n6_; have GE213 := n7_; have NB211_213 := n8_; have NB213_211 := n9_; have NB212_213 := n10_; have NB213_212 := n11_; have NB0_213 := n12_; have NB213_0 := n13_; clear n0_ n1_ n2_ n3_ n4_ n5_ n6_ n7_ n8_ n9_ n10_ n11_ n12_ n13_; clear hb hbox hg; obtain ⟨HGz14, hgz14⟩ := HI0.out; have hcz14_0 := cellS89_0 HGz14; have hcz14_1 := cellS89_1 HGz14; have hcz14_2 := cellS89_2 HGz14; have hcz14_3 := cellS89_3 HGz14; have hcz14_4 := cellS89_4 HGz14; have hcz14_5 := cellS89_5 HGz14; have hcz14_6 := cellS89_6 HGz14; have hfz14_0 := blk_frozen HGz14 0; have hfz14_1 := blk_frozen HGz14 1; have hfz14_2 := blk_frozen HGz14 2; have hfz14_3 := blk_frozen HGz14 3; have hfz14_4 := blk_frozen HGz14 4; have hfz14_5 := blk_frozen HGz14 5; have hfz14_6 := blk_frozen HGz14 6; clear HGz14 hgz14))
  have n0_ := Aside0.mk (blk_drew BK211.out)
  have n1_ := Aside0.mk (blk_drew BK212.out)
  have n2_ := Aside0.mk (blk_drew BK213.out)
  have n3_ := Aside0.mk (IsS89.drew HI0.out)
  have n4_ := Aside0.mk (keep_drew HK.out)
  have n5_ := Aside0.mk (below_drew1 HB.out)
  clear BK211
  clear BK212
  clear BK213
  clear HI0
  clear HK
  clear HB
  have BK211 := n0_
  have BK212 := n1_
  have BK213 := n2_
  have HI0 := n3_
  have HK := n4_
  have HB := n5_
  clear n0_ n1_ n2_ n3_ n4_ n5_
  refine start_ (n := 16) (S := fun w' => True) (ds := []) #[false, false, false, false, false, false, false, false, false, false, false, false, false, false, false, false] (by kernel_rfl) rfl rfl trivial (fun hHeld => ?_); refine with_tabW impl_drifting_hour.tab3 impl_drifting_hour.bits3 (fun HT_ HW_ => ?_)
  generalize w13.drew = w15 at BK211 BK212 BK213 HI0 HK HB hHeld ⊢
  refine pure_ (i := 2) (N := some 19) (v := ?_) (a' := ?_) #[false, false, true, false, false, false, false, false, false, false, false, false, false, false, false, false] rfl rfl (any_of HT_.out (by kernel_rfl)) (fun _ _ _ h => h) (Or.inl ⟨by rfl, ?_⟩) ?_ ?_
  rotate_left
  ·intro w'
   go_simp
   with_reducible rfl
  rotate_left
  ·simp only [Act.put, List.setIfInBounds_toArray, List.set_cons_zero, List.set_cons_succ, i64_w, i32_w]
   rfl
  refine inv_at [0, 1, 3, 4, 5, 6, 7, 8, 9, 10, 11, 12, 13, 14, 15] (fun a0_ b a w' => ∃ (gb222 : Nat) (m12_ : Value), a = putSel a0_ b [(0, 17, VO38 a1), (1, 18, VO40 a2), (3, 20, .pointer (some ⟨g, 0, none⟩)), (4, 21, .pointer (some ⟨g, 0, none⟩)), (5, 22, .agg #[.int .i8 s0_0, .int .i8 s0_1, .int .i8 s0_2, .int .i8 s0_3, .int .i8 s0_4, .int .i8 s0_5]), (6, 23, .agg #[.int .i8 a3_0, .int .i8 a3_1]), (7, 24, .tuple #[.agg #[.int .i8 t214, .int .i8 t215, .int .i8 t216, .int .i8 t217, .int .i8 t218, .int .i8 t219], .bool t220, .bool t221]), (8, 16, .tuple #[.agg #[.int .i8 t214, .int .i8 t215, .int .i8 t216, .int .i8 t217, .int .i8 t218, .int .i8 t219], .bool t220, .bool t221]), (9, 25, .agg #[.int .i8 t214, .int .i8 t215, .int .i8 t216, .int .i8 t217, .int .i8 t218, .int .i8 t219]), (10, 26, .bool t220), (11, 27, .bool t221), (12, 9, m12_), (14, 10, .bool t220), (15, 11, .bool t221)] ∧ (w'.heap[gb211]? = some (.cells (a1).A 38 (0, 0))) ∧ (w'.heap[gb212]? = some (.cells (a2).A 40 (0, 0))) ∧ (w'.heap[gb213]? = some (.cells #[.int .i8 a3_0, .int .i8 a3_1] 78 (0, 0))) ∧ (IsS89 w0 w' g s0_0 s0_1 s0_2 s0_3 s0_4 s0_5 false) ∧ (KeepBut w w' g none) ∧ (Below w0.heap.size w0 w') ∧ (b 12 = true → b 13 = false → w'.heap[gb222]? = some (.cells #[.int .i8 0, .int .i8 0, .int .i8 0, .int .i8 0, .int .i8 0, .int .i8 0] 44 (0, 0))) ∧ (b 12 = true → w.heap.size ≤ gb222) ∧ (b 12 = true → w0.heap.size ≤ gb222) ∧ (b 12 = true → g ≠ gb222) ∧ (b 12 = true → gb222 ≠ g) ∧ (b 12 = true → gb211 ≠ gb222) ∧ (b 12 = true → gb222 ≠ gb211) ∧ (b 12 = true → gb212 ≠ gb222) ∧ (b 12 = true → gb222 ≠ gb212) ∧ (b 12 = true → gb213 ≠ gb222) ∧ (b 12 = true → gb222 ≠ gb213) ∧ (b 13 = true → w'.heap[gb222]? = some (.cells #[.int .i8 t214, .int .i8 t215, .int .i8 t216, .int .i8 t217, .int .i8 t218, .int .i8 t219] 44 (0, 0))) ∧ (b 12 = true → (m12_ : Value) = .pointer (some ⟨gb222, 0, none⟩))) HT_.out HW_.out (by kernel_rfl) (by kernel_rfl) ?_ ?_ ?_
  ·exact ⟨0, .bool false, by simp only [putSel, Bool.false_eq_true, if_false], BK211.out, BK212.out, BK213.out, HI0.out, HK.out, HB.out, fun h_ => absurd h_ (by decide), fun h_ => absurd h_ (by decide), fun h_ => absurd h_ (by decide), fun h_ => absurd h_ (by decide), fun h_ => absurd h_ (by decide), fun h_ => absurd h_ (by decide), fun h_ => absurd h_ (by decide), fun h_ => absurd h_ (by decide), fun h_ => absurd h_ (by decide), fun h_ => absurd h_ (by decide), fun h_ => absurd h_ (by decide), fun h_ => absurd h_ (by decide), fun h_ => absurd h_ (by decide)⟩
  ·skip
   clear BK211 BK212 BK213 HB HI0 HK
   refine steps_cons ?_ ?_
   ·rintro b a w' ⟨gb222, m12_, ha, Q_BK211, Q_BK212, Q_BK213, Q_HI0, Q_HK, Q_HB, Q_BK222, Q_GW222, Q_GE222, Q_NB0_222, Q_NB222_0, Q_NB211_222, Q_NB222_211, Q_NB212_222, Q_NB222_212, Q_NB213_222, Q_NB222_213, Q_BK222_e13, Q_X12_⟩ hb_ hon hoff
    refine ⟨_, rfl, fun K hK => ?_⟩
    have e5 : a.tmps[5]? = some (.pointer (some ⟨gb211, 0, none⟩)) := by rw [ha]; exact (putSel_off rfl).trans rfl
    replace ha := Aside0.mk ha
    have BK211 := Aside0.mk Q_BK211
    have BK212 := Aside0.mk Q_BK212
    have BK213 := Aside0.mk Q_BK213
    have HI0 := Aside0.mk Q_HI0
    have HK := Aside0.mk Q_HK
    have HB := Aside0.mk Q_HB
    have hc0_ : w'.heap[gb211]? = some (.cells (a1).A 38 (0, 0)) := BK211.out
    refine value_ (w1 := w') (v := VO38 a1) (by rfl) rfl ?_ ?_
    ·first | (refine Eq.trans (AR.exec_load_blk rfl (by first | (go_simp; done) | (go_simp; rfl)) hc0_ Try.underlying38 rfl (szO38 _)) ?_; rfl) | (go_simp; (try simp only [i64_w]); try rfl)
    refine hK.out _ _ ⟨gb222, m12_, (by rw [ha.out]; exact putSel_upk 0 hb_ rfl rfl rfl), Q_BK211, Q_BK212, Q_BK213, Q_HI0, Q_HK, Q_HB, Q_BK222, Q_GW222, Q_GE222, Q_NB0_222, Q_NB222_0, Q_NB211_222, Q_NB222_211, Q_NB212_222, Q_NB222_212, Q_NB213_222, Q_NB222_213, fun h0_ => absurd ((hoff 13 (by kernel_rfl)).symm.trans h0_) (by decide), Q_X12_⟩
   refine steps_cons ?_ ?_
   ·rintro b a w' ⟨gb222, m12_, ha, Q_BK211, Q_BK212, Q_BK213, Q_HI0, Q_HK, Q_HB, Q_BK222, Q_GW222, Q_GE222, Q_NB0_222, Q_NB222_0, Q_NB211_222, Q_NB222_211, Q_NB212_222, Q_NB222_212, Q_NB213_222, Q_NB222_213, Q_BK222_e13, Q_X12_⟩ hb_ hon hoff
    refine ⟨_, rfl, fun K hK => ?_⟩
    have e6 : a.tmps[6]? = some (.pointer (some ⟨gb212, 0, none⟩)) := by rw [ha]; exact (putSel_off rfl).trans rfl
    replace ha := Aside0.mk ha
    have BK211 := Aside0.mk Q_BK211
    have BK212 := Aside0.mk Q_BK212
    have BK213 := Aside0.mk Q_BK213
    have HI0 := Aside0.mk Q_HI0
    have HK := Aside0.mk Q_HK
    have HB := Aside0.mk Q_HB
    have hc0_ : w'.heap[gb212]? = some (.cells (a2).A 40 (0, 0)) := BK212.out
    refine value_ (w1 := w') (v := VO40 a2) (by rfl) rfl ?_ ?_
    ·first | (refine Eq.trans (AR.exec_load_blk rfl (by first | (go_simp; done) | (go_simp; rfl)) hc0_ Try.underlying40 rfl (szO40 _)) ?_; rfl) | (go_simp; (try simp only [i64_w]); try rfl)
    refine hK.out _ _ ⟨gb222, m12_, (by rw [ha.out]; exact putSel_upk 1 hb_ rfl rfl rfl), Q_BK211, Q_BK212, Q_BK213, Q_HI0, Q_HK, Q_HB, Q_BK222, Q_GW222, Q_GE222, Q_NB0_222, Q_NB222_0, Q_NB211_222, Q_NB222_211, Q_NB212_222, Q_NB222_212, Q_NB213_222, Q_NB222_213, fun h0_ => absurd ((hoff 13 (by kernel_rfl)).symm.trans h0_) (by decide), Q_X12_⟩
   refine steps_cons ?_ ?_
   ·rintro b a w' ⟨gb222, m12_, ha, Q_BK211, Q_BK212, Q_BK213, Q_HI0, Q_HK, Q_HB, Q_BK222, Q_GW222, Q_GE222, Q_NB0_222, Q_NB222_0, Q_NB211_222, Q_NB222_211, Q_NB212_222, Q_NB222_212, Q_NB213_222, Q_NB222_213, Q_BK222_e13, Q_X12_⟩ hb_ hon hoff
    refine ⟨_, rfl, fun K hK => ?_⟩
    have e19 : a.tmps[19]? = some (.pointer (some ⟨g, 0, none⟩)) := by rw [ha]; exact (putSel_off rfl).trans rfl
    replace ha := Aside0.mk ha
    have BK211 := Aside0.mk Q_BK211
    have BK212 := Aside0.mk Q_BK212
    have BK213 := Aside0.mk Q_BK213
    have HI0 := Aside0.mk Q_HI0
    have HK := Aside0.mk Q_HK
    have HB := Aside0.mk Q_HB
    refine value_ (w1 := w') (v := .pointer (some ⟨g, 0, none⟩)) (by rfl) rfl ?_ ?_
    ·go_simp
     (try simp only [i64_w])
     try rfl
    refine hK.out _ _ ⟨gb222, m12_, (by rw [ha.out]; exact putSel_upk 2 hb_ rfl rfl rfl), Q_BK211, Q_BK212, Q_BK213, Q_HI0, Q_HK, Q_HB, Q_BK222, Q_GW222, Q_GE222, Q_NB0_222, Q_NB222_0, Q_NB211_222, Q_NB222_211, Q_NB212_222, Q_NB222_212, Q_NB213_222, Q_NB222_213, fun h0_ => absurd ((hoff 13 (by kernel_rfl)).symm.trans h0_) (by decide), Q_X12_⟩
   refine steps_cons ?_ ?_
   ·rintro b a w' ⟨gb222, m12_, ha, Q_BK211, Q_BK212, Q_BK213, Q_HI0, Q_HK, Q_HB, Q_BK222, Q_GW222, Q_GE222, Q_NB0_222, Q_NB222_0, Q_NB211_222, Q_NB222_211, Q_NB212_222, Q_NB222_212, Q_NB213_222, Q_NB222_213, Q_BK222_e13, Q_X12_⟩ hb_ hon hoff
    refine ⟨_, rfl, fun K hK => ?_⟩
    have e20 : a.tmps[20]? = some (.pointer (some ⟨g, 0, none⟩)) := by rw [ha]; exact putSel_on (e := (3, 20, .pointer (some ⟨g, 0, none⟩))) 2 rfl rfl (hon 3 (by kernel_rfl)) rfl
    replace ha := Aside0.mk ha
    have BK211 := Aside0.mk Q_BK211
    have BK212 := Aside0.mk Q_BK212
    have BK213 := Aside0.mk Q_BK213
    have HI0 := Aside0.mk Q_HI0
    have HK := Aside0.mk Q_HK
    have HB := Aside0.mk Q_HB
    refine value_ (w1 := w') (v := .pointer (some ⟨g, 0, none⟩)) (by rfl) rfl ?_ ?_
    ·go_simp
     (try simp only [i64_w])
     try rfl
    refine hK.out _ _ ⟨gb222, m12_, (by rw [ha.out]; exact putSel_upk 3 hb_ rfl rfl rfl), Q_BK211, Q_BK212, Q_BK213, Q_HI0, Q_HK, Q_HB, Q_BK222, Q_GW222, Q_GE222, Q_NB0_222, Q_NB222_0, Q_NB211_222, Q_NB222_211, Q_NB212_222, Q_NB222_212, Q_NB213_222, Q_NB222_213, fun h0_ => absurd ((hoff 13 (by kernel_rfl)).symm.trans h0_) (by decide), Q_X12_⟩
   refine steps_cons ?_ ?_
   ·rintro b a w' ⟨gb222, m12_, ha, Q_BK211, Q_BK212, Q_BK213, Q_HI0, Q_HK, Q_HB, Q_BK222, Q_GW222, Q_GE222, Q_NB0_222, Q_NB222_0, Q_NB211_222, Q_NB222_211, Q_NB212_222, Q_NB222_212, Q_NB213_222, Q_NB222_213, Q_BK222_e13, Q_X12_⟩ hb_ hon hoff
    refine ⟨_, rfl, fun K hK => ?_⟩
    have e21 : a.tmps[21]? = some (.pointer (some ⟨g, 0, none⟩)) := by rw [ha]; exact putSel_on (e := (4, 21, .pointer (some ⟨g, 0, none⟩))) 3 rfl rfl (hon 4 (by kernel_rfl)) rfl
    replace ha := Aside0.mk ha
    have BK211 := Aside0.mk Q_BK211
    have BK212 := Aside0.mk Q_BK212
    have BK213 := Aside0.mk Q_BK213
    have HI0 := Aside0.mk Q_HI0
    have HK := Aside0.mk Q_HK
    have HB := Aside0.mk Q_HB
    have hc0_ : w'.cell? ⟨g, 0, none⟩ = some (.int .i8 s0_0) := (by obtain ⟨HG_, _⟩ := HI0.out; exact cellS89_0 HG_)
    have hc1_ : w'.cell? ⟨g, 1, none⟩ = some (.int .i8 s0_1) := (by obtain ⟨HG_, _⟩ := HI0.out; exact cellS89_1 HG_)
    have hc2_ : w'.cell? ⟨g, 2, none⟩ = some (.int .i8 s0_2) := (by obtain ⟨HG_, _⟩ := HI0.out; exact cellS89_2 HG_)
    have hc3_ : w'.cell? ⟨g, 3, none⟩ = some (.int .i8 s0_3) := (by obtain ⟨HG_, _⟩ := HI0.out; exact cellS89_3 HG_)
    have hc4_ : w'.cell? ⟨g, 4, none⟩ = some (.int .i8 s0_4) := (by obtain ⟨HG_, _⟩ := HI0.out; exact cellS89_4 HG_)
    have hc5_ : w'.cell? ⟨g, 5, none⟩ = some (.int .i8 s0_5) := (by obtain ⟨HG_, _⟩ := HI0.out; exact cellS89_5 HG_)
    have hc6_ : w'.cell? ⟨g, 6, none⟩ = some (.bool false) := (by obtain ⟨HG_, _⟩ := HI0.out; exact cellS89_6 HG_)
    refine value_ (w1 := w') (v := .agg #[.int .i8 s0_0, .int .i8 s0_1, .int .i8 s0_2, .int .i8 s0_3, .int .i8 s0_4, .int .i8 s0_5]) (by rfl) rfl ?_ ?_
    ·go_simp
     (try simp only [i64_w])
     try rfl
    refine hK.out _ _ ⟨gb222, m12_, (by rw [ha.out]; exact putSel_upk 4 hb_ rfl rfl rfl), Q_BK211, Q_BK212, Q_BK213, Q_HI0, Q_HK, Q_HB, Q_BK222, Q_GW222, Q_GE222, Q_NB0_222, Q_NB222_0, Q_NB211_222, Q_NB222_211, Q_NB212_222, Q_NB222_212, Q_NB213_222, Q_NB222_213, fun h0_ => absurd ((hoff 13 (by kernel_rfl)).symm.trans h0_) (by decide), Q_X12_⟩
   refine steps_cons ?_ ?_
   ·rintro b a w' ⟨gb222, m12_, ha, Q_BK211, Q_BK212, Q_BK213, Q_HI0, Q_HK, Q_HB, Q_BK222, Q_GW222, Q_GE222, Q_NB0_222, Q_NB222_0, Q_NB211_222, Q_NB222_211, Q_NB212_222, Q_NB222_212, Q_NB213_222, Q_NB222_213, Q_BK222_e13, Q_X12_⟩ hb_ hon hoff
    refine ⟨_, rfl, fun K hK => ?_⟩
    have e7 : a.tmps[7]? = some (.pointer (some ⟨gb213, 0, none⟩)) := by rw [ha]; exact (putSel_off rfl).trans rfl
    replace ha := Aside0.mk ha
    have BK211 := Aside0.mk Q_BK211
    have BK212 := Aside0.mk Q_BK212
    have BK213 := Aside0.mk Q_BK213
    have HI0 := Aside0.mk Q_HI0
    have HK := Aside0.mk Q_HK
    have HB := Aside0.mk Q_HB
    have hc0_ : w'.cell? ⟨gb213, 0, none⟩ = some (.int .i8 a3_0) := (blk_cell BK213.out 0).trans rfl
    have hc1_ : w'.cell? ⟨gb213, 1, none⟩ = some (.int .i8 a3_1) := (blk_cell BK213.out 1).trans rfl
    refine value_ (w1 := w') (v := .agg #[.int .i8 a3_0, .int .i8 a3_1]) (by rfl) rfl ?_ ?_
    ·go_simp
     (try simp only [i64_w])
     try rfl
    refine hK.out _ _ ⟨gb222, m12_, (by rw [ha.out]; exact putSel_upk 5 hb_ rfl rfl rfl), Q_BK211, Q_BK212, Q_BK213, Q_HI0, Q_HK, Q_HB, Q_BK222, Q_GW222, Q_GE222, Q_NB0_222, Q_NB222_0, Q_NB211_222, Q_NB222_211, Q_NB212_222, Q_NB222_212, Q_NB213_222, Q_NB222_213, fun h0_ => absurd ((hoff 13 (by kernel_rfl)).symm.trans h0_) (by decide), Q_X12_⟩
   refine steps_cons ?_ ?_
   ·rintro b a w' ⟨gb222, m12_, ha, Q_BK211, Q_BK212, Q_BK213, Q_HI0, Q_HK, Q_HB, Q_BK222, Q_GW222, Q_GE222, Q_NB0_222, Q_NB222_0, Q_NB211_222, Q_NB222_211, Q_NB212_222, Q_NB222_212, Q_NB213_222, Q_NB222_213, Q_BK222_e13, Q_X12_⟩ hb_ hon hoff
    refine ⟨_, rfl, fun K hK => ?_⟩
    have e17 : a.tmps[17]? = some (VO38 a1) := by rw [ha]; exact putSel_on (e := (0, 17, VO38 a1)) 0 rfl rfl (hon 0 (by kernel_rfl)) rfl
    have e18 : a.tmps[18]? = some (VO40 a2) := by rw [ha]; exact putSel_on (e := (1, 18, VO40 a2)) 1 rfl rfl (hon 1 (by kernel_rfl)) rfl
    have e22 : a.tmps[22]? = some (.agg #[.int .i8 s0_0, .int .i8 s0_1, .int .i8 s0_2, .int .i8 s0_3, .int .i8 s0_4, .int .i8 s0_5]) := by rw [ha]; exact putSel_on (e := (5, 22, .agg #[.int .i8 s0_0, .int .i8 s0_1, .int .i8 s0_2, .int .i8 s0_3, .int .i8 s0_4, .int .i8 s0_5])) 4 rfl rfl (hon 5 (by kernel_rfl)) rfl
    have e23 : a.tmps[23]? = some (.agg #[.int .i8 a3_0, .int .i8 a3_1]) := by rw [ha]; exact putSel_on (e := (6, 23, .agg #[.int .i8 a3_0, .int .i8 a3_1])) 5 rfl rfl (hon 6 (by kernel_rfl)) rfl
    replace ha := Aside0.mk ha
    have BK211 := Aside0.mk Q_BK211
    have BK212 := Aside0.mk Q_BK212
    have BK213 := Aside0.mk Q_BK213
    have HI0 := Aside0.mk Q_HI0
    have HK := Aside0.mk Q_HK
    have HB := Aside0.mk Q_HB
    refine goes_ Try.func72 (by kernel_rfl) rfl #[VO38 a1, VO40 a2, .agg #[.int .i8 s0_0, .int .i8 s0_1, .int .i8 s0_2, .int .i8 s0_3, .int .i8 s0_4, .int .i8 s0_5], .agg #[.int .i8 a3_0, .int .i8 a3_1]] (by rfl) rfl rfl (by first | (simp only [List.map_toArray, List.map_cons, List.map_nil, Act.eval, Array.getD_eq_getD_getElem?, Option.getD_some, e17, e18, e22, e23]; done) | (simp only [List.map_toArray, List.map_cons, List.map_nil, Act.eval, Array.getD_eq_getD_getElem?, Option.getD_some, e17, e18, e22, e23]; rfl)) ?_
    with_reducible refine (impl_drift.calls a1 a2 s0_0 s0_1 s0_2 s0_3 s0_4 s0_5 a3_0 a3_1 t214 t215 t216 t217 t218 t219 t220 t221 _ A10.out).mono ?_
    rintro e w16 ⟨rfl, hb⟩
    refine ⟨_, rfl, ?_⟩
    have n0_ := Aside0.mk (IsS89.below (by repeat (first | (with_reducible first | exact HI0.out | apply IsS89.alloc | apply IsS89.drewN | apply IsS89.drew | apply IsS89.set_0 | apply IsS89.set_1 | apply IsS89.set_2 | apply IsS89.set_3 | apply IsS89.set_4 | apply IsS89.set_5 | apply IsS89.set_6 | refine IsS89.far ?_ NB0_211.out _ | refine IsS89.far ?_ NB0_212.out _ | refine IsS89.far ?_ NB0_213.out _) | exact HI0.out)) hb)
    have n1_ := Aside0.mk (sqB BK211.out hb)
    have n2_ := Aside0.mk (sqB BK212.out hb)
    have n3_ := Aside0.mk (sqB BK213.out hb)
    have n4_ := Aside0.mk (KeepBut.trans (by repeat (first | (with_reducible first | exact HK.out | apply KeepBut.set_ | apply keep_drewN | apply keep_drew | apply keep_alloc | refine keep_far ?_ GW211.out _ | refine keep_far ?_ GW212.out _ | refine keep_far ?_ GW213.out _) | exact HK.out)) (KeepBut.of_below hb g none) (.inl rfl))
    have n5_ := Aside0.mk (below_step (by repeat (first | (with_reducible first | exact HB.out | apply below_alloc | apply pw_below_drewN | apply below_drew1 | refine below_set ?_ (IsS89.ge HI0.out) | refine below_set ?_ GE211.out | refine below_set ?_ GE212.out | refine below_set ?_ GE213.out) | exact HB.out)) hb)
    have z_BK222 := fun (h0_ : b 12 = true) (h1_ : b 13 = false) => (show w16.heap[gb222]? = some (.cells #[.int .i8 0, .int .i8 0, .int .i8 0, .int .i8 0, .int .i8 0, .int .i8 0] 44 (0, 0)) from by first | exact (blk_below (g := gb222) (o := .cells #[.int .i8 0, .int .i8 0, .int .i8 0, .int .i8 0, .int .i8 0, .int .i8 0] 44 (0, 0)) (by (with_reducible repeat (first | refine blk_drewN ?_ _ | refine blk_drew ?_ | refine blk_alloc ?_ _)); exact (Q_BK222 h0_ h1_)) hb))
    clear HI0
    clear BK211
    clear BK212
    clear BK213
    clear HK
    clear HB
    have HI0 := n0_
    have BK211 := n1_
    have BK212 := n2_
    have BK213 := n3_
    have HK := n4_
    have HB := n5_
    clear n0_ n1_ n2_ n3_ n4_ n5_
    (try clear hb)
    (try clear hb2)
    (try clear hk)
    (try clear hi)
    refine hK.out _ _ ⟨gb222, m12_, (by rw [ha.out]; exact putSel_upk 6 hb_ rfl rfl rfl), (sqO BK211.out), (sqO BK212.out), (sqO BK213.out), (by repeat (first | (with_reducible first | exact HI0.out | apply IsS89.alloc | apply IsS89.drewN | apply IsS89.drew | apply IsS89.set_0 | apply IsS89.set_1 | apply IsS89.set_2 | apply IsS89.set_3 | apply IsS89.set_4 | apply IsS89.set_5 | apply IsS89.set_6 | refine IsS89.far ?_ NB0_211.out _ | refine IsS89.far ?_ NB0_212.out _ | refine IsS89.far ?_ NB0_213.out _) | exact HI0.out)), (by repeat (first | (with_reducible first | exact HK.out | apply KeepBut.set_ | apply keep_drewN | apply keep_drew | apply keep_alloc | refine keep_far ?_ GW211.out _ | refine keep_far ?_ GW212.out _ | refine keep_far ?_ GW213.out _) | exact HK.out)), (by repeat (first | (with_reducible first | exact HB.out | apply below_alloc | apply pw_below_drewN | apply below_drew1 | refine below_set ?_ (IsS89.ge HI0.out) | refine below_set ?_ GE211.out | refine below_set ?_ GE212.out | refine below_set ?_ GE213.out) | exact HB.out)), z_BK222, Q_GW222, Q_GE222, Q_NB0_222, Q_NB222_0, Q_NB211_222, Q_NB222_211, Q_NB212_222, Q_NB222_212, Q_NB213_222, Q_NB222_213, fun h0_ => absurd ((hoff 13 (by kernel_rfl)).symm.trans h0_) (by decide), Q_X12_⟩
   refine steps_cons ?_ ?_
   ·rintro b a w' ⟨gb222, m12_, ha, Q_BK211, Q_BK212, Q_BK213, Q_HI0, Q_HK, Q_HB, Q_BK222, Q_GW222, Q_GE222, Q_NB0_222, Q_NB222_0, Q_NB211_222, Q_NB222_211, Q_NB212_222, Q_NB222_212, Q_NB213_222, Q_NB222_213, Q_BK222_e13, Q_X12_⟩ hb_ hon hoff
    refine ⟨_, rfl, fun K hK => ?_⟩
    have e24 : a.tmps[24]? = some (.tuple #[.agg #[.int .i8 t214, .int .i8 t215, .int .i8 t216, .int .i8 t217, .int .i8 t218, .int .i8 t219], .bool t220, .bool t221]) := by rw [ha]; exact putSel_on (e := (7, 24, .tuple #[.agg #[.int .i8 t214, .int .i8 t215, .int .i8 t216, .int .i8 t217, .int .i8 t218, .int .i8 t219], .bool t220, .bool t221])) 6 rfl rfl (hon 7 (by kernel_rfl)) rfl
    replace ha := Aside0.mk ha
    have BK211 := Aside0.mk Q_BK211
    have BK212 := Aside0.mk Q_BK212
    have BK213 := Aside0.mk Q_BK213
    have HI0 := Aside0.mk Q_HI0
    have HK := Aside0.mk Q_HK
    have HB := Aside0.mk Q_HB
    refine value_ (w1 := w') (v := .tuple #[.agg #[.int .i8 t214, .int .i8 t215, .int .i8 t216, .int .i8 t217, .int .i8 t218, .int .i8 t219], .bool t220, .bool t221]) (by rfl) rfl ?_ ?_
    ·go_simp
     (try simp only [i64_w])
     try rfl
    refine hK.out _ _ ⟨gb222, m12_, (by rw [ha.out]; exact putSel_upk 7 hb_ rfl rfl rfl), Q_BK211, Q_BK212, Q_BK213, Q_HI0, Q_HK, Q_HB, Q_BK222, Q_GW222, Q_GE222, Q_NB0_222, Q_NB222_0, Q_NB211_222, Q_NB222_211, Q_NB212_222, Q_NB222_212, Q_NB213_222, Q_NB222_213, fun h0_ => absurd ((hoff 13 (by kernel_rfl)).symm.trans h0_) (by decide), Q_X12_⟩
   refine steps_cons ?_ ?_
   ·rintro b a w' ⟨gb222, m12_, ha, Q_BK211, Q_BK212, Q_BK213, Q_HI0, Q_HK, Q_HB, Q_BK222, Q_GW222, Q_GE222, Q_NB0_222, Q_NB222_0, Q_NB211_222, Q_NB222_211, Q_NB212_222, Q_NB222_212, Q_NB213_222, Q_NB222_213, Q_BK222_e13, Q_X12_⟩ hb_ hon hoff
    refine ⟨_, rfl, fun K hK => ?_⟩
    have e16 : a.tmps[16]? = some (.tuple #[.agg #[.int .i8 t214, .int .i8 t215, .int .i8 t216, .int .i8 t217, .int .i8 t218, .int .i8 t219], .bool t220, .bool t221]) := by rw [ha]; exact putSel_on (e := (8, 16, .tuple #[.agg #[.int .i8 t214, .int .i8 t215, .int .i8 t216, .int .i8 t217, .int .i8 t218, .int .i8 t219], .bool t220, .bool t221])) 7 rfl rfl (hon 8 (by kernel_rfl)) rfl
    replace ha := Aside0.mk ha
    have BK211 := Aside0.mk Q_BK211
    have BK212 := Aside0.mk Q_BK212
    have BK213 := Aside0.mk Q_BK213
    have HI0 := Aside0.mk Q_HI0
    have HK := Aside0.mk Q_HK
    have HB := Aside0.mk Q_HB
    refine value_ (w1 := w') (v := .agg #[.int .i8 t214, .int .i8 t215, .int .i8 t216, .int .i8 t217, .int .i8 t218, .int .i8 t219]) (by rfl) rfl ?_ ?_
    ·go_simp
     (try simp only [i64_w])
     try rfl
    refine hK.out _ _ ⟨gb222, m12_, (by rw [ha.out]; exact putSel_upk 8 hb_ rfl rfl rfl), Q_BK211, Q_BK212, Q_BK213, Q_HI0, Q_HK, Q_HB, Q_BK222, Q_GW222, Q_GE222, Q_NB0_222, Q_NB222_0, Q_NB211_222, Q_NB222_211, Q_NB212_222, Q_NB222_212, Q_NB213_222, Q_NB222_213, fun h0_ => absurd ((hoff 13 (by kernel_rfl)).symm.trans h0_) (by decide), Q_X12_⟩
   refine steps_cons ?_ ?_
   ·rintro b a w' ⟨gb222, m12_, ha, Q_BK211, Q_BK212, Q_BK213, Q_HI0, Q_HK, Q_HB, Q_BK222, Q_GW222, Q_GE222, Q_NB0_222, Q_NB222_0, Q_NB211_222, Q_NB222_211, Q_NB212_222, Q_NB222_212, Q_NB213_222, Q_NB222_213, Q_BK222_e13, Q_X12_⟩ hb_ hon hoff
    refine ⟨_, rfl, fun K hK => ?_⟩
    have e16 : a.tmps[16]? = some (.tuple #[.agg #[.int .i8 t214, .int .i8 t215, .int .i8 t216, .int .i8 t217, .int .i8 t218, .int .i8 t219], .bool t220, .bool t221]) := by rw [ha]; exact putSel_on (e := (8, 16, .tuple #[.agg #[.int .i8 t214, .int .i8 t215, .int .i8 t216, .int .i8 t217, .int .i8 t218, .int .i8 t219], .bool t220, .bool t221])) 7 rfl rfl (hon 8 (by kernel_rfl)) rfl
    replace ha := Aside0.mk ha
    have BK211 := Aside0.mk Q_BK211
    have BK212 := Aside0.mk Q_BK212
    have BK213 := Aside0.mk Q_BK213
    have HI0 := Aside0.mk Q_HI0
    have HK := Aside0.mk Q_HK
    have HB := Aside0.mk Q_HB
    refine value_ (w1 := w') (v := .bool t220) (by rfl) rfl ?_ ?_
    ·go_simp
     (try simp only [i64_w])
     try rfl
    refine hK.out _ _ ⟨gb222, m12_, (by rw [ha.out]; exact putSel_upk 9 hb_ rfl rfl rfl), Q_BK211, Q_BK212, Q_BK213, Q_HI0, Q_HK, Q_HB, Q_BK222, Q_GW222, Q_GE222, Q_NB0_222, Q_NB222_0, Q_NB211_222, Q_NB222_211, Q_NB212_222, Q_NB222_212, Q_NB213_222, Q_NB222_213, Q_BK222_e13, Q_X12_⟩
   refine steps_cons ?_ ?_
   ·rintro b a w' ⟨gb222, m12_, ha, Q_BK211, Q_BK212, Q_BK213, Q_HI0, Q_HK, Q_HB, Q_BK222, Q_GW222, Q_GE222, Q_NB0_222, Q_NB222_0, Q_NB211_222, Q_NB222_211, Q_NB212_222, Q_NB222_212, Q_NB213_222, Q_NB222_213, Q_BK222_e13, Q_X12_⟩ hb_ hon hoff
    refine ⟨_, rfl, fun K hK => ?_⟩
    have e16 : a.tmps[16]? = some (.tuple #[.agg #[.int .i8 t214, .int .i8 t215, .int .i8 t216, .int .i8 t217, .int .i8 t218, .int .i8 t219], .bool t220, .bool t221]) := by rw [ha]; exact putSel_on (e := (8, 16, .tuple #[.agg #[.int .i8 t214, .int .i8 t215, .int .i8 t216, .int .i8 t217, .int .i8 t218, .int .i8 t219], .bool t220, .bool t221])) 7 rfl rfl (hon 8 (by kernel_rfl)) rfl
    replace ha := Aside0.mk ha
    have BK211 := Aside0.mk Q_BK211
    have BK212 := Aside0.mk Q_BK212
    have BK213 := Aside0.mk Q_BK213
    have HI0 := Aside0.mk Q_HI0
    have HK := Aside0.mk Q_HK
    have HB := Aside0.mk Q_HB
    refine value_ (w1 := w') (v := .bool t221) (by rfl) rfl ?_ ?_
    ·go_simp
     (try simp only [i64_w])
     try rfl
    refine hK.out _ _ ⟨gb222, m12_, (by rw [ha.out]; exact putSel_upk 10 hb_ rfl rfl rfl), Q_BK211, Q_BK212, Q_BK213, Q_HI0, Q_HK, Q_HB, Q_BK222, Q_GW222, Q_GE222, Q_NB0_222, Q_NB222_0, Q_NB211_222, Q_NB222_211, Q_NB212_222, Q_NB222_212, Q_NB213_222, Q_NB222_213, Q_BK222_e13, Q_X12_⟩
   refine steps_cons ?_ ?_
   ·rintro b a w' ⟨gb222, m12_, ha, Q_BK211, Q_BK212, Q_BK213, Q_HI0, Q_HK, Q_HB, Q_BK222, Q_GW222, Q_GE222, Q_NB0_222, Q_NB222_0, Q_NB211_222, Q_NB222_211, Q_NB212_222, Q_NB222_212, Q_NB213_222, Q_NB222_213, Q_BK222_e13, Q_X12_⟩ hb_ hon hoff
    refine ⟨_, rfl, fun K hK => ?_⟩
    replace ha := Aside0.mk ha
    have BK211 := Aside0.mk Q_BK211
    have BK212 := Aside0.mk Q_BK212
    have BK213 := Aside0.mk Q_BK213
    have HI0 := Aside0.mk Q_HI0
    have HK := Aside0.mk Q_HK
    have HB := Aside0.mk Q_HB
    refine box_step ?hg (N := 9) ?hd (cs := #[.int .i8 0, .int .i8 0, .int .i8 0, .int .i8 0, .int .i8 0, .int .i8 0]) (t := 44) ?hr ?_; (case hd => rfl); (case hg => rfl); (case hr => first | (go_simp; done) | (go_simp; rfl))
    intro gb222 hg w16 hbox hb
    have n0_ := Aside0.mk (IsS89.below (by repeat (first | (with_reducible first | exact HI0.out | apply IsS89.alloc | apply IsS89.drewN | apply IsS89.drew | apply IsS89.set_0 | apply IsS89.set_1 | apply IsS89.set_2 | apply IsS89.set_3 | apply IsS89.set_4 | apply IsS89.set_5 | apply IsS89.set_6 | refine IsS89.far ?_ NB0_211.out _ | refine IsS89.far ?_ NB0_212.out _ | refine IsS89.far ?_ NB0_213.out _) | exact HI0.out)) hb)
    have n1_ := Aside0.mk (sqB BK211.out hb)
    have n2_ := Aside0.mk (sqB BK212.out hb)
    have n3_ := Aside0.mk (sqB BK213.out hb)
    have n4_ := Aside0.mk (KeepBut.trans (by repeat (first | (with_reducible first | exact HK.out | apply KeepBut.set_ | apply keep_drewN | apply keep_drew | apply keep_alloc | refine keep_far ?_ GW211.out _ | refine keep_far ?_ GW212.out _ | refine keep_far ?_ GW213.out _) | exact HK.out)) (KeepBut.of_below hb g none) (.inl rfl))
    have n5_ := Aside0.mk (below_step (by repeat (first | (with_reducible first | exact HB.out | apply below_alloc | apply pw_below_drewN | apply below_drew1 | refine below_set ?_ (IsS89.ge HI0.out) | refine below_set ?_ GE211.out | refine below_set ?_ GE212.out | refine below_set ?_ GE213.out) | exact HB.out)) hb)
    have n6_ := Aside0.mk (hbox)
    have n7_ := Aside0.mk ((by rw [hg]; exact (keep_size (w := w) (g := g) (row := none) (by repeat (first | (with_reducible first | exact HK.out | apply KeepBut.set_ | apply keep_drewN | apply keep_drew | apply keep_alloc | refine keep_far ?_ GW211.out _ | refine keep_far ?_ GW212.out _ | refine keep_far ?_ GW213.out _) | exact HK.out))) : w.heap.size ≤ gb222))
    have n8_ := Aside0.mk ((Nat.le_trans HW0.out (by rw [hg]; exact (keep_size (w := w) (g := g) (row := none) (by repeat (first | (with_reducible first | exact HK.out | apply KeepBut.set_ | apply keep_drewN | apply keep_drew | apply keep_alloc | refine keep_far ?_ GW211.out _ | refine keep_far ?_ GW212.out _ | refine keep_far ?_ GW213.out _) | exact HK.out))) : w.heap.size ≤ gb222) : w0.heap.size ≤ gb222))
    have n9_ := Aside0.mk ((by rw [hg]; exact Nat.ne_of_lt (blk_lt (g := gb211) (o := .cells (a1).A 38 (0, 0)) (sqO BK211.out)) : gb211 ≠ gb222))
    have n10_ := Aside0.mk ((by rw [hg]; exact Nat.ne_of_gt (blk_lt (g := gb211) (o := .cells (a1).A 38 (0, 0)) (sqO BK211.out)) : gb222 ≠ gb211))
    have n11_ := Aside0.mk ((by rw [hg]; exact Nat.ne_of_lt (blk_lt (g := gb212) (o := .cells (a2).A 40 (0, 0)) (sqO BK212.out)) : gb212 ≠ gb222))
    have n12_ := Aside0.mk ((by rw [hg]; exact Nat.ne_of_gt (blk_lt (g := gb212) (o := .cells (a2).A 40 (0, 0)) (sqO BK212.out)) : gb222 ≠ gb212))
    have n13_ := Aside0.mk ((by rw [hg]; exact Nat.ne_of_lt (blk_lt (g := gb213) (o := .cells #[.int .i8 a3_0, .int .i8 a3_1] 78 (0, 0)) (sqO BK213.out)) : gb213 ≠ gb222))
    have n14_ := Aside0.mk ((by rw [hg]; exact Nat.ne_of_gt (blk_lt (g := gb213) (o := .cells #[.int .i8 a3_0, .int .i8 a3_1] 78 (0, 0)) (sqO BK213.out)) : gb222 ≠ gb213))
    have n15_ := Aside0.mk ((by rw [hg]; exact Nat.ne_of_lt (IsS89.lt (show IsS89 w0 _ g s0_0 s0_1 s0_2 s0_3 s0_4 s0_5 false from by repeat (first | (with_reducible first | exact HI0.out | apply IsS89.alloc | apply IsS89.drewN | apply IsS89.drew | apply IsS89.set_0 | apply IsS89.set_1 | apply IsS89.set_2 | apply IsS89.set_3 | apply IsS89.set_4 | apply IsS89.set_5 | apply IsS89.set_6 | refine IsS89.far ?_ NB0_211.out _ | refine IsS89.far ?_ NB0_212.out _ | refine IsS89.far ?_ NB0_213.out _) | exact HI0.out))) : g ≠ gb222))
    have n16_ := Aside0.mk ((by rw [hg]; exact Nat.ne_of_gt (IsS89.lt (show IsS89 w0 _ g s0_0 s0_1 s0_2 s0_3 s0_4 s0_5 false from by repeat (first | (with_reducible first | exact HI0.out | apply IsS89.alloc | apply IsS89.drewN | apply IsS89.drew | apply IsS89.set_0 | apply IsS89.set_1 | apply IsS89.set_2 | apply IsS89.set_3 | apply IsS89.set_4 | apply IsS89.set_5 | apply IsS89.set_6 | refine IsS89.far ?_ NB0_211.out _ | refine IsS89.far ?_ NB0_212.out _ | refine IsS89.far ?_ NB0_213.out _) | exact HI0.out))) : gb222 ≠ g))
    clear HI0
    clear BK211
    clear BK212
    clear BK213
    clear HK
    clear HB
    have HI0 := n0_
    have BK211 := n1_
    have BK212 := n2_
    have BK213 := n3_
    have HK := n4_
    have HB := n5_
    have BK222 := n6_
    have GW222 := n7_
    have GE222 := n8_
    have NB211_222 := n9_
    have NB222_211 := n10_
    have NB212_222 := n11_
    have NB222_212 := n12_
    have NB213_222 := n13_
    have NB222_213 := n14_
    have NB0_222 := n15_
    have NB222_0 := n16_
    clear n0_ n1_ n2_ n3_ n4_ n5_ n6_ n7_ n8_ n9_ n10_ n11_ n12_ n13_ n14_ n15_ n16_
    clear hb hbox hg
    refine hK.out _ _ ⟨gb222, (.pointer (some ⟨gb222, 0, none⟩)), (by rw [ha.out]; exact putSel_upk 11 hb_ rfl rfl rfl), (sqO BK211.out), (sqO BK212.out), (sqO BK213.out), (by repeat (first | (with_reducible first | exact HI0.out | apply IsS89.alloc | apply IsS89.drewN | apply IsS89.drew | apply IsS89.set_0 | apply IsS89.set_1 | apply IsS89.set_2 | apply IsS89.set_3 | apply IsS89.set_4 | apply IsS89.set_5 | apply IsS89.set_6 | refine IsS89.far ?_ NB0_211.out _ | refine IsS89.far ?_ NB0_212.out _ | refine IsS89.far ?_ NB0_213.out _ | refine IsS89.far ?_ NB0_222.out _) | exact HI0.out)), (by repeat (first | (with_reducible first | exact HK.out | apply KeepBut.set_ | apply keep_drewN | apply keep_drew | apply keep_alloc | refine keep_far ?_ GW211.out _ | refine keep_far ?_ GW212.out _ | refine keep_far ?_ GW213.out _ | refine keep_far ?_ GW222.out _) | exact HK.out)), (by repeat (first | (with_reducible first | exact HB.out | apply below_alloc | apply pw_below_drewN | apply below_drew1 | refine below_set ?_ (IsS89.ge HI0.out) | refine below_set ?_ GE211.out | refine below_set ?_ GE212.out | refine below_set ?_ GE213.out | refine below_set ?_ GE222.out) | exact HB.out)), fun _ _ => (sqO BK222.out), fun _ => GW222.out, fun _ => GE222.out, fun _ => NB0_222.out, fun _ => NB222_0.out, fun _ => NB211_222.out, fun _ => NB222_211.out, fun _ => NB212_222.out, fun _ => NB222_212.out, fun _ => NB213_222.out, fun _ => NB222_213.out, fun h0_ => absurd ((hoff 13 (by kernel_rfl)).symm.trans h0_) (by decide), fun _ => rfl⟩
   refine steps_cons ?_ ?_
   ·rintro b a w' ⟨gb222, m12_, ha, Q_BK211, Q_BK212, Q_BK213, Q_HI0, Q_HK, Q_HB, Q_BK222, Q_GW222, Q_GE222, Q_NB0_222, Q_NB222_0, Q_NB211_222, Q_NB222_211, Q_NB212_222, Q_NB222_212, Q_NB213_222, Q_NB222_213, Q_BK222_e13, Q_X12_⟩ hb_ hon hoff
    refine ⟨_, rfl, fun K hK => ?_⟩
    have e9 : a.tmps[9]? = some (m12_) := by rw [ha]; exact putSel_on (e := (12, 9, m12_)) 11 rfl rfl (hon 12 (by kernel_rfl)) rfl
    rw [Q_X12_ (hon 12 (by kernel_rfl))] at e9
    have e25 : a.tmps[25]? = some (.agg #[.int .i8 t214, .int .i8 t215, .int .i8 t216, .int .i8 t217, .int .i8 t218, .int .i8 t219]) := by rw [ha]; exact putSel_on (e := (9, 25, .agg #[.int .i8 t214, .int .i8 t215, .int .i8 t216, .int .i8 t217, .int .i8 t218, .int .i8 t219])) 8 rfl rfl (hon 9 (by kernel_rfl)) rfl
    replace ha := Aside0.mk ha
    have BK211 := Aside0.mk Q_BK211
    have BK212 := Aside0.mk Q_BK212
    have BK213 := Aside0.mk Q_BK213
    have HI0 := Aside0.mk Q_HI0
    have HK := Aside0.mk Q_HK
    have HB := Aside0.mk Q_HB
    have BK222 := Aside0.mk (Q_BK222 (hon 12 (by kernel_rfl)) hb_)
    have GW222 := Aside0.mk (Q_GW222 (hon 12 (by kernel_rfl)))
    have GE222 := Aside0.mk (Q_GE222 (hon 12 (by kernel_rfl)))
    have NB0_222 := Aside0.mk (Q_NB0_222 (hon 12 (by kernel_rfl)))
    have NB222_0 := Aside0.mk (Q_NB222_0 (hon 12 (by kernel_rfl)))
    have NB211_222 := Aside0.mk (Q_NB211_222 (hon 12 (by kernel_rfl)))
    have NB222_211 := Aside0.mk (Q_NB222_211 (hon 12 (by kernel_rfl)))
    have NB212_222 := Aside0.mk (Q_NB212_222 (hon 12 (by kernel_rfl)))
    have NB222_212 := Aside0.mk (Q_NB222_212 (hon 12 (by kernel_rfl)))
    have NB213_222 := Aside0.mk (Q_NB213_222 (hon 12 (by kernel_rfl)))
    have NB222_213 := Aside0.mk (Q_NB222_213 (hon 12 (by kernel_rfl)))
    have hs19 : w'.cell? ⟨gb222, 0, none⟩ = some (.int .i8 0) := (blk_cell BK222.out 0).trans rfl
    have hfs19 := blk_frozen BK222.out 0
    have hns19_0 := NB211_222.out
    have hns19_1 := NB212_222.out
    have hns19_2 := NB213_222.out
    have hms19_0 := NB222_211.out
    have hms19_1 := NB222_212.out
    have hms19_2 := NB222_213.out
    have hs20 : w'.cell? ⟨gb222, 1, none⟩ = some (.int .i8 0) := (blk_cell BK222.out 1).trans rfl
    have hfs20 := blk_frozen BK222.out 1
    have hns20_0 := NB211_222.out
    have hns20_1 := NB212_222.out
    have hns20_2 := NB213_222.out
    have hms20_0 := NB222_211.out
    have hms20_1 := NB222_212.out
    have hms20_2 := NB222_213.out
    have hs21 : w'.cell? ⟨gb222, 2, none⟩ = some (.int .i8 0) := (blk_cell BK222.out 2).trans rfl
    have hfs21 := blk_frozen BK222.out 2
    have hns21_0 := NB211_222.out
    have hns21_1 := NB212_222.out
    have hns21_2 := NB213_222.out
    have hms21_0 := NB222_211.out
    have hms21_1 := NB222_212.out
    have hms21_2 := NB222_213.out
    have hs22 : w'.cell? ⟨gb222, 3, none⟩ = some (.int .i8 0) := (blk_cell BK222.out 3).trans rfl
    have hfs22 := blk_frozen BK222.out 3
    have hns22_0 := NB211_222.out
    have hns22_1 := NB212_222.out
    have hns22_2 := NB213_222.out
    have hms22_0 := NB222_211.out
    have hms22_1 := NB222_212.out
    have hms22_2 := NB222_213.out
    have hs23 : w'.cell? ⟨gb222, 4, none⟩ = some (.int .i8 0) := (blk_cell BK222.out 4).trans rfl
    have hfs23 := blk_frozen BK222.out 4
    have hns23_0 := NB211_222.out
    have hns23_1 := NB212_222.out
    have hns23_2 := NB213_222.out
    have hms23_0 := NB222_211.out
    have hms23_1 := NB222_212.out
    have hms23_2 := NB222_213.out
    have hs24 : w'.cell? ⟨gb222, 5, none⟩ = some (.int .i8 0) := (blk_cell BK222.out 5).trans rfl
    have hfs24 := blk_frozen BK222.out 5
    have hns24_0 := NB211_222.out
    have hns24_1 := NB212_222.out
    have hns24_2 := NB213_222.out
    have hms24_0 := NB222_211.out
    have hms24_1 := NB222_212.out
    have hms24_2 := NB222_213.out
    refine skip_ (w1 := ?_) (by rfl) rfl ?_ ?_
    rotate_left
    ·go_simp
     rfl
    refine hK.out _ _ ⟨gb222, m12_, (by rw [ha.out]; exact putSel_none (v := undef) rfl), (by (with_reducible repeat (first | refine blk_drewN ?_ _ | refine blk_drew ?_ | refine blk_alloc ?_ _)); refine blk_far ?_ NB211_222.out _; (with_reducible repeat (first | refine blk_drewN ?_ _ | refine blk_drew ?_ | refine blk_alloc ?_ _)); refine blk_far ?_ NB211_222.out _; (with_reducible repeat (first | refine blk_drewN ?_ _ | refine blk_drew ?_ | refine blk_alloc ?_ _)); refine blk_far ?_ NB211_222.out _; (with_reducible repeat (first | refine blk_drewN ?_ _ | refine blk_drew ?_ | refine blk_alloc ?_ _)); refine blk_far ?_ NB211_222.out _; (with_reducible repeat (first | refine blk_drewN ?_ _ | refine blk_drew ?_ | refine blk_alloc ?_ _)); refine blk_far ?_ NB211_222.out _; (with_reducible repeat (first | refine blk_drewN ?_ _ | refine blk_drew ?_ | refine blk_alloc ?_ _)); refine blk_far ?_ NB211_222.out _; (with_reducible repeat (first | refine blk_drewN ?_ _ | refine blk_drew ?_ | refine blk_alloc ?_ _)); exact BK211.out), (by (with_reducible repeat (first | refine blk_drewN ?_ _ | refine blk_drew ?_ | refine blk_alloc ?_ _)); refine blk_far ?_ NB212_222.out _; (with_reducible repeat (first | refine blk_drewN ?_ _ | refine blk_drew ?_ | refine blk_alloc ?_ _)); refine blk_far ?_ NB212_222.out _; (with_reducible repeat (first | refine blk_drewN ?_ _ | refine blk_drew ?_ | refine blk_alloc ?_ _)); refine blk_far ?_ NB212_222.out _; (with_reducible repeat (first | refine blk_drewN ?_ _ | refine blk_drew ?_ | refine blk_alloc ?_ _)); refine blk_far ?_ NB212_222.out _; (with_reducible repeat (first | refine blk_drewN ?_ _ | refine blk_drew ?_ | refine blk_alloc ?_ _)); refine blk_far ?_ NB212_222.out _; (with_reducible repeat (first | refine blk_drewN ?_ _ | refine blk_drew ?_ | refine blk_alloc ?_ _)); refine blk_far ?_ NB212_222.out _; (with_reducible repeat (first | refine blk_drewN ?_ _ | refine blk_drew ?_ | refine blk_alloc ?_ _)); exact BK212.out), (by (with_reducible repeat (first | refine blk_drewN ?_ _ | refine blk_drew ?_ | refine blk_alloc ?_ _)); refine blk_far ?_ NB213_222.out _; (with_reducible repeat (first | refine blk_drewN ?_ _ | refine blk_drew ?_ | refine blk_alloc ?_ _)); refine blk_far ?_ NB213_222.out _; (with_reducible repeat (first | refine blk_drewN ?_ _ | refine blk_drew ?_ | refine blk_alloc ?_ _)); refine blk_far ?_ NB213_222.out _; (with_reducible repeat (first | refine blk_drewN ?_ _ | refine blk_drew ?_ | refine blk_alloc ?_ _)); refine blk_far ?_ NB213_222.out _; (with_reducible repeat (first | refine blk_drewN ?_ _ | refine blk_drew ?_ | refine blk_alloc ?_ _)); refine blk_far ?_ NB213_222.out _; (with_reducible repeat (first | refine blk_drewN ?_ _ | refine blk_drew ?_ | refine blk_alloc ?_ _)); refine blk_far ?_ NB213_222.out _; (with_reducible repeat (first | refine blk_drewN ?_ _ | refine blk_drew ?_ | refine blk_alloc ?_ _)); exact BK213.out), (by repeat (first | (with_reducible first | exact HI0.out | apply IsS89.alloc | apply IsS89.drewN | apply IsS89.drew | apply IsS89.set_0 | apply IsS89.set_1 | apply IsS89.set_2 | apply IsS89.set_3 | apply IsS89.set_4 | apply IsS89.set_5 | apply IsS89.set_6 | refine IsS89.far ?_ NB0_211.out _ | refine IsS89.far ?_ NB0_212.out _ | refine IsS89.far ?_ NB0_213.out _ | refine IsS89.far ?_ NB0_222.out _) | exact HI0.out)), (by repeat (first | (with_reducible first | exact HK.out | apply KeepBut.set_ | apply keep_drewN | apply keep_drew | apply keep_alloc | refine keep_far ?_ GW211.out _ | refine keep_far ?_ GW212.out _ | refine keep_far ?_ GW213.out _ | refine keep_far ?_ GW222.out _) | exact HK.out)), (by repeat (first | (with_reducible first | exact HB.out | apply below_alloc | apply pw_below_drewN | apply below_drew1 | refine below_set ?_ (IsS89.ge HI0.out) | refine below_set ?_ GE211.out | refine below_set ?_ GE212.out | refine below_set ?_ GE213.out | refine below_set ?_ GE222.out) | exact HB.out)), fun _ h1_ => absurd ((up_self b 13).symm.trans h1_) (by decide), fun _ => GW222.out, fun _ => GE222.out, fun _ => NB0_222.out, fun _ => NB222_0.out, fun _ => NB211_222.out, fun _ => NB222_211.out, fun _ => NB212_222.out, fun _ => NB222_212.out, fun _ => NB213_222.out, fun _ => NB222_213.out, fun _ => (by (with_reducible repeat (first | refine blk_drewN ?_ _ | refine blk_drew ?_ | refine blk_alloc ?_ _)); refine blk_put (cs := #[.int .i8 t214, .int .i8 t215, .int .i8 t216, .int .i8 t217, .int .i8 t218, .int .i8 0]) ?_ 5 _ rfl; (with_reducible repeat (first | refine blk_drewN ?_ _ | refine blk_drew ?_ | refine blk_alloc ?_ _)); refine blk_put (cs := #[.int .i8 t214, .int .i8 t215, .int .i8 t216, .int .i8 t217, .int .i8 0, .int .i8 0]) ?_ 4 _ rfl; (with_reducible repeat (first | refine blk_drewN ?_ _ | refine blk_drew ?_ | refine blk_alloc ?_ _)); refine blk_put (cs := #[.int .i8 t214, .int .i8 t215, .int .i8 t216, .int .i8 0, .int .i8 0, .int .i8 0]) ?_ 3 _ rfl; (with_reducible repeat (first | refine blk_drewN ?_ _ | refine blk_drew ?_ | refine blk_alloc ?_ _)); refine blk_put (cs := #[.int .i8 t214, .int .i8 t215, .int .i8 0, .int .i8 0, .int .i8 0, .int .i8 0]) ?_ 2 _ rfl; (with_reducible repeat (first | refine blk_drewN ?_ _ | refine blk_drew ?_ | refine blk_alloc ?_ _)); refine blk_put (cs := #[.int .i8 t214, .int .i8 0, .int .i8 0, .int .i8 0, .int .i8 0, .int .i8 0]) ?_ 1 _ rfl; (with_reducible repeat (first | refine blk_drewN ?_ _ | refine blk_drew ?_ | refine blk_alloc ?_ _)); refine blk_put (cs := #[.int .i8 0, .int .i8 0, .int .i8 0, .int .i8 0, .int .i8 0, .int .i8 0]) ?_ 0 _ rfl; (with_reducible repeat (first | refine blk_drewN ?_ _ | refine blk_drew ?_ | refine blk_alloc ?_ _)); exact BK222.out), Q_X12_⟩
   refine steps_cons ?_ ?_
   ·rintro b a w' ⟨gb222, m12_, ha, Q_BK211, Q_BK212, Q_BK213, Q_HI0, Q_HK, Q_HB, Q_BK222, Q_GW222, Q_GE222, Q_NB0_222, Q_NB222_0, Q_NB211_222, Q_NB222_211, Q_NB212_222, Q_NB222_212, Q_NB213_222, Q_NB222_213, Q_BK222_e13, Q_X12_⟩ hb_ hon hoff
    refine ⟨_, rfl, fun K hK => ?_⟩
    have e26 : a.tmps[26]? = some (.bool t220) := by rw [ha]; exact putSel_on (e := (10, 26, .bool t220)) 9 rfl rfl (hon 10 (by kernel_rfl)) rfl
    replace ha := Aside0.mk ha
    have BK211 := Aside0.mk Q_BK211
    have BK212 := Aside0.mk Q_BK212
    have BK213 := Aside0.mk Q_BK213
    have HI0 := Aside0.mk Q_HI0
    have HK := Aside0.mk Q_HK
    have HB := Aside0.mk Q_HB
    have GW222 := Aside0.mk (Q_GW222 (hon 12 (by kernel_rfl)))
    have GE222 := Aside0.mk (Q_GE222 (hon 12 (by kernel_rfl)))
    have NB0_222 := Aside0.mk (Q_NB0_222 (hon 12 (by kernel_rfl)))
    have NB222_0 := Aside0.mk (Q_NB222_0 (hon 12 (by kernel_rfl)))
    have NB211_222 := Aside0.mk (Q_NB211_222 (hon 12 (by kernel_rfl)))
    have NB222_211 := Aside0.mk (Q_NB222_211 (hon 12 (by kernel_rfl)))
    have NB212_222 := Aside0.mk (Q_NB212_222 (hon 12 (by kernel_rfl)))
    have NB222_212 := Aside0.mk (Q_NB222_212 (hon 12 (by kernel_rfl)))
    have NB213_222 := Aside0.mk (Q_NB213_222 (hon 12 (by kernel_rfl)))
    have NB222_213 := Aside0.mk (Q_NB222_213 (hon 12 (by kernel_rfl)))
    have BK222 := Aside0.mk (Q_BK222_e13 (hon 13 (by kernel_rfl)))
    refine value_ (w1 := w') (v := .bool t220) (by rfl) rfl ?_ ?_
    ·go_simp
     (try simp only [i64_w])
     try rfl
    refine hK.out _ _ ⟨gb222, m12_, (by rw [ha.out]; exact putSel_upk 12 hb_ rfl rfl rfl), Q_BK211, Q_BK212, Q_BK213, Q_HI0, Q_HK, Q_HB, fun _ h1_ => absurd ((hon 13 (by kernel_rfl)).symm.trans h1_) (by decide), Q_GW222, Q_GE222, Q_NB0_222, Q_NB222_0, Q_NB211_222, Q_NB222_211, Q_NB212_222, Q_NB222_212, Q_NB213_222, Q_NB222_213, Q_BK222_e13, Q_X12_⟩
   refine steps_cons ?_ ?_
   ·rintro b a w' ⟨gb222, m12_, ha, Q_BK211, Q_BK212, Q_BK213, Q_HI0, Q_HK, Q_HB, Q_BK222, Q_GW222, Q_GE222, Q_NB0_222, Q_NB222_0, Q_NB211_222, Q_NB222_211, Q_NB212_222, Q_NB222_212, Q_NB213_222, Q_NB222_213, Q_BK222_e13, Q_X12_⟩ hb_ hon hoff
    refine ⟨_, rfl, fun K hK => ?_⟩
    have e27 : a.tmps[27]? = some (.bool t221) := by rw [ha]; exact putSel_on (e := (11, 27, .bool t221)) 10 rfl rfl (hon 11 (by kernel_rfl)) rfl
    replace ha := Aside0.mk ha
    have BK211 := Aside0.mk Q_BK211
    have BK212 := Aside0.mk Q_BK212
    have BK213 := Aside0.mk Q_BK213
    have HI0 := Aside0.mk Q_HI0
    have HK := Aside0.mk Q_HK
    have HB := Aside0.mk Q_HB
    have GW222 := Aside0.mk (Q_GW222 (hon 12 (by kernel_rfl)))
    have GE222 := Aside0.mk (Q_GE222 (hon 12 (by kernel_rfl)))
    have NB0_222 := Aside0.mk (Q_NB0_222 (hon 12 (by kernel_rfl)))
    have NB222_0 := Aside0.mk (Q_NB222_0 (hon 12 (by kernel_rfl)))
    have NB211_222 := Aside0.mk (Q_NB211_222 (hon 12 (by kernel_rfl)))
    have NB222_211 := Aside0.mk (Q_NB222_211 (hon 12 (by kernel_rfl)))
    have NB212_222 := Aside0.mk (Q_NB212_222 (hon 12 (by kernel_rfl)))
    have NB222_212 := Aside0.mk (Q_NB222_212 (hon 12 (by kernel_rfl)))
    have NB213_222 := Aside0.mk (Q_NB213_222 (hon 12 (by kernel_rfl)))
    have NB222_213 := Aside0.mk (Q_NB222_213 (hon 12 (by kernel_rfl)))
    have BK222 := Aside0.mk (Q_BK222_e13 (hon 13 (by kernel_rfl)))
    refine value_ (w1 := w') (v := .bool t221) (by rfl) rfl ?_ ?_
    ·go_simp
     (try simp only [i64_w])
     try rfl
    refine hK.out _ _ ⟨gb222, m12_, (by rw [ha.out]; exact putSel_upk 13 hb_ rfl rfl rfl), Q_BK211, Q_BK212, Q_BK213, Q_HI0, Q_HK, Q_HB, fun _ h1_ => absurd ((hon 13 (by kernel_rfl)).symm.trans h1_) (by decide), Q_GW222, Q_GE222, Q_NB0_222, Q_NB222_0, Q_NB211_222, Q_NB222_211, Q_NB212_222, Q_NB222_212, Q_NB213_222, Q_NB222_213, Q_BK222_e13, Q_X12_⟩
   exact steps_nil
  rintro b a w24 hall ⟨gb222, m12_, ha, Q_BK211, Q_BK212, Q_BK213, Q_HI0, Q_HK, Q_HB, Q_BK222, Q_GW222, Q_GE222, Q_NB0_222, Q_NB222_0, Q_NB211_222, Q_NB222_211, Q_NB212_222, Q_NB222_212, Q_NB213_222, Q_NB222_213, Q_BK222_e13, Q_X12_⟩
  clear BK211 BK212 BK213 HB HI0 HK
  have hb0_ := hall 0 (by kernel_rfl)
  have hb1_ := hall 1 (by kernel_rfl)
  have hb3_ := hall 3 (by kernel_rfl)
  have hb4_ := hall 4 (by kernel_rfl)
  have hb5_ := hall 5 (by kernel_rfl)
  have hb6_ := hall 6 (by kernel_rfl)
  have hb7_ := hall 7 (by kernel_rfl)
  have hb8_ := hall 8 (by kernel_rfl)
  have hb9_ := hall 9 (by kernel_rfl)
  have hb10_ := hall 10 (by kernel_rfl)
  have hb11_ := hall 11 (by kernel_rfl)
  have hb12_ := hall 12 (by kernel_rfl)
  have hb13_ := hall 13 (by kernel_rfl)
  have hb14_ := hall 14 (by kernel_rfl)
  have hb15_ := hall 15 (by kernel_rfl)
  subst ha
  obtain rfl := Q_X12_ hb12_
  simp only [putSel, hb0_, hb1_, hb3_, hb4_, hb5_, hb6_, hb7_, hb8_, hb9_, hb10_, hb11_, hb12_, hb13_, hb14_, hb15_, if_true, Act.put, List.setIfInBounds_toArray, List.set_cons_zero, List.set_cons_succ]
  have BK211 := Aside0.mk Q_BK211
  clear Q_BK211
  have BK212 := Aside0.mk Q_BK212
  clear Q_BK212
  have BK213 := Aside0.mk Q_BK213
  clear Q_BK213
  have HI0 := Aside0.mk Q_HI0
  clear Q_HI0
  have HK := Aside0.mk Q_HK
  clear Q_HK
  have HB := Aside0.mk Q_HB
  clear Q_HB
  clear Q_BK222
  have GW222 := Aside0.mk (Q_GW222 hb12_)
  clear Q_GW222
  have GE222 := Aside0.mk (Q_GE222 hb12_)
  clear Q_GE222
  have NB0_222 := Aside0.mk (Q_NB0_222 hb12_)
  clear Q_NB0_222
  have NB222_0 := Aside0.mk (Q_NB222_0 hb12_)
  clear Q_NB222_0
  have NB211_222 := Aside0.mk (Q_NB211_222 hb12_)
  clear Q_NB211_222
  have NB222_211 := Aside0.mk (Q_NB222_211 hb12_)
  clear Q_NB222_211
  have NB212_222 := Aside0.mk (Q_NB212_222 hb12_)
  clear Q_NB212_222
  have NB222_212 := Aside0.mk (Q_NB222_212 hb12_)
  clear Q_NB222_212
  have NB213_222 := Aside0.mk (Q_NB213_222 hb12_)
  clear Q_NB213_222
  have NB222_213 := Aside0.mk (Q_NB222_213 hb12_)
  clear Q_NB222_213
  have BK222 := Aside0.mk (Q_BK222_e13 hb13_)
  clear Q_BK222_e13
  clear hall hb0_ hb1_ hb3_ hb4_ hb5_ hb6_ hb7_ hb8_ hb9_ hb10_ hb11_ hb12_ hb13_ hb14_ hb15_
  have hnb25 := NB222_211.out
  have hnc25 := NB211_222.out
  have hnb26 := NB222_212.out
  have hnc26 := NB212_222.out
  have hnb27 := NB222_213.out
  have hnc27 := NB213_222.out
  have hnb28 := NB222_0.out
  have hnc28 := NB0_222.out
  have hcz29_0 : w24.cell? ⟨gb222, 0, none⟩ = some (.int .i8 t214) := (blk_cell BK222.out 0).trans rfl
  have hcz29_1 : w24.cell? ⟨gb222, 1, none⟩ = some (.int .i8 t215) := (blk_cell BK222.out 1).trans rfl
  have hcz29_2 : w24.cell? ⟨gb222, 2, none⟩ = some (.int .i8 t216) := (blk_cell BK222.out 2).trans rfl
  have hcz29_3 : w24.cell? ⟨gb222, 3, none⟩ = some (.int .i8 t217) := (blk_cell BK222.out 3).trans rfl
  have hcz29_4 : w24.cell? ⟨gb222, 4, none⟩ = some (.int .i8 t218) := (blk_cell BK222.out 4).trans rfl
  have hcz29_5 : w24.cell? ⟨gb222, 5, none⟩ = some (.int .i8 t219) := (blk_cell BK222.out 5).trans rfl
  have hfz29_0 := blk_frozen BK222.out 0
  have hfz29_1 := blk_frozen BK222.out 1
  have hfz29_2 := blk_frozen BK222.out 2
  have hfz29_3 := blk_frozen BK222.out 3
  have hfz29_4 := blk_frozen BK222.out 4
  have hfz29_5 := blk_frozen BK222.out 5
  obtain ⟨HGz30, hgz30⟩ := HI0.out
  have hcz30_0 := cellS89_0 HGz30
  have hcz30_1 := cellS89_1 HGz30
  have hcz30_2 := cellS89_2 HGz30
  have hcz30_3 := cellS89_3 HGz30
  have hcz30_4 := cellS89_4 HGz30
  have hcz30_5 := cellS89_5 HGz30
  have hcz30_6 := cellS89_6 HGz30
  have hfz30_0 := blk_frozen HGz30 0
  have hfz30_1 := blk_frozen HGz30 1
  have hfz30_2 := blk_frozen HGz30 2
  have hfz30_3 := blk_frozen HGz30 3
  have hfz30_4 := blk_frozen HGz30 4
  have hfz30_5 := blk_frozen HGz30 5
  have hfz30_6 := blk_frozen HGz30 6
  clear HGz30 hgz30
  try go_wp2
  go_ret
  exact ⟨by first | rfl | (simp [errW_none, errW_some] <;> rfl) | (simp [*, errW_none, errW_some] <;> rfl), by repeat (first | (with_reducible first | exact HI0.out | apply IsS89.alloc | apply IsS89.drewN | apply IsS89.drew | apply IsS89.set_0 | apply IsS89.set_1 | apply IsS89.set_2 | apply IsS89.set_3 | apply IsS89.set_4 | apply IsS89.set_5 | apply IsS89.set_6 | refine IsS89.far ?_ NB0_211.out _ | refine IsS89.far ?_ NB0_212.out _ | refine IsS89.far ?_ NB0_213.out _ | refine IsS89.far ?_ NB0_222.out _) | exact HI0.out), by repeat (first | (with_reducible first | exact HB.out | apply below_alloc | apply pw_below_drewN | apply below_drew1 | refine below_set ?_ (IsS89.ge HI0.out) | refine below_set ?_ GE211.out | refine below_set ?_ GE212.out | refine below_set ?_ GE213.out | refine below_set ?_ GE222.out) | exact HB.out), by repeat (first | (with_reducible first | exact HK.out | apply KeepBut.set_ | apply keep_drewN | apply keep_drew | apply keep_alloc | refine keep_far ?_ GW211.out _ | refine keep_far ?_ GW212.out _ | refine keep_far ?_ GW213.out _ | refine keep_far ?_ GW222.out _) | exact HK.out)⟩
end Go.Proofs.Ytmhmfhdmeedcfaa.G
end
section
namespace Go.Proofs.Ytmhmfhdmeedcfaa.G
open Go.RowKit Go.Proofs.YtmhmfhdmeedcfaaW.PrintWords Go.Proofs.YtmhmfhdmeedcfaaW.PrintLast Go.Proofs.YtmhmfhdmeedcfaaW.PrintMore
attribute [local go_sem] max2_int min2_int max_two min_two max_three min_three max_four min_four   -- for this text's walks alone
set_option linter.unusedVariables false
set_option linter.unusedSimpArgs false
def impl_driftAll.l0 : Nat → List (S42) → List (S78) → Int → Int → O38 → O40 → Int → Int → Int → Int → Int → Int → Bool → Option ((List (S42)))
 | 0, _, _, _, _, _, _, _, _, _, _, _, _, _ => none
 | k + 1, x10, x17, x18, x19, x224000, x225000, x227000, x227001, x227002, x227003, x227004, x227005, x227006 => if x19 < x18 then (if 0 ≤ x19 then (if x19 < (x17.length : Int) then ((impl_drifting_hour.f x227000 x227001 x227002 x227003 x227004 x227005 x227006 x224000 x225000 ((rd_T78 x17 x19).f0) ((rd_T78 x17 x19).f1)).bind fun bt232 => (if x10.length < 70368744177664 then (impl_driftAll.l0 k (x10 ++ [(⟨bt232.2.1, bt232.2.2.1⟩ : S42)]) x17 x18 (wrap64 (x19 + 1)) x224000 x225000 bt232.2.1 bt232.2.2.1 bt232.2.2.2.1 bt232.2.2.2.2.1 bt232.2.2.2.2.2.1 bt232.2.2.2.2.2.2.1 bt232.2.2.2.2.2.2.2) else (none))) else (none)) else (none)) else (some x10)
def impl_driftAll.f (k : Nat) (a0 : O38) (a1 : O40) (a2_0 : Int) (a2_1 : Int) (a2_2 : Int) (a2_3 : Int) (a2_4 : Int) (a2_5 : Int) (l3 : List (S78)) : Option ((List (S42))) := impl_driftAll.l0 k (([] : List (S42))) l3 (l3.length : Int) 0 a0 a1 a2_0 a2_1 a2_2 a2_3 a2_4 a2_5 false
set_option maxHeartbeats 8000000 in
set_option maxRecDepth 100000 in
theorem impl_driftAll.calls (k : Nat) (a0 : O38) (a1 : O40) (a2_0 : Int) (a2_1 : Int) (a2_2 : Int) (a2_3 : Int) (a2_4 : Int) (a2_5 : Int) (A3 : Option Addr) (c3 : Nat) (l3 : List (S78)) (r : List (S42)) (w : World) (hr3 : Kd.C k78 w A3 l3.length l3) (hc3 : l3.length ≤ c3) (h : impl_driftAll.f k a0 a1 a2_0 a2_1 a2_2 a2_3 a2_4 a2_5 l3 = some r) :
  Calls Try.prog 41 #[VO38 a0, VO40 a1, .agg #[.int .i8 a2_0, .int .i8 a2_1, .int .i8 a2_2, .int .i8 a2_3, .int .i8 a2_4, .int .i8 a2_5], .slice A3 l3.length c3] w fun e w' => ∃ v0_ : Value, e = .returned (v0_) ∧ Kd.R k42 42 w' w.heap.size (fun _ => True) v0_ r ∧ Below w.heap.size w w' := by
 have hu44 := Try.underlying44
 have hu89 := Try.underlying89
 have hu78 := Try.underlying78
 have hu42 := Try.underlying42
 have HR3 := Aside0.mk hr3
 have HC3 := Aside0.mk hc3
 clear hr3 hc3
 have HB := Aside0.mk (Below.refl w.heap.size w)
 have H : (impl_driftAll.l0 k (([] : List (S42))) l3 (l3.length : Int) 0 a0 a1 a2_0 a2_1 a2_2 a2_3 a2_4 a2_5 false) = some r := h
 clear h
 obtain ⟨y227, hy227⟩ : ∃ y_ : List (S42), y_ = (([] : List (S42))) := ⟨_, rfl⟩
 replace H : (impl_driftAll.l0 k y227 l3 (l3.length : Int) 0 a0 a1 a2_0 a2_1 a2_2 a2_3 a2_4 a2_5 false) = some r := by first | (rw [hy227]; with_reducible exact H) | (have H2_ := (Option.bind_some _ _).symm.trans H; rw [hy227]; with_reducible exact H2_) | (have H2_ := (Option.bind_some _ _).symm.trans H; with_reducible exact H2_) | with_reducible exact H | (rw [hy227]; exact H) | exact H
 have Ny227 := Aside0.mk hy227
 clear hy227
 have H' := Aside0.mk H
 clear H
 go_enter Try.func41, Try.ntmps41
 go_wp2_with (first | ((with_reducible refine gate_dst (N := 4) rfl ?_); refine box_event ?hg (N := 4) ?hd (cs := (a0).A) (t := 38) ?hr ?_; (case hd => rfl); (case hg => rfl); (case hr => first | exact AR.run_box_row rfl rfl | (go_simp; done) | (go_simp; rfl)); intro gb223 hg w5 hbox hb; have n0_ := Aside0.mk (sqH HB.out hb); have n1_ := Aside0.mk (hbox); have n2_ := Aside0.mk ((by rw [hg]; exact (below_size (by repeat (first | (with_reducible first | exact HB.out | apply below_alloc | apply pw_below_drewN | apply below_drew1) | exact HB.out))) : w.heap.size ≤ gb223)); have n3_ := n2_; clear HB; have HB := n0_; have BK223 := n1_; have GW223 := n2_; have GE223 := n3_; clear n0_ n1_ n2_ n3_; clear hb hbox hg) | ((with_reducible refine gate_dst (N := 5) rfl ?_); refine box_event ?hg (N := 5) ?hd (cs := (a1).A) (t := 40) ?hr ?_; (case hd => rfl); (case hg => rfl); (case hr => first | exact AR.run_box_row rfl rfl | (go_simp; done) | (go_simp; rfl)); intro gb224 hg w6 hbox hb; have n0_ := Aside0.mk (sqB BK223.out hb); have n1_ := Aside0.mk (sqH HB.out hb); have n2_ := Aside0.mk (hbox); have n3_ := Aside0.mk ((by rw [hg]; exact (below_size (by repeat (first | (with_reducible first | exact HB.out | apply below_alloc | apply pw_below_drewN | apply below_drew1 | refine below_set ?_ GE223.out) | exact HB.out))) : w.heap.size ≤ gb224)); have n4_ := n3_; have n5_ := Aside0.mk ((by rw [hg]; exact Nat.ne_of_lt (blk_lt (g := gb223) (o := .cells (a0).A 38 (0, 0)) (sqO BK223.out)) : gb223 ≠ gb224)); have n6_ := Aside0.mk (Ne.symm n5_.out); clear BK223; clear HB; have BK223 := n0_; have HB := n1_; have BK224 := n2_; have GW224 := n3_; have GE224 := n4_; have NB223_224 := n5_; have NB224_223 := n6_; clear n0_ n1_ n2_ n3_ n4_ n5_ n6_; clear hb hbox hg) | ((with_reducible refine gate_dst (N := 6) rfl ?_); refine box_event ?hg (N := 6) ?hd (cs := #[.int .i8 a2_0, .int .i8 a2_1, .int .i8 a2_2, .int .i8 a2_3, .int .i8 a2_4, .int .i8 a2_5]) (t := 44) ?hr ?_; (case hd => rfl); (case hg => rfl); (case hr => first | (go_simp; done) | (go_simp; rfl)); intro gb225 hg w7 hbox hb; have n0_ := Aside0.mk (sqB BK223.out hb); have n1_ := Aside0.mk (sqB BK224.out hb); have n2_ := Aside0.mk (sqH HB.out hb); have n3_ := Aside0.mk (hbox); have n4_ := Aside0.mk ((by rw [hg]; exact (below_size (by repeat (first | (with_reducible first | exact HB.out | apply below_alloc | apply pw_below_drewN | apply below_drew1 | refine below_set ?_ GE223.out | refine below_set ?_ GE224.out) | exact HB.out))) : w.heap.size ≤ gb225)); have n5_ := n4_; have n6_ := Aside0.mk ((by rw [hg]; exact Nat.ne_of_lt (blk_lt (g := gb223) (o := .cells (a0).A 38 (0, 0)) (sqO BK223.out)) : gb223 ≠ gb225)); have n7_ := Aside0.mk (Ne.symm n6_.out); have n8_ := Aside0.mk ((by rw [hg]; exact Nat.ne_of_lt (blk_lt (g := gb224) (o := .cells (a1).A 40 (0, 0)) (sqO BK224.out)) : gb224 ≠ gb225)); have n9_ := Aside0.mk (Ne.symm n8_.out); clear BK223; clear BK224; clear HB; have BK223 := n0_; have BK224 := n1_; have HB := n2_; have BK225 := n3_; have GW225 := n4_; have GE225 := n5_; have NB223_225 := n6_; have NB225_223 := n7_; have NB224_225 := n8_; have NB225_224 := n9_; clear n0_ n1_ n2_ n3_ n4_ n5_ n6_ n7_ n8_ n9_; clear hb hbox hg; have hnb8 := NB225_223.out; have hnc8 := NB223_225.out; have hnb9 := NB225_224.out; have hnc9 := NB224_225.out; obtain ⟨hcz10_0, hcz10_1, hcz10_2, hcz10_3, hcz10_4, hcz10_5⟩ := sqC BK225.out; have hfz10_0 := blk_frozen BK225.out 0; have hfz10_1 := blk_frozen BK225.out 1; have hfz10_2 := blk_frozen BK225.out 2; have hfz10_3 := blk_frozen BK225.out 3; have hfz10_4 := blk_frozen BK225.out 4; have hfz10_5 := blk_frozen BK225.out 5) | ((with_reducible refine gate_dst (N := 15) rfl ?_); refine box_event ?hg (N := 15) ?hd (cs := #[.int .i8 a2_0, .int .i8 a2_1, .int .i8 a2_2, .int .i8 a2_3, .int .i8 a2_4, .int .i8 a2_5, .bool false]) (t := 89) ?hr ?_; (case hd => rfl); (case hg => rfl); (case hr => first | (go_simp; done) | (go_simp; rfl)); intro gb226 hg w11 hbox hb; have n0_ := Aside0.mk (sqB BK223.out hb); have n1_ := Aside0.mk (sqB BK224.out hb); have n2_ := Aside0.mk (sqB BK225.out hb); have n3_ := Aside0.mk (sqH HB.out hb); have n4_ := Aside0.mk ((⟨hbox, (by rw [hg]; exact (below_size (by repeat (first | (with_reducible first | exact HB.out | apply below_alloc | apply pw_below_drewN | apply below_drew1 | refine below_set ?_ GE223.out | refine below_set ?_ GE224.out | refine below_set ?_ GE225.out) | exact HB.out))))⟩ : IsS89 w w11 gb226 a2_0 a2_1 a2_2 a2_3 a2_4 a2_5 false)); have n5_ := Aside0.mk ((by rw [hg]; exact (below_size (by repeat (first | (with_reducible first | exact HB.out | apply below_alloc | apply pw_below_drewN | apply below_drew1 | refine below_set ?_ GE223.out | refine below_set ?_ GE224.out | refine below_set ?_ GE225.out) | exact HB.out))) : w.heap.size ≤ gb226)); have n6_ := n5_; have n7_ := Aside0.mk ((by rw [hg]; exact Nat.ne_of_lt (blk_lt (g := gb223) (o := .cells (a0).A 38 (0, 0)) (sqO BK223.out)) : gb223 ≠ gb226)); have n8_ := Aside0.mk (Ne.symm n7_.out); have n9_ := Aside0.mk ((by rw [hg]; exact Nat.ne_of_lt (blk_lt (g := gb224) (o := .cells (a1).A 40 (0, 0)) (sqO BK224.out)) : gb224 ≠ gb226)); have n10_ := Aside0.mk (Ne.symm n9_.out); have n11_ := Aside0.mk ((by rw [hg]; exact Nat.ne_of_lt (blk_lt (g := gb225) (o := .cells #[.int .i8 a2_0, .int .i8 a2_1, .int .i8 a2_2, .int .i8 a2_3, .int .i8 a2_4, .int .i8 a2_5] 44 (0, 0)) (sqO BK225.out)) : gb225 ≠ gb226)); have n12_ := Aside0.mk (Ne.symm n11_.out); clear BK223; clear BK224; clear BK225; clear HB; have BK223 := n0_; have BK224 := n1_; have BK225 := n2_; have HB := n3_; have HI226 := n4_; have GW226 := n5_; have GE226 := n6_; have NB223_226 := n7_; have NB226_223 := n8_; have NB224_226 := n9_; have NB226_224 := n10_; have NB225_226 := n11_; have NB226_225 := n12_; clear n0_ n1_ n2_ n3_ n4_ n5_ n6_ n7_ n8_ n9_ n10_ n11_ n12_; clear hb hbox hg) | ((with_reducible refine gate_dst (N := 16) rfl ?_); refine Kd.R_lit k42 _ 42 ?hg (N := 16) ?hd (xs := ([] : List (S42))) (inner := []) (ok := fun _ => True) (okp := fun _ => True) ?hr ?hp (fun _ hk => hk) trivial (Below.refl _ _) (Nat.le_refl _) (by simp) ?_; (case hd => rfl); (case hg => rfl); (case hr => first | (go_simp; done) | (go_simp; rfl)); (case hp => exact (Reps.none _ _)); intro v228 w12 ho13 hb hg_ hnew_; clear hg_ hnew_; (first | rw [← Ny227.out] at ho13 | (simp only [Int.reduceToNat] at ho13; rw [← Ny227.out] at ho13)); have n0_ := Aside0.mk (Kd.R_lower ho13 (below_size (by repeat (first | (with_reducible first | exact HB.out | apply below_alloc | apply pw_below_drewN | apply below_drew1 | refine below_set ?_ (IsS89.ge HI226.out) | refine below_set ?_ GE223.out | refine below_set ?_ GE224.out | refine below_set ?_ GE225.out) | exact HB.out)))); have n1_ := Aside0.mk (sqB BK223.out hb); have n2_ := Aside0.mk (sqB BK224.out hb); have n3_ := Aside0.mk (sqB BK225.out hb); have n4_ := Aside0.mk (IsS89.below (by repeat (first | (with_reducible first | exact HI226.out | apply IsS89.alloc | apply IsS89.drewN | apply IsS89.drew | apply IsS89.set_0 | apply IsS89.set_1 | apply IsS89.set_2 | apply IsS89.set_3 | apply IsS89.set_4 | apply IsS89.set_5 | apply IsS89.set_6 | refine IsS89.far ?_ NB226_223.out _ | refine IsS89.far ?_ NB226_224.out _ | refine IsS89.far ?_ NB226_225.out _) | exact HI226.out)) hb); have n5_ := Aside0.mk (below_step (by repeat (first | (with_reducible first | exact HB.out | apply below_alloc | apply pw_below_drewN | apply below_drew1 | refine below_set ?_ (IsS89.ge HI226.out) | refine below_set ?_ GE223.out | refine below_set ?_ GE224.out | refine below_set ?_ GE225.out) | exact HB.out)) hb); clear BK223; clear BK224; clear BK225; clear HI226; clear HB; have HO229 := n0_; have BK223 := n1_; have BK224 := n2_; have BK225 := n3_; have HI226 := n4_; have HB := n5_; clear n0_ n1_ n2_ n3_ n4_ n5_; clear hb ho13))
 go_loopg [10, 19] k (fun kq v10 v19 w' => ∃ (x10_1 : List (S42)) (x19_1 : Int) (x227000_1 : Int) (x227001_1 : Int) (x227002_1 : Int) (x227003_1 : Int) (x227004_1 : Int) (x227005_1 : Int) (x227006_1 : Bool), v19 = .int .i64 x19_1 ∧ Aside0 (impl_driftAll.l0 kq x10_1 l3 (l3.length : Int) x19_1 a0 a1 x227000_1 x227001_1 x227002_1 x227003_1 x227004_1 x227005_1 x227006_1 = some r) ∧ Aside0 (kq ≤ k) ∧ Aside0 (Kd.R k42 42 w' w.heap.size (fun _ => True) v10 x10_1) ∧ Aside0 (w'.heap[gb223]? = some (.cells (a0).A 38 (0, 0))) ∧ Aside0 (w'.heap[gb224]? = some (.cells (a1).A 40 (0, 0))) ∧ Aside0 (w'.heap[gb225]? = some (.cells #[.int .i8 a2_0, .int .i8 a2_1, .int .i8 a2_2, .int .i8 a2_3, .int .i8 a2_4, .int .i8 a2_5] 44 (0, 0))) ∧ Aside0 (IsS89 w w' gb226 x227000_1 x227001_1 x227002_1 x227003_1 x227004_1 x227005_1 x227006_1) ∧ Aside0 (Below w.heap.size w w'))
 case atStart => exact ⟨(y227), (0), (a2_0), (a2_1), (a2_2), (a2_3), (a2_4), (a2_5), (false), (by first | rfl | (simp; done) | (simp [*]; done)), H', ⟨Nat.le_refl _⟩, ⟨by (with_reducible repeat (first | apply Kd.R_alloc | apply Kd.R_drewN | apply Kd.R_drew)); exact HO229.out⟩, ⟨by (with_reducible repeat (first | refine blk_drewN ?_ _ | refine blk_drew ?_ | refine blk_alloc ?_ _)); exact BK223.out⟩, ⟨by (with_reducible repeat (first | refine blk_drewN ?_ _ | refine blk_drew ?_ | refine blk_alloc ?_ _)); exact BK224.out⟩, ⟨by (with_reducible repeat (first | refine blk_drewN ?_ _ | refine blk_drew ?_ | refine blk_alloc ?_ _)); exact BK225.out⟩, ⟨by repeat (first | (with_reducible first | exact HI226.out | apply IsS89.alloc | apply IsS89.drewN | apply IsS89.drew | apply IsS89.set_0 | apply IsS89.set_1 | apply IsS89.set_2 | apply IsS89.set_3 | apply IsS89.set_4 | apply IsS89.set_5 | apply IsS89.set_6 | refine IsS89.far ?_ NB226_223.out _ | refine IsS89.far ?_ NB226_224.out _ | refine IsS89.far ?_ NB226_225.out _) | exact HI226.out)⟩, ⟨by repeat (first | (with_reducible first | exact HB.out | apply below_alloc | apply pw_below_drewN | apply below_drew1 | refine below_set ?_ (IsS89.ge HI226.out) | refine below_set ?_ GE223.out | refine below_set ?_ GE224.out | refine below_set ?_ GE225.out) | exact HB.out)⟩⟩
 case round =>
  clear H'
  try clear p2
  try clear c3
  try clear c4
  try clear c8
  try clear c9
  try clear hcz10_0
  try clear hcz10_1
  try clear hcz10_2
  try clear hcz10_3
  try clear hcz10_4
  try clear hcz10_5
  try clear hfz10_0
  try clear hfz10_1
  try clear hfz10_2
  try clear hfz10_3
  try clear hfz10_4
  try clear hfz10_5
  obtain ⟨x10_1, x19_1, x227000_1, x227001_1, x227002_1, x227003_1, x227004_1, x227005_1, x227006_1, rfl, HA, HK1, HO_10, BK223, BK224, BK225, HI226, HB⟩ := hrel
  cases gk with
  | zero => exact absurd HA.out (by simp [impl_driftAll.l0])
  | succ k1 =>
   have H := HA.out
   clear HA
   simp only [impl_driftAll.l0] at H
   by_cases c14 : x19_1 < (l3.length : Int)
   ·rw [if_pos c14] at H
    have c14b0 : decide (x19_1 < (l3.length : Int)) = true := decide_eq_true c14
    clear c14
    by_cases c15 : 0 ≤ x19_1
    ·rw [if_pos c15] at H
     have c15b0 : decide (0 ≤ x19_1) = true := decide_eq_true c15
     clear c15
     by_cases c16 : x19_1 < (l3.length : Int)
     ·rw [if_pos c16] at H
      have c16b0 : decide (x19_1 < (l3.length : Int)) = true := decide_eq_true c16
      clear c16
      replace H := Option.bind_eq_some_iff.mp H
      obtain ⟨⟨t232, t233, t234, t235, t236, t237, t238, t239⟩, A170, H⟩ := H
      replace H : (if x10_1.length < 70368744177664 then (impl_driftAll.l0 k1 (x10_1 ++ [(⟨t233, t234⟩ : S42)]) l3 (l3.length : Int) (wrap64 (x19_1 + 1)) a0 a1 t233 t234 t235 t236 t237 t238 t239) else (none)) = some r := H
      have A17 := Aside0.mk A170
      clear A170
      by_cases c18 : x10_1.length < 70368744177664
      ·rw [if_pos c18] at H
       have LMc18 := Aside0.mk c18
       clear c18
       obtain ⟨y240, hy240⟩ : ∃ y_ : List (S42), y_ = (x10_1 ++ [(⟨t233, t234⟩ : S42)]) := ⟨_, rfl⟩
       replace H : (impl_driftAll.l0 k1 y240 l3 (l3.length : Int) (wrap64 (x19_1 + 1)) a0 a1 t233 t234 t235 t236 t237 t238 t239) = some r := by first | (rw [hy240]; with_reducible exact H) | (have H2_ := (Option.bind_some _ _).symm.trans H; rw [hy240]; with_reducible exact H2_) | (have H2_ := (Option.bind_some _ _).symm.trans H; with_reducible exact H2_) | with_reducible exact H | (rw [hy240]; exact H) | exact H
       have Ny240 := Aside0.mk hy240
       clear hy240
       have H' := Aside0.mk H
       clear H
       have p230 : 0 ≤ (x19_1 : Int) := of_decide_eq_true (by first | (with_reducible assumption) | assumption)
       have q230 : x19_1 < (l3.length : Int) := of_decide_eq_true (by first | (with_reducible assumption) | assumption)
       obtain ⟨ad230, e230, hx230_0, hx230_1⟩ := at_T78 HR3.out x19_1 p230 q230
       cases e230
       replace hx230_0 := (HB.out.cell (World.block_lt_of_cell? w _ hx230_0)).trans hx230_0
       replace hx230_1 := (HB.out.cell (World.block_lt_of_cell? w _ hx230_1)).trans hx230_1
       replace p230 := eq_true p230
       replace q230 := eq_true q230
       go_wp2_with (first | ((with_reducible refine gate_dst (N := 12) rfl ?_); refine box_event ?hg (N := 12) ?hd (cs := #[.int .i8 0, .int .i8 0]) (t := 78) ?hr ?_; (case hd => rfl); (case hg => rfl); (case hr => first | (go_simp; done) | (go_simp; rfl)); intro gb231 hg w19 hbox hb; have n0_ := Aside0.mk (Kd.R_below (by (with_reducible repeat (first | apply Kd.R_alloc | apply Kd.R_drewN | apply Kd.R_drew)); exact HO_10.out) hb); have n1_ := Aside0.mk (sqB BK223.out hb); have n2_ := Aside0.mk (sqB BK224.out hb); have n3_ := Aside0.mk (sqB BK225.out hb); have n4_ := Aside0.mk (IsS89.below (by repeat (first | (with_reducible first | exact HI226.out | apply IsS89.alloc | apply IsS89.drewN | apply IsS89.drew | apply IsS89.set_0 | apply IsS89.set_1 | apply IsS89.set_2 | apply IsS89.set_3 | apply IsS89.set_4 | apply IsS89.set_5 | apply IsS89.set_6 | refine IsS89.far ?_ NB226_223.out _ | refine IsS89.far ?_ NB226_224.out _ | refine IsS89.far ?_ NB226_225.out _) | exact HI226.out)) hb); have n5_ := Aside0.mk (below_step (by repeat (first | (with_reducible first | exact HB.out | apply below_alloc | apply pw_below_drewN | apply below_drew1 | refine below_set ?_ (IsS89.ge HI226.out) | refine below_set ?_ GE223.out | refine below_set ?_ GE224.out | refine below_set ?_ GE225.out) | exact HB.out)) hb); have n6_ := Aside0.mk (hbox); have n7_ := Aside0.mk ((by rw [hg]; exact (below_size (by repeat (first | (with_reducible first | exact HB.out | apply below_alloc | apply pw_below_drewN | apply below_drew1 | refine below_set ?_ (IsS89.ge HI226.out) | refine below_set ?_ GE223.out | refine below_set ?_ GE224.out | refine below_set ?_ GE225.out) | exact HB.out))) : w.heap.size ≤ gb231)); have n8_ := n7_; have n9_ := Aside0.mk ((by rw [hg]; exact Nat.ne_of_lt (blk_lt (g := gb223) (o := .cells (a0).A 38 (0, 0)) (sqO BK223.out)) : gb223 ≠ gb231)); have n10_ := Aside0.mk (Ne.symm n9_.out); have n11_ := Aside0.mk ((by rw [hg]; exact Nat.ne_of_lt (blk_lt (g := gb224) (o := .cells (a1).A 40 (0, 0)) (sqO BK224.out)) : gb224 ≠ gb231)); have n12_ := Aside0.mk (Ne.symm n11_.out); have n13_ := Aside0.mk ((by rw [hg]; exact Nat.ne_of_lt (blk_lt (g := gb225) (o := .cells #[.int .i8 a2_0, .int .i8 a2_1, .int .i8 a2_2, .int .i8 a2_3, .int .i8 a2_4, .int .i8 a2_5] 44 (0, 0)) (sqO BK225.out)) : gb225 ≠ gb231)); have n14_ := Aside0.mk (Ne.symm n13_.out); have n15_ := Aside0.mk ((by rw [hg]; exact Nat.ne_of_lt (IsS89.lt (show IsS89 w _ gb226 x227000_1 x227001_1 x227002_1 x227003_1 x227004_1 x227005_1 x227006_1 from by repeat (first | (with_reducible first | exact HI226.out | apply IsS89.alloc | apply IsS89.drewN | apply IsS89.drew | apply IsS89.set_0 | apply IsS89.set_1 | apply IsS89.set_2 | apply IsS89.set_3 | apply IsS89.set_4 | apply IsS89.set_5 | apply IsS89.set_6 | refine IsS89.far ?_ NB226_223.out _ | refine IsS89.far ?_ NB226_224.out _ | refine IsS89.far ?_ NB226_225.out _) | exact HI226.out))) : gb226 ≠ gb231)); have n16_ := Aside0.mk ((by rw [hg]; exact Nat.ne_of_gt (IsS89.lt (show IsS89 w _ gb226 x227000_1 x227001_1 x227002_1 x227003_1 x227004_1 x227005_1 x227006_1 from by repeat (first | (with_reducible first | exact HI226.out | apply IsS89.alloc | apply IsS89.drewN | apply IsS89.drew | apply IsS89.set_0 | apply IsS89.set_1 | apply IsS89.set_2 | apply IsS89.set_3 | apply IsS89.set_4 | apply IsS89.set_5 | apply IsS89.set_6 | refine IsS89.far ?_ NB226_223.out _ | refine IsS89.far ?_ NB226_224.out _ | refine IsS89.far ?_ NB226_225.out _) | exact HI226.out))) : gb231 ≠ gb226)); clear HO_10; clear BK223; clear BK224; clear BK225; clear HI226; clear HB; have HO_10 := n0_; have BK223 := n1_; have BK224 := n2_; have BK225 := n3_; have HI226 := n4_; have HB := n5_; have BK231 := n6_; have GW231 := n7_; have GE231 := n8_; have NB223_231 := n9_; have NB231_223 := n10_; have NB224_231 := n11_; have NB231_224 := n12_; have NB225_231 := n13_; have NB231_225 := n14_; have NB226_231 := n15_; have NB231_226 := n16_; clear n0_ n1_ n2_ n3_ n4_ n5_ n6_ n7_ n8_ n9_ n10_ n11_ n12_ n13_ n14_ n15_ n16_; clear hb hbox hg; have hnb20 := NB231_223.out; have hnc20 := NB223_231.out; have hnb21 := NB231_224.out; have hnc21 := NB224_231.out; have hnb22 := NB231_225.out; have hnc22 := NB225_231.out; have hnb23 := NB231_226.out; have hnc23 := NB226_231.out; have hcz24_0 : w19.cell? ⟨gb231, 0, none⟩ = some (.int .i8 0) := (blk_cell BK231.out 0).trans rfl; have hcz24_1 : w19.cell? ⟨gb231, 1, none⟩ = some (.int .i8 0) := (blk_cell BK231.out 1).trans rfl; have hfz24_0 := blk_frozen BK231.out 0; have hfz24_1 := blk_frozen BK231.out 1) | ((with_reducible refine gate_dst (N := 24) rfl ?_); (with_reducible refine AR.gate_load (t := 38) rfl ?_); (try refine gate_guard (by rfl) ?_); refine AR.wpList_load_blk rfl 38 _ rfl gb223 rfl (a0).A _ (by (with_reducible repeat (first | refine blk_drewN ?_ _ | refine blk_drew ?_ | refine blk_alloc ?_ _)); refine blk_far ?_ NB223_231.out _; (with_reducible repeat (first | refine blk_drewN ?_ _ | refine blk_drew ?_ | refine blk_alloc ?_ _)); refine blk_far ?_ NB223_231.out _; (with_reducible repeat (first | refine blk_drewN ?_ _ | refine blk_drew ?_ | refine blk_alloc ?_ _)); exact BK223.out) Try.underlying38 rfl (szO38 _) ?_) | ((with_reducible refine gate_dst (N := 25) rfl ?_); (with_reducible refine AR.gate_load (t := 40) rfl ?_); (try refine gate_guard (by rfl) ?_); refine AR.wpList_load_blk rfl 40 _ rfl gb224 rfl (a1).A _ (by (with_reducible repeat (first | refine blk_drewN ?_ _ | refine blk_drew ?_ | refine blk_alloc ?_ _)); refine blk_far ?_ NB224_231.out _; (with_reducible repeat (first | refine blk_drewN ?_ _ | refine blk_drew ?_ | refine blk_alloc ?_ _)); refine blk_far ?_ NB224_231.out _; (with_reducible repeat (first | refine blk_drewN ?_ _ | refine blk_drew ?_ | refine blk_alloc ?_ _)); exact BK224.out) Try.underlying40 rfl (szO40 _) ?_) | ((with_reducible refine gate_callee (f := 58) rfl ?_); refine goesL_ (some 27) rfl rfl Try.func58 (by kernel_rfl) rfl #[.pointer (some ⟨gb226, 0, none⟩), VO38 a0, VO40 a1, .agg #[.int .i8 ((rd_T78 l3 x19_1).f0), .int .i8 ((rd_T78 l3 x19_1).f1)]] rfl (by (try simp only [List.map_toArray, List.map_cons, List.map_nil]); first | done | rfl | (simp only [List.length_drop, List.length_take]; rfl)) ?_; (with_reducible refine (impl_drifting_hour.calls gb226 x227000_1 x227001_1 x227002_1 x227003_1 x227004_1 x227005_1 x227006_1 a0 a1 ((rd_T78 l3 x19_1).f0) ((rd_T78 l3 x19_1).f1) t232 t233 t234 t235 t236 t237 t238 t239 w _ ?side1 ?side2 A17.out).mono ?_); (case side1 => repeat (first | (with_reducible first | exact HI226.out | apply IsS89.alloc | apply IsS89.drewN | apply IsS89.drew | apply IsS89.set_0 | apply IsS89.set_1 | apply IsS89.set_2 | apply IsS89.set_3 | apply IsS89.set_4 | apply IsS89.set_5 | apply IsS89.set_6 | refine IsS89.far ?_ NB226_223.out _ | refine IsS89.far ?_ NB226_224.out _ | refine IsS89.far ?_ NB226_225.out _ | refine IsS89.far ?_ NB226_231.out _) | exact HI226.out)); (case side2 => repeat (first | (with_reducible first | exact HB.out | apply below_alloc | apply pw_below_drewN | apply below_drew1 | refine below_set ?_ (IsS89.ge HI226.out) | refine below_set ?_ GE223.out | refine below_set ?_ GE224.out | refine below_set ?_ GE225.out | refine below_set ?_ GE231.out) | exact HB.out)); rintro e w25 ⟨rfl, hi, hb, hk⟩; refine ⟨_, rfl, ?_⟩; have n0_ := Aside0.mk (Kd.R_mono (Kd.R_keep (IsS89.apart (show IsS89 w _ gb226 x227000_1 x227001_1 x227002_1 x227003_1 x227004_1 x227005_1 x227006_1 from by repeat (first | (with_reducible first | exact HI226.out | apply IsS89.alloc | apply IsS89.drewN | apply IsS89.drew | apply IsS89.set_0 | apply IsS89.set_1 | apply IsS89.set_2 | apply IsS89.set_3 | apply IsS89.set_4 | apply IsS89.set_5 | apply IsS89.set_6 | refine IsS89.far ?_ NB226_223.out _ | refine IsS89.far ?_ NB226_224.out _ | refine IsS89.far ?_ NB226_225.out _ | refine IsS89.far ?_ NB226_231.out _) | exact HI226.out)) (by (with_reducible repeat (first | apply Kd.R_alloc | apply Kd.R_drewN | apply Kd.R_drew)); exact (Kd.R_mono (Kd.R_far (p := ⟨gb231, 1, none⟩) (Kd.R_far (p := ⟨gb231, 0, none⟩) (Kd.R_types HO_10.out BK231.out (by decide)) (fun _ hk => hk.2) (.int .i8 ((rd_T78 l3 x19_1).f0))) (fun _ hk => hk.2) (.int .i8 ((rd_T78 l3 x19_1).f1))) (fun _ h_ => h_.1))) (by decide)) hk (fun _ h => h.2)) (fun _ h => h.1)); have n1_ := Aside0.mk (KeepBut.blk hk (g' := gb223) (o := .cells (a0).A 38 (0, 0)) (by (with_reducible repeat (first | refine blk_drewN ?_ _ | refine blk_drew ?_ | refine blk_alloc ?_ _)); refine blk_far ?_ NB223_231.out _; (with_reducible repeat (first | refine blk_drewN ?_ _ | refine blk_drew ?_ | refine blk_alloc ?_ _)); refine blk_far ?_ NB223_231.out _; (with_reducible repeat (first | refine blk_drewN ?_ _ | refine blk_drew ?_ | refine blk_alloc ?_ _)); exact BK223.out) NB223_226.out (by simp)); have n2_ := Aside0.mk (KeepBut.blk hk (g' := gb224) (o := .cells (a1).A 40 (0, 0)) (by (with_reducible repeat (first | refine blk_drewN ?_ _ | refine blk_drew ?_ | refine blk_alloc ?_ _)); refine blk_far ?_ NB224_231.out _; (with_reducible repeat (first | refine blk_drewN ?_ _ | refine blk_drew ?_ | refine blk_alloc ?_ _)); refine blk_far ?_ NB224_231.out _; (with_reducible repeat (first | refine blk_drewN ?_ _ | refine blk_drew ?_ | refine blk_alloc ?_ _)); exact BK224.out) NB224_226.out (by simp)); have n3_ := Aside0.mk (KeepBut.blk hk (g' := gb225) (o := .cells #[.int .i8 a2_0, .int .i8 a2_1, .int .i8 a2_2, .int .i8 a2_3, .int .i8 a2_4, .int .i8 a2_5] 44 (0, 0)) (by (with_reducible repeat (first | refine blk_drewN ?_ _ | refine blk_drew ?_ | refine blk_alloc ?_ _)); refine blk_far ?_ NB225_231.out _; (with_reducible repeat (first | refine blk_drewN ?_ _ | refine blk_drew ?_ | refine blk_alloc ?_ _)); refine blk_far ?_ NB225_231.out _; (with_reducible repeat (first | refine blk_drewN ?_ _ | refine blk_drew ?_ | refine blk_alloc ?_ _)); exact BK225.out) NB225_226.out (by simp)); have n4_ := Aside0.mk (KeepBut.blk hk (g' := gb231) (o := .cells #[.int .i8 ((rd_T78 l3 x19_1).f0), .int .i8 ((rd_T78 l3 x19_1).f1)] 78 (0, 0)) (by (with_reducible repeat (first | refine blk_drewN ?_ _ | refine blk_drew ?_ | refine blk_alloc ?_ _)); refine blk_put (cs := #[.int .i8 ((rd_T78 l3 x19_1).f0), .int .i8 0]) ?_ 1 _ rfl; (with_reducible repeat (first | refine blk_drewN ?_ _ | refine blk_drew ?_ | refine blk_alloc ?_ _)); refine blk_put (cs := #[.int .i8 0, .int .i8 0]) ?_ 0 _ rfl; (with_reducible repeat (first | refine blk_drewN ?_ _ | refine blk_drew ?_ | refine blk_alloc ?_ _)); exact BK231.out) NB231_226.out (by simp)); have n5_ := Aside0.mk (hb); have n6_ := Aside0.mk (hi); clear HO_10; clear BK223; clear BK224; clear BK225; clear BK231; clear HB; clear HI226; have HO_10 := n0_; have BK223 := n1_; have BK224 := n2_; have BK225 := n3_; have BK231 := n4_; have HB := n5_; have HI226 := n6_; clear n0_ n1_ n2_ n3_ n4_ n5_ n6_; (try clear hb); (try clear hb2); (try clear hk); (try clear hi); obtain ⟨HGz26, hgz26⟩ := HI226.out; have hcz26_0 := cellS89_0 HGz26; have hcz26_1 := cellS89_1 HGz26; have hcz26_2 := cellS89_2 HGz26; have hcz26_3 := cellS89_3 HGz26; have hcz26_4 := cellS89_4 HGz26; have hcz26_5 := cellS89_5 HGz26; have hcz26_6 := cellS89_6 HGz26; have hfz26_0 := blk_frozen HGz26 0; have hfz26_1 := blk_frozen HGz26 1; have hfz26_2 := blk_frozen HGz26 2; have hfz26_3 := blk_frozen HGz26 3; have hfz26_4 := blk_frozen HGz26 4; have hfz26_5 := blk_frozen HGz26 5; have hfz26_6 := blk_frozen HGz26 6; clear HGz26 hgz26) | ((with_reducible refine gate_builtin (b := .append) (xs := #[.tmp 28, .tmp 34]) rfl ?_); at_builtin; refine Kd.R_append k42 (w0 := w) w.heap.size rfl (.tmp 28) (.tmp 34) 35 42 (.agg #[(.int .i8 0), (.int .i8 0)]) 2 rfl Try.underlying35 info42 rfl (by decide) (by omega) u10 x10_1 (⟨t233, t234⟩ : S42) [.int .i8 t233, .int .i8 t234] (fun _ => True) (fun _ => False) rfl rfl ?aP (fun _ hk => hk.elim) ?aF ?aO ?aB ?aS ?aL ?_; (case aP => exact k42_mkM _ _ _ (⟨t233, t234⟩ : S42)); (case aB => exact (by repeat (first | (with_reducible first | exact HB.out | apply below_alloc | apply pw_below_drewN | apply below_drew1 | refine below_set ?_ (IsS89.ge HI226.out) | refine below_set ?_ GE223.out | refine below_set ?_ GE224.out | refine below_set ?_ GE225.out | refine below_set ?_ GE231.out) | exact HB.out))); (case aF => exact (fun _ _ => trivial)); (case aO => exact (by (with_reducible repeat (first | apply Kd.R_alloc | apply Kd.R_drewN | apply Kd.R_drew)); exact HO_10.out)); (case aS => exact (below_size (by repeat (first | (with_reducible first | exact HB.out | apply below_alloc | apply pw_below_drewN | apply below_drew1 | refine below_set ?_ (IsS89.ge HI226.out) | refine below_set ?_ GE223.out | refine below_set ?_ GE224.out | refine below_set ?_ GE225.out | refine below_set ?_ GE231.out) | exact HB.out)))); (case aL => have := LMc18.out; omega); intro v241 w27 ho hb hg hat; rw [← Ny240.out] at ho; have n0_ := Aside0.mk (blk_grown (g := gb223) (o := .cells (a0).A 38 (0, 0)) (sqO BK223.out) hg (Kd.R_ne HO_10.out BK223.out (by decide))); have n1_ := Aside0.mk (blk_grown (g := gb224) (o := .cells (a1).A 40 (0, 0)) (sqO BK224.out) hg (Kd.R_ne HO_10.out BK224.out (by decide))); have n2_ := Aside0.mk (blk_grown (g := gb225) (o := .cells #[.int .i8 a2_0, .int .i8 a2_1, .int .i8 a2_2, .int .i8 a2_3, .int .i8 a2_4, .int .i8 a2_5] 44 (0, 0)) (sqO BK225.out) hg (Kd.R_ne HO_10.out BK225.out (by decide))); have n3_ := Aside0.mk (IsS89.grown (by repeat (first | (with_reducible first | exact HI226.out | apply IsS89.alloc | apply IsS89.drewN | apply IsS89.drew | apply IsS89.set_0 | apply IsS89.set_1 | apply IsS89.set_2 | apply IsS89.set_3 | apply IsS89.set_4 | apply IsS89.set_5 | apply IsS89.set_6 | refine IsS89.far ?_ NB226_223.out _ | refine IsS89.far ?_ NB226_224.out _ | refine IsS89.far ?_ NB226_225.out _ | refine IsS89.far ?_ NB226_231.out _) | exact HI226.out)) hg (IsS89.own_ne HI226.out HO_10.out (by decide))); have n4_ := Aside0.mk (blk_grown (g := gb231) (o := .cells #[.int .i8 ((rd_T78 l3 x19_1).f0), .int .i8 ((rd_T78 l3 x19_1).f1)] 78 (0, 0)) (sqO BK231.out) hg (Kd.R_ne HO_10.out BK231.out (by decide))); have n5_ := Aside0.mk (hb); have n6_ := Aside0.mk (ho); clear BK223; clear BK224; clear BK225; clear HI226; clear BK231; clear HB; clear HO_10; have BK223 := n0_; have BK224 := n1_; have BK225 := n2_; have HI226 := n3_; have BK231 := n4_; have HB := n5_; have HO242 := n6_; clear n0_ n1_ n2_ n3_ n4_ n5_ n6_; clear ho hb hg hat))
       go_roundg k1
       case measure => have := HK1.out; omega
       case rel => exact ⟨(y240), (wrap64 (x19_1 + 1)), (t233), (t234), (t235), (t236), (t237), (t238), (t239), (by first | rfl | (simp; done) | (simp [*]; done)), H', ⟨by have := HK1.out; omega⟩, ⟨by (with_reducible repeat (first | apply Kd.R_alloc | apply Kd.R_drewN | apply Kd.R_drew)); exact HO242.out⟩, ⟨by (with_reducible repeat (first | refine blk_drewN ?_ _ | refine blk_drew ?_ | refine blk_alloc ?_ _)); exact BK223.out⟩, ⟨by (with_reducible repeat (first | refine blk_drewN ?_ _ | refine blk_drew ?_ | refine blk_alloc ?_ _)); exact BK224.out⟩, ⟨by (with_reducible repeat (first | refine blk_drewN ?_ _ | refine blk_drew ?_ | refine blk_alloc ?_ _)); exact BK225.out⟩, ⟨by repeat (first | (with_reducible first | exact HI226.out | apply IsS89.alloc | apply IsS89.drewN | apply IsS89.drew | apply IsS89.set_0 | apply IsS89.set_1 | apply IsS89.set_2 | apply IsS89.set_3 | apply IsS89.set_4 | apply IsS89.set_5 | apply IsS89.set_6 | refine IsS89.far ?_ NB226_223.out _ | refine IsS89.far ?_ NB226_224.out _ | refine IsS89.far ?_ NB226_225.out _ | refine IsS89.far ?_ NB226_231.out _) | exact HI226.out)⟩, ⟨by repeat (first | (with_reducible first | exact HB.out | apply below_alloc | apply pw_below_drewN | apply below_drew1 | refine below_set ?_ (IsS89.ge HI226.out) | refine below_set ?_ GE223.out | refine below_set ?_ GE224.out | refine below_set ?_ GE225.out | refine below_set ?_ GE231.out) | exact HB.out)⟩⟩
      ·rw [if_neg c18] at H
       exact absurd H (by simp)
     ·rw [if_neg c16] at H
      exact absurd H (by simp)
    ·rw [if_neg c15] at H
     exact absurd H (by simp)
   ·rw [if_neg c14] at H
    have c14b0 : decide (x19_1 < (l3.length : Int)) = false := decide_eq_false c14
    clear c14
    obtain rfl := Option.some.inj H
    go_wp2
    go_ret
    exact ⟨_, by first | rfl | (simp [errW_none, errW_some] <;> rfl) | (simp [*, errW_none, errW_some] <;> rfl), by (with_reducible repeat (first | apply Kd.R_alloc | apply Kd.R_drewN | apply Kd.R_drew)); exact HO_10.out, by repeat (first | (with_reducible first | exact HB.out | apply below_alloc | apply pw_below_drewN | apply below_drew1 | refine below_set ?_ (IsS89.ge HI226.out) | refine below_set ?_ GE223.out | refine below_set ?_ GE224.out | refine below_set ?_ GE225.out) | exact HB.out)⟩
end Go.Proofs.Ytmhmfhdmeedcfaa.G
end
