/- A part of the proof of: FnExactHoursAtEach returns true, whatever the input, and leaves its arguments as they were. -/
import Derived.Test.YtmhmfhdmeedcfaaProg
import Derived.Below
import Derived.Deep.Draws
import Derived.Deep.AppendLies
import Derived.Maps.AppendAt
import Derived.OwnWalk
import Derived.Laws.BytesArg
import Derived.Laws.MakeOwn
import Derived.Laws.OwnMore
import Derived.Deep.OwnRows
import Derived.Tactics
import Derived.Lib.ConvBytes
import Derived.Laws.Slices
import Derived.WalkKit
import Derived.KernelRfl
import Derived.RowKit3
import Derived.Deep.LoopGhost
import Derived.Deep.QuietTactic
import Derived.BigQuiet
import Derived.WideLaws
import Derived.Deep.DeepCutAuto
import Derived.Deep.CutBlock
import Derived.Deep.RegionHeld3
import Derived.Laws.Rows
import Derived.Lib.AppendStr
import Derived.ArgAppend
import Derived.Laws.IdiomCopy
import Derived.OrdersHeld
import Derived.Laws.BitsLemmas
import Derived.RowKit
import Derived.Laws.StructEq
import Derived.Deep.Slices
import Derived.ChangeSame
import Derived.ChangeArms
import Derived.OpenShut
import Derived.ProofKit
import Derived.Laws.Tables
import Derived.Lib.Hide
import Derived.Laws.CopyOwn
import Derived.Laws.CopyRow
import Derived.Test.YtmhmfhdmeedcfaaZFnExactHoursAtEach1
import Derived.Test.YtmhmfhdmeedcfaaZFnExactHoursAtEach2
import Derived.Test.YtmhmfhdmeedcfaaZFnExactHoursAtEach3
import Derived.Test.YtmhmfhdmeedcfaaZFnExactHoursAtEach4
import Derived.Test.YtmhmfhdmeedcfaaZFnExactHoursAtEach5
import Derived.Test.YtmhmfhdmeedcfaaZFnExactHoursAtEach6
section
namespace Go.Proofs.Ytmhmfhdmeedcfaa.G
open Go.RowKit Go.Proofs.YtmhmfhdmeedcfaaW.PrintWords Go.Proofs.YtmhmfhdmeedcfaaW.PrintLast Go.Proofs.YtmhmfhdmeedcfaaW.PrintMore
attribute [local go_sem] max2_int min2_int max_two min_two max_three min_three max_four min_four   -- for this text's walks alone
set_option linter.unusedVariables false
set_option linter.unusedSimpArgs false
def IsS89 (w0 W : World) (g : Nat) (f0 : Int) (f1 : Int) (f2 : Int) (f3 : Int) (f4 : Int) (f5 : Int) (f6 : Bool) : Prop := W.heap[g]? = some (.cells #[.int .i8 f0, .int .i8 f1, .int .i8 f2, .int .i8 f3, .int .i8 f4, .int .i8 f5, .bool f6] 89 (0, 0)) ∧ w0.heap.size ≤ g
theorem IsS89.grown {w0 W : World} {g : Nat} {f0 : Int} {f1 : Int} {f2 : Int} {f3 : Int} {f4 : Int} {f5 : Int} {f6 : Bool} {W1 : World} {row : Option Nat} (h : IsS89 w0 W g f0 f1 f2 f3 f4 f5 f6) (hw : W.grownBy W1 row) (hne : some g ≠ row) : IsS89 w0 W1 g f0 f1 f2 f3 f4 f5 f6 := by
 obtain ⟨hb, hg⟩ := h
 exact ⟨blk_grown hb hw hne, hg⟩
theorem IsS89.kept {w0 W : World} {g : Nat} {f0 : Int} {f1 : Int} {f2 : Int} {f3 : Int} {f4 : Int} {f5 : Int} {f6 : Bool} {W1 : World} {S : Nat → Prop} (h : IsS89 w0 W g f0 f1 f2 f3 f4 f5 f6) (hk : Kept W W1 S) (hne : ¬ S g) : IsS89 w0 W1 g f0 f1 f2 f3 f4 f5 f6 := by
 obtain ⟨hb, hg⟩ := h
 exact ⟨blk_kept hb hk hne, hg⟩
theorem IsS89.below {w0 W : World} {g : Nat} {f0 : Int} {f1 : Int} {f2 : Int} {f3 : Int} {f4 : Int} {f5 : Int} {f6 : Bool} {W1 : World} (h : IsS89 w0 W g f0 f1 f2 f3 f4 f5 f6) (hw : Below W.heap.size W W1) : IsS89 w0 W1 g f0 f1 f2 f3 f4 f5 f6 := h.grown (grown_of_below hw none) (by simp)
theorem IsS89.alloc {w0 W : World} {g : Nat} {f0 : Int} {f1 : Int} {f2 : Int} {f3 : Int} {f4 : Int} {f5 : Int} {f6 : Bool} (h : IsS89 w0 W g f0 f1 f2 f3 f4 f5 f6) (o : Obj) : IsS89 w0 (W.alloc o) g f0 f1 f2 f3 f4 f5 f6 := h.below (below_alloc (Below.refl _ _) o)
theorem IsS89.drewN {w0 W : World} {g : Nat} {f0 : Int} {f1 : Int} {f2 : Int} {f3 : Int} {f4 : Int} {f5 : Int} {f6 : Bool} (h : IsS89 w0 W g f0 f1 f2 f3 f4 f5 f6) (m : Nat) : IsS89 w0 (W.drewN m) g f0 f1 f2 f3 f4 f5 f6 := h
theorem IsS89.drew {w0 W : World} {g : Nat} {f0 : Int} {f1 : Int} {f2 : Int} {f3 : Int} {f4 : Int} {f5 : Int} {f6 : Bool} (h : IsS89 w0 W g f0 f1 f2 f3 f4 f5 f6) : IsS89 w0 W.drew g f0 f1 f2 f3 f4 f5 f6 := h
theorem IsS89.at_ {w0 W : World} {g : Nat} {f0 : Int} {f1 : Int} {f2 : Int} {f3 : Int} {f4 : Int} {f5 : Int} {f6 : Bool} {w' : World} {m : Nat} (hq : W.drewN m = w') (h : IsS89 w0 W g f0 f1 f2 f3 f4 f5 f6) : IsS89 w0 w' g f0 f1 f2 f3 f4 f5 f6 := by subst hq; exact IsS89.drewN h m
theorem IsS89.apart {w0 W : World} {g : Nat} {f0 : Int} {f1 : Int} {f2 : Int} {f3 : Int} {f4 : Int} {f5 : Int} {f6 : Bool} {α : Type} {d : Kd α} {e : Nat} {base : Nat} {ok : Nat → Prop} {v : Value} {xs : List α} (h : IsS89 w0 W g f0 f1 f2 f3 f4 f5 f6) (ho : d.R e W base ok v xs) (ht : ∀ q, q ∈ e :: d.E → q ≠ 89) : d.R e W base (fun k => ok k ∧ k ≠ g) v xs := by
 obtain ⟨hb, hg⟩ := h
 exact Kd.R_types ho hb ht
theorem IsS89.own_ne {w0 W : World} {g : Nat} {f0 : Int} {f1 : Int} {f2 : Int} {f3 : Int} {f4 : Int} {f5 : Int} {f6 : Bool} {α : Type} {d : Kd α} {e : Nat} {base : Nat} {ok : Nat → Prop} {v : Value} {xs : List α} (h : IsS89 w0 W g f0 f1 f2 f3 f4 f5 f6) (ho : d.R e W base ok v xs) (ht : e ≠ 89) : some g ≠ v.ownBlock := by
 obtain ⟨hb, hg⟩ := h
 exact Kd.R_ne ho hb ht
theorem IsS89.lt {w0 W : World} {g : Nat} {f0 : Int} {f1 : Int} {f2 : Int} {f3 : Int} {f4 : Int} {f5 : Int} {f6 : Bool} (h : IsS89 w0 W g f0 f1 f2 f3 f4 f5 f6) : g < W.heap.size := by
 obtain ⟨hb, hg⟩ := h
 exact blk_lt hb
theorem IsS89.ge {w0 W : World} {g : Nat} {f0 : Int} {f1 : Int} {f2 : Int} {f3 : Int} {f4 : Int} {f5 : Int} {f6 : Bool} (h : IsS89 w0 W g f0 f1 f2 f3 f4 f5 f6) : w0.heap.size ≤ g := by
 obtain ⟨hb, hg⟩ := h
 exact hg
theorem IsS89.ne_blk {w0 W : World} {g : Nat} {f0 : Int} {f1 : Int} {f2 : Int} {f3 : Int} {f4 : Int} {f5 : Int} {f6 : Bool} {a : Nat} {cs : Array Value} {t : TypeId} {fr : Nat × Nat} (h : IsS89 w0 W g f0 f1 f2 f3 f4 f5 f6) (hb2 : W.heap[a]? = some (.cells cs t fr)) (ht : t ≠ 89) : g ≠ a := by
 obtain ⟨hb, hg⟩ := h
 rintro rfl
 rw [hb] at hb2
 injection hb2 with hb2
 injection hb2 with _ ht2
 exact ht ht2.symm
theorem IsS89.far {w0 W : World} {g : Nat} {f0 : Int} {f1 : Int} {f2 : Int} {f3 : Int} {f4 : Int} {f5 : Int} {f6 : Bool} {p : Addr} (h : IsS89 w0 W g f0 f1 f2 f3 f4 f5 f6) (hne : g ≠ p.block) (u : Value) : IsS89 w0 (W.setCell p u) g f0 f1 f2 f3 f4 f5 f6 := by
 obtain ⟨hb, hg⟩ := h
 exact ⟨blk_far hb hne u, hg⟩
theorem cellS89_0 {W : World} {g : Nat} {f0 : Int} {f1 : Int} {f2 : Int} {f3 : Int} {f4 : Int} {f5 : Int} {f6 : Bool} (h : W.heap[g]? = some (.cells #[.int .i8 f0, .int .i8 f1, .int .i8 f2, .int .i8 f3, .int .i8 f4, .int .i8 f5, .bool f6] 89 (0, 0))) : W.cell? ⟨g, 0, none⟩ = some (.int .i8 f0) := (blk_cell h 0).trans rfl
theorem IsS89.set_0 {w0 W : World} {g : Nat} {f0 : Int} {f1 : Int} {f2 : Int} {f3 : Int} {f4 : Int} {f5 : Int} {f6 : Bool} (h : IsS89 w0 W g f0 f1 f2 f3 f4 f5 f6) (x : Int) : IsS89 w0 (W.setCell ⟨g, 0, none⟩ (.int .i8 x)) g x f1 f2 f3 f4 f5 f6 := by
 obtain ⟨hb, hg⟩ := h
 exact ⟨by simpa using blk_set hb 0 (.int .i8 x), hg⟩
theorem cellS89_1 {W : World} {g : Nat} {f0 : Int} {f1 : Int} {f2 : Int} {f3 : Int} {f4 : Int} {f5 : Int} {f6 : Bool} (h : W.heap[g]? = some (.cells #[.int .i8 f0, .int .i8 f1, .int .i8 f2, .int .i8 f3, .int .i8 f4, .int .i8 f5, .bool f6] 89 (0, 0))) : W.cell? ⟨g, 1, none⟩ = some (.int .i8 f1) := (blk_cell h 1).trans rfl
theorem IsS89.set_1 {w0 W : World} {g : Nat} {f0 : Int} {f1 : Int} {f2 : Int} {f3 : Int} {f4 : Int} {f5 : Int} {f6 : Bool} (h : IsS89 w0 W g f0 f1 f2 f3 f4 f5 f6) (x : Int) : IsS89 w0 (W.setCell ⟨g, 1, none⟩ (.int .i8 x)) g f0 x f2 f3 f4 f5 f6 := by
 obtain ⟨hb, hg⟩ := h
 exact ⟨by simpa using blk_set hb 1 (.int .i8 x), hg⟩
theorem cellS89_2 {W : World} {g : Nat} {f0 : Int} {f1 : Int} {f2 : Int} {f3 : Int} {f4 : Int} {f5 : Int} {f6 : Bool} (h : W.heap[g]? = some (.cells #[.int .i8 f0, .int .i8 f1, .int .i8 f2, .int .i8 f3, .int .i8 f4, .int .i8 f5, .bool f6] 89 (0, 0))) : W.cell? ⟨g, 2, none⟩ = some (.int .i8 f2) := (blk_cell h 2).trans rfl
theorem IsS89.set_2 {w0 W : World} {g : Nat} {f0 : Int} {f1 : Int} {f2 : Int} {f3 : Int} {f4 : Int} {f5 : Int} {f6 : Bool} (h : IsS89 w0 W g f0 f1 f2 f3 f4 f5 f6) (x : Int) : IsS89 w0 (W.setCell ⟨g, 2, none⟩ (.int .i8 x)) g f0 f1 x f3 f4 f5 f6 := by
 obtain ⟨hb, hg⟩ := h
 exact ⟨by simpa using blk_set hb 2 (.int .i8 x), hg⟩
theorem cellS89_3 {W : World} {g : Nat} {f0 : Int} {f1 : Int} {f2 : Int} {f3 : Int} {f4 : Int} {f5 : Int} {f6 : Bool} (h : W.heap[g]? = some (.cells #[.int .i8 f0, .int .i8 f1, .int .i8 f2, .int .i8 f3, .int .i8 f4, .int .i8 f5, .bool f6] 89 (0, 0))) : W.cell? ⟨g, 3, none⟩ = some (.int .i8 f3) := (blk_cell h 3).trans rfl
theorem IsS89.set_3 {w0 W : World} {g : Nat} {f0 : Int} {f1 : Int} {f2 : Int} {f3 : Int} {f4 : Int} {f5 : Int} {f6 : Bool} (h : IsS89 w0 W g f0 f1 f2 f3 f4 f5 f6) (x : Int) : IsS89 w0 (W.setCell ⟨g, 3, none⟩ (.int .i8 x)) g f0 f1 f2 x f4 f5 f6 := by
 obtain ⟨hb, hg⟩ := h
 exact ⟨by simpa using blk_set hb 3 (.int .i8 x), hg⟩
theorem cellS89_4 {W : World} {g : Nat} {f0 : Int} {f1 : Int} {f2 : Int} {f3 : Int} {f4 : Int} {f5 : Int} {f6 : Bool} (h : W.heap[g]? = some (.cells #[.int .i8 f0, .int .i8 f1, .int .i8 f2, .int .i8 f3, .int .i8 f4, .int .i8 f5, .bool f6] 89 (0, 0))) : W.cell? ⟨g, 4, none⟩ = some (.int .i8 f4) := (blk_cell h 4).trans rfl
theorem IsS89.set_4 {w0 W : World} {g : Nat} {f0 : Int} {f1 : Int} {f2 : Int} {f3 : Int} {f4 : Int} {f5 : Int} {f6 : Bool} (h : IsS89 w0 W g f0 f1 f2 f3 f4 f5 f6) (x : Int) : IsS89 w0 (W.setCell ⟨g, 4, none⟩ (.int .i8 x)) g f0 f1 f2 f3 x f5 f6 := by
 obtain ⟨hb, hg⟩ := h
 exact ⟨by simpa using blk_set hb 4 (.int .i8 x), hg⟩
theorem cellS89_5 {W : World} {g : Nat} {f0 : Int} {f1 : Int} {f2 : Int} {f3 : Int} {f4 : Int} {f5 : Int} {f6 : Bool} (h : W.heap[g]? = some (.cells #[.int .i8 f0, .int .i8 f1, .int .i8 f2, .int .i8 f3, .int .i8 f4, .int .i8 f5, .bool f6] 89 (0, 0))) : W.cell? ⟨g, 5, none⟩ = some (.int .i8 f5) := (blk_cell h 5).trans rfl
theorem IsS89.set_5 {w0 W : World} {g : Nat} {f0 : Int} {f1 : Int} {f2 : Int} {f3 : Int} {f4 : Int} {f5 : Int} {f6 : Bool} (h : IsS89 w0 W g f0 f1 f2 f3 f4 f5 f6) (x : Int) : IsS89 w0 (W.setCell ⟨g, 5, none⟩ (.int .i8 x)) g f0 f1 f2 f3 f4 x f6 := by
 obtain ⟨hb, hg⟩ := h
 exact ⟨by simpa using blk_set hb 5 (.int .i8 x), hg⟩
theorem cellS89_6 {W : World} {g : Nat} {f0 : Int} {f1 : Int} {f2 : Int} {f3 : Int} {f4 : Int} {f5 : Int} {f6 : Bool} (h : W.heap[g]? = some (.cells #[.int .i8 f0, .int .i8 f1, .int .i8 f2, .int .i8 f3, .int .i8 f4, .int .i8 f5, .bool f6] 89 (0, 0))) : W.cell? ⟨g, 6, none⟩ = some (.bool f6) := (blk_cell h 6).trans rfl
theorem IsS89.set_6 {w0 W : World} {g : Nat} {f0 : Int} {f1 : Int} {f2 : Int} {f3 : Int} {f4 : Int} {f5 : Int} {f6 : Bool} (h : IsS89 w0 W g f0 f1 f2 f3 f4 f5 f6) (x : Bool) : IsS89 w0 (W.setCell ⟨g, 6, none⟩ (.bool x)) g f0 f1 f2 f3 f4 f5 x := by
 obtain ⟨hb, hg⟩ := h
 exact ⟨by simpa using blk_set hb 6 (.bool x), hg⟩
def impl_drifting_hour.f (s0_0 : Int) (s0_1 : Int) (s0_2 : Int) (s0_3 : Int) (s0_4 : Int) (s0_5 : Int) (s0_6 : Bool) (a1 : O38) (a2 : O40) (a3_0 : Int) (a3_1 : Int) : Option (Bool × Int × Int × Int × Int × Int × Int × Bool) := if s0_6 = true then (some (false, s0_0, s0_1, s0_2, s0_3, s0_4, s0_5, s0_6)) else ((impl_drift.f a1 a2 s0_0 s0_1 s0_2 s0_3 s0_4 s0_5 a3_0 a3_1).bind fun bt214 => (some (bt214.2.2.2.2.2.2.1, bt214.1, bt214.2.1, bt214.2.2.1, bt214.2.2.2.1, bt214.2.2.2.2.1, bt214.2.2.2.2.2.1, bt214.2.2.2.2.2.2.2)))
def impl_drifting_hour.T3 : Bool × List (List Nat × List Nat) := (true, [([], []), ([], []), ([], []), ([2], [2]), ([3], [3]), ([4], [4]), ([], []), ([0, 1, 5, 6], [0, 1, 5, 6]), ([7], [7]), ([8], [8]), ([8], [8]), ([8], [8]), ([], []), ([12, 9, 7, 0, 1, 2, 3, 4, 5, 6, 7, 8, 9, 12], [9, 12]), ([10, 13, 0, 1, 2, 3, 4, 5, 6, 7, 8, 9, 10, 12, 13], [10]), ([11, 14, 0, 1, 2, 3, 4, 5, 6, 7, 8, 9, 10, 11, 12, 13, 14], [11])])
def impl_drifting_hour.B3 : List Nat := [0, 0, 0, 4, 12, 28, 0, 127, 255, 511, 511, 511, 0, 5119, 14335, 32767]
theorem impl_drifting_hour.tab3 : rtab .any (opsOf Try.f58 3) = impl_drifting_hour.T3 := by kernel_rfl
theorem impl_drifting_hour.bits3 : waitsOk impl_drifting_hour.T3.2 impl_drifting_hour.B3 = true := by kernel_rfl
set_option maxHeartbeats 8000000 in
set_option maxRecDepth 100000 in
theorem impl_drifting_hour.calls (g : Nat) (s0_0 : Int) (s0_1 : Int) (s0_2 : Int) (s0_3 : Int) (s0_4 : Int) (s0_5 : Int) (s0_6 : Bool) (a1 : O38) (a2 : O40) (a3_0 : Int) (a3_1 : Int) (r1 : Bool) (r2 : Int) (r3 : Int) (r4 : Int) (r5 : Int) (r6 : Int) (r7 : Int) (r8 : Bool) (w0 w : World) (hI : IsS89 w0 w g s0_0 s0_1 s0_2 s0_3 s0_4 s0_5 s0_6) (hB : Below w0.heap.size w0 w) (h : impl_drifting_hour.f s0_0 s0_1 s0_2 s0_3 s0_4 s0_5 s0_6 a1 a2 a3_0 a3_1 = some (r1, r2, r3, r4, r5, r6, r7, r8)) :
  Calls Try.prog 58 #[.pointer (some ⟨g, 0, none⟩), VO38 a1, VO40 a2, .agg #[.int .i8 a3_0, .int .i8 a3_1]] w fun e w' => e = .returned (.bool r1) ∧ IsS89 w0 w' g r2 r3 r4 r5 r6 r7 r8 ∧ Below w0.heap.size w0 w' ∧ KeepBut w w' g none := by
 have hu78 := Try.underlying78
 have hu44 := Try.underlying44
 have HI0 := Aside0.mk hI
 have HK := Aside0.mk (KeepBut.refl w g none)
 have HL := Aside0.mk hB.size
 clear hI
 have HW0 := Aside0.mk hB.size
 have HB := Aside0.mk hB
 clear hB
 have H : (if s0_6 = true then (some (false, s0_0, s0_1, s0_2, s0_3, s0_4, s0_5, s0_6)) else ((impl_drift.f a1 a2 s0_0 s0_1 s0_2 s0_3 s0_4 s0_5 a3_0 a3_1).bind fun bt214 => (some (bt214.2.2.2.2.2.2.1, bt214.1, bt214.2.1, bt214.2.2.1, bt214.2.2.2.1, bt214.2.2.2.2.1, bt214.2.2.2.2.2.1, bt214.2.2.2.2.2.2.2)))) = some (r1, r2, r3, r4, r5, r6, r7, r8) := h
 clear h
 by_cases c5 : s0_6 = true
 ·subst c5
  have H1 : (some (false, s0_0, s0_1, s0_2, s0_3, s0_4, s0_5, true)) = some (r1, r2, r3, r4, r5, r6, r7, r8) := by rw [if_pos rfl] at H; exact H
  clear H
  have H := H1
  clear H1
  simp only [Option.some.injEq, Prod.mk.injEq] at H
  obtain ⟨rfl, rfl, rfl, rfl, rfl, rfl, rfl, rfl⟩ := H
  go_enter Try.func58, Try.ntmps58
  go_wp2_with (first | ((with_reducible refine gate_dst (N := 5) rfl ?_); refine box_event ?hg (N := 5) ?hd (cs := (a1).A) (t := 38) ?hr ?_; (case hd => rfl); (case hg => rfl); (case hr => first | exact AR.run_box_row rfl rfl | (go_simp; done) | (go_simp; rfl)); intro gb211 hg w6 hbox hb; replace HB := Aside0.mk (below_step (by repeat (first | (with_reducible first | exact HB.out | apply below_alloc | apply pw_below_drewN | apply below_drew1 | refine below_set ?_ (IsS89.ge HI0.out)) | exact HB.out)) hb); have BK211 := Aside0.mk (hbox); have GW211 := Aside0.mk ((by rw [hg]; exact (keep_size (w := w) (g := g) (row := none) (by repeat (first | (with_reducible first | exact HK.out | apply KeepBut.set_ | apply keep_drewN | apply keep_drew | apply keep_alloc) | exact HK.out))) : w.heap.size ≤ gb211)); have GE211 := Aside0.mk ((Nat.le_trans HW0.out (by rw [hg]; exact (keep_size (w := w) (g := g) (row := none) (by repeat (first | (with_reducible first | exact HK.out | apply KeepBut.set_ | apply keep_drewN | apply keep_drew | apply keep_alloc) | exact HK.out))) : w.heap.size ≤ gb211) : w0.heap.size ≤ gb211)); replace HK := Aside0.mk (KeepBut.trans (by repeat (first | (with_reducible first | exact HK.out | apply KeepBut.set_ | apply keep_drewN | apply keep_drew | apply keep_alloc) | exact HK.out)) (KeepBut.of_below hb g none) (.inl rfl)); have NB0_211 := Aside0.mk ((by rw [hg]; exact Nat.ne_of_lt (IsS89.lt (show IsS89 w0 _ g s0_0 s0_1 s0_2 s0_3 s0_4 s0_5 true from by repeat (first | (with_reducible first | exact HI0.out | apply IsS89.alloc | apply IsS89.drewN | apply IsS89.drew | apply IsS89.set_0 | apply IsS89.set_1 | apply IsS89.set_2 | apply IsS89.set_3 | apply IsS89.set_4 | apply IsS89.set_5 | apply IsS89.set_6) | exact HI0.out))) : g ≠ gb211)); have NB211_0 := Aside0.mk ((by rw [hg]; exact Nat.ne_of_gt (IsS89.lt (show IsS89 w0 _ g s0_0 s0_1 s0_2 s0_3 s0_4 s0_5 true from by repeat (first | (with_reducible first | exact HI0.out | apply IsS89.alloc | apply IsS89.drewN | apply IsS89.drew | apply IsS89.set_0 | apply IsS89.set_1 | apply IsS89.set_2 | apply IsS89.set_3 | apply IsS89.set_4 | apply IsS89.set_5 | apply IsS89.set_6) | exact HI0.out))) : gb211 ≠ g)); replace HI0 := Aside0.mk (IsS89.below (by repeat (first | (with_reducible first | exact HI0.out | apply IsS89.alloc | apply IsS89.drewN | apply IsS89.drew | apply IsS89.set_0 | apply IsS89.set_1 | apply IsS89.set_2 | apply IsS89.set_3 | apply IsS89.set_4 | apply IsS89.set_5 | apply IsS89.set_6) | exact HI0.out)) hb); clear hb hbox hg) | ((with_reducible refine gate_dst (N := 6) rfl ?_); refine box_event ?hg (N := 6) ?hd (cs := (a2).A) (t := 40) ?hr ?_; (case hd => rfl); (case hg => rfl); (case hr => first | exact AR.run_box_row rfl rfl | (go_simp; done) | (go_simp; rfl)); intro gb212 hg w7 hbox hb; replace HB := Aside0.mk (below_step (by repeat (first | (with_reducible first | exact HB.out | apply below_alloc | apply pw_below_drewN | apply below_drew1 | refine below_set ?_ (IsS89.ge HI0.out) | refine below_set ?_ GE211.out) | exact HB.out)) hb); have BK212 := Aside0.mk (hbox); have GW212 := Aside0.mk ((by rw [hg]; exact (keep_size (w := w) (g := g) (row := none) (by repeat (first | (with_reducible first | exact HK.out | apply KeepBut.set_ | apply keep_drewN | apply keep_drew | apply keep_alloc | refine keep_far ?_ GW211.out _) | exact HK.out))) : w.heap.size ≤ gb212)); have GE212 := Aside0.mk ((Nat.le_trans HW0.out (by rw [hg]; exact (keep_size (w := w) (g := g) (row := none) (by repeat (first | (with_reducible first | exact HK.out | apply KeepBut.set_ | apply keep_drewN | apply keep_drew | apply keep_alloc | refine keep_far ?_ GW211.out _) | exact HK.out))) : w.heap.size ≤ gb212) : w0.heap.size ≤ gb212)); replace HK := Aside0.mk (KeepBut.trans (by repeat (first | (with_reducible first | exact HK.out | apply KeepBut.set_ | apply keep_drewN | apply keep_drew | apply keep_alloc | refine keep_far ?_ GW211.out _) | exact HK.out)) (KeepBut.of_below hb g none) (.inl rfl)); have NB211_212 := Aside0.mk (sqN BK211.out hg); replace BK211 := Aside0.mk (sqB BK211.out hb); have NB212_211 := Aside0.mk (Ne.symm NB211_212.out); have NB0_212 := Aside0.mk ((by rw [hg]; exact Nat.ne_of_lt (IsS89.lt (show IsS89 w0 _ g s0_0 s0_1 s0_2 s0_3 s0_4 s0_5 true from by repeat (first | (with_reducible first | exact HI0.out | apply IsS89.alloc | apply IsS89.drewN | apply IsS89.drew | apply IsS89.set_0 | apply IsS89.set_1 | apply IsS89.set_2 | apply IsS89.set_3 | apply IsS89.set_4 | apply IsS89.set_5 | apply IsS89.set_6 | refine IsS89.far ?_ NB0_211.out _) | exact HI0.out))) : g ≠ gb212)); have NB212_0 := Aside0.mk ((by rw [hg]; exact Nat.ne_of_gt (IsS89.lt (show IsS89 w0 _ g s0_0 s0_1 s0_2 s0_3 s0_4 s0_5 true from by repeat (first | (with_reducible first | exact HI0.out | apply IsS89.alloc | apply IsS89.drewN | apply IsS89.drew | apply IsS89.set_0 | apply IsS89.set_1 | apply IsS89.set_2 | apply IsS89.set_3 | apply IsS89.set_4 | apply IsS89.set_5 | apply IsS89.set_6 | refine IsS89.far ?_ NB0_211.out _) | exact HI0.out))) : gb212 ≠ g)); replace HI0 := Aside0.mk (IsS89.below (by repeat (first | (with_reducible first | exact HI0.out | apply IsS89.alloc | apply IsS89.drewN | apply IsS89.drew | apply IsS89.set_0 | apply IsS89.set_1 | apply IsS89.set_2 | apply IsS89.set_3 | apply IsS89.set_4 | apply IsS89.set_5 | apply IsS89.set_6 | refine IsS89.far ?_ NB0_211.out _) | exact HI0.out)) hb); clear hb hbox hg) | ((with_reducible refine gate_dst (N := 7) rfl ?_); refine box_event ?hg (N := 7) ?hd (cs := #[.int .i8 a3_0, .int .i8 a3_1]) (t := 78) ?hr ?_; (case hd => rfl); (case hg => rfl); (case hr => first | (go_simp; done) | (go_simp; rfl)); intro gb213 hg w8 hbox hb; replace HB := Aside0.mk (below_step (by repeat (first | (with_reducible first | exact HB.out | apply below_alloc | apply pw_below_drewN | apply below_drew1 | refine below_set ?_ (IsS89.ge HI0.out) | refine below_set ?_ GE211.out | refine below_set ?_ GE212.out) | exact HB.out)) hb); have BK213 := Aside0.mk (hbox); have GW213 := Aside0.mk ((by rw [hg]; exact (keep_size (w := w) (g := g) (row := none) (by repeat (first | (with_reducible first | exact HK.out | apply KeepBut.set_ | apply keep_drewN | apply keep_drew | apply keep_alloc | refine keep_far ?_ GW211.out _ | refine keep_far ?_ GW212.out _) | exact HK.out))) : w.heap.size ≤ gb213)); have GE213 := Aside0.mk ((Nat.le_trans HW0.out (by rw [hg]; exact (keep_size (w := w) (g := g) (row := none) (by repeat (first | (with_reducible first | exact HK.out | apply KeepBut.set_ | apply keep_drewN | apply keep_drew | apply keep_alloc | refine keep_far ?_ GW211.out _ | refine keep_far ?_ GW212.out _) | exact HK.out))) : w.heap.size ≤ gb213) : w0.heap.size ≤ gb213)); replace HK := Aside0.mk (KeepBut.trans (by repeat (first | (with_reducible first | exact HK.out | apply KeepBut.set_ | apply keep_drewN | apply keep_drew | apply keep_alloc | refine keep_far ?_ GW211.out _ | refine keep_far ?_ GW212.out _) | exact HK.out)) (KeepBut.of_below hb g none) (.inl rfl)); have NB211_213 := Aside0.mk (sqN BK211.out hg); replace BK211 := Aside0.mk (sqB BK211.out hb); have NB213_211 := Aside0.mk (Ne.symm NB211_213.out); have NB212_213 := Aside0.mk (sqN BK212.out hg); replace BK212 := Aside0.mk (sqB BK212.out hb); have NB213_212 := Aside0.mk (Ne.symm NB212_213.out); have NB0_213 := Aside0.mk ((by rw [hg]; exact Nat.ne_of_lt (IsS89.lt (show IsS89 w0 _ g s0_0 s0_1 s0_2 s0_3 s0_4 s0_5 true from by repeat (first | (with_reducible first | exact HI0.out | apply IsS89.alloc | apply IsS89.drewN | apply IsS89.drew | apply IsS89.set_0 | apply IsS89.set_1 | apply IsS89.set_2 | apply IsS89.set_3 | apply IsS89.set_4 | apply IsS89.set_5 | apply IsS89.set_6 | refine IsS89.far ?_ NB0_211.out _ | refine IsS89.far ?_ NB0_212.out _) | exact HI0.out))) : g ≠ gb213)); have NB213_0 := Aside0.mk ((by rw [hg]; exact Nat.ne_of_gt (IsS89.lt (show IsS89 w0 _ g s0_0 s0_1 s0_2 s0_3 s0_4 s0_5 true from by repeat (first | (with_reducible first | exact HI0.out | apply IsS89.alloc | apply IsS89.drewN | apply IsS89.drew | apply IsS89.set_0 | apply IsS89.set_1 | apply IsS89.set_2 | apply IsS89.set_3 | apply IsS89.set_4 | apply IsS89.set_5 | apply IsS89.set_6 | refine IsS89.far ?_ NB0_211.out _ | refine IsS89.far ?_ NB0_212.out _) | exact HI0.out))) : gb213 ≠ g)); replace HI0 := Aside0.mk (IsS89.below (by repeat (first | (with_reducible first | exact HI0.out | apply IsS89.alloc | apply IsS89.drewN | apply IsS89.drew | apply IsS89.set_0 | apply IsS89.set_1 | apply IsS89.set_2 | apply IsS89.set_3 | apply IsS89.set_4 | apply IsS89.set_5 | apply IsS89.set_6 | refine IsS89.far ?_ NB0_211.out _ | refine IsS89.far ?_ NB0_212.out _) | exact HI0.out)) hb); clear hb hbox hg; obtain ⟨HGz9, hgz9⟩ := HI0.out; have hcz9_0 := cellS89_0 HGz9; have hcz9_1 := cellS89_1 HGz9; have hcz9_2 := cellS89_2 HGz9; have hcz9_3 := cellS89_3 HGz9; have hcz9_4 := cellS89_4 HGz9; have hcz9_5 := cellS89_5 HGz9; have hcz9_6 := cellS89_6 HGz9; have hfz9_0 := blk_frozen HGz9 0; have hfz9_1 := blk_frozen HGz9 1; have hfz9_2 := blk_frozen HGz9 2; have hfz9_3 := blk_frozen HGz9 3; have hfz9_4 := blk_frozen HGz9 4; have hfz9_5 := blk_frozen HGz9 5; have hfz9_6 := blk_frozen HGz9 6; clear HGz9 hgz9))
  go_ret
  exact ⟨by first | rfl | (simp [errW_none, errW_some] <;> rfl) | (simp [*, errW_none, errW_some] <;> rfl), by repeat (first | (with_reducible first | exact HI0.out | apply IsS89.alloc | apply IsS89.drewN | apply IsS89.drew | apply IsS89.set_0 | apply IsS89.set_1 | apply IsS89.set_2 | apply IsS89.set_3 | apply IsS89.set_4 | apply IsS89.set_5 | apply IsS89.set_6 | refine IsS89.far ?_ NB0_211.out _ | refine IsS89.far ?_ NB0_212.out _ | refine IsS89.far ?_ NB0_213.out _) | exact HI0.out), by repeat (first | (with_reducible first | exact HB.out | apply below_alloc | apply pw_below_drewN | apply below_drew1 | refine below_set ?_ (IsS89.ge HI0.out) | refine below_set ?_ GE211.out | refine below_set ?_ GE212.out | refine below_set ?_ GE213.out) | exact HB.out), by repeat (first | (with_reducible first | exact HK.out | apply KeepBut.set_ | apply keep_drewN | apply keep_drew | apply keep_alloc | refine keep_far ?_ GW211.out _ | refine keep_far ?_ GW212.out _ | refine keep_far ?_ GW213.out _) | exact HK.out)⟩
 ·replace c5 := Bool.eq_false_iff.mpr c5
  subst c5
  have H1 : ((impl_drift.f a1 a2 s0_0 s0_1 s0_2 s0_3 s0_4 s0_5 a3_0 a3_1).bind fun bt214 => (some (bt214.2.2.2.2.2.2.1, bt214.1, bt214.2.1, bt214.2.2.1, bt214.2.2.2.1, bt214.2.2.2.2.1, bt214.2.2.2.2.2.1, bt214.2.2.2.2.2.2.2))) = some (r1, r2, r3, r4, r5, r6, r7, r8) := by rw [if_neg (show ¬ (false = true) by decide)] at H; exact H
  clear H
  have H := H1
  clear H1
  replace H := Option.bind_eq_some_iff.mp H
  obtain ⟨⟨t214, t215, t216, t217, t218, t219, t220, t221⟩, A100, H⟩ := H
  replace H : (some (t220, t214, t215, t216, t217, t218, t219, t221)) = some (r1, r2, r3, r4, r5, r6, r7, r8) := H
  have A10 := Aside0.mk A100
  clear A100
  simp only [Option.some.injEq, Prod.mk.injEq] at H
  obtain ⟨rfl, rfl, rfl, rfl, rfl, rfl, rfl, rfl⟩ := H
  go_enter Try.func58, Try.ntmps58
  try go_wp2_with (first | ((with_reducible refine gate_dst (N := 5) rfl ?_); refine box_event ?hg (N := 5) ?hd (cs := (a1).A) (t := 38) ?hr ?_; (case hd => rfl); (case hg => rfl); (case hr => first | exact AR.run_box_row rfl rfl | (go_simp; done) | (go_simp; rfl)); intro gb211 hg w11 hbox hb; replace HB := Aside0.mk (below_step (by repeat (first | (with_reducible first | exact HB.out | apply below_alloc | apply pw_below_drewN | apply below_drew1 | refine below_set ?_ (IsS89.ge HI0.out)) | exact HB.out)) hb); have BK211 := Aside0.mk (hbox); have GW211 := Aside0.mk ((by rw [hg]; exact (keep_size (w := w) (g := g) (row := none) (by repeat (first | (with_reducible first | exact HK.out | apply KeepBut.set_ | apply keep_drewN | apply keep_drew | apply keep_alloc) | exact HK.out))) : w.heap.size ≤ gb211)); have GE211 := Aside0.mk ((Nat.le_trans HW0.out (by rw [hg]; exact (keep_size (w := w) (g := g) (row := none) (by repeat (first | (with_reducible first | exact HK.out | apply KeepBut.set_ | apply keep_drewN | apply keep_drew | apply keep_alloc) | exact HK.out))) : w.heap.size ≤ gb211) : w0.heap.size ≤ gb211)); replace HK := Aside0.mk (KeepBut.trans (by repeat (first | (with_reducible first | exact HK.out | apply KeepBut.set_ | apply keep_drewN | apply keep_drew | apply keep_alloc) | exact HK.out)) (KeepBut.of_below hb g none) (.inl rfl)); have NB0_211 := Aside0.mk ((by rw [hg]; exact Nat.ne_of_lt (IsS89.lt (show IsS89 w0 _ g s0_0 s0_1 s0_2 s0_3 s0_4 s0_5 false from by repeat (first | (with_reducible first | exact HI0.out | apply IsS89.alloc | apply IsS89.drewN | apply IsS89.drew | apply IsS89.set_0 | apply IsS89.set_1 | apply IsS89.set_2 | apply IsS89.set_3 | apply IsS89.set_4 | apply IsS89.set_5 | apply IsS89.set_6) | exact HI0.out))) : g ≠ gb211)); have NB211_0 := Aside0.mk ((by rw [hg]; exact Nat.ne_of_gt (IsS89.lt (show IsS89 w0 _ g s0_0 s0_1 s0_2 s0_3 s0_4 s0_5 false from by repeat (first | (with_reducible first | exact HI0.out | apply IsS89.alloc | apply IsS89.drewN | apply IsS89.drew | apply IsS89.set_0 | apply IsS89.set_1 | apply IsS89.set_2 | apply IsS89.set_3 | apply IsS89.set_4 | apply IsS89.set_5 | apply IsS89.set_6) | exact HI0.out))) : gb211 ≠ g)); replace HI0 := Aside0.mk (IsS89.below (by repeat (first | (with_reducible first | exact HI0.out | apply IsS89.alloc | apply IsS89.drewN | apply IsS89.drew | apply IsS89.set_0 | apply IsS89.set_1 | apply IsS89.set_2 | apply IsS89.set_3 | apply IsS89.set_4 | apply IsS89.set_5 | apply IsS89.set_6) | exact HI0.out)) hb); clear hb hbox hg) | ((with_reducible refine gate_dst (N := 6) rfl ?_); refine box_event ?hg (N := 6) ?hd (cs := (a2).A) (t := 40) ?hr ?_; (case hd => rfl); (case hg => rfl); (case hr => first | exact AR.run_box_row rfl rfl | (go_simp; done) | (go_simp; rfl)); intro gb212 hg w12 hbox hb; replace HB := Aside0.mk (below_step (by repeat (first | (with_reducible first | exact HB.out | apply below_alloc | apply pw_below_drewN | apply below_drew1 | refine below_set ?_ (IsS89.ge HI0.out) | refine below_set ?_ GE211.out) | exact HB.out)) hb); have BK212 := Aside0.mk (hbox); have GW212 := Aside0.mk ((by rw [hg]; exact (keep_size (w := w) (g := g) (row := none) (by repeat (first | (with_reducible first | exact HK.out | apply KeepBut.set_ | apply keep_drewN | apply keep_drew | apply keep_alloc | refine keep_far ?_ GW211.out _) | exact HK.out))) : w.heap.size ≤ gb212)); have GE212 := Aside0.mk ((Nat.le_trans HW0.out (by rw [hg]; exact (keep_size (w := w) (g := g) (row := none) (by repeat (first | (with_reducible first | exact HK.out | apply KeepBut.set_ | apply keep_drewN | apply keep_drew | apply keep_alloc | refine keep_far ?_ GW211.out _) | exact HK.out))) : w.heap.size ≤ gb212) : w0.heap.size ≤ gb212)); replace HK := Aside0.mk (KeepBut.trans (by repeat (first | (with_reducible first | exact HK.out | apply KeepBut.set_ | apply keep_drewN | apply keep_drew | apply keep_alloc | refine keep_far ?_ GW211.out _) | exact HK.out)) (KeepBut.of_below hb g none) (.inl rfl)); have NB211_212 := Aside0.mk (sqN BK211.out hg); replace BK211 := Aside0.mk (sqB BK211.out hb); have NB212_211 := Aside0.mk (Ne.symm NB211_212.out); have NB0_212 := Aside0.mk ((by rw [hg]; exact Nat.ne_of_lt (IsS89.lt (show IsS89 w0 _ g s0_0 s0_1 s0_2 s0_3 s0_4 s0_5 false from by repeat (first | (with_reducible first | exact HI0.out | apply IsS89.alloc | apply IsS89.drewN | apply IsS89.drew | apply IsS89.set_0 | apply IsS89.set_1 | apply IsS89.set_2 | apply IsS89.set_3 | apply IsS89.set_4 | apply IsS89.set_5 | apply IsS89.set_6 | refine IsS89.far ?_ NB0_211.out _) | exact HI0.out))) : g ≠ gb212)); have NB212_0 := Aside0.mk ((by rw [hg]; exact Nat.ne_of_gt (IsS89.lt (show IsS89 w0 _ g s0_0 s0_1 s0_2 s0_3 s0_4 s0_5 false from by repeat (first | (with_reducible first | exact HI0.out | apply IsS89.alloc | apply IsS89.drewN | apply IsS89.drew | apply IsS89.set_0 | apply IsS89.set_1 | apply IsS89.set_2 | apply IsS89.set_3 | apply IsS89.set_4 | apply IsS89.set_5 | apply IsS89.set_6 | refine IsS89.far ?_ NB0_211.out _) | exact HI0.out))) : gb212 ≠ g)); replace HI0 := Aside0.mk (IsS89.below (by repeat (first | (with_reducible first | exact HI0.out | apply IsS89.alloc | apply IsS89.drewN | apply IsS89.drew | apply IsS89.set_0 | apply IsS89.set_1 | apply IsS89.set_2 | apply IsS89.set_3 | apply IsS89.set_4 | apply IsS89.set_5 | apply IsS89.set_6 | refine IsS89.far ?_ NB0_211.out _) | exact HI0.out)) hb); clear hb hbox hg) | ((with_reducible refine gate_dst (N := 7) rfl ?_); refine box_event ?hg (N := 7) ?hd (cs := #[.int .i8 a3_0, .int .i8 a3_1]) (t := 78) ?hr ?_; (case hd => rfl); (case hg => rfl); (case hr => first | (go_simp; done) | (go_simp; rfl)); intro gb213 hg w13 hbox hb; replace HB := Aside0.mk (below_step (by repeat (first | (with_reducible first | exact HB.out | apply below_alloc | apply pw_below_drewN | apply below_drew1 | refine below_set ?_ (IsS89.ge HI0.out) | refine below_set ?_ GE211.out | refine below_set ?_ GE212.out) | exact HB.out)) hb); have BK213 := Aside0.mk (hbox); have GW213 := Aside0.mk ((by rw [hg]; exact (keep_size (w := w) (g := g) (row := none) (by repeat (first | (with_reducible first | exact HK.out | apply KeepBut.set_ | apply keep_drewN | apply keep_drew | apply keep_alloc | refine keep_far ?_ GW211.out _ | refine keep_far ?_ GW212.out _) | exact HK.out))) : w.heap.size ≤ gb213)); have GE213 := Aside0.mk ((Nat.le_trans HW0.out (by rw [hg]; exact (keep_size (w := w) (g := g) (row := none) (by repeat (first | (with_reducible first | exact HK.out | apply KeepBut.set_ | apply keep_drewN | apply keep_drew | apply keep_alloc | refine keep_far ?_ GW211.out _ | refine keep_far ?_ GW212.out _) | exact HK.out))) : w.heap.size ≤ gb213) : w0.heap.size ≤ gb213)); replace HK := Aside0.mk (KeepBut.trans (by repeat (first | (with_reducible first | exact HK.out | apply KeepBut.set_ | apply keep_drewN | apply keep_drew | apply keep_alloc | refine keep_far ?_ GW211.out _ | refine keep_far ?_ GW212.out _) | exact HK.out)) (KeepBut.of_below hb g none) (.inl rfl)); have NB211_213 := Aside0.mk (sqN BK211.out hg); replace BK211 := Aside0.mk (sqB BK211.out hb); have NB213_211 := Aside0.mk (Ne.symm NB211_213.out); have NB212_213 := Aside0.mk (sqN BK212.out hg); replace BK212 := Aside0.mk (sqB BK212.out hb); have NB213_212 := Aside0.mk (Ne.symm NB212_213.out); have NB0_213 := Aside0.mk ((by rw [hg]; exact Nat.ne_of_lt (IsS89.lt (show IsS89 w0 _ g s0_0 s0_1 s0_2 s0_3 s0_4 s0_5 false from by repeat (first | (with_reducible first | exact HI0.out | apply IsS89.alloc | apply IsS89.drewN | apply IsS89.drew | apply IsS89.set_0 | apply IsS89.set_1 | apply IsS89.set_2 | apply IsS89.set_3 | apply IsS89.set_4 | apply IsS89.set_5 | apply IsS89.set_6 | refine IsS89.far ?_ NB0_211.out _ | refine IsS89.far ?_ NB0_212.out _) | exact HI0.out))) : g ≠ gb213)); have NB213_0 := Aside0.mk ((by rw [hg]; exact Nat.ne_of_gt (IsS89.lt (show IsS89 w0 _ g s0_0 s0_1 s0_2 s0_3 s0_4 s0_5 false from by repeat (first | (with_reducible first | exact HI0.out | apply IsS89.alloc | apply IsS89.drewN | apply IsS89.drew | apply IsS89.set_0 | apply IsS89.set_1 | apply IsS89.set_2 | apply IsS89.set_3 | apply IsS89.set_4 | apply IsS89.set_5 | apply IsS89.set_6 | refine IsS89.far ?_ NB0_211.out _ | refine IsS89.far ?_ NB0_212.out _) | exact HI0.out))) : gb213 ≠ g)); replace HI0 := Aside0.mk (IsS89.below (by repeat (first | (with_reducible first | exact HI0.out | apply IsS89.alloc | apply IsS89.drewN | apply IsS89.drew | apply IsS89.set_0 | apply IsS89.set_1 | apply IsS89.set_2 | apply IsS89.set_3 | apply IsS89.set_4 | apply IsS89.set_5 | apply IsS89.set_6 | refine IsS89.far ?_ NB0_211.out _ | refine IsS89.far ?_ NB0_212.out _) | exact HI0.out)) hb); clear hb hbox hg; obtain ⟨HGz14, hgz14⟩ := HI0.out; have hcz14_0 := cellS89_0 HGz14; have hcz14_1 := cellS89_1 HGz14; have hcz14_2 := cellS89_2 HGz14; have hcz14_3 := cellS89_3 HGz14; have hcz14_4 := cellS89_4 HGz14; have hcz14_5 := cellS89_5 HGz14; have hcz14_6 := cellS89_6 HGz14; have hfz14_0 := blk_frozen HGz14 0; have hfz14_1 := blk_frozen HGz14 1; have hfz14_2 := blk_frozen HGz14 2; have hfz14_3 := blk_frozen HGz14 3; have hfz14_4 := blk_frozen HGz14 4; have hfz14_5 := blk_frozen HGz14 5; have hfz14_6 := blk_frozen HGz14 6; clear HGz14 hgz14))
  replace BK211 := Aside0.mk (blk_drew BK211.out)
  replace BK212 := Aside0.mk (blk_drew BK212.out)
  replace BK213 := Aside0.mk (blk_drew BK213.out)
  replace HI0 := Aside0.mk (IsS89.drew HI0.out)
  replace HK := Aside0.mk (keep_drew HK.out)
  replace HB := Aside0.mk (below_drew1 HB.out)
  refine start_ (n := 16) (S := fun w' => True) (ds := []) #[false, false, false, false, false, false, false, false, false, false, false, false, false, false, false, false] (by kernel_rfl) rfl rfl trivial (fun hHeld => ?_); refine with_tabW impl_drifting_hour.tab3 impl_drifting_hour.bits3 (fun HT_ HW_ => ?_)
  generalize w13.drew = w15 at BK211 BK212 BK213 HI0 HK HB hHeld ⊢
  refine pure_ (i := 2) (N := some 19) (v := ?_) (a' := ?_) #[false, false, true, false, false, false, false, false, false, false, false, false, false, false, false, false] rfl rfl (any_of HT_.out (by kernel_rfl)) (fun _ _ _ h => h) (Or.inl ⟨by rfl, ?_⟩) ?_ ?_
  rotate_left
  ·intro w'
   go_simp
   with_reducible rfl
  rotate_left
  ·simp only [Act.put, List.setIfInBounds_toArray, List.set_cons_zero, List.set_cons_succ, i64_w, i32_w]
   rfl
  refine inv_at [0, 1, 3, 4, 5, 6, 7, 8, 9, 10, 11, 12, 13, 14, 15] (fun a0_ b a w' => ∃ (gb222 : Nat) (m12_ : Value), a = putSel a0_ b [(0, 17, VO38 a1), (1, 18, VO40 a2), (3, 20, .pointer (some ⟨g, 0, none⟩)), (4, 21, .pointer (some ⟨g, 0, none⟩)), (5, 22, .agg #[.int .i8 s0_0, .int .i8 s0_1, .int .i8 s0_2, .int .i8 s0_3, .int .i8 s0_4, .int .i8 s0_5]), (6, 23, .agg #[.int .i8 a3_0, .int .i8 a3_1]), (7, 24, .tuple #[.agg #[.int .i8 t214, .int .i8 t215, .int .i8 t216, .int .i8 t217, .int .i8 t218, .int .i8 t219], .bool t220, .bool t221]), (8, 16, .tuple #[.agg #[.int .i8 t214, .int .i8 t215, .int .i8 t216, .int .i8 t217, .int .i8 t218, .int .i8 t219], .bool t220, .bool t221]), (9, 25, .agg #[.int .i8 t214, .int .i8 t215, .int .i8 t216, .int .i8 t217, .int .i8 t218, .int .i8 t219]), (10, 26, .bool t220), (11, 27, .bool t221), (12, 9, m12_), (14, 10, .bool t220), (15, 11, .bool t221)] ∧ (w'.heap[gb211]? = some (.cells (a1).A 38 (0, 0))) ∧ (w'.heap[gb212]? = some (.cells (a2).A 40 (0, 0))) ∧ (w'.heap[gb213]? = some (.cells #[.int .i8 a3_0, .int .i8 a3_1] 78 (0, 0))) ∧ (IsS89 w0 w' g s0_0 s0_1 s0_2 s0_3 s0_4 s0_5 false) ∧ (KeepBut w w' g none) ∧ (Below w0.heap.size w0 w') ∧ (b 12 = true → b 13 = false → w'.heap[gb222]? = some (.cells #[.int .i8 0, .int .i8 0, .int .i8 0, .int .i8 0, .int .i8 0, .int .i8 0] 44 (0, 0))) ∧ (b 12 = true → w.heap.size ≤ gb222) ∧ (b 12 = true → w0.heap.size ≤ gb222) ∧ (b 12 = true → g ≠ gb222) ∧ (b 12 = true → gb222 ≠ g) ∧ (b 12 = true → gb211 ≠ gb222) ∧ (b 12 = true → gb222 ≠ gb211) ∧ (b 12 = true → gb212 ≠ gb222) ∧ (b 12 = true → gb222 ≠ gb212) ∧ (b 12 = true → gb213 ≠ gb222) ∧ (b 12 = true → gb222 ≠ gb213) ∧ (b 13 = true → w'.heap[gb222]? = some (.cells #[.int .i8 t214, .int .i8 t215, .int .i8 t216, .int .i8 t217, .int .i8 t218, .int .i8 t219] 44 (0, 0))) ∧ (b 12 = true → (m12_ : Value) = .pointer (some ⟨gb222, 0, none⟩))) HT_.out HW_.out (by kernel_rfl) (by kernel_rfl) ?_ ?_ ?_
  ·exact ⟨0, .bool false, by simp only [putSel, Bool.false_eq_true, if_false], BK211.out, BK212.out, BK213.out, HI0.out, HK.out, HB.out, fun h_ => absurd h_ (by decide), fun h_ => absurd h_ (by decide), fun h_ => absurd h_ (by decide), fun h_ => absurd h_ (by decide), fun h_ => absurd h_ (by decide), fun h_ => absurd h_ (by decide), fun h_ => absurd h_ (by decide), fun h_ => absurd h_ (by decide), fun h_ => absurd h_ (by decide), fun h_ => absurd h_ (by decide), fun h_ => absurd h_ (by decide), fun h_ => absurd h_ (by decide), fun h_ => absurd h_ (by decide)⟩
  ·skip
   clear BK211 BK212 BK213 HB HI0 HK
   refine steps_cons ?_ ?_
   ·rintro b a w' ⟨gb222, m12_, ha, Q_BK211, Q_BK212, Q_BK213, Q_HI0, Q_HK, Q_HB, Q_BK222, Q_GW222, Q_GE222, Q_NB0_222, Q_NB222_0, Q_NB211_222, Q_NB222_211, Q_NB212_222, Q_NB222_212, Q_NB213_222, Q_NB222_213, Q_BK222_e13, Q_X12_⟩ hb_ hon hoff
    refine ⟨_, rfl, fun K hK => ?_⟩
    have e5 : a.tmps[5]? = some (.pointer (some ⟨gb211, 0, none⟩)) := by rw [ha]; exact (putSel_off rfl).trans rfl
    replace ha := Aside0.mk ha
    have BK211 := Aside0.mk Q_BK211
    have BK212 := Aside0.mk Q_BK212
    have BK213 := Aside0.mk Q_BK213
    have HI0 := Aside0.mk Q_HI0
    have HK := Aside0.mk Q_HK
    have HB := Aside0.mk Q_HB
    have hc0_ : w'.heap[gb211]? = some (.cells (a1).A 38 (0, 0)) := BK211.out
    refine value_ (w1 := w') (v := VO38 a1) (by rfl) rfl ?_ ?_
    ·first | (refine Eq.trans (AR.exec_load_blk rfl (by first | (go_simp; done) | (go_simp; rfl)) hc0_ Try.underlying38 rfl (szO38 _)) ?_; rfl) | (go_simp; (try simp only [i64_w]); try rfl)
    refine hK.out _ _ ⟨gb222, m12_, (by rw [ha.out]; exact putSel_upk 0 hb_ rfl rfl rfl), Q_BK211, Q_BK212, Q_BK213, Q_HI0, Q_HK, Q_HB, Q_BK222, Q_GW222, Q_GE222, Q_NB0_222, Q_NB222_0, Q_NB211_222, Q_NB222_211, Q_NB212_222, Q_NB222_212, Q_NB213_222, Q_NB222_213, fun h0_ => absurd ((hoff 13 (by kernel_rfl)).symm.trans h0_) (by decide), Q_X12_⟩
   refine steps_cons ?_ ?_
   ·rintro b a w' ⟨gb222, m12_, ha, Q_BK211, Q_BK212, Q_BK213, Q_HI0, Q_HK, Q_HB, Q_BK222, Q_GW222, Q_GE222, Q_NB0_222, Q_NB222_0, Q_NB211_222, Q_NB222_211, Q_NB212_222, Q_NB222_212, Q_NB213_222, Q_NB222_213, Q_BK222_e13, Q_X12_⟩ hb_ hon hoff
    refine ⟨_, rfl, fun K hK => ?_⟩
    have e6 : a.tmps[6]? = some (.pointer (some ⟨gb212, 0, none⟩)) := by rw [ha]; exact (putSel_off rfl).trans rfl
    replace ha := Aside0.mk ha
    have BK211 := Aside0.mk Q_BK211
    have BK212 := Aside0.mk Q_BK212
    have BK213 := Aside0.mk Q_BK213
    have HI0 := Aside0.mk Q_HI0
    have HK := Aside0.mk Q_HK
    have HB := Aside0.mk Q_HB
    have hc0_ : w'.heap[gb212]? = some (.cells (a2).A 40 (0, 0)) := BK212.out
    refine value_ (w1 := w') (v := VO40 a2) (by rfl) rfl ?_ ?_
    ·first | (refine Eq.trans (AR.exec_load_blk rfl (by first | (go_simp; done) | (go_simp; rfl)) hc0_ Try.underlying40 rfl (szO40 _)) ?_; rfl) | (go_simp; (try simp only [i64_w]); try rfl)
    refine hK.out _ _ ⟨gb222, m12_, (by rw [ha.out]; exact putSel_upk 1 hb_ rfl rfl rfl), Q_BK211, Q_BK212, Q_BK213, Q_HI0, Q_HK, Q_HB, Q_BK222, Q_GW222, Q_GE222, Q_NB0_222, Q_NB222_0, Q_NB211_222, Q_NB222_211, Q_NB212_222, Q_NB222_212, Q_NB213_222, Q_NB222_213, fun h0_ => absurd ((hoff 13 (by kernel_rfl)).symm.trans h0_) (by decide), Q_X12_⟩
   refine steps_cons ?_ ?_
   ·rintro b a w' ⟨gb222, m12_, ha, Q_BK211, Q_BK212, Q_BK213, Q_HI0, Q_HK, Q_HB, Q_BK222, Q_GW222, Q_GE222, Q_NB0_222, Q_NB222_0, Q_NB211_222, Q_NB222_211, Q_NB212_222, Q_NB222_212, Q_NB213_222, Q_NB222_213, Q_BK222_e13, Q_X12_⟩ hb_ hon hoff
    refine ⟨_, rfl, fun K hK => ?_⟩
    have e19 : a.tmps[19]? = some (.pointer (some ⟨g, 0, none⟩)) := by rw [ha]; exact (putSel_off rfl).trans rfl
    replace ha := Aside0.mk ha
    have BK211 := Aside0.mk Q_BK211
    have BK212 := Aside0.mk Q_BK212
    have BK213 := Aside0.mk Q_BK213
    have HI0 := Aside0.mk Q_HI0
    have HK := Aside0.mk Q_HK
    have HB := Aside0.mk Q_HB
    refine value_ (w1 := w') (v := .pointer (some ⟨g, 0, none⟩)) (by rfl) rfl ?_ ?_
    ·go_simp
     (try simp only [i64_w])
     try rfl
    refine hK.out _ _ ⟨gb222, m12_, (by rw [ha.out]; exact putSel_upk 2 hb_ rfl rfl rfl), Q_BK211, Q_BK212, Q_BK213, Q_HI0, Q_HK, Q_HB, Q_BK222, Q_GW222, Q_GE222, Q_NB0_222, Q_NB222_0, Q_NB211_222, Q_NB222_211, Q_NB212_222, Q_NB222_212, Q_NB213_222, Q_NB222_213, fun h0_ => absurd ((hoff 13 (by kernel_rfl)).symm.trans h0_) (by decide), Q_X12_⟩
   refine steps_cons ?_ ?_
   ·rintro b a w' ⟨gb222, m12_, ha, Q_BK211, Q_BK212, Q_BK213, Q_HI0, Q_HK, Q_HB, Q_BK222, Q_GW222, Q_GE222, Q_NB0_222, Q_NB222_0, Q_NB211_222, Q_NB222_211, Q_NB212_222, Q_NB222_212, Q_NB213_222, Q_NB222_213, Q_BK222_e13, Q_X12_⟩ hb_ hon hoff
    refine ⟨_, rfl, fun K hK => ?_⟩
    have e20 : a.tmps[20]? = some (.pointer (some ⟨g, 0, none⟩)) := by rw [ha]; exact putSel_on (e := (3, 20, .pointer (some ⟨g, 0, none⟩))) 2 rfl rfl (hon 3 (by kernel_rfl)) rfl
    replace ha := Aside0.mk ha
    have BK211 := Aside0.mk Q_BK211
    have BK212 := Aside0.mk Q_BK212
    have BK213 := Aside0.mk Q_BK213
    have HI0 := Aside0.mk Q_HI0
    have HK := Aside0.mk Q_HK
    have HB := Aside0.mk Q_HB
    refine value_ (w1 := w') (v := .pointer (some ⟨g, 0, none⟩)) (by rfl) rfl ?_ ?_
    ·go_simp
     (try simp only [i64_w])
     try rfl
    refine hK.out _ _ ⟨gb222, m12_, (by rw [ha.out]; exact putSel_upk 3 hb_ rfl rfl rfl), Q_BK211, Q_BK212, Q_BK213, Q_HI0, Q_HK, Q_HB, Q_BK222, Q_GW222, Q_GE222, Q_NB0_222, Q_NB222_0, Q_NB211_222, Q_NB222_211, Q_NB212_222, Q_NB222_212, Q_NB213_222, Q_NB222_213, fun h0_ => absurd ((hoff 13 (by kernel_rfl)).symm.trans h0_) (by decide), Q_X12_⟩
   refine steps_cons ?_ ?_
   ·rintro b a w' ⟨gb222, m12_, ha, Q_BK211, Q_BK212, Q_BK213, Q_HI0, Q_HK, Q_HB, Q_BK222, Q_GW222, Q_GE222, Q_NB0_222, Q_NB222_0, Q_NB211_222, Q_NB222_211, Q_NB212_222, Q_NB222_212, Q_NB213_222, Q_NB222_213, Q_BK222_e13, Q_X12_⟩ hb_ hon hoff
    refine ⟨_, rfl, fun K hK => ?_⟩
    have e21 : a.tmps[21]? = some (.pointer (some ⟨g, 0, none⟩)) := by rw [ha]; exact putSel_on (e := (4, 21, .pointer (some ⟨g, 0, none⟩))) 3 rfl rfl (hon 4 (by kernel_rfl)) rfl
    replace ha := Aside0.mk ha
    have BK211 := Aside0.mk Q_BK211
    have BK212 := Aside0.mk Q_BK212
    have BK213 := Aside0.mk Q_BK213
    have HI0 := Aside0.mk Q_HI0
    have HK := Aside0.mk Q_HK
    have HB := Aside0.mk Q_HB
    have hc0_ : w'.cell? ⟨g, 0, none⟩ = some (.int .i8 s0_0) := (by obtain ⟨HG_, _⟩ := HI0.out; exact cellS89_0 HG_)
    have hc1_ : w'.cell? ⟨g, 1, none⟩ = some (.int .i8 s0_1) := (by obtain ⟨HG_, _⟩ := HI0.out; exact cellS89_1 HG_)
    have hc2_ : w'.cell? ⟨g, 2, none⟩ = some (.int .i8 s0_2) := (by obtain ⟨HG_, _⟩ := HI0.out; exact cellS89_2 HG_)
    have hc3_ : w'.cell? ⟨g, 3, none⟩ = some (.int .i8 s0_3) := (by obtain ⟨HG_, _⟩ := HI0.out; exact cellS89_3 HG_)
    have hc4_ : w'.cell? ⟨g, 4, none⟩ = some (.int .i8 s0_4) := (by obtain ⟨HG_, _⟩ := HI0.out; exact cellS89_4 HG_)
    have hc5_ : w'.cell? ⟨g, 5, none⟩ = some (.int .i8 s0_5) := (by obtain ⟨HG_, _⟩ := HI0.out; exact cellS89_5 HG_)
    have hc6_ : w'.cell? ⟨g, 6, none⟩ = some (.bool false) := (by obtain ⟨HG_, _⟩ := HI0.out; exact cellS89_6 HG_)
    refine value_ (w1 := w') (v := .agg #[.int .i8 s0_0, .int .i8 s0_1, .int .i8 s0_2, .int .i8 s0_3, .int .i8 s0_4, .int .i8 s0_5]) (by rfl) rfl ?_ ?_
    ·go_simp
     (try simp only [i64_w])
     try rfl
    refine hK.out _ _ ⟨gb222, m12_, (by rw [ha.out]; exact putSel_upk 4 hb_ rfl rfl rfl), Q_BK211, Q_BK212, Q_BK213, Q_HI0, Q_HK, Q_HB, Q_BK222, Q_GW222, Q_GE222, Q_NB0_222, Q_NB222_0, Q_NB211_222, Q_NB222_211, Q_NB212_222, Q_NB222_212, Q_NB213_222, Q_NB222_213, fun h0_ => absurd ((hoff 13 (by kernel_rfl)).symm.trans h0_) (by decide), Q_X12_⟩
   refine steps_cons ?_ ?_
   ·rintro b a w' ⟨gb222, m12_, ha, Q_BK211, Q_BK212, Q_BK213, Q_HI0, Q_HK, Q_HB, Q_BK222, Q_GW222, Q_GE222, Q_NB0_222, Q_NB222_0, Q_NB211_222, Q_NB222_211, Q_NB212_222, Q_NB222_212, Q_NB213_222, Q_NB222_213, Q_BK222_e13, Q_X12_⟩ hb_ hon hoff
    refine ⟨_, rfl, fun K hK => ?_⟩
    have e7 : a.tmps[7]? = some (.pointer (some ⟨gb213, 0, none⟩)) := by rw [ha]; exact (putSel_off rfl).trans rfl
    replace ha := Aside0.mk ha
    have BK211 := Aside0.mk Q_BK211
    have BK212 := Aside0.mk Q_BK212
    have BK213 := Aside0.mk Q_BK213
    have HI0 := Aside0.mk Q_HI0
    have HK := Aside0.mk Q_HK
    have HB := Aside0.mk Q_HB
    have hc0_ : w'.cell? ⟨gb213, 0, none⟩ = some (.int .i8 a3_0) := (blk_cell BK213.out 0).trans rfl
    have hc1_ : w'.cell? ⟨gb213, 1, none⟩ = some (.int .i8 a3_1) := (blk_cell BK213.out 1).trans rfl
    refine value_ (w1 := w') (v := .agg #[.int .i8 a3_0, .int .i8 a3_1]) (by rfl) rfl ?_ ?_
    ·go_simp
     (try simp only [i64_w])
     try rfl
    refine hK.out _ _ ⟨gb222, m12_, (by rw [ha.out]; exact putSel_upk 5 hb_ rfl rfl rfl), Q_BK211, Q_BK212, Q_BK213, Q_HI0, Q_HK, Q_HB, Q_BK222, Q_GW222, Q_GE222, Q_NB0_222, Q_NB222_0, Q_NB211_222, Q_NB222_211, Q_NB212_222, Q_NB222_212, Q_NB213_222, Q_NB222_213, fun h0_ => absurd ((hoff 13 (by kernel_rfl)).symm.trans h0_) (by decide), Q_X12_⟩
   refine steps_cons ?_ ?_
   ·rintro b a w' ⟨gb222, m12_, ha, Q_BK211, Q_BK212, Q_BK213, Q_HI0, Q_HK, Q_HB, Q_BK222, Q_GW222, Q_GE222, Q_NB0_222, Q_NB222_0, Q_NB211_222, Q_NB222_211, Q_NB212_222, Q_NB222_212, Q_NB213_222, Q_NB222_213, Q_BK222_e13, Q_X12_⟩ hb_ hon hoff
    refine ⟨_, rfl, fun K hK => ?_⟩
    have e17 : a.tmps[17]? = some (VO38 a1) := by rw [ha]; exact putSel_on (e := (0, 17, VO38 a1)) 0 rfl rfl (hon 0 (by kernel_rfl)) rfl
    have e18 : a.tmps[18]? = some (VO40 a2) := by rw [ha]; exact putSel_on (e := (1, 18, VO40 a2)) 1 rfl rfl (hon 1 (by kernel_rfl)) rfl
    have e22 : a.tmps[22]? = some (.agg #[.int .i8 s0_0, .int .i8 s0_1, .int .i8 s0_2, .int .i8 s0_3, .int .i8 s0_4, .int .i8 s0_5]) := by rw [ha]; exact putSel_on (e := (5, 22, .agg #[.int .i8 s0_0, .int .i8 s0_1, .int .i8 s0_2, .int .i8 s0_3, .int .i8 s0_4, .int .i8 s0_5])) 4 rfl rfl (hon 5 (by kernel_rfl)) rfl
    have e23 : a.tmps[23]? = some (.agg #[.int .i8 a3_0, .int .i8 a3_1]) := by rw [ha]; exact putSel_on (e := (6, 23, .agg #[.int .i8 a3_0, .int .i8 a3_1])) 5 rfl rfl (hon 6 (by kernel_rfl)) rfl
    replace ha := Aside0.mk ha
    have BK211 := Aside0.mk Q_BK211
    have BK212 := Aside0.mk Q_BK212
    have BK213 := Aside0.mk Q_BK213
    have HI0 := Aside0.mk Q_HI0
    have HK := Aside0.mk Q_HK
    have HB := Aside0.mk Q_HB
    refine goes_ Try.func72 (by kernel_rfl) rfl #[VO38 a1, VO40 a2, .agg #[.int .i8 s0_0, .int .i8 s0_1, .int .i8 s0_2, .int .i8 s0_3, .int .i8 s0_4, .int .i8 s0_5], .agg #[.int .i8 a3_0, .int .i8 a3_1]] (by rfl) rfl rfl (by first | (simp only [List.map_toArray, List.map_cons, List.map_nil, Act.eval, Array.getD_eq_getD_getElem?, Option.getD_some, e17, e18, e22, e23]; done) | (simp only [List.map_toArray, List.map_cons, List.map_nil, Act.eval, Array.getD_eq_getD_getElem?, Option.getD_some, e17, e18, e22, e23]; rfl)) ?_
    with_reducible refine (impl_drift.calls a1 a2 s0_0 s0_1 s0_2 s0_3 s0_4 s0_5 a3_0 a3_1 t214 t215 t216 t217 t218 t219 t220 t221 _ A10.out).mono ?_
    rintro e w16 ⟨rfl, hb⟩
    refine ⟨_, rfl, ?_⟩
    have n0_ := Aside0.mk (IsS89.below (by repeat (first | (with_reducible first | exact HI0.out | apply IsS89.alloc | apply IsS89.drewN | apply IsS89.drew | apply IsS89.set_0 | apply IsS89.set_1 | apply IsS89.set_2 | apply IsS89.set_3 | apply IsS89.set_4 | apply IsS89.set_5 | apply IsS89.set_6 | refine IsS89.far ?_ NB0_211.out _ | refine IsS89.far ?_ NB0_212.out _ | refine IsS89.far ?_ NB0_213.out _) | exact HI0.out)) hb)
    have n1_ := Aside0.mk (sqB BK211.out hb)
    have n2_ := Aside0.mk (sqB BK212.out hb)
    have n3_ := Aside0.mk (sqB BK213.out hb)
    have n4_ := Aside0.mk (KeepBut.trans (by repeat (first | (with_reducible first | exact HK.out | apply KeepBut.set_ | apply keep_drewN | apply keep_drew | apply keep_alloc | refine keep_far ?_ GW211.out _ | refine keep_far ?_ GW212.out _ | refine keep_far ?_ GW213.out _) | exact HK.out)) (KeepBut.of_below hb g none) (.inl rfl))
    have n5_ := Aside0.mk (below_step (by repeat (first | (with_reducible first | exact HB.out | apply below_alloc | apply pw_below_drewN | apply below_drew1 | refine below_set ?_ (IsS89.ge HI0.out) | refine below_set ?_ GE211.out | refine below_set ?_ GE212.out | refine below_set ?_ GE213.out) | exact HB.out)) hb)
    have z_BK222 := fun (h0_ : b 12 = true) (h1_ : b 13 = false) => (show w16.heap[gb222]? = some (.cells #[.int .i8 0, .int .i8 0, .int .i8 0, .int .i8 0, .int .i8 0, .int .i8 0] 44 (0, 0)) from by first | exact (blk_below (g := gb222) (o := .cells #[.int .i8 0, .int .i8 0, .int .i8 0, .int .i8 0, .int .i8 0, .int .i8 0] 44 (0, 0)) (by (with_reducible repeat (first | refine blk_drewN ?_ _ | refine blk_drew ?_ | refine blk_alloc ?_ _)); exact (Q_BK222 h0_ h1_)) hb))
    clear HI0
    clear BK211
    clear BK212
    clear BK213
    clear HK
    clear HB
    have HI0 := n0_
    have BK211 := n1_
    have BK212 := n2_
    have BK213 := n3_
    have HK := n4_
    have HB := n5_
    clear n0_ n1_ n2_ n3_ n4_ n5_
    (try clear hb)
    (try clear hb2)
    (try clear hk)
    (try clear hi)
    refine hK.out _ _ ⟨gb222, m12_, (by rw [ha.out]; exact putSel_upk 6 hb_ rfl rfl rfl), (sqO BK211.out), (sqO BK212.out), (sqO BK213.out), (by repeat (first | (with_reducible first | exact HI0.out | apply IsS89.alloc | apply IsS89.drewN | apply IsS89.drew | apply IsS89.set_0 | apply IsS89.set_1 | apply IsS89.set_2 | apply IsS89.set_3 | apply IsS89.set_4 | apply IsS89.set_5 | apply IsS89.set_6 | refine IsS89.far ?_ NB0_211.out _ | refine IsS89.far ?_ NB0_212.out _ | refine IsS89.far ?_ NB0_213.out _) | exact HI0.out)), (by repeat (first | (with_reducible first | exact HK.out | apply KeepBut.set_ | apply keep_drewN | apply keep_drew | apply keep_alloc | refine keep_far ?_ GW211.out _ | refine keep_far ?_ GW212.out _ | refine keep_far ?_ GW213.out _) | exact HK.out)), (by repeat (first | (with_reducible first | exact HB.out | apply below_alloc | apply pw_below_drewN | apply below_drew1 | refine below_set ?_ (IsS89.ge HI0.out) | refine below_set ?_ GE211.out | refine below_set ?_ GE212.out | refine below_set ?_ GE213.out) | exact HB.out)), z_BK222, Q_GW222, Q_GE222, Q_NB0_222, Q_NB222_0, Q_NB211_222, Q_NB222_211, Q_NB212_222, Q_NB222_212, Q_NB213_222, Q_NB222_213, fun h0_ => absurd ((hoff 13 (by kernel_rfl)).symm.trans h0_) (by decide), Q_X12_⟩
   refine steps_cons ?_ ?_
   ·rintro b a w' ⟨gb222, m12_, ha, Q_BK211, Q_BK212, Q_BK213, Q_HI0, Q_HK, Q_HB, Q_BK222, Q_GW222, Q_GE222, Q_NB0_222, Q_NB222_0, Q_NB211_222, Q_NB222_211, Q_NB212_222, Q_NB222_212, Q_NB213_222, Q_NB222_213, Q_BK222_e13, Q_X12_⟩ hb_ hon hoff
    refine ⟨_, rfl, fun K hK => ?_⟩
    have e24 : a.tmps[24]? = some (.tuple #[.agg #[.int .i8 t214, .int .i8 t215, .int .i8 t216, .int .i8 t217, .int .i8 t218, .int .i8 t219], .bool t220, .bool t221]) := by rw [ha]; exact putSel_on (e := (7, 24, .tuple #[.agg #[.int .i8 t214, .int .i8 t215, .int .i8 t216, .int .i8 t217, .int .i8 t218, .int .i8 t219], .bool t220, .bool t221])) 6 rfl rfl (hon 7 (by kernel_rfl)) rfl
    replace ha := Aside0.mk ha
    have BK211 := Aside0.mk Q_BK211
    have BK212 := Aside0.mk Q_BK212
    have BK213 := Aside0.mk Q_BK213
    have HI0 := Aside0.mk Q_HI0
    have HK := Aside0.mk Q_HK
    have HB := Aside0.mk Q_HB
    refine value_ (w1 := w') (v := .tuple #[.agg #[.int .i8 t214, .int .i8 t215, .int .i8 t216, .int .i8 t217, .int .i8 t218, .int .i8 t219], .bool t220, .bool t221]) (by rfl) rfl ?_ ?_
    ·go_simp
     (try simp only [i64_w])
     try rfl
    refine hK.out _ _ ⟨gb222, m12_, (by rw [ha.out]; exact putSel_upk 7 hb_ rfl rfl rfl), Q_BK211, Q_BK212, Q_BK213, Q_HI0, Q_HK, Q_HB, Q_BK222, Q_GW222, Q_GE222, Q_NB0_222, Q_NB222_0, Q_NB211_222, Q_NB222_211, Q_NB212_222, Q_NB222_212, Q_NB213_222, Q_NB222_213, fun h0_ => absurd ((hoff 13 (by kernel_rfl)).symm.trans h0_) (by decide), Q_X12_⟩
   refine steps_cons ?_ ?_
   ·rintro b a w' ⟨gb222, m12_, ha, Q_BK211, Q_BK212, Q_BK213, Q_HI0, Q_HK, Q_HB, Q_BK222, Q_GW222, Q_GE222, Q_NB0_222, Q_NB222_0, Q_NB211_222, Q_NB222_211, Q_NB212_222, Q_NB222_212, Q_NB213_222, Q_NB222_213, Q_BK222_e13, Q_X12_⟩ hb_ hon hoff
    refine ⟨_, rfl, fun K hK => ?_⟩
    have e16 : a.tmps[16]? = some (.tuple #[.agg #[.int .i8 t214, .int .i8 t215, .int .i8 t216, .int .i8 t217, .int .i8 t218, .int .i8 t219], .bool t220, .bool t221]) := by rw [ha]; exact putSel_on (e := (8, 16, .tuple #[.agg #[.int .i8 t214, .int .i8 t215, .int .i8 t216, .int .i8 t217, .int .i8 t218, .int .i8 t219], .bool t220, .bool t221])) 7 rfl rfl (hon 8 (by kernel_rfl)) rfl
    replace ha := Aside0.mk ha
    have BK211 := Aside0.mk Q_BK211
    have BK212 := Aside0.mk Q_BK212
    have BK213 := Aside0.mk Q_BK213
    have HI0 := Aside0.mk Q_HI0
    have HK := Aside0.mk Q_HK
    have HB := Aside0.mk Q_HB
    refine value_ (w1 := w') (v := .agg #[.int .i8 t214, .int .i8 t215, .int .i8 t216, .int .i8 t217, .int .i8 t218, .int .i8 t219]) (by rfl) rfl ?_ ?_
    ·go_simp
     (try simp only [i64_w])
     try rfl
    refine hK.out _ _ ⟨gb222, m12_, (by rw [ha.out]; exact putSel_upk 8 hb_ rfl rfl rfl), Q_BK211, Q_BK212, Q_BK213, Q_HI0, Q_HK, Q_HB, Q_BK222, Q_GW222, Q_GE222, Q_NB0_222, Q_NB222_0, Q_NB211_222, Q_NB222_211, Q_NB212_222, Q_NB222_212, Q_NB213_222, Q_NB222_213, fun h0_ => absurd ((hoff 13 (by kernel_rfl)).symm.trans h0_) (by decide), Q_X12_⟩
   refine steps_cons ?_ ?_
   ·rintro b a w' ⟨gb222, m12_, ha, Q_BK211, Q_BK212, Q_BK213, Q_HI0, Q_HK, Q_HB, Q_BK222, Q_GW222, Q_GE222, Q_NB0_222, Q_NB222_0, Q_NB211_222, Q_NB222_211, Q_NB212_222, Q_NB222_212, Q_NB213_222, Q_NB222_213, Q_BK222_e13, Q_X12_⟩ hb_ hon hoff
    refine ⟨_, rfl, fun K hK => ?_⟩
    have e16 : a.tmps[16]? = some (.tuple #[.agg #[.int .i8 t214, .int .i8 t215, .int .i8 t216, .int .i8 t217, .int .i8 t218, .int .i8 t219], .bool t220, .bool t221]) := by rw [ha]; exact putSel_on (e := (8, 16, .tuple #[.agg #[.int .i8 t214, .int .i8 t215, .int .i8 t216, .int .i8 t217, .int .i8 t218, .int .i8 t219], .bool t220, .bool t221])) 7 rfl rfl (hon 8 (by kernel_rfl)) rfl
    replace ha := Aside0.mk ha
    have BK211 := Aside0.mk Q_BK211
    have BK212 := Aside0.mk Q_BK212
    have BK213 := Aside0.mk Q_BK213
    have HI0 := Aside0.mk Q_HI0
    have HK := Aside0.mk Q_HK
    have HB := Aside0.mk Q_HB
    refine value_ (w1 := w') (v := .bool t220) (by rfl) rfl ?_ ?_
    ·go_simp
     (try simp only [i64_w])
     try rfl
    refine hK.out _ _ ⟨gb222, m12_, (by rw [ha.out]; exact putSel_upk 9 hb_ rfl rfl rfl), Q_BK211, Q_BK212, Q_BK213, Q_HI0, Q_HK, Q_HB, Q_BK222, Q_GW222, Q_GE222, Q_NB0_222, Q_NB222_0, Q_NB211_222, Q_NB222_211, Q_NB212_222, Q_NB222_212, Q_NB213_222, Q_NB222_213, Q_BK222_e13, Q_X12_⟩
   refine steps_cons ?_ ?_
   ·rintro b a w' ⟨gb222, m12_, ha, Q_BK211, Q_BK212, Q_BK213, Q_HI0, Q_HK, Q_HB, Q_BK222, Q_GW222, Q_GE222, Q_NB0_222, Q_NB222_0, Q_NB211_222, Q_NB222_211, Q_NB212_222, Q_NB222_212, Q_NB213_222, Q_NB222_213, Q_BK222_e13, Q_X12_⟩ hb_ hon hoff
    refine ⟨_, rfl, fun K hK => ?_⟩
    have e16 : a.tmps[16]? = some (.tuple #[.agg #[.int .i8 t214, .int .i8 t215, .int .i8 t216, .int .i8 t217, .int .i8 t218, .int .i8 t219], .bool t220, .bool t221]) := by rw [ha]; exact putSel_on (e := (8, 16, .tuple #[.agg #[.int .i8 t214, .int .i8 t215, .int .i8 t216, .int .i8 t217, .int .i8 t218, .int .i8 t219], .bool t220, .bool t221])) 7 rfl rfl (hon 8 (by kernel_rfl)) rfl
    replace ha := Aside0.mk ha
    have BK211 := Aside0.mk Q_BK211
    have BK212 := Aside0.mk Q_BK212
    have BK213 := Aside0.mk Q_BK213
    have HI0 := Aside0.mk Q_HI0
    have HK := Aside0.mk Q_HK
    have HB := Aside0.mk Q_HB
    refine value_ (w1 := w') (v := .bool t221) (by rfl) rfl ?_ ?_
    ·go_simp
     (try simp only [i64_w])
     try rfl
    refine hK.out _ _ ⟨gb222, m12_, (by rw [ha.out]; exact putSel_upk 10 hb_ rfl rfl rfl), Q_BK211, Q_BK212, Q_BK213, Q_HI0, Q_HK, Q_HB, Q_BK222, Q_GW222, Q_GE222, Q_NB0_222, Q_NB222_0, Q_NB211_222, Q_NB222_211, Q_NB212_222, Q_NB222_212, Q_NB213_222, Q_NB222_213, Q_BK222_e13, Q_X12_⟩
   refine steps_cons ?_ ?_
   ·rintro b a w' ⟨gb222, m12_, ha, Q_BK211, Q_BK212, Q_BK213, Q_HI0, Q_HK, Q_HB, Q_BK222, Q_GW222, Q_GE222, Q_NB0_222, Q_NB222_0, Q_NB211_222, Q_NB222_211, Q_NB212_222, Q_NB222_212, Q_NB213_222, Q_NB222_213, Q_BK222_e13, Q_X12_⟩ hb_ hon hoff
    refine ⟨_, rfl, fun K hK => ?_⟩
    replace ha := Aside0.mk ha
    have BK211 := Aside0.mk Q_BK211
    have BK212 := Aside0.mk Q_BK212
    have BK213 := Aside0.mk Q_BK213
    have HI0 := Aside0.mk Q_HI0
    have HK := Aside0.mk Q_HK
    have HB := Aside0.mk Q_HB
    refine box_step ?hg (N := 9) ?hd (cs := #[.int .i8 0, .int .i8 0, .int .i8 0, .int .i8 0, .int .i8 0, .int .i8 0]) (t := 44) ?hr ?_; (case hd => rfl); (case hg => rfl); (case hr => first | (go_simp; done) | (go_simp; rfl))
    intro gb222 hg w16 hbox hb
    replace HB := Aside0.mk (below_step (by repeat (first | (with_reducible first | exact HB.out | apply below_alloc | apply pw_below_drewN | apply below_drew1 | refine below_set ?_ (IsS89.ge HI0.out) | refine below_set ?_ GE211.out | refine below_set ?_ GE212.out | refine below_set ?_ GE213.out) | exact HB.out)) hb)
    have BK222 := Aside0.mk (hbox)
    have GW222 := Aside0.mk ((by rw [hg]; exact (keep_size (w := w) (g := g) (row := none) (by repeat (first | (with_reducible first | exact HK.out | apply KeepBut.set_ | apply keep_drewN | apply keep_drew | apply keep_alloc | refine keep_far ?_ GW211.out _ | refine keep_far ?_ GW212.out _ | refine keep_far ?_ GW213.out _) | exact HK.out))) : w.heap.size ≤ gb222))
    have GE222 := Aside0.mk ((Nat.le_trans HW0.out (by rw [hg]; exact (keep_size (w := w) (g := g) (row := none) (by repeat (first | (with_reducible first | exact HK.out | apply KeepBut.set_ | apply keep_drewN | apply keep_drew | apply keep_alloc | refine keep_far ?_ GW211.out _ | refine keep_far ?_ GW212.out _ | refine keep_far ?_ GW213.out _) | exact HK.out))) : w.heap.size ≤ gb222) : w0.heap.size ≤ gb222))
    replace HK := Aside0.mk (KeepBut.trans (by repeat (first | (with_reducible first | exact HK.out | apply KeepBut.set_ | apply keep_drewN | apply keep_drew | apply keep_alloc | refine keep_far ?_ GW211.out _ | refine keep_far ?_ GW212.out _ | refine keep_far ?_ GW213.out _) | exact HK.out)) (KeepBut.of_below hb g none) (.inl rfl))
    have NB211_222 := Aside0.mk (sqN BK211.out hg)
    have NB222_211 := Aside0.mk ((by rw [hg]; exact Nat.ne_of_gt (blk_lt (g := gb211) (o := .cells (a1).A 38 (0, 0)) (sqO BK211.out)) : gb222 ≠ gb211))
    replace BK211 := Aside0.mk (sqB BK211.out hb)
    have NB212_222 := Aside0.mk (sqN BK212.out hg)
    have NB222_212 := Aside0.mk ((by rw [hg]; exact Nat.ne_of_gt (blk_lt (g := gb212) (o := .cells (a2).A 40 (0, 0)) (sqO BK212.out)) : gb222 ≠ gb212))
    replace BK212 := Aside0.mk (sqB BK212.out hb)
    have NB213_222 := Aside0.mk (sqN BK213.out hg)
    have NB222_213 := Aside0.mk ((by rw [hg]; exact Nat.ne_of_gt (blk_lt (g := gb213) (o := .cells #[.int .i8 a3_0, .int .i8 a3_1] 78 (0, 0)) (sqO BK213.out)) : gb222 ≠ gb213))
    replace BK213 := Aside0.mk (sqB BK213.out hb)
    have NB0_222 := Aside0.mk ((by rw [hg]; exact Nat.ne_of_lt (IsS89.lt (show IsS89 w0 _ g s0_0 s0_1 s0_2 s0_3 s0_4 s0_5 false from by repeat (first | (with_reducible first | exact HI0.out | apply IsS89.alloc | apply IsS89.drewN | apply IsS89.drew | apply IsS89.set_0 | apply IsS89.set_1 | apply IsS89.set_2 | apply IsS89.set_3 | apply IsS89.set_4 | apply IsS89.set_5 | apply IsS89.set_6 | refine IsS89.far ?_ NB0_211.out _ | refine IsS89.far ?_ NB0_212.out _ | refine IsS89.far ?_ NB0_213.out _) | exact HI0.out))) : g ≠ gb222))
    have NB222_0 := Aside0.mk ((by rw [hg]; exact Nat.ne_of_gt (IsS89.lt (show IsS89 w0 _ g s0_0 s0_1 s0_2 s0_3 s0_4 s0_5 false from by repeat (first | (with_reducible first | exact HI0.out | apply IsS89.alloc | apply IsS89.drewN | apply IsS89.drew | apply IsS89.set_0 | apply IsS89.set_1 | apply IsS89.set_2 | apply IsS89.set_3 | apply IsS89.set_4 | apply IsS89.set_5 | apply IsS89.set_6 | refine IsS89.far ?_ NB0_211.out _ | refine IsS89.far ?_ NB0_212.out _ | refine IsS89.far ?_ NB0_213.out _) | exact HI0.out))) : gb222 ≠ g))
    replace HI0 := Aside0.mk (IsS89.below (by repeat (first | (with_reducible first | exact HI0.out | apply IsS89.alloc | apply IsS89.drewN | apply IsS89.drew | apply IsS89.set_0 | apply IsS89.set_1 | apply IsS89.set_2 | apply IsS89.set_3 | apply IsS89.set_4 | apply IsS89.set_5 | apply IsS89.set_6 | refine IsS89.far ?_ NB0_211.out _ | refine IsS89.far ?_ NB0_212.out _ | refine IsS89.far ?_ NB0_213.out _) | exact HI0.out)) hb)
    clear hb hbox hg
    refine hK.out _ _ ⟨gb222, (.pointer (some ⟨gb222, 0, none⟩)), (by rw [ha.out]; exact putSel_upk 11 hb_ rfl rfl rfl), (sqO BK211.out), (sqO BK212.out), (sqO BK213.out), (by repeat (first | (with_reducible first | exact HI0.out | apply IsS89.alloc | apply IsS89.drewN | apply IsS89.drew | apply IsS89.set_0 | apply IsS89.set_1 | apply IsS89.set_2 | apply IsS89.set_3 | apply IsS89.set_4 | apply IsS89.set_5 | apply IsS89.set_6 | refine IsS89.far ?_ NB0_211.out _ | refine IsS89.far ?_ NB0_212.out _ | refine IsS89.far ?_ NB0_213.out _ | refine IsS89.far ?_ NB0_222.out _) | exact HI0.out)), (by repeat (first | (with_reducible first | exact HK.out | apply KeepBut.set_ | apply keep_drewN | apply keep_drew | apply keep_alloc | refine keep_far ?_ GW211.out _ | refine keep_far ?_ GW212.out _ | refine keep_far ?_ GW213.out _ | refine keep_far ?_ GW222.out _) | exact HK.out)), (by repeat (first | (with_reducible first | exact HB.out | apply below_alloc | apply pw_below_drewN | apply below_drew1 | refine below_set ?_ (IsS89.ge HI0.out) | refine below_set ?_ GE211.out | refine below_set ?_ GE212.out | refine below_set ?_ GE213.out | refine below_set ?_ GE222.out) | exact HB.out)), fun _ _ => (sqO BK222.out), fun _ => GW222.out, fun _ => GE222.out, fun _ => NB0_222.out, fun _ => NB222_0.out, fun _ => NB211_222.out, fun _ => NB222_211.out, fun _ => NB212_222.out, fun _ => NB222_212.out, fun _ => NB213_222.out, fun _ => NB222_213.out, fun h0_ => absurd ((hoff 13 (by kernel_rfl)).symm.trans h0_) (by decide), fun _ => rfl⟩
   refine steps_cons ?_ ?_
   ·rintro b a w' ⟨gb222, m12_, ha, Q_BK211, Q_BK212, Q_BK213, Q_HI0, Q_HK, Q_HB, Q_BK222, Q_GW222, Q_GE222, Q_NB0_222, Q_NB222_0, Q_NB211_222, Q_NB222_211, Q_NB212_222, Q_NB222_212, Q_NB213_222, Q_NB222_213, Q_BK222_e13, Q_X12_⟩ hb_ hon hoff
    refine ⟨_, rfl, fun K hK => ?_⟩
    have e9 : a.tmps[9]? = some (m12_) := by rw [ha]; exact putSel_on (e := (12, 9, m12_)) 11 rfl rfl (hon 12 (by kernel_rfl)) rfl
    rw [Q_X12_ (hon 12 (by kernel_rfl))] at e9
    have e25 : a.tmps[25]? = some (.agg #[.int .i8 t214, .int .i8 t215, .int .i8 t216, .int .i8 t217, .int .i8 t218, .int .i8 t219]) := by rw [ha]; exact putSel_on (e := (9, 25, .agg #[.int .i8 t214, .int .i8 t215, .int .i8 t216, .int .i8 t217, .int .i8 t218, .int .i8 t219])) 8 rfl rfl (hon 9 (by kernel_rfl)) rfl
    replace ha := Aside0.mk ha
    have BK211 := Aside0.mk Q_BK211
    have BK212 := Aside0.mk Q_BK212
    have BK213 := Aside0.mk Q_BK213
    have HI0 := Aside0.mk Q_HI0
    have HK := Aside0.mk Q_HK
    have HB := Aside0.mk Q_HB
    have BK222 := Aside0.mk (Q_BK222 (hon 12 (by kernel_rfl)) hb_)
    have GW222 := Aside0.mk (Q_GW222 (hon 12 (by kernel_rfl)))
    have GE222 := Aside0.mk (Q_GE222 (hon 12 (by kernel_rfl)))
    have NB0_222 := Aside0.mk (Q_NB0_222 (hon 12 (by kernel_rfl)))
    have NB222_0 := Aside0.mk (Q_NB222_0 (hon 12 (by kernel_rfl)))
    have NB211_222 := Aside0.mk (Q_NB211_222 (hon 12 (by kernel_rfl)))
    have NB222_211 := Aside0.mk (Q_NB222_211 (hon 12 (by kernel_rfl)))
    have NB212_222 := Aside0.mk (Q_NB212_222 (hon 12 (by kernel_rfl)))
    have NB222_212 := Aside0.mk (Q_NB222_212 (hon 12 (by kernel_rfl)))
    have NB213_222 := Aside0.mk (Q_NB213_222 (hon 12 (by kernel_rfl)))
    have NB222_213 := Aside0.mk (Q_NB222_213 (hon 12 (by kernel_rfl)))
    have hs19 : w'.cell? ⟨gb222, 0, none⟩ = some (.int .i8 0) := (blk_cell BK222.out 0).trans rfl
    have hfs19 := blk_frozen BK222.out 0
    have hns19_0 := NB211_222.out
    have hns19_1 := NB212_222.out
    have hns19_2 := NB213_222.out
    have hms19_0 := NB222_211.out
    have hms19_1 := NB222_212.out
    have hms19_2 := NB222_213.out
    have hs20 : w'.cell? ⟨gb222, 1, none⟩ = some (.int .i8 0) := (blk_cell BK222.out 1).trans rfl
    have hfs20 := blk_frozen BK222.out 1
    have hns20_0 := NB211_222.out
    have hns20_1 := NB212_222.out
    have hns20_2 := NB213_222.out
    have hms20_0 := NB222_211.out
    have hms20_1 := NB222_212.out
    have hms20_2 := NB222_213.out
    have hs21 : w'.cell? ⟨gb222, 2, none⟩ = some (.int .i8 0) := (blk_cell BK222.out 2).trans rfl
    have hfs21 := blk_frozen BK222.out 2
    have hns21_0 := NB211_222.out
    have hns21_1 := NB212_222.out
    have hns21_2 := NB213_222.out
    have hms21_0 := NB222_211.out
    have hms21_1 := NB222_212.out
    have hms21_2 := NB222_213.out
    have hs22 : w'.cell? ⟨gb222, 3, none⟩ = some (.int .i8 0) := (blk_cell BK222.out 3).trans rfl
    have hfs22 := blk_frozen BK222.out 3
    have hns22_0 := NB211_222.out
    have hns22_1 := NB212_222.out
    have hns22_2 := NB213_222.out
    have hms22_0 := NB222_211.out
    have hms22_1 := NB222_212.out
    have hms22_2 := NB222_213.out
    have hs23 : w'.cell? ⟨gb222, 4, none⟩ = some (.int .i8 0) := (blk_cell BK222.out 4).trans rfl
    have hfs23 := blk_frozen BK222.out 4
    have hns23_0 := NB211_222.out
    have hns23_1 := NB212_222.out
    have hns23_2 := NB213_222.out
    have hms23_0 := NB222_211.out
    have hms23_1 := NB222_212.out
    have hms23_2 := NB222_213.out
    have hs24 : w'.cell? ⟨gb222, 5, none⟩ = some (.int .i8 0) := (blk_cell BK222.out 5).trans rfl
    have hfs24 := blk_frozen BK222.out 5
    have hns24_0 := NB211_222.out
    have hns24_1 := NB212_222.out
    have hns24_2 := NB213_222.out
    have hms24_0 := NB222_211.out
    have hms24_1 := NB222_212.out
    have hms24_2 := NB222_213.out
    refine skip_ (w1 := ?_) (by rfl) rfl ?_ ?_
    rotate_left
    ·go_simp
     rfl
    refine hK.out _ _ ⟨gb222, m12_, (by rw [ha.out]; exact putSel_none (v := undef) rfl), (by (with_reducible repeat (first | refine blk_drewN ?_ _ | refine blk_drew ?_ | refine blk_alloc ?_ _)); refine blk_far ?_ NB211_222.out _; (with_reducible repeat (first | refine blk_drewN ?_ _ | refine blk_drew ?_ | refine blk_alloc ?_ _)); refine blk_far ?_ NB211_222.out _; (with_reducible repeat (first | refine blk_drewN ?_ _ | refine blk_drew ?_ | refine blk_alloc ?_ _)); refine blk_far ?_ NB211_222.out _; (with_reducible repeat (first | refine blk_drewN ?_ _ | refine blk_drew ?_ | refine blk_alloc ?_ _)); refine blk_far ?_ NB211_222.out _; (with_reducible repeat (first | refine blk_drewN ?_ _ | refine blk_drew ?_ | refine blk_alloc ?_ _)); refine blk_far ?_ NB211_222.out _; (with_reducible repeat (first | refine blk_drewN ?_ _ | refine blk_drew ?_ | refine blk_alloc ?_ _)); refine blk_far ?_ NB211_222.out _; (with_reducible repeat (first | refine blk_drewN ?_ _ | refine blk_drew ?_ | refine blk_alloc ?_ _)); exact BK211.out), (by (with_reducible repeat (first | refine blk_drewN ?_ _ | refine blk_drew ?_ | refine blk_alloc ?_ _)); refine blk_far ?_ NB212_222.out _; (with_reducible repeat (first | refine blk_drewN ?_ _ | refine blk_drew ?_ | refine blk_alloc ?_ _)); refine blk_far ?_ NB212_222.out _; (with_reducible repeat (first | refine blk_drewN ?_ _ | refine blk_drew ?_ | refine blk_alloc ?_ _)); refine blk_far ?_ NB212_222.out _; (with_reducible repeat (first | refine blk_drewN ?_ _ | refine blk_drew ?_ | refine blk_alloc ?_ _)); refine blk_far ?_ NB212_222.out _; (with_reducible repeat (first | refine blk_drewN ?_ _ | refine blk_drew ?_ | refine blk_alloc ?_ _)); refine blk_far ?_ NB212_222.out _; (with_reducible repeat (first | refine blk_drewN ?_ _ | refine blk_drew ?_ | refine blk_alloc ?_ _)); refine blk_far ?_ NB212_222.out _; (with_reducible repeat (first | refine blk_drewN ?_ _ | refine blk_drew ?_ | refine blk_alloc ?_ _)); exact BK212.out), (by (with_reducible repeat (first | refine blk_drewN ?_ _ | refine blk_drew ?_ | refine blk_alloc ?_ _)); refine blk_far ?_ NB213_222.out _; (with_reducible repeat (first | refine blk_drewN ?_ _ | refine blk_drew ?_ | refine blk_alloc ?_ _)); refine blk_far ?_ NB213_222.out _; (with_reducible repeat (first | refine blk_drewN ?_ _ | refine blk_drew ?_ | refine blk_alloc ?_ _)); refine blk_far ?_ NB213_222.out _; (with_reducible repeat (first | refine blk_drewN ?_ _ | refine blk_drew ?_ | refine blk_alloc ?_ _)); refine blk_far ?_ NB213_222.out _; (with_reducible repeat (first | refine blk_drewN ?_ _ | refine blk_drew ?_ | refine blk_alloc ?_ _)); refine blk_far ?_ NB213_222.out _; (with_reducible repeat (first | refine blk_drewN ?_ _ | refine blk_drew ?_ | refine blk_alloc ?_ _)); refine blk_far ?_ NB213_222.out _; (with_reducible repeat (first | refine blk_drewN ?_ _ | refine blk_drew ?_ | refine blk_alloc ?_ _)); exact BK213.out), (by repeat (first | (with_reducible first | exact HI0.out | apply IsS89.alloc | apply IsS89.drewN | apply IsS89.drew | apply IsS89.set_0 | apply IsS89.set_1 | apply IsS89.set_2 | apply IsS89.set_3 | apply IsS89.set_4 | apply IsS89.set_5 | apply IsS89.set_6 | refine IsS89.far ?_ NB0_211.out _ | refine IsS89.far ?_ NB0_212.out _ | refine IsS89.far ?_ NB0_213.out _ | refine IsS89.far ?_ NB0_222.out _) | exact HI0.out)), (by repeat (first | (with_reducible first | exact HK.out | apply KeepBut.set_ | apply keep_drewN | apply keep_drew | apply keep_alloc | refine keep_far ?_ GW211.out _ | refine keep_far ?_ GW212.out _ | refine keep_far ?_ GW213.out _ | refine keep_far ?_ GW222.out _) | exact HK.out)), (by repeat (first | (with_reducible first | exact HB.out | apply below_alloc | apply pw_below_drewN | apply below_drew1 | refine below_set ?_ (IsS89.ge HI0.out) | refine below_set ?_ GE211.out | refine below_set ?_ GE212.out | refine below_set ?_ GE213.out | refine below_set ?_ GE222.out) | exact HB.out)), fun _ h1_ => absurd ((up_self b 13).symm.trans h1_) (by decide), fun _ => GW222.out, fun _ => GE222.out, fun _ => NB0_222.out, fun _ => NB222_0.out, fun _ => NB211_222.out, fun _ => NB222_211.out, fun _ => NB212_222.out, fun _ => NB222_212.out, fun _ => NB213_222.out, fun _ => NB222_213.out, fun _ => (by (with_reducible repeat (first | refine blk_drewN ?_ _ | refine blk_drew ?_ | refine blk_alloc ?_ _)); refine blk_put (cs := #[.int .i8 t214, .int .i8 t215, .int .i8 t216, .int .i8 t217, .int .i8 t218, .int .i8 0]) ?_ 5 _ rfl; (with_reducible repeat (first | refine blk_drewN ?_ _ | refine blk_drew ?_ | refine blk_alloc ?_ _)); refine blk_put (cs := #[.int .i8 t214, .int .i8 t215, .int .i8 t216, .int .i8 t217, .int .i8 0, .int .i8 0]) ?_ 4 _ rfl; (with_reducible repeat (first | refine blk_drewN ?_ _ | refine blk_drew ?_ | refine blk_alloc ?_ _)); refine blk_put (cs := #[.int .i8 t214, .int .i8 t215, .int .i8 t216, .int .i8 0, .int .i8 0, .int .i8 0]) ?_ 3 _ rfl; (with_reducible repeat (first | refine blk_drewN ?_ _ | refine blk_drew ?_ | refine blk_alloc ?_ _)); refine blk_put (cs := #[.int .i8 t214, .int .i8 t215, .int .i8 0, .int .i8 0, .int .i8 0, .int .i8 0]) ?_ 2 _ rfl; (with_reducible repeat (first | refine blk_drewN ?_ _ | refine blk_drew ?_ | refine blk_alloc ?_ _)); refine blk_put (cs := #[.int .i8 t214, .int .i8 0, .int .i8 0, .int .i8 0, .int .i8 0, .int .i8 0]) ?_ 1 _ rfl; (with_reducible repeat (first | refine blk_drewN ?_ _ | refine blk_drew ?_ | refine blk_alloc ?_ _)); refine blk_put (cs := #[.int .i8 0, .int .i8 0, .int .i8 0, .int .i8 0, .int .i8 0, .int .i8 0]) ?_ 0 _ rfl; (with_reducible repeat (first | refine blk_drewN ?_ _ | refine blk_drew ?_ | refine blk_alloc ?_ _)); exact BK222.out), Q_X12_⟩
   refine steps_cons ?_ ?_
   ·rintro b a w' ⟨gb222, m12_, ha, Q_BK211, Q_BK212, Q_BK213, Q_HI0, Q_HK, Q_HB, Q_BK222, Q_GW222, Q_GE222, Q_NB0_222, Q_NB222_0, Q_NB211_222, Q_NB222_211, Q_NB212_222, Q_NB222_212, Q_NB213_222, Q_NB222_213, Q_BK222_e13, Q_X12_⟩ hb_ hon hoff
    refine ⟨_, rfl, fun K hK => ?_⟩
    have e26 : a.tmps[26]? = some (.bool t220) := by rw [ha]; exact putSel_on (e := (10, 26, .bool t220)) 9 rfl rfl (hon 10 (by kernel_rfl)) rfl
    replace ha := Aside0.mk ha
    have BK211 := Aside0.mk Q_BK211
    have BK212 := Aside0.mk Q_BK212
    have BK213 := Aside0.mk Q_BK213
    have HI0 := Aside0.mk Q_HI0
    have HK := Aside0.mk Q_HK
    have HB := Aside0.mk Q_HB
    have GW222 := Aside0.mk (Q_GW222 (hon 12 (by kernel_rfl)))
    have GE222 := Aside0.mk (Q_GE222 (hon 12 (by kernel_rfl)))
    have NB0_222 := Aside0.mk (Q_NB0_222 (hon 12 (by kernel_rfl)))
    have NB222_0 := Aside0.mk (Q_NB222_0 (hon 12 (by kernel_rfl)))
    have NB211_222 := Aside0.mk (Q_NB211_222 (hon 12 (by kernel_rfl)))
    have NB222_211 := Aside0.mk (Q_NB222_211 (hon 12 (by kernel_rfl)))
    have NB212_222 := Aside0.mk (Q_NB212_222 (hon 12 (by kernel_rfl)))
    have NB222_212 := Aside0.mk (Q_NB222_212 (hon 12 (by kernel_rfl)))
    have NB213_222 := Aside0.mk (Q_NB213_222 (hon 12 (by kernel_rfl)))
    have NB222_213 := Aside0.mk (Q_NB222_213 (hon 12 (by kernel_rfl)))
    have BK222 := Aside0.mk (Q_BK222_e13 (hon 13 (by kernel_rfl)))
    refine value_ (w1 := w') (v := .bool t220) (by rfl) rfl ?_ ?_
    ·go_simp
     (try simp only [i64_w])
     try rfl
    refine hK.out _ _ ⟨gb222, m12_, (by rw [ha.out]; exact putSel_upk 12 hb_ rfl rfl rfl), Q_BK211, Q_BK212, Q_BK213, Q_HI0, Q_HK, Q_HB, fun _ h1_ => absurd ((hon 13 (by kernel_rfl)).symm.trans h1_) (by decide), Q_GW222, Q_GE222, Q_NB0_222, Q_NB222_0, Q_NB211_222, Q_NB222_211, Q_NB212_222, Q_NB222_212, Q_NB213_222, Q_NB222_213, Q_BK222_e13, Q_X12_⟩
   refine steps_cons ?_ ?_
   ·rintro b a w' ⟨gb222, m12_, ha, Q_BK211, Q_BK212, Q_BK213, Q_HI0, Q_HK, Q_HB, Q_BK222, Q_GW222, Q_GE222, Q_NB0_222, Q_NB222_0, Q_NB211_222, Q_NB222_211, Q_NB212_222, Q_NB222_212, Q_NB213_222, Q_NB222_213, Q_BK222_e13, Q_X12_⟩ hb_ hon hoff
    refine ⟨_, rfl, fun K hK => ?_⟩
    have e27 : a.tmps[27]? = some (.bool t221) := by rw [ha]; exact putSel_on (e := (11, 27, .bool t221)) 10 rfl rfl (hon 11 (by kernel_rfl)) rfl
    replace ha := Aside0.mk ha
    have BK211 := Aside0.mk Q_BK211
    have BK212 := Aside0.mk Q_BK212
    have BK213 := Aside0.mk Q_BK213
    have HI0 := Aside0.mk Q_HI0
    have HK := Aside0.mk Q_HK
    have HB := Aside0.mk Q_HB
    have GW222 := Aside0.mk (Q_GW222 (hon 12 (by kernel_rfl)))
    have GE222 := Aside0.mk (Q_GE222 (hon 12 (by kernel_rfl)))
    have NB0_222 := Aside0.mk (Q_NB0_222 (hon 12 (by kernel_rfl)))
    have NB222_0 := Aside0.mk (Q_NB222_0 (hon 12 (by kernel_rfl)))
    have NB211_222 := Aside0.mk (Q_NB211_222 (hon 12 (by kernel_rfl)))
    have NB222_211 := Aside0.mk (Q_NB222_211 (hon 12 (by kernel_rfl)))
    have NB212_222 := Aside0.mk (Q_NB212_222 (hon 12 (by kernel_rfl)))
    have NB222_212 := Aside0.mk (Q_NB222_212 (hon 12 (by kernel_rfl)))
    have NB213_222 := Aside0.mk (Q_NB213_222 (hon 12 (by kernel_rfl)))
    have NB222_213 := Aside0.mk (Q_NB222_213 (hon 12 (by kernel_rfl)))
    have BK222 := Aside0.mk (Q_BK222_e13 (hon 13 (by kernel_rfl)))
    refine value_ (w1 := w') (v := .bool t221) (by rfl) rfl ?_ ?_
    ·go_simp
     (try simp only [i64_w])
     try rfl
    refine hK.out _ _ ⟨gb222, m12_, (by rw [ha.out]; exact putSel_upk 13 hb_ rfl rfl rfl), Q_BK211, Q_BK212, Q_BK213, Q_HI0, Q_HK, Q_HB, fun _ h1_ => absurd ((hon 13 (by kernel_rfl)).symm.trans h1_) (by decide), Q_GW222, Q_GE222, Q_NB0_222, Q_NB222_0, Q_NB211_222, Q_NB222_211, Q_NB212_222, Q_NB222_212, Q_NB213_222, Q_NB222_213, Q_BK222_e13, Q_X12_⟩
   exact steps_nil
  rintro b a w24 hall ⟨gb222, m12_, ha, Q_BK211, Q_BK212, Q_BK213, Q_HI0, Q_HK, Q_HB, Q_BK222, Q_GW222, Q_GE222, Q_NB0_222, Q_NB222_0, Q_NB211_222, Q_NB222_211, Q_NB212_222, Q_NB222_212, Q_NB213_222, Q_NB222_213, Q_BK222_e13, Q_X12_⟩
  clear BK211 BK212 BK213 HB HI0 HK
  have hb0_ := hall 0 (by kernel_rfl)
  have hb1_ := hall 1 (by kernel_rfl)
  have hb3_ := hall 3 (by kernel_rfl)
  have hb4_ := hall 4 (by kernel_rfl)
  have hb5_ := hall 5 (by kernel_rfl)
  have hb6_ := hall 6 (by kernel_rfl)
  have hb7_ := hall 7 (by kernel_rfl)
  have hb8_ := hall 8 (by kernel_rfl)
  have hb9_ := hall 9 (by kernel_rfl)
  have hb10_ := hall 10 (by kernel_rfl)
  have hb11_ := hall 11 (by kernel_rfl)
  have hb12_ := hall 12 (by kernel_rfl)
  have hb13_ := hall 13 (by kernel_rfl)
  have hb14_ := hall 14 (by kernel_rfl)
  have hb15_ := hall 15 (by kernel_rfl)
  subst ha
  obtain rfl := Q_X12_ hb12_
  simp only [putSel, hb0_, hb1_, hb3_, hb4_, hb5_, hb6_, hb7_, hb8_, hb9_, hb10_, hb11_, hb12_, hb13_, hb14_, hb15_, if_true, Act.put, List.setIfInBounds_toArray, List.set_cons_zero, List.set_cons_succ]
  have BK211 := Aside0.mk Q_BK211
  clear Q_BK211
  have BK212 := Aside0.mk Q_BK212
  clear Q_BK212
  have BK213 := Aside0.mk Q_BK213
  clear Q_BK213
  have HI0 := Aside0.mk Q_HI0
  clear Q_HI0
  have HK := Aside0.mk Q_HK
  clear Q_HK
  have HB := Aside0.mk Q_HB
  clear Q_HB
  clear Q_BK222
  have GW222 := Aside0.mk (Q_GW222 hb12_)
  clear Q_GW222
  have GE222 := Aside0.mk (Q_GE222 hb12_)
  clear Q_GE222
  have NB0_222 := Aside0.mk (Q_NB0_222 hb12_)
  clear Q_NB0_222
  have NB222_0 := Aside0.mk (Q_NB222_0 hb12_)
  clear Q_NB222_0
  have NB211_222 := Aside0.mk (Q_NB211_222 hb12_)
  clear Q_NB211_222
  have NB222_211 := Aside0.mk (Q_NB222_211 hb12_)
  clear Q_NB222_211
  have NB212_222 := Aside0.mk (Q_NB212_222 hb12_)
  clear Q_NB212_222
  have NB222_212 := Aside0.mk (Q_NB222_212 hb12_)
  clear Q_NB222_212
  have NB213_222 := Aside0.mk (Q_NB213_222 hb12_)
  clear Q_NB213_222
  have NB222_213 := Aside0.mk (Q_NB222_213 hb12_)
  clear Q_NB222_213
  have BK222 := Aside0.mk (Q_BK222_e13 hb13_)
  clear Q_BK222_e13
  clear hall hb0_ hb1_ hb3_ hb4_ hb5_ hb6_ hb7_ hb8_ hb9_ hb10_ hb11_ hb12_ hb13_ hb14_ hb15_
  have hnb25 := NB222_211.out
  have hnc25 := NB211_222.out
  have hnb26 := NB222_212.out
  have hnc26 := NB212_222.out
  have hnb27 := NB222_213.out
  have hnc27 := NB213_222.out
  have hnb28 := NB222_0.out
  have hnc28 := NB0_222.out
  have hcz29_0 : w24.cell? ⟨gb222, 0, none⟩ = some (.int .i8 t214) := (blk_cell BK222.out 0).trans rfl
  have hcz29_1 : w24.cell? ⟨gb222, 1, none⟩ = some (.int .i8 t215) := (blk_cell BK222.out 1).trans rfl
  have hcz29_2 : w24.cell? ⟨gb222, 2, none⟩ = some (.int .i8 t216) := (blk_cell BK222.out 2).trans rfl
  have hcz29_3 : w24.cell? ⟨gb222, 3, none⟩ = some (.int .i8 t217) := (blk_cell BK222.out 3).trans rfl
  have hcz29_4 : w24.cell? ⟨gb222, 4, none⟩ = some (.int .i8 t218) := (blk_cell BK222.out 4).trans rfl
  have hcz29_5 : w24.cell? ⟨gb222, 5, none⟩ = some (.int .i8 t219) := (blk_cell BK222.out 5).trans rfl
  have hfz29_0 := blk_frozen BK222.out 0
  have hfz29_1 := blk_frozen BK222.out 1
  have hfz29_2 := blk_frozen BK222.out 2
  have hfz29_3 := blk_frozen BK222.out 3
  have hfz29_4 := blk_frozen BK222.out 4
  have hfz29_5 := blk_frozen BK222.out 5
  obtain ⟨HGz30, hgz30⟩ := HI0.out
  have hcz30_0 := cellS89_0 HGz30
  have hcz30_1 := cellS89_1 HGz30
  have hcz30_2 := cellS89_2 HGz30
  have hcz30_3 := cellS89_3 HGz30
  have hcz30_4 := cellS89_4 HGz30
  have hcz30_5 := cellS89_5 HGz30
  have hcz30_6 := cellS89_6 HGz30
  have hfz30_0 := blk_frozen HGz30 0
  have hfz30_1 := blk_frozen HGz30 1
  have hfz30_2 := blk_frozen HGz30 2
  have hfz30_3 := blk_frozen HGz30 3
  have hfz30_4 := blk_frozen HGz30 4
  have hfz30_5 := blk_frozen HGz30 5
  have hfz30_6 := blk_frozen HGz30 6
  clear HGz30 hgz30
  try go_wp2
  go_ret
  exact ⟨by first | rfl | (simp [errW_none, errW_some] <;> rfl) | (simp [*, errW_none, errW_some] <;> rfl), by repeat (first | (with_reducible first | exact HI0.out | apply IsS89.alloc | apply IsS89.drewN | apply IsS89.drew | apply IsS89.set_0 | apply IsS89.set_1 | apply IsS89.set_2 | apply IsS89.set_3 | apply IsS89.set_4 | apply IsS89.set_5 | apply IsS89.set_6 | refine IsS89.far ?_ NB0_211.out _ | refine IsS89.far ?_ NB0_212.out _ | refine IsS89.far ?_ NB0_213.out _ | refine IsS89.far ?_ NB0_222.out _) | exact HI0.out), by repeat (first | (with_reducible first | exact HB.out | apply below_alloc | apply pw_below_drewN | apply below_drew1 | refine below_set ?_ (IsS89.ge HI0.out) | refine below_set ?_ GE211.out | refine below_set ?_ GE212.out | refine below_set ?_ GE213.out | refine below_set ?_ GE222.out) | exact HB.out), by repeat (first | (with_reducible first | exact HK.out | apply KeepBut.set_ | apply keep_drewN | apply keep_drew | apply keep_alloc | refine keep_far ?_ GW211.out _ | refine keep_far ?_ GW212.out _ | refine keep_far ?_ GW213.out _ | refine keep_far ?_ GW222.out _) | exact HK.out)⟩
end Go.Proofs.Ytmhmfhdmeedcfaa.G
end
section
namespace Go.Proofs.Ytmhmfhdmeedcfaa.G
open Go.RowKit Go.Proofs.YtmhmfhdmeedcfaaW.PrintWords Go.Proofs.YtmhmfhdmeedcfaaW.PrintLast Go.Proofs.YtmhmfhdmeedcfaaW.PrintMore
attribute [local go_sem] max2_int min2_int max_two min_two max_three min_three max_four min_four   -- for this text's walks alone
set_option linter.unusedVariables false
set_option linter.unusedSimpArgs false
def impl_driftAll.l0 : Nat → List (S42) → List (S78) → Int → Int → O38 → O40 → Int → Int → Int → Int → Int → Int → Bool → Option ((List (S42)))
 | 0, _, _, _, _, _, _, _, _, _, _, _, _, _ => none
 | k + 1, x10, x17, x18, x19, x224000, x225000, x227000, x227001, x227002, x227003, x227004, x227005, x227006 => if x19 < x18 then (if 0 ≤ x19 then (if x19 < (x17.length : Int) then ((impl_drifting_hour.f x227000 x227001 x227002 x227003 x227004 x227005 x227006 x224000 x225000 ((rd_T78 x17 x19).f0) ((rd_T78 x17 x19).f1)).bind fun bt232 => (if x10.length < 70368744177664 then (impl_driftAll.l0 k (x10 ++ [(⟨bt232.2.1, bt232.2.2.1⟩ : S42)]) x17 x18 (wrap64 (x19 + 1)) x224000 x225000 bt232.2.1 bt232.2.2.1 bt232.2.2.2.1 bt232.2.2.2.2.1 bt232.2.2.2.2.2.1 bt232.2.2.2.2.2.2.1 bt232.2.2.2.2.2.2.2) else (none))) else (none)) else (none)) else (some x10)
def impl_driftAll.f (k : Nat) (a0 : O38) (a1 : O40) (a2_0 : Int) (a2_1 : Int) (a2_2 : Int) (a2_3 : Int) (a2_4 : Int) (a2_5 : Int) (l3 : List (S78)) : Option ((List (S42))) := impl_driftAll.l0 k (([] : List (S42))) l3 (l3.length : Int) 0 a0 a1 a2_0 a2_1 a2_2 a2_3 a2_4 a2_5 false
set_option maxHeartbeats 8000000 in
set_option maxRecDepth 100000 in
theorem impl_driftAll.calls (k : Nat) (a0 : O38) (a1 : O40) (a2_0 : Int) (a2_1 : Int) (a2_2 : Int) (a2_3 : Int) (a2_4 : Int) (a2_5 : Int) (A3 : Option Addr) (c3 : Nat) (l3 : List (S78)) (r : List (S42)) (w : World) (hr3 : Kd.C k78 w A3 l3.length l3) (hc3 : l3.length ≤ c3) (h : impl_driftAll.f k a0 a1 a2_0 a2_1 a2_2 a2_3 a2_4 a2_5 l3 = some r) :
  Calls Try.prog 41 #[VO38 a0, VO40 a1, .agg #[.int .i8 a2_0, .int .i8 a2_1, .int .i8 a2_2, .int .i8 a2_3, .int .i8 a2_4, .int .i8 a2_5], .slice A3 l3.length c3] w fun e w' => ∃ v0_ : Value, e = .returned (v0_) ∧ Kd.R k42 42 w' w.heap.size (fun _ => True) v0_ r ∧ Below w.heap.size w w' := by
 have hu44 := Try.underlying44
 have hu89 := Try.underlying89
 have hu78 := Try.underlying78
 have hu42 := Try.underlying42
 have HR3 := Aside0.mk hr3
 have HC3 := Aside0.mk hc3
 clear hr3 hc3
 have HB := Aside0.mk (Below.refl w.heap.size w)
 have H : (impl_driftAll.l0 k (([] : List (S42))) l3 (l3.length : Int) 0 a0 a1 a2_0 a2_1 a2_2 a2_3 a2_4 a2_5 false) = some r := h
 clear h
 obtain ⟨y227, hy227⟩ : ∃ y_ : List (S42), y_ = (([] : List (S42))) := ⟨_, rfl⟩
 replace H : (impl_driftAll.l0 k y227 l3 (l3.length : Int) 0 a0 a1 a2_0 a2_1 a2_2 a2_3 a2_4 a2_5 false) = some r := by first | (rw [hy227]; with_reducible exact H) | (have H2_ := (Option.bind_some _ _).symm.trans H; rw [hy227]; with_reducible exact H2_) | (have H2_ := (Option.bind_some _ _).symm.trans H; with_reducible exact H2_) | with_reducible exact H | (rw [hy227]; exact H) | exact H
 have Ny227 := Aside0.mk hy227
 clear hy227
 have H' := Aside0.mk H
 clear H
 go_enter Try.func41, Try.ntmps41
 go_wp2_with (first | ((with_reducible refine gate_dst (N := 4) rfl ?_); refine box_event ?hg (N := 4) ?hd (cs := (a0).A) (t := 38) ?hr ?_; (case hd => rfl); (case hg => rfl); (case hr => first | exact AR.run_box_row rfl rfl | (go_simp; done) | (go_simp; rfl)); intro gb223 hg w5 hbox hb; have BK223 := Aside0.mk (hbox); have GW223 := Aside0.mk (sqS HB.out hg); replace HB := Aside0.mk (sqH HB.out hb); have GE223 := GW223; clear hb hbox hg) | ((with_reducible refine gate_dst (N := 5) rfl ?_); refine box_event ?hg (N := 5) ?hd (cs := (a1).A) (t := 40) ?hr ?_; (case hd => rfl); (case hg => rfl); (case hr => first | exact AR.run_box_row rfl rfl | (go_simp; done) | (go_simp; rfl)); intro gb224 hg w6 hbox hb; have BK224 := Aside0.mk (hbox); have GW224 := Aside0.mk (sqS HB.out hg); replace HB := Aside0.mk (sqH HB.out hb); have GE224 := GW224; have NB223_224 := Aside0.mk (sqN BK223.out hg); replace BK223 := Aside0.mk (sqB BK223.out hb); have NB224_223 := Aside0.mk (Ne.symm NB223_224.out); clear hb hbox hg) | ((with_reducible refine gate_dst (N := 6) rfl ?_); refine box_event ?hg (N := 6) ?hd (cs := #[.int .i8 a2_0, .int .i8 a2_1, .int .i8 a2_2, .int .i8 a2_3, .int .i8 a2_4, .int .i8 a2_5]) (t := 44) ?hr ?_; (case hd => rfl); (case hg => rfl); (case hr => first | (go_simp; done) | (go_simp; rfl)); intro gb225 hg w7 hbox hb; have BK225 := Aside0.mk (hbox); have GW225 := Aside0.mk (sqS HB.out hg); replace HB := Aside0.mk (sqH HB.out hb); have GE225 := GW225; have NB223_225 := Aside0.mk (sqN BK223.out hg); replace BK223 := Aside0.mk (sqB BK223.out hb); have NB225_223 := Aside0.mk (Ne.symm NB223_225.out); have NB224_225 := Aside0.mk (sqN BK224.out hg); replace BK224 := Aside0.mk (sqB BK224.out hb); have NB225_224 := Aside0.mk (Ne.symm NB224_225.out); clear hb hbox hg; have hnb8 := NB225_223.out; have hnc8 := NB223_225.out; have hnb9 := NB225_224.out; have hnc9 := NB224_225.out; obtain ⟨hcz10_0, hcz10_1, hcz10_2, hcz10_3, hcz10_4, hcz10_5⟩ := sqC BK225.out; obtain ⟨hfz10_0, hfz10_1, hfz10_2, hfz10_3, hfz10_4, hfz10_5⟩ := sqF6 BK225.out) | ((with_reducible refine gate_dst (N := 15) rfl ?_); refine box_event ?hg (N := 15) ?hd (cs := #[.int .i8 a2_0, .int .i8 a2_1, .int .i8 a2_2, .int .i8 a2_3, .int .i8 a2_4, .int .i8 a2_5, .bool false]) (t := 89) ?hr ?_; (case hd => rfl); (case hg => rfl); (case hr => first | (go_simp; done) | (go_simp; rfl)); intro gb226 hg w11 hbox hb; have HI226 := Aside0.mk ((⟨hbox, (by rw [hg]; exact (sqW HB.out))⟩ : IsS89 w w11 gb226 a2_0 a2_1 a2_2 a2_3 a2_4 a2_5 false)); have GW226 := Aside0.mk (sqS HB.out hg); replace HB := Aside0.mk (sqH HB.out hb); have GE226 := GW226; have NB223_226 := Aside0.mk (sqN BK223.out hg); replace BK223 := Aside0.mk (sqB BK223.out hb); have NB226_223 := Aside0.mk (Ne.symm NB223_226.out); have NB224_226 := Aside0.mk (sqN BK224.out hg); replace BK224 := Aside0.mk (sqB BK224.out hb); have NB226_224 := Aside0.mk (Ne.symm NB224_226.out); have NB225_226 := Aside0.mk (sqN BK225.out hg); replace BK225 := Aside0.mk (sqB BK225.out hb); have NB226_225 := Aside0.mk (Ne.symm NB225_226.out); clear hb hbox hg) | ((with_reducible refine gate_dst (N := 16) rfl ?_); refine Kd.R_lit k42 _ 42 ?hg (N := 16) ?hd (xs := ([] : List (S42))) (inner := []) (ok := fun _ => True) (okp := fun _ => True) ?hr ?hp (fun _ hk => hk) trivial (Below.refl _ _) (Nat.le_refl _) (by simp) ?_; (case hd => rfl); (case hg => rfl); (case hr => first | (go_simp; done) | (go_simp; rfl)); (case hp => exact (Reps.none _ _)); intro v228 w12 ho13 hb hg_ hnew_; clear hg_ hnew_; (first | rw [← Ny227.out] at ho13 | (simp only [Int.reduceToNat] at ho13; rw [← Ny227.out] at ho13)); have HO229 := Aside0.mk (Kd.R_lower ho13 (below_size (by repeat (first | (with_reducible first | exact HB.out | apply below_alloc | apply pw_below_drewN | apply below_drew1 | refine below_set ?_ (IsS89.ge HI226.out) | refine below_set ?_ GE223.out | refine below_set ?_ GE224.out | refine below_set ?_ GE225.out) | exact HB.out)))); replace BK223 := Aside0.mk (sqB BK223.out hb); replace BK224 := Aside0.mk (sqB BK224.out hb); replace BK225 := Aside0.mk (sqB BK225.out hb); replace HB := Aside0.mk (below_step (by repeat (first | (with_reducible first | exact HB.out | apply below_alloc | apply pw_below_drewN | apply below_drew1 | refine below_set ?_ (IsS89.ge HI226.out) | refine below_set ?_ GE223.out | refine below_set ?_ GE224.out | refine below_set ?_ GE225.out) | exact HB.out)) hb); replace HI226 := Aside0.mk (IsS89.below (by repeat (first | (with_reducible first | exact HI226.out | apply IsS89.alloc | apply IsS89.drewN | apply IsS89.drew | apply IsS89.set_0 | apply IsS89.set_1 | apply IsS89.set_2 | apply IsS89.set_3 | apply IsS89.set_4 | apply IsS89.set_5 | apply IsS89.set_6 | refine IsS89.far ?_ NB226_223.out _ | refine IsS89.far ?_ NB226_224.out _ | refine IsS89.far ?_ NB226_225.out _) | exact HI226.out)) hb); clear hb ho13))
 go_loopg [10, 19] k (fun kq v10 v19 w' => ∃ (x10_1 : List (S42)) (x19_1 : Int) (x227000_1 : Int) (x227001_1 : Int) (x227002_1 : Int) (x227003_1 : Int) (x227004_1 : Int) (x227005_1 : Int) (x227006_1 : Bool), v19 = .int .i64 x19_1 ∧ Aside0 (impl_driftAll.l0 kq x10_1 l3 (l3.length : Int) x19_1 a0 a1 x227000_1 x227001_1 x227002_1 x227003_1 x227004_1 x227005_1 x227006_1 = some r) ∧ Aside0 (kq ≤ k) ∧ Aside0 (Kd.R k42 42 w' w.heap.size (fun _ => True) v10 x10_1) ∧ Aside0 (w'.heap[gb223]? = some (.cells (a0).A 38 (0, 0))) ∧ Aside0 (w'.heap[gb224]? = some (.cells (a1).A 40 (0, 0))) ∧ Aside0 (w'.heap[gb225]? = some (.cells #[.int .i8 a2_0, .int .i8 a2_1, .int .i8 a2_2, .int .i8 a2_3, .int .i8 a2_4, .int .i8 a2_5] 44 (0, 0))) ∧ Aside0 (IsS89 w w' gb226 x227000_1 x227001_1 x227002_1 x227003_1 x227004_1 x227005_1 x227006_1) ∧ Aside0 (Below w.heap.size w w'))
 case atStart => exact ⟨(y227), (0), (a2_0), (a2_1), (a2_2), (a2_3), (a2_4), (a2_5), (false), (by first | rfl | (simp; done) | (simp [*]; done)), H', ⟨Nat.le_refl _⟩, ⟨by (with_reducible repeat (first | apply Kd.R_alloc | apply Kd.R_drewN | apply Kd.R_drew)); exact HO229.out⟩, ⟨by (with_reducible repeat (first | refine blk_drewN ?_ _ | refine blk_drew ?_ | refine blk_alloc ?_ _)); exact BK223.out⟩, ⟨by (with_reducible repeat (first | refine blk_drewN ?_ _ | refine blk_drew ?_ | refine blk_alloc ?_ _)); exact BK224.out⟩, ⟨by (with_reducible repeat (first | refine blk_drewN ?_ _ | refine blk_drew ?_ | refine blk_alloc ?_ _)); exact BK225.out⟩, ⟨by repeat (first | (with_reducible first | exact HI226.out | apply IsS89.alloc | apply IsS89.drewN | apply IsS89.drew | apply IsS89.set_0 | apply IsS89.set_1 | apply IsS89.set_2 | apply IsS89.set_3 | apply IsS89.set_4 | apply IsS89.set_5 | apply IsS89.set_6 | refine IsS89.far ?_ NB226_223.out _ | refine IsS89.far ?_ NB226_224.out _ | refine IsS89.far ?_ NB226_225.out _) | exact HI226.out)⟩, ⟨by repeat (first | (with_reducible first | exact HB.out | apply below_alloc | apply pw_below_drewN | apply below_drew1 | refine below_set ?_ (IsS89.ge HI226.out) | refine below_set ?_ GE223.out | refine below_set ?_ GE224.out | refine below_set ?_ GE225.out) | exact HB.out)⟩⟩
 case round =>
  clear H'
  try clear p2
  try clear c3
  try clear c4
  try clear c8
  try clear c9
  try clear hcz10_0
  try clear hcz10_1
  try clear hcz10_2
  try clear hcz10_3
  try clear hcz10_4
  try clear hcz10_5
  try clear hfz10_0
  try clear hfz10_1
  try clear hfz10_2
  try clear hfz10_3
  try clear hfz10_4
  try clear hfz10_5
  obtain ⟨x10_1, x19_1, x227000_1, x227001_1, x227002_1, x227003_1, x227004_1, x227005_1, x227006_1, rfl, HA, HK1, HO_10, BK223, BK224, BK225, HI226, HB⟩ := hrel
  cases gk with
  | zero => exact absurd HA.out (by simp [impl_driftAll.l0])
  | succ k1 =>
   have H := HA.out
   clear HA
   simp only [impl_driftAll.l0] at H
   by_cases c14 : x19_1 < (l3.length : Int)
   ·rw [if_pos c14] at H
    have c14b0 : decide (x19_1 < (l3.length : Int)) = true := decide_eq_true c14
    clear c14
    by_cases c15 : 0 ≤ x19_1
    ·rw [if_pos c15] at H
     have c15b0 : decide (0 ≤ x19_1) = true := decide_eq_true c15
     clear c15
     by_cases c16 : x19_1 < (l3.length : Int)
     ·rw [if_pos c16] at H
      have c16b0 : decide (x19_1 < (l3.length : Int)) = true := decide_eq_true c16
      clear c16
      replace H := Option.bind_eq_some_iff.mp H
      obtain ⟨⟨t232, t233, t234, t235, t236, t237, t238, t239⟩, A170, H⟩ := H
      replace H : (if x10_1.length < 70368744177664 then (impl_driftAll.l0 k1 (x10_1 ++ [(⟨t233, t234⟩ : S42)]) l3 (l3.length : Int) (wrap64 (x19_1 + 1)) a0 a1 t233 t234 t235 t236 t237 t238 t239) else (none)) = some r := H
      have A17 := Aside0.mk A170
      clear A170
      by_cases c18 : x10_1.length < 70368744177664
      ·rw [if_pos c18] at H
       have LMc18 := Aside0.mk c18
       clear c18
       obtain ⟨y240, hy240⟩ : ∃ y_ : List (S42), y_ = (x10_1 ++ [(⟨t233, t234⟩ : S42)]) := ⟨_, rfl⟩
       replace H : (impl_driftAll.l0 k1 y240 l3 (l3.length : Int) (wrap64 (x19_1 + 1)) a0 a1 t233 t234 t235 t236 t237 t238 t239) = some r := by first | (rw [hy240]; with_reducible exact H) | (have H2_ := (Option.bind_some _ _).symm.trans H; rw [hy240]; with_reducible exact H2_) | (have H2_ := (Option.bind_some _ _).symm.trans H; with_reducible exact H2_) | with_reducible exact H | (rw [hy240]; exact H) | exact H
       have Ny240 := Aside0.mk hy240
       clear hy240
       have H' := Aside0.mk H
       clear H
       have p230 : 0 ≤ (x19_1 : Int) := of_decide_eq_true (by first | (with_reducible assumption) | assumption)
       have q230 : x19_1 < (l3.length : Int) := of_decide_eq_true (by first | (with_reducible assumption) | assumption)
       obtain ⟨ad230, e230, hx230_0, hx230_1⟩ := at_T78 HR3.out x19_1 p230 q230
       cases e230
       replace hx230_0 := (HB.out.cell (World.block_lt_of_cell? w _ hx230_0)).trans hx230_0
       replace hx230_1 := (HB.out.cell (World.block_lt_of_cell? w _ hx230_1)).trans hx230_1
       replace p230 := eq_true p230
       replace q230 := eq_true q230
       go_wp2_with (first | ((with_reducible refine gate_dst (N := 12) rfl ?_); refine box_event ?hg (N := 12) ?hd (cs := #[.int .i8 0, .int .i8 0]) (t := 78) ?hr ?_; (case hd => rfl); (case hg => rfl); (case hr => first | (go_simp; done) | (go_simp; rfl)); intro gb231 hg w19 hbox hb; replace HO_10 := Aside0.mk (sqR HO_10.out hb); have BK231 := Aside0.mk (hbox); have GW231 := Aside0.mk ((by rw [hg]; exact (below_size (by repeat (first | (with_reducible first | exact HB.out | apply below_alloc | apply pw_below_drewN | apply below_drew1 | refine below_set ?_ (IsS89.ge HI226.out) | refine below_set ?_ GE223.out | refine below_set ?_ GE224.out | refine below_set ?_ GE225.out) | exact HB.out))) : w.heap.size ≤ gb231)); replace HB := Aside0.mk (below_step (by repeat (first | (with_reducible first | exact HB.out | apply below_alloc | apply pw_below_drewN | apply below_drew1 | refine below_set ?_ (IsS89.ge HI226.out) | refine below_set ?_ GE223.out | refine below_set ?_ GE224.out | refine below_set ?_ GE225.out) | exact HB.out)) hb); have GE231 := GW231; have NB223_231 := Aside0.mk (sqN BK223.out hg); replace BK223 := Aside0.mk (sqB BK223.out hb); have NB231_223 := Aside0.mk (Ne.symm NB223_231.out); have NB224_231 := Aside0.mk (sqN BK224.out hg); replace BK224 := Aside0.mk (sqB BK224.out hb); have NB231_224 := Aside0.mk (Ne.symm NB224_231.out); have NB225_231 := Aside0.mk (sqN BK225.out hg); replace BK225 := Aside0.mk (sqB BK225.out hb); have NB231_225 := Aside0.mk (Ne.symm NB225_231.out); have NB226_231 := Aside0.mk ((by rw [hg]; exact Nat.ne_of_lt (IsS89.lt (show IsS89 w _ gb226 x227000_1 x227001_1 x227002_1 x227003_1 x227004_1 x227005_1 x227006_1 from by repeat (first | (with_reducible first | exact HI226.out | apply IsS89.alloc | apply IsS89.drewN | apply IsS89.drew | apply IsS89.set_0 | apply IsS89.set_1 | apply IsS89.set_2 | apply IsS89.set_3 | apply IsS89.set_4 | apply IsS89.set_5 | apply IsS89.set_6 | refine IsS89.far ?_ NB226_223.out _ | refine IsS89.far ?_ NB226_224.out _ | refine IsS89.far ?_ NB226_225.out _) | exact HI226.out))) : gb226 ≠ gb231)); have NB231_226 := Aside0.mk ((by rw [hg]; exact Nat.ne_of_gt (IsS89.lt (show IsS89 w _ gb226 x227000_1 x227001_1 x227002_1 x227003_1 x227004_1 x227005_1 x227006_1 from by repeat (first | (with_reducible first | exact HI226.out | apply IsS89.alloc | apply IsS89.drewN | apply IsS89.drew | apply IsS89.set_0 | apply IsS89.set_1 | apply IsS89.set_2 | apply IsS89.set_3 | apply IsS89.set_4 | apply IsS89.set_5 | apply IsS89.set_6 | refine IsS89.far ?_ NB226_223.out _ | refine IsS89.far ?_ NB226_224.out _ | refine IsS89.far ?_ NB226_225.out _) | exact HI226.out))) : gb231 ≠ gb226)); replace HI226 := Aside0.mk (IsS89.below (by repeat (first | (with_reducible first | exact HI226.out | apply IsS89.alloc | apply IsS89.drewN | apply IsS89.drew | apply IsS89.set_0 | apply IsS89.set_1 | apply IsS89.set_2 | apply IsS89.set_3 | apply IsS89.set_4 | apply IsS89.set_5 | apply IsS89.set_6 | refine IsS89.far ?_ NB226_223.out _ | refine IsS89.far ?_ NB226_224.out _ | refine IsS89.far ?_ NB226_225.out _) | exact HI226.out)) hb); clear hb hbox hg; have hnb20 := NB231_223.out; have hnc20 := NB223_231.out; have hnb21 := NB231_224.out; have hnc21 := NB224_231.out; have hnb22 := NB231_225.out; have hnc22 := NB225_231.out; have hnb23 := NB231_226.out; have hnc23 := NB226_231.out; obtain ⟨hcz24_0, hcz24_1⟩ := sqC2 BK231.out; obtain ⟨hfz24_0, hfz24_1⟩ := sqF2 BK231.out) | ((with_reducible refine gate_dst (N := 24) rfl ?_); (with_reducible refine AR.gate_load (t := 38) rfl ?_); (try refine gate_guard (by rfl) ?_); refine AR.wpList_load_blk rfl 38 _ rfl gb223 rfl (a0).A _ (by (with_reducible repeat (first | refine blk_drewN ?_ _ | refine blk_drew ?_ | refine blk_alloc ?_ _)); refine blk_far ?_ NB223_231.out _; (with_reducible repeat (first | refine blk_drewN ?_ _ | refine blk_drew ?_ | refine blk_alloc ?_ _)); refine blk_far ?_ NB223_231.out _; (with_reducible repeat (first | refine blk_drewN ?_ _ | refine blk_drew ?_ | refine blk_alloc ?_ _)); exact BK223.out) Try.underlying38 rfl (szO38 _) ?_) | ((with_reducible refine gate_dst (N := 25) rfl ?_); (with_reducible refine AR.gate_load (t := 40) rfl ?_); (try refine gate_guard (by rfl) ?_); refine AR.wpList_load_blk rfl 40 _ rfl gb224 rfl (a1).A _ (by (with_reducible repeat (first | refine blk_drewN ?_ _ | refine blk_drew ?_ | refine blk_alloc ?_ _)); refine blk_far ?_ NB224_231.out _; (with_reducible repeat (first | refine blk_drewN ?_ _ | refine blk_drew ?_ | refine blk_alloc ?_ _)); refine blk_far ?_ NB224_231.out _; (with_reducible repeat (first | refine blk_drewN ?_ _ | refine blk_drew ?_ | refine blk_alloc ?_ _)); exact BK224.out) Try.underlying40 rfl (szO40 _) ?_) | ((with_reducible refine gate_callee (f := 58) rfl ?_); refine goesL_ (some 27) rfl rfl Try.func58 (by kernel_rfl) rfl #[.pointer (some ⟨gb226, 0, none⟩), VO38 a0, VO40 a1, .agg #[.int .i8 ((rd_T78 l3 x19_1).f0), .int .i8 ((rd_T78 l3 x19_1).f1)]] rfl (by (try simp only [List.map_toArray, List.map_cons, List.map_nil]); first | done | rfl | (simp only [List.length_drop, List.length_take]; rfl)) ?_; (with_reducible refine (impl_drifting_hour.calls gb226 x227000_1 x227001_1 x227002_1 x227003_1 x227004_1 x227005_1 x227006_1 a0 a1 ((rd_T78 l3 x19_1).f0) ((rd_T78 l3 x19_1).f1) t232 t233 t234 t235 t236 t237 t238 t239 w _ ?side1 ?side2 A17.out).mono ?_); (case side1 => repeat (first | (with_reducible first | exact HI226.out | apply IsS89.alloc | apply IsS89.drewN | apply IsS89.drew | apply IsS89.set_0 | apply IsS89.set_1 | apply IsS89.set_2 | apply IsS89.set_3 | apply IsS89.set_4 | apply IsS89.set_5 | apply IsS89.set_6 | refine IsS89.far ?_ NB226_223.out _ | refine IsS89.far ?_ NB226_224.out _ | refine IsS89.far ?_ NB226_225.out _ | refine IsS89.far ?_ NB226_231.out _) | exact HI226.out)); (case side2 => repeat (first | (with_reducible first | exact HB.out | apply below_alloc | apply pw_below_drewN | apply below_drew1 | refine below_set ?_ (IsS89.ge HI226.out) | refine below_set ?_ GE223.out | refine below_set ?_ GE224.out | refine below_set ?_ GE225.out | refine below_set ?_ GE231.out) | exact HB.out)); rintro e w25 ⟨rfl, hi, hb, hk⟩; refine ⟨_, rfl, ?_⟩; replace HO_10 := Aside0.mk (Kd.R_mono (Kd.R_keep (IsS89.apart (show IsS89 w _ gb226 x227000_1 x227001_1 x227002_1 x227003_1 x227004_1 x227005_1 x227006_1 from by repeat (first | (with_reducible first | exact HI226.out | apply IsS89.alloc | apply IsS89.drewN | apply IsS89.drew | apply IsS89.set_0 | apply IsS89.set_1 | apply IsS89.set_2 | apply IsS89.set_3 | apply IsS89.set_4 | apply IsS89.set_5 | apply IsS89.set_6 | refine IsS89.far ?_ NB226_223.out _ | refine IsS89.far ?_ NB226_224.out _ | refine IsS89.far ?_ NB226_225.out _ | refine IsS89.far ?_ NB226_231.out _) | exact HI226.out)) (by (with_reducible repeat (first | apply Kd.R_alloc | apply Kd.R_drewN | apply Kd.R_drew)); exact (Kd.R_mono (Kd.R_far (p := ⟨gb231, 1, none⟩) (Kd.R_far (p := ⟨gb231, 0, none⟩) (Kd.R_types HO_10.out BK231.out (by decide)) (fun _ hk => hk.2) (.int .i8 ((rd_T78 l3 x19_1).f0))) (fun _ hk => hk.2) (.int .i8 ((rd_T78 l3 x19_1).f1))) (fun _ h_ => h_.1))) (by decide)) hk (fun _ h => h.2)) (fun _ h => h.1)); replace BK223 := Aside0.mk (KeepBut.blk hk (g' := gb223) (o := .cells (a0).A 38 (0, 0)) (by (with_reducible repeat (first | refine blk_drewN ?_ _ | refine blk_drew ?_ | refine blk_alloc ?_ _)); refine blk_far ?_ NB223_231.out _; (with_reducible repeat (first | refine blk_drewN ?_ _ | refine blk_drew ?_ | refine blk_alloc ?_ _)); refine blk_far ?_ NB223_231.out _; (with_reducible repeat (first | refine blk_drewN ?_ _ | refine blk_drew ?_ | refine blk_alloc ?_ _)); exact BK223.out) NB223_226.out (by simp)); replace BK224 := Aside0.mk (KeepBut.blk hk (g' := gb224) (o := .cells (a1).A 40 (0, 0)) (by (with_reducible repeat (first | refine blk_drewN ?_ _ | refine blk_drew ?_ | refine blk_alloc ?_ _)); refine blk_far ?_ NB224_231.out _; (with_reducible repeat (first | refine blk_drewN ?_ _ | refine blk_drew ?_ | refine blk_alloc ?_ _)); refine blk_far ?_ NB224_231.out _; (with_reducible repeat (first | refine blk_drewN ?_ _ | refine blk_drew ?_ | refine blk_alloc ?_ _)); exact BK224.out) NB224_226.out (by simp)); replace BK225 := Aside0.mk (KeepBut.blk hk (g' := gb225) (o := .cells #[.int .i8 a2_0, .int .i8 a2_1, .int .i8 a2_2, .int .i8 a2_3, .int .i8 a2_4, .int .i8 a2_5] 44 (0, 0)) (by (with_reducible repeat (first | refine blk_drewN ?_ _ | refine blk_drew ?_ | refine blk_alloc ?_ _)); refine blk_far ?_ NB225_231.out _; (with_reducible repeat (first | refine blk_drewN ?_ _ | refine blk_drew ?_ | refine blk_alloc ?_ _)); refine blk_far ?_ NB225_231.out _; (with_reducible repeat (first | refine blk_drewN ?_ _ | refine blk_drew ?_ | refine blk_alloc ?_ _)); exact BK225.out) NB225_226.out (by simp)); replace BK231 := Aside0.mk (KeepBut.blk hk (g' := gb231) (o := .cells #[.int .i8 ((rd_T78 l3 x19_1).f0), .int .i8 ((rd_T78 l3 x19_1).f1)] 78 (0, 0)) (by (with_reducible repeat (first | refine blk_drewN ?_ _ | refine blk_drew ?_ | refine blk_alloc ?_ _)); refine blk_put (cs := #[.int .i8 ((rd_T78 l3 x19_1).f0), .int .i8 0]) ?_ 1 _ rfl; (with_reducible repeat (first | refine blk_drewN ?_ _ | refine blk_drew ?_ | refine blk_alloc ?_ _)); refine blk_put (cs := #[.int .i8 0, .int .i8 0]) ?_ 0 _ rfl; (with_reducible repeat (first | refine blk_drewN ?_ _ | refine blk_drew ?_ | refine blk_alloc ?_ _)); exact BK231.out) NB231_226.out (by simp)); replace HB := Aside0.mk (hb); replace HI226 := Aside0.mk (hi); (try clear hb); (try clear hb2); (try clear hk); (try clear hi); obtain ⟨HGz26, hgz26⟩ := HI226.out; have hcz26_0 := cellS89_0 HGz26; have hcz26_1 := cellS89_1 HGz26; have hcz26_2 := cellS89_2 HGz26; have hcz26_3 := cellS89_3 HGz26; have hcz26_4 := cellS89_4 HGz26; have hcz26_5 := cellS89_5 HGz26; have hcz26_6 := cellS89_6 HGz26; have hfz26_0 := blk_frozen HGz26 0; have hfz26_1 := blk_frozen HGz26 1; have hfz26_2 := blk_frozen HGz26 2; have hfz26_3 := blk_frozen HGz26 3; have hfz26_4 := blk_frozen HGz26 4; have hfz26_5 := blk_frozen HGz26 5; have hfz26_6 := blk_frozen HGz26 6; clear HGz26 hgz26) | ((with_reducible refine gate_builtin (b := .append) (xs := #[.tmp 28, .tmp 34]) rfl ?_); at_builtin; refine Kd.R_append k42 (w0 := w) w.heap.size rfl (.tmp 28) (.tmp 34) 35 42 (.agg #[(.int .i8 0), (.int .i8 0)]) 2 rfl Try.underlying35 info42 rfl (by decide) (by omega) u10 x10_1 (⟨t233, t234⟩ : S42) [.int .i8 t233, .int .i8 t234] (fun _ => True) (fun _ => False) rfl rfl ?aP (fun _ hk => hk.elim) ?aF ?aO ?aB ?aS ?aL ?_; (case aP => exact k42_mkM _ _ _ (⟨t233, t234⟩ : S42)); (case aB => exact (by repeat (first | (with_reducible first | exact HB.out | apply below_alloc | apply pw_below_drewN | apply below_drew1 | refine below_set ?_ (IsS89.ge HI226.out) | refine below_set ?_ GE223.out | refine below_set ?_ GE224.out | refine below_set ?_ GE225.out | refine below_set ?_ GE231.out) | exact HB.out))); (case aF => exact (fun _ _ => trivial)); (case aO => exact (by (with_reducible repeat (first | apply Kd.R_alloc | apply Kd.R_drewN | apply Kd.R_drew)); exact HO_10.out)); (case aS => exact (below_size (by repeat (first | (with_reducible first | exact HB.out | apply below_alloc | apply pw_below_drewN | apply below_drew1 | refine below_set ?_ (IsS89.ge HI226.out) | refine below_set ?_ GE223.out | refine below_set ?_ GE224.out | refine below_set ?_ GE225.out | refine below_set ?_ GE231.out) | exact HB.out)))); (case aL => have := LMc18.out; omega); intro v241 w27 ho hb hg hat; rw [← Ny240.out] at ho; have n0_ := Aside0.mk (blk_grown (sqO BK223.out) hg (Kd.R_ne HO_10.out BK223.out (by decide))); have n1_ := Aside0.mk (blk_grown (sqO BK224.out) hg (Kd.R_ne HO_10.out BK224.out (by decide))); have n2_ := Aside0.mk (blk_grown (sqO BK225.out) hg (Kd.R_ne HO_10.out BK225.out (by decide))); have n3_ := Aside0.mk (IsS89.grown (by repeat (first | (with_reducible first | exact HI226.out | apply IsS89.alloc | apply IsS89.drewN | apply IsS89.drew | apply IsS89.set_0 | apply IsS89.set_1 | apply IsS89.set_2 | apply IsS89.set_3 | apply IsS89.set_4 | apply IsS89.set_5 | apply IsS89.set_6 | refine IsS89.far ?_ NB226_223.out _ | refine IsS89.far ?_ NB226_224.out _ | refine IsS89.far ?_ NB226_225.out _ | refine IsS89.far ?_ NB226_231.out _) | exact HI226.out)) hg (IsS89.own_ne HI226.out HO_10.out (by decide))); have n4_ := Aside0.mk (blk_grown (sqO BK231.out) hg (Kd.R_ne HO_10.out BK231.out (by decide))); have n5_ := Aside0.mk (hb); have n6_ := Aside0.mk (ho); clear BK223; clear BK224; clear BK225; clear HI226; clear BK231; clear HB; clear HO_10; have BK223 := n0_; have BK224 := n1_; have BK225 := n2_; have HI226 := n3_; have BK231 := n4_; have HB := n5_; have HO242 := n6_; clear n0_ n1_ n2_ n3_ n4_ n5_ n6_; clear ho hb hg hat))
       go_roundg k1
       case measure => have := HK1.out; omega
       case rel => exact ⟨(y240), (wrap64 (x19_1 + 1)), (t233), (t234), (t235), (t236), (t237), (t238), (t239), (by first | rfl | (simp; done) | (simp [*]; done)), H', ⟨by have := HK1.out; omega⟩, ⟨by (with_reducible repeat (first | apply Kd.R_alloc | apply Kd.R_drewN | apply Kd.R_drew)); exact HO242.out⟩, ⟨by (with_reducible repeat (first | refine blk_drewN ?_ _ | refine blk_drew ?_ | refine blk_alloc ?_ _)); exact BK223.out⟩, ⟨by (with_reducible repeat (first | refine blk_drewN ?_ _ | refine blk_drew ?_ | refine blk_alloc ?_ _)); exact BK224.out⟩, ⟨by (with_reducible repeat (first | refine blk_drewN ?_ _ | refine blk_drew ?_ | refine blk_alloc ?_ _)); exact BK225.out⟩, ⟨by repeat (first | (with_reducible first | exact HI226.out | apply IsS89.alloc | apply IsS89.drewN | apply IsS89.drew | apply IsS89.set_0 | apply IsS89.set_1 | apply IsS89.set_2 | apply IsS89.set_3 | apply IsS89.set_4 | apply IsS89.set_5 | apply IsS89.set_6 | refine IsS89.far ?_ NB226_223.out _ | refine IsS89.far ?_ NB226_224.out _ | refine IsS89.far ?_ NB226_225.out _ | refine IsS89.far ?_ NB226_231.out _) | exact HI226.out)⟩, ⟨by repeat (first | (with_reducible first | exact HB.out | apply below_alloc | apply pw_below_drewN | apply below_drew1 | refine below_set ?_ (IsS89.ge HI226.out) | refine below_set ?_ GE223.out | refine below_set ?_ GE224.out | refine below_set ?_ GE225.out | refine below_set ?_ GE231.out) | exact HB.out)⟩⟩
      ·rw [if_neg c18] at H
       exact absurd H (by simp)
     ·rw [if_neg c16] at H
      exact absurd H (by simp)
    ·rw [if_neg c15] at H
     exact absurd H (by simp)
   ·rw [if_neg c14] at H
    have c14b0 : decide (x19_1 < (l3.length : Int)) = false := decide_eq_false c14
    clear c14
    obtain rfl := Option.some.inj H
    go_wp2
    go_ret
    exact ⟨_, by first | rfl | (simp [errW_none, errW_some] <;> rfl) | (simp [*, errW_none, errW_some] <;> rfl), by (with_reducible repeat (first | apply Kd.R_alloc | apply Kd.R_drewN | apply Kd.R_drew)); exact HO_10.out, by repeat (first | (with_reducible first | exact HB.out | apply below_alloc | apply pw_below_drewN | apply below_drew1 | refine below_set ?_ (IsS89.ge HI226.out) | refine below_set ?_ GE223.out | refine below_set ?_ GE224.out | refine below_set ?_ GE225.out) | exact HB.out)⟩
end Go.Proofs.Ytmhmfhdmeedcfaa.G
end
section
namespace Go.Proofs.Ytmhmfhdmeedcfaa.G
open Go.RowKit Go.Proofs.YtmhmfhdmeedcfaaW.PrintWords Go.Proofs.YtmhmfhdmeedcfaaW.PrintLast Go.Proofs.YtmhmfhdmeedcfaaW.PrintMore
attribute [local go_sem] max2_int min2_int max_two min_two max_three min_three max_four min_four   -- for this text's walks alone
set_option linter.unusedVariables false
set_option linter.unusedSimpArgs false
attribute [local go_sem high] eqA42
def impl_Place.l0 : Nat → List (S42) → Int → Int → Int → Int → Option (Int)
 | 0, _, _, _, _, _ => none
 | k + 1, x0, x7, x8, x376000, x376001 => if x8 < x7 then (if 0 ≤ x8 then (if x8 < (x0.length : Int) then (if (x376000 == ((rd_T42 x0 x8).f0) && (x376001 == ((rd_T42 x0 x8).f1))) = true then (some x8) else (impl_Place.l0 k x0 x7 (wrap64 (x8 + 1)) x376000 x376001)) else (none)) else (none)) else (some (-1))
def impl_Place.f (k : Nat) (l0 : List (S42)) (a1_0 : Int) (a1_1 : Int) : Option (Int) := impl_Place.l0 k l0 (l0.length : Int) 0 a1_0 a1_1
set_option maxHeartbeats 8000000 in
set_option maxRecDepth 100000 in
theorem impl_Place.calls (k : Nat) (A0 : Option Addr) (c0 : Nat) (l0 : List (S42)) (a1_0 : Int) (a1_1 : Int) (r : Int) (w : World) (hr0 : Kd.C k42 w A0 l0.length l0) (hc0 : l0.length ≤ c0) (h : impl_Place.f k l0 a1_0 a1_1 = some r) :
  Calls Try.prog 47 #[.slice A0 l0.length c0, .agg #[.int .i8 a1_0, .int .i8 a1_1]] w fun e w' => e = .returned (.int .i64 r) ∧ Below w.heap.size w w' := by
 have hu42 := Try.underlying42
 have HR0 := Aside0.mk hr0
 have HC0 := Aside0.mk hc0
 clear hr0 hc0
 have HB := Aside0.mk (Below.refl w.heap.size w)
 have H : (impl_Place.l0 k l0 (l0.length : Int) 0 a1_0 a1_1) = some r := h
 clear h
 have H' := Aside0.mk H
 clear H
 go_enter Try.func47, Try.ntmps47
 go_wp2_with (first | ((with_reducible refine gate_dst (N := 3) rfl ?_); refine box_event ?hg (N := 3) ?hd (cs := #[.int .i8 a1_0, .int .i8 a1_1]) (t := 42) ?hr ?_; (case hd => rfl); (case hg => rfl); (case hr => first | (go_simp; done) | (go_simp; rfl)); intro gb375 hg w3 hbox hb; have BK375 := Aside0.mk (hbox); have GW375 := Aside0.mk (sqS HB.out hg); replace HB := Aside0.mk (sqH HB.out hb); have GE375 := GW375; clear hb hbox hg))
 repeat (go_quiet (fail); try go_wp2)
 go_loopg [8] k (fun kq v8 w' => ∃ (x8_1 : Int), v8 = .int .i64 x8_1 ∧ Aside0 (impl_Place.l0 kq l0 (l0.length : Int) x8_1 a1_0 a1_1 = some r) ∧ Aside0 (kq ≤ k) ∧ Aside0 (w'.heap[gb375]? = some (.cells #[.int .i8 a1_0, .int .i8 a1_1] 42 (0, 0))) ∧ Aside0 (Below w.heap.size w w'))
 case atStart => exact ⟨(0), (by first | rfl | (simp; done) | (simp [*]; done)), H', ⟨Nat.le_refl _⟩, ⟨by (with_reducible repeat (first | refine blk_drewN ?_ _ | refine blk_drew ?_ | refine blk_alloc ?_ _)); exact BK375.out⟩, ⟨by repeat (first | (with_reducible first | exact HB.out | apply below_alloc | apply pw_below_drewN | apply below_drew1 | refine below_set ?_ GE375.out) | exact HB.out)⟩⟩
 case round =>
  clear H'
  try clear p2
  obtain ⟨x8_1, rfl, HA, HK1, BK375, HB⟩ := hrel
  cases gk with
  | zero => exact absurd HA.out (by simp [impl_Place.l0])
  | succ k1 =>
   have H := HA.out
   clear HA
   simp only [impl_Place.l0] at H
   by_cases c4 : x8_1 < (l0.length : Int)
   ·rw [if_pos c4] at H
    have c4b0 : decide (x8_1 < (l0.length : Int)) = true := decide_eq_true c4
    clear c4
    by_cases c5 : 0 ≤ x8_1
    ·rw [if_pos c5] at H
     have c5b0 : decide (0 ≤ x8_1) = true := decide_eq_true c5
     clear c5
     by_cases c6 : x8_1 < (l0.length : Int)
     ·rw [if_pos c6] at H
      have c6b0 : decide (x8_1 < (l0.length : Int)) = true := decide_eq_true c6
      clear c6
      by_cases c7 : (a1_0 == ((rd_T42 l0 x8_1).f0) && (a1_1 == ((rd_T42 l0 x8_1).f1))) = true
      ·rw [if_pos c7] at H
       have c7b0 : (a1_0 == ((rd_T42 l0 x8_1).f0) && (a1_1 == ((rd_T42 l0 x8_1).f1))) = true := c7
       (try (have c7b1 : decide (a1_0 = ((rd_T42 l0 x8_1).f0) && (a1_1 == ((rd_T42 l0 x8_1).f1))) = true := by simpa using c7))
       (try (have c7b2 : (a1_0 == ((rd_T42 l0 x8_1).f0) && (a1_1 == ((rd_T42 l0 x8_1).f1))) = true := by simpa using c7))
       clear c7
       obtain rfl := Option.some.inj H
       have hcz8_0 : wr.cell? ⟨gb375, 0, none⟩ = some (.int .i8 a1_0) := (blk_cell BK375.out 0).trans rfl
       have hcz8_1 : wr.cell? ⟨gb375, 1, none⟩ = some (.int .i8 a1_1) := (blk_cell BK375.out 1).trans rfl
       have hfz8_0 := blk_frozen BK375.out 0
       have hfz8_1 := blk_frozen BK375.out 1
       have p376 : 0 ≤ (x8_1 : Int) := of_decide_eq_true (by first | (with_reducible assumption) | assumption)
       have q376 : x8_1 < (l0.length : Int) := of_decide_eq_true (by first | (with_reducible assumption) | assumption)
       obtain ⟨ad376, e376, hx376_0, hx376_1⟩ := at_T42 HR0.out x8_1 p376 q376
       cases e376
       replace hx376_0 := (HB.out.cell (World.block_lt_of_cell? w _ hx376_0)).trans hx376_0
       replace hx376_1 := (HB.out.cell (World.block_lt_of_cell? w _ hx376_1)).trans hx376_1
       replace p376 := eq_true p376
       replace q376 := eq_true q376
       go_wp2
       repeat (go_quiet (fail); try go_wp2)
       go_ret
       exact ⟨by first | rfl | (simp [errW_none, errW_some] <;> rfl) | (simp [*, errW_none, errW_some] <;> rfl), by repeat (first | (with_reducible first | exact HB.out | apply below_alloc | apply pw_below_drewN | apply below_drew1 | refine below_set ?_ GE375.out) | exact HB.out)⟩
      ·rw [if_neg c7] at H
       have c7b0 : (a1_0 == ((rd_T42 l0 x8_1).f0) && (a1_1 == ((rd_T42 l0 x8_1).f1))) = false := by simpa using c7
       (try (have c7b1 : decide (a1_0 = ((rd_T42 l0 x8_1).f0) && (a1_1 == ((rd_T42 l0 x8_1).f1))) = false := by simpa using c7))
       (try (have c7b2 : (a1_0 == ((rd_T42 l0 x8_1).f0) && (a1_1 == ((rd_T42 l0 x8_1).f1))) = false := by simpa using c7))
       (try (have c7b3 : ¬ (a1_0 = ((rd_T42 l0 x8_1).f0) && (a1_1 == ((rd_T42 l0 x8_1).f1))) := by simpa using c7))
       clear c7
       have H' := Aside0.mk H
       clear H
       have hcz9_0 : wr.cell? ⟨gb375, 0, none⟩ = some (.int .i8 a1_0) := (blk_cell BK375.out 0).trans rfl
       have hcz9_1 : wr.cell? ⟨gb375, 1, none⟩ = some (.int .i8 a1_1) := (blk_cell BK375.out 1).trans rfl
       have hfz9_0 := blk_frozen BK375.out 0
       have hfz9_1 := blk_frozen BK375.out 1
       have p376 : 0 ≤ (x8_1 : Int) := of_decide_eq_true (by first | (with_reducible assumption) | assumption)
       have q376 : x8_1 < (l0.length : Int) := of_decide_eq_true (by first | (with_reducible assumption) | assumption)
       obtain ⟨ad376, e376, hx376_0, hx376_1⟩ := at_T42 HR0.out x8_1 p376 q376
       cases e376
       replace hx376_0 := (HB.out.cell (World.block_lt_of_cell? w _ hx376_0)).trans hx376_0
       replace hx376_1 := (HB.out.cell (World.block_lt_of_cell? w _ hx376_1)).trans hx376_1
       replace p376 := eq_true p376
       replace q376 := eq_true q376
       go_wp2
       repeat (go_quiet (fail); try go_wp2)
       go_roundg k1
       case measure => have := HK1.out; omega
       case rel => exact ⟨(wrap64 (x8_1 + 1)), (by first | rfl | (simp; done) | (simp [*]; done)), H', ⟨by have := HK1.out; omega⟩, ⟨by (with_reducible repeat (first | refine blk_drewN ?_ _ | refine blk_drew ?_ | refine blk_alloc ?_ _)); exact BK375.out⟩, ⟨by repeat (first | (with_reducible first | exact HB.out | apply below_alloc | apply pw_below_drewN | apply below_drew1 | refine below_set ?_ GE375.out) | exact HB.out)⟩⟩
     ·rw [if_neg c6] at H
      exact absurd H (by simp)
    ·rw [if_neg c5] at H
     exact absurd H (by simp)
   ·rw [if_neg c4] at H
    have c4b0 : decide (x8_1 < (l0.length : Int)) = false := decide_eq_false c4
    clear c4
    obtain rfl := Option.some.inj H
    go_wp2
    repeat (go_quiet (fail); try go_wp2)
    go_ret
    exact ⟨by first | rfl | (simp [errW_none, errW_some] <;> rfl) | (simp [*, errW_none, errW_some] <;> rfl), by repeat (first | (with_reducible first | exact HB.out | apply below_alloc | apply pw_below_drewN | apply below_drew1 | refine below_set ?_ GE375.out) | exact HB.out)⟩
end Go.Proofs.Ytmhmfhdmeedcfaa.G
end
section
namespace Go.Proofs.Ytmhmfhdmeedcfaa.G
open Go.RowKit Go.Proofs.YtmhmfhdmeedcfaaW.PrintWords Go.Proofs.YtmhmfhdmeedcfaaW.PrintLast Go.Proofs.YtmhmfhdmeedcfaaW.PrintMore
attribute [local go_sem] max2_int min2_int max_two min_two max_three min_three max_four min_four   -- for this text's walks alone
set_option linter.unusedVariables false
set_option linter.unusedSimpArgs false
def impl_HoursAtEach.l0 : Nat → List (S42) → List Int → List (S42) → Int → Int → Option ((List (S42)) × List Int × Int)
 | 0, _, _, _, _, _ => none
 | k + 1, x12, x13, x31, x32, x33 => if x33 < x32 then (if 0 ≤ x33 then (if x33 < (x31.length : Int) then ((impl_Place.f k x12 ((rd_T42 x31 x33).f0) ((rd_T42 x31 x33).f1)).bind fun t392 => (if t392 < 0 then (if x12.length < 70368744177664 then (if x13.length < 17592186044416 then ((some (x13 ++ [0] : List Int)).bind fun y396 => (if 0 ≤ (x12.length : Int) then (if (x12.length : Int) < (y396.length : Int) then (impl_HoursAtEach.l0 k (x12 ++ [(⟨(rd_T42 x31 x33).f0, (rd_T42 x31 x33).f1⟩ : S42)]) (y396.set ((x12.length : Int) : Int).toNat (wrap64 ((rd y396 (x12.length : Int)) + 1))) x31 x32 (wrap64 (x33 + 1))) else (none)) else (none))) else (none)) else (none)) else (if 0 ≤ t392 then (if t392 < (x13.length : Int) then (impl_HoursAtEach.l0 k x12 (x13.set (t392 : Int).toNat (wrap64 ((rd x13 t392) + 1))) x31 x32 (wrap64 (x33 + 1))) else (none)) else (none)))) else (none)) else (none)) else (some (x12, x13, 0))
def impl_HoursAtEach.f (k : Nat) (a0 : O38) (a1 : O40) (a2_0 : Int) (a2_1 : Int) (a2_2 : Int) (a2_3 : Int) (a2_4 : Int) (a2_5 : Int) (l3 : List (S78)) : Option ((List (S42)) × List Int × Int) := (impl_driftCode.f k a0 a1 a2_0 a2_1 a2_2 a2_3 a2_4 a2_5 l3).bind fun t380 => (if t380 = 0 then ((impl_driftAll.f k a0 a1 a2_0 a2_1 a2_2 a2_3 a2_4 a2_5 l3).bind fun t387 => (impl_HoursAtEach.l0 k (([] : List (S42))) (([] : List Int)) t387 (t387.length : Int) 0)) else (some (([] : List (S42)), ([] : List Int), t380)))
set_option maxHeartbeats 8000000 in
set_option maxRecDepth 100000 in
theorem impl_HoursAtEach.calls (k : Nat) (a0 : O38) (a1 : O40) (a2_0 : Int) (a2_1 : Int) (a2_2 : Int) (a2_3 : Int) (a2_4 : Int) (a2_5 : Int) (A3 : Option Addr) (c3 : Nat) (l3 : List (S78)) (r1 : List (S42)) (r2 : List Int) (r3 : Int) (w : World) (hr3 : Kd.C k78 w A3 l3.length l3) (hc3 : l3.length ≤ c3) (h : impl_HoursAtEach.f k a0 a1 a2_0 a2_1 a2_2 a2_3 a2_4 a2_5 l3 = some (r1, r2, r3)) :
  Calls Try.prog 25 #[VO38 a0, VO40 a1, .agg #[.int .i8 a2_0, .int .i8 a2_1, .int .i8 a2_2, .int .i8 a2_3, .int .i8 a2_4, .int .i8 a2_5], .slice A3 l3.length c3] w fun e w' => ∃ v0_ v1_ : Value, e = .returned (.tuple #[v0_, v1_, .int .i64 r3]) ∧ Kd.R k42 42 w' w.heap.size (fun _ => True) v0_ r1 ∧ Kd.R (Kd.int .i64) 2 w' w.heap.size (fun _ => True) v1_ r2 ∧ Below w.heap.size w w' := by
 have hu44 := Try.underlying44
 have hu42 := Try.underlying42
 have HR3 := Aside0.mk hr3
 have HC3 := Aside0.mk hc3
 clear hr3 hc3
 have HB := Aside0.mk (Below.refl w.heap.size w)
 have H : ((impl_driftCode.f k a0 a1 a2_0 a2_1 a2_2 a2_3 a2_4 a2_5 l3).bind fun t380 => (if t380 = 0 then ((impl_driftAll.f k a0 a1 a2_0 a2_1 a2_2 a2_3 a2_4 a2_5 l3).bind fun t387 => (impl_HoursAtEach.l0 k (([] : List (S42))) (([] : List Int)) t387 (t387.length : Int) 0)) else (some (([] : List (S42)), ([] : List Int), t380)))) = some (r1, r2, r3) := h
 clear h
 replace H := Option.bind_eq_some_iff.mp H
 obtain ⟨t380, A50, H⟩ := H
 replace H : (if t380 = 0 then ((impl_driftAll.f k a0 a1 a2_0 a2_1 a2_2 a2_3 a2_4 a2_5 l3).bind fun t387 => (impl_HoursAtEach.l0 k (([] : List (S42))) (([] : List Int)) t387 (t387.length : Int) 0)) else (some (([] : List (S42)), ([] : List Int), t380))) = some (r1, r2, r3) := H
 have A5 := Aside0.mk A50
 clear A50
 by_cases c6 : t380 = 0
 ·rw [if_pos c6] at H
  have c6b0 : (t380 == 0) = true := beq_iff_eq.mpr c6
  have c6b1 : (t380 != 0) = false := bne_eq_false_iff_eq.mpr c6
  clear c6
  obtain ⟨y381, hy381⟩ : ∃ y_ : List (S42), y_ = (([] : List (S42))) := ⟨_, rfl⟩
  replace H : ((impl_driftAll.f k a0 a1 a2_0 a2_1 a2_2 a2_3 a2_4 a2_5 l3).bind fun t387 => (impl_HoursAtEach.l0 k y381 (([] : List Int)) t387 (t387.length : Int) 0)) = some (r1, r2, r3) := by first | (rw [hy381]; with_reducible exact H) | (have H2_ := (Option.bind_some _ _).symm.trans H; rw [hy381]; with_reducible exact H2_) | (have H2_ := (Option.bind_some _ _).symm.trans H; with_reducible exact H2_) | with_reducible exact H | (rw [hy381]; exact H) | exact H
  have Ny381 := Aside0.mk hy381
  clear hy381
  obtain ⟨y384, hy384⟩ : ∃ y_ : List Int, y_ = (([] : List Int)) := ⟨_, rfl⟩
  replace H : ((impl_driftAll.f k a0 a1 a2_0 a2_1 a2_2 a2_3 a2_4 a2_5 l3).bind fun t387 => (impl_HoursAtEach.l0 k y381 y384 t387 (t387.length : Int) 0)) = some (r1, r2, r3) := by first | (rw [hy384]; with_reducible exact H) | (have H2_ := (Option.bind_some _ _).symm.trans H; rw [hy384]; with_reducible exact H2_) | (have H2_ := (Option.bind_some _ _).symm.trans H; with_reducible exact H2_) | with_reducible exact H | (rw [hy384]; exact H) | exact H
  have Ny384 := Aside0.mk hy384
  clear hy384
  replace H := Option.bind_eq_some_iff.mp H
  obtain ⟨t387, A70, H⟩ := H
  replace H : (impl_HoursAtEach.l0 k y381 y384 t387 (t387.length : Int) 0) = some (r1, r2, r3) := H
  have A7 := Aside0.mk A70
  clear A70
  have H' := Aside0.mk H
  clear H
  go_enter Try.func25, Try.ntmps25
  go_wp2_with (first | ((with_reducible refine gate_dst (N := 4) rfl ?_); refine box_event ?hg (N := 4) ?hd (cs := (a0).A) (t := 38) ?hr ?_; (case hd => rfl); (case hg => rfl); (case hr => first | exact AR.run_box_row rfl rfl | (go_simp; done) | (go_simp; rfl)); intro gb377 hg w8 hbox hb; have BK377 := Aside0.mk (hbox); have GW377 := Aside0.mk (sqS HB.out hg); replace HB := Aside0.mk (sqH HB.out hb); have GE377 := GW377; clear hb hbox hg) | ((with_reducible refine gate_dst (N := 5) rfl ?_); refine box_event ?hg (N := 5) ?hd (cs := (a1).A) (t := 40) ?hr ?_; (case hd => rfl); (case hg => rfl); (case hr => first | exact AR.run_box_row rfl rfl | (go_simp; done) | (go_simp; rfl)); intro gb378 hg w9 hbox hb; have BK378 := Aside0.mk (hbox); have GW378 := Aside0.mk (sqS HB.out hg); replace HB := Aside0.mk (sqH HB.out hb); have GE378 := GW378; have NB377_378 := Aside0.mk (sqN BK377.out hg); replace BK377 := Aside0.mk (sqB BK377.out hb); have NB378_377 := Aside0.mk (Ne.symm NB377_378.out); clear hb hbox hg) | ((with_reducible refine gate_dst (N := 6) rfl ?_); refine box_event ?hg (N := 6) ?hd (cs := #[.int .i8 a2_0, .int .i8 a2_1, .int .i8 a2_2, .int .i8 a2_3, .int .i8 a2_4, .int .i8 a2_5]) (t := 44) ?hr ?_; (case hd => rfl); (case hg => rfl); (case hr => first | (go_simp; done) | (go_simp; rfl)); intro gb379 hg w10 hbox hb; have BK379 := Aside0.mk (hbox); have GW379 := Aside0.mk (sqS HB.out hg); replace HB := Aside0.mk (sqH HB.out hb); have GE379 := GW379; have NB377_379 := Aside0.mk (sqN BK377.out hg); replace BK377 := Aside0.mk (sqB BK377.out hb); have NB379_377 := Aside0.mk (Ne.symm NB377_379.out); have NB378_379 := Aside0.mk (sqN BK378.out hg); replace BK378 := Aside0.mk (sqB BK378.out hb); have NB379_378 := Aside0.mk (Ne.symm NB378_379.out); clear hb hbox hg) | ((with_reducible refine gate_dst (N := 17) rfl ?_); (with_reducible refine AR.gate_load (t := 38) rfl ?_); (try refine gate_guard (by rfl) ?_); refine AR.wpList_load_blk rfl 38 _ rfl gb377 rfl (a0).A _ (sqO BK377.out) Try.underlying38 rfl (szO38 _) ?_) | ((with_reducible refine gate_dst (N := 18) rfl ?_); (with_reducible refine AR.gate_load (t := 40) rfl ?_); (try refine gate_guard (by rfl) ?_); refine AR.wpList_load_blk rfl 40 _ rfl gb378 rfl (a1).A _ (sqO BK378.out) Try.underlying40 rfl (szO40 _) ?_; have hnb11 := NB379_377.out; have hnc11 := NB377_379.out; have hnb12 := NB379_378.out; have hnc12 := NB378_379.out; obtain ⟨hcz13_0, hcz13_1, hcz13_2, hcz13_3, hcz13_4, hcz13_5⟩ := sqC BK379.out; obtain ⟨hfz13_0, hfz13_1, hfz13_2, hfz13_3, hfz13_4, hfz13_5⟩ := sqF6 BK379.out) | ((with_reducible refine gate_callee (f := 40) rfl ?_); refine goesL_ (some 21) rfl rfl Try.func40 (by kernel_rfl) rfl #[VO38 a0, VO40 a1, .agg #[.int .i8 a2_0, .int .i8 a2_1, .int .i8 a2_2, .int .i8 a2_3, .int .i8 a2_4, .int .i8 a2_5], .slice A3 l3.length c3] rfl (by (try simp only [List.map_toArray, List.map_cons, List.map_nil]); first | done | rfl | (simp only [List.length_drop, List.length_take]; rfl)) ?_; (with_reducible refine (impl_driftCode.calls k a0 a1 a2_0 a2_1 a2_2 a2_3 a2_4 a2_5 _ _ l3 t380 _ ?side1 ?side2 A5.out).mono ?_); (case side1 => repeat (first | exact (Kd.C_below HR3.out HB.out) | (with_reducible refine Kd.C_alloc ?_ _) | (with_reducible refine Kd.C_drewN ?_ _) | (with_reducible refine Kd.C_drew ?_))); (case side2 => exact HC3.out); rintro e w14 ⟨rfl, hb⟩; refine ⟨_, rfl, ?_⟩; replace BK377 := Aside0.mk (sqB BK377.out hb); replace BK378 := Aside0.mk (sqB BK378.out hb); replace BK379 := Aside0.mk (sqB BK379.out hb); replace HB := Aside0.mk (sqH HB.out hb); (try clear hb); (try clear hb2); (try clear hk); (try clear hi)) | ((with_reducible refine gate_dst (N := 25) rfl ?_); refine Kd.R_lit k42 _ 42 ?hg (N := 25) ?hd (xs := ([] : List (S42))) (inner := []) (ok := fun _ => True) (okp := fun _ => True) ?hr ?hp (fun _ hk => hk) trivial (Below.refl _ _) (Nat.le_refl _) (by simp) ?_; (case hd => rfl); (case hg => rfl); (case hr => first | (go_simp; done) | (go_simp; rfl)); (case hp => exact (Reps.none _ _)); intro v382 w15 ho16 hb hg_ hnew_; clear hg_ hnew_; (first | rw [← Ny381.out] at ho16 | (simp only [Int.reduceToNat] at ho16; rw [← Ny381.out] at ho16)); have HO383 := Aside0.mk (Kd.R_lower ho16 (sqW HB.out)); replace BK377 := Aside0.mk (sqB BK377.out hb); replace BK378 := Aside0.mk (sqB BK378.out hb); replace BK379 := Aside0.mk (sqB BK379.out hb); replace HB := Aside0.mk (sqH HB.out hb); clear hb ho16) | ((with_reducible refine gate_dst (N := 26) rfl ?_); refine Kd.R_lit (Kd.int .i64) _ 2 ?hg (N := 26) ?hd (xs := ([] : List Int)) (inner := []) (ok := fun _ => True) (okp := fun _ => True) ?hr ?hp (fun _ hk => hk) trivial (Below.refl _ _) (Nat.le_refl _) (by simp) ?_; (case hd => rfl); (case hg => rfl); (case hr => first | (go_simp; done) | (go_simp; rfl)); (case hp => exact (Reps.none _ _)); intro v385 w17 ho18 hb hg_ hnew_; clear hg_ hnew_; (first | rw [← Ny384.out] at ho18 | (simp only [Int.reduceToNat] at ho18; rw [← Ny384.out] at ho18)); replace HO383 := Aside0.mk (sqR HO383.out hb); have HO386 := Aside0.mk (Kd.R_lower ho18 (sqW HB.out)); replace BK377 := Aside0.mk (sqB BK377.out hb); replace BK378 := Aside0.mk (sqB BK378.out hb); replace BK379 := Aside0.mk (sqB BK379.out hb); replace HB := Aside0.mk (sqH HB.out hb); clear hb ho18) | ((with_reducible refine gate_dst (N := 27) rfl ?_); (with_reducible refine AR.gate_load (t := 38) rfl ?_); (try refine gate_guard (by rfl) ?_); refine AR.wpList_load_blk rfl 38 _ rfl gb377 rfl (a0).A _ (sqO BK377.out) Try.underlying38 rfl (szO38 _) ?_) | ((with_reducible refine gate_dst (N := 28) rfl ?_); (with_reducible refine AR.gate_load (t := 40) rfl ?_); (try refine gate_guard (by rfl) ?_); refine AR.wpList_load_blk rfl 40 _ rfl gb378 rfl (a1).A _ (sqO BK378.out) Try.underlying40 rfl (szO40 _) ?_; obtain ⟨hcz19_0, hcz19_1, hcz19_2, hcz19_3, hcz19_4, hcz19_5⟩ := sqC BK379.out; obtain ⟨hfz19_0, hfz19_1, hfz19_2, hfz19_3, hfz19_4, hfz19_5⟩ := sqF6 BK379.out) | ((with_reducible refine gate_callee (f := 41) rfl ?_); refine goesL_ (some 31) rfl rfl Try.func41 (by kernel_rfl) rfl #[VO38 a0, VO40 a1, .agg #[.int .i8 a2_0, .int .i8 a2_1, .int .i8 a2_2, .int .i8 a2_3, .int .i8 a2_4, .int .i8 a2_5], .slice A3 l3.length c3] rfl (by (try simp only [List.map_toArray, List.map_cons, List.map_nil]); first | done | rfl | (simp only [List.length_drop, List.length_take]; rfl)) ?_; (with_reducible refine (impl_driftAll.calls k a0 a1 a2_0 a2_1 a2_2 a2_3 a2_4 a2_5 _ _ l3 t387 _ ?side1 ?side2 A7.out).mono ?_); (case side1 => repeat (first | exact (Kd.C_below HR3.out HB.out) | (with_reducible refine Kd.C_alloc ?_ _) | (with_reducible refine Kd.C_drewN ?_ _) | (with_reducible refine Kd.C_drew ?_))); (case side2 => exact HC3.out); rintro e w20 ⟨v388, rfl, ho0, hb⟩; refine ⟨_, rfl, ?_⟩; replace HO386 := Aside0.mk (sqR HO386.out hb); have HO389 := Aside0.mk (Kd.R_lower (Kd.R_new' ho0 (Kd.R_lt (by (with_reducible repeat (first | apply Kd.R_alloc | apply Kd.R_drewN | apply Kd.R_drew)); exact HO383.out))) (sqW HB.out)); replace HO383 := Aside0.mk (Kd.R_elder' (by (with_reducible repeat (first | apply Kd.R_alloc | apply Kd.R_drewN | apply Kd.R_drew)); exact HO383.out) (Kd.R_base ho0) hb); replace BK377 := Aside0.mk (sqB BK377.out hb); replace BK378 := Aside0.mk (sqB BK378.out hb); replace BK379 := Aside0.mk (sqB BK379.out hb); replace HB := Aside0.mk (sqH HB.out hb); (try clear hb); (try clear hb2); (try clear hk); (try clear hi); (try clear ho0); obtain ⟨Ao21, co21, eo21⟩ := Kd.R_slice HO389.out; subst eo21))
  go_loopg [12, 13, 33] k (fun kq v12 v13 v33 w' => ∃ (x12_1 : List (S42)) (x13_1 : List Int) (x33_1 : Int), v33 = .int .i64 x33_1 ∧ Aside0 (impl_HoursAtEach.l0 kq x12_1 x13_1 t387 (t387.length : Int) x33_1 = some (r1, r2, r3)) ∧ Aside0 (kq ≤ k) ∧ Aside0 (Kd.R k42 42 w' w.heap.size (fun k_ => some k_ ≠ ((.slice Ao21 t387.length co21) : Value).ownBlock) v12 x12_1) ∧ Aside0 (Kd.R (Kd.int .i64) 2 w' w.heap.size (fun _ => True) v13 x13_1) ∧ Aside0 (Kd.R k42 42 w' w.heap.size (fun k_ => some k_ ≠ (v12 : Value).ownBlock) (.slice Ao21 t387.length co21) t387) ∧ Aside0 (w'.heap[gb377]? = some (.cells (a0).A 38 (0, 0))) ∧ Aside0 (w'.heap[gb378]? = some (.cells (a1).A 40 (0, 0))) ∧ Aside0 (w'.heap[gb379]? = some (.cells #[.int .i8 a2_0, .int .i8 a2_1, .int .i8 a2_2, .int .i8 a2_3, .int .i8 a2_4, .int .i8 a2_5] 44 (0, 0))) ∧ Aside0 (Below w.heap.size w w'))
  case atStart => exact ⟨(y381), (y384), (0), (by first | rfl | (simp; done) | (simp [*]; done)), H', ⟨Nat.le_refl _⟩, ⟨by (with_reducible repeat (first | apply Kd.R_alloc | apply Kd.R_drewN | apply Kd.R_drew)); exact Kd.R_mono HO383.out (fun _ hk => hk.2)⟩, ⟨by (with_reducible repeat (first | apply Kd.R_alloc | apply Kd.R_drewN | apply Kd.R_drew)); exact HO386.out⟩, ⟨by (with_reducible repeat (first | apply Kd.R_alloc | apply Kd.R_drewN | apply Kd.R_drew)); exact Kd.R_mono HO389.out (fun _ hk => hk.2)⟩, ⟨by (with_reducible repeat (first | refine blk_drewN ?_ _ | refine blk_drew ?_ | refine blk_alloc ?_ _)); exact BK377.out⟩, ⟨by (with_reducible repeat (first | refine blk_drewN ?_ _ | refine blk_drew ?_ | refine blk_alloc ?_ _)); exact BK378.out⟩, ⟨by (with_reducible repeat (first | refine blk_drewN ?_ _ | refine blk_drew ?_ | refine blk_alloc ?_ _)); exact BK379.out⟩, ⟨by repeat (first | (with_reducible first | exact HB.out | apply below_alloc | apply pw_below_drewN | apply below_drew1 | refine below_set ?_ GE377.out | refine below_set ?_ GE378.out | refine below_set ?_ GE379.out) | exact HB.out)⟩⟩
  case round =>
   clear H'
   try clear c1
   try clear c2
   try clear p2
   try clear c3
   try clear c4
   try clear c6
   try clear c6b0
   try clear c6b1
   try clear c11
   try clear c12
   try clear hcz13_0
   try clear hcz13_1
   try clear hcz13_2
   try clear hcz13_3
   try clear hcz13_4
   try clear hcz13_5
   try clear hcz19_0
   try clear hcz19_1
   try clear hcz19_2
   try clear hcz19_3
   try clear hcz19_4
   try clear hcz19_5
   try clear hfz13_0
   try clear hfz13_1
   try clear hfz13_2
   try clear hfz13_3
   try clear hfz13_4
   try clear hfz13_5
   try clear hfz19_0
   try clear hfz19_1
   try clear hfz19_2
   try clear hfz19_3
   try clear hfz19_4
   try clear hfz19_5
   obtain ⟨x12_1, x13_1, x33_1, rfl, HA, HK1, HO_12, HO_13, HO_31, BK377, BK378, BK379, HB⟩ := hrel
   cases gk with
   | zero => exact absurd HA.out (by simp [impl_HoursAtEach.l0])
   | succ k1 =>
    have H := HA.out
    clear HA
    simp only [impl_HoursAtEach.l0] at H
    by_cases c22 : x33_1 < (t387.length : Int)
    ·rw [if_pos c22] at H
     have c22b0 : decide (x33_1 < (t387.length : Int)) = true := decide_eq_true c22
     clear c22
     by_cases c23 : 0 ≤ x33_1
     ·rw [if_pos c23] at H
      have c23b0 : decide (0 ≤ x33_1) = true := decide_eq_true c23
      clear c23
      by_cases c24 : x33_1 < (t387.length : Int)
      ·rw [if_pos c24] at H
       have c24b0 : decide (x33_1 < (t387.length : Int)) = true := decide_eq_true c24
       clear c24
       replace H := Option.bind_eq_some_iff.mp H
       obtain ⟨t392, A250, H⟩ := H
       replace H : (if t392 < 0 then (if x12_1.length < 70368744177664 then (if x13_1.length < 17592186044416 then ((some (x13_1 ++ [0] : List Int)).bind fun y396 => (if 0 ≤ (x12_1.length : Int) then (if (x12_1.length : Int) < (y396.length : Int) then (impl_HoursAtEach.l0 k1 (x12_1 ++ [(⟨(rd_T42 t387 x33_1).f0, (rd_T42 t387 x33_1).f1⟩ : S42)]) (y396.set ((x12_1.length : Int) : Int).toNat (wrap64 ((rd y396 (x12_1.length : Int)) + 1))) t387 (t387.length : Int) (wrap64 (x33_1 + 1))) else (none)) else (none))) else (none)) else (none)) else (if 0 ≤ t392 then (if t392 < (x13_1.length : Int) then (impl_HoursAtEach.l0 k1 x12_1 (x13_1.set (t392 : Int).toNat (wrap64 ((rd x13_1 t392) + 1))) t387 (t387.length : Int) (wrap64 (x33_1 + 1))) else (none)) else (none))) = some (r1, r2, r3) := H
       have A25 := Aside0.mk A250
       clear A250
       by_cases c26 : t392 < 0
       ·rw [if_pos c26] at H
        have c26b0 : decide (t392 < 0) = true := decide_eq_true c26
        clear c26
        by_cases c27 : x12_1.length < 70368744177664
        ·rw [if_pos c27] at H
         have LMc27 := Aside0.mk c27
         clear c27
         obtain ⟨y393, hy393⟩ : ∃ y_ : List (S42), y_ = (x12_1 ++ [(⟨(rd_T42 t387 x33_1).f0, (rd_T42 t387 x33_1).f1⟩ : S42)]) := ⟨_, rfl⟩
         replace H : (if x13_1.length < 17592186044416 then ((some (x13_1 ++ [0] : List Int)).bind fun y396 => (if 0 ≤ (x12_1.length : Int) then (if (x12_1.length : Int) < (y396.length : Int) then (impl_HoursAtEach.l0 k1 y393 (y396.set ((x12_1.length : Int) : Int).toNat (wrap64 ((rd y396 (x12_1.length : Int)) + 1))) t387 (t387.length : Int) (wrap64 (x33_1 + 1))) else (none)) else (none))) else (none)) = some (r1, r2, r3) := by first | (rw [hy393]; with_reducible exact H) | (have H2_ := (Option.bind_some _ _).symm.trans H; rw [hy393]; with_reducible exact H2_) | (have H2_ := (Option.bind_some _ _).symm.trans H; with_reducible exact H2_) | with_reducible exact H | (rw [hy393]; exact H) | exact H
         have Ny393 := Aside0.mk hy393
         clear hy393
         by_cases c28 : x13_1.length < 17592186044416
         ·rw [if_pos c28] at H
          have LMc28 := Aside0.mk c28
          clear c28
          obtain ⟨y396, hy396⟩ : ∃ y_ : List Int, y_ = (x13_1 ++ [0]) := ⟨_, rfl⟩
          replace H : (if 0 ≤ (x12_1.length : Int) then (if (x12_1.length : Int) < (y396.length : Int) then (impl_HoursAtEach.l0 k1 y393 (y396.set ((x12_1.length : Int) : Int).toNat (wrap64 ((rd y396 (x12_1.length : Int)) + 1))) t387 (t387.length : Int) (wrap64 (x33_1 + 1))) else (none)) else (none)) = some (r1, r2, r3) := by first | (rw [hy396]; with_reducible exact H) | (have H2_ := (Option.bind_some _ _).symm.trans H; rw [hy396]; with_reducible exact H2_) | (have H2_ := (Option.bind_some _ _).symm.trans H; with_reducible exact H2_) | with_reducible exact H | (rw [hy396]; exact H) | exact H
          have Ny396 := Aside0.mk hy396
          clear hy396
          by_cases c29 : 0 ≤ (x12_1.length : Int)
          ·rw [if_pos c29] at H
           have c29b0 : decide (0 ≤ (x12_1.length : Int)) = true := decide_eq_true c29
           have c29b1 : decide (0 ≤ x12_1.length) = true := decide_eq_true (by omega)
           clear c29
           by_cases c30 : (x12_1.length : Int) < (y396.length : Int)
           ·rw [if_pos c30] at H
            have c30b0 : decide ((x12_1.length : Int) < (y396.length : Int)) = true := decide_eq_true c30
            have c30b1 : decide (x12_1.length < y396.length) = true := decide_eq_true (Int.ofNat_lt.mp c30)
            clear c30
            obtain ⟨y400, hy400⟩ : ∃ y_ : List Int, y_ = (y396.set ((x12_1.length : Int) : Int).toNat (wrap64 ((rd y396 (x12_1.length : Int)) + 1))) := ⟨_, rfl⟩
            replace H : (impl_HoursAtEach.l0 k1 y393 y400 t387 (t387.length : Int) (wrap64 (x33_1 + 1))) = some (r1, r2, r3) := by first | (rw [hy400]; with_reducible exact H) | (have H2_ := (Option.bind_some _ _).symm.trans H; rw [hy400]; with_reducible exact H2_) | (have H2_ := (Option.bind_some _ _).symm.trans H; with_reducible exact H2_) | with_reducible exact H | (rw [hy400]; exact H) | exact H
            have Ny400 := Aside0.mk hy400
            clear hy400
            have H' := Aside0.mk H
            clear H
            have p390 : 0 ≤ (x33_1 : Int) := of_decide_eq_true (by first | (with_reducible assumption) | assumption)
            have q390 : x33_1 < (t387.length : Int) := of_decide_eq_true (by first | (with_reducible assumption) | assumption)
            obtain ⟨ad390, e390, hx390_0, hx390_1⟩ := at_T42 (Kd.R_reads' HO_31.out).2.2 x33_1 p390 q390
            cases e390
            replace p390 := eq_true p390
            replace q390 := eq_true q390
            go_wp2_with (first | ((with_reducible refine gate_dst (N := 15) rfl ?_); refine box_event ?hg (N := 15) ?hd (cs := #[.int .i8 0, .int .i8 0]) (t := 42) ?hr ?_; (case hd => rfl); (case hg => rfl); (case hr => first | (go_simp; done) | (go_simp; rfl)); intro gb391 hg w32 hbox hb; replace HO_12 := Aside0.mk (Kd.R_below (Kd.R_elderB (by (with_reducible repeat (first | apply Kd.R_alloc | apply Kd.R_drewN | apply Kd.R_drew)); exact HO_12.out) gb391 (Nat.le_of_eq hg.symm)) hb); replace HO_13 := Aside0.mk (sqR HO_13.out hb); replace HO_31 := Aside0.mk (Kd.R_below (Kd.R_elderB (by (with_reducible repeat (first | apply Kd.R_alloc | apply Kd.R_drewN | apply Kd.R_drew)); exact HO_31.out) gb391 (Nat.le_of_eq hg.symm)) hb); have BK391 := Aside0.mk (hbox); have GW391 := Aside0.mk (sqS HB.out hg); replace HB := Aside0.mk (sqH HB.out hb); have GE391 := GW391; have NB377_391 := Aside0.mk (sqN BK377.out hg); replace BK377 := Aside0.mk (sqB BK377.out hb); have NB391_377 := Aside0.mk (Ne.symm NB377_391.out); have NB378_391 := Aside0.mk (sqN BK378.out hg); replace BK378 := Aside0.mk (sqB BK378.out hb); have NB391_378 := Aside0.mk (Ne.symm NB378_391.out); have NB379_391 := Aside0.mk (sqN BK379.out hg); replace BK379 := Aside0.mk (sqB BK379.out hb); have NB391_379 := Aside0.mk (Ne.symm NB379_391.out); clear hb hbox hg; have hnb33 := NB391_377.out; have hnc33 := NB377_391.out; have hnb34 := NB391_378.out; have hnc34 := NB378_391.out; have hnb35 := NB391_379.out; have hnc35 := NB379_391.out; obtain ⟨hcz36_0, hcz36_1⟩ := sqC2 BK391.out; obtain ⟨hfz36_0, hfz36_1⟩ := sqF2 BK391.out; obtain ⟨Ao37, co37, eo37⟩ := Kd.R_slice HO_12.out; subst eo37) | ((with_reducible refine gate_callee (f := 47) rfl ?_); refine goesL_ (some 39) rfl rfl Try.func47 (by kernel_rfl) rfl #[.slice Ao37 x12_1.length co37, .agg #[.int .i8 ((rd_T42 t387 x33_1).f0), .int .i8 ((rd_T42 t387 x33_1).f1)]] rfl (by (try simp only [List.map_toArray, List.map_cons, List.map_nil]); first | done | rfl | (simp only [List.length_drop, List.length_take]; rfl)) ?_; (with_reducible refine (impl_Place.calls k1 _ _ x12_1 ((rd_T42 t387 x33_1).f0) ((rd_T42 t387 x33_1).f1) t392 _ ?side1 ?side2 A25.out).mono ?_); (case side1 => refine (Kd.R_reads' (e := 42) (base := w.heap.size) (ok := fun k_ => (some k_ ≠ (.slice (some ad390) t387.length co21 : Value).ownBlock ∧ k_ ≠ gb391)) (n := x12_1.length) (c := co37) ?_).2.2; exact (by (with_reducible repeat (first | apply Kd.R_alloc | apply Kd.R_drewN | apply Kd.R_drew)); exact (Kd.R_mono (Kd.R_far (p := ⟨gb391, 1, none⟩) (Kd.R_far (p := ⟨gb391, 0, none⟩) (Kd.R_mono HO_12.out (fun k_ hk => (⟨hk, hk.2⟩ : _ ∧ k_ ≠ gb391))) (fun _ hk => hk.2) (.int .i8 ((rd_T42 t387 x33_1).f0))) (fun _ hk => hk.2) (.int .i8 ((rd_T42 t387 x33_1).f1))) (fun _ h_ => h_.1)))); (case side2 => exact (Kd.R_reads' HO_12.out).2.1); rintro e w38 ⟨rfl, hb⟩; refine ⟨_, rfl, ?_⟩; replace HO_12 := Aside0.mk (Kd.R_below (by (with_reducible repeat (first | apply Kd.R_alloc | apply Kd.R_drewN | apply Kd.R_drew)); exact (Kd.R_mono (Kd.R_far (p := ⟨gb391, 1, none⟩) (Kd.R_far (p := ⟨gb391, 0, none⟩) (Kd.R_mono HO_12.out (fun k_ hk => (⟨hk, hk.2⟩ : _ ∧ k_ ≠ gb391))) (fun _ hk => hk.2) (.int .i8 ((rd_T42 t387 x33_1).f0))) (fun _ hk => hk.2) (.int .i8 ((rd_T42 t387 x33_1).f1))) (fun _ h_ => h_.1))) hb); replace HO_13 := Aside0.mk (Kd.R_below (by (with_reducible repeat (first | apply Kd.R_alloc | apply Kd.R_drewN | apply Kd.R_drew)); exact (Kd.R_mono (Kd.R_far (p := ⟨gb391, 1, none⟩) (Kd.R_far (p := ⟨gb391, 0, none⟩) (Kd.R_types HO_13.out BK391.out (by decide)) (fun _ hk => hk.2) (.int .i8 ((rd_T42 t387 x33_1).f0))) (fun _ hk => hk.2) (.int .i8 ((rd_T42 t387 x33_1).f1))) (fun _ h_ => h_.1))) hb); replace HO_31 := Aside0.mk (Kd.R_below (by (with_reducible repeat (first | apply Kd.R_alloc | apply Kd.R_drewN | apply Kd.R_drew)); exact (Kd.R_mono (Kd.R_far (p := ⟨gb391, 1, none⟩) (Kd.R_far (p := ⟨gb391, 0, none⟩) (Kd.R_mono HO_31.out (fun k_ hk => (⟨hk, hk.2⟩ : _ ∧ k_ ≠ gb391))) (fun _ hk => hk.2) (.int .i8 ((rd_T42 t387 x33_1).f0))) (fun _ hk => hk.2) (.int .i8 ((rd_T42 t387 x33_1).f1))) (fun _ h_ => h_.1))) hb); replace BK377 := Aside0.mk (blk_below (g := gb377) (o := .cells (a0).A 38 (0, 0)) (by (with_reducible repeat (first | refine blk_drewN ?_ _ | refine blk_drew ?_ | refine blk_alloc ?_ _)); refine blk_far ?_ NB377_391.out _; (with_reducible repeat (first | refine blk_drewN ?_ _ | refine blk_drew ?_ | refine blk_alloc ?_ _)); refine blk_far ?_ NB377_391.out _; (with_reducible repeat (first | refine blk_drewN ?_ _ | refine blk_drew ?_ | refine blk_alloc ?_ _)); exact BK377.out) hb); replace BK378 := Aside0.mk (blk_below (g := gb378) (o := .cells (a1).A 40 (0, 0)) (by (with_reducible repeat (first | refine blk_drewN ?_ _ | refine blk_drew ?_ | refine blk_alloc ?_ _)); refine blk_far ?_ NB378_391.out _; (with_reducible repeat (first | refine blk_drewN ?_ _ | refine blk_drew ?_ | refine blk_alloc ?_ _)); refine blk_far ?_ NB378_391.out _; (with_reducible repeat (first | refine blk_drewN ?_ _ | refine blk_drew ?_ | refine blk_alloc ?_ _)); exact BK378.out) hb); replace BK379 := Aside0.mk (blk_below (g := gb379) (o := .cells #[.int .i8 a2_0, .int .i8 a2_1, .int .i8 a2_2, .int .i8 a2_3, .int .i8 a2_4, .int .i8 a2_5] 44 (0, 0)) (by (with_reducible repeat (first | refine blk_drewN ?_ _ | refine blk_drew ?_ | refine blk_alloc ?_ _)); refine blk_far ?_ NB379_391.out _; (with_reducible repeat (first | refine blk_drewN ?_ _ | refine blk_drew ?_ | refine blk_alloc ?_ _)); refine blk_far ?_ NB379_391.out _; (with_reducible repeat (first | refine blk_drewN ?_ _ | refine blk_drew ?_ | refine blk_alloc ?_ _)); exact BK379.out) hb); replace BK391 := Aside0.mk (blk_below (g := gb391) (o := .cells #[.int .i8 ((rd_T42 t387 x33_1).f0), .int .i8 ((rd_T42 t387 x33_1).f1)] 42 (0, 0)) (by (with_reducible repeat (first | refine blk_drewN ?_ _ | refine blk_drew ?_ | refine blk_alloc ?_ _)); refine blk_put (cs := #[.int .i8 ((rd_T42 t387 x33_1).f0), .int .i8 0]) ?_ 1 _ rfl; (with_reducible repeat (first | refine blk_drewN ?_ _ | refine blk_drew ?_ | refine blk_alloc ?_ _)); refine blk_put (cs := #[.int .i8 0, .int .i8 0]) ?_ 0 _ rfl; (with_reducible repeat (first | refine blk_drewN ?_ _ | refine blk_drew ?_ | refine blk_alloc ?_ _)); exact BK391.out) hb); replace HB := Aside0.mk (sqH HB.out hb); (try clear hb); (try clear hb2); (try clear hk); (try clear hi); obtain ⟨hcz39_0, hcz39_1⟩ := sqC2 BK391.out; obtain ⟨hfz39_0, hfz39_1⟩ := sqF2 BK391.out) | ((with_reducible refine gate_builtin (b := .append) (xs := #[.tmp 44, .tmp 46]) rfl ?_); at_builtin; refine Kd.R_append k42 (w0 := w) w.heap.size rfl (.tmp 44) (.tmp 46) 35 42 (.agg #[(.int .i8 0), (.int .i8 0)]) 2 rfl Try.underlying35 info42 rfl (by decide) (by omega) (.slice Ao37 x12_1.length co37) x12_1 (⟨(rd_T42 t387 x33_1).f0, (rd_T42 t387 x33_1).f1⟩ : S42) [.int .i8 ((rd_T42 t387 x33_1).f0), .int .i8 ((rd_T42 t387 x33_1).f1)] (fun k_ => some k_ ≠ (.slice (some ad390) t387.length co21 : Value).ownBlock ∧ k_ ≠ gb391) (fun _ => False) rfl rfl ?aP (fun _ hk => hk.elim) ?aF ?aO ?aB ?aS ?aL ?_; (case aP => exact k42_mkM _ _ _ (⟨(rd_T42 t387 x33_1).f0, (rd_T42 t387 x33_1).f1⟩ : S42)); (case aB => exact (sqI HB.out)); (case aF => exact (fun k_ hk => ⟨Kd.fresh' (Kd.R_lt (by (with_reducible repeat (first | apply Kd.R_alloc | apply Kd.R_drewN | apply Kd.R_drew)); exact HO_31.out)) k_ hk, Kd.freshB (g := gb391) (o := .cells #[.int .i8 ((rd_T42 t387 x33_1).f0), .int .i8 ((rd_T42 t387 x33_1).f1)] 42 (0, 0)) (sqO BK391.out) k_ hk⟩)); (case aO => exact (by (with_reducible repeat (first | apply Kd.R_alloc | apply Kd.R_drewN | apply Kd.R_drew)); exact HO_12.out)); (case aS => exact (sqW HB.out)); (case aL => have := LMc27.out; omega); intro v394 w40 ho hb hg hat; rw [← Ny393.out] at ho; have n0_ := Aside0.mk (Kd.R_over' (by (with_reducible repeat (first | apply Kd.R_alloc | apply Kd.R_drewN | apply Kd.R_drew)); exact HO_13.out) (Kd.R_typed (by (with_reducible repeat (first | apply Kd.R_alloc | apply Kd.R_drewN | apply Kd.R_drew)); exact HO_12.out)) (by decide) hg); have n1_ := Aside0.mk (Kd.R_after (ok := (fun k_ => k_ ≠ gb391)) (by (with_reducible repeat (first | apply Kd.R_alloc | apply Kd.R_drewN | apply Kd.R_drew)); exact Kd.R_mono HO_31.out (fun _ hk => ⟨hk.2, hk.1⟩)) hg hat); have n2_ := Aside0.mk (blk_grown (sqO BK377.out) hg (Kd.R_ne HO_12.out BK377.out (by decide))); have n3_ := Aside0.mk (blk_grown (sqO BK378.out) hg (Kd.R_ne HO_12.out BK378.out (by decide))); have n4_ := Aside0.mk (blk_grown (sqO BK379.out) hg (Kd.R_ne HO_12.out BK379.out (by decide))); have n5_ := Aside0.mk (blk_grown (sqO BK391.out) hg (Kd.R_away HO_12.out (fun _ hk => hk.2))); have n6_ := Aside0.mk (hb); have n7_ := Aside0.mk (ho); clear HO_13; clear HO_31; clear BK377; clear BK378; clear BK379; clear BK391; clear HB; clear HO_12; have HO_13 := n0_; have HO_31 := n1_; have BK377 := n2_; have BK378 := n3_; have BK379 := n4_; have BK391 := n5_; have HB := n6_; have HO395 := n7_; clear n0_ n1_ n2_ n3_ n4_ n5_ n6_ n7_; clear ho hb hg hat) | ((with_reducible refine gate_builtin (b := .append) (xs := #[.tmp 48, .tmp 49]) rfl ?_); at_builtin; refine Kd.R_append (Kd.int .i64) (w0 := w) w.heap.size rfl (.tmp 48) (.tmp 49) 55 2 (.int .i64 0) 8 rfl Try.underlying55 info2 rfl (by decide) (by omega) u13 x13_1 0 [.int .i64 0] (fun _ => True) (fun _ => False) rfl rfl ?aP (fun _ hk => hk.elim) ?aF ?aO ?aB ?aS ?aL ?_; (case aP => exact rfl); (case aB => exact (sqI HB.out)); (case aF => exact (fun _ _ => trivial)); (case aO => exact (by (with_reducible repeat (first | apply Kd.R_alloc | apply Kd.R_drewN | apply Kd.R_drew)); exact HO_13.out)); (case aS => exact (sqW HB.out)); (case aL => have := LMc28.out; omega); intro v397 w41 ho hb hg hat; rw [← Ny396.out] at ho; have n0_ := Aside0.mk (Kd.R_over' (by (with_reducible repeat (first | apply Kd.R_alloc | apply Kd.R_drewN | apply Kd.R_drew)); exact HO_31.out) (Kd.R_typed (by (with_reducible repeat (first | apply Kd.R_alloc | apply Kd.R_drewN | apply Kd.R_drew)); exact HO_13.out)) (by decide) hg); have n1_ := Aside0.mk (blk_grown (sqO BK377.out) hg (Kd.R_ne HO_13.out BK377.out (by decide))); have n2_ := Aside0.mk (blk_grown (sqO BK378.out) hg (Kd.R_ne HO_13.out BK378.out (by decide))); have n3_ := Aside0.mk (blk_grown (sqO BK379.out) hg (Kd.R_ne HO_13.out BK379.out (by decide))); have n4_ := Aside0.mk (blk_grown (sqO BK391.out) hg (Kd.R_ne HO_13.out BK391.out (by decide))); have n5_ := Aside0.mk (Kd.R_over' (by (with_reducible repeat (first | apply Kd.R_alloc | apply Kd.R_drewN | apply Kd.R_drew)); exact HO395.out) (Kd.R_typed (by (with_reducible repeat (first | apply Kd.R_alloc | apply Kd.R_drewN | apply Kd.R_drew)); exact HO_13.out)) (by decide) hg); have n6_ := Aside0.mk (hb); have n7_ := Aside0.mk (ho); clear HO_31; clear BK377; clear BK378; clear BK379; clear BK391; clear HO395; clear HB; clear HO_13; have HO_31 := n0_; have BK377 := n1_; have BK378 := n2_; have BK379 := n3_; have BK391 := n4_; have HO395 := n5_; have HB := n6_; have HO398 := n7_; clear n0_ n1_ n2_ n3_ n4_ n5_ n6_ n7_; clear ho hb hg hat; obtain ⟨Ao42, co42, eo42⟩ := Kd.R_slice HO398.out; subst eo42; have p399 : 0 ≤ ((x12_1.length : Int) : Int) := of_decide_eq_true (by first | (with_reducible assumption) | assumption); have q399 : (x12_1.length : Int) < (y396.length : Int) := of_decide_eq_true (by first | (with_reducible assumption) | assumption); obtain ⟨ad399, e399, hx399_0⟩ := Kd.at_int (Kd.R_reads' HO398.out).2.2 (x12_1.length : Int) p399 q399; cases e399; (try simp only [Go.IntWalk.toNatUp] at hx399_0); replace p399 := eq_true p399; replace q399 := eq_true q399; have p31 : 0 ≤ ((x12_1.length : Int) : Int) := of_decide_eq_true (by first | (with_reducible assumption) | assumption); have q31 : ((x12_1.length : Int) : Int) < ((y396.length : Int) : Int) := of_decide_eq_true (by first | (with_reducible assumption) | assumption); obtain ⟨go31, co31, eo31, gb31, gl31, cl31, HG31⟩ := Kd.R_form HO398.out (by omega); (first | cases eo31 | (injection eo31 with ea_ en_ ec_; (first | subst ea_ | (injection ea_ with ea_; subst ea_)); subst ec_; clear en_)); have GB31 := Aside0.mk gb31; have GG31 := Aside0.mk HG31; clear gb31 gl31 HG31; (first | simp only [add_plain] at hx399_0 | skip); obtain ⟨hx31_0, hf31_0⟩ := Kd.R_celln 0 HO398.out ((x12_1.length : Int) : Int) p31 q31; replace p31 := eq_true p31; replace q31 := eq_true q31; obtain ⟨hy43_, hz43_⟩ := Kd.R_celln 0 HO398.out ((x12_1.length : Int) : Int) (of_decide_eq_true (by first | (with_reducible assumption) | assumption)) (of_decide_eq_true (by first | (with_reducible assumption) | assumption)); (try simp only [Go.IntWalk.toNatUp] at hy43_ hz43_); have HP43 := Kd.R_putg HO398.out ((x12_1.length : Int) : Int) (wrap64 ((rd y396 (x12_1.length : Int)) + 1))) | ((with_reducible refine gate_store (t := 2) (p := 56) rfl ?_); refine store_event (t := 2) (p := 56) (v := ?vo_w44) (w1 := (w41.setCell ⟨go31, ((x12_1.length : Int) : Int).toNat, none⟩ (.int .i64 (wrap64 ((rd y396 (x12_1.length : Int)) + 1))))) ?hg ?ho ?hn ?hr ?_; (case ho => rfl); (case hg => rfl); (case hn => rfl); (case hr => first | (go_simp; done) | (go_simp; rfl)); intro w44 hw; have hg : w41.grownBy w44 (some go31) := (by rw [hw]; exact HP43.2); have hp_ : Kd.R (Kd.int .i64) 2 w44 w.heap.size (fun _ => True) (.slice (some ⟨go31, 0, none⟩) y396.length co42) y400 := (by rw [hw, Ny400.out]; exact HP43.1); clear HP43; replace HO_31 := Aside0.mk (Kd.R_over' (v := (.slice (some ⟨go31, 0, none⟩) y396.length co42)) (by (with_reducible repeat (first | apply Kd.R_alloc | apply Kd.R_drewN | apply Kd.R_drew)); exact HO_31.out) (Kd.R_typed HO398.out) (by decide) hg); replace BK377 := Aside0.mk (blk_grown (sqO BK377.out) hg (Kd.R_ne HO398.out BK377.out (by decide))); replace BK378 := Aside0.mk (blk_grown (sqO BK378.out) hg (Kd.R_ne HO398.out BK378.out (by decide))); replace BK379 := Aside0.mk (blk_grown (sqO BK379.out) hg (Kd.R_ne HO398.out BK379.out (by decide))); replace BK391 := Aside0.mk (blk_grown (sqO BK391.out) hg (Kd.R_ne HO398.out BK391.out (by decide))); replace HO395 := Aside0.mk (Kd.R_over' (v := (.slice (some ⟨go31, 0, none⟩) y396.length co42)) (by (with_reducible repeat (first | apply Kd.R_alloc | apply Kd.R_drewN | apply Kd.R_drew)); exact HO395.out) (Kd.R_typed HO398.out) (by decide) hg); replace HO398 := Aside0.mk (hp_); replace HB := Aside0.mk ((by rw [hw]; exact below_set (HB.out) GB31.out : Below w.heap.size w w44)); clear hg hw hp_))
            go_roundg k1
            case measure => have := HK1.out; omega
            case rel => exact ⟨(y393), (y400), (wrap64 (x33_1 + 1)), (by first | rfl | (simp; done) | (simp [*]; done)), H', ⟨by have := HK1.out; omega⟩, ⟨by (with_reducible repeat (first | apply Kd.R_alloc | apply Kd.R_drewN | apply Kd.R_drew)); exact Kd.R_mono HO395.out (fun _ hk => hk.1)⟩, ⟨by (with_reducible repeat (first | apply Kd.R_alloc | apply Kd.R_drewN | apply Kd.R_drew)); exact HO398.out⟩, ⟨by (with_reducible repeat (first | apply Kd.R_alloc | apply Kd.R_drewN | apply Kd.R_drew)); exact Kd.R_mono HO_31.out (fun _ hk => hk.2)⟩, ⟨by (with_reducible repeat (first | refine blk_drewN ?_ _ | refine blk_drew ?_ | refine blk_alloc ?_ _)); exact BK377.out⟩, ⟨by (with_reducible repeat (first | refine blk_drewN ?_ _ | refine blk_drew ?_ | refine blk_alloc ?_ _)); exact BK378.out⟩, ⟨by (with_reducible repeat (first | refine blk_drewN ?_ _ | refine blk_drew ?_ | refine blk_alloc ?_ _)); exact BK379.out⟩, ⟨by repeat (first | (with_reducible first | exact HB.out | apply below_alloc | apply pw_below_drewN | apply below_drew1 | refine below_set ?_ GE377.out | refine below_set ?_ GE378.out | refine below_set ?_ GE379.out | refine below_set ?_ GE391.out) | exact HB.out)⟩⟩
           ·rw [if_neg c30] at H
            exact absurd H (by simp)
          ·rw [if_neg c29] at H
           exact absurd H (by simp)
         ·rw [if_neg c28] at H
          exact absurd H (by simp)
        ·rw [if_neg c27] at H
         exact absurd H (by simp)
       ·rw [if_neg c26] at H
        have c26b0 : decide (t392 < 0) = false := decide_eq_false c26
        clear c26
        by_cases c45 : 0 ≤ t392
        ·rw [if_pos c45] at H
         have c45b0 : decide (0 ≤ t392) = true := decide_eq_true c45
         clear c45
         by_cases c46 : t392 < (x13_1.length : Int)
         ·rw [if_pos c46] at H
          have c46b0 : decide (t392 < (x13_1.length : Int)) = true := decide_eq_true c46
          clear c46
          obtain ⟨y402, hy402⟩ : ∃ y_ : List Int, y_ = (x13_1.set (t392 : Int).toNat (wrap64 ((rd x13_1 t392) + 1))) := ⟨_, rfl⟩
          replace H : (impl_HoursAtEach.l0 k1 x12_1 y402 t387 (t387.length : Int) (wrap64 (x33_1 + 1))) = some (r1, r2, r3) := by first | (rw [hy402]; with_reducible exact H) | (have H2_ := (Option.bind_some _ _).symm.trans H; rw [hy402]; with_reducible exact H2_) | (have H2_ := (Option.bind_some _ _).symm.trans H; with_reducible exact H2_) | with_reducible exact H | (rw [hy402]; exact H) | exact H
          have Ny402 := Aside0.mk hy402
          clear hy402
          have H' := Aside0.mk H
          clear H
          have p390 : 0 ≤ (x33_1 : Int) := of_decide_eq_true (by first | (with_reducible assumption) | assumption)
          have q390 : x33_1 < (t387.length : Int) := of_decide_eq_true (by first | (with_reducible assumption) | assumption)
          obtain ⟨ad390, e390, hx390_0, hx390_1⟩ := at_T42 (Kd.R_reads' HO_31.out).2.2 x33_1 p390 q390
          cases e390
          replace p390 := eq_true p390
          replace q390 := eq_true q390
          go_wp2_with (first | ((with_reducible refine gate_dst (N := 15) rfl ?_); refine box_event ?hg (N := 15) ?hd (cs := #[.int .i8 0, .int .i8 0]) (t := 42) ?hr ?_; (case hd => rfl); (case hg => rfl); (case hr => first | (go_simp; done) | (go_simp; rfl)); intro gb391 hg w48 hbox hb; replace HO_12 := Aside0.mk (Kd.R_below (Kd.R_elderB (by (with_reducible repeat (first | apply Kd.R_alloc | apply Kd.R_drewN | apply Kd.R_drew)); exact HO_12.out) gb391 (Nat.le_of_eq hg.symm)) hb); replace HO_13 := Aside0.mk (sqR HO_13.out hb); replace HO_31 := Aside0.mk (Kd.R_below (Kd.R_elderB (by (with_reducible repeat (first | apply Kd.R_alloc | apply Kd.R_drewN | apply Kd.R_drew)); exact HO_31.out) gb391 (Nat.le_of_eq hg.symm)) hb); have BK391 := Aside0.mk (hbox); have GW391 := Aside0.mk (sqS HB.out hg); replace HB := Aside0.mk (sqH HB.out hb); have GE391 := GW391; have NB377_391 := Aside0.mk (sqN BK377.out hg); replace BK377 := Aside0.mk (sqB BK377.out hb); have NB391_377 := Aside0.mk (Ne.symm NB377_391.out); have NB378_391 := Aside0.mk (sqN BK378.out hg); replace BK378 := Aside0.mk (sqB BK378.out hb); have NB391_378 := Aside0.mk (Ne.symm NB378_391.out); have NB379_391 := Aside0.mk (sqN BK379.out hg); replace BK379 := Aside0.mk (sqB BK379.out hb); have NB391_379 := Aside0.mk (Ne.symm NB379_391.out); clear hb hbox hg; have hnb49 := NB391_377.out; have hnc49 := NB377_391.out; have hnb50 := NB391_378.out; have hnc50 := NB378_391.out; have hnb51 := NB391_379.out; have hnc51 := NB379_391.out; obtain ⟨hcz52_0, hcz52_1⟩ := sqC2 BK391.out; obtain ⟨hfz52_0, hfz52_1⟩ := sqF2 BK391.out; obtain ⟨Ao53, co53, eo53⟩ := Kd.R_slice HO_12.out; subst eo53) | ((with_reducible refine gate_callee (f := 47) rfl ?_); refine goesL_ (some 39) rfl rfl Try.func47 (by kernel_rfl) rfl #[.slice Ao53 x12_1.length co53, .agg #[.int .i8 ((rd_T42 t387 x33_1).f0), .int .i8 ((rd_T42 t387 x33_1).f1)]] rfl (by (try simp only [List.map_toArray, List.map_cons, List.map_nil]); first | done | rfl | (simp only [List.length_drop, List.length_take]; rfl)) ?_; (with_reducible refine (impl_Place.calls k1 _ _ x12_1 ((rd_T42 t387 x33_1).f0) ((rd_T42 t387 x33_1).f1) t392 _ ?side1 ?side2 A25.out).mono ?_); (case side1 => refine (Kd.R_reads' (e := 42) (base := w.heap.size) (ok := fun k_ => (some k_ ≠ (.slice (some ad390) t387.length co21 : Value).ownBlock ∧ k_ ≠ gb391)) (n := x12_1.length) (c := co53) ?_).2.2; exact (by (with_reducible repeat (first | apply Kd.R_alloc | apply Kd.R_drewN | apply Kd.R_drew)); exact (Kd.R_mono (Kd.R_far (p := ⟨gb391, 1, none⟩) (Kd.R_far (p := ⟨gb391, 0, none⟩) (Kd.R_mono HO_12.out (fun k_ hk => (⟨hk, hk.2⟩ : _ ∧ k_ ≠ gb391))) (fun _ hk => hk.2) (.int .i8 ((rd_T42 t387 x33_1).f0))) (fun _ hk => hk.2) (.int .i8 ((rd_T42 t387 x33_1).f1))) (fun _ h_ => h_.1)))); (case side2 => exact (Kd.R_reads' HO_12.out).2.1); rintro e w54 ⟨rfl, hb⟩; refine ⟨_, rfl, ?_⟩; replace HO_12 := Aside0.mk (Kd.R_below (by (with_reducible repeat (first | apply Kd.R_alloc | apply Kd.R_drewN | apply Kd.R_drew)); exact (Kd.R_mono (Kd.R_far (p := ⟨gb391, 1, none⟩) (Kd.R_far (p := ⟨gb391, 0, none⟩) (Kd.R_mono HO_12.out (fun k_ hk => (⟨hk, hk.2⟩ : _ ∧ k_ ≠ gb391))) (fun _ hk => hk.2) (.int .i8 ((rd_T42 t387 x33_1).f0))) (fun _ hk => hk.2) (.int .i8 ((rd_T42 t387 x33_1).f1))) (fun _ h_ => h_.1))) hb); replace HO_13 := Aside0.mk (Kd.R_below (by (with_reducible repeat (first | apply Kd.R_alloc | apply Kd.R_drewN | apply Kd.R_drew)); exact (Kd.R_mono (Kd.R_far (p := ⟨gb391, 1, none⟩) (Kd.R_far (p := ⟨gb391, 0, none⟩) (Kd.R_types HO_13.out BK391.out (by decide)) (fun _ hk => hk.2) (.int .i8 ((rd_T42 t387 x33_1).f0))) (fun _ hk => hk.2) (.int .i8 ((rd_T42 t387 x33_1).f1))) (fun _ h_ => h_.1))) hb); replace HO_31 := Aside0.mk (Kd.R_below (by (with_reducible repeat (first | apply Kd.R_alloc | apply Kd.R_drewN | apply Kd.R_drew)); exact (Kd.R_mono (Kd.R_far (p := ⟨gb391, 1, none⟩) (Kd.R_far (p := ⟨gb391, 0, none⟩) (Kd.R_mono HO_31.out (fun k_ hk => (⟨hk, hk.2⟩ : _ ∧ k_ ≠ gb391))) (fun _ hk => hk.2) (.int .i8 ((rd_T42 t387 x33_1).f0))) (fun _ hk => hk.2) (.int .i8 ((rd_T42 t387 x33_1).f1))) (fun _ h_ => h_.1))) hb); replace BK377 := Aside0.mk (blk_below (g := gb377) (o := .cells (a0).A 38 (0, 0)) (by (with_reducible repeat (first | refine blk_drewN ?_ _ | refine blk_drew ?_ | refine blk_alloc ?_ _)); refine blk_far ?_ NB377_391.out _; (with_reducible repeat (first | refine blk_drewN ?_ _ | refine blk_drew ?_ | refine blk_alloc ?_ _)); refine blk_far ?_ NB377_391.out _; (with_reducible repeat (first | refine blk_drewN ?_ _ | refine blk_drew ?_ | refine blk_alloc ?_ _)); exact BK377.out) hb); replace BK378 := Aside0.mk (blk_below (g := gb378) (o := .cells (a1).A 40 (0, 0)) (by (with_reducible repeat (first | refine blk_drewN ?_ _ | refine blk_drew ?_ | refine blk_alloc ?_ _)); refine blk_far ?_ NB378_391.out _; (with_reducible repeat (first | refine blk_drewN ?_ _ | refine blk_drew ?_ | refine blk_alloc ?_ _)); refine blk_far ?_ NB378_391.out _; (with_reducible repeat (first | refine blk_drewN ?_ _ | refine blk_drew ?_ | refine blk_alloc ?_ _)); exact BK378.out) hb); replace BK379 := Aside0.mk (blk_below (g := gb379) (o := .cells #[.int .i8 a2_0, .int .i8 a2_1, .int .i8 a2_2, .int .i8 a2_3, .int .i8 a2_4, .int .i8 a2_5] 44 (0, 0)) (by (with_reducible repeat (first | refine blk_drewN ?_ _ | refine blk_drew ?_ | refine blk_alloc ?_ _)); refine blk_far ?_ NB379_391.out _; (with_reducible repeat (first | refine blk_drewN ?_ _ | refine blk_drew ?_ | refine blk_alloc ?_ _)); refine blk_far ?_ NB379_391.out _; (with_reducible repeat (first | refine blk_drewN ?_ _ | refine blk_drew ?_ | refine blk_alloc ?_ _)); exact BK379.out) hb); replace BK391 := Aside0.mk (blk_below (g := gb391) (o := .cells #[.int .i8 ((rd_T42 t387 x33_1).f0), .int .i8 ((rd_T42 t387 x33_1).f1)] 42 (0, 0)) (by (with_reducible repeat (first | refine blk_drewN ?_ _ | refine blk_drew ?_ | refine blk_alloc ?_ _)); refine blk_put (cs := #[.int .i8 ((rd_T42 t387 x33_1).f0), .int .i8 0]) ?_ 1 _ rfl; (with_reducible repeat (first | refine blk_drewN ?_ _ | refine blk_drew ?_ | refine blk_alloc ?_ _)); refine blk_put (cs := #[.int .i8 0, .int .i8 0]) ?_ 0 _ rfl; (with_reducible repeat (first | refine blk_drewN ?_ _ | refine blk_drew ?_ | refine blk_alloc ?_ _)); exact BK391.out) hb); replace HB := Aside0.mk (sqH HB.out hb); (try clear hb); (try clear hb2); (try clear hk); (try clear hi); obtain ⟨Ao55, co55, eo55⟩ := Kd.R_slice HO_13.out; subst eo55; have p401 : 0 ≤ (t392 : Int) := of_decide_eq_true (by first | (with_reducible assumption) | assumption); have q401 : t392 < (x13_1.length : Int) := of_decide_eq_true (by first | (with_reducible assumption) | assumption); obtain ⟨ad401, e401, hx401_0⟩ := Kd.at_int (Kd.R_reads' HO_13.out).2.2 t392 p401 q401; cases e401; replace p401 := eq_true p401; replace q401 := eq_true q401; have p47 : 0 ≤ (t392 : Int) := of_decide_eq_true (by first | (with_reducible assumption) | assumption); have q47 : (t392 : Int) < ((x13_1.length : Int) : Int) := of_decide_eq_true (by first | (with_reducible assumption) | assumption); obtain ⟨go47, co47, eo47, gb47, gl47, cl47, HG47⟩ := Kd.R_form HO_13.out (by omega); (first | cases eo47 | (injection eo47 with ea_ en_ ec_; (first | subst ea_ | (injection ea_ with ea_; subst ea_)); subst ec_; clear en_)); have GB47 := Aside0.mk gb47; have GG47 := Aside0.mk HG47; clear gb47 gl47 HG47; (first | simp only [add_plain] at hx401_0 | skip); obtain ⟨hx47_0, hf47_0⟩ := Kd.R_celln 0 HO_13.out (t392 : Int) p47 q47; replace p47 := eq_true p47; replace q47 := eq_true q47; obtain ⟨hy56_, hz56_⟩ := Kd.R_celln 0 HO_13.out (t392 : Int) (of_decide_eq_true (by first | (with_reducible assumption) | assumption)) (of_decide_eq_true (by first | (with_reducible assumption) | assumption)); have HP56 := Kd.R_putg HO_13.out (t392 : Int) (wrap64 ((rd x13_1 t392) + 1))) | ((with_reducible refine gate_store (t := 2) (p := 56) rfl ?_); refine store_event (t := 2) (p := 56) (v := ?vo_w57) (w1 := (w54.setCell ⟨go47, (t392 : Int).toNat, none⟩ (.int .i64 (wrap64 ((rd x13_1 t392) + 1))))) ?hg ?ho ?hn ?hr ?_; (case ho => rfl); (case hg => rfl); (case hn => rfl); (case hr => first | (go_simp; done) | (go_simp; rfl)); intro w57 hw; have hg : w54.grownBy w57 (some go47) := (by rw [hw]; exact HP56.2); have hp_ : Kd.R (Kd.int .i64) 2 w57 w.heap.size (fun _ => True) (.slice (some ⟨go47, 0, none⟩) x13_1.length co55) y402 := (by rw [hw, Ny402.out]; exact HP56.1); clear HP56; replace HO_12 := Aside0.mk (Kd.R_over' (v := (.slice (some ⟨go47, 0, none⟩) x13_1.length co55)) (by (with_reducible repeat (first | apply Kd.R_alloc | apply Kd.R_drewN | apply Kd.R_drew)); exact HO_12.out) (Kd.R_typed HO_13.out) (by decide) hg); replace HO_31 := Aside0.mk (Kd.R_over' (v := (.slice (some ⟨go47, 0, none⟩) x13_1.length co55)) (by (with_reducible repeat (first | apply Kd.R_alloc | apply Kd.R_drewN | apply Kd.R_drew)); exact HO_31.out) (Kd.R_typed HO_13.out) (by decide) hg); replace BK377 := Aside0.mk (blk_grown (sqO BK377.out) hg (Kd.R_ne HO_13.out BK377.out (by decide))); replace BK378 := Aside0.mk (blk_grown (sqO BK378.out) hg (Kd.R_ne HO_13.out BK378.out (by decide))); replace BK379 := Aside0.mk (blk_grown (sqO BK379.out) hg (Kd.R_ne HO_13.out BK379.out (by decide))); replace BK391 := Aside0.mk (blk_grown (sqO BK391.out) hg (Kd.R_ne HO_13.out BK391.out (by decide))); replace HO_13 := Aside0.mk (hp_); replace HB := Aside0.mk ((by rw [hw]; exact below_set (HB.out) GB47.out : Below w.heap.size w w57)); clear hg hw hp_))
          go_roundg k1
          case measure => have := HK1.out; omega
          case rel => exact ⟨(x12_1), (y402), (wrap64 (x33_1 + 1)), (by first | rfl | (simp; done) | (simp [*]; done)), H', ⟨by have := HK1.out; omega⟩, ⟨by (with_reducible repeat (first | apply Kd.R_alloc | apply Kd.R_drewN | apply Kd.R_drew)); exact Kd.R_mono HO_12.out (fun _ hk => hk.1)⟩, ⟨by (with_reducible repeat (first | apply Kd.R_alloc | apply Kd.R_drewN | apply Kd.R_drew)); exact HO_13.out⟩, ⟨by (with_reducible repeat (first | apply Kd.R_alloc | apply Kd.R_drewN | apply Kd.R_drew)); exact Kd.R_mono HO_31.out (fun _ hk => hk.1)⟩, ⟨by (with_reducible repeat (first | refine blk_drewN ?_ _ | refine blk_drew ?_ | refine blk_alloc ?_ _)); exact BK377.out⟩, ⟨by (with_reducible repeat (first | refine blk_drewN ?_ _ | refine blk_drew ?_ | refine blk_alloc ?_ _)); exact BK378.out⟩, ⟨by (with_reducible repeat (first | refine blk_drewN ?_ _ | refine blk_drew ?_ | refine blk_alloc ?_ _)); exact BK379.out⟩, ⟨by repeat (first | (with_reducible first | exact HB.out | apply below_alloc | apply pw_below_drewN | apply below_drew1 | refine below_set ?_ GE377.out | refine below_set ?_ GE378.out | refine below_set ?_ GE379.out | refine below_set ?_ GE391.out) | exact HB.out)⟩⟩
         ·rw [if_neg c46] at H
          exact absurd H (by simp)
        ·rw [if_neg c45] at H
         exact absurd H (by simp)
      ·rw [if_neg c24] at H
       exact absurd H (by simp)
     ·rw [if_neg c23] at H
      exact absurd H (by simp)
    ·rw [if_neg c22] at H
     have c22b0 : decide (x33_1 < (t387.length : Int)) = false := decide_eq_false c22
     clear c22
     simp only [Option.some.injEq, Prod.mk.injEq] at H
     obtain ⟨rfl, rfl, rfl⟩ := H
     go_wp2
     go_ret3
     exact ⟨_, _, by first | rfl | (simp [errW_none, errW_some] <;> rfl) | (simp [*, errW_none, errW_some] <;> rfl), by (with_reducible repeat (first | apply Kd.R_alloc | apply Kd.R_drewN | apply Kd.R_drew)); exact Kd.R_mono HO_12.out (fun _ hk => trivial), by (with_reducible repeat (first | apply Kd.R_alloc | apply Kd.R_drewN | apply Kd.R_drew)); exact HO_13.out, by repeat (first | (with_reducible first | exact HB.out | apply below_alloc | apply pw_below_drewN | apply below_drew1 | refine below_set ?_ GE377.out | refine below_set ?_ GE378.out | refine below_set ?_ GE379.out) | exact HB.out)⟩
 ·rw [if_neg c6] at H
  have c6b0 : (t380 == 0) = false := beq_eq_false_iff_ne.mpr c6
  have c6b1 : (t380 != 0) = true := bne_iff_ne.mpr c6
  simp only [Option.some.injEq, Prod.mk.injEq] at H
  obtain ⟨rfl, rfl, rfl⟩ := H
  go_enter Try.func25, Try.ntmps25
  go_wp2_with (first | ((with_reducible refine gate_dst (N := 4) rfl ?_); refine box_event ?hg (N := 4) ?hd (cs := (a0).A) (t := 38) ?hr ?_; (case hd => rfl); (case hg => rfl); (case hr => first | exact AR.run_box_row rfl rfl | (go_simp; done) | (go_simp; rfl)); intro gb377 hg w58 hbox hb; have BK377 := Aside0.mk (hbox); have GW377 := Aside0.mk (sqS HB.out hg); replace HB := Aside0.mk (sqH HB.out hb); have GE377 := GW377; clear hb hbox hg) | ((with_reducible refine gate_dst (N := 5) rfl ?_); refine box_event ?hg (N := 5) ?hd (cs := (a1).A) (t := 40) ?hr ?_; (case hd => rfl); (case hg => rfl); (case hr => first | exact AR.run_box_row rfl rfl | (go_simp; done) | (go_simp; rfl)); intro gb378 hg w59 hbox hb; have BK378 := Aside0.mk (hbox); have GW378 := Aside0.mk (sqS HB.out hg); replace HB := Aside0.mk (sqH HB.out hb); have GE378 := GW378; have NB377_378 := Aside0.mk (sqN BK377.out hg); replace BK377 := Aside0.mk (sqB BK377.out hb); have NB378_377 := Aside0.mk (Ne.symm NB377_378.out); clear hb hbox hg) | ((with_reducible refine gate_dst (N := 6) rfl ?_); refine box_event ?hg (N := 6) ?hd (cs := #[.int .i8 a2_0, .int .i8 a2_1, .int .i8 a2_2, .int .i8 a2_3, .int .i8 a2_4, .int .i8 a2_5]) (t := 44) ?hr ?_; (case hd => rfl); (case hg => rfl); (case hr => first | (go_simp; done) | (go_simp; rfl)); intro gb379 hg w60 hbox hb; have BK379 := Aside0.mk (hbox); have GW379 := Aside0.mk (sqS HB.out hg); replace HB := Aside0.mk (sqH HB.out hb); have GE379 := GW379; have NB377_379 := Aside0.mk (sqN BK377.out hg); replace BK377 := Aside0.mk (sqB BK377.out hb); have NB379_377 := Aside0.mk (Ne.symm NB377_379.out); have NB378_379 := Aside0.mk (sqN BK378.out hg); replace BK378 := Aside0.mk (sqB BK378.out hb); have NB379_378 := Aside0.mk (Ne.symm NB378_379.out); clear hb hbox hg) | ((with_reducible refine gate_dst (N := 17) rfl ?_); (with_reducible refine AR.gate_load (t := 38) rfl ?_); (try refine gate_guard (by rfl) ?_); refine AR.wpList_load_blk rfl 38 _ rfl gb377 rfl (a0).A _ (sqO BK377.out) Try.underlying38 rfl (szO38 _) ?_) | ((with_reducible refine gate_dst (N := 18) rfl ?_); (with_reducible refine AR.gate_load (t := 40) rfl ?_); (try refine gate_guard (by rfl) ?_); refine AR.wpList_load_blk rfl 40 _ rfl gb378 rfl (a1).A _ (sqO BK378.out) Try.underlying40 rfl (szO40 _) ?_; have hnb61 := NB379_377.out; have hnc61 := NB377_379.out; have hnb62 := NB379_378.out; have hnc62 := NB378_379.out; obtain ⟨hcz63_0, hcz63_1, hcz63_2, hcz63_3, hcz63_4, hcz63_5⟩ := sqC BK379.out; obtain ⟨hfz63_0, hfz63_1, hfz63_2, hfz63_3, hfz63_4, hfz63_5⟩ := sqF6 BK379.out) | ((with_reducible refine gate_callee (f := 40) rfl ?_); refine goesL_ (some 21) rfl rfl Try.func40 (by kernel_rfl) rfl #[VO38 a0, VO40 a1, .agg #[.int .i8 a2_0, .int .i8 a2_1, .int .i8 a2_2, .int .i8 a2_3, .int .i8 a2_4, .int .i8 a2_5], .slice A3 l3.length c3] rfl (by (try simp only [List.map_toArray, List.map_cons, List.map_nil]); first | done | rfl | (simp only [List.length_drop, List.length_take]; rfl)) ?_; (with_reducible refine (impl_driftCode.calls k a0 a1 a2_0 a2_1 a2_2 a2_3 a2_4 a2_5 _ _ l3 t380 _ ?side1 ?side2 A5.out).mono ?_); (case side1 => repeat (first | exact (Kd.C_below HR3.out HB.out) | (with_reducible refine Kd.C_alloc ?_ _) | (with_reducible refine Kd.C_drewN ?_ _) | (with_reducible refine Kd.C_drew ?_))); (case side2 => exact HC3.out); rintro e w64 ⟨rfl, hb⟩; refine ⟨_, rfl, ?_⟩; replace BK377 := Aside0.mk (sqB BK377.out hb); replace BK378 := Aside0.mk (sqB BK378.out hb); replace BK379 := Aside0.mk (sqB BK379.out hb); replace HB := Aside0.mk (sqH HB.out hb); (try clear hb); (try clear hb2); (try clear hk); (try clear hi)))
  go_ret3
  exact ⟨_, _, by first | rfl | (simp [errW_none, errW_some] <;> rfl) | (simp [*, errW_none, errW_some] <;> rfl), by first | exact Kd.R_nil _ _ _ _ _ | exact Kd.N_nil _ _ _ _ _ | exact Kd.V_nil _ _ _ _ _ | exact Kd.Q_nil _ _ _ _ _ | exact Kd.S_nil _ _ _ _ _, by first | exact Kd.R_nil _ _ _ _ _ | exact Kd.N_nil _ _ _ _ _ | exact Kd.V_nil _ _ _ _ _ | exact Kd.Q_nil _ _ _ _ _ | exact Kd.S_nil _ _ _ _ _, by repeat (first | (with_reducible first | exact HB.out | apply below_alloc | apply pw_below_drewN | apply below_drew1 | refine below_set ?_ GE377.out | refine below_set ?_ GE378.out | refine below_set ?_ GE379.out) | exact HB.out)⟩
end Go.Proofs.Ytmhmfhdmeedcfaa.G
end
section
namespace Go.Proofs.Ytmhmfhdmeedcfaa.G
open Go.RowKit Go.Proofs.YtmhmfhdmeedcfaaW.PrintWords Go.Proofs.YtmhmfhdmeedcfaaW.PrintLast Go.Proofs.YtmhmfhdmeedcfaaW.PrintMore
attribute [local go_sem] max2_int min2_int max_two min_two max_three min_three max_four min_four   -- for this text's walks alone
set_option linter.unusedVariables false
set_option linter.unusedSimpArgs false
def laws_eqInt64S.l0 : Nat → List Int → List Int → Int → Option (Bool)
 | 0, _, _, _ => none
 | k + 1, x0, x1, x5 => if x5 < (x0.length : Int) then (if 0 ≤ x5 then (if x5 < (x1.length : Int) then (if (rd x0 x5) = (rd x1 x5) then (laws_eqInt64S.l0 k x0 x1 (wrap64 (x5 + 1))) else (some false)) else (none)) else (none)) else (some true)
def laws_eqInt64S.f (k : Nat) (l0 : List Int) (l1 : List Int) : Option (Bool) := if (l0.length : Int) = (l1.length : Int) then (laws_eqInt64S.l0 k l0 l1 0) else (some false)
set_option maxHeartbeats 8000000 in
set_option maxRecDepth 100000 in
theorem laws_eqInt64S.calls (k : Nat) (A0 : Option Addr) (c0 : Nat) (l0 : List Int) (A1 : Option Addr) (c1 : Nat) (l1 : List Int) (r : Bool) (w : World) (hr0 : Kd.C (Kd.int .i64) w A0 l0.length l0) (hc0 : l0.length ≤ c0) (hr1 : Kd.C (Kd.int .i64) w A1 l1.length l1) (hc1 : l1.length ≤ c1) (h : laws_eqInt64S.f k l0 l1 = some r) :
  Calls Try.prog 26 #[.slice A0 l0.length c0, .slice A1 l1.length c1] w fun e w' => e = .returned (.bool r) ∧ Drawn0 w w' := by
 have HR0 := Aside0.mk hr0
 have HC0 := Aside0.mk hc0
 clear hr0 hc0
 have HR1 := Aside0.mk hr1
 have HC1 := Aside0.mk hc1
 clear hr1 hc1
 have H : (if (l0.length : Int) = (l1.length : Int) then (laws_eqInt64S.l0 k l0 l1 0) else (some false)) = some r := h
 clear h
 by_cases c3 : (l0.length : Int) = (l1.length : Int)
 ·rw [if_pos c3] at H
  have c3b0 : ((l0.length : Int) == (l1.length : Int)) = true := beq_iff_eq.mpr c3
  have c3b1 : ((l0.length : Int) != (l1.length : Int)) = false := bne_eq_false_iff_eq.mpr c3
  have c3b2 : (l0.length == l1.length) = true := by first | simpa using c3 | (simp at c3 ⊢; omega)
  clear c3
  have H' := Aside0.mk H
  clear H
  go_enter Try.func26, Try.ntmps26
  go_wp2
  repeat (go_quiet (fail); try go_wp2)
  go_loopg [5] k (fun kq v5 w' => ∃ (x5_1 : Int), v5 = .int .i64 x5_1 ∧ Aside0 (laws_eqInt64S.l0 kq l0 l1 x5_1 = some r) ∧ Aside0 (kq ≤ k) ∧ Drawn0 w w')
  case atStart => exact ⟨(0), (by first | rfl | (simp; done) | (simp [*]; done)), H', ⟨Nat.le_refl _⟩, by repeat (first | exact Drawn0.refl _ | apply Drawn0.step)⟩
  case round =>
   clear H'
   try clear c1
   try clear c2
   try clear p2
   try clear c3
   try clear c3b0
   try clear c3b1
   try clear c3b2
   obtain ⟨x5_1, rfl, HA, HK1, ⟨m1, rfl⟩⟩ := hrel
   cases gk with
   | zero => exact absurd HA.out (by simp [laws_eqInt64S.l0])
   | succ k1 =>
    have H := HA.out
    clear HA
    simp only [laws_eqInt64S.l0] at H
    by_cases c4 : x5_1 < (l0.length : Int)
    ·rw [if_pos c4] at H
     have c4b0 : decide (x5_1 < (l0.length : Int)) = true := decide_eq_true c4
     clear c4
     by_cases c5 : 0 ≤ x5_1
     ·rw [if_pos c5] at H
      have c5b0 : decide (0 ≤ x5_1) = true := decide_eq_true c5
      clear c5
      by_cases c6 : x5_1 < (l1.length : Int)
      ·rw [if_pos c6] at H
       have c6b0 : decide (x5_1 < (l1.length : Int)) = true := decide_eq_true c6
       clear c6
       by_cases c7 : (rd l0 x5_1) = (rd l1 x5_1)
       ·rw [if_pos c7] at H
        have c7b0 : ((rd l0 x5_1) == (rd l1 x5_1)) = true := beq_iff_eq.mpr c7
        have c7b1 : ((rd l0 x5_1) != (rd l1 x5_1)) = false := bne_eq_false_iff_eq.mpr c7
        clear c7
        have H' := Aside0.mk H
        clear H
        have p403 : 0 ≤ (x5_1 : Int) := of_decide_eq_true (by first | (with_reducible assumption) | assumption)
        have q403 : x5_1 < (l0.length : Int) := of_decide_eq_true (by first | (with_reducible assumption) | assumption)
        obtain ⟨ad403, e403, hx403_0⟩ := Kd.at_int HR0.out x5_1 p403 q403
        cases e403
        replace p403 := eq_true p403
        replace q403 := eq_true q403
        have p404 : 0 ≤ (x5_1 : Int) := of_decide_eq_true (by first | (with_reducible assumption) | assumption)
        have q404 : x5_1 < (l1.length : Int) := of_decide_eq_true (by first | (with_reducible assumption) | assumption)
        obtain ⟨ad404, e404, hx404_0⟩ := Kd.at_int HR1.out x5_1 p404 q404
        cases e404
        replace p404 := eq_true p404
        replace q404 := eq_true q404
        go_wp2
        repeat (go_quiet (fail); try go_wp2)
        go_roundg k1
        case measure => have := HK1.out; omega
        case rel => exact ⟨(wrap64 (x5_1 + 1)), (by first | rfl | (simp; done) | (simp [*]; done)), H', ⟨by have := HK1.out; omega⟩, by repeat (first | exact Drawn0.refl _ | apply Drawn0.step)⟩
       ·rw [if_neg c7] at H
        have c7b0 : ((rd l0 x5_1) == (rd l1 x5_1)) = false := beq_eq_false_iff_ne.mpr c7
        have c7b1 : ((rd l0 x5_1) != (rd l1 x5_1)) = true := bne_iff_ne.mpr c7
        obtain rfl := Option.some.inj H
        have p403 : 0 ≤ (x5_1 : Int) := of_decide_eq_true (by first | (with_reducible assumption) | assumption)
        have q403 : x5_1 < (l0.length : Int) := of_decide_eq_true (by first | (with_reducible assumption) | assumption)
        obtain ⟨ad403, e403, hx403_0⟩ := Kd.at_int HR0.out x5_1 p403 q403
        cases e403
        replace p403 := eq_true p403
        replace q403 := eq_true q403
        have p404 : 0 ≤ (x5_1 : Int) := of_decide_eq_true (by first | (with_reducible assumption) | assumption)
        have q404 : x5_1 < (l1.length : Int) := of_decide_eq_true (by first | (with_reducible assumption) | assumption)
        obtain ⟨ad404, e404, hx404_0⟩ := Kd.at_int HR1.out x5_1 p404 q404
        cases e404
        replace p404 := eq_true p404
        replace q404 := eq_true q404
        go_wp2
        repeat (go_quiet (fail); try go_wp2)
        go_ret
        exact ⟨by first | rfl | (simp; done) | (simp [*]; done), by repeat (first | exact Drawn0.refl _ | apply Drawn0.step)⟩
      ·rw [if_neg c6] at H
       exact absurd H (by simp)
     ·rw [if_neg c5] at H
      exact absurd H (by simp)
    ·rw [if_neg c4] at H
     have c4b0 : decide (x5_1 < (l0.length : Int)) = false := decide_eq_false c4
     clear c4
     obtain rfl := Option.some.inj H
     go_wp2
     repeat (go_quiet (fail); try go_wp2)
     go_ret
     exact ⟨by first | rfl | (simp; done) | (simp [*]; done), by repeat (first | exact Drawn0.refl _ | apply Drawn0.step)⟩
 ·rw [if_neg c3] at H
  have c3b0 : ((l0.length : Int) == (l1.length : Int)) = false := beq_eq_false_iff_ne.mpr c3
  have c3b1 : ((l0.length : Int) != (l1.length : Int)) = true := bne_iff_ne.mpr c3
  have c3b2 : (l0.length == l1.length) = false := by first | simpa using c3 | (simp at c3 ⊢; omega)
  obtain rfl := Option.some.inj H
  go_enter Try.func26, Try.ntmps26
  go_wp2
  repeat (go_quiet (fail); try go_wp2)
  go_ret
  exact ⟨by first | rfl | (simp; done) | (simp [*]; done), by repeat (first | exact Drawn0.refl _ | apply Drawn0.step)⟩
end Go.Proofs.Ytmhmfhdmeedcfaa.G
end
section
namespace Go.Proofs.Ytmhmfhdmeedcfaa.G
open Go.RowKit Go.Proofs.YtmhmfhdmeedcfaaW.PrintWords Go.Proofs.YtmhmfhdmeedcfaaW.PrintLast Go.Proofs.YtmhmfhdmeedcfaaW.PrintMore
attribute [local go_sem] max2_int min2_int max_two min_two max_three min_three max_four min_four   -- for this text's walks alone
set_option linter.unusedVariables false
set_option linter.unusedSimpArgs false
def laws_markInt64S.l0 : Nat → List Int → Int → Int → Option (Int × List Int)
 | 0, _, _, _ => none
 | k + 1, x0, x1, x5 => if x5 < (x0.length : Int) then (if 0 ≤ x5 then (laws_markInt64S.l0 k (x0.set (x5 : Int).toNat x1) (wrap64 (x1 + 1)) (wrap64 (x5 + 1))) else (none)) else (some (x1, x0))
def laws_markInt64S.f (k : Nat) (l0 : List Int) (a1 : Int) : Option (Int × List Int) := laws_markInt64S.l0 k l0 a1 0
set_option maxHeartbeats 8000000 in
set_option maxRecDepth 100000 in
theorem laws_markInt64S.calls (k : Nat) (P0_ : Nat → Prop) (u9000_ : Value) (l0 : List Int) (a1 : Int) (r1 : Int) (r2 : List Int) (w0 w : World) (hB : Below w0.heap.size w0 w) (ho0 : Kd.R (Kd.int .i64) 2 w w0.heap.size P0_ u9000_ l0) (h : laws_markInt64S.f k l0 a1 = some (r1, r2)) :
  Calls Try.prog 27 #[u9000_, .int .i64 a1] w fun e w' => e = .returned (.int .i64 r1) ∧ Kd.R (Kd.int .i64) 2 w' w0.heap.size (fun k_ => (P0_ k_ ∨ w.heap.size ≤ k_)) u9000_ r2 ∧ Below w0.heap.size w0 w' ∧ Kept w w' (fun k_ => P0_ k_) := by
 have HO0 := Aside0.mk (show Kd.R (Kd.int .i64) 2 w w0.heap.size (fun k_ => (P0_ k_ ∨ w.heap.size ≤ k_)) u9000_ l0 from Kd.R_mono ho0 (fun k_ hk => (.inl hk)))
 have HK := Aside0.mk (Kept.refl w (fun k_ => P0_ k_))
 have HW0 := Aside0.mk hB.size
 have HB := Aside0.mk hB
 clear hB
 have H : (laws_markInt64S.l0 k l0 a1 0) = some (r1, r2) := h
 clear h
 have H' := Aside0.mk H
 clear H
 go_enter Try.func27, Try.ntmps27
 go_wp2
 go_loopg [1, 5] k (fun kq v1 v5 w' => ∃ (x0_1 : List Int) (x1_1 : Int) (x5_1 : Int), v1 = .int .i64 x1_1 ∧ v5 = .int .i64 x5_1 ∧ Aside0 (laws_markInt64S.l0 kq x0_1 x1_1 x5_1 = some (r1, r2)) ∧ Aside0 (kq ≤ k) ∧ Aside0 (Kd.R (Kd.int .i64) 2 w' w0.heap.size (fun k_ => (P0_ k_ ∨ w.heap.size ≤ k_)) u9000_ x0_1) ∧ Aside0 (Kept w w' (fun k_ => P0_ k_)) ∧ Aside0 (Below w0.heap.size w0 w'))
 case atStart => exact ⟨(l0), (a1), (0), (by first | rfl | (simp; done) | (simp [*]; done)), (by first | rfl | (simp; done) | (simp [*]; done)), H', ⟨Nat.le_refl _⟩, ⟨by (with_reducible repeat (first | apply Kd.R_alloc | apply Kd.R_drewN | apply Kd.R_drew)); exact HO0.out⟩, ⟨by repeat (first | (with_reducible first | exact HK.out | apply Kept.alloc | apply Kept.drewN | apply Kept.drew) | exact HK.out)⟩, ⟨by repeat (first | (with_reducible first | exact HB.out | apply below_alloc | apply pw_below_drewN | apply below_drew1) | exact HB.out)⟩⟩
 case round =>
  clear H'
  try clear c2
  try clear p2
  obtain ⟨x0_1, x1_1, x5_1, rfl, rfl, HA, HK1, HO_0, HK, HB⟩ := hrel
  cases gk with
  | zero => exact absurd HA.out (by simp [laws_markInt64S.l0])
  | succ k1 =>
   have H := HA.out
   clear HA
   simp only [laws_markInt64S.l0] at H
   by_cases c3 : x5_1 < (x0_1.length : Int)
   ·rw [if_pos c3] at H
    have c3b0 : decide (x5_1 < (x0_1.length : Int)) = true := decide_eq_true c3
    clear c3
    by_cases c4 : 0 ≤ x5_1
    ·rw [if_pos c4] at H
     have c4b0 : decide (0 ≤ x5_1) = true := decide_eq_true c4
     clear c4
     obtain ⟨y405, hy405⟩ : ∃ y_ : List Int, y_ = (x0_1.set (x5_1 : Int).toNat x1_1) := ⟨_, rfl⟩
     replace H : (laws_markInt64S.l0 k1 y405 (wrap64 (x1_1 + 1)) (wrap64 (x5_1 + 1))) = some (r1, r2) := by first | (rw [hy405]; with_reducible exact H) | (have H2_ := (Option.bind_some _ _).symm.trans H; rw [hy405]; with_reducible exact H2_) | (have H2_ := (Option.bind_some _ _).symm.trans H; with_reducible exact H2_) | with_reducible exact H | (rw [hy405]; exact H) | exact H
     have Ny405 := Aside0.mk hy405
     clear hy405
     have H' := Aside0.mk H
     clear H
     obtain ⟨Ao6, co6, eo6⟩ := Kd.R_slice HO_0.out
     subst eo6
     have p5 : 0 ≤ (x5_1 : Int) := of_decide_eq_true (by first | (with_reducible assumption) | assumption)
     have q5 : (x5_1 : Int) < ((x0_1.length : Int) : Int) := of_decide_eq_true (by first | (with_reducible assumption) | assumption)
     obtain ⟨go5, co5, eo5, gb5, gl5, cl5, HG5⟩ := Kd.R_form HO_0.out (by omega)
     (first | cases eo5 | (injection eo5 with ea_ en_ ec_; (first | subst ea_ | (injection ea_ with ea_; subst ea_)); subst ec_; clear en_))
     have GB5 := Aside0.mk gb5
     have GG5 := Aside0.mk HG5
     clear gb5 gl5 HG5
     have HMgo5 := Aside0.mk (show (P0_ go5 ∨ w.heap.size ≤ go5) from (HO_0.out.1 _ rfl))
     obtain ⟨hx5_0, hf5_0⟩ := Kd.R_celln 0 HO_0.out (x5_1 : Int) p5 q5
     replace p5 := eq_true p5
     replace q5 := eq_true q5
     have HP7 := Kd.R_putg HO_0.out (x5_1 : Int) x1_1
     go_wp2_with (first | ((with_reducible refine gate_store (t := 2) (p := 15) rfl ?_); refine store_event (t := 2) (p := 15) (v := ?vo_w8) (w1 := (wr.setCell ⟨go5, (x5_1 : Int).toNat, none⟩ (.int .i64 x1_1))) ?hg ?ho ?hn ?hr ?_; (case ho => rfl); (case hg => rfl); (case hn => rfl); (case hr => first | (go_simp; done) | (go_simp; rfl)); intro w8 hw; have hg : wr.grownBy w8 (some go5) := (by rw [hw]; exact HP7.2); have hp_ : Kd.R (Kd.int .i64) 2 w8 w0.heap.size (fun k_ => (P0_ k_ ∨ w.heap.size ≤ k_)) (.slice (some ⟨go5, 0, none⟩) x0_1.length co6) y405 := (by rw [hw, Ny405.out]; exact HP7.1); clear HP7; replace HB := Aside0.mk ((by rw [hw]; exact below_set (HB.out) GB5.out : Below w0.heap.size w0 w8)); replace HK := Aside0.mk (Kept.of_grown (S := (fun k_ => P0_ k_)) hg (by repeat (first | (with_reducible first | exact HK.out | apply Kept.alloc | apply Kept.drewN | apply Kept.drew) | exact HK.out)) (fun k_ e_ => (HO_0.out.1 k_ e_))); replace HO_0 := Aside0.mk (hp_); clear hg hw hp_))
     go_roundg k1
     case measure => have := HK1.out; omega
     case rel => exact ⟨(y405), (wrap64 (x1_1 + 1)), (wrap64 (x5_1 + 1)), (by first | rfl | (simp; done) | (simp [*]; done)), (by first | rfl | (simp; done) | (simp [*]; done)), H', ⟨by have := HK1.out; omega⟩, ⟨by (with_reducible repeat (first | apply Kd.R_alloc | apply Kd.R_drewN | apply Kd.R_drew)); exact HO_0.out⟩, ⟨by repeat (first | (with_reducible first | exact HK.out | apply Kept.alloc | apply Kept.drewN | apply Kept.drew) | exact HK.out)⟩, ⟨by repeat (first | (with_reducible first | exact HB.out | apply below_alloc | apply pw_below_drewN | apply below_drew1) | exact HB.out)⟩⟩
    ·rw [if_neg c4] at H
     exact absurd H (by simp)
   ·rw [if_neg c3] at H
    have c3b0 : decide (x5_1 < (x0_1.length : Int)) = false := decide_eq_false c3
    clear c3
    simp only [Option.some.injEq, Prod.mk.injEq] at H
    obtain ⟨rfl, rfl⟩ := H
    obtain ⟨Ao9, co9, eo9⟩ := Kd.R_slice HO_0.out
    subst eo9
    go_wp2
    go_ret
    exact ⟨by first | rfl | (simp [errW_none, errW_some] <;> rfl) | (simp [*, errW_none, errW_some] <;> rfl), by (with_reducible repeat (first | apply Kd.R_alloc | apply Kd.R_drewN | apply Kd.R_drew)); exact HO_0.out, by repeat (first | (with_reducible first | exact HB.out | apply below_alloc | apply pw_below_drewN | apply below_drew1) | exact HB.out), by repeat (first | (with_reducible first | exact HK.out | apply Kept.alloc | apply Kept.drewN | apply Kept.drew) | exact HK.out)⟩
end Go.Proofs.Ytmhmfhdmeedcfaa.G
end
section
namespace Go.Proofs.Ytmhmfhdmeedcfaa.G
open Go.RowKit Go.Proofs.YtmhmfhdmeedcfaaW.PrintWords Go.Proofs.YtmhmfhdmeedcfaaW.PrintLast Go.Proofs.YtmhmfhdmeedcfaaW.PrintMore
attribute [local go_sem] max2_int min2_int max_two min_two max_three min_three max_four min_four   -- for this text's walks alone
set_option linter.unusedVariables false
set_option linter.unusedSimpArgs false
def laws_heldInt64S.l0 : Nat → List Int → Int → Int → Option (Int)
 | 0, _, _, _ => none
 | k + 1, x0, x1, x5 => if x5 < (x0.length : Int) then (if 0 ≤ x5 then (if (rd x0 x5) = x1 then (laws_heldInt64S.l0 k x0 (wrap64 (x1 + 1)) (wrap64 (x5 + 1))) else (some (-1))) else (none)) else (some x1)
def laws_heldInt64S.f (k : Nat) (l0 : List Int) (a1 : Int) : Option (Int) := laws_heldInt64S.l0 k l0 a1 0
set_option maxHeartbeats 8000000 in
set_option maxRecDepth 100000 in
theorem laws_heldInt64S.calls (k : Nat) (A0 : Option Addr) (c0 : Nat) (l0 : List Int) (a1 : Int) (r : Int) (w : World) (hr0 : Kd.C (Kd.int .i64) w A0 l0.length l0) (hc0 : l0.length ≤ c0) (h : laws_heldInt64S.f k l0 a1 = some r) :
  Calls Try.prog 28 #[.slice A0 l0.length c0, .int .i64 a1] w fun e w' => e = .returned (.int .i64 r) ∧ Drawn0 w w' := by
 have HR0 := Aside0.mk hr0
 have HC0 := Aside0.mk hc0
 clear hr0 hc0
 have H : (laws_heldInt64S.l0 k l0 a1 0) = some r := h
 clear h
 have H' := Aside0.mk H
 clear H
 go_enter Try.func28, Try.ntmps28
 go_wp2
 go_loopg [1, 5] k (fun kq v1 v5 w' => ∃ (x1_1 : Int) (x5_1 : Int), v1 = .int .i64 x1_1 ∧ v5 = .int .i64 x5_1 ∧ Aside0 (laws_heldInt64S.l0 kq l0 x1_1 x5_1 = some r) ∧ Aside0 (kq ≤ k) ∧ Drawn0 w w')
 case atStart => exact ⟨(a1), (0), (by first | rfl | (simp; done) | (simp [*]; done)), (by first | rfl | (simp; done) | (simp [*]; done)), H', ⟨Nat.le_refl _⟩, by repeat (first | exact Drawn0.refl _ | apply Drawn0.step)⟩
 case round =>
  clear H'
  try clear c2
  try clear p2
  obtain ⟨x1_1, x5_1, rfl, rfl, HA, HK1, ⟨m1, rfl⟩⟩ := hrel
  cases gk with
  | zero => exact absurd HA.out (by simp [laws_heldInt64S.l0])
  | succ k1 =>
   have H := HA.out
   clear HA
   simp only [laws_heldInt64S.l0] at H
   by_cases c3 : x5_1 < (l0.length : Int)
   ·rw [if_pos c3] at H
    have c3b0 : decide (x5_1 < (l0.length : Int)) = true := decide_eq_true c3
    clear c3
    by_cases c4 : 0 ≤ x5_1
    ·rw [if_pos c4] at H
     have c4b0 : decide (0 ≤ x5_1) = true := decide_eq_true c4
     clear c4
     by_cases c5 : (rd l0 x5_1) = x1_1
     ·rw [if_pos c5] at H
      have c5b0 : ((rd l0 x5_1) == x1_1) = true := beq_iff_eq.mpr c5
      have c5b1 : ((rd l0 x5_1) != x1_1) = false := bne_eq_false_iff_eq.mpr c5
      clear c5
      have H' := Aside0.mk H
      clear H
      have p406 : 0 ≤ (x5_1 : Int) := of_decide_eq_true (by first | (with_reducible assumption) | assumption)
      have q406 : x5_1 < (l0.length : Int) := of_decide_eq_true (by first | (with_reducible assumption) | assumption)
      obtain ⟨ad406, e406, hx406_0⟩ := Kd.at_int HR0.out x5_1 p406 q406
      cases e406
      replace p406 := eq_true p406
      replace q406 := eq_true q406
      go_wp2
      go_roundg k1
      case measure => have := HK1.out; omega
      case rel => exact ⟨(wrap64 (x1_1 + 1)), (wrap64 (x5_1 + 1)), (by first | rfl | (simp; done) | (simp [*]; done)), (by first | rfl | (simp; done) | (simp [*]; done)), H', ⟨by have := HK1.out; omega⟩, by repeat (first | exact Drawn0.refl _ | apply Drawn0.step)⟩
     ·rw [if_neg c5] at H
      have c5b0 : ((rd l0 x5_1) == x1_1) = false := beq_eq_false_iff_ne.mpr c5
      have c5b1 : ((rd l0 x5_1) != x1_1) = true := bne_iff_ne.mpr c5
      obtain rfl := Option.some.inj H
      have p406 : 0 ≤ (x5_1 : Int) := of_decide_eq_true (by first | (with_reducible assumption) | assumption)
      have q406 : x5_1 < (l0.length : Int) := of_decide_eq_true (by first | (with_reducible assumption) | assumption)
      obtain ⟨ad406, e406, hx406_0⟩ := Kd.at_int HR0.out x5_1 p406 q406
      cases e406
      replace p406 := eq_true p406
      replace q406 := eq_true q406
      go_wp2
      go_ret
      exact ⟨by first | rfl | (simp; done) | (simp [*]; done), by repeat (first | exact Drawn0.refl _ | apply Drawn0.step)⟩
    ·rw [if_neg c4] at H
     exact absurd H (by simp)
   ·rw [if_neg c3] at H
    have c3b0 : decide (x5_1 < (l0.length : Int)) = false := decide_eq_false c3
    clear c3
    obtain rfl := Option.some.inj H
    go_wp2
    go_ret
    exact ⟨by first | rfl | (simp; done) | (simp [*]; done), by repeat (first | exact Drawn0.refl _ | apply Drawn0.step)⟩
end Go.Proofs.Ytmhmfhdmeedcfaa.G
end
section
namespace Go.Proofs.Ytmhmfhdmeedcfaa.G
open Go.RowKit Go.Proofs.YtmhmfhdmeedcfaaW.PrintWords Go.Proofs.YtmhmfhdmeedcfaaW.PrintLast Go.Proofs.YtmhmfhdmeedcfaaW.PrintMore AR M
set_option linter.unusedVariables false
set_option linter.unusedSimpArgs false
theorem szq24 (b : Flat 258 .i8) (n : Nat) : (Try.prog.info? 24).map (·.size) = some (b.sub n 256).size := by rw [Flat.sub_size]; kernel_rfl
theorem szq40 (b : Flat 256 .u8) (n : Nat) : (Try.prog.info? 40).map (·.size) = some (b.sub n 256).size := by rw [Flat.sub_size]; kernel_rfl
theorem zv24 (w : World) : (zeroValue 24).run Try.prog w = .ok (.agg (Array.replicate 256 (.int .i8 0))) w := by kernel_rfl
theorem zv40 (w : World) : (zeroValue 40).run Try.prog w = .ok (.agg (Array.replicate 256 (.int .u8 0))) w := by kernel_rfl
set_option maxHeartbeats 1000000 in
set_option maxRecDepth 100000 in
theorem toInt8A16_any (b : Flat 258 .i8) (off : Nat) (w : World) : Calls Try.prog 61 #[.agg (b.sub off 16)] w fun e w' => e = .returned (.agg (b.sub off 16)) ∧ Below w.heap.size w w' := by
 have SZ := Lib.hid (szr23 b off)
 go_enter Try.func61, Try.ntmps61
 go_wp2_with (first
  | ((with_reducible refine gate_dst (N := 1) rfl ?_); refine wpList_box_ev rfl 23 _ rfl (b.sub off 16) rfl ?_; intro g w1 hg hb hb1; have HG := Lib.hid hb; have HB0 := Lib.hid hb1; clear hb hb1 hg)
  | ((with_reducible refine gate_dst (N := 2) rfl ?_); refine box_event rfl (N := 2) rfl (t := 23) (exec_alloc rfl (Try.zeroValue23 _)) ?_; intro g2 hg wa ha hb; have HA := Lib.hid ha; have HB1 := Lib.hid (below_join HB0.out hb); have HG1 := Lib.hid (blkB HG.out hb); have h2 := Lib.hid (show w.heap.size ≤ g2 by have := HB0.out.size; omega); have h12 := Lib.hid (show g ≠ g2 by have := (Array.getElem?_eq_some_iff.1 HG.out).1; omega); clear ha hb hg)
  | ((with_reducible refine gate_dst (N := 3) rfl ?_); refine box_event rfl (N := 3) rfl (t := 23) (exec_alloc rfl (Try.zeroValue23 _)) ?_; intro g3 hg wb ha hb; have HO := Lib.hid ha; have HB2 := Lib.hid (below_join HB1.out hb); have HG2 := Lib.hid (blkB HG1.out hb); have HA2 := Lib.hid (blkB HA.out hb); have h3 := Lib.hid (show w.heap.size ≤ g3 by have := HB1.out.size; omega); have h13 := Lib.hid (show g ≠ g3 by have := (Array.getElem?_eq_some_iff.1 HG1.out).1; omega); have h23 := Lib.hid (show g2 ≠ g3 by have := (Array.getElem?_eq_some_iff.1 HA.out).1; omega); clear ha hb hg))
 go_loopw [4] (fun i wr => ∃ (n : Nat) (cur : Array Value), n ≤ 16 ∧ i = .int .i64 n ∧ Hid (wr.heap[g3]? = some (.cells cur 23 (0, 0))) ∧ Hid (CopyTo cur 16 n (b.sub off 16)) ∧ Hid (wr.heap[g]? = some (.cells (b.sub off 16) 23 (0, 0))) ∧ Hid (∃ z : Array Value, z.size = 16 ∧ wr.heap[g2]? = some (.cells z 23 (0, 0))) ∧ Hid (Below w.heap.size w wr)) (fun i _ => 16 - (intOf i).toNat)
 case atStart => exact ⟨0, _, Nat.zero_le _, rfl, HO.out, CopyTo.zero rfl, HG2.out, ⟨_, rfl, HA2.out⟩, HB2.out⟩
 case round =>
  obtain ⟨n, cur, hn, rfl, HC, HT, HS, HZ, HD⟩ := hrel
  by_cases hlt : n < 16
  ·have i0 : (n : Int) < 16 := by omega
   have i1 : (0 : Int) ≤ (n : Int) := by omega
   have cc := blk_cell (j := n) HS.out (b.sub_at off 16 hlt)
   have HV := Lib.hid (b.sub_at off 16 hlt)
   generalize b.z (off + n) = v at cc HV
   obtain ⟨u, hu⟩ : ∃ u, cur[n]? = some u := ⟨cur[n]'(by have := HT.out.1; omega), Array.getElem?_eq_getElem _⟩
   have ct := blk_cell HC.out hu
   have cf := blk_frozen HC.out n
   have HW := Lib.hid (setCell_eq_setRow wr g3 n cur _ _ (.int .i8 v) HC.out)
   have HC1 := Lib.hid (setRow_heap wr g3 cur (cur.setIfInBounds n (.int .i8 v)) _ _ HC.out)
   have HT1 := Lib.hid (HT.out.set HV.out hlt)
   have HD1 := Lib.hid (below_setRow HD.out h3.out (cur.setIfInBounds n (.int .i8 v)))
   have HS1 := Lib.hid ((setRow_other wr g3 g (cur.setIfInBounds n (.int .i8 v)) h13.out).trans HS.out)
   have HZ1 := Lib.hid (show ∃ z : Array Value, z.size = 16 ∧ (wr.setRow g3 (cur.setIfInBounds n (.int .i8 v))).heap[g2]? = some (.cells z 23 (0, 0)) by obtain ⟨z, hz, hz2⟩ := HZ.out; exact ⟨z, hz, (setRow_other _ _ _ _ h23.out).trans hz2⟩)
   clear hu
   go_wp2
   go_roundw
   case rel => exact ⟨n + 1, cur.setIfInBounds n (.int .i8 v), by omega, by go_num, by rw [HW.out]; exact HC1.out, HT1.out, by rw [HW.out]; exact HS1.out, by rw [HW.out]; exact HZ1.out, by rw [HW.out]; exact HD1.out⟩
   case measure => simp [intOf]; omega
  ·obtain rfl : n = 16 := by omega
   obtain rfl := HT.out.done (b.sub_size off 16)
   obtain ⟨z, hz, hz2⟩ := HZ.out
   have HZ2 := Lib.hid hz2
   have HZS := Lib.hid hz
   clear hz hz2 HZ
   go_wp2_with (first
    | ((with_reducible refine gate_dst (N := 14) rfl ?_); refine Kd.event_run rfl (exec_load_blk rfl rfl HC.out Try.underlying23 rfl SZ.out) ?_)
    | ((with_reducible refine gate_store (t := 23) (p := 2) rfl ?_); refine store_event (t := 23) (p := 2) rfl rfl rfl (exec_store_row (t2 := 23) (vs := b.sub off 16) rfl rfl rfl HZ2.out (by rw [HZS.out, Flat.sub_size]; decide) (b.sub_one _ _) SZ.out) ?_; intro ws hws; have HR := Lib.hid (show ws.heap[g2]? = some (.cells (b.sub off 16) 23 (0, 0)) by rw [hws]; exact setRow_whole HZ2.out (by rw [HZS.out, Flat.sub_size])); have HD1 := Lib.hid (show Below w.heap.size w ws by rw [hws]; exact below_setRow HD.out h2.out _); clear hws))
   (try simp only [Exit.inBlock, Exit.then])
   refine bodyPost_ret (results_cell rfl rfl (run_load_blk _ _ _ _ _ HR.out Try.underlying23 rfl SZ.out)) rfl ?_
   exact ⟨rfl, HD1.out⟩
set_option maxHeartbeats 1000000 in
set_option maxRecDepth 100000 in
theorem toByteA16_any (b : Flat 256 .u8) (off : Nat) (w : World) : Calls Try.prog 37 #[.agg (b.sub off 16)] w fun e w' => e = .returned (.agg (b.sub off 16)) ∧ Below w.heap.size w w' := by
 have SZ := Lib.hid (szr27 b off)
 go_enter Try.func37, Try.ntmps37
 go_wp2_with (first
  | ((with_reducible refine gate_dst (N := 1) rfl ?_); refine wpList_box_ev rfl 27 _ rfl (b.sub off 16) rfl ?_; intro g w1 hg hb hb1; have HG := Lib.hid hb; have HB0 := Lib.hid hb1; clear hb hb1 hg)
  | ((with_reducible refine gate_dst (N := 2) rfl ?_); refine box_event rfl (N := 2) rfl (t := 27) (exec_alloc rfl (Try.zeroValue27 _)) ?_; intro g2 hg wa ha hb; have HA := Lib.hid ha; have HB1 := Lib.hid (below_join HB0.out hb); have HG1 := Lib.hid (blkB HG.out hb); have h2 := Lib.hid (show w.heap.size ≤ g2 by have := HB0.out.size; omega); have h12 := Lib.hid (show g ≠ g2 by have := (Array.getElem?_eq_some_iff.1 HG.out).1; omega); clear ha hb hg)
  | ((with_reducible refine gate_dst (N := 3) rfl ?_); refine box_event rfl (N := 3) rfl (t := 27) (exec_alloc rfl (Try.zeroValue27 _)) ?_; intro g3 hg wb ha hb; have HO := Lib.hid ha; have HB2 := Lib.hid (below_join HB1.out hb); have HG2 := Lib.hid (blkB HG1.out hb); have HA2 := Lib.hid (blkB HA.out hb); have h3 := Lib.hid (show w.heap.size ≤ g3 by have := HB1.out.size; omega); have h13 := Lib.hid (show g ≠ g3 by have := (Array.getElem?_eq_some_iff.1 HG1.out).1; omega); have h23 := Lib.hid (show g2 ≠ g3 by have := (Array.getElem?_eq_some_iff.1 HA.out).1; omega); clear ha hb hg))
 go_loopw [4] (fun i wr => ∃ (n : Nat) (cur : Array Value), n ≤ 16 ∧ i = .int .i64 n ∧ Hid (wr.heap[g3]? = some (.cells cur 27 (0, 0))) ∧ Hid (CopyTo cur 16 n (b.sub off 16)) ∧ Hid (wr.heap[g]? = some (.cells (b.sub off 16) 27 (0, 0))) ∧ Hid (∃ z : Array Value, z.size = 16 ∧ wr.heap[g2]? = some (.cells z 27 (0, 0))) ∧ Hid (Below w.heap.size w wr)) (fun i _ => 16 - (intOf i).toNat)
 case atStart => exact ⟨0, _, Nat.zero_le _, rfl, HO.out, CopyTo.zero rfl, HG2.out, ⟨_, rfl, HA2.out⟩, HB2.out⟩
 case round =>
  obtain ⟨n, cur, hn, rfl, HC, HT, HS, HZ, HD⟩ := hrel
  by_cases hlt : n < 16
  ·have i0 : (n : Int) < 16 := by omega
   have i1 : (0 : Int) ≤ (n : Int) := by omega
   have cc := blk_cell (j := n) HS.out (b.sub_at off 16 hlt)
   have HV := Lib.hid (b.sub_at off 16 hlt)
   generalize b.z (off + n) = v at cc HV
   obtain ⟨u, hu⟩ : ∃ u, cur[n]? = some u := ⟨cur[n]'(by have := HT.out.1; omega), Array.getElem?_eq_getElem _⟩
   have ct := blk_cell HC.out hu
   have cf := blk_frozen HC.out n
   have HW := Lib.hid (setCell_eq_setRow wr g3 n cur _ _ (.int .u8 v) HC.out)
   have HC1 := Lib.hid (setRow_heap wr g3 cur (cur.setIfInBounds n (.int .u8 v)) _ _ HC.out)
   have HT1 := Lib.hid (HT.out.set HV.out hlt)
   have HD1 := Lib.hid (below_setRow HD.out h3.out (cur.setIfInBounds n (.int .u8 v)))
   have HS1 := Lib.hid ((setRow_other wr g3 g (cur.setIfInBounds n (.int .u8 v)) h13.out).trans HS.out)
   have HZ1 := Lib.hid (show ∃ z : Array Value, z.size = 16 ∧ (wr.setRow g3 (cur.setIfInBounds n (.int .u8 v))).heap[g2]? = some (.cells z 27 (0, 0)) by obtain ⟨z, hz, hz2⟩ := HZ.out; exact ⟨z, hz, (setRow_other _ _ _ _ h23.out).trans hz2⟩)
   clear hu
   go_wp2
   go_roundw
   case rel => exact ⟨n + 1, cur.setIfInBounds n (.int .u8 v), by omega, by go_num, by rw [HW.out]; exact HC1.out, HT1.out, by rw [HW.out]; exact HS1.out, by rw [HW.out]; exact HZ1.out, by rw [HW.out]; exact HD1.out⟩
   case measure => simp [intOf]; omega
  ·obtain rfl : n = 16 := by omega
   obtain rfl := HT.out.done (b.sub_size off 16)
   obtain ⟨z, hz, hz2⟩ := HZ.out
   have HZ2 := Lib.hid hz2
   have HZS := Lib.hid hz
   clear hz hz2 HZ
   go_wp2_with (first
    | ((with_reducible refine gate_dst (N := 14) rfl ?_); refine Kd.event_run rfl (exec_load_blk rfl rfl HC.out Try.underlying27 rfl SZ.out) ?_)
    | ((with_reducible refine gate_store (t := 27) (p := 2) rfl ?_); refine store_event (t := 27) (p := 2) rfl rfl rfl (exec_store_row (t2 := 27) (vs := b.sub off 16) rfl rfl rfl HZ2.out (by rw [HZS.out, Flat.sub_size]; decide) (b.sub_one _ _) SZ.out) ?_; intro ws hws; have HR := Lib.hid (show ws.heap[g2]? = some (.cells (b.sub off 16) 27 (0, 0)) by rw [hws]; exact setRow_whole HZ2.out (by rw [HZS.out, Flat.sub_size])); have HD1 := Lib.hid (show Below w.heap.size w ws by rw [hws]; exact below_setRow HD.out h2.out _); clear hws))
   (try simp only [Exit.inBlock, Exit.then])
   refine bodyPost_ret (results_cell rfl rfl (run_load_blk _ _ _ _ _ HR.out Try.underlying27 rfl SZ.out)) rfl ?_
   exact ⟨rfl, HD1.out⟩
end Go.Proofs.Ytmhmfhdmeedcfaa.G
end
section
namespace Go.Proofs.Ytmhmfhdmeedcfaa.G
open Go.RowKit Go.Proofs.YtmhmfhdmeedcfaaW.PrintWords Go.Proofs.YtmhmfhdmeedcfaaW.PrintLast Go.Proofs.YtmhmfhdmeedcfaaW.PrintMore AR M
set_option linter.unusedVariables false
set_option linter.unusedSimpArgs false
set_option maxHeartbeats 1000000 in
set_option maxRecDepth 100000 in
theorem toInt8A16A16_any (b : Flat 258 .i8) (w : World) : Calls Try.prog 36 #[.agg (b.sub 2 256)] w fun e w' => e = .returned (.agg (b.sub 2 256)) ∧ Below w.heap.size w w' := by
 have SZ := Lib.hid (szq24 b 2)
 have SR := Lib.hid (fun n => szr23 b n)
 have HQ := Lib.hid (fun n W => toInt8A16_any b n W)
 go_enter Try.func36, Try.ntmps36
 go_wp2_with (first
  | ((with_reducible refine gate_dst (N := 1) rfl ?_); refine wpList_box_ev rfl 24 _ rfl (b.sub 2 256) rfl ?_; intro g w1 hg hb hb1; have HG := Lib.hid hb; have HB0 := Lib.hid hb1; clear hb hb1 hg)
  | ((with_reducible refine gate_dst (N := 2) rfl ?_); refine box_event rfl (N := 2) rfl (t := 24) (exec_alloc rfl (zv24 _)) ?_; intro g2 hg wa ha hb; have HA := Lib.hid (show ∃ z : Array Value, z.size = 256 ∧ wa.heap[g2]? = some (.cells z 24 (0, 0)) from ⟨_, Array.size_replicate, ha⟩); have HB1 := Lib.hid (below_join HB0.out hb); have HG1 := Lib.hid (blkB HG.out hb); have h2 := Lib.hid (show w.heap.size ≤ g2 by have := HB0.out.size; omega); have h12 := Lib.hid (show g ≠ g2 by have := (Array.getElem?_eq_some_iff.1 HG.out).1; omega); have l2 := Lib.hid (show g2 < wa.heap.size from (Array.getElem?_eq_some_iff.1 ha).1); clear ha hb hg)
  | ((with_reducible refine gate_dst (N := 3) rfl ?_); refine box_event rfl (N := 3) rfl (t := 24) (exec_alloc rfl (zv24 _)) ?_; intro g3 hg wb ha hb; have HO := Lib.hid (show ∃ z : Array Value, z.size = 256 ∧ wb.heap[g3]? = some (.cells z 24 (0, 0)) from ⟨_, Array.size_replicate, ha⟩); have HB2 := Lib.hid (below_join HB1.out hb); have HG2 := Lib.hid (blkB HG1.out hb); have HA2 := Lib.hid (show ∃ z : Array Value, z.size = 256 ∧ wb.heap[g2]? = some (.cells z 24 (0, 0)) by obtain ⟨z, h, hz⟩ := HA.out; exact ⟨z, h, blkB hz hb⟩); have h3 := Lib.hid (show w.heap.size ≤ g3 by have := HB1.out.size; omega); have h13 := Lib.hid (show g ≠ g3 by have := (Array.getElem?_eq_some_iff.1 HG1.out).1; omega); have h23 := Lib.hid (show g2 ≠ g3 by have := l2.out; omega); clear ha hb hg))
 go_loopw [4] (fun i wr => ∃ (n : Nat) (cur : Array Value), n ≤ 16 ∧ i = .int .i64 n ∧ Hid (wr.heap[g3]? = some (.cells cur 24 (0, 0))) ∧ Hid (CopyTo cur 256 (n * 16) (b.sub 2 256)) ∧ Hid (wr.heap[g]? = some (.cells (b.sub 2 256) 24 (0, 0))) ∧ Hid (∃ z : Array Value, z.size = 256 ∧ wr.heap[g2]? = some (.cells z 24 (0, 0))) ∧ Hid (Below w.heap.size w wr)) (fun i _ => 16 - (intOf i).toNat)
 case atStart => obtain ⟨z, h, hz⟩ := HO.out; exact ⟨0, z, Nat.zero_le _, rfl, hz, by rw [Nat.zero_mul]; exact CopyTo.zero h, HG2.out, HA2.out, HB2.out⟩
 case round =>
  obtain ⟨n, cur, hn, rfl, HC, HT, HS, HZ, HD⟩ := hrel
  by_cases hlt : n < 16
  ·have i0 : (n : Int) < 16 := by omega
   have i1 : (0 : Int) ≤ (n : Int) := by omega
   have HP := Lib.hid (show ∀ j v, (b.sub (2 + n * 16) 16)[j]? = some v → (b.sub 2 256)[n * 16 + j]? = some v from fun j v hv => by
    have hj : j < 16 := by have := (Array.getElem?_eq_some_iff.1 hv).1; rwa [Flat.sub_size] at this
    rw [b.sub_at _ _ (show n * 16 + j < 256 by omega), ← hv, b.sub_at _ _ hj]; congr 3; omega)
   go_wp2_with (first
    | ((with_reducible refine gate_dst (N := 12) rfl ?_); refine Kd.event_run rfl (exec_load_sub (n := n * 16) (cs := b.sub (2 + n * 16) 16) rfl (by first | rfl | (simp; done)) HS.out HP.out Try.underlying23 rfl (SR.out _)) ?_)
    | (go_at_call 61; refine (HQ.out (2 + n * 16) _).mono ?_; rintro e w3 ⟨rfl, hb⟩; have HD0 := Lib.hid (below_join HD.out hb); have HC0 := Lib.hid (blkB HC.out hb); have HS0 := Lib.hid (blkB HS.out hb); have HZ0 := Lib.hid (show ∃ z : Array Value, z.size = 256 ∧ w3.heap[g2]? = some (.cells z 24 (0, 0)) by obtain ⟨z, h, hz⟩ := HZ.out; exact ⟨z, h, blkB hz hb⟩); clear hb)
    | ((with_reducible refine gate_store (t := 23) (p := 14) rfl ?_); refine store_event (t := 23) (p := 14) rfl rfl rfl (exec_store_row (n := n * 16) (vs := b.sub (2 + n * 16) 16) rfl (by first | rfl | (simp; done)) rfl HC0.out (by rw [Flat.sub_size]; have := HT.out.1; omega) (b.sub_one _ _) (SR.out _)) ?_; intro ws hws; have HC1 := Lib.hid (show ws.heap[g3]? = some (.cells (cur.toList.take (n * 16) ++ (b.sub (2 + n * 16) 16).toList ++ cur.toList.drop (n * 16 + (b.sub (2 + n * 16) 16).size)).toArray 24 (0, 0)) by rw [hws]; exact setRow_heap _ _ _ _ _ _ HC0.out); have HD1 := Lib.hid (show Below w.heap.size w ws by rw [hws]; exact below_setRow HD0.out h3.out _); have HS1 := Lib.hid (show ws.heap[g]? = some (.cells (b.sub 2 256) 24 (0, 0)) by rw [hws]; exact (setRow_other _ _ _ _ h13.out).trans HS0.out); have HZ1 := Lib.hid (show ∃ z : Array Value, z.size = 256 ∧ ws.heap[g2]? = some (.cells z 24 (0, 0)) by obtain ⟨z, hz, hz2⟩ := HZ0.out; exact ⟨z, hz, by rw [hws]; exact (setRow_other _ _ _ _ h23.out).trans hz2⟩); clear hws))
   go_roundw
   case rel => exact ⟨n + 1, _, by omega, by go_num, HC1.out, by rw [show (n + 1) * 16 = n * 16 + (b.sub (2 + n * 16) 16).size by rw [Flat.sub_size]; omega]; exact HT.out.step (by simp) (by rw [Flat.sub_size]; omega) (fun j hj => by rw [Flat.sub_size] at hj; rw [Array.getElem?_toList, b.sub_at _ _ hj, b.sub_at _ _ (show n * 16 + j < 256 by omega)]; congr 3; omega), HS1.out, HZ1.out, HD1.out⟩
   case measure => simp [intOf]; omega
  ·obtain rfl : n = 16 := by omega
   obtain rfl := HT.out.done (b.sub_size 2 256)
   obtain ⟨z, hz, hz2⟩ := HZ.out
   have HZ2 := Lib.hid hz2
   have HZS := Lib.hid hz
   clear hz hz2 HZ
   go_wp2_with (first
    | ((with_reducible refine gate_dst (N := 15) rfl ?_); refine Kd.event_run rfl (exec_load_blk rfl rfl HC.out Try.underlying24 rfl SZ.out) ?_)
    | ((with_reducible refine gate_store (t := 24) (p := 2) rfl ?_); refine store_event (t := 24) (p := 2) rfl rfl rfl (exec_store_row (t2 := 24) (vs := b.sub 2 256) rfl rfl rfl HZ2.out (by rw [HZS.out, Flat.sub_size]; decide) (b.sub_one _ _) SZ.out) ?_; intro ws hws; have HR := Lib.hid (show ws.heap[g2]? = some (.cells (b.sub 2 256) 24 (0, 0)) by rw [hws]; exact setRow_whole HZ2.out (by rw [HZS.out, Flat.sub_size])); have HD1 := Lib.hid (show Below w.heap.size w ws by rw [hws]; exact below_setRow HD.out h2.out _); clear hws))
   (try simp only [Exit.inBlock, Exit.then])
   refine bodyPost_ret (results_cell rfl rfl (run_load_blk _ _ _ _ _ HR.out Try.underlying24 rfl SZ.out)) rfl ?_
   exact ⟨rfl, HD1.out⟩
set_option maxHeartbeats 1000000 in
set_option maxRecDepth 100000 in
theorem toGrounds_any (b : Flat 256 .u8) (w : World) : Calls Try.prog 11 #[.agg (b.sub 0 256)] w fun e w' => e = .returned (.agg (b.sub 0 256)) ∧ Below w.heap.size w w' := by
 have SZ := Lib.hid (szq40 b 0)
 have SR := Lib.hid (fun n => szr27 b n)
 have HQ := Lib.hid (fun n W => toByteA16_any b n W)
 go_enter Try.func11, Try.ntmps11
 go_wp2_with (first
  | ((with_reducible refine gate_dst (N := 1) rfl ?_); refine wpList_box_ev rfl 28 _ rfl (b.sub 0 256) rfl ?_; intro g w1 hg hb hb1; have HG := Lib.hid hb; have HB0 := Lib.hid hb1; clear hb hb1 hg)
  | ((with_reducible refine gate_dst (N := 2) rfl ?_); refine box_event rfl (N := 2) rfl (t := 40) (exec_alloc rfl (zv40 _)) ?_; intro g2 hg wa ha hb; have HA := Lib.hid (show ∃ z : Array Value, z.size = 256 ∧ wa.heap[g2]? = some (.cells z 40 (0, 0)) from ⟨_, Array.size_replicate, ha⟩); have HB1 := Lib.hid (below_join HB0.out hb); have HG1 := Lib.hid (blkB HG.out hb); have h2 := Lib.hid (show w.heap.size ≤ g2 by have := HB0.out.size; omega); have h12 := Lib.hid (show g ≠ g2 by have := (Array.getElem?_eq_some_iff.1 HG.out).1; omega); have l2 := Lib.hid (show g2 < wa.heap.size from (Array.getElem?_eq_some_iff.1 ha).1); clear ha hb hg)
  | ((with_reducible refine gate_dst (N := 3) rfl ?_); refine box_event rfl (N := 3) rfl (t := 40) (exec_alloc rfl (zv40 _)) ?_; intro g3 hg wb ha hb; have HO := Lib.hid (show ∃ z : Array Value, z.size = 256 ∧ wb.heap[g3]? = some (.cells z 40 (0, 0)) from ⟨_, Array.size_replicate, ha⟩); have HB2 := Lib.hid (below_join HB1.out hb); have HG2 := Lib.hid (blkB HG1.out hb); have HA2 := Lib.hid (show ∃ z : Array Value, z.size = 256 ∧ wb.heap[g2]? = some (.cells z 40 (0, 0)) by obtain ⟨z, h, hz⟩ := HA.out; exact ⟨z, h, blkB hz hb⟩); have h3 := Lib.hid (show w.heap.size ≤ g3 by have := HB1.out.size; omega); have h13 := Lib.hid (show g ≠ g3 by have := (Array.getElem?_eq_some_iff.1 HG1.out).1; omega); have h23 := Lib.hid (show g2 ≠ g3 by have := l2.out; omega); clear ha hb hg))
 go_loopw [4] (fun i wr => ∃ (n : Nat) (cur : Array Value), n ≤ 16 ∧ i = .int .i64 n ∧ Hid (wr.heap[g3]? = some (.cells cur 40 (0, 0))) ∧ Hid (CopyTo cur 256 (n * 16) (b.sub 0 256)) ∧ Hid (wr.heap[g]? = some (.cells (b.sub 0 256) 28 (0, 0))) ∧ Hid (∃ z : Array Value, z.size = 256 ∧ wr.heap[g2]? = some (.cells z 40 (0, 0))) ∧ Hid (Below w.heap.size w wr)) (fun i _ => 16 - (intOf i).toNat)
 case atStart => obtain ⟨z, h, hz⟩ := HO.out; exact ⟨0, z, Nat.zero_le _, rfl, hz, by rw [Nat.zero_mul]; exact CopyTo.zero h, HG2.out, HA2.out, HB2.out⟩
 case round =>
  obtain ⟨n, cur, hn, rfl, HC, HT, HS, HZ, HD⟩ := hrel
  by_cases hlt : n < 16
  ·have i0 : (n : Int) < 16 := by omega
   have i1 : (0 : Int) ≤ (n : Int) := by omega
   have HP := Lib.hid (show ∀ j v, (b.sub (n * 16) 16)[j]? = some v → (b.sub 0 256)[n * 16 + j]? = some v from fun j v hv => by
    have hj : j < 16 := by have := (Array.getElem?_eq_some_iff.1 hv).1; rwa [Flat.sub_size] at this
    rw [b.sub_at _ _ (show n * 16 + j < 256 by omega), ← hv, b.sub_at _ _ hj]; congr 3; omega)
   go_wp2_with (first
    | ((with_reducible refine gate_dst (N := 12) rfl ?_); refine Kd.event_run rfl (exec_load_sub (n := n * 16) (cs := b.sub (n * 16) 16) rfl (by first | rfl | (simp; done)) HS.out HP.out Try.underlying27 rfl (SR.out _)) ?_)
    | (go_at_call 37; refine (HQ.out (n * 16) _).mono ?_; rintro e w3 ⟨rfl, hb⟩; have HD0 := Lib.hid (below_join HD.out hb); have HC0 := Lib.hid (blkB HC.out hb); have HS0 := Lib.hid (blkB HS.out hb); have HZ0 := Lib.hid (show ∃ z : Array Value, z.size = 256 ∧ w3.heap[g2]? = some (.cells z 40 (0, 0)) by obtain ⟨z, h, hz⟩ := HZ.out; exact ⟨z, h, blkB hz hb⟩); clear hb)
    | ((with_reducible refine gate_store (t := 27) (p := 14) rfl ?_); refine store_event (t := 27) (p := 14) rfl rfl rfl (exec_store_row (n := n * 16) (vs := b.sub (n * 16) 16) rfl (by first | rfl | (simp; done)) rfl HC0.out (by rw [Flat.sub_size]; have := HT.out.1; omega) (b.sub_one _ _) (SR.out _)) ?_; intro ws hws; have HC1 := Lib.hid (show ws.heap[g3]? = some (.cells (cur.toList.take (n * 16) ++ (b.sub (n * 16) 16).toList ++ cur.toList.drop (n * 16 + (b.sub (n * 16) 16).size)).toArray 40 (0, 0)) by rw [hws]; exact setRow_heap _ _ _ _ _ _ HC0.out); have HD1 := Lib.hid (show Below w.heap.size w ws by rw [hws]; exact below_setRow HD0.out h3.out _); have HS1 := Lib.hid (show ws.heap[g]? = some (.cells (b.sub 0 256) 28 (0, 0)) by rw [hws]; exact (setRow_other _ _ _ _ h13.out).trans HS0.out); have HZ1 := Lib.hid (show ∃ z : Array Value, z.size = 256 ∧ ws.heap[g2]? = some (.cells z 40 (0, 0)) by obtain ⟨z, hz, hz2⟩ := HZ0.out; exact ⟨z, hz, by rw [hws]; exact (setRow_other _ _ _ _ h23.out).trans hz2⟩); clear hws))
   go_roundw
   case rel => exact ⟨n + 1, _, by omega, by go_num, HC1.out, by rw [show (n + 1) * 16 = n * 16 + (b.sub (n * 16) 16).size by rw [Flat.sub_size]; omega]; exact HT.out.step (by simp) (by rw [Flat.sub_size]; omega) (fun j hj => by rw [Flat.sub_size] at hj; rw [Array.getElem?_toList, b.sub_at _ _ hj, b.sub_at _ _ (show n * 16 + j < 256 by omega)]; congr 3; omega), HS1.out, HZ1.out, HD1.out⟩
   case measure => simp [intOf]; omega
  ·obtain rfl : n = 16 := by omega
   obtain rfl := HT.out.done (b.sub_size 0 256)
   obtain ⟨z, hz, hz2⟩ := HZ.out
   have HZ2 := Lib.hid hz2
   have HZS := Lib.hid hz
   clear hz hz2 HZ
   go_wp2_with (first
    | ((with_reducible refine gate_dst (N := 15) rfl ?_); refine Kd.event_run rfl (exec_load_blk rfl rfl HC.out Try.underlying40 rfl SZ.out) ?_)
    | ((with_reducible refine gate_store (t := 40) (p := 2) rfl ?_); refine store_event (t := 40) (p := 2) rfl rfl rfl (exec_store_row (t2 := 40) (vs := b.sub 0 256) rfl rfl rfl HZ2.out (by rw [HZS.out, Flat.sub_size]; decide) (b.sub_one _ _) SZ.out) ?_; intro ws hws; have HR := Lib.hid (show ws.heap[g2]? = some (.cells (b.sub 0 256) 40 (0, 0)) by rw [hws]; exact setRow_whole HZ2.out (by rw [HZS.out, Flat.sub_size])); have HD1 := Lib.hid (show Below w.heap.size w ws by rw [hws]; exact below_setRow HD.out h2.out _); clear hws))
   (try simp only [Exit.inBlock, Exit.then])
   refine bodyPost_ret (results_cell rfl rfl (run_load_blk _ _ _ _ _ HR.out Try.underlying40 rfl SZ.out)) rfl ?_
   exact ⟨rfl, HD1.out⟩
end Go.Proofs.Ytmhmfhdmeedcfaa.G
end
section
namespace Go.Proofs.Ytmhmfhdmeedcfaa.G
open Go.RowKit Go.Proofs.YtmhmfhdmeedcfaaW.PrintWords Go.Proofs.YtmhmfhdmeedcfaaW.PrintLast Go.Proofs.YtmhmfhdmeedcfaaW.PrintMore AR M
set_option linter.unusedVariables false
set_option linter.unusedSimpArgs false
theorem bay_filled (b : Flat 258 .i8) (z : Array Value) (hz : z.size = 258) : (((z.setIfInBounds 0 (.int .i8 (b.z 0))).setIfInBounds 1 (.int .i8 (b.z 1))).toList.take 2 ++ (b.sub 2 256).toList ++ ((z.setIfInBounds 0 (.int .i8 (b.z 0))).setIfInBounds 1 (.int .i8 (b.z 1))).toList.drop (2 + (b.sub 2 256).size)).toArray = b.A := by
 have h := ((((CopyTo.zero (src := b.A) hz).set (b.at_ (j := 0) (by omega)) (by omega)).set (b.at_ (j := 1) (by omega)) (by omega)).step (m := 256) (vs := (b.sub 2 256).toList) (by simp [Flat.sub_size]) (by omega) (fun j hj => by
  rw [Array.getElem?_toList, b.sub_at _ _ hj, b.at_ (show 0 + 1 + 1 + j < 258 by omega)])).done b.size
 rw [Flat.sub_size]
 exact h
theorem zv38 (w : World) : (zeroValue 38).run Try.prog w = .ok (.agg (Array.replicate 258 (.int .i8 0))) w := by kernel_rfl
set_option maxHeartbeats 1000000 in
set_option maxRecDepth 100000 in
theorem toBay_any (b : Flat 258 .i8) (w : World) : Calls Try.prog 10 #[.agg b.A] w fun e w' => e = .returned (.agg b.A) ∧ Below w.heap.size w w' := by
 have HQ := Lib.hid (fun W => toInt8A16A16_any b W)
 go_enter Try.func10, Try.ntmps10
 go_wp2_with (first
  | ((with_reducible refine gate_dst (N := 1) rfl ?_); refine wpList_box_ev rfl 26 _ rfl b.A rfl ?_; intro g w1 hg hb hb1; have HG := Lib.hid hb; have HB0 := Lib.hid hb1; clear hb hb1 hg)
  | ((with_reducible refine gate_dst (N := 2) rfl ?_); refine box_event rfl (N := 2) rfl (t := 38) (exec_alloc rfl (zv38 _)) ?_; intro g2 hg wa ha hb; have HA := Lib.hid (show ∃ z : Array Value, z.size = 258 ∧ wa.heap[g2]? = some (.cells z 38 (0, 0)) from ⟨_, Array.size_replicate, ha⟩); have HB1 := Lib.hid (below_join HB0.out hb); have HG1 := Lib.hid (blkB HG.out hb); have h2 := Lib.hid (show w.heap.size ≤ g2 by have := HB0.out.size; omega); have l2 := Lib.hid (show g2 < wa.heap.size from (Array.getElem?_eq_some_iff.1 ha).1); clear ha hb hg)
  | ((with_reducible refine gate_dst (N := 3) rfl ?_); refine box_event rfl (N := 3) rfl (t := 38) (exec_alloc rfl (zv38 _)) ?_; intro g3 hg wb ha hb; obtain ⟨z, hz, ha⟩ : ∃ z : Array Value, z.size = 258 ∧ wb.heap[g3]? = some (.cells z 38 (0, 0)) := ⟨_, Array.size_replicate, ha⟩; have HB2 := below_join HB1.out hb; have HG2 := blkB HG1.out hb; have HA2 : ∃ z : Array Value, z.size = 258 ∧ wb.heap[g2]? = some (.cells z 38 (0, 0)) := (by obtain ⟨z, h, hz⟩ := HA.out; exact ⟨z, h, blkB hz hb⟩); have h3 : w.heap.size ≤ g3 := (by have := HB1.out.size; omega); have h13 : g ≠ g3 := (by have := (Array.getElem?_eq_some_iff.1 HG1.out).1; omega); have h31 := h13.symm; have h23 : g2 ≠ g3 := (by have := l2.out; omega);
       have c0 := blk_cell (j := 0) HG2 (b.at_ (by omega)); have c1 := blk_cell (j := 1) HG2 (b.at_ (by omega));
       obtain ⟨u0, hu0⟩ : ∃ u, z[0]? = some u := ⟨z[0]'(by omega), Array.getElem?_eq_getElem _⟩; obtain ⟨u1, hu1⟩ : ∃ u, z[1]? = some u := ⟨z[1]'(by omega), Array.getElem?_eq_getElem _⟩; have t0 := blk_cell ha hu0; have t1 := blk_cell ha hu1; have f0 := blk_frozen ha 0; have f1 := blk_frozen ha 1;
       have HW1 := setCell_eq_setRow wb g3 0 z _ _ (.int .i8 (b.z 0)) ha; have HW2 : (wb.setCell ⟨g3, 0, none⟩ (.int .i8 (b.z 0))).setCell ⟨g3, 1, none⟩ (.int .i8 (b.z 1)) = wb.setRow g3 ((z.setIfInBounds 0 (.int .i8 (b.z 0))).setIfInBounds 1 (.int .i8 (b.z 1))) := (by rw [HW1, setCell_eq_setRow _ g3 1 _ _ _ (.int .i8 (b.z 1)) (setRow_heap _ _ _ _ _ _ ha), setRow_setRow]);
       have HZL := Lib.hid hz;
       have HC := Lib.hid (show ((wb.setCell ⟨g3, 0, none⟩ (.int .i8 (b.z 0))).setCell ⟨g3, 1, none⟩ (.int .i8 (b.z 1))).heap[g3]? = some (.cells ((z.setIfInBounds 0 (.int .i8 (b.z 0))).setIfInBounds 1 (.int .i8 (b.z 1))) 38 (0, 0)) by rw [HW2]; exact setRow_heap _ _ _ _ _ _ ha);
       have HS := Lib.hid (show ((wb.setCell ⟨g3, 0, none⟩ (.int .i8 (b.z 0))).setCell ⟨g3, 1, none⟩ (.int .i8 (b.z 1))).heap[g]? = some (.cells b.A 26 (0, 0)) by rw [HW2]; exact (setRow_other _ _ _ _ h13).trans HG2);
       have HZ := Lib.hid (show ∃ z2 : Array Value, z2.size = 258 ∧ ((wb.setCell ⟨g3, 0, none⟩ (.int .i8 (b.z 0))).setCell ⟨g3, 1, none⟩ (.int .i8 (b.z 1))).heap[g2]? = some (.cells z2 38 (0, 0)) by obtain ⟨z2, q1, q2⟩ := HA2; exact ⟨z2, q1, by rw [HW2]; exact (setRow_other _ _ _ _ h23).trans q2⟩);
       have HD := Lib.hid (show Below w.heap.size w ((wb.setCell ⟨g3, 0, none⟩ (.int .i8 (b.z 0))).setCell ⟨g3, 1, none⟩ (.int .i8 (b.z 1))) by rw [HW2]; exact below_setRow HB2 h3 _);
       have h23' := Lib.hid h23; have h3' := Lib.hid h3;
       clear HW1 HW2 hu0 hu1 ha hb hg hz HB2 HG2 HA2 h23 h3)
  | ((with_reducible refine gate_dst (N := 11) rfl ?_); refine Kd.event_run rfl (exec_load_sub (n := 2) (cs := b.sub 2 256) rfl rfl HS.out (b.sub_in (by omega)) Try.underlying24 rfl (sz24 b)) ?_)
  | (go_at_call 36; refine (HQ.out _).mono ?_; rintro e w3 ⟨rfl, hb⟩; have HD0 := Lib.hid (below_join HD.out hb); have HC0 := Lib.hid (blkB HC.out hb); have HZ0 := Lib.hid (show ∃ z : Array Value, z.size = 258 ∧ w3.heap[g2]? = some (.cells z 38 (0, 0)) by obtain ⟨z, h, hz⟩ := HZ.out; exact ⟨z, h, blkB hz hb⟩); clear hb)
  | ((with_reducible refine gate_store (t := 24) (p := 13) rfl ?_); refine store_event (t := 24) (p := 13) rfl rfl rfl (exec_store_row (n := 2) (vs := b.sub 2 256) rfl rfl rfl HC0.out (by rw [Flat.sub_size]; simp [HZL.out]) (b.sub_one _ _) (sz24 b)) ?_; intro ws hws;
       have HC1 := Lib.hid (show ws.heap[g3]? = some (.cells b.A 38 (0, 0)) by rw [hws, setRow_heap _ _ _ _ _ _ HC0.out, bay_filled b z HZL.out]);
       have HD1 := Lib.hid (show Below w.heap.size w ws by rw [hws]; exact below_setRow HD0.out h3'.out _);
       have HZ1 := Lib.hid (show ∃ z : Array Value, z.size = 258 ∧ ws.heap[g2]? = some (.cells z 38 (0, 0)) by obtain ⟨z, hz, hz2⟩ := HZ0.out; exact ⟨z, hz, by rw [hws]; exact (setRow_other _ _ _ _ h23'.out).trans hz2⟩); clear hws)
  | ((with_reducible refine gate_dst (N := 14) rfl ?_); refine Kd.event_run rfl (exec_load_blk rfl rfl HC1.out Try.underlying38 rfl (szO38 b)) ?_)
  | ((with_reducible refine gate_store (t := 38) (p := 2) rfl ?_); obtain ⟨z9, hz9, hz8⟩ := HZ1.out; refine store_event (t := 38) (p := 2) rfl rfl rfl (exec_store_row (n := 0) (vs := b.A) rfl rfl rfl hz8 (by rw [hz9, Flat.size]; decide) b.one (szO38 b)) ?_; intro wt hwt; have HR := Lib.hid (show wt.heap[g2]? = some (.cells b.A 38 (0, 0)) by rw [hwt]; exact setRow_whole hz8 (by rw [hz9, Flat.size])); have HD2 := Lib.hid (show Below w.heap.size w wt by rw [hwt]; exact below_setRow HD1.out h2.out _); clear hwt hz8 hz9))
 (try simp only [Exit.inBlock, Exit.then])
 refine bodyPost_ret (results_cell rfl rfl (run_load_blk _ _ _ _ _ HR.out Try.underlying38 rfl (szO38 b))) rfl ?_
 exact ⟨rfl, HD2.out⟩
def laws_toBay.f (a0 : O26) : Option (O38) := some a0
def laws_toGrounds.f (a0 : O28) : Option (O40) := some a0
theorem laws_toBay.calls (a0 : O26) (r : O38) (w : World) (h : laws_toBay.f a0 = some r) :
  Calls Try.prog 10 #[VO26 a0] w fun e w' => e = .returned (VO38 r) ∧ Below w.heap.size w w' := by
 obtain rfl := Option.some.inj h
 exact toBay_any a0 w
theorem laws_toGrounds.calls (a0 : O28) (r : O40) (w : World) (h : laws_toGrounds.f a0 = some r) :
  Calls Try.prog 11 #[VO28 a0] w fun e w' => e = .returned (VO40 r) ∧ Below w.heap.size w w' := by
 obtain rfl := Option.some.inj h
 have := toGrounds_any a0 w
 rw [Flat.sub_whole] at this
 exact this
end Go.Proofs.Ytmhmfhdmeedcfaa.G
end
