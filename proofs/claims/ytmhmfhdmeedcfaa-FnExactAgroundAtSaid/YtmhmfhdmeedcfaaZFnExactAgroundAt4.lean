/- A part of the proof of: FnExactAgroundAt returns true, whatever the input, and leaves its arguments as they were. -/
import Derived.Test.YtmhmfhdmeedcfaaProg
import Derived.Below
import Derived.Deep.Draws
import Derived.Deep.AppendLies
import Derived.Maps.AppendAt
import Derived.OwnWalk
import Derived.Laws.BytesArg
import Derived.Laws.MakeOwn
import Derived.Laws.OwnMore
import Derived.Deep.OwnRows
import Derived.Tactics
import Derived.Lib.ConvBytes
import Derived.Laws.Slices
import Derived.WalkKit
import Derived.KernelRfl
import Derived.RowKit3
import Derived.Deep.LoopGhost
import Derived.Deep.QuietTactic
import Derived.BigQuiet
import Derived.WideLaws
import Derived.Deep.DeepCutAuto
import Derived.Deep.CutBlock
import Derived.Deep.RegionHeld3
import Derived.Laws.Rows
import Derived.Lib.AppendStr
import Derived.ArgAppend
import Derived.Laws.IdiomCopy
import Derived.OrdersHeld
import Derived.Laws.BitsLemmas
import Derived.RowKit
import Derived.Laws.StructEq
import Derived.Deep.Slices
import Derived.ChangeSame
import Derived.ChangeArms
import Derived.OpenShut
import Derived.ProofKit
import Derived.Laws.Tables
import Derived.Lib.Hide
import Derived.Laws.CopyOwn
import Derived.Laws.CopyRow
import Derived.Test.YtmhmfhdmeedcfaaZFnExactAgroundAt1
import Derived.Test.YtmhmfhdmeedcfaaZFnExactAgroundAt2
import Derived.Test.YtmhmfhdmeedcfaaZFnExactAgroundAt3
section
namespace Go.Proofs.Ytmhmfhdmeedcfaa.G
open Go.RowKit Go.Proofs.YtmhmfhdmeedcfaaW.PrintWords Go.Proofs.YtmhmfhdmeedcfaaW.PrintLast Go.Proofs.YtmhmfhdmeedcfaaW.PrintMore
attribute [local go_sem] max2_int min2_int max_two min_two max_three min_three max_four min_four   -- for this text's walks alone
set_option linter.unusedVariables false
set_option linter.unusedSimpArgs false
def IsS72 (w0 W : World) (g : Nat) (f0 : Int) (f1 : Int) (f2 : Int) (f3 : Int) (f4 : Int) (f5 : Int) (f6 : Bool) (f7 : Int) (f8 : Int) (f9 : Value) : Prop := W.heap[g]? = some (.cells #[.int .i8 f0, .int .i8 f1, .int .i8 f2, .int .i8 f3, .int .i8 f4, .int .i8 f5, .bool f6, .int .i64 f7, .int .i64 f8, f9] 72 (0, 0)) ∧ w0.heap.size ≤ g
theorem IsS72.grown {w0 W : World} {g : Nat} {f0 : Int} {f1 : Int} {f2 : Int} {f3 : Int} {f4 : Int} {f5 : Int} {f6 : Bool} {f7 : Int} {f8 : Int} {f9 : Value} {W1 : World} {row : Option Nat} (h : IsS72 w0 W g f0 f1 f2 f3 f4 f5 f6 f7 f8 f9) (hw : W.grownBy W1 row) (hne : some g ≠ row) : IsS72 w0 W1 g f0 f1 f2 f3 f4 f5 f6 f7 f8 f9 := by
  obtain ⟨hb, hg⟩ := h
  exact ⟨blk_grown hb hw hne, hg⟩
theorem IsS72.kept {w0 W : World} {g : Nat} {f0 : Int} {f1 : Int} {f2 : Int} {f3 : Int} {f4 : Int} {f5 : Int} {f6 : Bool} {f7 : Int} {f8 : Int} {f9 : Value} {W1 : World} {S : Nat → Prop} (h : IsS72 w0 W g f0 f1 f2 f3 f4 f5 f6 f7 f8 f9) (hk : Kept W W1 S) (hne : ¬ S g) : IsS72 w0 W1 g f0 f1 f2 f3 f4 f5 f6 f7 f8 f9 := by
  obtain ⟨hb, hg⟩ := h
  exact ⟨blk_kept hb hk hne, hg⟩
theorem IsS72.below {w0 W : World} {g : Nat} {f0 : Int} {f1 : Int} {f2 : Int} {f3 : Int} {f4 : Int} {f5 : Int} {f6 : Bool} {f7 : Int} {f8 : Int} {f9 : Value} {W1 : World} (h : IsS72 w0 W g f0 f1 f2 f3 f4 f5 f6 f7 f8 f9) (hw : Below W.heap.size W W1) : IsS72 w0 W1 g f0 f1 f2 f3 f4 f5 f6 f7 f8 f9 := h.grown (grown_of_below hw none) (by simp)
theorem IsS72.alloc {w0 W : World} {g : Nat} {f0 : Int} {f1 : Int} {f2 : Int} {f3 : Int} {f4 : Int} {f5 : Int} {f6 : Bool} {f7 : Int} {f8 : Int} {f9 : Value} (h : IsS72 w0 W g f0 f1 f2 f3 f4 f5 f6 f7 f8 f9) (o : Obj) : IsS72 w0 (W.alloc o) g f0 f1 f2 f3 f4 f5 f6 f7 f8 f9 := h.below (below_alloc (Below.refl _ _) o)
theorem IsS72.drewN {w0 W : World} {g : Nat} {f0 : Int} {f1 : Int} {f2 : Int} {f3 : Int} {f4 : Int} {f5 : Int} {f6 : Bool} {f7 : Int} {f8 : Int} {f9 : Value} (h : IsS72 w0 W g f0 f1 f2 f3 f4 f5 f6 f7 f8 f9) (m : Nat) : IsS72 w0 (W.drewN m) g f0 f1 f2 f3 f4 f5 f6 f7 f8 f9 := h
theorem IsS72.drew {w0 W : World} {g : Nat} {f0 : Int} {f1 : Int} {f2 : Int} {f3 : Int} {f4 : Int} {f5 : Int} {f6 : Bool} {f7 : Int} {f8 : Int} {f9 : Value} (h : IsS72 w0 W g f0 f1 f2 f3 f4 f5 f6 f7 f8 f9) : IsS72 w0 W.drew g f0 f1 f2 f3 f4 f5 f6 f7 f8 f9 := h
theorem IsS72.at_ {w0 W : World} {g : Nat} {f0 : Int} {f1 : Int} {f2 : Int} {f3 : Int} {f4 : Int} {f5 : Int} {f6 : Bool} {f7 : Int} {f8 : Int} {f9 : Value} {w' : World} {m : Nat} (hq : W.drewN m = w') (h : IsS72 w0 W g f0 f1 f2 f3 f4 f5 f6 f7 f8 f9) : IsS72 w0 w' g f0 f1 f2 f3 f4 f5 f6 f7 f8 f9 := by subst hq; exact IsS72.drewN h m
theorem IsS72.apart {w0 W : World} {g : Nat} {f0 : Int} {f1 : Int} {f2 : Int} {f3 : Int} {f4 : Int} {f5 : Int} {f6 : Bool} {f7 : Int} {f8 : Int} {f9 : Value} {α : Type} {d : Kd α} {e : Nat} {base : Nat} {ok : Nat → Prop} {v : Value} {xs : List α} (h : IsS72 w0 W g f0 f1 f2 f3 f4 f5 f6 f7 f8 f9) (ho : d.R e W base ok v xs) (ht : ∀ q, q ∈ e :: d.E → q ≠ 72) : d.R e W base (fun k => ok k ∧ k ≠ g) v xs := by
  obtain ⟨hb, hg⟩ := h
  exact Kd.R_types ho hb ht
theorem IsS72.own_ne {w0 W : World} {g : Nat} {f0 : Int} {f1 : Int} {f2 : Int} {f3 : Int} {f4 : Int} {f5 : Int} {f6 : Bool} {f7 : Int} {f8 : Int} {f9 : Value} {α : Type} {d : Kd α} {e : Nat} {base : Nat} {ok : Nat → Prop} {v : Value} {xs : List α} (h : IsS72 w0 W g f0 f1 f2 f3 f4 f5 f6 f7 f8 f9) (ho : d.R e W base ok v xs) (ht : e ≠ 72) : some g ≠ v.ownBlock := by
  obtain ⟨hb, hg⟩ := h
  exact Kd.R_ne ho hb ht
theorem IsS72.lt {w0 W : World} {g : Nat} {f0 : Int} {f1 : Int} {f2 : Int} {f3 : Int} {f4 : Int} {f5 : Int} {f6 : Bool} {f7 : Int} {f8 : Int} {f9 : Value} (h : IsS72 w0 W g f0 f1 f2 f3 f4 f5 f6 f7 f8 f9) : g < W.heap.size := by
  obtain ⟨hb, hg⟩ := h
  exact blk_lt hb
theorem IsS72.ge {w0 W : World} {g : Nat} {f0 : Int} {f1 : Int} {f2 : Int} {f3 : Int} {f4 : Int} {f5 : Int} {f6 : Bool} {f7 : Int} {f8 : Int} {f9 : Value} (h : IsS72 w0 W g f0 f1 f2 f3 f4 f5 f6 f7 f8 f9) : w0.heap.size ≤ g := by
  obtain ⟨hb, hg⟩ := h
  exact hg
theorem IsS72.ne_blk {w0 W : World} {g : Nat} {f0 : Int} {f1 : Int} {f2 : Int} {f3 : Int} {f4 : Int} {f5 : Int} {f6 : Bool} {f7 : Int} {f8 : Int} {f9 : Value} {a : Nat} {cs : Array Value} {t : TypeId} {fr : Nat × Nat} (h : IsS72 w0 W g f0 f1 f2 f3 f4 f5 f6 f7 f8 f9) (hb2 : W.heap[a]? = some (.cells cs t fr)) (ht : t ≠ 72) : g ≠ a := by
  obtain ⟨hb, hg⟩ := h
  rintro rfl
  rw [hb] at hb2
  injection hb2 with hb2
  injection hb2 with _ ht2
  exact ht ht2.symm
theorem IsS72.far {w0 W : World} {g : Nat} {f0 : Int} {f1 : Int} {f2 : Int} {f3 : Int} {f4 : Int} {f5 : Int} {f6 : Bool} {f7 : Int} {f8 : Int} {f9 : Value} {p : Addr} (h : IsS72 w0 W g f0 f1 f2 f3 f4 f5 f6 f7 f8 f9) (hne : g ≠ p.block) (u : Value) : IsS72 w0 (W.setCell p u) g f0 f1 f2 f3 f4 f5 f6 f7 f8 f9 := by
  obtain ⟨hb, hg⟩ := h
  exact ⟨blk_far hb hne u, hg⟩
theorem cellS72_0 {W : World} {g : Nat} {f0 : Int} {f1 : Int} {f2 : Int} {f3 : Int} {f4 : Int} {f5 : Int} {f6 : Bool} {f7 : Int} {f8 : Int} {f9 : Value} (h : W.heap[g]? = some (.cells #[.int .i8 f0, .int .i8 f1, .int .i8 f2, .int .i8 f3, .int .i8 f4, .int .i8 f5, .bool f6, .int .i64 f7, .int .i64 f8, f9] 72 (0, 0))) : W.cell? ⟨g, 0, none⟩ = some (.int .i8 f0) := (blk_cell h 0).trans rfl
theorem IsS72.set_0 {w0 W : World} {g : Nat} {f0 : Int} {f1 : Int} {f2 : Int} {f3 : Int} {f4 : Int} {f5 : Int} {f6 : Bool} {f7 : Int} {f8 : Int} {f9 : Value} (h : IsS72 w0 W g f0 f1 f2 f3 f4 f5 f6 f7 f8 f9) (x : Int) : IsS72 w0 (W.setCell ⟨g, 0, none⟩ (.int .i8 x)) g x f1 f2 f3 f4 f5 f6 f7 f8 f9 := by
  obtain ⟨hb, hg⟩ := h
  exact ⟨by simpa using blk_set hb 0 (.int .i8 x), hg⟩
theorem cellS72_1 {W : World} {g : Nat} {f0 : Int} {f1 : Int} {f2 : Int} {f3 : Int} {f4 : Int} {f5 : Int} {f6 : Bool} {f7 : Int} {f8 : Int} {f9 : Value} (h : W.heap[g]? = some (.cells #[.int .i8 f0, .int .i8 f1, .int .i8 f2, .int .i8 f3, .int .i8 f4, .int .i8 f5, .bool f6, .int .i64 f7, .int .i64 f8, f9] 72 (0, 0))) : W.cell? ⟨g, 1, none⟩ = some (.int .i8 f1) := (blk_cell h 1).trans rfl
theorem IsS72.set_1 {w0 W : World} {g : Nat} {f0 : Int} {f1 : Int} {f2 : Int} {f3 : Int} {f4 : Int} {f5 : Int} {f6 : Bool} {f7 : Int} {f8 : Int} {f9 : Value} (h : IsS72 w0 W g f0 f1 f2 f3 f4 f5 f6 f7 f8 f9) (x : Int) : IsS72 w0 (W.setCell ⟨g, 1, none⟩ (.int .i8 x)) g f0 x f2 f3 f4 f5 f6 f7 f8 f9 := by
  obtain ⟨hb, hg⟩ := h
  exact ⟨by simpa using blk_set hb 1 (.int .i8 x), hg⟩
theorem cellS72_2 {W : World} {g : Nat} {f0 : Int} {f1 : Int} {f2 : Int} {f3 : Int} {f4 : Int} {f5 : Int} {f6 : Bool} {f7 : Int} {f8 : Int} {f9 : Value} (h : W.heap[g]? = some (.cells #[.int .i8 f0, .int .i8 f1, .int .i8 f2, .int .i8 f3, .int .i8 f4, .int .i8 f5, .bool f6, .int .i64 f7, .int .i64 f8, f9] 72 (0, 0))) : W.cell? ⟨g, 2, none⟩ = some (.int .i8 f2) := (blk_cell h 2).trans rfl
theorem IsS72.set_2 {w0 W : World} {g : Nat} {f0 : Int} {f1 : Int} {f2 : Int} {f3 : Int} {f4 : Int} {f5 : Int} {f6 : Bool} {f7 : Int} {f8 : Int} {f9 : Value} (h : IsS72 w0 W g f0 f1 f2 f3 f4 f5 f6 f7 f8 f9) (x : Int) : IsS72 w0 (W.setCell ⟨g, 2, none⟩ (.int .i8 x)) g f0 f1 x f3 f4 f5 f6 f7 f8 f9 := by
  obtain ⟨hb, hg⟩ := h
  exact ⟨by simpa using blk_set hb 2 (.int .i8 x), hg⟩
theorem cellS72_3 {W : World} {g : Nat} {f0 : Int} {f1 : Int} {f2 : Int} {f3 : Int} {f4 : Int} {f5 : Int} {f6 : Bool} {f7 : Int} {f8 : Int} {f9 : Value} (h : W.heap[g]? = some (.cells #[.int .i8 f0, .int .i8 f1, .int .i8 f2, .int .i8 f3, .int .i8 f4, .int .i8 f5, .bool f6, .int .i64 f7, .int .i64 f8, f9] 72 (0, 0))) : W.cell? ⟨g, 3, none⟩ = some (.int .i8 f3) := (blk_cell h 3).trans rfl
theorem IsS72.set_3 {w0 W : World} {g : Nat} {f0 : Int} {f1 : Int} {f2 : Int} {f3 : Int} {f4 : Int} {f5 : Int} {f6 : Bool} {f7 : Int} {f8 : Int} {f9 : Value} (h : IsS72 w0 W g f0 f1 f2 f3 f4 f5 f6 f7 f8 f9) (x : Int) : IsS72 w0 (W.setCell ⟨g, 3, none⟩ (.int .i8 x)) g f0 f1 f2 x f4 f5 f6 f7 f8 f9 := by
  obtain ⟨hb, hg⟩ := h
  exact ⟨by simpa using blk_set hb 3 (.int .i8 x), hg⟩
theorem cellS72_4 {W : World} {g : Nat} {f0 : Int} {f1 : Int} {f2 : Int} {f3 : Int} {f4 : Int} {f5 : Int} {f6 : Bool} {f7 : Int} {f8 : Int} {f9 : Value} (h : W.heap[g]? = some (.cells #[.int .i8 f0, .int .i8 f1, .int .i8 f2, .int .i8 f3, .int .i8 f4, .int .i8 f5, .bool f6, .int .i64 f7, .int .i64 f8, f9] 72 (0, 0))) : W.cell? ⟨g, 4, none⟩ = some (.int .i8 f4) := (blk_cell h 4).trans rfl
theorem IsS72.set_4 {w0 W : World} {g : Nat} {f0 : Int} {f1 : Int} {f2 : Int} {f3 : Int} {f4 : Int} {f5 : Int} {f6 : Bool} {f7 : Int} {f8 : Int} {f9 : Value} (h : IsS72 w0 W g f0 f1 f2 f3 f4 f5 f6 f7 f8 f9) (x : Int) : IsS72 w0 (W.setCell ⟨g, 4, none⟩ (.int .i8 x)) g f0 f1 f2 f3 x f5 f6 f7 f8 f9 := by
  obtain ⟨hb, hg⟩ := h
  exact ⟨by simpa using blk_set hb 4 (.int .i8 x), hg⟩
theorem cellS72_5 {W : World} {g : Nat} {f0 : Int} {f1 : Int} {f2 : Int} {f3 : Int} {f4 : Int} {f5 : Int} {f6 : Bool} {f7 : Int} {f8 : Int} {f9 : Value} (h : W.heap[g]? = some (.cells #[.int .i8 f0, .int .i8 f1, .int .i8 f2, .int .i8 f3, .int .i8 f4, .int .i8 f5, .bool f6, .int .i64 f7, .int .i64 f8, f9] 72 (0, 0))) : W.cell? ⟨g, 5, none⟩ = some (.int .i8 f5) := (blk_cell h 5).trans rfl
theorem IsS72.set_5 {w0 W : World} {g : Nat} {f0 : Int} {f1 : Int} {f2 : Int} {f3 : Int} {f4 : Int} {f5 : Int} {f6 : Bool} {f7 : Int} {f8 : Int} {f9 : Value} (h : IsS72 w0 W g f0 f1 f2 f3 f4 f5 f6 f7 f8 f9) (x : Int) : IsS72 w0 (W.setCell ⟨g, 5, none⟩ (.int .i8 x)) g f0 f1 f2 f3 f4 x f6 f7 f8 f9 := by
  obtain ⟨hb, hg⟩ := h
  exact ⟨by simpa using blk_set hb 5 (.int .i8 x), hg⟩
theorem cellS72_6 {W : World} {g : Nat} {f0 : Int} {f1 : Int} {f2 : Int} {f3 : Int} {f4 : Int} {f5 : Int} {f6 : Bool} {f7 : Int} {f8 : Int} {f9 : Value} (h : W.heap[g]? = some (.cells #[.int .i8 f0, .int .i8 f1, .int .i8 f2, .int .i8 f3, .int .i8 f4, .int .i8 f5, .bool f6, .int .i64 f7, .int .i64 f8, f9] 72 (0, 0))) : W.cell? ⟨g, 6, none⟩ = some (.bool f6) := (blk_cell h 6).trans rfl
theorem IsS72.set_6 {w0 W : World} {g : Nat} {f0 : Int} {f1 : Int} {f2 : Int} {f3 : Int} {f4 : Int} {f5 : Int} {f6 : Bool} {f7 : Int} {f8 : Int} {f9 : Value} (h : IsS72 w0 W g f0 f1 f2 f3 f4 f5 f6 f7 f8 f9) (x : Bool) : IsS72 w0 (W.setCell ⟨g, 6, none⟩ (.bool x)) g f0 f1 f2 f3 f4 f5 x f7 f8 f9 := by
  obtain ⟨hb, hg⟩ := h
  exact ⟨by simpa using blk_set hb 6 (.bool x), hg⟩
theorem cellS72_7 {W : World} {g : Nat} {f0 : Int} {f1 : Int} {f2 : Int} {f3 : Int} {f4 : Int} {f5 : Int} {f6 : Bool} {f7 : Int} {f8 : Int} {f9 : Value} (h : W.heap[g]? = some (.cells #[.int .i8 f0, .int .i8 f1, .int .i8 f2, .int .i8 f3, .int .i8 f4, .int .i8 f5, .bool f6, .int .i64 f7, .int .i64 f8, f9] 72 (0, 0))) : W.cell? ⟨g, 7, none⟩ = some (.int .i64 f7) := (blk_cell h 7).trans rfl
theorem IsS72.set_7 {w0 W : World} {g : Nat} {f0 : Int} {f1 : Int} {f2 : Int} {f3 : Int} {f4 : Int} {f5 : Int} {f6 : Bool} {f7 : Int} {f8 : Int} {f9 : Value} (h : IsS72 w0 W g f0 f1 f2 f3 f4 f5 f6 f7 f8 f9) (x : Int) : IsS72 w0 (W.setCell ⟨g, 7, none⟩ (.int .i64 x)) g f0 f1 f2 f3 f4 f5 f6 x f8 f9 := by
  obtain ⟨hb, hg⟩ := h
  exact ⟨by simpa using blk_set hb 7 (.int .i64 x), hg⟩
theorem cellS72_8 {W : World} {g : Nat} {f0 : Int} {f1 : Int} {f2 : Int} {f3 : Int} {f4 : Int} {f5 : Int} {f6 : Bool} {f7 : Int} {f8 : Int} {f9 : Value} (h : W.heap[g]? = some (.cells #[.int .i8 f0, .int .i8 f1, .int .i8 f2, .int .i8 f3, .int .i8 f4, .int .i8 f5, .bool f6, .int .i64 f7, .int .i64 f8, f9] 72 (0, 0))) : W.cell? ⟨g, 8, none⟩ = some (.int .i64 f8) := (blk_cell h 8).trans rfl
theorem IsS72.set_8 {w0 W : World} {g : Nat} {f0 : Int} {f1 : Int} {f2 : Int} {f3 : Int} {f4 : Int} {f5 : Int} {f6 : Bool} {f7 : Int} {f8 : Int} {f9 : Value} (h : IsS72 w0 W g f0 f1 f2 f3 f4 f5 f6 f7 f8 f9) (x : Int) : IsS72 w0 (W.setCell ⟨g, 8, none⟩ (.int .i64 x)) g f0 f1 f2 f3 f4 f5 f6 f7 x f9 := by
  obtain ⟨hb, hg⟩ := h
  exact ⟨by simpa using blk_set hb 8 (.int .i64 x), hg⟩
theorem cellS72_9 {W : World} {g : Nat} {f0 : Int} {f1 : Int} {f2 : Int} {f3 : Int} {f4 : Int} {f5 : Int} {f6 : Bool} {f7 : Int} {f8 : Int} {f9 : Value} (h : W.heap[g]? = some (.cells #[.int .i8 f0, .int .i8 f1, .int .i8 f2, .int .i8 f3, .int .i8 f4, .int .i8 f5, .bool f6, .int .i64 f7, .int .i64 f8, f9] 72 (0, 0))) : W.cell? ⟨g, 9, none⟩ = some (f9) := (blk_cell h 9).trans rfl
theorem IsS72.set_9 {w0 W : World} {g : Nat} {f0 : Int} {f1 : Int} {f2 : Int} {f3 : Int} {f4 : Int} {f5 : Int} {f6 : Bool} {f7 : Int} {f8 : Int} {f9 : Value} (h : IsS72 w0 W g f0 f1 f2 f3 f4 f5 f6 f7 f8 f9) (x : Value) : IsS72 w0 (W.setCell ⟨g, 9, none⟩ x) g f0 f1 f2 f3 f4 f5 f6 f7 f8 x := by
  obtain ⟨hb, hg⟩ := h
  exact ⟨by simpa using blk_set hb 9 x, hg⟩
mutual
def spec_l07Drift_hour.j0 : Nat → Int → Bool → Int → Int → Int → Int → Int → Int → Bool → Int → Int → Value → O38 → O40 → Int → Int → Option (Int × Int × Int × Int × Int × Int × Bool × Int × Int)
  | 0, _, _, _, _, _, _, _, _, _, _, _, _, _, _, _, _ => none
  | k + 1, x4, x26, x1000, x1001, x1002, x1003, x1004, x1005, x1006, x1007, x1008, x1009, x135000, x136000, x137000, x137001 => if x26 = true then (if x1007 < 0 then (spec_l07Drift_hour.j1 k x4 x1000 x1001 x1002 x1003 x1004 x1005 x1006 x4 x1008 x1009 x135000 x136000 x137000 x137001) else (spec_l07Drift_hour.j1 k x4 x1000 x1001 x1002 x1003 x1004 x1005 x1006 x1007 x1008 x1009 x135000 x136000 x137000 x137001)) else (spec_l07Drift_hour.j3 k x1000 x1001 x1002 x1003 x1004 x1005 x1006 x1007 x1008 x1009)
def spec_l07Drift_hour.j3 : Nat → Int → Int → Int → Int → Int → Int → Bool → Int → Int → Value → Option (Int × Int × Int × Int × Int × Int × Bool × Int × Int)
  | 0, _, _, _, _, _, _, _, _, _, _ => none
  | k + 1, x1000, x1001, x1002, x1003, x1004, x1005, x1006, x1007, x1008, x1009 => some (x1000, x1001, x1002, x1003, x1004, x1005, x1006, x1007, x1008)
def spec_l07Drift_hour.j1 : Nat → Int → Int → Int → Int → Int → Int → Int → Bool → Int → Int → Value → O38 → O40 → Int → Int → Option (Int × Int × Int × Int × Int × Int × Bool × Int × Int)
  | 0, _, _, _, _, _, _, _, _, _, _, _, _, _, _, _ => none
  | k + 1, x4, x1000, x1001, x1002, x1003, x1004, x1005, x1006, x1007, x1008, x1009, x135000, x136000, x137000, x137001 => (spec_l07Once.f k x135000 x136000 x1000 x1001 x1002 x1003 x1004 x1005 x137000 x137001).bind fun bt138 => (if bt138.2.2.2.2.2.2 = true then (spec_l07Drift_hour.j2 k bt138.1 bt138.2.1 bt138.2.2.1 bt138.2.2.2.1 bt138.2.2.2.2.1 bt138.2.2.2.2.2.1 bt138.2.2.2.2.2.2 x1007 x4 x1009) else (spec_l07Drift_hour.j2 k bt138.1 bt138.2.1 bt138.2.2.1 bt138.2.2.2.1 bt138.2.2.2.2.1 bt138.2.2.2.2.2.1 bt138.2.2.2.2.2.2 x1007 x1008 x1009))
def spec_l07Drift_hour.j2 : Nat → Int → Int → Int → Int → Int → Int → Bool → Int → Int → Value → Option (Int × Int × Int × Int × Int × Int × Bool × Int × Int)
  | 0, _, _, _, _, _, _, _, _, _, _ => none
  | k + 1, x1000, x1001, x1002, x1003, x1004, x1005, x1006, x1007, x1008, x1009 => spec_l07Drift_hour.j3 k x1000 x1001 x1002 x1003 x1004 x1005 x1006 x1007 x1008 x1009
end
def spec_l07Drift_hour.f (k : Nat) (s0_0 : Int) (s0_1 : Int) (s0_2 : Int) (s0_3 : Int) (s0_4 : Int) (s0_5 : Int) (s0_6 : Bool) (s0_7 : Int) (s0_8 : Int) (s0_9 : Value) (a1 : O38) (a2 : O40) (a3_0 : Int) (a3_1 : Int) (a4 : Int) : Option (Int × Int × Int × Int × Int × Int × Bool × Int × Int) := if s0_6 = true then (spec_l07Drift_hour.j0 k a4 false s0_0 s0_1 s0_2 s0_3 s0_4 s0_5 s0_6 s0_7 s0_8 s0_9 a1 a2 a3_0 a3_1) else ((spec_l07Drags.f a1 a2 s0_0 s0_1 s0_2 s0_3 s0_4 s0_5 a3_0 a3_1).bind fun t137 => (spec_l07Drift_hour.j0 k a4 t137 s0_0 s0_1 s0_2 s0_3 s0_4 s0_5 s0_6 s0_7 s0_8 s0_9 a1 a2 a3_0 a3_1))
def spec_l07Drift_hour.T1 : Bool × List (List Nat × List Nat) := (true, [([], []), ([0], [0]), ([1], [1]), ([2], [2]), ([3], [3]), ([4], [4]), ([5], [5]), ([5], [5]), ([5], [5]), ([8, 5], [5, 8]), ([9, 5], [5, 9]), ([10, 5], [5, 10]), ([5], [5]), ([6, 7, 11, 12, 5, 5], [5, 6, 7, 11, 12]), ([5, 13], [5, 13])])
def spec_l07Drift_hour.B1 : List Nat := [0, 1, 3, 7, 15, 31, 63, 63, 63, 319, 831, 1855, 63, 8191, 16383]
theorem spec_l07Drift_hour.tab1 : rtab .any (opsOf Try.f52 1) = spec_l07Drift_hour.T1 := by kernel_rfl
theorem spec_l07Drift_hour.bits1 : waitsOk spec_l07Drift_hour.T1.2 spec_l07Drift_hour.B1 = true := by kernel_rfl
def spec_l07Drift_hour.T4 : Bool × List (List Nat × List Nat) := (true, [([], []), ([], []), ([], []), ([2], [2]), ([3], [3]), ([4], [4]), ([], []), ([0, 1, 5, 6], [0, 1, 5, 6]), ([7], [7]), ([8], [8]), ([8], [8]), ([], []), ([11, 9, 7, 0, 1, 2, 3, 4, 5, 6, 7, 8, 9, 11], [9, 11]), ([10, 12, 0, 1, 2, 3, 4, 5, 6, 7, 8, 9, 10, 11, 12], [10])])
def spec_l07Drift_hour.B4 : List Nat := [0, 0, 0, 4, 12, 28, 0, 127, 255, 511, 511, 0, 3071, 8191]
theorem spec_l07Drift_hour.tab4 : rtab .any (opsOf Try.f52 4) = spec_l07Drift_hour.T4 := by kernel_rfl
theorem spec_l07Drift_hour.bits4 : waitsOk spec_l07Drift_hour.T4.2 spec_l07Drift_hour.B4 = true := by kernel_rfl
set_option maxHeartbeats 8000000 in
set_option maxRecDepth 100000 in
theorem spec_l07Drift_hour.calls (k : Nat) (g : Nat) (s0_0 : Int) (s0_1 : Int) (s0_2 : Int) (s0_3 : Int) (s0_4 : Int) (s0_5 : Int) (s0_6 : Bool) (s0_7 : Int) (s0_8 : Int) (s0_9 : Value) (gp1 : Nat) (a1 : O38) (gp2 : Nat) (a2 : O40) (a3_0 : Int) (a3_1 : Int) (a4 : Int) (r1 : Int) (r2 : Int) (r3 : Int) (r4 : Int) (r5 : Int) (r6 : Int) (r7 : Bool) (r8 : Int) (r9 : Int) (acc : List S42) (w0 w : World) (hO : Kd.R k42 42 w w0.heap.size (fun _ => True) s0_9 acc) (hlen : acc.length < 1000000) (hp1 : w.heap[gp1]? = some (.cells (a1).A 38 (0, 0))) (hp2 : w.heap[gp2]? = some (.cells (a2).A 40 (0, 0))) (hI : IsS72 w0 w g s0_0 s0_1 s0_2 s0_3 s0_4 s0_5 s0_6 s0_7 s0_8 s0_9) (hB : Below w0.heap.size w0 w) (h : spec_l07Drift_hour.f k s0_0 s0_1 s0_2 s0_3 s0_4 s0_5 s0_6 s0_7 s0_8 s0_9 a1 a2 a3_0 a3_1 a4 = some (r1, r2, r3, r4, r5, r6, r7, r8, r9)) :
    Calls Try.prog 52 #[.pointer (some ⟨g, 0, none⟩), .pointer (some ⟨gp1, 0, none⟩), .pointer (some ⟨gp2, 0, none⟩), .agg #[.int .i8 a3_0, .int .i8 a3_1], .int .i64 a4] w fun e w' => ∃ v_ : Value, e = .returned (.tuple #[]) ∧ IsS72 w0 w' g r1 r2 r3 r4 r5 r6 r7 r8 r9 v_ ∧ Kd.R k42 42 w' w0.heap.size (fun _ => True) v_ (acc ++ [(⟨r1, r2⟩ : S42)]) ∧ Below w0.heap.size w0 w' := by
  have HO0 := Aside0.mk (IsS72.apart hI hO (by decide))
  have HLN := Aside0.mk hlen
  clear hO hlen
  have hu78 := Try.underlying78
  have hu44 := Try.underlying44
  have hu42 := Try.underlying42
  have BK134 := Aside0.mk hp1
  clear hp1
  have BK135 := Aside0.mk hp2
  clear hp2
  have HI0 := Aside0.mk hI
  have HK := Aside0.mk (KeepBut.refl w g none)
  have HL := Aside0.mk hB.size
  clear hI
  have HW0 := Aside0.mk hB.size
  have HB := Aside0.mk hB
  clear hB
  have H : (if s0_6 = true then (spec_l07Drift_hour.j0 k a4 false s0_0 s0_1 s0_2 s0_3 s0_4 s0_5 s0_6 s0_7 s0_8 s0_9 a1 a2 a3_0 a3_1) else ((spec_l07Drags.f a1 a2 s0_0 s0_1 s0_2 s0_3 s0_4 s0_5 a3_0 a3_1).bind fun t137 => (spec_l07Drift_hour.j0 k a4 t137 s0_0 s0_1 s0_2 s0_3 s0_4 s0_5 s0_6 s0_7 s0_8 s0_9 a1 a2 a3_0 a3_1))) = some (r1, r2, r3, r4, r5, r6, r7, r8, r9) := h
  clear h
  have HC6 := Aside0.mk H
  clear H
  have NB0_134 := Aside0.mk (IsS72.ne_blk HI0.out BK134.out (by decide))
  have NB134_0 := Aside0.mk (Ne.symm NB0_134.out)
  have NB0_135 := Aside0.mk (IsS72.ne_blk HI0.out BK135.out (by decide))
  have NB135_0 := Aside0.mk (Ne.symm NB0_135.out)
  go_enter Try.func52, Try.ntmps52
  go_upto_region 1 with (first | ((with_reducible refine gate_dst (N := 8) rfl ?_); refine box_event ?hg (N := 8) ?hd (cs := #[.int .i8 a3_0, .int .i8 a3_1]) (t := 78) ?hr ?_; (case hd => rfl); (case hg => rfl); (case hr => first | (go_simp; done) | (go_simp; rfl)); intro gb136 hg w7 hbox hb; have n0_ := Aside0.mk (sqB BK134.out hb); have n1_ := Aside0.mk (sqB BK135.out hb); have n2_ := Aside0.mk (IsS72.below (by repeat (first | (with_reducible first | exact HI0.out | apply IsS72.alloc | apply IsS72.drewN | apply IsS72.drew | apply IsS72.set_0 | apply IsS72.set_1 | apply IsS72.set_2 | apply IsS72.set_3 | apply IsS72.set_4 | apply IsS72.set_5 | apply IsS72.set_6 | apply IsS72.set_7 | apply IsS72.set_8 | refine IsS72.far ?_ NB0_134.out _ | refine IsS72.far ?_ NB0_135.out _) | exact HI0.out)) hb); have n3_ := Aside0.mk (KeepBut.trans (by repeat (first | (with_reducible first | exact HK.out | apply KeepBut.set_ | apply keep_drewN | apply keep_drew | apply keep_alloc | refine keep_far ?_ GW134.out _ | refine keep_far ?_ GW135.out _) | exact HK.out)) (KeepBut.of_below hb g none) (.inl rfl)); have n4_ := Aside0.mk (below_step (by repeat (first | (with_reducible first | exact HB.out | apply below_alloc | apply pw_below_drewN | apply below_drew1 | refine below_set ?_ (IsS72.ge HI0.out) | refine below_set ?_ GE134.out | refine below_set ?_ GE135.out) | exact HB.out)) hb); have n5_ := Aside0.mk (hbox); have n6_ := Aside0.mk ((by rw [hg]; exact (keep_size (w := w) (g := g) (row := none) (by repeat (first | (with_reducible first | exact HK.out | apply KeepBut.set_ | apply keep_drewN | apply keep_drew | apply keep_alloc | refine keep_far ?_ GW134.out _ | refine keep_far ?_ GW135.out _) | exact HK.out))) : w.heap.size ≤ gb136)); have n7_ := Aside0.mk ((Nat.le_trans HW0.out (by rw [hg]; exact (keep_size (w := w) (g := g) (row := none) (by repeat (first | (with_reducible first | exact HK.out | apply KeepBut.set_ | apply keep_drewN | apply keep_drew | apply keep_alloc | refine keep_far ?_ GW134.out _ | refine keep_far ?_ GW135.out _) | exact HK.out))) : w.heap.size ≤ gb136) : w0.heap.size ≤ gb136)); have n8_ := Aside0.mk ((by rw [hg]; exact Nat.ne_of_lt (blk_lt (g := gp1) (o := .cells (a1).A 38 (0, 0)) (sqO BK134.out)) : gp1 ≠ gb136)); have n9_ := Aside0.mk (Ne.symm n8_.out); have n10_ := Aside0.mk ((by rw [hg]; exact Nat.ne_of_lt (blk_lt (g := gp2) (o := .cells (a2).A 40 (0, 0)) (sqO BK135.out)) : gp2 ≠ gb136)); have n11_ := Aside0.mk (Ne.symm n10_.out); have n12_ := Aside0.mk ((by rw [hg]; exact Nat.ne_of_lt (IsS72.lt (show IsS72 w0 _ g s0_0 s0_1 s0_2 s0_3 s0_4 s0_5 s0_6 s0_7 s0_8 s0_9 from by repeat (first | (with_reducible first | exact HI0.out | apply IsS72.alloc | apply IsS72.drewN | apply IsS72.drew | apply IsS72.set_0 | apply IsS72.set_1 | apply IsS72.set_2 | apply IsS72.set_3 | apply IsS72.set_4 | apply IsS72.set_5 | apply IsS72.set_6 | apply IsS72.set_7 | apply IsS72.set_8 | refine IsS72.far ?_ NB0_134.out _ | refine IsS72.far ?_ NB0_135.out _) | exact HI0.out))) : g ≠ gb136)); have n13_ := Aside0.mk ((by rw [hg]; exact Nat.ne_of_gt (IsS72.lt (show IsS72 w0 _ g s0_0 s0_1 s0_2 s0_3 s0_4 s0_5 s0_6 s0_7 s0_8 s0_9 from by repeat (first | (with_reducible first | exact HI0.out | apply IsS72.alloc | apply IsS72.drewN | apply IsS72.drew | apply IsS72.set_0 | apply IsS72.set_1 | apply IsS72.set_2 | apply IsS72.set_3 | apply IsS72.set_4 | apply IsS72.set_5 | apply IsS72.set_6 | apply IsS72.set_7 | apply IsS72.set_8 | refine IsS72.far ?_ NB0_134.out _ | refine IsS72.far ?_ NB0_135.out _) | exact HI0.out))) : gb136 ≠ g)); clear BK134; clear BK135; clear HI0; clear HK; clear HB; have BK134 := n0_; have BK135 := n1_; have HI0 := n2_; have HK := n3_; have HB := n4_; have BK136 := n5_; have GW136 := n6_; have GE136 := n7_; have NB134_136 := n8_; have NB136_134 := n9_; have NB135_136 := n10_; have NB136_135 := n11_; have NB0_136 := n12_; have NB136_0 := n13_; clear n0_ n1_ n2_ n3_ n4_ n5_ n6_ n7_ n8_ n9_ n10_ n11_ n12_ n13_; clear hb hbox hg))
  (try simp only [Act.put, List.setIfInBounds_toArray, List.set_cons_zero, List.set_cons_succ])
  go_cut [26] (fun v26 wc => ∃ (kq : Nat) (x26_5 : Bool), v26 = .bool x26_5 ∧ Aside0 (spec_l07Drift_hour.j0 kq a4 x26_5 s0_0 s0_1 s0_2 s0_3 s0_4 s0_5 s0_6 s0_7 s0_8 s0_9 a1 a2 a3_0 a3_1 = some (r1, r2, r3, r4, r5, r6, r7, r8, r9)) ∧ Aside0 (kq ≤ k) ∧ Aside0 (wc.heap[gp1]? = some (.cells (a1).A 38 (0, 0))) ∧ Aside0 (wc.heap[gp2]? = some (.cells (a2).A 40 (0, 0))) ∧ Aside0 (wc.heap[gb136]? = some (.cells #[.int .i8 a3_0, .int .i8 a3_1] 78 (0, 0))) ∧ Aside0 (IsS72 w0 wc g s0_0 s0_1 s0_2 s0_3 s0_4 s0_5 s0_6 s0_7 s0_8 s0_9) ∧ Aside0 (KeepBut w wc g none) ∧ Aside0 (Below w0.heap.size w0 wc))
  case first =>
    have H := HC6.out
    clear HC6
    by_cases c8 : s0_6 = true
    · subst c8
      have H1 : (spec_l07Drift_hour.j0 k a4 false s0_0 s0_1 s0_2 s0_3 s0_4 s0_5 true s0_7 s0_8 s0_9 a1 a2 a3_0 a3_1) = some (r1, r2, r3, r4, r5, r6, r7, r8, r9) := by rw [if_pos rfl] at H; exact H
      clear H
      have H := H1
      clear H1
      have H' := Aside0.mk H
      clear H
      try go_wp2
      have n0_ := Aside0.mk (blk_drew BK134.out)
      have n1_ := Aside0.mk (blk_drew BK135.out)
      have n2_ := Aside0.mk (blk_drew BK136.out)
      have n3_ := Aside0.mk (IsS72.drew HI0.out)
      have n4_ := Aside0.mk (keep_drew HK.out)
      have n5_ := Aside0.mk (below_drew1 HB.out)
      clear BK134
      clear BK135
      clear BK136
      clear HI0
      clear HK
      clear HB
      have BK134 := n0_
      have BK135 := n1_
      have BK136 := n2_
      have HI0 := n3_
      have HK := n4_
      have HB := n5_
      clear n0_ n1_ n2_ n3_ n4_ n5_
      refine start_ (n := 15) (S := fun w' => w'.cell? ⟨g, 0, none⟩ = some (.int .i8 s0_0) ∧ w'.cell? ⟨g, 1, none⟩ = some (.int .i8 s0_1) ∧ w'.cell? ⟨g, 2, none⟩ = some (.int .i8 s0_2) ∧ w'.cell? ⟨g, 3, none⟩ = some (.int .i8 s0_3) ∧ w'.cell? ⟨g, 4, none⟩ = some (.int .i8 s0_4) ∧ w'.cell? ⟨g, 5, none⟩ = some (.int .i8 s0_5) ∧ w'.cell? ⟨g, 6, none⟩ = some (.bool true) ∧ w'.cell? ⟨g, 7, none⟩ = some (.int .i64 s0_7) ∧ w'.cell? ⟨g, 8, none⟩ = some (.int .i64 s0_8)) (ds := []) #[false, false, false, false, false, false, false, false, false, false, false, false, false, false, false] (by kernel_rfl) rfl rfl ⟨(by obtain ⟨HG_, _⟩ := HI0.out; exact cellS72_0 HG_), (by obtain ⟨HG_, _⟩ := HI0.out; exact cellS72_1 HG_), (by obtain ⟨HG_, _⟩ := HI0.out; exact cellS72_2 HG_), (by obtain ⟨HG_, _⟩ := HI0.out; exact cellS72_3 HG_), (by obtain ⟨HG_, _⟩ := HI0.out; exact cellS72_4 HG_), (by obtain ⟨HG_, _⟩ := HI0.out; exact cellS72_5 HG_), (by obtain ⟨HG_, _⟩ := HI0.out; exact cellS72_6 HG_), (by obtain ⟨HG_, _⟩ := HI0.out; exact cellS72_7 HG_), (by obtain ⟨HG_, _⟩ := HI0.out; exact cellS72_8 HG_)⟩ (fun hHeld => ?_); refine with_tabW spec_l07Drift_hour.tab1 spec_l07Drift_hour.bits1 (fun HT_ HW_ => ?_)
      generalize w7.drew = w9 at BK134 BK135 BK136 HI0 HK HB hHeld ⊢
      refine pure_ (i := 0) (N := some 12) (v := ?_) (a' := ?_) #[true, false, false, false, false, false, false, false, false, false, false, false, false, false, false] rfl rfl (any_of HT_.out (by kernel_rfl)) (fun _ _ _ h => h) (Or.inl ⟨by rfl, ?_⟩) ?_ ?_
      rotate_left
      · intro w'
        go_simp
        with_reducible rfl
      rotate_left
      · simp only [Act.put, List.setIfInBounds_toArray, List.set_cons_zero, List.set_cons_succ, i64_w, i32_w]
        rfl
      refine pure_ (i := 1) (N := some 13) (v := ?_) (a' := ?_) #[true, true, false, false, false, false, false, false, false, false, false, false, false, false, false] rfl rfl (any_of HT_.out (by kernel_rfl)) (fun _ _ _ h => h) (Or.inl ⟨by rfl, ?_⟩) ?_ ?_
      rotate_left
      · intro w'
        go_simp
        with_reducible rfl
      rotate_left
      · simp only [Act.put, List.setIfInBounds_toArray, List.set_cons_zero, List.set_cons_succ, i64_w, i32_w]
        rfl
      refine pure_ (i := 2) (N := some 14) (v := ?_) (a' := ?_) #[true, true, true, false, false, false, false, false, false, false, false, false, false, false, false] rfl rfl (any_of HT_.out (by kernel_rfl)) (fun _ _ _ h => h) (Or.inl ⟨by rfl, ?_⟩) ?_ ?_
      rotate_left
      · intro w'
        go_simp
        with_reducible rfl
      rotate_left
      · simp only [Act.put, List.setIfInBounds_toArray, List.set_cons_zero, List.set_cons_succ, i64_w, i32_w]
        rfl
      refine take_ (i := 3) (N := some 15) (v := ?_) (a' := ?_) #[true, true, true, true, false, false, false, false, false, false, false, false, false, false, false] rfl rfl (take_ofW HT_.out HW_.out (by kernel_rfl)) (fun _ _ _ h => h) (Or.inl ⟨by rfl, ?_⟩) hHeld ?_ ?_
      rotate_left
      · rintro w' ⟨s0, s1, s2, s3, s4, s5, s6, s7, s8⟩
        go_simp
        with_reducible rfl
      rotate_left
      · simp only [Act.put, List.setIfInBounds_toArray, List.set_cons_zero, List.set_cons_succ, i64_w, i32_w]
        rfl
      refine pure_ (i := 4) (N := some 16) (v := ?_) (a' := ?_) #[true, true, true, true, true, false, false, false, false, false, false, false, false, false, false] rfl rfl (any_of HT_.out (by kernel_rfl)) (fun _ _ _ h => h) (Or.inl ⟨by rfl, ?_⟩) ?_ ?_
      rotate_left
      · intro w'
        go_simp
        with_reducible rfl
      rotate_left
      · simp only [Act.put, List.setIfInBounds_toArray, List.set_cons_zero, List.set_cons_succ, i64_w, i32_w]
        rfl
      refine pure_ (i := 5) (N := some 17) (v := ?_) (a' := ?_) #[true, true, true, true, true, true, false, false, false, false, false, false, false, false, false] rfl rfl (any_of HT_.out (by kernel_rfl)) (fun _ _ _ h => h) (Or.inl ⟨by rfl, ?_⟩) ?_ ?_
      rotate_left
      · intro w'
        go_simp
        with_reducible rfl
      rotate_left
      · simp only [Act.put, List.setIfInBounds_toArray, List.set_cons_zero, List.set_cons_succ, i64_w, i32_w]
        rfl
      refine pure_ (i := 6) (N := some 18) (v := undef) (a' := ?_) #[true, true, true, true, true, true, true, false, false, false, false, false, false, false, false] rfl rfl (any_of HT_.out (by kernel_rfl)) (fun _ _ _ h => h) (Or.inr ⟨by rfl, rfl⟩) ?_ ?_
      rotate_left
      · simp only [Act.put, List.setIfInBounds_toArray, List.set_cons_zero, List.set_cons_succ, i64_w, i32_w]
        rfl
      refine pure_ (i := 7) (N := some 19) (v := undef) (a' := ?_) #[true, true, true, true, true, true, true, true, false, false, false, false, false, false, false] rfl rfl (any_of HT_.out (by kernel_rfl)) (fun _ _ _ h => h) (Or.inr ⟨by rfl, rfl⟩) ?_ ?_
      rotate_left
      · simp only [Act.put, List.setIfInBounds_toArray, List.set_cons_zero, List.set_cons_succ, i64_w, i32_w]
        rfl
      refine pure_ (i := 8) (N := some 20) (v := undef) (a' := ?_) #[true, true, true, true, true, true, true, true, true, false, false, false, false, false, false] rfl rfl (any_of HT_.out (by kernel_rfl)) (fun _ _ _ h => h) (Or.inr ⟨by rfl, rfl⟩) ?_ ?_
      rotate_left
      · simp only [Act.put, List.setIfInBounds_toArray, List.set_cons_zero, List.set_cons_succ, i64_w, i32_w]
        rfl
      refine pure_ (i := 9) (N := some 21) (v := undef) (a' := ?_) #[true, true, true, true, true, true, true, true, true, true, false, false, false, false, false] rfl rfl (any_of HT_.out (by kernel_rfl)) (fun _ _ _ h => h) (Or.inr ⟨by rfl, rfl⟩) ?_ ?_
      rotate_left
      · simp only [Act.put, List.setIfInBounds_toArray, List.set_cons_zero, List.set_cons_succ, i64_w, i32_w]
        rfl
      refine pure_ (i := 10) (N := some 22) (v := undef) (a' := ?_) #[true, true, true, true, true, true, true, true, true, true, true, false, false, false, false] rfl rfl (any_of HT_.out (by kernel_rfl)) (fun _ _ _ h => h) (Or.inr ⟨by rfl, rfl⟩) ?_ ?_
      rotate_left
      · simp only [Act.put, List.setIfInBounds_toArray, List.set_cons_zero, List.set_cons_succ, i64_w, i32_w]
        rfl
      refine pure_ (i := 11) (N := some 23) (v := undef) (a' := ?_) #[true, true, true, true, true, true, true, true, true, true, true, true, false, false, false] rfl rfl (any_of HT_.out (by kernel_rfl)) (fun _ _ _ h => h) (Or.inr ⟨by rfl, rfl⟩) ?_ ?_
      rotate_left
      · simp only [Act.put, List.setIfInBounds_toArray, List.set_cons_zero, List.set_cons_succ, i64_w, i32_w]
        rfl
      refine pure_ (i := 12) (N := some 24) (v := undef) (a' := ?_) #[true, true, true, true, true, true, true, true, true, true, true, true, true, false, false] rfl rfl (any_of HT_.out (by kernel_rfl)) (fun _ _ _ h => h) (Or.inr ⟨by rfl, rfl⟩) ?_ ?_
      rotate_left
      · simp only [Act.put, List.setIfInBounds_toArray, List.set_cons_zero, List.set_cons_succ, i64_w, i32_w]
        rfl
      refine pure_ (i := 13) (N := some 25) (v := undef) (a' := ?_) #[true, true, true, true, true, true, true, true, true, true, true, true, true, true, false] rfl rfl (any_of HT_.out (by kernel_rfl)) (fun _ _ _ h => h) (Or.inr ⟨by rfl, rfl⟩) ?_ ?_
      rotate_left
      · simp only [Act.put, List.setIfInBounds_toArray, List.set_cons_zero, List.set_cons_succ, i64_w, i32_w]
        rfl
      refine pure_ (i := 14) (N := some 26) (v := ?_) (a' := ?_) #[true, true, true, true, true, true, true, true, true, true, true, true, true, true, true] rfl rfl (any_of HT_.out (by kernel_rfl)) (fun _ _ _ h => h) (Or.inl ⟨by rfl, ?_⟩) ?_ ?_
      rotate_left
      · intro w'
        go_simp
        with_reducible rfl
      rotate_left
      · simp only [Act.put, List.setIfInBounds_toArray, List.set_cons_zero, List.set_cons_succ, i64_w, i32_w]
        rfl
      refine done_ (done_of HT_.out (by kernel_rfl)) ?_
      try go_wp2
      go_meet
      case rel => exact ⟨_, (false), (by first | rfl | (simp; done) | (simp [*]; done)), H', ⟨by first | omega | exact Nat.le_refl _⟩, ⟨by (with_reducible repeat (first | refine blk_drewN ?_ _ | refine blk_drew ?_ | refine blk_alloc ?_ _)); exact BK134.out⟩, ⟨by (with_reducible repeat (first | refine blk_drewN ?_ _ | refine blk_drew ?_ | refine blk_alloc ?_ _)); exact BK135.out⟩, ⟨by (with_reducible repeat (first | refine blk_drewN ?_ _ | refine blk_drew ?_ | refine blk_alloc ?_ _)); exact BK136.out⟩, ⟨by repeat (first | (with_reducible first | exact HI0.out | apply IsS72.alloc | apply IsS72.drewN | apply IsS72.drew | apply IsS72.set_0 | apply IsS72.set_1 | apply IsS72.set_2 | apply IsS72.set_3 | apply IsS72.set_4 | apply IsS72.set_5 | apply IsS72.set_6 | apply IsS72.set_7 | apply IsS72.set_8 | refine IsS72.far ?_ NB0_134.out _ | refine IsS72.far ?_ NB0_135.out _ | refine IsS72.far ?_ NB0_136.out _) | exact HI0.out)⟩, ⟨by repeat (first | (with_reducible first | exact HK.out | apply KeepBut.set_ | apply keep_drewN | apply keep_drew | apply keep_alloc | refine keep_far ?_ GW134.out _ | refine keep_far ?_ GW135.out _ | refine keep_far ?_ GW136.out _) | exact HK.out)⟩, ⟨by repeat (first | (with_reducible first | exact HB.out | apply below_alloc | apply pw_below_drewN | apply below_drew1 | refine below_set ?_ (IsS72.ge HI0.out) | refine below_set ?_ GE134.out | refine below_set ?_ GE135.out | refine below_set ?_ GE136.out) | exact HB.out)⟩⟩
    · replace c8 := Bool.eq_false_iff.mpr c8
      subst c8
      have H1 : ((spec_l07Drags.f a1 a2 s0_0 s0_1 s0_2 s0_3 s0_4 s0_5 a3_0 a3_1).bind fun t137 => (spec_l07Drift_hour.j0 k a4 t137 s0_0 s0_1 s0_2 s0_3 s0_4 s0_5 false s0_7 s0_8 s0_9 a1 a2 a3_0 a3_1)) = some (r1, r2, r3, r4, r5, r6, r7, r8, r9) := by rw [if_neg (show ¬ (false = true) by decide)] at H; exact H
      clear H
      have H := H1
      clear H1
      replace H := Option.bind_eq_some_iff.mp H
      obtain ⟨t137, A100, H⟩ := H
      replace H : (spec_l07Drift_hour.j0 k a4 t137 s0_0 s0_1 s0_2 s0_3 s0_4 s0_5 false s0_7 s0_8 s0_9 a1 a2 a3_0 a3_1) = some (r1, r2, r3, r4, r5, r6, r7, r8, r9) := H
      have A10 := Aside0.mk A100
      clear A100
      have H' := Aside0.mk H
      clear H
      try go_wp2
      have n0_ := Aside0.mk (blk_drew BK134.out)
      have n1_ := Aside0.mk (blk_drew BK135.out)
      have n2_ := Aside0.mk (blk_drew BK136.out)
      have n3_ := Aside0.mk (IsS72.drew HI0.out)
      have n4_ := Aside0.mk (keep_drew HK.out)
      have n5_ := Aside0.mk (below_drew1 HB.out)
      clear BK134
      clear BK135
      clear BK136
      clear HI0
      clear HK
      clear HB
      have BK134 := n0_
      have BK135 := n1_
      have BK136 := n2_
      have HI0 := n3_
      have HK := n4_
      have HB := n5_
      clear n0_ n1_ n2_ n3_ n4_ n5_
      refine start_ (n := 15) (S := fun w' => w'.cell? ⟨g, 0, none⟩ = some (.int .i8 s0_0) ∧ w'.cell? ⟨g, 1, none⟩ = some (.int .i8 s0_1) ∧ w'.cell? ⟨g, 2, none⟩ = some (.int .i8 s0_2) ∧ w'.cell? ⟨g, 3, none⟩ = some (.int .i8 s0_3) ∧ w'.cell? ⟨g, 4, none⟩ = some (.int .i8 s0_4) ∧ w'.cell? ⟨g, 5, none⟩ = some (.int .i8 s0_5) ∧ w'.cell? ⟨g, 6, none⟩ = some (.bool false) ∧ w'.cell? ⟨g, 7, none⟩ = some (.int .i64 s0_7) ∧ w'.cell? ⟨g, 8, none⟩ = some (.int .i64 s0_8) ∧ w'.cell? ⟨gb136, 0, none⟩ = some (.int .i8 a3_0) ∧ w'.cell? ⟨gb136, 1, none⟩ = some (.int .i8 a3_1)) (ds := []) #[false, false, false, false, false, false, false, false, false, false, false, false, false, false, false] (by kernel_rfl) rfl rfl ⟨(by obtain ⟨HG_, _⟩ := HI0.out; exact cellS72_0 HG_), (by obtain ⟨HG_, _⟩ := HI0.out; exact cellS72_1 HG_), (by obtain ⟨HG_, _⟩ := HI0.out; exact cellS72_2 HG_), (by obtain ⟨HG_, _⟩ := HI0.out; exact cellS72_3 HG_), (by obtain ⟨HG_, _⟩ := HI0.out; exact cellS72_4 HG_), (by obtain ⟨HG_, _⟩ := HI0.out; exact cellS72_5 HG_), (by obtain ⟨HG_, _⟩ := HI0.out; exact cellS72_6 HG_), (by obtain ⟨HG_, _⟩ := HI0.out; exact cellS72_7 HG_), (by obtain ⟨HG_, _⟩ := HI0.out; exact cellS72_8 HG_), (blk_cell BK136.out 0).trans rfl, (blk_cell BK136.out 1).trans rfl⟩ (fun hHeld => ?_); refine with_tabW spec_l07Drift_hour.tab1 spec_l07Drift_hour.bits1 (fun HT_ HW_ => ?_)
      generalize w7.drew = w11 at BK134 BK135 BK136 HI0 HK HB hHeld ⊢
      refine pure_ (i := 0) (N := some 12) (v := ?_) (a' := ?_) #[true, false, false, false, false, false, false, false, false, false, false, false, false, false, false] rfl rfl (any_of HT_.out (by kernel_rfl)) (fun _ _ _ h => h) (Or.inl ⟨by rfl, ?_⟩) ?_ ?_
      rotate_left
      · intro w'
        go_simp
        with_reducible rfl
      rotate_left
      · simp only [Act.put, List.setIfInBounds_toArray, List.set_cons_zero, List.set_cons_succ, i64_w, i32_w]
        rfl
      refine pure_ (i := 1) (N := some 13) (v := ?_) (a' := ?_) #[true, true, false, false, false, false, false, false, false, false, false, false, false, false, false] rfl rfl (any_of HT_.out (by kernel_rfl)) (fun _ _ _ h => h) (Or.inl ⟨by rfl, ?_⟩) ?_ ?_
      rotate_left
      · intro w'
        go_simp
        with_reducible rfl
      rotate_left
      · simp only [Act.put, List.setIfInBounds_toArray, List.set_cons_zero, List.set_cons_succ, i64_w, i32_w]
        rfl
      refine pure_ (i := 2) (N := some 14) (v := ?_) (a' := ?_) #[true, true, true, false, false, false, false, false, false, false, false, false, false, false, false] rfl rfl (any_of HT_.out (by kernel_rfl)) (fun _ _ _ h => h) (Or.inl ⟨by rfl, ?_⟩) ?_ ?_
      rotate_left
      · intro w'
        go_simp
        with_reducible rfl
      rotate_left
      · simp only [Act.put, List.setIfInBounds_toArray, List.set_cons_zero, List.set_cons_succ, i64_w, i32_w]
        rfl
      refine take_ (i := 3) (N := some 15) (v := ?_) (a' := ?_) #[true, true, true, true, false, false, false, false, false, false, false, false, false, false, false] rfl rfl (take_ofW HT_.out HW_.out (by kernel_rfl)) (fun _ _ _ h => h) (Or.inl ⟨by rfl, ?_⟩) hHeld ?_ ?_
      rotate_left
      · rintro w' ⟨s0, s1, s2, s3, s4, s5, s6, s7, s8, s9, s10⟩
        go_simp
        with_reducible rfl
      rotate_left
      · simp only [Act.put, List.setIfInBounds_toArray, List.set_cons_zero, List.set_cons_succ, i64_w, i32_w]
        rfl
      refine pure_ (i := 4) (N := some 16) (v := ?_) (a' := ?_) #[true, true, true, true, true, false, false, false, false, false, false, false, false, false, false] rfl rfl (any_of HT_.out (by kernel_rfl)) (fun _ _ _ h => h) (Or.inl ⟨by rfl, ?_⟩) ?_ ?_
      rotate_left
      · intro w'
        go_simp
        with_reducible rfl
      rotate_left
      · simp only [Act.put, List.setIfInBounds_toArray, List.set_cons_zero, List.set_cons_succ, i64_w, i32_w]
        rfl
      refine pure_ (i := 5) (N := some 17) (v := ?_) (a' := ?_) #[true, true, true, true, true, true, false, false, false, false, false, false, false, false, false] rfl rfl (any_of HT_.out (by kernel_rfl)) (fun _ _ _ h => h) (Or.inl ⟨by rfl, ?_⟩) ?_ ?_
      rotate_left
      · intro w'
        go_simp
        with_reducible rfl
      rotate_left
      · simp only [Act.put, List.setIfInBounds_toArray, List.set_cons_zero, List.set_cons_succ, i64_w, i32_w]
        rfl
      refine pure_ (i := 6) (N := some 18) (v := ?_) (a' := ?_) #[true, true, true, true, true, true, true, false, false, false, false, false, false, false, false] rfl rfl (any_of HT_.out (by kernel_rfl)) (fun _ _ _ h => h) (Or.inl ⟨by rfl, ?_⟩) ?_ ?_
      rotate_left
      · intro w'
        go_simp
        with_reducible rfl
      rotate_left
      · simp only [Act.put, List.setIfInBounds_toArray, List.set_cons_zero, List.set_cons_succ, i64_w, i32_w]
        rfl
      refine pure_ (i := 7) (N := some 19) (v := ?_) (a' := ?_) #[true, true, true, true, true, true, true, true, false, false, false, false, false, false, false] rfl rfl (any_of HT_.out (by kernel_rfl)) (fun _ _ _ h => h) (Or.inl ⟨by rfl, ?_⟩) ?_ ?_
      rotate_left
      · intro w'
        go_simp
        with_reducible rfl
      rotate_left
      · simp only [Act.put, List.setIfInBounds_toArray, List.set_cons_zero, List.set_cons_succ, i64_w, i32_w]
        rfl
      refine pure_ (i := 8) (N := some 20) (v := ?_) (a' := ?_) #[true, true, true, true, true, true, true, true, true, false, false, false, false, false, false] rfl rfl (any_of HT_.out (by kernel_rfl)) (fun _ _ _ h => h) (Or.inl ⟨by rfl, ?_⟩) ?_ ?_
      rotate_left
      · intro w'
        go_simp
        with_reducible rfl
      rotate_left
      · simp only [Act.put, List.setIfInBounds_toArray, List.set_cons_zero, List.set_cons_succ, i64_w, i32_w]
        rfl
      refine pure_ (i := 9) (N := some 21) (v := ?_) (a' := ?_) #[true, true, true, true, true, true, true, true, true, true, false, false, false, false, false] rfl rfl (any_of HT_.out (by kernel_rfl)) (fun _ _ _ h => h) (Or.inl ⟨by rfl, ?_⟩) ?_ ?_
      rotate_left
      · intro w'
        go_simp
        with_reducible rfl
      rotate_left
      · simp only [Act.put, List.setIfInBounds_toArray, List.set_cons_zero, List.set_cons_succ, i64_w, i32_w]
        rfl
      refine pure_ (i := 10) (N := some 22) (v := ?_) (a' := ?_) #[true, true, true, true, true, true, true, true, true, true, true, false, false, false, false] rfl rfl (any_of HT_.out (by kernel_rfl)) (fun _ _ _ h => h) (Or.inl ⟨by rfl, ?_⟩) ?_ ?_
      rotate_left
      · intro w'
        go_simp
        with_reducible rfl
      rotate_left
      · simp only [Act.put, List.setIfInBounds_toArray, List.set_cons_zero, List.set_cons_succ, i64_w, i32_w]
        rfl
      refine take_ (i := 11) (N := some 23) (v := ?_) (a' := ?_) #[true, true, true, true, true, true, true, true, true, true, true, true, false, false, false] rfl rfl (take_ofW HT_.out HW_.out (by kernel_rfl)) (fun _ _ _ h => h) (Or.inl ⟨by rfl, ?_⟩) hHeld ?_ ?_
      rotate_left
      · rintro w' ⟨s0, s1, s2, s3, s4, s5, s6, s7, s8, s9, s10⟩
        go_simp
        with_reducible rfl
      rotate_left
      · simp only [Act.put, List.setIfInBounds_toArray, List.set_cons_zero, List.set_cons_succ, i64_w, i32_w]
        rfl
      refine take_ (i := 12) (N := some 24) (v := ?_) (a' := ?_) #[true, true, true, true, true, true, true, true, true, true, true, true, true, false, false] rfl rfl (take_ofW HT_.out HW_.out (by kernel_rfl)) (fun _ _ _ h => h) (Or.inl ⟨by rfl, ?_⟩) hHeld ?_ ?_
      rotate_left
      · rintro w' ⟨s0, s1, s2, s3, s4, s5, s6, s7, s8, s9, s10⟩
        go_simp
        with_reducible rfl
      rotate_left
      · simp only [Act.put, List.setIfInBounds_toArray, List.set_cons_zero, List.set_cons_succ, i64_w, i32_w]
        rfl
      refine one_ (i := 13) (N := some 25) #[true, true, true, true, true, true, true, true, true, true, true, true, true, true, false] rfl rfl (one_of HT_.out (by kernel_rfl)) (by decide) (fun K hK => ?_)
      refine goes_ Try.func66 (by kernel_rfl) rfl #[.pointer (some ⟨gp1, 0, none⟩), .pointer (some ⟨gp2, 0, none⟩), .agg #[.int .i8 s0_0, .int .i8 s0_1, .int .i8 s0_2, .int .i8 s0_3, .int .i8 s0_4, .int .i8 s0_5], .agg #[.int .i8 a3_0, .int .i8 a3_1]] (by rfl) rfl rfl (by (try simp only [List.map_toArray, List.map_cons, List.map_nil]); first | done | rfl | (simp only [List.length_drop, List.length_take]; rfl)) ?_
      with_reducible refine (spec_l07Drags.calls gp1 a1 gp2 a2 s0_0 s0_1 s0_2 s0_3 s0_4 s0_5 a3_0 a3_1 t137 _ ?side1 ?side2 A10.out).mono ?_
      (case side1 => (with_reducible repeat (first | refine blk_drewN ?_ _ | refine blk_drew ?_ | refine blk_alloc ?_ _)); exact BK134.out)
      (case side2 => (with_reducible repeat (first | refine blk_drewN ?_ _ | refine blk_drew ?_ | refine blk_alloc ?_ _)); exact BK135.out)
      rintro e w12 ⟨rfl, hb⟩
      refine ⟨_, rfl, ?_⟩
      have n0_ := Aside0.mk (sqB BK134.out hb)
      have n1_ := Aside0.mk (sqB BK135.out hb)
      have n2_ := Aside0.mk (IsS72.below (by repeat (first | (with_reducible first | exact HI0.out | apply IsS72.alloc | apply IsS72.drewN | apply IsS72.drew | apply IsS72.set_0 | apply IsS72.set_1 | apply IsS72.set_2 | apply IsS72.set_3 | apply IsS72.set_4 | apply IsS72.set_5 | apply IsS72.set_6 | apply IsS72.set_7 | apply IsS72.set_8 | refine IsS72.far ?_ NB0_134.out _ | refine IsS72.far ?_ NB0_135.out _ | refine IsS72.far ?_ NB0_136.out _) | exact HI0.out)) hb)
      have n3_ := Aside0.mk (sqB BK136.out hb)
      have n4_ := Aside0.mk (KeepBut.trans (by repeat (first | (with_reducible first | exact HK.out | apply KeepBut.set_ | apply keep_drewN | apply keep_drew | apply keep_alloc | refine keep_far ?_ GW134.out _ | refine keep_far ?_ GW135.out _ | refine keep_far ?_ GW136.out _) | exact HK.out)) (KeepBut.of_below hb g none) (.inl rfl))
      have n5_ := Aside0.mk (below_step (by repeat (first | (with_reducible first | exact HB.out | apply below_alloc | apply pw_below_drewN | apply below_drew1 | refine below_set ?_ (IsS72.ge HI0.out) | refine below_set ?_ GE134.out | refine below_set ?_ GE135.out | refine below_set ?_ GE136.out) | exact HB.out)) hb)
      clear BK134
      clear BK135
      clear HI0
      clear BK136
      clear HK
      clear HB
      have BK134 := n0_
      have BK135 := n1_
      have HI0 := n2_
      have BK136 := n3_
      have HK := n4_
      have HB := n5_
      clear n0_ n1_ n2_ n3_ n4_ n5_
      (try clear hb)
      (try clear hb2)
      (try clear hk)
      (try clear hi)
      refine hK.out _ _ ⟨(by obtain ⟨HG_, _⟩ := HI0.out; exact cellS72_0 HG_), (by obtain ⟨HG_, _⟩ := HI0.out; exact cellS72_1 HG_), (by obtain ⟨HG_, _⟩ := HI0.out; exact cellS72_2 HG_), (by obtain ⟨HG_, _⟩ := HI0.out; exact cellS72_3 HG_), (by obtain ⟨HG_, _⟩ := HI0.out; exact cellS72_4 HG_), (by obtain ⟨HG_, _⟩ := HI0.out; exact cellS72_5 HG_), (by obtain ⟨HG_, _⟩ := HI0.out; exact cellS72_6 HG_), (by obtain ⟨HG_, _⟩ := HI0.out; exact cellS72_7 HG_), (by obtain ⟨HG_, _⟩ := HI0.out; exact cellS72_8 HG_), (blk_cell BK136.out 0).trans rfl, (blk_cell BK136.out 1).trans rfl⟩ (fun hHeld => ?_)
      clear hK K
      refine norm_ (a' := ?_) ?_ ?_
      rotate_left
      · show Act.put _ (some 25) _ = _
        simp only [Act.put, List.setIfInBounds_toArray, List.set_cons_zero, List.set_cons_succ, i64_w, i32_w]
        rfl
      refine pure_ (i := 14) (N := some 26) (v := ?_) (a' := ?_) #[true, true, true, true, true, true, true, true, true, true, true, true, true, true, true] rfl rfl (any_of HT_.out (by kernel_rfl)) (fun _ _ _ h => h) (Or.inl ⟨by rfl, ?_⟩) ?_ ?_
      rotate_left
      · intro w'
        go_simp
        with_reducible rfl
      rotate_left
      · simp only [Act.put, List.setIfInBounds_toArray, List.set_cons_zero, List.set_cons_succ, i64_w, i32_w]
        rfl
      refine done_ (done_of HT_.out (by kernel_rfl)) ?_
      try go_wp2
      go_meet
      case rel => exact ⟨_, (t137), (by first | rfl | (simp; done) | (simp [*]; done)), H', ⟨by first | omega | exact Nat.le_refl _⟩, ⟨by (with_reducible repeat (first | refine blk_drewN ?_ _ | refine blk_drew ?_ | refine blk_alloc ?_ _)); exact BK134.out⟩, ⟨by (with_reducible repeat (first | refine blk_drewN ?_ _ | refine blk_drew ?_ | refine blk_alloc ?_ _)); exact BK135.out⟩, ⟨by (with_reducible repeat (first | refine blk_drewN ?_ _ | refine blk_drew ?_ | refine blk_alloc ?_ _)); exact BK136.out⟩, ⟨by repeat (first | (with_reducible first | exact HI0.out | apply IsS72.alloc | apply IsS72.drewN | apply IsS72.drew | apply IsS72.set_0 | apply IsS72.set_1 | apply IsS72.set_2 | apply IsS72.set_3 | apply IsS72.set_4 | apply IsS72.set_5 | apply IsS72.set_6 | apply IsS72.set_7 | apply IsS72.set_8 | refine IsS72.far ?_ NB0_134.out _ | refine IsS72.far ?_ NB0_135.out _ | refine IsS72.far ?_ NB0_136.out _) | exact HI0.out)⟩, ⟨by repeat (first | (with_reducible first | exact HK.out | apply KeepBut.set_ | apply keep_drewN | apply keep_drew | apply keep_alloc | refine keep_far ?_ GW134.out _ | refine keep_far ?_ GW135.out _ | refine keep_far ?_ GW136.out _) | exact HK.out)⟩, ⟨by repeat (first | (with_reducible first | exact HB.out | apply below_alloc | apply pw_below_drewN | apply below_drew1 | refine below_set ?_ (IsS72.ge HI0.out) | refine below_set ?_ GE134.out | refine below_set ?_ GE135.out | refine below_set ?_ GE136.out) | exact HB.out)⟩⟩
  case rest =>
    clear HC6
    try clear p1
    try clear p2
    try clear c5
    try clear c6
    try clear c8
    obtain ⟨kq, x26_5, rfl, HA, HJ5, BK134, BK135, BK136, HI0, HK, HB⟩ := hcut
    cases kq with
    | zero => exact absurd HA.out (by simp [spec_l07Drift_hour.j0])
    | succ kj5 =>
      have H := HA.out
      clear HA
      simp only [spec_l07Drift_hour.j0] at H
      have HC13 := Aside0.mk H
      clear H
      go_upto_if 26 with (fail)
      go_cut [] (fun wc => ∃ (kq : Nat) (x1000_12 : Int) (x1001_12 : Int) (x1002_12 : Int) (x1003_12 : Int) (x1004_12 : Int) (x1005_12 : Int) (x1006_12 : Bool) (x1007_12 : Int) (x1008_12 : Int), Aside0 (spec_l07Drift_hour.j3 kq x1000_12 x1001_12 x1002_12 x1003_12 x1004_12 x1005_12 x1006_12 x1007_12 x1008_12 s0_9 = some (r1, r2, r3, r4, r5, r6, r7, r8, r9)) ∧ Aside0 (kq ≤ kj5) ∧ Aside0 (wc.heap[gp1]? = some (.cells (a1).A 38 (0, 0))) ∧ Aside0 (wc.heap[gp2]? = some (.cells (a2).A 40 (0, 0))) ∧ Aside0 (wc.heap[gb136]? = some (.cells #[.int .i8 a3_0, .int .i8 a3_1] 78 (0, 0))) ∧ Aside0 (IsS72 w0 wc g x1000_12 x1001_12 x1002_12 x1003_12 x1004_12 x1005_12 x1006_12 x1007_12 x1008_12 s0_9) ∧ Aside0 (KeepBut w wc g none) ∧ Aside0 (Below w0.heap.size w0 wc))
      case first =>
        have H := HC13.out
        clear HC13
        by_cases c14 : x26_5 = true
        · subst c14
          have H1 : (if s0_7 < 0 then (spec_l07Drift_hour.j1 kj5 a4 s0_0 s0_1 s0_2 s0_3 s0_4 s0_5 s0_6 a4 s0_8 s0_9 a1 a2 a3_0 a3_1) else (spec_l07Drift_hour.j1 kj5 a4 s0_0 s0_1 s0_2 s0_3 s0_4 s0_5 s0_6 s0_7 s0_8 s0_9 a1 a2 a3_0 a3_1)) = some (r1, r2, r3, r4, r5, r6, r7, r8, r9) := by rw [if_pos rfl] at H; exact H
          clear H
          have H := H1
          clear H1
          have HC15 := Aside0.mk H
          clear H
          obtain ⟨HGz16, hgz16⟩ := HI0.out
          have hcz16_0 := cellS72_0 HGz16
          have hcz16_1 := cellS72_1 HGz16
          have hcz16_2 := cellS72_2 HGz16
          have hcz16_3 := cellS72_3 HGz16
          have hcz16_4 := cellS72_4 HGz16
          have hcz16_5 := cellS72_5 HGz16
          have hcz16_6 := cellS72_6 HGz16
          have hcz16_7 := cellS72_7 HGz16
          have hcz16_8 := cellS72_8 HGz16
          have hcz16_9 := cellS72_9 HGz16
          have hfz16_0 := blk_frozen HGz16 0
          have hfz16_1 := blk_frozen HGz16 1
          have hfz16_2 := blk_frozen HGz16 2
          have hfz16_3 := blk_frozen HGz16 3
          have hfz16_4 := blk_frozen HGz16 4
          have hfz16_5 := blk_frozen HGz16 5
          have hfz16_6 := blk_frozen HGz16 6
          have hfz16_7 := blk_frozen HGz16 7
          have hfz16_8 := blk_frozen HGz16 8
          clear HGz16 hgz16
          go_upto_if 31 with (fail)
          go_cut [] (fun wc => ∃ (kq : Nat) (x1007_14 : Int), Aside0 (spec_l07Drift_hour.j1 kq a4 s0_0 s0_1 s0_2 s0_3 s0_4 s0_5 s0_6 x1007_14 s0_8 s0_9 a1 a2 a3_0 a3_1 = some (r1, r2, r3, r4, r5, r6, r7, r8, r9)) ∧ Aside0 (kq ≤ kj5) ∧ Aside0 (wc.heap[gp1]? = some (.cells (a1).A 38 (0, 0))) ∧ Aside0 (wc.heap[gp2]? = some (.cells (a2).A 40 (0, 0))) ∧ Aside0 (wc.heap[gb136]? = some (.cells #[.int .i8 a3_0, .int .i8 a3_1] 78 (0, 0))) ∧ Aside0 (IsS72 w0 wc g s0_0 s0_1 s0_2 s0_3 s0_4 s0_5 s0_6 x1007_14 s0_8 s0_9) ∧ Aside0 (KeepBut w wc g none) ∧ Aside0 (Below w0.heap.size w0 wc))
          case first =>
            have H := HC15.out
            clear HC15
            by_cases c17 : s0_7 < 0
            · rw [if_pos c17] at H
              have c17b0 : decide (s0_7 < 0) = true := decide_eq_true c17
              clear c17
              (first | rw [c17b0] | (simp only [i64_w, i32_w]; rw [c17b0]) | skip)
              have H' := Aside0.mk H
              clear H
              obtain ⟨HGz18, hgz18⟩ := HI0.out
              have hcz18_0 := cellS72_0 HGz18
              have hcz18_1 := cellS72_1 HGz18
              have hcz18_2 := cellS72_2 HGz18
              have hcz18_3 := cellS72_3 HGz18
              have hcz18_4 := cellS72_4 HGz18
              have hcz18_5 := cellS72_5 HGz18
              have hcz18_6 := cellS72_6 HGz18
              have hcz18_7 := cellS72_7 HGz18
              have hcz18_8 := cellS72_8 HGz18
              have hcz18_9 := cellS72_9 HGz18
              have hfz18_0 := blk_frozen HGz18 0
              have hfz18_1 := blk_frozen HGz18 1
              have hfz18_2 := blk_frozen HGz18 2
              have hfz18_3 := blk_frozen HGz18 3
              have hfz18_4 := blk_frozen HGz18 4
              have hfz18_5 := blk_frozen HGz18 5
              have hfz18_6 := blk_frozen HGz18 6
              have hfz18_7 := blk_frozen HGz18 7
              have hfz18_8 := blk_frozen HGz18 8
              clear HGz18 hgz18
              go_wp2
              go_meet
              case rel => exact ⟨_, (a4), H', ⟨by have := HJ5.out; first | omega | exact Nat.le_refl _⟩, ⟨by (with_reducible repeat (first | refine blk_drewN ?_ _ | refine blk_drew ?_ | refine blk_alloc ?_ _)); refine blk_far ?_ NB134_0.out _; (with_reducible repeat (first | refine blk_drewN ?_ _ | refine blk_drew ?_ | refine blk_alloc ?_ _)); exact BK134.out⟩, ⟨by (with_reducible repeat (first | refine blk_drewN ?_ _ | refine blk_drew ?_ | refine blk_alloc ?_ _)); refine blk_far ?_ NB135_0.out _; (with_reducible repeat (first | refine blk_drewN ?_ _ | refine blk_drew ?_ | refine blk_alloc ?_ _)); exact BK135.out⟩, ⟨by (with_reducible repeat (first | refine blk_drewN ?_ _ | refine blk_drew ?_ | refine blk_alloc ?_ _)); refine blk_far ?_ NB136_0.out _; (with_reducible repeat (first | refine blk_drewN ?_ _ | refine blk_drew ?_ | refine blk_alloc ?_ _)); exact BK136.out⟩, ⟨by repeat (first | (with_reducible first | exact HI0.out | apply IsS72.alloc | apply IsS72.drewN | apply IsS72.drew | apply IsS72.set_0 | apply IsS72.set_1 | apply IsS72.set_2 | apply IsS72.set_3 | apply IsS72.set_4 | apply IsS72.set_5 | apply IsS72.set_6 | apply IsS72.set_7 | apply IsS72.set_8 | refine IsS72.far ?_ NB0_134.out _ | refine IsS72.far ?_ NB0_135.out _ | refine IsS72.far ?_ NB0_136.out _) | exact HI0.out)⟩, ⟨by repeat (first | (with_reducible first | exact HK.out | apply KeepBut.set_ | apply keep_drewN | apply keep_drew | apply keep_alloc | refine keep_far ?_ GW134.out _ | refine keep_far ?_ GW135.out _ | refine keep_far ?_ GW136.out _) | exact HK.out)⟩, ⟨by repeat (first | (with_reducible first | exact HB.out | apply below_alloc | apply pw_below_drewN | apply below_drew1 | refine below_set ?_ (IsS72.ge HI0.out) | refine below_set ?_ GE134.out | refine below_set ?_ GE135.out | refine below_set ?_ GE136.out) | exact HB.out)⟩⟩
            · rw [if_neg c17] at H
              have c17b0 : decide (s0_7 < 0) = false := decide_eq_false c17
              clear c17
              (first | rw [c17b0] | (simp only [i64_w, i32_w]; rw [c17b0]) | skip)
              have H' := Aside0.mk H
              clear H
              go_wp2
              go_meet
              case rel => exact ⟨_, (s0_7), H', ⟨by have := HJ5.out; first | omega | exact Nat.le_refl _⟩, ⟨by (with_reducible repeat (first | refine blk_drewN ?_ _ | refine blk_drew ?_ | refine blk_alloc ?_ _)); exact BK134.out⟩, ⟨by (with_reducible repeat (first | refine blk_drewN ?_ _ | refine blk_drew ?_ | refine blk_alloc ?_ _)); exact BK135.out⟩, ⟨by (with_reducible repeat (first | refine blk_drewN ?_ _ | refine blk_drew ?_ | refine blk_alloc ?_ _)); exact BK136.out⟩, ⟨by repeat (first | (with_reducible first | exact HI0.out | apply IsS72.alloc | apply IsS72.drewN | apply IsS72.drew | apply IsS72.set_0 | apply IsS72.set_1 | apply IsS72.set_2 | apply IsS72.set_3 | apply IsS72.set_4 | apply IsS72.set_5 | apply IsS72.set_6 | apply IsS72.set_7 | apply IsS72.set_8 | refine IsS72.far ?_ NB0_134.out _ | refine IsS72.far ?_ NB0_135.out _ | refine IsS72.far ?_ NB0_136.out _) | exact HI0.out)⟩, ⟨by repeat (first | (with_reducible first | exact HK.out | apply KeepBut.set_ | apply keep_drewN | apply keep_drew | apply keep_alloc | refine keep_far ?_ GW134.out _ | refine keep_far ?_ GW135.out _ | refine keep_far ?_ GW136.out _) | exact HK.out)⟩, ⟨by repeat (first | (with_reducible first | exact HB.out | apply below_alloc | apply pw_below_drewN | apply below_drew1 | refine below_set ?_ (IsS72.ge HI0.out) | refine below_set ?_ GE134.out | refine below_set ?_ GE135.out | refine below_set ?_ GE136.out) | exact HB.out)⟩⟩
          case rest =>
            clear HC15
            try clear c1
            try clear p1
            try clear p2
            try clear c5
            try clear c6
            try clear c8
            try clear c14
            try clear c17
            try clear c17b0
            try clear hcz16_0
            try clear hcz16_1
            try clear hcz16_2
            try clear hcz16_3
            try clear hcz16_4
            try clear hcz16_5
            try clear hcz16_6
            try clear hcz16_7
            try clear hcz16_8
            try clear hcz16_9
            try clear hcz18_0
            try clear hcz18_1
            try clear hcz18_2
            try clear hcz18_3
            try clear hcz18_4
            try clear hcz18_5
            try clear hcz18_6
            try clear hcz18_7
            try clear hcz18_8
            try clear hcz18_9
            try clear hfz16_0
            try clear hfz16_1
            try clear hfz16_2
            try clear hfz16_3
            try clear hfz16_4
            try clear hfz16_5
            try clear hfz16_6
            try clear hfz16_7
            try clear hfz16_8
            try clear hfz18_0
            try clear hfz18_1
            try clear hfz18_2
            try clear hfz18_3
            try clear hfz18_4
            try clear hfz18_5
            try clear hfz18_6
            try clear hfz18_7
            try clear hfz18_8
            try clear p1
            try clear p2
            obtain ⟨kq, x1007_14, HA, HJ14, BK134, BK135, BK136, HI0, HK, HB⟩ := hcut
            cases kq with
            | zero => exact absurd HA.out (by simp [spec_l07Drift_hour.j1])
            | succ kj14 =>
              have H := HA.out
              clear HA
              simp only [spec_l07Drift_hour.j1] at H
              replace H := Option.bind_eq_some_iff.mp H
              obtain ⟨⟨t138, t139, t140, t141, t142, t143, t144⟩, A190, H⟩ := H
              replace H : (if t144 = true then (spec_l07Drift_hour.j2 kj14 t138 t139 t140 t141 t142 t143 t144 x1007_14 a4 s0_9) else (spec_l07Drift_hour.j2 kj14 t138 t139 t140 t141 t142 t143 t144 x1007_14 s0_8 s0_9)) = some (r1, r2, r3, r4, r5, r6, r7, r8, r9) := H
              have A19 := Aside0.mk A190
              clear A190
              have HC20 := Aside0.mk H
              clear H
              try go_wp2
              have n0_ := Aside0.mk (blk_drew BK134.out)
              have n1_ := Aside0.mk (blk_drew BK135.out)
              have n2_ := Aside0.mk (blk_drew BK136.out)
              have n3_ := Aside0.mk (IsS72.drew HI0.out)
              have n4_ := Aside0.mk (keep_drew HK.out)
              have n5_ := Aside0.mk (below_drew1 HB.out)
              clear BK134
              clear BK135
              clear BK136
              clear HI0
              clear HK
              clear HB
              have BK134 := n0_
              have BK135 := n1_
              have BK136 := n2_
              have HI0 := n3_
              have HK := n4_
              have HB := n5_
              clear n0_ n1_ n2_ n3_ n4_ n5_
              refine start_ (n := 14) (S := fun w' => True) (ds := []) #[false, false, false, false, false, false, false, false, false, false, false, false, false, false] (by kernel_rfl) rfl rfl trivial (fun hHeld => ?_); refine with_tabW spec_l07Drift_hour.tab4 spec_l07Drift_hour.bits4 (fun HT_ HW_ => ?_)
              generalize wc.drew = w21 at BK134 BK135 BK136 HI0 HK HB hHeld ⊢
              refine pure_ (i := 0) (N := some 37) (v := ?_) (a' := ?_) #[true, false, false, false, false, false, false, false, false, false, false, false, false, false] rfl rfl (any_of HT_.out (by kernel_rfl)) (fun _ _ _ h => h) (Or.inl ⟨by rfl, ?_⟩) ?_ ?_
              rotate_left
              · intro w'
                go_simp
                with_reducible rfl
              rotate_left
              · simp only [Act.put, List.setIfInBounds_toArray, List.set_cons_zero, List.set_cons_succ, i64_w, i32_w]
                rfl
              refine pure_ (i := 1) (N := some 38) (v := ?_) (a' := ?_) #[true, true, false, false, false, false, false, false, false, false, false, false, false, false] rfl rfl (any_of HT_.out (by kernel_rfl)) (fun _ _ _ h => h) (Or.inl ⟨by rfl, ?_⟩) ?_ ?_
              rotate_left
              · intro w'
                go_simp
                with_reducible rfl
              rotate_left
              · simp only [Act.put, List.setIfInBounds_toArray, List.set_cons_zero, List.set_cons_succ, i64_w, i32_w]
                rfl
              refine pure_ (i := 2) (N := some 39) (v := ?_) (a' := ?_) #[true, true, true, false, false, false, false, false, false, false, false, false, false, false] rfl rfl (any_of HT_.out (by kernel_rfl)) (fun _ _ _ h => h) (Or.inl ⟨by rfl, ?_⟩) ?_ ?_
              rotate_left
              · intro w'
                go_simp
                with_reducible rfl
              rotate_left
              · simp only [Act.put, List.setIfInBounds_toArray, List.set_cons_zero, List.set_cons_succ, i64_w, i32_w]
                rfl
              refine inv_at [3, 4, 5, 6, 7, 8, 9, 10, 11, 12, 13] (fun a0_ b a w' => ∃ (gb145 : Nat) (m11_ : Value), a = putSel a0_ b [(3, 40, .pointer (some ⟨g, 0, none⟩)), (4, 41, .pointer (some ⟨g, 0, none⟩)), (5, 42, .agg #[.int .i8 s0_0, .int .i8 s0_1, .int .i8 s0_2, .int .i8 s0_3, .int .i8 s0_4, .int .i8 s0_5]), (6, 43, .agg #[.int .i8 a3_0, .int .i8 a3_1]), (7, 44, .tuple #[.agg #[.int .i8 t138, .int .i8 t139, .int .i8 t140, .int .i8 t141, .int .i8 t142, .int .i8 t143], .bool t144]), (8, 36, .tuple #[.agg #[.int .i8 t138, .int .i8 t139, .int .i8 t140, .int .i8 t141, .int .i8 t142, .int .i8 t143], .bool t144]), (9, 45, .agg #[.int .i8 t138, .int .i8 t139, .int .i8 t140, .int .i8 t141, .int .i8 t142, .int .i8 t143]), (10, 46, .bool t144), (11, 10, m11_), (13, 11, .bool t144)] ∧ (w'.heap[gp1]? = some (.cells (a1).A 38 (0, 0))) ∧ (w'.heap[gp2]? = some (.cells (a2).A 40 (0, 0))) ∧ (w'.heap[gb136]? = some (.cells #[.int .i8 a3_0, .int .i8 a3_1] 78 (0, 0))) ∧ (IsS72 w0 w' g s0_0 s0_1 s0_2 s0_3 s0_4 s0_5 s0_6 x1007_14 s0_8 s0_9) ∧ (KeepBut w w' g none) ∧ (Below w0.heap.size w0 w') ∧ (b 11 = true → b 12 = false → w'.heap[gb145]? = some (.cells #[.int .i8 0, .int .i8 0, .int .i8 0, .int .i8 0, .int .i8 0, .int .i8 0] 44 (0, 0))) ∧ (b 11 = true → w.heap.size ≤ gb145) ∧ (b 11 = true → w0.heap.size ≤ gb145) ∧ (b 11 = true → g ≠ gb145) ∧ (b 11 = true → gb145 ≠ g) ∧ (b 11 = true → gp1 ≠ gb145) ∧ (b 11 = true → gb145 ≠ gp1) ∧ (b 11 = true → gp2 ≠ gb145) ∧ (b 11 = true → gb145 ≠ gp2) ∧ (b 11 = true → gb136 ≠ gb145) ∧ (b 11 = true → gb145 ≠ gb136) ∧ (b 12 = true → w'.heap[gb145]? = some (.cells #[.int .i8 t138, .int .i8 t139, .int .i8 t140, .int .i8 t141, .int .i8 t142, .int .i8 t143] 44 (0, 0))) ∧ (b 11 = true → (m11_ : Value) = .pointer (some ⟨gb145, 0, none⟩))) HT_.out HW_.out (by kernel_rfl) (by kernel_rfl) ?_ ?_ ?_
              · exact ⟨0, .bool false, by simp only [putSel, Bool.false_eq_true, if_false], BK134.out, BK135.out, BK136.out, HI0.out, HK.out, HB.out, fun h_ => absurd h_ (by decide), fun h_ => absurd h_ (by decide), fun h_ => absurd h_ (by decide), fun h_ => absurd h_ (by decide), fun h_ => absurd h_ (by decide), fun h_ => absurd h_ (by decide), fun h_ => absurd h_ (by decide), fun h_ => absurd h_ (by decide), fun h_ => absurd h_ (by decide), fun h_ => absurd h_ (by decide), fun h_ => absurd h_ (by decide), fun h_ => absurd h_ (by decide), fun h_ => absurd h_ (by decide)⟩
              · skip
                clear BK134 BK135 BK136 HB HI0 HK
                refine steps_cons ?_ ?_
                · rintro b a w' ⟨gb145, m11_, ha, Q_BK134, Q_BK135, Q_BK136, Q_HI0, Q_HK, Q_HB, Q_BK145, Q_GW145, Q_GE145, Q_NB0_145, Q_NB145_0, Q_NB134_145, Q_NB145_134, Q_NB135_145, Q_NB145_135, Q_NB136_145, Q_NB145_136, Q_BK145_e12, Q_X11_⟩ hb_ hon hoff
                  refine ⟨_, rfl, fun K hK => ?_⟩
                  have e39 : a.tmps[39]? = some (.pointer (some ⟨g, 0, none⟩)) := by rw [ha]; exact (putSel_off rfl).trans rfl
                  replace ha := Aside0.mk ha
                  have BK134 := Aside0.mk Q_BK134
                  have BK135 := Aside0.mk Q_BK135
                  have BK136 := Aside0.mk Q_BK136
                  have HI0 := Aside0.mk Q_HI0
                  have HK := Aside0.mk Q_HK
                  have HB := Aside0.mk Q_HB
                  refine value_ (w1 := w') (v := .pointer (some ⟨g, 0, none⟩)) (by rfl) rfl ?_ ?_
                  · go_simp
                    (try simp only [i64_w])
                    try rfl
                  refine hK.out _ _ ⟨gb145, m11_, (by rw [ha.out]; exact putSel_upk 0 hb_ rfl rfl rfl), Q_BK134, Q_BK135, Q_BK136, Q_HI0, Q_HK, Q_HB, Q_BK145, Q_GW145, Q_GE145, Q_NB0_145, Q_NB145_0, Q_NB134_145, Q_NB145_134, Q_NB135_145, Q_NB145_135, Q_NB136_145, Q_NB145_136, fun h0_ => absurd ((hoff 12 (by kernel_rfl)).symm.trans h0_) (by decide), Q_X11_⟩
                refine steps_cons ?_ ?_
                · rintro b a w' ⟨gb145, m11_, ha, Q_BK134, Q_BK135, Q_BK136, Q_HI0, Q_HK, Q_HB, Q_BK145, Q_GW145, Q_GE145, Q_NB0_145, Q_NB145_0, Q_NB134_145, Q_NB145_134, Q_NB135_145, Q_NB145_135, Q_NB136_145, Q_NB145_136, Q_BK145_e12, Q_X11_⟩ hb_ hon hoff
                  refine ⟨_, rfl, fun K hK => ?_⟩
                  have e40 : a.tmps[40]? = some (.pointer (some ⟨g, 0, none⟩)) := by rw [ha]; exact putSel_on (e := (3, 40, .pointer (some ⟨g, 0, none⟩))) 0 rfl rfl (hon 3 (by kernel_rfl)) rfl
                  replace ha := Aside0.mk ha
                  have BK134 := Aside0.mk Q_BK134
                  have BK135 := Aside0.mk Q_BK135
                  have BK136 := Aside0.mk Q_BK136
                  have HI0 := Aside0.mk Q_HI0
                  have HK := Aside0.mk Q_HK
                  have HB := Aside0.mk Q_HB
                  refine value_ (w1 := w') (v := .pointer (some ⟨g, 0, none⟩)) (by rfl) rfl ?_ ?_
                  · go_simp
                    (try simp only [i64_w])
                    try rfl
                  refine hK.out _ _ ⟨gb145, m11_, (by rw [ha.out]; exact putSel_upk 1 hb_ rfl rfl rfl), Q_BK134, Q_BK135, Q_BK136, Q_HI0, Q_HK, Q_HB, Q_BK145, Q_GW145, Q_GE145, Q_NB0_145, Q_NB145_0, Q_NB134_145, Q_NB145_134, Q_NB135_145, Q_NB145_135, Q_NB136_145, Q_NB145_136, fun h0_ => absurd ((hoff 12 (by kernel_rfl)).symm.trans h0_) (by decide), Q_X11_⟩
                refine steps_cons ?_ ?_
                · rintro b a w' ⟨gb145, m11_, ha, Q_BK134, Q_BK135, Q_BK136, Q_HI0, Q_HK, Q_HB, Q_BK145, Q_GW145, Q_GE145, Q_NB0_145, Q_NB145_0, Q_NB134_145, Q_NB145_134, Q_NB135_145, Q_NB145_135, Q_NB136_145, Q_NB145_136, Q_BK145_e12, Q_X11_⟩ hb_ hon hoff
                  refine ⟨_, rfl, fun K hK => ?_⟩
                  have e41 : a.tmps[41]? = some (.pointer (some ⟨g, 0, none⟩)) := by rw [ha]; exact putSel_on (e := (4, 41, .pointer (some ⟨g, 0, none⟩))) 1 rfl rfl (hon 4 (by kernel_rfl)) rfl
                  replace ha := Aside0.mk ha
                  have BK134 := Aside0.mk Q_BK134
                  have BK135 := Aside0.mk Q_BK135
                  have BK136 := Aside0.mk Q_BK136
                  have HI0 := Aside0.mk Q_HI0
                  have HK := Aside0.mk Q_HK
                  have HB := Aside0.mk Q_HB
                  have hc0_ : w'.cell? ⟨g, 0, none⟩ = some (.int .i8 s0_0) := (by obtain ⟨HG_, _⟩ := HI0.out; exact cellS72_0 HG_)
                  have hc1_ : w'.cell? ⟨g, 1, none⟩ = some (.int .i8 s0_1) := (by obtain ⟨HG_, _⟩ := HI0.out; exact cellS72_1 HG_)
                  have hc2_ : w'.cell? ⟨g, 2, none⟩ = some (.int .i8 s0_2) := (by obtain ⟨HG_, _⟩ := HI0.out; exact cellS72_2 HG_)
                  have hc3_ : w'.cell? ⟨g, 3, none⟩ = some (.int .i8 s0_3) := (by obtain ⟨HG_, _⟩ := HI0.out; exact cellS72_3 HG_)
                  have hc4_ : w'.cell? ⟨g, 4, none⟩ = some (.int .i8 s0_4) := (by obtain ⟨HG_, _⟩ := HI0.out; exact cellS72_4 HG_)
                  have hc5_ : w'.cell? ⟨g, 5, none⟩ = some (.int .i8 s0_5) := (by obtain ⟨HG_, _⟩ := HI0.out; exact cellS72_5 HG_)
                  have hc6_ : w'.cell? ⟨g, 6, none⟩ = some (.bool s0_6) := (by obtain ⟨HG_, _⟩ := HI0.out; exact cellS72_6 HG_)
                  have hc7_ : w'.cell? ⟨g, 7, none⟩ = some (.int .i64 x1007_14) := (by obtain ⟨HG_, _⟩ := HI0.out; exact cellS72_7 HG_)
                  have hc8_ : w'.cell? ⟨g, 8, none⟩ = some (.int .i64 s0_8) := (by obtain ⟨HG_, _⟩ := HI0.out; exact cellS72_8 HG_)
                  refine value_ (w1 := w') (v := .agg #[.int .i8 s0_0, .int .i8 s0_1, .int .i8 s0_2, .int .i8 s0_3, .int .i8 s0_4, .int .i8 s0_5]) (by rfl) rfl ?_ ?_
                  · go_simp
                    (try simp only [i64_w])
                    try rfl
                  refine hK.out _ _ ⟨gb145, m11_, (by rw [ha.out]; exact putSel_upk 2 hb_ rfl rfl rfl), Q_BK134, Q_BK135, Q_BK136, Q_HI0, Q_HK, Q_HB, Q_BK145, Q_GW145, Q_GE145, Q_NB0_145, Q_NB145_0, Q_NB134_145, Q_NB145_134, Q_NB135_145, Q_NB145_135, Q_NB136_145, Q_NB145_136, fun h0_ => absurd ((hoff 12 (by kernel_rfl)).symm.trans h0_) (by decide), Q_X11_⟩
                refine steps_cons ?_ ?_
                · rintro b a w' ⟨gb145, m11_, ha, Q_BK134, Q_BK135, Q_BK136, Q_HI0, Q_HK, Q_HB, Q_BK145, Q_GW145, Q_GE145, Q_NB0_145, Q_NB145_0, Q_NB134_145, Q_NB145_134, Q_NB135_145, Q_NB145_135, Q_NB136_145, Q_NB145_136, Q_BK145_e12, Q_X11_⟩ hb_ hon hoff
                  refine ⟨_, rfl, fun K hK => ?_⟩
                  have e8 : a.tmps[8]? = some (.pointer (some ⟨gb136, 0, none⟩)) := by rw [ha]; exact (putSel_off rfl).trans rfl
                  replace ha := Aside0.mk ha
                  have BK134 := Aside0.mk Q_BK134
                  have BK135 := Aside0.mk Q_BK135
                  have BK136 := Aside0.mk Q_BK136
                  have HI0 := Aside0.mk Q_HI0
                  have HK := Aside0.mk Q_HK
                  have HB := Aside0.mk Q_HB
                  have hc0_ : w'.cell? ⟨gb136, 0, none⟩ = some (.int .i8 a3_0) := (blk_cell BK136.out 0).trans rfl
                  have hc1_ : w'.cell? ⟨gb136, 1, none⟩ = some (.int .i8 a3_1) := (blk_cell BK136.out 1).trans rfl
                  refine value_ (w1 := w') (v := .agg #[.int .i8 a3_0, .int .i8 a3_1]) (by rfl) rfl ?_ ?_
                  · go_simp
                    (try simp only [i64_w])
                    try rfl
                  refine hK.out _ _ ⟨gb145, m11_, (by rw [ha.out]; exact putSel_upk 3 hb_ rfl rfl rfl), Q_BK134, Q_BK135, Q_BK136, Q_HI0, Q_HK, Q_HB, Q_BK145, Q_GW145, Q_GE145, Q_NB0_145, Q_NB145_0, Q_NB134_145, Q_NB145_134, Q_NB135_145, Q_NB145_135, Q_NB136_145, Q_NB145_136, fun h0_ => absurd ((hoff 12 (by kernel_rfl)).symm.trans h0_) (by decide), Q_X11_⟩
                refine steps_cons ?_ ?_
                · rintro b a w' ⟨gb145, m11_, ha, Q_BK134, Q_BK135, Q_BK136, Q_HI0, Q_HK, Q_HB, Q_BK145, Q_GW145, Q_GE145, Q_NB0_145, Q_NB145_0, Q_NB134_145, Q_NB145_134, Q_NB135_145, Q_NB145_135, Q_NB136_145, Q_NB145_136, Q_BK145_e12, Q_X11_⟩ hb_ hon hoff
                  refine ⟨_, rfl, fun K hK => ?_⟩
                  have e37 : a.tmps[37]? = some (.pointer (some ⟨gp1, 0, none⟩)) := by rw [ha]; exact (putSel_off rfl).trans rfl
                  have e38 : a.tmps[38]? = some (.pointer (some ⟨gp2, 0, none⟩)) := by rw [ha]; exact (putSel_off rfl).trans rfl
                  have e42 : a.tmps[42]? = some (.agg #[.int .i8 s0_0, .int .i8 s0_1, .int .i8 s0_2, .int .i8 s0_3, .int .i8 s0_4, .int .i8 s0_5]) := by rw [ha]; exact putSel_on (e := (5, 42, .agg #[.int .i8 s0_0, .int .i8 s0_1, .int .i8 s0_2, .int .i8 s0_3, .int .i8 s0_4, .int .i8 s0_5])) 2 rfl rfl (hon 5 (by kernel_rfl)) rfl
                  have e43 : a.tmps[43]? = some (.agg #[.int .i8 a3_0, .int .i8 a3_1]) := by rw [ha]; exact putSel_on (e := (6, 43, .agg #[.int .i8 a3_0, .int .i8 a3_1])) 3 rfl rfl (hon 6 (by kernel_rfl)) rfl
                  replace ha := Aside0.mk ha
                  have BK134 := Aside0.mk Q_BK134
                  have BK135 := Aside0.mk Q_BK135
                  have BK136 := Aside0.mk Q_BK136
                  have HI0 := Aside0.mk Q_HI0
                  have HK := Aside0.mk Q_HK
                  have HB := Aside0.mk Q_HB
                  refine goes_ Try.func67 (by kernel_rfl) rfl #[.pointer (some ⟨gp1, 0, none⟩), .pointer (some ⟨gp2, 0, none⟩), .agg #[.int .i8 s0_0, .int .i8 s0_1, .int .i8 s0_2, .int .i8 s0_3, .int .i8 s0_4, .int .i8 s0_5], .agg #[.int .i8 a3_0, .int .i8 a3_1]] (by rfl) rfl rfl (by first | (simp only [List.map_toArray, List.map_cons, List.map_nil, Act.eval, Array.getD_eq_getD_getElem?, Option.getD_some, e37, e38, e42, e43]; done) | (simp only [List.map_toArray, List.map_cons, List.map_nil, Act.eval, Array.getD_eq_getD_getElem?, Option.getD_some, e37, e38, e42, e43]; rfl)) ?_
                  with_reducible refine (spec_l07Once.calls kj14 gp1 a1 gp2 a2 s0_0 s0_1 s0_2 s0_3 s0_4 s0_5 a3_0 a3_1 t138 t139 t140 t141 t142 t143 t144 _ ?side1 ?side2 A19.out).mono ?_
                  (case side1 => (with_reducible repeat (first | refine blk_drewN ?_ _ | refine blk_drew ?_ | refine blk_alloc ?_ _)); exact BK134.out)
                  (case side2 => (with_reducible repeat (first | refine blk_drewN ?_ _ | refine blk_drew ?_ | refine blk_alloc ?_ _)); exact BK135.out)
                  rintro e w22 ⟨rfl, hb⟩
                  refine ⟨_, rfl, ?_⟩
                  have n0_ := Aside0.mk (sqB BK134.out hb)
                  have n1_ := Aside0.mk (sqB BK135.out hb)
                  have n2_ := Aside0.mk (sqB BK136.out hb)
                  have n3_ := Aside0.mk (IsS72.below (by repeat (first | (with_reducible first | exact HI0.out | apply IsS72.alloc | apply IsS72.drewN | apply IsS72.drew | apply IsS72.set_0 | apply IsS72.set_1 | apply IsS72.set_2 | apply IsS72.set_3 | apply IsS72.set_4 | apply IsS72.set_5 | apply IsS72.set_6 | apply IsS72.set_7 | apply IsS72.set_8 | refine IsS72.far ?_ NB0_134.out _ | refine IsS72.far ?_ NB0_135.out _ | refine IsS72.far ?_ NB0_136.out _) | exact HI0.out)) hb)
                  have n4_ := Aside0.mk (KeepBut.trans (by repeat (first | (with_reducible first | exact HK.out | apply KeepBut.set_ | apply keep_drewN | apply keep_drew | apply keep_alloc | refine keep_far ?_ GW134.out _ | refine keep_far ?_ GW135.out _ | refine keep_far ?_ GW136.out _) | exact HK.out)) (KeepBut.of_below hb g none) (.inl rfl))
                  have n5_ := Aside0.mk (below_step (by repeat (first | (with_reducible first | exact HB.out | apply below_alloc | apply pw_below_drewN | apply below_drew1 | refine below_set ?_ (IsS72.ge HI0.out) | refine below_set ?_ GE134.out | refine below_set ?_ GE135.out | refine below_set ?_ GE136.out) | exact HB.out)) hb)
                  have z_BK145 := fun (h0_ : b 11 = true) (h1_ : b 12 = false) => (show w22.heap[gb145]? = some (.cells #[.int .i8 0, .int .i8 0, .int .i8 0, .int .i8 0, .int .i8 0, .int .i8 0] 44 (0, 0)) from by first | exact (blk_below (g := gb145) (o := .cells #[.int .i8 0, .int .i8 0, .int .i8 0, .int .i8 0, .int .i8 0, .int .i8 0] 44 (0, 0)) (by (with_reducible repeat (first | refine blk_drewN ?_ _ | refine blk_drew ?_ | refine blk_alloc ?_ _)); exact (Q_BK145 h0_ h1_)) hb))
                  clear BK134
                  clear BK135
                  clear BK136
                  clear HI0
                  clear HK
                  clear HB
                  have BK134 := n0_
                  have BK135 := n1_
                  have BK136 := n2_
                  have HI0 := n3_
                  have HK := n4_
                  have HB := n5_
                  clear n0_ n1_ n2_ n3_ n4_ n5_
                  (try clear hb)
                  (try clear hb2)
                  (try clear hk)
                  (try clear hi)
                  refine hK.out _ _ ⟨gb145, m11_, (by rw [ha.out]; exact putSel_upk 4 hb_ rfl rfl rfl), (sqO BK134.out), (sqO BK135.out), (sqO BK136.out), (by repeat (first | (with_reducible first | exact HI0.out | apply IsS72.alloc | apply IsS72.drewN | apply IsS72.drew | apply IsS72.set_0 | apply IsS72.set_1 | apply IsS72.set_2 | apply IsS72.set_3 | apply IsS72.set_4 | apply IsS72.set_5 | apply IsS72.set_6 | apply IsS72.set_7 | apply IsS72.set_8 | refine IsS72.far ?_ NB0_134.out _ | refine IsS72.far ?_ NB0_135.out _ | refine IsS72.far ?_ NB0_136.out _) | exact HI0.out)), (by repeat (first | (with_reducible first | exact HK.out | apply KeepBut.set_ | apply keep_drewN | apply keep_drew | apply keep_alloc | refine keep_far ?_ GW134.out _ | refine keep_far ?_ GW135.out _ | refine keep_far ?_ GW136.out _) | exact HK.out)), (by repeat (first | (with_reducible first | exact HB.out | apply below_alloc | apply pw_below_drewN | apply below_drew1 | refine below_set ?_ (IsS72.ge HI0.out) | refine below_set ?_ GE134.out | refine below_set ?_ GE135.out | refine below_set ?_ GE136.out) | exact HB.out)), z_BK145, Q_GW145, Q_GE145, Q_NB0_145, Q_NB145_0, Q_NB134_145, Q_NB145_134, Q_NB135_145, Q_NB145_135, Q_NB136_145, Q_NB145_136, fun h0_ => absurd ((hoff 12 (by kernel_rfl)).symm.trans h0_) (by decide), Q_X11_⟩
                refine steps_cons ?_ ?_
                · rintro b a w' ⟨gb145, m11_, ha, Q_BK134, Q_BK135, Q_BK136, Q_HI0, Q_HK, Q_HB, Q_BK145, Q_GW145, Q_GE145, Q_NB0_145, Q_NB145_0, Q_NB134_145, Q_NB145_134, Q_NB135_145, Q_NB145_135, Q_NB136_145, Q_NB145_136, Q_BK145_e12, Q_X11_⟩ hb_ hon hoff
                  refine ⟨_, rfl, fun K hK => ?_⟩
                  have e44 : a.tmps[44]? = some (.tuple #[.agg #[.int .i8 t138, .int .i8 t139, .int .i8 t140, .int .i8 t141, .int .i8 t142, .int .i8 t143], .bool t144]) := by rw [ha]; exact putSel_on (e := (7, 44, .tuple #[.agg #[.int .i8 t138, .int .i8 t139, .int .i8 t140, .int .i8 t141, .int .i8 t142, .int .i8 t143], .bool t144])) 4 rfl rfl (hon 7 (by kernel_rfl)) rfl
                  replace ha := Aside0.mk ha
                  have BK134 := Aside0.mk Q_BK134
                  have BK135 := Aside0.mk Q_BK135
                  have BK136 := Aside0.mk Q_BK136
                  have HI0 := Aside0.mk Q_HI0
                  have HK := Aside0.mk Q_HK
                  have HB := Aside0.mk Q_HB
                  refine value_ (w1 := w') (v := .tuple #[.agg #[.int .i8 t138, .int .i8 t139, .int .i8 t140, .int .i8 t141, .int .i8 t142, .int .i8 t143], .bool t144]) (by rfl) rfl ?_ ?_
                  · go_simp
                    (try simp only [i64_w])
                    try rfl
                  refine hK.out _ _ ⟨gb145, m11_, (by rw [ha.out]; exact putSel_upk 5 hb_ rfl rfl rfl), Q_BK134, Q_BK135, Q_BK136, Q_HI0, Q_HK, Q_HB, Q_BK145, Q_GW145, Q_GE145, Q_NB0_145, Q_NB145_0, Q_NB134_145, Q_NB145_134, Q_NB135_145, Q_NB145_135, Q_NB136_145, Q_NB145_136, fun h0_ => absurd ((hoff 12 (by kernel_rfl)).symm.trans h0_) (by decide), Q_X11_⟩
                refine steps_cons ?_ ?_
                · rintro b a w' ⟨gb145, m11_, ha, Q_BK134, Q_BK135, Q_BK136, Q_HI0, Q_HK, Q_HB, Q_BK145, Q_GW145, Q_GE145, Q_NB0_145, Q_NB145_0, Q_NB134_145, Q_NB145_134, Q_NB135_145, Q_NB145_135, Q_NB136_145, Q_NB145_136, Q_BK145_e12, Q_X11_⟩ hb_ hon hoff
                  refine ⟨_, rfl, fun K hK => ?_⟩
                  have e36 : a.tmps[36]? = some (.tuple #[.agg #[.int .i8 t138, .int .i8 t139, .int .i8 t140, .int .i8 t141, .int .i8 t142, .int .i8 t143], .bool t144]) := by rw [ha]; exact putSel_on (e := (8, 36, .tuple #[.agg #[.int .i8 t138, .int .i8 t139, .int .i8 t140, .int .i8 t141, .int .i8 t142, .int .i8 t143], .bool t144])) 5 rfl rfl (hon 8 (by kernel_rfl)) rfl
                  replace ha := Aside0.mk ha
                  have BK134 := Aside0.mk Q_BK134
                  have BK135 := Aside0.mk Q_BK135
                  have BK136 := Aside0.mk Q_BK136
                  have HI0 := Aside0.mk Q_HI0
                  have HK := Aside0.mk Q_HK
                  have HB := Aside0.mk Q_HB
                  refine value_ (w1 := w') (v := .agg #[.int .i8 t138, .int .i8 t139, .int .i8 t140, .int .i8 t141, .int .i8 t142, .int .i8 t143]) (by rfl) rfl ?_ ?_
                  · go_simp
                    (try simp only [i64_w])
                    try rfl
                  refine hK.out _ _ ⟨gb145, m11_, (by rw [ha.out]; exact putSel_upk 6 hb_ rfl rfl rfl), Q_BK134, Q_BK135, Q_BK136, Q_HI0, Q_HK, Q_HB, Q_BK145, Q_GW145, Q_GE145, Q_NB0_145, Q_NB145_0, Q_NB134_145, Q_NB145_134, Q_NB135_145, Q_NB145_135, Q_NB136_145, Q_NB145_136, fun h0_ => absurd ((hoff 12 (by kernel_rfl)).symm.trans h0_) (by decide), Q_X11_⟩
                refine steps_cons ?_ ?_
                · rintro b a w' ⟨gb145, m11_, ha, Q_BK134, Q_BK135, Q_BK136, Q_HI0, Q_HK, Q_HB, Q_BK145, Q_GW145, Q_GE145, Q_NB0_145, Q_NB145_0, Q_NB134_145, Q_NB145_134, Q_NB135_145, Q_NB145_135, Q_NB136_145, Q_NB145_136, Q_BK145_e12, Q_X11_⟩ hb_ hon hoff
                  refine ⟨_, rfl, fun K hK => ?_⟩
                  have e36 : a.tmps[36]? = some (.tuple #[.agg #[.int .i8 t138, .int .i8 t139, .int .i8 t140, .int .i8 t141, .int .i8 t142, .int .i8 t143], .bool t144]) := by rw [ha]; exact putSel_on (e := (8, 36, .tuple #[.agg #[.int .i8 t138, .int .i8 t139, .int .i8 t140, .int .i8 t141, .int .i8 t142, .int .i8 t143], .bool t144])) 5 rfl rfl (hon 8 (by kernel_rfl)) rfl
                  replace ha := Aside0.mk ha
                  have BK134 := Aside0.mk Q_BK134
                  have BK135 := Aside0.mk Q_BK135
                  have BK136 := Aside0.mk Q_BK136
                  have HI0 := Aside0.mk Q_HI0
                  have HK := Aside0.mk Q_HK
                  have HB := Aside0.mk Q_HB
                  refine value_ (w1 := w') (v := .bool t144) (by rfl) rfl ?_ ?_
                  · go_simp
                    (try simp only [i64_w])
                    try rfl
                  refine hK.out _ _ ⟨gb145, m11_, (by rw [ha.out]; exact putSel_upk 7 hb_ rfl rfl rfl), Q_BK134, Q_BK135, Q_BK136, Q_HI0, Q_HK, Q_HB, Q_BK145, Q_GW145, Q_GE145, Q_NB0_145, Q_NB145_0, Q_NB134_145, Q_NB145_134, Q_NB135_145, Q_NB145_135, Q_NB136_145, Q_NB145_136, Q_BK145_e12, Q_X11_⟩
                refine steps_cons ?_ ?_
                · rintro b a w' ⟨gb145, m11_, ha, Q_BK134, Q_BK135, Q_BK136, Q_HI0, Q_HK, Q_HB, Q_BK145, Q_GW145, Q_GE145, Q_NB0_145, Q_NB145_0, Q_NB134_145, Q_NB145_134, Q_NB135_145, Q_NB145_135, Q_NB136_145, Q_NB145_136, Q_BK145_e12, Q_X11_⟩ hb_ hon hoff
                  refine ⟨_, rfl, fun K hK => ?_⟩
                  replace ha := Aside0.mk ha
                  have BK134 := Aside0.mk Q_BK134
                  have BK135 := Aside0.mk Q_BK135
                  have BK136 := Aside0.mk Q_BK136
                  have HI0 := Aside0.mk Q_HI0
                  have HK := Aside0.mk Q_HK
                  have HB := Aside0.mk Q_HB
                  refine box_step ?hg (N := 10) ?hd (cs := #[.int .i8 0, .int .i8 0, .int .i8 0, .int .i8 0, .int .i8 0, .int .i8 0]) (t := 44) ?hr ?_; (case hd => rfl); (case hg => rfl); (case hr => first | (go_simp; done) | (go_simp; rfl))
                  intro gb145 hg w22 hbox hb
                  have n0_ := Aside0.mk (sqB BK134.out hb)
                  have n1_ := Aside0.mk (sqB BK135.out hb)
                  have n2_ := Aside0.mk (sqB BK136.out hb)
                  have n3_ := Aside0.mk (IsS72.below (by repeat (first | (with_reducible first | exact HI0.out | apply IsS72.alloc | apply IsS72.drewN | apply IsS72.drew | apply IsS72.set_0 | apply IsS72.set_1 | apply IsS72.set_2 | apply IsS72.set_3 | apply IsS72.set_4 | apply IsS72.set_5 | apply IsS72.set_6 | apply IsS72.set_7 | apply IsS72.set_8 | refine IsS72.far ?_ NB0_134.out _ | refine IsS72.far ?_ NB0_135.out _ | refine IsS72.far ?_ NB0_136.out _) | exact HI0.out)) hb)
                  have n4_ := Aside0.mk (KeepBut.trans (by repeat (first | (with_reducible first | exact HK.out | apply KeepBut.set_ | apply keep_drewN | apply keep_drew | apply keep_alloc | refine keep_far ?_ GW134.out _ | refine keep_far ?_ GW135.out _ | refine keep_far ?_ GW136.out _) | exact HK.out)) (KeepBut.of_below hb g none) (.inl rfl))
                  have n5_ := Aside0.mk (below_step (by repeat (first | (with_reducible first | exact HB.out | apply below_alloc | apply pw_below_drewN | apply below_drew1 | refine below_set ?_ (IsS72.ge HI0.out) | refine below_set ?_ GE134.out | refine below_set ?_ GE135.out | refine below_set ?_ GE136.out) | exact HB.out)) hb)
                  have n6_ := Aside0.mk (hbox)
                  have n7_ := Aside0.mk ((by rw [hg]; exact (keep_size (w := w) (g := g) (row := none) (by repeat (first | (with_reducible first | exact HK.out | apply KeepBut.set_ | apply keep_drewN | apply keep_drew | apply keep_alloc | refine keep_far ?_ GW134.out _ | refine keep_far ?_ GW135.out _ | refine keep_far ?_ GW136.out _) | exact HK.out))) : w.heap.size ≤ gb145))
                  have n8_ := Aside0.mk ((Nat.le_trans HW0.out (by rw [hg]; exact (keep_size (w := w) (g := g) (row := none) (by repeat (first | (with_reducible first | exact HK.out | apply KeepBut.set_ | apply keep_drewN | apply keep_drew | apply keep_alloc | refine keep_far ?_ GW134.out _ | refine keep_far ?_ GW135.out _ | refine keep_far ?_ GW136.out _) | exact HK.out))) : w.heap.size ≤ gb145) : w0.heap.size ≤ gb145))
                  have n9_ := Aside0.mk ((by rw [hg]; exact Nat.ne_of_lt (blk_lt (g := gp1) (o := .cells (a1).A 38 (0, 0)) (sqO BK134.out)) : gp1 ≠ gb145))
                  have n10_ := Aside0.mk ((by rw [hg]; exact Nat.ne_of_gt (blk_lt (g := gp1) (o := .cells (a1).A 38 (0, 0)) (sqO BK134.out)) : gb145 ≠ gp1))
                  have n11_ := Aside0.mk ((by rw [hg]; exact Nat.ne_of_lt (blk_lt (g := gp2) (o := .cells (a2).A 40 (0, 0)) (sqO BK135.out)) : gp2 ≠ gb145))
                  have n12_ := Aside0.mk ((by rw [hg]; exact Nat.ne_of_gt (blk_lt (g := gp2) (o := .cells (a2).A 40 (0, 0)) (sqO BK135.out)) : gb145 ≠ gp2))
                  have n13_ := Aside0.mk ((by rw [hg]; exact Nat.ne_of_lt (blk_lt (g := gb136) (o := .cells #[.int .i8 a3_0, .int .i8 a3_1] 78 (0, 0)) (sqO BK136.out)) : gb136 ≠ gb145))
                  have n14_ := Aside0.mk ((by rw [hg]; exact Nat.ne_of_gt (blk_lt (g := gb136) (o := .cells #[.int .i8 a3_0, .int .i8 a3_1] 78 (0, 0)) (sqO BK136.out)) : gb145 ≠ gb136))
                  have n15_ := Aside0.mk ((by rw [hg]; exact Nat.ne_of_lt (IsS72.lt (show IsS72 w0 _ g s0_0 s0_1 s0_2 s0_3 s0_4 s0_5 s0_6 x1007_14 s0_8 s0_9 from by repeat (first | (with_reducible first | exact HI0.out | apply IsS72.alloc | apply IsS72.drewN | apply IsS72.drew | apply IsS72.set_0 | apply IsS72.set_1 | apply IsS72.set_2 | apply IsS72.set_3 | apply IsS72.set_4 | apply IsS72.set_5 | apply IsS72.set_6 | apply IsS72.set_7 | apply IsS72.set_8 | refine IsS72.far ?_ NB0_134.out _ | refine IsS72.far ?_ NB0_135.out _ | refine IsS72.far ?_ NB0_136.out _) | exact HI0.out))) : g ≠ gb145))
                  have n16_ := Aside0.mk ((by rw [hg]; exact Nat.ne_of_gt (IsS72.lt (show IsS72 w0 _ g s0_0 s0_1 s0_2 s0_3 s0_4 s0_5 s0_6 x1007_14 s0_8 s0_9 from by repeat (first | (with_reducible first | exact HI0.out | apply IsS72.alloc | apply IsS72.drewN | apply IsS72.drew | apply IsS72.set_0 | apply IsS72.set_1 | apply IsS72.set_2 | apply IsS72.set_3 | apply IsS72.set_4 | apply IsS72.set_5 | apply IsS72.set_6 | apply IsS72.set_7 | apply IsS72.set_8 | refine IsS72.far ?_ NB0_134.out _ | refine IsS72.far ?_ NB0_135.out _ | refine IsS72.far ?_ NB0_136.out _) | exact HI0.out))) : gb145 ≠ g))
                  clear BK134
                  clear BK135
                  clear BK136
                  clear HI0
                  clear HK
                  clear HB
                  have BK134 := n0_
                  have BK135 := n1_
                  have BK136 := n2_
                  have HI0 := n3_
                  have HK := n4_
                  have HB := n5_
                  have BK145 := n6_
                  have GW145 := n7_
                  have GE145 := n8_
                  have NB134_145 := n9_
                  have NB145_134 := n10_
                  have NB135_145 := n11_
                  have NB145_135 := n12_
                  have NB136_145 := n13_
                  have NB145_136 := n14_
                  have NB0_145 := n15_
                  have NB145_0 := n16_
                  clear n0_ n1_ n2_ n3_ n4_ n5_ n6_ n7_ n8_ n9_ n10_ n11_ n12_ n13_ n14_ n15_ n16_
                  clear hb hbox hg
                  refine hK.out _ _ ⟨gb145, (.pointer (some ⟨gb145, 0, none⟩)), (by rw [ha.out]; exact putSel_upk 8 hb_ rfl rfl rfl), (sqO BK134.out), (sqO BK135.out), (sqO BK136.out), (by repeat (first | (with_reducible first | exact HI0.out | apply IsS72.alloc | apply IsS72.drewN | apply IsS72.drew | apply IsS72.set_0 | apply IsS72.set_1 | apply IsS72.set_2 | apply IsS72.set_3 | apply IsS72.set_4 | apply IsS72.set_5 | apply IsS72.set_6 | apply IsS72.set_7 | apply IsS72.set_8 | refine IsS72.far ?_ NB0_134.out _ | refine IsS72.far ?_ NB0_135.out _ | refine IsS72.far ?_ NB0_136.out _ | refine IsS72.far ?_ NB0_145.out _) | exact HI0.out)), (by repeat (first | (with_reducible first | exact HK.out | apply KeepBut.set_ | apply keep_drewN | apply keep_drew | apply keep_alloc | refine keep_far ?_ GW134.out _ | refine keep_far ?_ GW135.out _ | refine keep_far ?_ GW136.out _ | refine keep_far ?_ GW145.out _) | exact HK.out)), (by repeat (first | (with_reducible first | exact HB.out | apply below_alloc | apply pw_below_drewN | apply below_drew1 | refine below_set ?_ (IsS72.ge HI0.out) | refine below_set ?_ GE134.out | refine below_set ?_ GE135.out | refine below_set ?_ GE136.out | refine below_set ?_ GE145.out) | exact HB.out)), fun _ _ => (sqO BK145.out), fun _ => GW145.out, fun _ => GE145.out, fun _ => NB0_145.out, fun _ => NB145_0.out, fun _ => NB134_145.out, fun _ => NB145_134.out, fun _ => NB135_145.out, fun _ => NB145_135.out, fun _ => NB136_145.out, fun _ => NB145_136.out, fun h0_ => absurd ((hoff 12 (by kernel_rfl)).symm.trans h0_) (by decide), fun _ => rfl⟩
                refine steps_cons ?_ ?_
                · rintro b a w' ⟨gb145, m11_, ha, Q_BK134, Q_BK135, Q_BK136, Q_HI0, Q_HK, Q_HB, Q_BK145, Q_GW145, Q_GE145, Q_NB0_145, Q_NB145_0, Q_NB134_145, Q_NB145_134, Q_NB135_145, Q_NB145_135, Q_NB136_145, Q_NB145_136, Q_BK145_e12, Q_X11_⟩ hb_ hon hoff
                  refine ⟨_, rfl, fun K hK => ?_⟩
                  have e10 : a.tmps[10]? = some (m11_) := by rw [ha]; exact putSel_on (e := (11, 10, m11_)) 8 rfl rfl (hon 11 (by kernel_rfl)) rfl
                  rw [Q_X11_ (hon 11 (by kernel_rfl))] at e10
                  have e45 : a.tmps[45]? = some (.agg #[.int .i8 t138, .int .i8 t139, .int .i8 t140, .int .i8 t141, .int .i8 t142, .int .i8 t143]) := by rw [ha]; exact putSel_on (e := (9, 45, .agg #[.int .i8 t138, .int .i8 t139, .int .i8 t140, .int .i8 t141, .int .i8 t142, .int .i8 t143])) 6 rfl rfl (hon 9 (by kernel_rfl)) rfl
                  replace ha := Aside0.mk ha
                  have BK134 := Aside0.mk Q_BK134
                  have BK135 := Aside0.mk Q_BK135
                  have BK136 := Aside0.mk Q_BK136
                  have HI0 := Aside0.mk Q_HI0
                  have HK := Aside0.mk Q_HK
                  have HB := Aside0.mk Q_HB
                  have BK145 := Aside0.mk (Q_BK145 (hon 11 (by kernel_rfl)) hb_)
                  have GW145 := Aside0.mk (Q_GW145 (hon 11 (by kernel_rfl)))
                  have GE145 := Aside0.mk (Q_GE145 (hon 11 (by kernel_rfl)))
                  have NB0_145 := Aside0.mk (Q_NB0_145 (hon 11 (by kernel_rfl)))
                  have NB145_0 := Aside0.mk (Q_NB145_0 (hon 11 (by kernel_rfl)))
                  have NB134_145 := Aside0.mk (Q_NB134_145 (hon 11 (by kernel_rfl)))
                  have NB145_134 := Aside0.mk (Q_NB145_134 (hon 11 (by kernel_rfl)))
                  have NB135_145 := Aside0.mk (Q_NB135_145 (hon 11 (by kernel_rfl)))
                  have NB145_135 := Aside0.mk (Q_NB145_135 (hon 11 (by kernel_rfl)))
                  have NB136_145 := Aside0.mk (Q_NB136_145 (hon 11 (by kernel_rfl)))
                  have NB145_136 := Aside0.mk (Q_NB145_136 (hon 11 (by kernel_rfl)))
                  have hs25 : w'.cell? ⟨gb145, 0, none⟩ = some (.int .i8 0) := (blk_cell BK145.out 0).trans rfl
                  have hfs25 := blk_frozen BK145.out 0
                  have hns25_0 := NB134_145.out
                  have hns25_1 := NB135_145.out
                  have hns25_2 := NB136_145.out
                  have hms25_0 := NB145_134.out
                  have hms25_1 := NB145_135.out
                  have hms25_2 := NB145_136.out
                  have hs26 : w'.cell? ⟨gb145, 1, none⟩ = some (.int .i8 0) := (blk_cell BK145.out 1).trans rfl
                  have hfs26 := blk_frozen BK145.out 1
                  have hns26_0 := NB134_145.out
                  have hns26_1 := NB135_145.out
                  have hns26_2 := NB136_145.out
                  have hms26_0 := NB145_134.out
                  have hms26_1 := NB145_135.out
                  have hms26_2 := NB145_136.out
                  have hs27 : w'.cell? ⟨gb145, 2, none⟩ = some (.int .i8 0) := (blk_cell BK145.out 2).trans rfl
                  have hfs27 := blk_frozen BK145.out 2
                  have hns27_0 := NB134_145.out
                  have hns27_1 := NB135_145.out
                  have hns27_2 := NB136_145.out
                  have hms27_0 := NB145_134.out
                  have hms27_1 := NB145_135.out
                  have hms27_2 := NB145_136.out
                  have hs28 : w'.cell? ⟨gb145, 3, none⟩ = some (.int .i8 0) := (blk_cell BK145.out 3).trans rfl
                  have hfs28 := blk_frozen BK145.out 3
                  have hns28_0 := NB134_145.out
                  have hns28_1 := NB135_145.out
                  have hns28_2 := NB136_145.out
                  have hms28_0 := NB145_134.out
                  have hms28_1 := NB145_135.out
                  have hms28_2 := NB145_136.out
                  have hs29 : w'.cell? ⟨gb145, 4, none⟩ = some (.int .i8 0) := (blk_cell BK145.out 4).trans rfl
                  have hfs29 := blk_frozen BK145.out 4
                  have hns29_0 := NB134_145.out
                  have hns29_1 := NB135_145.out
                  have hns29_2 := NB136_145.out
                  have hms29_0 := NB145_134.out
                  have hms29_1 := NB145_135.out
                  have hms29_2 := NB145_136.out
                  have hs30 : w'.cell? ⟨gb145, 5, none⟩ = some (.int .i8 0) := (blk_cell BK145.out 5).trans rfl
                  have hfs30 := blk_frozen BK145.out 5
                  have hns30_0 := NB134_145.out
                  have hns30_1 := NB135_145.out
                  have hns30_2 := NB136_145.out
                  have hms30_0 := NB145_134.out
                  have hms30_1 := NB145_135.out
                  have hms30_2 := NB145_136.out
                  refine skip_ (w1 := ?_) (by rfl) rfl ?_ ?_
                  rotate_left
                  · go_simp
                    rfl
                  refine hK.out _ _ ⟨gb145, m11_, (by rw [ha.out]; exact putSel_none (v := undef) rfl), (by (with_reducible repeat (first | refine blk_drewN ?_ _ | refine blk_drew ?_ | refine blk_alloc ?_ _)); refine blk_far ?_ NB134_145.out _; (with_reducible repeat (first | refine blk_drewN ?_ _ | refine blk_drew ?_ | refine blk_alloc ?_ _)); refine blk_far ?_ NB134_145.out _; (with_reducible repeat (first | refine blk_drewN ?_ _ | refine blk_drew ?_ | refine blk_alloc ?_ _)); refine blk_far ?_ NB134_145.out _; (with_reducible repeat (first | refine blk_drewN ?_ _ | refine blk_drew ?_ | refine blk_alloc ?_ _)); refine blk_far ?_ NB134_145.out _; (with_reducible repeat (first | refine blk_drewN ?_ _ | refine blk_drew ?_ | refine blk_alloc ?_ _)); refine blk_far ?_ NB134_145.out _; (with_reducible repeat (first | refine blk_drewN ?_ _ | refine blk_drew ?_ | refine blk_alloc ?_ _)); refine blk_far ?_ NB134_145.out _; (with_reducible repeat (first | refine blk_drewN ?_ _ | refine blk_drew ?_ | refine blk_alloc ?_ _)); exact BK134.out), (by (with_reducible repeat (first | refine blk_drewN ?_ _ | refine blk_drew ?_ | refine blk_alloc ?_ _)); refine blk_far ?_ NB135_145.out _; (with_reducible repeat (first | refine blk_drewN ?_ _ | refine blk_drew ?_ | refine blk_alloc ?_ _)); refine blk_far ?_ NB135_145.out _; (with_reducible repeat (first | refine blk_drewN ?_ _ | refine blk_drew ?_ | refine blk_alloc ?_ _)); refine blk_far ?_ NB135_145.out _; (with_reducible repeat (first | refine blk_drewN ?_ _ | refine blk_drew ?_ | refine blk_alloc ?_ _)); refine blk_far ?_ NB135_145.out _; (with_reducible repeat (first | refine blk_drewN ?_ _ | refine blk_drew ?_ | refine blk_alloc ?_ _)); refine blk_far ?_ NB135_145.out _; (with_reducible repeat (first | refine blk_drewN ?_ _ | refine blk_drew ?_ | refine blk_alloc ?_ _)); refine blk_far ?_ NB135_145.out _; (with_reducible repeat (first | refine blk_drewN ?_ _ | refine blk_drew ?_ | refine blk_alloc ?_ _)); exact BK135.out), (by (with_reducible repeat (first | refine blk_drewN ?_ _ | refine blk_drew ?_ | refine blk_alloc ?_ _)); refine blk_far ?_ NB136_145.out _; (with_reducible repeat (first | refine blk_drewN ?_ _ | refine blk_drew ?_ | refine blk_alloc ?_ _)); refine blk_far ?_ NB136_145.out _; (with_reducible repeat (first | refine blk_drewN ?_ _ | refine blk_drew ?_ | refine blk_alloc ?_ _)); refine blk_far ?_ NB136_145.out _; (with_reducible repeat (first | refine blk_drewN ?_ _ | refine blk_drew ?_ | refine blk_alloc ?_ _)); refine blk_far ?_ NB136_145.out _; (with_reducible repeat (first | refine blk_drewN ?_ _ | refine blk_drew ?_ | refine blk_alloc ?_ _)); refine blk_far ?_ NB136_145.out _; (with_reducible repeat (first | refine blk_drewN ?_ _ | refine blk_drew ?_ | refine blk_alloc ?_ _)); refine blk_far ?_ NB136_145.out _; (with_reducible repeat (first | refine blk_drewN ?_ _ | refine blk_drew ?_ | refine blk_alloc ?_ _)); exact BK136.out), (by repeat (first | (with_reducible first | exact HI0.out | apply IsS72.alloc | apply IsS72.drewN | apply IsS72.drew | apply IsS72.set_0 | apply IsS72.set_1 | apply IsS72.set_2 | apply IsS72.set_3 | apply IsS72.set_4 | apply IsS72.set_5 | apply IsS72.set_6 | apply IsS72.set_7 | apply IsS72.set_8 | refine IsS72.far ?_ NB0_134.out _ | refine IsS72.far ?_ NB0_135.out _ | refine IsS72.far ?_ NB0_136.out _ | refine IsS72.far ?_ NB0_145.out _) | exact HI0.out)), (by repeat (first | (with_reducible first | exact HK.out | apply KeepBut.set_ | apply keep_drewN | apply keep_drew | apply keep_alloc | refine keep_far ?_ GW134.out _ | refine keep_far ?_ GW135.out _ | refine keep_far ?_ GW136.out _ | refine keep_far ?_ GW145.out _) | exact HK.out)), (by repeat (first | (with_reducible first | exact HB.out | apply below_alloc | apply pw_below_drewN | apply below_drew1 | refine below_set ?_ (IsS72.ge HI0.out) | refine below_set ?_ GE134.out | refine below_set ?_ GE135.out | refine below_set ?_ GE136.out | refine below_set ?_ GE145.out) | exact HB.out)), fun _ h1_ => absurd ((up_self b 12).symm.trans h1_) (by decide), fun _ => GW145.out, fun _ => GE145.out, fun _ => NB0_145.out, fun _ => NB145_0.out, fun _ => NB134_145.out, fun _ => NB145_134.out, fun _ => NB135_145.out, fun _ => NB145_135.out, fun _ => NB136_145.out, fun _ => NB145_136.out, fun _ => (by (with_reducible repeat (first | refine blk_drewN ?_ _ | refine blk_drew ?_ | refine blk_alloc ?_ _)); refine blk_put (cs := #[.int .i8 t138, .int .i8 t139, .int .i8 t140, .int .i8 t141, .int .i8 t142, .int .i8 0]) ?_ 5 _ rfl; (with_reducible repeat (first | refine blk_drewN ?_ _ | refine blk_drew ?_ | refine blk_alloc ?_ _)); refine blk_put (cs := #[.int .i8 t138, .int .i8 t139, .int .i8 t140, .int .i8 t141, .int .i8 0, .int .i8 0]) ?_ 4 _ rfl; (with_reducible repeat (first | refine blk_drewN ?_ _ | refine blk_drew ?_ | refine blk_alloc ?_ _)); refine blk_put (cs := #[.int .i8 t138, .int .i8 t139, .int .i8 t140, .int .i8 0, .int .i8 0, .int .i8 0]) ?_ 3 _ rfl; (with_reducible repeat (first | refine blk_drewN ?_ _ | refine blk_drew ?_ | refine blk_alloc ?_ _)); refine blk_put (cs := #[.int .i8 t138, .int .i8 t139, .int .i8 0, .int .i8 0, .int .i8 0, .int .i8 0]) ?_ 2 _ rfl; (with_reducible repeat (first | refine blk_drewN ?_ _ | refine blk_drew ?_ | refine blk_alloc ?_ _)); refine blk_put (cs := #[.int .i8 t138, .int .i8 0, .int .i8 0, .int .i8 0, .int .i8 0, .int .i8 0]) ?_ 1 _ rfl; (with_reducible repeat (first | refine blk_drewN ?_ _ | refine blk_drew ?_ | refine blk_alloc ?_ _)); refine blk_put (cs := #[.int .i8 0, .int .i8 0, .int .i8 0, .int .i8 0, .int .i8 0, .int .i8 0]) ?_ 0 _ rfl; (with_reducible repeat (first | refine blk_drewN ?_ _ | refine blk_drew ?_ | refine blk_alloc ?_ _)); exact BK145.out), Q_X11_⟩
                refine steps_cons ?_ ?_
                · rintro b a w' ⟨gb145, m11_, ha, Q_BK134, Q_BK135, Q_BK136, Q_HI0, Q_HK, Q_HB, Q_BK145, Q_GW145, Q_GE145, Q_NB0_145, Q_NB145_0, Q_NB134_145, Q_NB145_134, Q_NB135_145, Q_NB145_135, Q_NB136_145, Q_NB145_136, Q_BK145_e12, Q_X11_⟩ hb_ hon hoff
                  refine ⟨_, rfl, fun K hK => ?_⟩
                  have e46 : a.tmps[46]? = some (.bool t144) := by rw [ha]; exact putSel_on (e := (10, 46, .bool t144)) 7 rfl rfl (hon 10 (by kernel_rfl)) rfl
                  replace ha := Aside0.mk ha
                  have BK134 := Aside0.mk Q_BK134
                  have BK135 := Aside0.mk Q_BK135
                  have BK136 := Aside0.mk Q_BK136
                  have HI0 := Aside0.mk Q_HI0
                  have HK := Aside0.mk Q_HK
                  have HB := Aside0.mk Q_HB
                  have GW145 := Aside0.mk (Q_GW145 (hon 11 (by kernel_rfl)))
                  have GE145 := Aside0.mk (Q_GE145 (hon 11 (by kernel_rfl)))
                  have NB0_145 := Aside0.mk (Q_NB0_145 (hon 11 (by kernel_rfl)))
                  have NB145_0 := Aside0.mk (Q_NB145_0 (hon 11 (by kernel_rfl)))
                  have NB134_145 := Aside0.mk (Q_NB134_145 (hon 11 (by kernel_rfl)))
                  have NB145_134 := Aside0.mk (Q_NB145_134 (hon 11 (by kernel_rfl)))
                  have NB135_145 := Aside0.mk (Q_NB135_145 (hon 11 (by kernel_rfl)))
                  have NB145_135 := Aside0.mk (Q_NB145_135 (hon 11 (by kernel_rfl)))
                  have NB136_145 := Aside0.mk (Q_NB136_145 (hon 11 (by kernel_rfl)))
                  have NB145_136 := Aside0.mk (Q_NB145_136 (hon 11 (by kernel_rfl)))
                  have BK145 := Aside0.mk (Q_BK145_e12 (hon 12 (by kernel_rfl)))
                  refine value_ (w1 := w') (v := .bool t144) (by rfl) rfl ?_ ?_
                  · go_simp
                    (try simp only [i64_w])
                    try rfl
                  refine hK.out _ _ ⟨gb145, m11_, (by rw [ha.out]; exact putSel_upk 9 hb_ rfl rfl rfl), Q_BK134, Q_BK135, Q_BK136, Q_HI0, Q_HK, Q_HB, fun _ h1_ => absurd ((hon 12 (by kernel_rfl)).symm.trans h1_) (by decide), Q_GW145, Q_GE145, Q_NB0_145, Q_NB145_0, Q_NB134_145, Q_NB145_134, Q_NB135_145, Q_NB145_135, Q_NB136_145, Q_NB145_136, Q_BK145_e12, Q_X11_⟩
                exact steps_nil
              rintro b a w30 hall ⟨gb145, m11_, ha, Q_BK134, Q_BK135, Q_BK136, Q_HI0, Q_HK, Q_HB, Q_BK145, Q_GW145, Q_GE145, Q_NB0_145, Q_NB145_0, Q_NB134_145, Q_NB145_134, Q_NB135_145, Q_NB145_135, Q_NB136_145, Q_NB145_136, Q_BK145_e12, Q_X11_⟩
              clear BK134 BK135 BK136 HB HI0 HK
              have hb3_ := hall 3 (by kernel_rfl)
              have hb4_ := hall 4 (by kernel_rfl)
              have hb5_ := hall 5 (by kernel_rfl)
              have hb6_ := hall 6 (by kernel_rfl)
              have hb7_ := hall 7 (by kernel_rfl)
              have hb8_ := hall 8 (by kernel_rfl)
              have hb9_ := hall 9 (by kernel_rfl)
              have hb10_ := hall 10 (by kernel_rfl)
              have hb11_ := hall 11 (by kernel_rfl)
              have hb12_ := hall 12 (by kernel_rfl)
              have hb13_ := hall 13 (by kernel_rfl)
              subst ha
              obtain rfl := Q_X11_ hb11_
              simp only [putSel, hb3_, hb4_, hb5_, hb6_, hb7_, hb8_, hb9_, hb10_, hb11_, hb12_, hb13_, if_true, Act.put, List.setIfInBounds_toArray, List.set_cons_zero, List.set_cons_succ]
              have BK134 := Aside0.mk Q_BK134
              clear Q_BK134
              have BK135 := Aside0.mk Q_BK135
              clear Q_BK135
              have BK136 := Aside0.mk Q_BK136
              clear Q_BK136
              have HI0 := Aside0.mk Q_HI0
              clear Q_HI0
              have HK := Aside0.mk Q_HK
              clear Q_HK
              have HB := Aside0.mk Q_HB
              clear Q_HB
              clear Q_BK145
              have GW145 := Aside0.mk (Q_GW145 hb11_)
              clear Q_GW145
              have GE145 := Aside0.mk (Q_GE145 hb11_)
              clear Q_GE145
              have NB0_145 := Aside0.mk (Q_NB0_145 hb11_)
              clear Q_NB0_145
              have NB145_0 := Aside0.mk (Q_NB145_0 hb11_)
              clear Q_NB145_0
              have NB134_145 := Aside0.mk (Q_NB134_145 hb11_)
              clear Q_NB134_145
              have NB145_134 := Aside0.mk (Q_NB145_134 hb11_)
              clear Q_NB145_134
              have NB135_145 := Aside0.mk (Q_NB135_145 hb11_)
              clear Q_NB135_145
              have NB145_135 := Aside0.mk (Q_NB145_135 hb11_)
              clear Q_NB145_135
              have NB136_145 := Aside0.mk (Q_NB136_145 hb11_)
              clear Q_NB136_145
              have NB145_136 := Aside0.mk (Q_NB145_136 hb11_)
              clear Q_NB145_136
              have BK145 := Aside0.mk (Q_BK145_e12 hb12_)
              clear Q_BK145_e12
              clear hall hb3_ hb4_ hb5_ hb6_ hb7_ hb8_ hb9_ hb10_ hb11_ hb12_ hb13_
              have hnb31 := NB145_134.out
              have hnc31 := NB134_145.out
              have hnb32 := NB145_135.out
              have hnc32 := NB135_145.out
              have hnb33 := NB145_136.out
              have hnc33 := NB136_145.out
              have hnb34 := NB145_0.out
              have hnc34 := NB0_145.out
              have hcz35_0 : w30.cell? ⟨gb145, 0, none⟩ = some (.int .i8 t138) := (blk_cell BK145.out 0).trans rfl
              have hcz35_1 : w30.cell? ⟨gb145, 1, none⟩ = some (.int .i8 t139) := (blk_cell BK145.out 1).trans rfl
              have hcz35_2 : w30.cell? ⟨gb145, 2, none⟩ = some (.int .i8 t140) := (blk_cell BK145.out 2).trans rfl
              have hcz35_3 : w30.cell? ⟨gb145, 3, none⟩ = some (.int .i8 t141) := (blk_cell BK145.out 3).trans rfl
              have hcz35_4 : w30.cell? ⟨gb145, 4, none⟩ = some (.int .i8 t142) := (blk_cell BK145.out 4).trans rfl
              have hcz35_5 : w30.cell? ⟨gb145, 5, none⟩ = some (.int .i8 t143) := (blk_cell BK145.out 5).trans rfl
              have hfz35_0 := blk_frozen BK145.out 0
              have hfz35_1 := blk_frozen BK145.out 1
              have hfz35_2 := blk_frozen BK145.out 2
              have hfz35_3 := blk_frozen BK145.out 3
              have hfz35_4 := blk_frozen BK145.out 4
              have hfz35_5 := blk_frozen BK145.out 5
              obtain ⟨HGz36, hgz36⟩ := HI0.out
              have hcz36_0 := cellS72_0 HGz36
              have hcz36_1 := cellS72_1 HGz36
              have hcz36_2 := cellS72_2 HGz36
              have hcz36_3 := cellS72_3 HGz36
              have hcz36_4 := cellS72_4 HGz36
              have hcz36_5 := cellS72_5 HGz36
              have hcz36_6 := cellS72_6 HGz36
              have hcz36_7 := cellS72_7 HGz36
              have hcz36_8 := cellS72_8 HGz36
              have hcz36_9 := cellS72_9 HGz36
              have hfz36_0 := blk_frozen HGz36 0
              have hfz36_1 := blk_frozen HGz36 1
              have hfz36_2 := blk_frozen HGz36 2
              have hfz36_3 := blk_frozen HGz36 3
              have hfz36_4 := blk_frozen HGz36 4
              have hfz36_5 := blk_frozen HGz36 5
              have hfz36_6 := blk_frozen HGz36 6
              have hfz36_7 := blk_frozen HGz36 7
              have hfz36_8 := blk_frozen HGz36 8
              clear HGz36 hgz36
              go_upto_if 55 with (fail)
              go_cut [] (fun wc => ∃ (kq : Nat) (x1008_19 : Int), Aside0 (spec_l07Drift_hour.j2 kq t138 t139 t140 t141 t142 t143 t144 x1007_14 x1008_19 s0_9 = some (r1, r2, r3, r4, r5, r6, r7, r8, r9)) ∧ Aside0 (kq ≤ kj14) ∧ Aside0 (wc.heap[gp1]? = some (.cells (a1).A 38 (0, 0))) ∧ Aside0 (wc.heap[gp2]? = some (.cells (a2).A 40 (0, 0))) ∧ Aside0 (wc.heap[gb136]? = some (.cells #[.int .i8 a3_0, .int .i8 a3_1] 78 (0, 0))) ∧ Aside0 (wc.heap[gb145]? = some (.cells #[.int .i8 t138, .int .i8 t139, .int .i8 t140, .int .i8 t141, .int .i8 t142, .int .i8 t143] 44 (0, 0))) ∧ Aside0 (IsS72 w0 wc g t138 t139 t140 t141 t142 t143 t144 x1007_14 x1008_19 s0_9) ∧ Aside0 (KeepBut w wc g none) ∧ Aside0 (Below w0.heap.size w0 wc))
              case first =>
                have H := HC20.out
                clear HC20
                by_cases c37 : t144 = true
                · subst c37
                  have H1 : (spec_l07Drift_hour.j2 kj14 t138 t139 t140 t141 t142 t143 true x1007_14 a4 s0_9) = some (r1, r2, r3, r4, r5, r6, r7, r8, r9) := by rw [if_pos rfl] at H; exact H
                  clear H
                  have H := H1
                  clear H1
                  have H' := Aside0.mk H
                  clear H
                  obtain ⟨HGz38, hgz38⟩ := HI0.out
                  have hcz38_0 := cellS72_0 HGz38
                  have hcz38_1 := cellS72_1 HGz38
                  have hcz38_2 := cellS72_2 HGz38
                  have hcz38_3 := cellS72_3 HGz38
                  have hcz38_4 := cellS72_4 HGz38
                  have hcz38_5 := cellS72_5 HGz38
                  have hcz38_6 := cellS72_6 HGz38
                  have hcz38_7 := cellS72_7 HGz38
                  have hcz38_8 := cellS72_8 HGz38
                  have hcz38_9 := cellS72_9 HGz38
                  have hfz38_0 := blk_frozen HGz38 0
                  have hfz38_1 := blk_frozen HGz38 1
                  have hfz38_2 := blk_frozen HGz38 2
                  have hfz38_3 := blk_frozen HGz38 3
                  have hfz38_4 := blk_frozen HGz38 4
                  have hfz38_5 := blk_frozen HGz38 5
                  have hfz38_6 := blk_frozen HGz38 6
                  have hfz38_7 := blk_frozen HGz38 7
                  have hfz38_8 := blk_frozen HGz38 8
                  clear HGz38 hgz38
                  go_wp2
                  go_meet
                  case rel => exact ⟨_, (a4), H', ⟨by have := HJ5.out; have := HJ14.out; first | omega | exact Nat.le_refl _⟩, ⟨by (with_reducible repeat (first | refine blk_drewN ?_ _ | refine blk_drew ?_ | refine blk_alloc ?_ _)); refine blk_far ?_ NB134_0.out _; (with_reducible repeat (first | refine blk_drewN ?_ _ | refine blk_drew ?_ | refine blk_alloc ?_ _)); refine blk_far ?_ NB134_0.out _; (with_reducible repeat (first | refine blk_drewN ?_ _ | refine blk_drew ?_ | refine blk_alloc ?_ _)); refine blk_far ?_ NB134_0.out _; (with_reducible repeat (first | refine blk_drewN ?_ _ | refine blk_drew ?_ | refine blk_alloc ?_ _)); refine blk_far ?_ NB134_0.out _; (with_reducible repeat (first | refine blk_drewN ?_ _ | refine blk_drew ?_ | refine blk_alloc ?_ _)); refine blk_far ?_ NB134_0.out _; (with_reducible repeat (first | refine blk_drewN ?_ _ | refine blk_drew ?_ | refine blk_alloc ?_ _)); refine blk_far ?_ NB134_0.out _; (with_reducible repeat (first | refine blk_drewN ?_ _ | refine blk_drew ?_ | refine blk_alloc ?_ _)); refine blk_far ?_ NB134_0.out _; (with_reducible repeat (first | refine blk_drewN ?_ _ | refine blk_drew ?_ | refine blk_alloc ?_ _)); refine blk_far ?_ NB134_0.out _; (with_reducible repeat (first | refine blk_drewN ?_ _ | refine blk_drew ?_ | refine blk_alloc ?_ _)); exact BK134.out⟩, ⟨by (with_reducible repeat (first | refine blk_drewN ?_ _ | refine blk_drew ?_ | refine blk_alloc ?_ _)); refine blk_far ?_ NB135_0.out _; (with_reducible repeat (first | refine blk_drewN ?_ _ | refine blk_drew ?_ | refine blk_alloc ?_ _)); refine blk_far ?_ NB135_0.out _; (with_reducible repeat (first | refine blk_drewN ?_ _ | refine blk_drew ?_ | refine blk_alloc ?_ _)); refine blk_far ?_ NB135_0.out _; (with_reducible repeat (first | refine blk_drewN ?_ _ | refine blk_drew ?_ | refine blk_alloc ?_ _)); refine blk_far ?_ NB135_0.out _; (with_reducible repeat (first | refine blk_drewN ?_ _ | refine blk_drew ?_ | refine blk_alloc ?_ _)); refine blk_far ?_ NB135_0.out _; (with_reducible repeat (first | refine blk_drewN ?_ _ | refine blk_drew ?_ | refine blk_alloc ?_ _)); refine blk_far ?_ NB135_0.out _; (with_reducible repeat (first | refine blk_drewN ?_ _ | refine blk_drew ?_ | refine blk_alloc ?_ _)); refine blk_far ?_ NB135_0.out _; (with_reducible repeat (first | refine blk_drewN ?_ _ | refine blk_drew ?_ | refine blk_alloc ?_ _)); refine blk_far ?_ NB135_0.out _; (with_reducible repeat (first | refine blk_drewN ?_ _ | refine blk_drew ?_ | refine blk_alloc ?_ _)); exact BK135.out⟩, ⟨by (with_reducible repeat (first | refine blk_drewN ?_ _ | refine blk_drew ?_ | refine blk_alloc ?_ _)); refine blk_far ?_ NB136_0.out _; (with_reducible repeat (first | refine blk_drewN ?_ _ | refine blk_drew ?_ | refine blk_alloc ?_ _)); refine blk_far ?_ NB136_0.out _; (with_reducible repeat (first | refine blk_drewN ?_ _ | refine blk_drew ?_ | refine blk_alloc ?_ _)); refine blk_far ?_ NB136_0.out _; (with_reducible repeat (first | refine blk_drewN ?_ _ | refine blk_drew ?_ | refine blk_alloc ?_ _)); refine blk_far ?_ NB136_0.out _; (with_reducible repeat (first | refine blk_drewN ?_ _ | refine blk_drew ?_ | refine blk_alloc ?_ _)); refine blk_far ?_ NB136_0.out _; (with_reducible repeat (first | refine blk_drewN ?_ _ | refine blk_drew ?_ | refine blk_alloc ?_ _)); refine blk_far ?_ NB136_0.out _; (with_reducible repeat (first | refine blk_drewN ?_ _ | refine blk_drew ?_ | refine blk_alloc ?_ _)); refine blk_far ?_ NB136_0.out _; (with_reducible repeat (first | refine blk_drewN ?_ _ | refine blk_drew ?_ | refine blk_alloc ?_ _)); refine blk_far ?_ NB136_0.out _; (with_reducible repeat (first | refine blk_drewN ?_ _ | refine blk_drew ?_ | refine blk_alloc ?_ _)); exact BK136.out⟩, ⟨by (with_reducible repeat (first | refine blk_drewN ?_ _ | refine blk_drew ?_ | refine blk_alloc ?_ _)); refine blk_far ?_ NB145_0.out _; (with_reducible repeat (first | refine blk_drewN ?_ _ | refine blk_drew ?_ | refine blk_alloc ?_ _)); refine blk_far ?_ NB145_0.out _; (with_reducible repeat (first | refine blk_drewN ?_ _ | refine blk_drew ?_ | refine blk_alloc ?_ _)); refine blk_far ?_ NB145_0.out _; (with_reducible repeat (first | refine blk_drewN ?_ _ | refine blk_drew ?_ | refine blk_alloc ?_ _)); refine blk_far ?_ NB145_0.out _; (with_reducible repeat (first | refine blk_drewN ?_ _ | refine blk_drew ?_ | refine blk_alloc ?_ _)); refine blk_far ?_ NB145_0.out _; (with_reducible repeat (first | refine blk_drewN ?_ _ | refine blk_drew ?_ | refine blk_alloc ?_ _)); refine blk_far ?_ NB145_0.out _; (with_reducible repeat (first | refine blk_drewN ?_ _ | refine blk_drew ?_ | refine blk_alloc ?_ _)); refine blk_far ?_ NB145_0.out _; (with_reducible repeat (first | refine blk_drewN ?_ _ | refine blk_drew ?_ | refine blk_alloc ?_ _)); refine blk_far ?_ NB145_0.out _; (with_reducible repeat (first | refine blk_drewN ?_ _ | refine blk_drew ?_ | refine blk_alloc ?_ _)); exact BK145.out⟩, ⟨by repeat (first | (with_reducible first | exact HI0.out | apply IsS72.alloc | apply IsS72.drewN | apply IsS72.drew | apply IsS72.set_0 | apply IsS72.set_1 | apply IsS72.set_2 | apply IsS72.set_3 | apply IsS72.set_4 | apply IsS72.set_5 | apply IsS72.set_6 | apply IsS72.set_7 | apply IsS72.set_8 | refine IsS72.far ?_ NB0_134.out _ | refine IsS72.far ?_ NB0_135.out _ | refine IsS72.far ?_ NB0_136.out _ | refine IsS72.far ?_ NB0_145.out _) | exact HI0.out)⟩, ⟨by repeat (first | (with_reducible first | exact HK.out | apply KeepBut.set_ | apply keep_drewN | apply keep_drew | apply keep_alloc | refine keep_far ?_ GW134.out _ | refine keep_far ?_ GW135.out _ | refine keep_far ?_ GW136.out _ | refine keep_far ?_ GW145.out _) | exact HK.out)⟩, ⟨by repeat (first | (with_reducible first | exact HB.out | apply below_alloc | apply pw_below_drewN | apply below_drew1 | refine below_set ?_ (IsS72.ge HI0.out) | refine below_set ?_ GE134.out | refine below_set ?_ GE135.out | refine below_set ?_ GE136.out | refine below_set ?_ GE145.out) | exact HB.out)⟩⟩
                · replace c37 := Bool.eq_false_iff.mpr c37
                  subst c37
                  have H1 : (spec_l07Drift_hour.j2 kj14 t138 t139 t140 t141 t142 t143 false x1007_14 s0_8 s0_9) = some (r1, r2, r3, r4, r5, r6, r7, r8, r9) := by rw [if_neg (show ¬ (false = true) by decide)] at H; exact H
                  clear H
                  have H := H1
                  clear H1
                  have H' := Aside0.mk H
                  clear H
                  go_wp2
                  go_meet
                  case rel => exact ⟨_, (s0_8), H', ⟨by have := HJ5.out; have := HJ14.out; first | omega | exact Nat.le_refl _⟩, ⟨by (with_reducible repeat (first | refine blk_drewN ?_ _ | refine blk_drew ?_ | refine blk_alloc ?_ _)); refine blk_far ?_ NB134_0.out _; (with_reducible repeat (first | refine blk_drewN ?_ _ | refine blk_drew ?_ | refine blk_alloc ?_ _)); refine blk_far ?_ NB134_0.out _; (with_reducible repeat (first | refine blk_drewN ?_ _ | refine blk_drew ?_ | refine blk_alloc ?_ _)); refine blk_far ?_ NB134_0.out _; (with_reducible repeat (first | refine blk_drewN ?_ _ | refine blk_drew ?_ | refine blk_alloc ?_ _)); refine blk_far ?_ NB134_0.out _; (with_reducible repeat (first | refine blk_drewN ?_ _ | refine blk_drew ?_ | refine blk_alloc ?_ _)); refine blk_far ?_ NB134_0.out _; (with_reducible repeat (first | refine blk_drewN ?_ _ | refine blk_drew ?_ | refine blk_alloc ?_ _)); refine blk_far ?_ NB134_0.out _; (with_reducible repeat (first | refine blk_drewN ?_ _ | refine blk_drew ?_ | refine blk_alloc ?_ _)); refine blk_far ?_ NB134_0.out _; (with_reducible repeat (first | refine blk_drewN ?_ _ | refine blk_drew ?_ | refine blk_alloc ?_ _)); exact BK134.out⟩, ⟨by (with_reducible repeat (first | refine blk_drewN ?_ _ | refine blk_drew ?_ | refine blk_alloc ?_ _)); refine blk_far ?_ NB135_0.out _; (with_reducible repeat (first | refine blk_drewN ?_ _ | refine blk_drew ?_ | refine blk_alloc ?_ _)); refine blk_far ?_ NB135_0.out _; (with_reducible repeat (first | refine blk_drewN ?_ _ | refine blk_drew ?_ | refine blk_alloc ?_ _)); refine blk_far ?_ NB135_0.out _; (with_reducible repeat (first | refine blk_drewN ?_ _ | refine blk_drew ?_ | refine blk_alloc ?_ _)); refine blk_far ?_ NB135_0.out _; (with_reducible repeat (first | refine blk_drewN ?_ _ | refine blk_drew ?_ | refine blk_alloc ?_ _)); refine blk_far ?_ NB135_0.out _; (with_reducible repeat (first | refine blk_drewN ?_ _ | refine blk_drew ?_ | refine blk_alloc ?_ _)); refine blk_far ?_ NB135_0.out _; (with_reducible repeat (first | refine blk_drewN ?_ _ | refine blk_drew ?_ | refine blk_alloc ?_ _)); refine blk_far ?_ NB135_0.out _; (with_reducible repeat (first | refine blk_drewN ?_ _ | refine blk_drew ?_ | refine blk_alloc ?_ _)); exact BK135.out⟩, ⟨by (with_reducible repeat (first | refine blk_drewN ?_ _ | refine blk_drew ?_ | refine blk_alloc ?_ _)); refine blk_far ?_ NB136_0.out _; (with_reducible repeat (first | refine blk_drewN ?_ _ | refine blk_drew ?_ | refine blk_alloc ?_ _)); refine blk_far ?_ NB136_0.out _; (with_reducible repeat (first | refine blk_drewN ?_ _ | refine blk_drew ?_ | refine blk_alloc ?_ _)); refine blk_far ?_ NB136_0.out _; (with_reducible repeat (first | refine blk_drewN ?_ _ | refine blk_drew ?_ | refine blk_alloc ?_ _)); refine blk_far ?_ NB136_0.out _; (with_reducible repeat (first | refine blk_drewN ?_ _ | refine blk_drew ?_ | refine blk_alloc ?_ _)); refine blk_far ?_ NB136_0.out _; (with_reducible repeat (first | refine blk_drewN ?_ _ | refine blk_drew ?_ | refine blk_alloc ?_ _)); refine blk_far ?_ NB136_0.out _; (with_reducible repeat (first | refine blk_drewN ?_ _ | refine blk_drew ?_ | refine blk_alloc ?_ _)); refine blk_far ?_ NB136_0.out _; (with_reducible repeat (first | refine blk_drewN ?_ _ | refine blk_drew ?_ | refine blk_alloc ?_ _)); exact BK136.out⟩, ⟨by (with_reducible repeat (first | refine blk_drewN ?_ _ | refine blk_drew ?_ | refine blk_alloc ?_ _)); refine blk_far ?_ NB145_0.out _; (with_reducible repeat (first | refine blk_drewN ?_ _ | refine blk_drew ?_ | refine blk_alloc ?_ _)); refine blk_far ?_ NB145_0.out _; (with_reducible repeat (first | refine blk_drewN ?_ _ | refine blk_drew ?_ | refine blk_alloc ?_ _)); refine blk_far ?_ NB145_0.out _; (with_reducible repeat (first | refine blk_drewN ?_ _ | refine blk_drew ?_ | refine blk_alloc ?_ _)); refine blk_far ?_ NB145_0.out _; (with_reducible repeat (first | refine blk_drewN ?_ _ | refine blk_drew ?_ | refine blk_alloc ?_ _)); refine blk_far ?_ NB145_0.out _; (with_reducible repeat (first | refine blk_drewN ?_ _ | refine blk_drew ?_ | refine blk_alloc ?_ _)); refine blk_far ?_ NB145_0.out _; (with_reducible repeat (first | refine blk_drewN ?_ _ | refine blk_drew ?_ | refine blk_alloc ?_ _)); refine blk_far ?_ NB145_0.out _; (with_reducible repeat (first | refine blk_drewN ?_ _ | refine blk_drew ?_ | refine blk_alloc ?_ _)); exact BK145.out⟩, ⟨by repeat (first | (with_reducible first | exact HI0.out | apply IsS72.alloc | apply IsS72.drewN | apply IsS72.drew | apply IsS72.set_0 | apply IsS72.set_1 | apply IsS72.set_2 | apply IsS72.set_3 | apply IsS72.set_4 | apply IsS72.set_5 | apply IsS72.set_6 | apply IsS72.set_7 | apply IsS72.set_8 | refine IsS72.far ?_ NB0_134.out _ | refine IsS72.far ?_ NB0_135.out _ | refine IsS72.far ?_ NB0_136.out _ | refine IsS72.far ?_ NB0_145.out _) | exact HI0.out)⟩, ⟨by repeat (first | (with_reducible first | exact HK.out | apply KeepBut.set_ | apply keep_drewN | apply keep_drew | apply keep_alloc | refine keep_far ?_ GW134.out _ | refine keep_far ?_ GW135.out _ | refine keep_far ?_ GW136.out _ | refine keep_far ?_ GW145.out _) | exact HK.out)⟩, ⟨by repeat (first | (with_reducible first | exact HB.out | apply below_alloc | apply pw_below_drewN | apply below_drew1 | refine below_set ?_ (IsS72.ge HI0.out) | refine below_set ?_ GE134.out | refine below_set ?_ GE135.out | refine below_set ?_ GE136.out | refine below_set ?_ GE145.out) | exact HB.out)⟩⟩
              case rest =>
                clear HC20
                try clear c1
                try clear p1
                try clear c2
                try clear p2
                try clear c3
                try clear c4
                try clear c5
                try clear c6
                try clear c7
                try clear c8
                try clear c14
                try clear c17
                try clear c17b0
                try clear c31
                try clear c32
                try clear c33
                try clear c34
                try clear c37
                try clear hcz16_0
                try clear hcz16_1
                try clear hcz16_2
                try clear hcz16_3
                try clear hcz16_4
                try clear hcz16_5
                try clear hcz16_6
                try clear hcz16_7
                try clear hcz16_8
                try clear hcz16_9
                try clear hcz18_0
                try clear hcz18_1
                try clear hcz18_2
                try clear hcz18_3
                try clear hcz18_4
                try clear hcz18_5
                try clear hcz18_6
                try clear hcz18_7
                try clear hcz18_8
                try clear hcz18_9
                try clear hcz35_0
                try clear hcz35_1
                try clear hcz35_2
                try clear hcz35_3
                try clear hcz35_4
                try clear hcz35_5
                try clear hcz36_0
                try clear hcz36_1
                try clear hcz36_2
                try clear hcz36_3
                try clear hcz36_4
                try clear hcz36_5
                try clear hcz36_6
                try clear hcz36_7
                try clear hcz36_8
                try clear hcz36_9
                try clear hcz38_0
                try clear hcz38_1
                try clear hcz38_2
                try clear hcz38_3
                try clear hcz38_4
                try clear hcz38_5
                try clear hcz38_6
                try clear hcz38_7
                try clear hcz38_8
                try clear hcz38_9
                try clear hfz16_0
                try clear hfz16_1
                try clear hfz16_2
                try clear hfz16_3
                try clear hfz16_4
                try clear hfz16_5
                try clear hfz16_6
                try clear hfz16_7
                try clear hfz16_8
                try clear hfz18_0
                try clear hfz18_1
                try clear hfz18_2
                try clear hfz18_3
                try clear hfz18_4
                try clear hfz18_5
                try clear hfz18_6
                try clear hfz18_7
                try clear hfz18_8
                try clear hfz35_0
                try clear hfz35_1
                try clear hfz35_2
                try clear hfz35_3
                try clear hfz35_4
                try clear hfz35_5
                try clear hfz36_0
                try clear hfz36_1
                try clear hfz36_2
                try clear hfz36_3
                try clear hfz36_4
                try clear hfz36_5
                try clear hfz36_6
                try clear hfz36_7
                try clear hfz36_8
                try clear hfz38_0
                try clear hfz38_1
                try clear hfz38_2
                try clear hfz38_3
                try clear hfz38_4
                try clear hfz38_5
                try clear hfz38_6
                try clear hfz38_7
                try clear hfz38_8
                try clear p1
                try clear p2
                obtain ⟨kq, x1008_19, HA, HJ19, BK134, BK135, BK136, BK145, HI0, HK, HB⟩ := hcut
                cases kq with
                | zero => exact absurd HA.out (by simp [spec_l07Drift_hour.j2])
                | succ kj19 =>
                  have H := HA.out
                  clear HA
                  simp only [spec_l07Drift_hour.j2] at H
                  have H' := Aside0.mk H
                  clear H
                  go_wp2
                  go_meet
                  case rel => exact ⟨_, (t138), (t139), (t140), (t141), (t142), (t143), (t144), (x1007_14), (x1008_19), H', ⟨by have := HJ5.out; have := HJ14.out; have := HJ19.out; first | omega | exact Nat.le_refl _⟩, ⟨by (with_reducible repeat (first | refine blk_drewN ?_ _ | refine blk_drew ?_ | refine blk_alloc ?_ _)); exact BK134.out⟩, ⟨by (with_reducible repeat (first | refine blk_drewN ?_ _ | refine blk_drew ?_ | refine blk_alloc ?_ _)); exact BK135.out⟩, ⟨by (with_reducible repeat (first | refine blk_drewN ?_ _ | refine blk_drew ?_ | refine blk_alloc ?_ _)); exact BK136.out⟩, ⟨by repeat (first | (with_reducible first | exact HI0.out | apply IsS72.alloc | apply IsS72.drewN | apply IsS72.drew | apply IsS72.set_0 | apply IsS72.set_1 | apply IsS72.set_2 | apply IsS72.set_3 | apply IsS72.set_4 | apply IsS72.set_5 | apply IsS72.set_6 | apply IsS72.set_7 | apply IsS72.set_8 | refine IsS72.far ?_ NB0_134.out _ | refine IsS72.far ?_ NB0_135.out _ | refine IsS72.far ?_ NB0_136.out _ | refine IsS72.far ?_ NB0_145.out _) | exact HI0.out)⟩, ⟨by repeat (first | (with_reducible first | exact HK.out | apply KeepBut.set_ | apply keep_drewN | apply keep_drew | apply keep_alloc | refine keep_far ?_ GW134.out _ | refine keep_far ?_ GW135.out _ | refine keep_far ?_ GW136.out _ | refine keep_far ?_ GW145.out _) | exact HK.out)⟩, ⟨by repeat (first | (with_reducible first | exact HB.out | apply below_alloc | apply pw_below_drewN | apply below_drew1 | refine below_set ?_ (IsS72.ge HI0.out) | refine below_set ?_ GE134.out | refine below_set ?_ GE135.out | refine below_set ?_ GE136.out | refine below_set ?_ GE145.out) | exact HB.out)⟩⟩
        · replace c14 := Bool.eq_false_iff.mpr c14
          subst c14
          have H1 : (spec_l07Drift_hour.j3 kj5 s0_0 s0_1 s0_2 s0_3 s0_4 s0_5 s0_6 s0_7 s0_8 s0_9) = some (r1, r2, r3, r4, r5, r6, r7, r8, r9) := by rw [if_neg (show ¬ (false = true) by decide)] at H; exact H
          clear H
          have H := H1
          clear H1
          have H' := Aside0.mk H
          clear H
          go_wp2
          go_meet
          case rel => exact ⟨_, (s0_0), (s0_1), (s0_2), (s0_3), (s0_4), (s0_5), (s0_6), (s0_7), (s0_8), H', ⟨by have := HJ5.out; first | omega | exact Nat.le_refl _⟩, ⟨by (with_reducible repeat (first | refine blk_drewN ?_ _ | refine blk_drew ?_ | refine blk_alloc ?_ _)); exact BK134.out⟩, ⟨by (with_reducible repeat (first | refine blk_drewN ?_ _ | refine blk_drew ?_ | refine blk_alloc ?_ _)); exact BK135.out⟩, ⟨by (with_reducible repeat (first | refine blk_drewN ?_ _ | refine blk_drew ?_ | refine blk_alloc ?_ _)); exact BK136.out⟩, ⟨by repeat (first | (with_reducible first | exact HI0.out | apply IsS72.alloc | apply IsS72.drewN | apply IsS72.drew | apply IsS72.set_0 | apply IsS72.set_1 | apply IsS72.set_2 | apply IsS72.set_3 | apply IsS72.set_4 | apply IsS72.set_5 | apply IsS72.set_6 | apply IsS72.set_7 | apply IsS72.set_8 | refine IsS72.far ?_ NB0_134.out _ | refine IsS72.far ?_ NB0_135.out _ | refine IsS72.far ?_ NB0_136.out _) | exact HI0.out)⟩, ⟨by repeat (first | (with_reducible first | exact HK.out | apply KeepBut.set_ | apply keep_drewN | apply keep_drew | apply keep_alloc | refine keep_far ?_ GW134.out _ | refine keep_far ?_ GW135.out _ | refine keep_far ?_ GW136.out _) | exact HK.out)⟩, ⟨by repeat (first | (with_reducible first | exact HB.out | apply below_alloc | apply pw_below_drewN | apply below_drew1 | refine below_set ?_ (IsS72.ge HI0.out) | refine below_set ?_ GE134.out | refine below_set ?_ GE135.out | refine below_set ?_ GE136.out) | exact HB.out)⟩⟩
      case rest =>
        clear HC13
        try clear c1
        try clear p1
        try clear c2
        try clear p2
        try clear c3
        try clear c4
        try clear c5
        try clear c6
        try clear c7
        try clear c8
        try clear c14
        try clear c17
        try clear c17b0
        try clear c31
        try clear c32
        try clear c33
        try clear c34
        try clear c37
        try clear hcz16_0
        try clear hcz16_1
        try clear hcz16_2
        try clear hcz16_3
        try clear hcz16_4
        try clear hcz16_5
        try clear hcz16_6
        try clear hcz16_7
        try clear hcz16_8
        try clear hcz16_9
        try clear hcz18_0
        try clear hcz18_1
        try clear hcz18_2
        try clear hcz18_3
        try clear hcz18_4
        try clear hcz18_5
        try clear hcz18_6
        try clear hcz18_7
        try clear hcz18_8
        try clear hcz18_9
        try clear hcz35_0
        try clear hcz35_1
        try clear hcz35_2
        try clear hcz35_3
        try clear hcz35_4
        try clear hcz35_5
        try clear hcz36_0
        try clear hcz36_1
        try clear hcz36_2
        try clear hcz36_3
        try clear hcz36_4
        try clear hcz36_5
        try clear hcz36_6
        try clear hcz36_7
        try clear hcz36_8
        try clear hcz36_9
        try clear hcz38_0
        try clear hcz38_1
        try clear hcz38_2
        try clear hcz38_3
        try clear hcz38_4
        try clear hcz38_5
        try clear hcz38_6
        try clear hcz38_7
        try clear hcz38_8
        try clear hcz38_9
        try clear hfz16_0
        try clear hfz16_1
        try clear hfz16_2
        try clear hfz16_3
        try clear hfz16_4
        try clear hfz16_5
        try clear hfz16_6
        try clear hfz16_7
        try clear hfz16_8
        try clear hfz18_0
        try clear hfz18_1
        try clear hfz18_2
        try clear hfz18_3
        try clear hfz18_4
        try clear hfz18_5
        try clear hfz18_6
        try clear hfz18_7
        try clear hfz18_8
        try clear hfz35_0
        try clear hfz35_1
        try clear hfz35_2
        try clear hfz35_3
        try clear hfz35_4
        try clear hfz35_5
        try clear hfz36_0
        try clear hfz36_1
        try clear hfz36_2
        try clear hfz36_3
        try clear hfz36_4
        try clear hfz36_5
        try clear hfz36_6
        try clear hfz36_7
        try clear hfz36_8
        try clear hfz38_0
        try clear hfz38_1
        try clear hfz38_2
        try clear hfz38_3
        try clear hfz38_4
        try clear hfz38_5
        try clear hfz38_6
        try clear hfz38_7
        try clear hfz38_8
        try clear p1
        try clear p2
        obtain ⟨kq, x1000_12, x1001_12, x1002_12, x1003_12, x1004_12, x1005_12, x1006_12, x1007_12, x1008_12, HA, HJ12, BK134, BK135, BK136, HI0, HK, HB⟩ := hcut
        cases kq with
        | zero => exact absurd HA.out (by simp [spec_l07Drift_hour.j3])
        | succ kj12 =>
          have H := HA.out
          clear HA
          simp only [spec_l07Drift_hour.j3] at H
          simp only [Option.some.injEq, Prod.mk.injEq] at H
          obtain ⟨rfl, rfl, rfl, rfl, rfl, rfl, rfl, rfl, rfl⟩ := H
          go_wp2
          have HO1 := Aside0.mk (Kd.R_drew (Kd.R_keep HO0.out HK.out (fun k_ h_ => h_.2)))
          have n3_ := Aside0.mk (IsS72.drew HI0.out)
          have n5_ := Aside0.mk (below_drew1 HB.out)
          clear HI0 HB HK HO0
          have HI0 := n3_
          have HB := n5_
          clear n3_ n5_
          refine start_ (n := 15) (S := fun w' => w'.cell? ⟨g, 0, none⟩ = some (.int .i8 x1000_12) ∧ w'.cell? ⟨g, 1, none⟩ = some (.int .i8 x1001_12) ∧ w'.cell? ⟨g, 9, none⟩ = some s0_9) (ds := [14]) #[false, false, false, false, false, false, false, false, false, false, false, false, false, false, false] (by kernel_rfl) rfl rfl ⟨(by obtain ⟨HG_, _⟩ := HI0.out; exact cellS72_0 HG_), (by obtain ⟨HG_, _⟩ := HI0.out; exact cellS72_1 HG_), (by obtain ⟨HG_, _⟩ := HI0.out; exact cellS72_9 HG_)⟩ (fun hHeld => ?_)
          generalize World.drew _ = w8 at HI0 HB HO1 hHeld ⊢
          refine pure_ (i := 0) (N := some 60) (v := ?_) (a' := ?_) #[true, false, false, false, false, false, false, false, false, false, false, false, false, false, false] rfl rfl (by kernel_rfl) (fun _ _ _ h => h) (Or.inl ⟨by rfl, ?_⟩) ?_ ?_
          rotate_left
          · intro w'
            go_simp
            with_reducible rfl
          rotate_left
          · simp only [Act.put, List.setIfInBounds_toArray, List.set_cons_zero, List.set_cons_succ, i64_w, i32_w]
            rfl
          refine pure_ (i := 1) (N := some 61) (v := ?_) (a' := ?_) #[true, true, false, false, false, false, false, false, false, false, false, false, false, false, false] rfl rfl (by kernel_rfl) (fun _ _ _ h => h) (Or.inl ⟨by rfl, ?_⟩) ?_ ?_
          rotate_left
          · intro w'
            go_simp
            with_reducible rfl
          rotate_left
          · simp only [Act.put, List.setIfInBounds_toArray, List.set_cons_zero, List.set_cons_succ, i64_w, i32_w]
            rfl
          refine pure_ (i := 2) (N := some 62) (v := ?_) (a' := ?_) #[true, true, true, false, false, false, false, false, false, false, false, false, false, false, false] rfl rfl (by kernel_rfl) (fun _ _ _ h => h) (Or.inl ⟨by rfl, ?_⟩) ?_ ?_
          rotate_left
          · intro w'
            go_simp
            with_reducible rfl
          rotate_left
          · simp only [Act.put, List.setIfInBounds_toArray, List.set_cons_zero, List.set_cons_succ, i64_w, i32_w]
            rfl
          refine pure_ (i := 3) (N := some 63) (v := ?_) (a' := ?_) #[true, true, true, true, false, false, false, false, false, false, false, false, false, false, false] rfl rfl (by kernel_rfl) (fun _ _ _ h => h) (Or.inl ⟨by rfl, ?_⟩) ?_ ?_
          rotate_left
          · intro w'
            go_simp
            with_reducible rfl
          rotate_left
          · simp only [Act.put, List.setIfInBounds_toArray, List.set_cons_zero, List.set_cons_succ, i64_w, i32_w]
            rfl
          refine pure_ (i := 5) (N := some 65) (v := ?_) (a' := ?_) #[true, true, true, true, false, true, false, false, false, false, false, false, false, false, false] rfl rfl (by kernel_rfl) (fun _ _ _ h => h) (Or.inl ⟨by rfl, ?_⟩) ?_ ?_
          rotate_left
          · intro w'
            go_simp
            with_reducible rfl
          rotate_left
          · simp only [Act.put, List.setIfInBounds_toArray, List.set_cons_zero, List.set_cons_succ, i64_w, i32_w]
            rfl
          refine pure_ (i := 6) (N := some 66) (v := ?_) (a' := ?_) #[true, true, true, true, false, true, true, false, false, false, false, false, false, false, false] rfl rfl (by kernel_rfl) (fun _ _ _ h => h) (Or.inl ⟨by rfl, ?_⟩) ?_ ?_
          rotate_left
          · intro w'
            go_simp
            with_reducible rfl
          rotate_left
          · simp only [Act.put, List.setIfInBounds_toArray, List.set_cons_zero, List.set_cons_succ, i64_w, i32_w]
            rfl
          refine pure_ (i := 7) (N := some 67) (v := ?_) (a' := ?_) #[true, true, true, true, false, true, true, true, false, false, false, false, false, false, false] rfl rfl (by kernel_rfl) (fun _ _ _ h => h) (Or.inl ⟨by rfl, ?_⟩) ?_ ?_
          rotate_left
          · intro w'
            go_simp
            with_reducible rfl
          rotate_left
          · simp only [Act.put, List.setIfInBounds_toArray, List.set_cons_zero, List.set_cons_succ, i64_w, i32_w]
            rfl
          refine pure_ (i := 8) (N := some 68) (v := ?_) (a' := ?_) #[true, true, true, true, false, true, true, true, true, false, false, false, false, false, false] rfl rfl (by kernel_rfl) (fun _ _ _ h => h) (Or.inl ⟨by rfl, ?_⟩) ?_ ?_
          rotate_left
          · intro w'
            go_simp
            with_reducible rfl
          rotate_left
          · simp only [Act.put, List.setIfInBounds_toArray, List.set_cons_zero, List.set_cons_succ, i64_w, i32_w]
            rfl
          refine take_ (i := 4) (N := some 64) (v := ?_) (a' := ?_) #[true, true, true, true, true, true, true, true, true, false, false, false, false, false, false] rfl rfl (by kernel_rfl) (fun _ _ _ h => h) (Or.inl ⟨by rfl, ?_⟩) hHeld ?_ ?_
          rotate_left
          · rintro w' ⟨s0, s1, s2⟩
            go_simp
            with_reducible rfl
          rotate_left
          · simp only [Act.put, List.setIfInBounds_toArray, List.set_cons_zero, List.set_cons_succ, i64_w, i32_w]
            rfl
          refine take_ (i := 9) (N := some 69) (v := ?_) (a' := ?_) #[true, true, true, true, true, true, true, true, true, true, false, false, false, false, false] rfl rfl (by kernel_rfl) (fun _ _ _ h => h) (Or.inl ⟨by rfl, ?_⟩) hHeld ?_ ?_
          rotate_left
          · rintro w' ⟨s0, s1, s2⟩
            go_simp
            with_reducible rfl
          rotate_left
          · simp only [Act.put, List.setIfInBounds_toArray, List.set_cons_zero, List.set_cons_succ, i64_w, i32_w]
            rfl
          refine one_ (i := 10) (N := some 70) #[true, true, true, true, true, true, true, true, true, true, true, false, false, false, false] rfl rfl (by kernel_rfl) (by decide) (fun K hK => ?_)
          refine value_ (w1 := ?_) (v := ?_) (by rfl) rfl ?_ ?_
          rotate_left 2
          · go_simp
            constructor
            · rfl
            · rfl
          refine hK.out _ _ ⟨(World.cell?_alloc_lt _ _ _ (World.block_lt_of_cell? _ _ (hHeld.1))).trans (hHeld.1), (World.cell?_alloc_lt _ _ _ (World.block_lt_of_cell? _ _ (hHeld.2.1))).trans (hHeld.2.1), (World.cell?_alloc_lt _ _ _ (World.block_lt_of_cell? _ _ (hHeld.2.2))).trans (hHeld.2.2)⟩ (fun hHeld => ?_)
          clear hK K
          refine norm_ (a' := ?_) ?_ ?_
          rotate_left
          · show Act.put _ (some 70) _ = _
            simp only [Act.put, List.setIfInBounds_toArray, List.set_cons_zero, List.set_cons_succ, i64_w, i32_w]
            rfl
          refine one_ (i := 11) (N := some 71) #[true, true, true, true, true, true, true, true, true, true, true, true, false, false, false] rfl rfl (by kernel_rfl) (by decide) (fun K hK => ?_)
          refine Kd.R_append_step k42 (w0 := w0) w0.heap.size (by rfl) (.tmp 64) (.tmp 70) 35 42 (.agg #[(.int .i8 0), (.int .i8 0)]) 2 rfl Try.underlying35 info42 rfl (by decide) (by omega) s0_9 acc (⟨x1000_12, x1001_12⟩ : S42) [.int .i8 x1000_12, .int .i8 x1001_12] (fun k_ => True ∧ k_ ≠ g) (fun _ => False) rfl rfl ?aP (fun _ hk => hk.elim) ?aF HO1.out HB.out ?aS ?aL ?_
          (case aP => exact k42_mkM _ _ _ (⟨x1000_12, x1001_12⟩ : S42))
          (case aF => exact fun k_ hk => ⟨trivial, by have := IsS72.lt HI0.out; omega⟩)
          (case aS => exact HB.out.size)
          (case aL => have := HLN.out; omega)
          intro v1 w9 ho hb hg9 hat
          obtain ⟨A1_, c1_, e1_⟩ := Kd.R_slice ho
          subst e1_
          have hne := IsS72.own_ne HI0.out HO1.out (by decide)
          have HI2 := Aside0.mk (IsS72.grown HI0.out hg9 hne)
          have HO2 := Aside0.mk ho
          have HB2 := Aside0.mk hb
          clear ho hb hg9 hat hne HI0 HB HO1
          have HI0 := HI2
          clear HI2
          refine hK.out _ _ ⟨(by obtain ⟨HG_, _⟩ := HI0.out; exact cellS72_0 HG_), (by obtain ⟨HG_, _⟩ := HI0.out; exact cellS72_1 HG_), (by obtain ⟨HG_, _⟩ := HI0.out; exact cellS72_9 HG_)⟩ (fun hHeld => ?_)
          clear hK K
          refine norm_ (a' := ?_) ?_ ?_
          rotate_left
          · show Act.put _ (some 71) _ = _
            simp only [Act.put, List.setIfInBounds_toArray, List.set_cons_zero, List.set_cons_succ, i64_w, i32_w]
            rfl
          refine pure_ (i := 12) (N := some 72) (v := ?_) (a' := ?_) #[true, true, true, true, true, true, true, true, true, true, true, true, true, false, false] rfl rfl (by kernel_rfl) (fun _ _ _ h => h) (Or.inl ⟨by rfl, ?_⟩) ?_ ?_
          rotate_left
          · intro w'
            go_simp
            with_reducible rfl
          rotate_left
          · simp only [Act.put, List.setIfInBounds_toArray, List.set_cons_zero, List.set_cons_succ, i64_w, i32_w]
            rfl
          refine pure_ (i := 13) (N := some 73) (v := ?_) (a' := ?_) #[true, true, true, true, true, true, true, true, true, true, true, true, true, true, false] rfl rfl (by kernel_rfl) (fun _ _ _ h => h) (Or.inl ⟨by rfl, ?_⟩) ?_ ?_
          rotate_left
          · intro w'
            go_simp
            with_reducible rfl
          rotate_left
          · simp only [Act.put, List.setIfInBounds_toArray, List.set_cons_zero, List.set_cons_succ, i64_w, i32_w]
            rfl
          refine last_ (i := 14) (N := none) #[true, true, true, true, true, true, true, true, true, true, true, true, true, true, true] rfl rfl (by kernel_rfl) (by decide) (fun K hK => ?_)
          have hcs_ := (by obtain ⟨HG_, _⟩ := HI0.out; exact cellS72_9 HG_)
          have hfs_ := (by obtain ⟨HG_, _⟩ := HI0.out; exact blk_frozen HG_ 9 : w9.frozen? ⟨g, 9, none⟩ = false)
          refine skip_ (w1 := ?_) (by rfl) rfl ?_ ?_
          rotate_left
          · go_simp
            rfl
          refine hK.out _ _ ?_
          clear hK K
          refine done_ (by kernel_rfl) ?_
          first | go_end0 | ((try simp only [Exit.inBlock, Exit.then]); refine bodyPost_ret (results_none rfl _ _ _) rfl ?_)
          have q_ := Kd.R_mono (Kd.R_far (p := ⟨g, 9, none⟩) HO2.out (fun k_ h_ => h_.2) (.slice A1_ (acc.length + 1) c1_)) (ok' := fun _ => True) (fun _ _ => trivial)
          rw [show (acc ++ [(⟨x1000_12, x1001_12⟩ : S42)]).length = acc.length + 1 by simp] at q_
          exact ⟨_, rfl, IsS72.set_9 HI0.out _, q_, below_set HB2.out (IsS72.ge HI0.out)⟩
end Go.Proofs.Ytmhmfhdmeedcfaa.G
end
section
namespace Go.Proofs.Ytmhmfhdmeedcfaa.G
open Go.RowKit Go.Proofs.YtmhmfhdmeedcfaaW.PrintWords Go.Proofs.YtmhmfhdmeedcfaaW.PrintLast Go.Proofs.YtmhmfhdmeedcfaaW.PrintMore
attribute [local go_sem] max2_int min2_int max_two min_two max_three min_three max_four min_four   -- for this text's walks alone
set_option linter.unusedVariables false
set_option linter.unusedSimpArgs false
def spec_l07Begin.f (a0_0 : Int) (a0_1 : Int) (a0_2 : Int) (a0_3 : Int) (a0_4 : Int) (a0_5 : Int) : Option (Int × Int × Int × Int × Int × Int × Bool × Int × Int × (List (S42))) := some (a0_0, a0_1, a0_2, a0_3, a0_4, a0_5, false, (-1), (-1), ([] : List (S42)))
set_option maxHeartbeats 8000000 in
set_option maxRecDepth 100000 in
theorem spec_l07Begin.calls (a0_0 : Int) (a0_1 : Int) (a0_2 : Int) (a0_3 : Int) (a0_4 : Int) (a0_5 : Int) (r1 : Int) (r2 : Int) (r3 : Int) (r4 : Int) (r5 : Int) (r6 : Int) (r7 : Bool) (r8 : Int) (r9 : Int) (r10 : List (S42)) (w : World) (h : spec_l07Begin.f a0_0 a0_1 a0_2 a0_3 a0_4 a0_5 = some (r1, r2, r3, r4, r5, r6, r7, r8, r9, r10)) :
    Calls Try.prog 51 #[.agg #[.int .i8 a0_0, .int .i8 a0_1, .int .i8 a0_2, .int .i8 a0_3, .int .i8 a0_4, .int .i8 a0_5]] w fun e w' => ∃ v9_ : Value, e = .returned (.agg #[.int .i8 r1, .int .i8 r2, .int .i8 r3, .int .i8 r4, .int .i8 r5, .int .i8 r6, .bool r7, .int .i64 r8, .int .i64 r9, v9_]) ∧ Kd.R k42 42 w' w.heap.size (fun _ => True) v9_ r10 ∧ Below w.heap.size w w' := by
  have hu44 := Try.underlying44
  have hu72 := Try.underlying72
  have HB := Aside0.mk (Below.refl w.heap.size w)
  have H : (some (a0_0, a0_1, a0_2, a0_3, a0_4, a0_5, false, (-1), (-1), ([] : List (S42)))) = some (r1, r2, r3, r4, r5, r6, r7, r8, r9, r10) := h
  clear h
  simp only [Option.some.injEq, Prod.mk.injEq] at H
  obtain ⟨rfl, rfl, rfl, rfl, rfl, rfl, rfl, rfl, rfl, rfl⟩ := H
  go_enter Try.func51, Try.ntmps51
  go_wp2_with (first | ((with_reducible refine gate_dst (N := 1) rfl ?_); refine box_event ?hg (N := 1) ?hd (cs := #[.int .i8 a0_0, .int .i8 a0_1, .int .i8 a0_2, .int .i8 a0_3, .int .i8 a0_4, .int .i8 a0_5]) (t := 44) ?hr ?_; (case hd => rfl); (case hg => rfl); (case hr => first | (go_simp; done) | (go_simp; rfl)); intro gb101 hg w2 hbox hb; have n0_ := Aside0.mk (sqH HB.out hb); have n1_ := Aside0.mk (hbox); have n2_ := Aside0.mk ((by rw [hg]; exact (below_size (by repeat (first | (with_reducible first | exact HB.out | apply below_alloc | apply pw_below_drewN | apply below_drew1) | exact HB.out))) : w.heap.size ≤ gb101)); have n3_ := n2_; clear HB; have HB := n0_; have BK101 := n1_; have GW101 := n2_; have GE101 := n3_; clear n0_ n1_ n2_ n3_; clear hb hbox hg) | ((with_reducible refine gate_dst (N := 2) rfl ?_); refine box_event ?hg (N := 2) ?hd (cs := #[.int .i8 0, .int .i8 0, .int .i8 0, .int .i8 0, .int .i8 0, .int .i8 0, .bool false, .int .i64 0, .int .i64 0, .slice none 0 0]) (t := 72) ?hr ?_; (case hd => rfl); (case hg => rfl); (case hr => first | (go_simp; done) | (go_simp; rfl)); intro gb102 hg w3 hbox hb; have n0_ := Aside0.mk (sqB BK101.out hb); have n1_ := Aside0.mk (sqH HB.out hb); have n2_ := Aside0.mk (hbox); have n3_ := Aside0.mk ((by rw [hg]; exact (below_size (by repeat (first | (with_reducible first | exact HB.out | apply below_alloc | apply pw_below_drewN | apply below_drew1 | refine below_set ?_ GE101.out) | exact HB.out))) : w.heap.size ≤ gb102)); have n4_ := n3_; have n5_ := Aside0.mk ((by rw [hg]; exact Nat.ne_of_lt (blk_lt (g := gb101) (o := .cells #[.int .i8 a0_0, .int .i8 a0_1, .int .i8 a0_2, .int .i8 a0_3, .int .i8 a0_4, .int .i8 a0_5] 44 (0, 0)) (sqO BK101.out)) : gb101 ≠ gb102)); have n6_ := Aside0.mk (Ne.symm n5_.out); clear BK101; clear HB; have BK101 := n0_; have HB := n1_; have BK102 := n2_; have GW102 := n3_; have GE102 := n4_; have NB101_102 := n5_; have NB102_101 := n6_; clear n0_ n1_ n2_ n3_ n4_ n5_ n6_; clear hb hbox hg; have hnb4 := NB101_102.out; have hnc4 := NB102_101.out; obtain ⟨hcz5_0, hcz5_1, hcz5_2, hcz5_3, hcz5_4, hcz5_5⟩ := sqC BK101.out; have hfz5_0 := blk_frozen BK101.out 0; have hfz5_1 := blk_frozen BK101.out 1; have hfz5_2 := blk_frozen BK101.out 2; have hfz5_3 := blk_frozen BK101.out 3; have hfz5_4 := blk_frozen BK101.out 4; have hfz5_5 := blk_frozen BK101.out 5; have hcz6_0 : w3.cell? ⟨gb102, 0, none⟩ = some (.int .i8 0) := (blk_cell BK102.out 0).trans rfl; have hcz6_1 : w3.cell? ⟨gb102, 1, none⟩ = some (.int .i8 0) := (blk_cell BK102.out 1).trans rfl; have hcz6_2 : w3.cell? ⟨gb102, 2, none⟩ = some (.int .i8 0) := (blk_cell BK102.out 2).trans rfl; have hcz6_3 : w3.cell? ⟨gb102, 3, none⟩ = some (.int .i8 0) := (blk_cell BK102.out 3).trans rfl; have hcz6_4 : w3.cell? ⟨gb102, 4, none⟩ = some (.int .i8 0) := (blk_cell BK102.out 4).trans rfl; have hcz6_5 : w3.cell? ⟨gb102, 5, none⟩ = some (.int .i8 0) := (blk_cell BK102.out 5).trans rfl; have hcz6_6 : w3.cell? ⟨gb102, 6, none⟩ = some (.bool false) := (blk_cell BK102.out 6).trans rfl; have hcz6_7 : w3.cell? ⟨gb102, 7, none⟩ = some (.int .i64 0) := (blk_cell BK102.out 7).trans rfl; have hcz6_8 : w3.cell? ⟨gb102, 8, none⟩ = some (.int .i64 0) := (blk_cell BK102.out 8).trans rfl; have hcz6_9 : w3.cell? ⟨gb102, 9, none⟩ = some (.slice none 0 0) := (blk_cell BK102.out 9).trans rfl; have hfz6_0 := blk_frozen BK102.out 0; have hfz6_1 := blk_frozen BK102.out 1; have hfz6_2 := blk_frozen BK102.out 2; have hfz6_3 := blk_frozen BK102.out 3; have hfz6_4 := blk_frozen BK102.out 4; have hfz6_5 := blk_frozen BK102.out 5; have hfz6_6 := blk_frozen BK102.out 6; have hfz6_7 := blk_frozen BK102.out 7; have hfz6_8 := blk_frozen BK102.out 8; have hfz6_9 := blk_frozen BK102.out 9))
  refine bodyPost_ret (results_cell_row rfl _ _ gb102 72 #[.int .i8 a0_0, .int .i8 a0_1, .int .i8 a0_2, .int .i8 a0_3, .int .i8 a0_4, .int .i8 a0_5, .bool false, .int .i64 (-1), .int .i64 (-1), .slice none 0 0] (0, 0) _ rfl (by (with_reducible repeat (first | refine blk_drewN ?_ _ | refine blk_drew ?_ | refine blk_alloc ?_ _)); refine blk_put (cs := #[.int .i8 a0_0, .int .i8 a0_1, .int .i8 a0_2, .int .i8 a0_3, .int .i8 a0_4, .int .i8 a0_5, .bool false, .int .i64 (-1), .int .i64 (-1), .slice none 0 0]) ?_ 9 _ rfl; (with_reducible repeat (first | refine blk_drewN ?_ _ | refine blk_drew ?_ | refine blk_alloc ?_ _)); refine blk_put (cs := #[.int .i8 a0_0, .int .i8 a0_1, .int .i8 a0_2, .int .i8 a0_3, .int .i8 a0_4, .int .i8 a0_5, .bool false, .int .i64 (-1), .int .i64 0, .slice none 0 0]) ?_ 8 _ rfl; (with_reducible repeat (first | refine blk_drewN ?_ _ | refine blk_drew ?_ | refine blk_alloc ?_ _)); refine blk_put (cs := #[.int .i8 a0_0, .int .i8 a0_1, .int .i8 a0_2, .int .i8 a0_3, .int .i8 a0_4, .int .i8 a0_5, .bool false, .int .i64 0, .int .i64 0, .slice none 0 0]) ?_ 7 _ rfl; (with_reducible repeat (first | refine blk_drewN ?_ _ | refine blk_drew ?_ | refine blk_alloc ?_ _)); refine blk_put (cs := #[.int .i8 a0_0, .int .i8 a0_1, .int .i8 a0_2, .int .i8 a0_3, .int .i8 a0_4, .int .i8 a0_5, .bool false, .int .i64 0, .int .i64 0, .slice none 0 0]) ?_ 6 _ rfl; (with_reducible repeat (first | refine blk_drewN ?_ _ | refine blk_drew ?_ | refine blk_alloc ?_ _)); refine blk_put (cs := #[.int .i8 a0_0, .int .i8 a0_1, .int .i8 a0_2, .int .i8 a0_3, .int .i8 a0_4, .int .i8 0, .bool false, .int .i64 0, .int .i64 0, .slice none 0 0]) ?_ 5 _ rfl; (with_reducible repeat (first | refine blk_drewN ?_ _ | refine blk_drew ?_ | refine blk_alloc ?_ _)); refine blk_put (cs := #[.int .i8 a0_0, .int .i8 a0_1, .int .i8 a0_2, .int .i8 a0_3, .int .i8 0, .int .i8 0, .bool false, .int .i64 0, .int .i64 0, .slice none 0 0]) ?_ 4 _ rfl; (with_reducible repeat (first | refine blk_drewN ?_ _ | refine blk_drew ?_ | refine blk_alloc ?_ _)); refine blk_put (cs := #[.int .i8 a0_0, .int .i8 a0_1, .int .i8 a0_2, .int .i8 0, .int .i8 0, .int .i8 0, .bool false, .int .i64 0, .int .i64 0, .slice none 0 0]) ?_ 3 _ rfl; (with_reducible repeat (first | refine blk_drewN ?_ _ | refine blk_drew ?_ | refine blk_alloc ?_ _)); refine blk_put (cs := #[.int .i8 a0_0, .int .i8 a0_1, .int .i8 0, .int .i8 0, .int .i8 0, .int .i8 0, .bool false, .int .i64 0, .int .i64 0, .slice none 0 0]) ?_ 2 _ rfl; (with_reducible repeat (first | refine blk_drewN ?_ _ | refine blk_drew ?_ | refine blk_alloc ?_ _)); refine blk_put (cs := #[.int .i8 a0_0, .int .i8 0, .int .i8 0, .int .i8 0, .int .i8 0, .int .i8 0, .bool false, .int .i64 0, .int .i64 0, .slice none 0 0]) ?_ 1 _ rfl; (with_reducible repeat (first | refine blk_drewN ?_ _ | refine blk_drew ?_ | refine blk_alloc ?_ _)); refine blk_put (cs := #[.int .i8 0, .int .i8 0, .int .i8 0, .int .i8 0, .int .i8 0, .int .i8 0, .bool false, .int .i64 0, .int .i64 0, .slice none 0 0]) ?_ 0 _ rfl; (with_reducible repeat (first | refine blk_drewN ?_ _ | refine blk_drew ?_ | refine blk_alloc ?_ _)); exact BK102.out) Try.underlying72 rfl (by kernel_rfl)) rfl ?_
  exact ⟨_, by first | rfl | (simp [errW_none, errW_some] <;> rfl) | (simp [*, errW_none, errW_some] <;> rfl), by first | exact Kd.R_nil _ _ _ _ _ | exact Kd.N_nil _ _ _ _ _ | exact Kd.V_nil _ _ _ _ _ | exact Kd.Q_nil _ _ _ _ _ | exact Kd.S_nil _ _ _ _ _, by repeat (first | (with_reducible first | exact HB.out | apply below_alloc | apply pw_below_drewN | apply below_drew1 | refine below_set ?_ GE101.out | refine below_set ?_ GE102.out) | exact HB.out)⟩
end Go.Proofs.Ytmhmfhdmeedcfaa.G
end
section
namespace Go.Proofs.Ytmhmfhdmeedcfaa.AR
open Go.RowKit Go.Proofs.YtmhmfhdmeedcfaaW.PrintWords
variable {P : Program} {ops : Array Oper} {rest : List Oper} {o : Oper} {a : Act} {Q : Exit → Act → World → Prop}
theorem results_cell {fn : Func} {p : Tmp} {ty : TypeId} (h : fn.results = #[.cell p ty]) {tmps : Array Value} {w : World} {g : Nat} {cs : Array Value} (hp : tmps.getD p undef = .pointer (some ⟨g, 0, none⟩))
    (hl : (loadVar ty ⟨g, 0, none⟩).run P w = .ok (.agg cs) w) : (results fn tmps).run P w = .ok (.agg cs) w := by
  have e : (results fn tmps).run P w = ((asAddr (tmps.getD p undef)).run P w).andThen fun a w₁ => (loadVar ty a).run P w₁ := by
    simp only [results, h]
    simp [Sem.run_bind, Result.andThen]
  rw [e, hp]
  exact hl
def CopyTo (cur : Array Value) (N i : Nat) (src : Array Value) : Prop := cur.size = N ∧ ∀ j, j < i → cur[j]? = src[j]?
theorem CopyTo.zero {cur : Array Value} {N : Nat} {src : Array Value} (h : cur.size = N) : CopyTo cur N 0 src := ⟨h, fun j hj => absurd hj (by omega)⟩
theorem CopyTo.step {cur src : Array Value} {N i m : Nat} {vs : List Value} (h : CopyTo cur N i src) (hm : vs.length = m) (hi : i + m ≤ N) (hv : ∀ j, j < m → vs[j]? = src[i + j]?) :
    CopyTo (cur.toList.take i ++ vs ++ cur.toList.drop (i + m)).toArray N (i + m) src := by
  obtain ⟨h1, h2⟩ := h
  have hl : cur.toList.length = N := by simpa using h1
  refine ⟨by simp [hm]; omega, fun j hj => ?_⟩
  simp only [List.getElem?_toArray]
  by_cases hji : j < i
  · rw [List.append_assoc, List.getElem?_append_left (by simp; omega), List.getElem?_take_of_lt hji, ← h2 j hji]; simp
  · rw [List.getElem?_append_left (by simp; omega), List.getElem?_append_right (by simp; omega), show (cur.toList.take i).length = i by simp; omega, hv (j - i) (by omega)]
    congr 1; omega
theorem CopyTo.set {cur src : Array Value} {N i : Nat} {v : Value} (h : CopyTo cur N i src) (hv : src[i]? = some v) (hi : i < N) : CopyTo (cur.setIfInBounds i v) N (i + 1) src := by
  obtain ⟨h1, h2⟩ := h
  refine ⟨by simpa using h1, fun j hj => ?_⟩
  by_cases e : j = i
  · subst e; rw [hv, Array.getElem?_setIfInBounds_self_of_lt (by omega)]
  · rw [Array.getElem?_setIfInBounds_ne (Ne.symm e)]; exact h2 j (by omega)
theorem CopyTo.done {cur src : Array Value} {N : Nat} (h : CopyTo cur N N src) (hs : src.size = N) : cur = src := by
  apply Array.ext_getElem?
  intro j
  by_cases hj : j < N
  · exact h.2 j hj
  · rw [Array.getElem?_eq_none (by have := h.1; omega), Array.getElem?_eq_none (by omega)]
end Go.Proofs.Ytmhmfhdmeedcfaa.AR
end
section
namespace Go.Proofs.Ytmhmfhdmeedcfaa.G
open Go.RowKit Go.Proofs.YtmhmfhdmeedcfaaW.PrintWords Go.Proofs.YtmhmfhdmeedcfaaW.PrintLast Go.Proofs.YtmhmfhdmeedcfaaW.PrintMore AR M
set_option linter.unusedVariables false
set_option linter.unusedSimpArgs false
theorem hour_same (k : Nat) (x y ch lo dr ki : Int) (ag : Bool) (fi gr : Int) (v v' : Value) (b : Flat 258 .i8) (g : Flat 256 .u8) (f s n : Int) :
    spec_l07Drift_hour.f k x y ch lo dr ki ag fi gr v b g f s n = spec_l07Drift_hour.f k x y ch lo dr ki ag fi gr v' b g f s n := by
  rcases k with _ | _ | _ | _ | k <;> simp only [spec_l07Drift_hour.f, spec_l07Drift_hour.j0, spec_l07Drift_hour.j1, spec_l07Drift_hour.j2, spec_l07Drift_hour.j3]
def allDrift (b : Flat 258 .i8) (g : Flat 256 .u8) : List S78 → Int → Int → Int → Int → Int → Int → Int → Bool → Int → Int → List S42 → Option (Int × Int × Int × Int × Int × Int × Bool × Int × Int × (List S42))
  | [], _, x, y, ch, lo, dr, ki, ag, fi, gr, acc => some (x, y, ch, lo, dr, ki, ag, fi, gr, acc)
  | w :: ws, n, x, y, ch, lo, dr, ki, ag, fi, gr, acc => (spec_l07Drift_hour.f 100 x y ch lo dr ki ag fi gr (.bool false) b g w.f0 w.f1 n).bind fun t => if acc.length < 1000000 then allDrift b g ws (n + 1) t.1 t.2.1 t.2.2.1 t.2.2.2.1 t.2.2.2.2.1 t.2.2.2.2.2.1 t.2.2.2.2.2.2.1 t.2.2.2.2.2.2.2.1 t.2.2.2.2.2.2.2.2 (acc ++ [⟨t.1, t.2.1⟩]) else none
def spec_l07All.f (a0 : O38) (a1 : O40) (a2_0 : Int) (a2_1 : Int) (a2_2 : Int) (a2_3 : Int) (a2_4 : Int) (a2_5 : Int) (l3 : List (S78)) : Option (Int × Int × Int × Int × Int × Int × Bool × Int × Int × (List (S42))) :=
  if l3.length < 1000000 then allDrift a0 a1 l3 0 a2_0 a2_1 a2_2 a2_3 a2_4 a2_5 false (-1) (-1) [] else none
theorem w64 (x : Int) (h0 : 0 ≤ x) (h1 : x < 2000000) : wrap64 x = x := by unfold wrap64; omega
theorem meas {n N : Nat} {x : Int} (h : x = ((n + 1 : Nat) : Int)) (hn : n < N) : N - (intOf (.int .i64 x)).toNat < N - (intOf (.int .i64 (n : Int))).toNat := by subst h; show N - (((n + 1 : Nat) : Int)).toNat < N - ((n : Int)).toNat; omega
theorem sizeD (cs : Array Value) (h : cs.size = 10) : (Try.prog.info? 72).map (·.size) = some cs.size := by rw [h]; kernel_rfl
theorem sizeB (cs : Array Value) (h : cs.size = 6) : (Try.prog.info? 44).map (·.size) = some cs.size := by rw [h]; kernel_rfl
set_option maxHeartbeats 4000000 in
set_option maxRecDepth 100000 in
theorem spec_l07All.calls (gp0 : Nat) (a0 : O38) (gp1 : Nat) (a1 : O40) (a2_0 : Int) (a2_1 : Int) (a2_2 : Int) (a2_3 : Int) (a2_4 : Int) (a2_5 : Int) (A3 : Option Addr) (c3 : Nat) (l3 : List (S78)) (r1 : Int) (r2 : Int) (r3 : Int) (r4 : Int) (r5 : Int) (r6 : Int) (r7 : Bool) (r8 : Int) (r9 : Int) (r10 : List (S42)) (w : World) (hp0 : w.heap[gp0]? = some (.cells (a0).A 38 (0, 0))) (hp1 : w.heap[gp1]? = some (.cells (a1).A 40 (0, 0))) (hr3 : Kd.C k78 w A3 l3.length l3) (hc3 : l3.length ≤ c3) (h : spec_l07All.f a0 a1 a2_0 a2_1 a2_2 a2_3 a2_4 a2_5 l3 = some (r1, r2, r3, r4, r5, r6, r7, r8, r9, r10)) :
    Calls Try.prog 35 #[.pointer (some ⟨gp0, 0, none⟩), .pointer (some ⟨gp1, 0, none⟩), .agg #[.int .i8 a2_0, .int .i8 a2_1, .int .i8 a2_2, .int .i8 a2_3, .int .i8 a2_4, .int .i8 a2_5], .slice A3 l3.length c3] w fun e w' => ∃ v9_ : Value, e = .returned (.agg #[.int .i8 r1, .int .i8 r2, .int .i8 r3, .int .i8 r4, .int .i8 r5, .int .i8 r6, .bool r7, .int .i64 r8, .int .i64 r9, v9_]) ∧ Kd.R k42 42 w' w.heap.size (fun _ => True) v9_ r10 ∧ Below w.heap.size w w' := by
  unfold spec_l07All.f at h
  by_cases hlen : l3.length < 1000000
  case neg => rw [if_neg hlen] at h; cases h
  rw [if_pos hlen] at h
  have HP0 := Aside0.mk hp0
  have HP1 := Aside0.mk hp1
  have HR3 := Aside0.mk hr3
  have HA := Aside0.mk h
  have HLN := Aside0.mk hlen
  clear h hp0 hp1 hr3 hc3 hlen
  go_enter Try.func35, Try.ntmps35
  go_wp2_with (first
    | ((with_reducible refine gate_dst (N := 6) rfl ?_); refine wpList_box_ev rfl 44 _ rfl #[.int .i8 a2_0, .int .i8 a2_1, .int .i8 a2_2, .int .i8 a2_3, .int .i8 a2_4, .int .i8 a2_5] rfl ?_; intro g6 w1 hg hb hb1; have HG6 := Aside0.mk hb; have HB1 := Aside0.mk hb1; clear hb hb1 hg)
    | ((with_reducible refine gate_dst (N := 8) rfl ?_); refine box_event rfl (N := 8) rfl (t := 72) (exec_alloc rfl (Try.zeroValue72 _)) ?_; intro g8 hg w2 ha hb; have HA8 := Aside0.mk (show ∃ z : Array Value, z.size = 10 ∧ w2.heap[g8]? = some (.cells z 72 (0, 0)) from ⟨_, rfl, ha⟩); have HG6a := Aside0.mk (blkB HG6.out hb); have HB2 := Aside0.mk (below_join HB1.out hb); have H8 := Aside0.mk (show w.heap.size ≤ g8 by have := HB1.out.size; omega); clear ha hb hg HG6 HB1)
    | ((with_reducible refine gate_dst (N := 11) rfl ?_); refine Kd.event_run rfl (exec_load_blk rfl rfl HG6a.out Try.underlying44 rfl (sizeB _ rfl)) ?_)
    | (go_at_call 51; refine (spec_l07Begin.calls a2_0 a2_1 a2_2 a2_3 a2_4 a2_5 a2_0 a2_1 a2_2 a2_3 a2_4 a2_5 false (-1) (-1) [] w2 rfl).mono ?_; rintro e w3 ⟨v9, rfl, hv, hb⟩; obtain ⟨A9, c9, e9⟩ := Kd.R_slice hv; subst e9; have HV := Aside0.mk hv; have HB3 := Aside0.mk hb; clear hv hb)
    | ((with_reducible refine gate_dst (N := 9) rfl ?_); refine box_event rfl (N := 9) rfl (t := 72) (exec_alloc rfl (Try.zeroValue72 _)) ?_; intro g9 hg w4 ha hb; have HA9 := Aside0.mk (show ∃ z : Array Value, z.size = 10 ∧ w4.heap[g9]? = some (.cells z 72 (0, 0)) from ⟨_, rfl, ha⟩); have HV4 := Aside0.mk (Kd.R_below HV.out hb); have HB4 := Aside0.mk (below_join HB3.out hb); have H9 := Aside0.mk (show w2.heap.size ≤ g9 by have := HB3.out.size; omega); clear ha hb hg HV HB3)
    | ((with_reducible refine gate_store (t := 72) (p := 9) rfl ?_); obtain ⟨z9, hz9, hc9⟩ := HA9.out; refine store_event (t := 72) (p := 9) rfl rfl rfl (exec_store_row (t2 := 72) (vs := #[.int .i8 a2_0, .int .i8 a2_1, .int .i8 a2_2, .int .i8 a2_3, .int .i8 a2_4, .int .i8 a2_5, .bool false, .int .i64 (-1), .int .i64 (-1), .slice A9 0 c9]) rfl rfl rfl hc9 (by rw [hz9]; simp) (by simp [Value.oneCell']) (sizeD _ rfl)) ?_; intro w5 hw5;
       have HW5 := Aside0.mk hw5; have HC9 := Aside0.mk hc9; have HZ9 := Aside0.mk hz9; clear hw5 hc9 hz9 HA9))
  have HI := Aside0.mk (show IsS72 w2 w5 g9 a2_0 a2_1 a2_2 a2_3 a2_4 a2_5 false (-1) (-1) (.slice A9 0 c9) from ⟨by rw [HW5.out]; exact setRow_whole HC9.out (by rw [HZ9.out]; rfl), H9.out⟩)
  have HO := Aside0.mk (show Kd.R k42 42 w5 w2.heap.size (fun _ => True) (.slice A9 0 c9) [] by rw [HW5.out]; exact Kd.R_mono (Kd.R_step (Kd.R_types HV4.out HC9.out (by decide)) (fun k_ hk_ _ => setRow_other _ _ _ _ hk_.2)) (fun _ _ => trivial))
  have HB := Aside0.mk (show Below w2.heap.size w2 w5 by rw [HW5.out]; exact below_setRow HB4.out H9.out _)
  clear HW5 HC9 HZ9 HV4 HB4
  clear HG6a
  go_loopw [10] (fun i wr => ∃ (n : Nat) (x y ch lo dr ki : Int) (ag : Bool) (fi gr : Int) (v : Value) (acc : List S42), n ≤ l3.length ∧ i = .int .i64 n ∧ Aside0 (allDrift a0 a1 (l3.drop n) n x y ch lo dr ki ag fi gr acc = some (r1, r2, r3, r4, r5, r6, r7, r8, r9, r10)) ∧ Aside0 (IsS72 w2 wr g9 x y ch lo dr ki ag fi gr v) ∧ Aside0 (Kd.R k42 42 wr w2.heap.size (fun _ => True) v acc) ∧ Aside0 (Below w2.heap.size w2 wr)) (fun i _ => l3.length - (intOf i).toNat)
  case atStart => exact ⟨0, _, _, _, _, _, _, _, _, _, _, _, Nat.zero_le _, rfl, HA, HI, HO, HB⟩
  case round =>
    clear HA HI HO HB
    obtain ⟨n, x, y, ch, lo, dr, ki, ag, fi, gr, v, acc, hn, rfl, HA, HI, HO, HB⟩ := hrel
    by_cases hlt : n < l3.length
    · have i0 : (n : Int) < (l3.length : Int) := by omega
      have i1 : (0 : Int) ≤ (n : Int) := by omega
      have hA := HA.out
      rw [List.drop_eq_getElem_cons hlt] at hA
      simp only [allDrift] at hA
      replace hA := Option.bind_eq_some_iff.mp hA
      obtain ⟨⟨t1, t2, t3, t4, t5, t6, t7, t8, t9⟩, hh, hA⟩ := hA
      by_cases hacc : acc.length < 1000000
      case neg => simp only at hA; rw [if_neg hacc] at hA; cases hA
      simp only at hA
      rw [if_pos hacc, show (n : Int) + 1 = ((n + 1 : Nat) : Int) by omega] at hA
      have HA2 := Aside0.mk hA
      rw [hour_same 100 x y ch lo dr ki ag fi gr (.bool false) v] at hh
      have hrd : rd_T78 l3 (n : Int) = l3[n] := by simp [rd_T78, hlt]
      rw [← hrd] at hh
      have HH := Aside0.mk hh
      have HAC := Aside0.mk hacc
      clear hA hh hrd hacc HA
      have HBw := Aside0.mk (below_join HB2.out HB.out)
      obtain ⟨ad, ea, hx0, hx1⟩ := at_T78 HR3.out (n : Int) i1 i0
      cases ea
      simp only [Int.toNat_natCast] at hx0 hx1
      replace hx0 := (HBw.out.cell (World.block_lt_of_cell? w _ hx0)).trans hx0
      replace hx1 := (HBw.out.cell (World.block_lt_of_cell? w _ hx1)).trans hx1
      go_wp2_with (go_at_call 52; refine (spec_l07Drift_hour.calls 100 g9 x y ch lo dr ki ag fi gr v gp0 a0 gp1 a1 _ _ n t1 t2 t3 t4 t5 t6 t7 t8 t9 acc w2 _ HO.out HAC.out ((HBw.out.block _ (blk_lt HP0.out)).trans HP0.out) ((HBw.out.block _ (blk_lt HP1.out)).trans HP1.out) HI.out HB.out HH.out).mono ?_; rintro e w6 ⟨v2, rfl, hI, hO, hB⟩; have HI2 := Aside0.mk hI; have HO2 := Aside0.mk hO; have HB6 := Aside0.mk hB; clear hI hO hB)
      have hw64 : wrap64 ((n : Int) + 1) = ((n + 1 : Nat) : Int) := (w64 ((n : Int) + 1) (by omega) (by have := HLN.out; omega)).trans (by omega)
      go_roundw
      case rel => exact ⟨n + 1, _, _, _, _, _, _, _, _, _, _, _, by omega, congrArg (Value.int .i64) hw64, HA2, HI2, HO2, HB6⟩
      case measure => exact meas hw64 hlt
    · have i0 : ¬ (n : Int) < (l3.length : Int) := by omega
      have hA := HA.out
      rw [List.drop_of_length_le (by omega)] at hA
      simp only [allDrift, Option.some.injEq, Prod.mk.injEq] at hA
      obtain ⟨rfl, rfl, rfl, rfl, rfl, rfl, rfl, rfl, rfl, rfl⟩ := hA
      clear HA
      obtain ⟨A9', c9', e9⟩ := Kd.R_slice HO.out
      subst e9
      have HC9 := Aside0.mk HI.out.1
      obtain ⟨z8, hz8, hc8⟩ := HA8.out
      have HC8 := Aside0.mk ((HB.out.block g8 (blk_lt hc8)).trans hc8)
      have HZ8 := Aside0.mk hz8
      clear hz8 hc8
      go_wp2_with (first
        | ((with_reducible refine gate_dst (N := 27) rfl ?_); refine Kd.event_run rfl (exec_load_blk rfl rfl HC9.out Try.underlying72 rfl (sizeD _ rfl)) ?_)
        | ((with_reducible refine gate_store (t := 72) (p := 8) rfl ?_); refine store_event (t := 72) (p := 8) rfl rfl rfl (exec_store_row (t2 := 72) (vs := #[.int .i8 x, .int .i8 y, .int .i8 ch, .int .i8 lo, .int .i8 dr, .int .i8 ki, .bool ag, .int .i64 fi, .int .i64 gr, .slice A9' acc.length c9']) rfl rfl rfl HC8.out (by rw [HZ8.out]; simp) (by simp [Value.oneCell']) (sizeD _ rfl)) ?_; intro ws hws;
           have HRw := Aside0.mk (show ws.heap[g8]? = some (.cells #[.int .i8 x, .int .i8 y, .int .i8 ch, .int .i8 lo, .int .i8 dr, .int .i8 ki, .bool ag, .int .i64 fi, .int .i64 gr, .slice A9' acc.length c9'] 72 (0, 0)) by rw [hws]; exact setRow_whole HC8.out (by rw [HZ8.out]; rfl));
           have HO2 := Aside0.mk (show Kd.R k42 42 ws w.heap.size (fun _ => True) (.slice A9' acc.length c9') acc by rw [hws]; exact Kd.R_lower (Kd.R_mono (Kd.R_step (Kd.R_types HO.out HC8.out (by decide)) (fun k_ hk_ _ => setRow_other _ _ _ _ hk_.2)) (fun _ _ => trivial)) HB2.out.size);
           have HBw := Aside0.mk (show Below w.heap.size w ws by rw [hws]; exact below_setRow (below_join HB2.out HB.out) H8.out _);
           clear hws))
      (try simp only [Exit.inBlock, Exit.then])
      refine bodyPost_ret (results_cell rfl rfl (run_load_blk _ _ _ _ _ HRw.out Try.underlying72 rfl (sizeD _ rfl))) rfl ?_
      exact ⟨_, rfl, HO2.out, HBw.out⟩
end Go.Proofs.Ytmhmfhdmeedcfaa.G
end
section
namespace Go.Proofs.Ytmhmfhdmeedcfaa.G
open Go.RowKit Go.Proofs.YtmhmfhdmeedcfaaW.PrintWords Go.Proofs.YtmhmfhdmeedcfaaW.PrintLast Go.Proofs.YtmhmfhdmeedcfaaW.PrintMore
attribute [local go_sem] max2_int min2_int max_two min_two max_three min_three max_four min_four   -- for this text's walks alone
set_option linter.unusedVariables false
set_option linter.unusedSimpArgs false
def spec_AgroundAt.f (k : Nat) (a0 : O38) (a1 : O40) (a2_0 : Int) (a2_1 : Int) (a2_2 : Int) (a2_3 : Int) (a2_4 : Int) (a2_5 : Int) (l3 : List (S78)) : Option (Int × Int) := (spec_l07Valid.f k a0 a1 a2_0 a2_1 a2_2 a2_3 a2_4 a2_5 l3).bind fun t539 => (if t539 = true then ((spec_l07All.f a0 a1 a2_0 a2_1 a2_2 a2_3 a2_4 a2_5 l3).bind fun bt540 => (if bt540.2.2.2.2.2.2.2.2.1 < 0 then (some (0, 6)) else (some (bt540.2.2.2.2.2.2.2.2.1, 0)))) else (some (0, 1)))
set_option maxHeartbeats 8000000 in
set_option maxRecDepth 100000 in
theorem spec_AgroundAt.calls (k : Nat) (a0 : O38) (a1 : O40) (a2_0 : Int) (a2_1 : Int) (a2_2 : Int) (a2_3 : Int) (a2_4 : Int) (a2_5 : Int) (A3 : Option Addr) (c3 : Nat) (l3 : List (S78)) (r1 : Int) (r2 : Int) (w : World) (hr3 : Kd.C k78 w A3 l3.length l3) (hc3 : l3.length ≤ c3) (h : spec_AgroundAt.f k a0 a1 a2_0 a2_1 a2_2 a2_3 a2_4 a2_5 l3 = some (r1, r2)) :
    Calls Try.prog 22 #[VO38 a0, VO40 a1, .agg #[.int .i8 a2_0, .int .i8 a2_1, .int .i8 a2_2, .int .i8 a2_3, .int .i8 a2_4, .int .i8 a2_5], .slice A3 l3.length c3] w fun e w' => e = .returned (.tuple #[.int .i64 r1, .int .i64 r2]) ∧ Below w.heap.size w w' := by
  have hu44 := Try.underlying44
  have hu72 := Try.underlying72
  have HR3 := Aside0.mk hr3
  have HC3 := Aside0.mk hc3
  clear hr3 hc3
  have HB := Aside0.mk (Below.refl w.heap.size w)
  have H : ((spec_l07Valid.f k a0 a1 a2_0 a2_1 a2_2 a2_3 a2_4 a2_5 l3).bind fun t539 => (if t539 = true then ((spec_l07All.f a0 a1 a2_0 a2_1 a2_2 a2_3 a2_4 a2_5 l3).bind fun bt540 => (if bt540.2.2.2.2.2.2.2.2.1 < 0 then (some (0, 6)) else (some (bt540.2.2.2.2.2.2.2.2.1, 0)))) else (some (0, 1)))) = some (r1, r2) := h
  clear h
  replace H := Option.bind_eq_some_iff.mp H
  obtain ⟨t539, A50, H⟩ := H
  replace H : (if t539 = true then ((spec_l07All.f a0 a1 a2_0 a2_1 a2_2 a2_3 a2_4 a2_5 l3).bind fun bt540 => (if bt540.2.2.2.2.2.2.2.2.1 < 0 then (some (0, 6)) else (some (bt540.2.2.2.2.2.2.2.2.1, 0)))) else (some (0, 1))) = some (r1, r2) := H
  have A5 := Aside0.mk A50
  clear A50
  by_cases c6 : t539 = true
  · subst c6
    have H1 : ((spec_l07All.f a0 a1 a2_0 a2_1 a2_2 a2_3 a2_4 a2_5 l3).bind fun bt540 => (if bt540.2.2.2.2.2.2.2.2.1 < 0 then (some (0, 6)) else (some (bt540.2.2.2.2.2.2.2.2.1, 0)))) = some (r1, r2) := by rw [if_pos rfl] at H; exact H
    clear H
    have H := H1
    clear H1
    replace H := Option.bind_eq_some_iff.mp H
    obtain ⟨⟨t540, t541, t542, t543, t544, t545, t546, t547, t548, t549⟩, A70, H⟩ := H
    replace H : (if t548 < 0 then (some (0, 6)) else (some (t548, 0))) = some (r1, r2) := H
    have A7 := Aside0.mk A70
    clear A70
    by_cases c8 : t548 < 0
    · rw [if_pos c8] at H
      have c8b0 : decide (t548 < 0) = true := decide_eq_true c8
      clear c8
      simp only [Option.some.injEq, Prod.mk.injEq] at H
      obtain ⟨rfl, rfl⟩ := H
      go_enter Try.func22, Try.ntmps22
      go_wp2_with (first | ((with_reducible refine gate_dst (N := 4) rfl ?_); refine box_event ?hg (N := 4) ?hd (cs := (a0).A) (t := 38) ?hr ?_; (case hd => rfl); (case hg => rfl); (case hr => first | exact AR.run_box_row rfl rfl | (go_simp; done) | (go_simp; rfl)); intro gb536 hg w9 hbox hb; have n0_ := Aside0.mk (sqH HB.out hb); have n1_ := Aside0.mk (hbox); have n2_ := Aside0.mk ((by rw [hg]; exact (below_size (by repeat (first | (with_reducible first | exact HB.out | apply below_alloc | apply pw_below_drewN | apply below_drew1) | exact HB.out))) : w.heap.size ≤ gb536)); have n3_ := n2_; clear HB; have HB := n0_; have BK536 := n1_; have GW536 := n2_; have GE536 := n3_; clear n0_ n1_ n2_ n3_; clear hb hbox hg) | ((with_reducible refine gate_dst (N := 5) rfl ?_); refine box_event ?hg (N := 5) ?hd (cs := (a1).A) (t := 40) ?hr ?_; (case hd => rfl); (case hg => rfl); (case hr => first | exact AR.run_box_row rfl rfl | (go_simp; done) | (go_simp; rfl)); intro gb537 hg w10 hbox hb; have n0_ := Aside0.mk (sqB BK536.out hb); have n1_ := Aside0.mk (sqH HB.out hb); have n2_ := Aside0.mk (hbox); have n3_ := Aside0.mk ((by rw [hg]; exact (below_size (by repeat (first | (with_reducible first | exact HB.out | apply below_alloc | apply pw_below_drewN | apply below_drew1 | refine below_set ?_ GE536.out) | exact HB.out))) : w.heap.size ≤ gb537)); have n4_ := n3_; have n5_ := Aside0.mk ((by rw [hg]; exact Nat.ne_of_lt (blk_lt (g := gb536) (o := .cells (a0).A 38 (0, 0)) (sqO BK536.out)) : gb536 ≠ gb537)); have n6_ := Aside0.mk (Ne.symm n5_.out); clear BK536; clear HB; have BK536 := n0_; have HB := n1_; have BK537 := n2_; have GW537 := n3_; have GE537 := n4_; have NB536_537 := n5_; have NB537_536 := n6_; clear n0_ n1_ n2_ n3_ n4_ n5_ n6_; clear hb hbox hg) | ((with_reducible refine gate_dst (N := 6) rfl ?_); refine box_event ?hg (N := 6) ?hd (cs := #[.int .i8 a2_0, .int .i8 a2_1, .int .i8 a2_2, .int .i8 a2_3, .int .i8 a2_4, .int .i8 a2_5]) (t := 44) ?hr ?_; (case hd => rfl); (case hg => rfl); (case hr => first | (go_simp; done) | (go_simp; rfl)); intro gb538 hg w11 hbox hb; have n0_ := Aside0.mk (sqB BK536.out hb); have n1_ := Aside0.mk (sqB BK537.out hb); have n2_ := Aside0.mk (sqH HB.out hb); have n3_ := Aside0.mk (hbox); have n4_ := Aside0.mk ((by rw [hg]; exact (below_size (by repeat (first | (with_reducible first | exact HB.out | apply below_alloc | apply pw_below_drewN | apply below_drew1 | refine below_set ?_ GE536.out | refine below_set ?_ GE537.out) | exact HB.out))) : w.heap.size ≤ gb538)); have n5_ := n4_; have n6_ := Aside0.mk ((by rw [hg]; exact Nat.ne_of_lt (blk_lt (g := gb536) (o := .cells (a0).A 38 (0, 0)) (sqO BK536.out)) : gb536 ≠ gb538)); have n7_ := Aside0.mk (Ne.symm n6_.out); have n8_ := Aside0.mk ((by rw [hg]; exact Nat.ne_of_lt (blk_lt (g := gb537) (o := .cells (a1).A 40 (0, 0)) (sqO BK537.out)) : gb537 ≠ gb538)); have n9_ := Aside0.mk (Ne.symm n8_.out); clear BK536; clear BK537; clear HB; have BK536 := n0_; have BK537 := n1_; have HB := n2_; have BK538 := n3_; have GW538 := n4_; have GE538 := n5_; have NB536_538 := n6_; have NB538_536 := n7_; have NB537_538 := n8_; have NB538_537 := n9_; clear n0_ n1_ n2_ n3_ n4_ n5_ n6_ n7_ n8_ n9_; clear hb hbox hg; have hnb12 := NB538_536.out; have hnc12 := NB536_538.out; have hnb13 := NB538_537.out; have hnc13 := NB537_538.out; obtain ⟨hcz14_0, hcz14_1, hcz14_2, hcz14_3, hcz14_4, hcz14_5⟩ := sqC BK538.out; have hfz14_0 := blk_frozen BK538.out 0; have hfz14_1 := blk_frozen BK538.out 1; have hfz14_2 := blk_frozen BK538.out 2; have hfz14_3 := blk_frozen BK538.out 3; have hfz14_4 := blk_frozen BK538.out 4; have hfz14_5 := blk_frozen BK538.out 5) | ((with_reducible refine gate_callee (f := 34) rfl ?_); refine goesL_ (some 13) rfl rfl Try.func34 (by kernel_rfl) rfl #[.pointer (some ⟨gb536, 0, none⟩), .pointer (some ⟨gb537, 0, none⟩), .agg #[.int .i8 a2_0, .int .i8 a2_1, .int .i8 a2_2, .int .i8 a2_3, .int .i8 a2_4, .int .i8 a2_5], .slice A3 l3.length c3] rfl (by (try simp only [List.map_toArray, List.map_cons, List.map_nil]); first | done | rfl | (simp only [List.length_drop, List.length_take]; rfl)) ?_; (with_reducible refine (spec_l07Valid.calls k gb536 a0 gb537 a1 a2_0 a2_1 a2_2 a2_3 a2_4 a2_5 _ _ l3 true _ ?side1 ?side2 ?side3 ?side4 A5.out).mono ?_); (case side1 => (with_reducible repeat (first | refine blk_drewN ?_ _ | refine blk_drew ?_ | refine blk_alloc ?_ _)); exact BK536.out); (case side2 => (with_reducible repeat (first | refine blk_drewN ?_ _ | refine blk_drew ?_ | refine blk_alloc ?_ _)); exact BK537.out); (case side3 => repeat (first | exact (Kd.C_below HR3.out HB.out) | (with_reducible refine Kd.C_alloc ?_ _) | (with_reducible refine Kd.C_drewN ?_ _) | (with_reducible refine Kd.C_drew ?_))); (case side4 => exact HC3.out); rintro e w15 ⟨rfl, hb⟩; refine ⟨_, rfl, ?_⟩; have n0_ := Aside0.mk (sqB BK536.out hb); have n1_ := Aside0.mk (sqB BK537.out hb); have n2_ := Aside0.mk (sqB BK538.out hb); have n3_ := Aside0.mk (sqH HB.out hb); clear BK536; clear BK537; clear BK538; clear HB; have BK536 := n0_; have BK537 := n1_; have BK538 := n2_; have HB := n3_; clear n0_ n1_ n2_ n3_; (try clear hb); (try clear hb2); (try clear hk); (try clear hi); obtain ⟨hcz16_0, hcz16_1, hcz16_2, hcz16_3, hcz16_4, hcz16_5⟩ := sqC BK538.out; have hfz16_0 := blk_frozen BK538.out 0; have hfz16_1 := blk_frozen BK538.out 1; have hfz16_2 := blk_frozen BK538.out 2; have hfz16_3 := blk_frozen BK538.out 3; have hfz16_4 := blk_frozen BK538.out 4; have hfz16_5 := blk_frozen BK538.out 5) | ((with_reducible refine gate_callee (f := 35) rfl ?_); refine goesL_ (some 17) rfl rfl Try.func35 (by kernel_rfl) rfl #[.pointer (some ⟨gb536, 0, none⟩), .pointer (some ⟨gb537, 0, none⟩), .agg #[.int .i8 a2_0, .int .i8 a2_1, .int .i8 a2_2, .int .i8 a2_3, .int .i8 a2_4, .int .i8 a2_5], .slice A3 l3.length c3] rfl (by (try simp only [List.map_toArray, List.map_cons, List.map_nil]); first | done | rfl | (simp only [List.length_drop, List.length_take]; rfl)) ?_; (with_reducible refine (spec_l07All.calls gb536 a0 gb537 a1 a2_0 a2_1 a2_2 a2_3 a2_4 a2_5 _ _ l3 t540 t541 t542 t543 t544 t545 t546 t547 t548 t549 _ ?side1 ?side2 ?side3 ?side4 A7.out).mono ?_); (case side1 => (with_reducible repeat (first | refine blk_drewN ?_ _ | refine blk_drew ?_ | refine blk_alloc ?_ _)); exact BK536.out); (case side2 => (with_reducible repeat (first | refine blk_drewN ?_ _ | refine blk_drew ?_ | refine blk_alloc ?_ _)); exact BK537.out); (case side3 => repeat (first | exact (Kd.C_below HR3.out HB.out) | (with_reducible refine Kd.C_alloc ?_ _) | (with_reducible refine Kd.C_drewN ?_ _) | (with_reducible refine Kd.C_drew ?_))); (case side4 => exact HC3.out); rintro e w17 ⟨v550, rfl, ho0, hb⟩; refine ⟨_, rfl, ?_⟩; have n0_ := Aside0.mk (Kd.R_lower ho0 (below_size (by repeat (first | (with_reducible first | exact HB.out | apply below_alloc | apply pw_below_drewN | apply below_drew1 | refine below_set ?_ GE536.out | refine below_set ?_ GE537.out | refine below_set ?_ GE538.out) | exact HB.out)))); have n1_ := Aside0.mk (sqB BK536.out hb); have n2_ := Aside0.mk (sqB BK537.out hb); have n3_ := Aside0.mk (sqB BK538.out hb); have n4_ := Aside0.mk (sqH HB.out hb); clear BK536; clear BK537; clear BK538; clear HB; have HO551 := n0_; have BK536 := n1_; have BK537 := n2_; have BK538 := n3_; have HB := n4_; clear n0_ n1_ n2_ n3_ n4_; (try clear hb); (try clear hb2); (try clear hk); (try clear hi); (try clear ho0)) | ((with_reducible refine gate_dst (N := 10) rfl ?_); refine box_event ?hg (N := 10) ?hd (cs := #[.int .i8 0, .int .i8 0, .int .i8 0, .int .i8 0, .int .i8 0, .int .i8 0, .bool false, .int .i64 0, .int .i64 0, .slice none 0 0]) (t := 72) ?hr ?_; (case hd => rfl); (case hg => rfl); (case hr => first | (go_simp; done) | (go_simp; rfl)); intro gb552 hg w18 hbox hb; have n0_ := Aside0.mk (Kd.R_below (by (with_reducible repeat (first | apply Kd.R_alloc | apply Kd.R_drewN | apply Kd.R_drew)); exact HO551.out) hb); have n1_ := Aside0.mk (sqB BK536.out hb); have n2_ := Aside0.mk (sqB BK537.out hb); have n3_ := Aside0.mk (sqB BK538.out hb); have n4_ := Aside0.mk (sqH HB.out hb); have n5_ := Aside0.mk (hbox); have n6_ := Aside0.mk ((by rw [hg]; exact (below_size (by repeat (first | (with_reducible first | exact HB.out | apply below_alloc | apply pw_below_drewN | apply below_drew1 | refine below_set ?_ GE536.out | refine below_set ?_ GE537.out | refine below_set ?_ GE538.out) | exact HB.out))) : w.heap.size ≤ gb552)); have n7_ := n6_; have n8_ := Aside0.mk ((by rw [hg]; exact Nat.ne_of_lt (blk_lt (g := gb536) (o := .cells (a0).A 38 (0, 0)) (sqO BK536.out)) : gb536 ≠ gb552)); have n9_ := Aside0.mk (Ne.symm n8_.out); have n10_ := Aside0.mk ((by rw [hg]; exact Nat.ne_of_lt (blk_lt (g := gb537) (o := .cells (a1).A 40 (0, 0)) (sqO BK537.out)) : gb537 ≠ gb552)); have n11_ := Aside0.mk (Ne.symm n10_.out); have n12_ := Aside0.mk ((by rw [hg]; exact Nat.ne_of_lt (blk_lt (g := gb538) (o := .cells #[.int .i8 a2_0, .int .i8 a2_1, .int .i8 a2_2, .int .i8 a2_3, .int .i8 a2_4, .int .i8 a2_5] 44 (0, 0)) (sqO BK538.out)) : gb538 ≠ gb552)); have n13_ := Aside0.mk (Ne.symm n12_.out); clear HO551; clear BK536; clear BK537; clear BK538; clear HB; have HO551 := n0_; have BK536 := n1_; have BK537 := n2_; have BK538 := n3_; have HB := n4_; have BK552 := n5_; have GW552 := n6_; have GE552 := n7_; have NB536_552 := n8_; have NB552_536 := n9_; have NB537_552 := n10_; have NB552_537 := n11_; have NB538_552 := n12_; have NB552_538 := n13_; clear n0_ n1_ n2_ n3_ n4_ n5_ n6_ n7_ n8_ n9_ n10_ n11_ n12_ n13_; clear hb hbox hg; have hnb19 := NB552_536.out; have hnc19 := NB536_552.out; have hnb20 := NB552_537.out; have hnc20 := NB537_552.out; have hnb21 := NB552_538.out; have hnc21 := NB538_552.out; have hcz22_0 : w18.cell? ⟨gb552, 0, none⟩ = some (.int .i8 0) := (blk_cell BK552.out 0).trans rfl; have hcz22_1 : w18.cell? ⟨gb552, 1, none⟩ = some (.int .i8 0) := (blk_cell BK552.out 1).trans rfl; have hcz22_2 : w18.cell? ⟨gb552, 2, none⟩ = some (.int .i8 0) := (blk_cell BK552.out 2).trans rfl; have hcz22_3 : w18.cell? ⟨gb552, 3, none⟩ = some (.int .i8 0) := (blk_cell BK552.out 3).trans rfl; have hcz22_4 : w18.cell? ⟨gb552, 4, none⟩ = some (.int .i8 0) := (blk_cell BK552.out 4).trans rfl; have hcz22_5 : w18.cell? ⟨gb552, 5, none⟩ = some (.int .i8 0) := (blk_cell BK552.out 5).trans rfl; have hcz22_6 : w18.cell? ⟨gb552, 6, none⟩ = some (.bool false) := (blk_cell BK552.out 6).trans rfl; have hcz22_7 : w18.cell? ⟨gb552, 7, none⟩ = some (.int .i64 0) := (blk_cell BK552.out 7).trans rfl; have hcz22_8 : w18.cell? ⟨gb552, 8, none⟩ = some (.int .i64 0) := (blk_cell BK552.out 8).trans rfl; have hcz22_9 : w18.cell? ⟨gb552, 9, none⟩ = some (.slice none 0 0) := (blk_cell BK552.out 9).trans rfl; have hfz22_0 := blk_frozen BK552.out 0; have hfz22_1 := blk_frozen BK552.out 1; have hfz22_2 := blk_frozen BK552.out 2; have hfz22_3 := blk_frozen BK552.out 3; have hfz22_4 := blk_frozen BK552.out 4; have hfz22_5 := blk_frozen BK552.out 5; have hfz22_6 := blk_frozen BK552.out 6; have hfz22_7 := blk_frozen BK552.out 7; have hfz22_8 := blk_frozen BK552.out 8; have hfz22_9 := blk_frozen BK552.out 9; obtain ⟨Ao23, co23, eo23⟩ := Kd.R_slice HO551.out; subst eo23))
      go_ret2
      exact ⟨by first | rfl | (simp [errW_none, errW_some] <;> rfl) | (simp [*, errW_none, errW_some] <;> rfl), by repeat (first | (with_reducible first | exact HB.out | apply below_alloc | apply pw_below_drewN | apply below_drew1 | refine below_set ?_ GE536.out | refine below_set ?_ GE537.out | refine below_set ?_ GE538.out | refine below_set ?_ GE552.out) | exact HB.out)⟩
    · rw [if_neg c8] at H
      have c8b0 : decide (t548 < 0) = false := decide_eq_false c8
      clear c8
      simp only [Option.some.injEq, Prod.mk.injEq] at H
      obtain ⟨rfl, rfl⟩ := H
      go_enter Try.func22, Try.ntmps22
      go_wp2_with (first | ((with_reducible refine gate_dst (N := 4) rfl ?_); refine box_event ?hg (N := 4) ?hd (cs := (a0).A) (t := 38) ?hr ?_; (case hd => rfl); (case hg => rfl); (case hr => first | exact AR.run_box_row rfl rfl | (go_simp; done) | (go_simp; rfl)); intro gb536 hg w24 hbox hb; have n0_ := Aside0.mk (sqH HB.out hb); have n1_ := Aside0.mk (hbox); have n2_ := Aside0.mk ((by rw [hg]; exact (below_size (by repeat (first | (with_reducible first | exact HB.out | apply below_alloc | apply pw_below_drewN | apply below_drew1) | exact HB.out))) : w.heap.size ≤ gb536)); have n3_ := n2_; clear HB; have HB := n0_; have BK536 := n1_; have GW536 := n2_; have GE536 := n3_; clear n0_ n1_ n2_ n3_; clear hb hbox hg) | ((with_reducible refine gate_dst (N := 5) rfl ?_); refine box_event ?hg (N := 5) ?hd (cs := (a1).A) (t := 40) ?hr ?_; (case hd => rfl); (case hg => rfl); (case hr => first | exact AR.run_box_row rfl rfl | (go_simp; done) | (go_simp; rfl)); intro gb537 hg w25 hbox hb; have n0_ := Aside0.mk (sqB BK536.out hb); have n1_ := Aside0.mk (sqH HB.out hb); have n2_ := Aside0.mk (hbox); have n3_ := Aside0.mk ((by rw [hg]; exact (below_size (by repeat (first | (with_reducible first | exact HB.out | apply below_alloc | apply pw_below_drewN | apply below_drew1 | refine below_set ?_ GE536.out) | exact HB.out))) : w.heap.size ≤ gb537)); have n4_ := n3_; have n5_ := Aside0.mk ((by rw [hg]; exact Nat.ne_of_lt (blk_lt (g := gb536) (o := .cells (a0).A 38 (0, 0)) (sqO BK536.out)) : gb536 ≠ gb537)); have n6_ := Aside0.mk (Ne.symm n5_.out); clear BK536; clear HB; have BK536 := n0_; have HB := n1_; have BK537 := n2_; have GW537 := n3_; have GE537 := n4_; have NB536_537 := n5_; have NB537_536 := n6_; clear n0_ n1_ n2_ n3_ n4_ n5_ n6_; clear hb hbox hg) | ((with_reducible refine gate_dst (N := 6) rfl ?_); refine box_event ?hg (N := 6) ?hd (cs := #[.int .i8 a2_0, .int .i8 a2_1, .int .i8 a2_2, .int .i8 a2_3, .int .i8 a2_4, .int .i8 a2_5]) (t := 44) ?hr ?_; (case hd => rfl); (case hg => rfl); (case hr => first | (go_simp; done) | (go_simp; rfl)); intro gb538 hg w26 hbox hb; have n0_ := Aside0.mk (sqB BK536.out hb); have n1_ := Aside0.mk (sqB BK537.out hb); have n2_ := Aside0.mk (sqH HB.out hb); have n3_ := Aside0.mk (hbox); have n4_ := Aside0.mk ((by rw [hg]; exact (below_size (by repeat (first | (with_reducible first | exact HB.out | apply below_alloc | apply pw_below_drewN | apply below_drew1 | refine below_set ?_ GE536.out | refine below_set ?_ GE537.out) | exact HB.out))) : w.heap.size ≤ gb538)); have n5_ := n4_; have n6_ := Aside0.mk ((by rw [hg]; exact Nat.ne_of_lt (blk_lt (g := gb536) (o := .cells (a0).A 38 (0, 0)) (sqO BK536.out)) : gb536 ≠ gb538)); have n7_ := Aside0.mk (Ne.symm n6_.out); have n8_ := Aside0.mk ((by rw [hg]; exact Nat.ne_of_lt (blk_lt (g := gb537) (o := .cells (a1).A 40 (0, 0)) (sqO BK537.out)) : gb537 ≠ gb538)); have n9_ := Aside0.mk (Ne.symm n8_.out); clear BK536; clear BK537; clear HB; have BK536 := n0_; have BK537 := n1_; have HB := n2_; have BK538 := n3_; have GW538 := n4_; have GE538 := n5_; have NB536_538 := n6_; have NB538_536 := n7_; have NB537_538 := n8_; have NB538_537 := n9_; clear n0_ n1_ n2_ n3_ n4_ n5_ n6_ n7_ n8_ n9_; clear hb hbox hg; have hnb27 := NB538_536.out; have hnc27 := NB536_538.out; have hnb28 := NB538_537.out; have hnc28 := NB537_538.out; obtain ⟨hcz29_0, hcz29_1, hcz29_2, hcz29_3, hcz29_4, hcz29_5⟩ := sqC BK538.out; have hfz29_0 := blk_frozen BK538.out 0; have hfz29_1 := blk_frozen BK538.out 1; have hfz29_2 := blk_frozen BK538.out 2; have hfz29_3 := blk_frozen BK538.out 3; have hfz29_4 := blk_frozen BK538.out 4; have hfz29_5 := blk_frozen BK538.out 5) | ((with_reducible refine gate_callee (f := 34) rfl ?_); refine goesL_ (some 13) rfl rfl Try.func34 (by kernel_rfl) rfl #[.pointer (some ⟨gb536, 0, none⟩), .pointer (some ⟨gb537, 0, none⟩), .agg #[.int .i8 a2_0, .int .i8 a2_1, .int .i8 a2_2, .int .i8 a2_3, .int .i8 a2_4, .int .i8 a2_5], .slice A3 l3.length c3] rfl (by (try simp only [List.map_toArray, List.map_cons, List.map_nil]); first | done | rfl | (simp only [List.length_drop, List.length_take]; rfl)) ?_; (with_reducible refine (spec_l07Valid.calls k gb536 a0 gb537 a1 a2_0 a2_1 a2_2 a2_3 a2_4 a2_5 _ _ l3 true _ ?side1 ?side2 ?side3 ?side4 A5.out).mono ?_); (case side1 => (with_reducible repeat (first | refine blk_drewN ?_ _ | refine blk_drew ?_ | refine blk_alloc ?_ _)); exact BK536.out); (case side2 => (with_reducible repeat (first | refine blk_drewN ?_ _ | refine blk_drew ?_ | refine blk_alloc ?_ _)); exact BK537.out); (case side3 => repeat (first | exact (Kd.C_below HR3.out HB.out) | (with_reducible refine Kd.C_alloc ?_ _) | (with_reducible refine Kd.C_drewN ?_ _) | (with_reducible refine Kd.C_drew ?_))); (case side4 => exact HC3.out); rintro e w30 ⟨rfl, hb⟩; refine ⟨_, rfl, ?_⟩; have n0_ := Aside0.mk (sqB BK536.out hb); have n1_ := Aside0.mk (sqB BK537.out hb); have n2_ := Aside0.mk (sqB BK538.out hb); have n3_ := Aside0.mk (sqH HB.out hb); clear BK536; clear BK537; clear BK538; clear HB; have BK536 := n0_; have BK537 := n1_; have BK538 := n2_; have HB := n3_; clear n0_ n1_ n2_ n3_; (try clear hb); (try clear hb2); (try clear hk); (try clear hi); obtain ⟨hcz31_0, hcz31_1, hcz31_2, hcz31_3, hcz31_4, hcz31_5⟩ := sqC BK538.out; have hfz31_0 := blk_frozen BK538.out 0; have hfz31_1 := blk_frozen BK538.out 1; have hfz31_2 := blk_frozen BK538.out 2; have hfz31_3 := blk_frozen BK538.out 3; have hfz31_4 := blk_frozen BK538.out 4; have hfz31_5 := blk_frozen BK538.out 5) | ((with_reducible refine gate_callee (f := 35) rfl ?_); refine goesL_ (some 17) rfl rfl Try.func35 (by kernel_rfl) rfl #[.pointer (some ⟨gb536, 0, none⟩), .pointer (some ⟨gb537, 0, none⟩), .agg #[.int .i8 a2_0, .int .i8 a2_1, .int .i8 a2_2, .int .i8 a2_3, .int .i8 a2_4, .int .i8 a2_5], .slice A3 l3.length c3] rfl (by (try simp only [List.map_toArray, List.map_cons, List.map_nil]); first | done | rfl | (simp only [List.length_drop, List.length_take]; rfl)) ?_; (with_reducible refine (spec_l07All.calls gb536 a0 gb537 a1 a2_0 a2_1 a2_2 a2_3 a2_4 a2_5 _ _ l3 t540 t541 t542 t543 t544 t545 t546 t547 t548 t549 _ ?side1 ?side2 ?side3 ?side4 A7.out).mono ?_); (case side1 => (with_reducible repeat (first | refine blk_drewN ?_ _ | refine blk_drew ?_ | refine blk_alloc ?_ _)); exact BK536.out); (case side2 => (with_reducible repeat (first | refine blk_drewN ?_ _ | refine blk_drew ?_ | refine blk_alloc ?_ _)); exact BK537.out); (case side3 => repeat (first | exact (Kd.C_below HR3.out HB.out) | (with_reducible refine Kd.C_alloc ?_ _) | (with_reducible refine Kd.C_drewN ?_ _) | (with_reducible refine Kd.C_drew ?_))); (case side4 => exact HC3.out); rintro e w32 ⟨v550, rfl, ho0, hb⟩; refine ⟨_, rfl, ?_⟩; have n0_ := Aside0.mk (Kd.R_lower ho0 (below_size (by repeat (first | (with_reducible first | exact HB.out | apply below_alloc | apply pw_below_drewN | apply below_drew1 | refine below_set ?_ GE536.out | refine below_set ?_ GE537.out | refine below_set ?_ GE538.out) | exact HB.out)))); have n1_ := Aside0.mk (sqB BK536.out hb); have n2_ := Aside0.mk (sqB BK537.out hb); have n3_ := Aside0.mk (sqB BK538.out hb); have n4_ := Aside0.mk (sqH HB.out hb); clear BK536; clear BK537; clear BK538; clear HB; have HO551 := n0_; have BK536 := n1_; have BK537 := n2_; have BK538 := n3_; have HB := n4_; clear n0_ n1_ n2_ n3_ n4_; (try clear hb); (try clear hb2); (try clear hk); (try clear hi); (try clear ho0)) | ((with_reducible refine gate_dst (N := 10) rfl ?_); refine box_event ?hg (N := 10) ?hd (cs := #[.int .i8 0, .int .i8 0, .int .i8 0, .int .i8 0, .int .i8 0, .int .i8 0, .bool false, .int .i64 0, .int .i64 0, .slice none 0 0]) (t := 72) ?hr ?_; (case hd => rfl); (case hg => rfl); (case hr => first | (go_simp; done) | (go_simp; rfl)); intro gb552 hg w33 hbox hb; have n0_ := Aside0.mk (Kd.R_below (by (with_reducible repeat (first | apply Kd.R_alloc | apply Kd.R_drewN | apply Kd.R_drew)); exact HO551.out) hb); have n1_ := Aside0.mk (sqB BK536.out hb); have n2_ := Aside0.mk (sqB BK537.out hb); have n3_ := Aside0.mk (sqB BK538.out hb); have n4_ := Aside0.mk (sqH HB.out hb); have n5_ := Aside0.mk (hbox); have n6_ := Aside0.mk ((by rw [hg]; exact (below_size (by repeat (first | (with_reducible first | exact HB.out | apply below_alloc | apply pw_below_drewN | apply below_drew1 | refine below_set ?_ GE536.out | refine below_set ?_ GE537.out | refine below_set ?_ GE538.out) | exact HB.out))) : w.heap.size ≤ gb552)); have n7_ := n6_; have n8_ := Aside0.mk ((by rw [hg]; exact Nat.ne_of_lt (blk_lt (g := gb536) (o := .cells (a0).A 38 (0, 0)) (sqO BK536.out)) : gb536 ≠ gb552)); have n9_ := Aside0.mk (Ne.symm n8_.out); have n10_ := Aside0.mk ((by rw [hg]; exact Nat.ne_of_lt (blk_lt (g := gb537) (o := .cells (a1).A 40 (0, 0)) (sqO BK537.out)) : gb537 ≠ gb552)); have n11_ := Aside0.mk (Ne.symm n10_.out); have n12_ := Aside0.mk ((by rw [hg]; exact Nat.ne_of_lt (blk_lt (g := gb538) (o := .cells #[.int .i8 a2_0, .int .i8 a2_1, .int .i8 a2_2, .int .i8 a2_3, .int .i8 a2_4, .int .i8 a2_5] 44 (0, 0)) (sqO BK538.out)) : gb538 ≠ gb552)); have n13_ := Aside0.mk (Ne.symm n12_.out); clear HO551; clear BK536; clear BK537; clear BK538; clear HB; have HO551 := n0_; have BK536 := n1_; have BK537 := n2_; have BK538 := n3_; have HB := n4_; have BK552 := n5_; have GW552 := n6_; have GE552 := n7_; have NB536_552 := n8_; have NB552_536 := n9_; have NB537_552 := n10_; have NB552_537 := n11_; have NB538_552 := n12_; have NB552_538 := n13_; clear n0_ n1_ n2_ n3_ n4_ n5_ n6_ n7_ n8_ n9_ n10_ n11_ n12_ n13_; clear hb hbox hg; have hnb34 := NB552_536.out; have hnc34 := NB536_552.out; have hnb35 := NB552_537.out; have hnc35 := NB537_552.out; have hnb36 := NB552_538.out; have hnc36 := NB538_552.out; have hcz37_0 : w33.cell? ⟨gb552, 0, none⟩ = some (.int .i8 0) := (blk_cell BK552.out 0).trans rfl; have hcz37_1 : w33.cell? ⟨gb552, 1, none⟩ = some (.int .i8 0) := (blk_cell BK552.out 1).trans rfl; have hcz37_2 : w33.cell? ⟨gb552, 2, none⟩ = some (.int .i8 0) := (blk_cell BK552.out 2).trans rfl; have hcz37_3 : w33.cell? ⟨gb552, 3, none⟩ = some (.int .i8 0) := (blk_cell BK552.out 3).trans rfl; have hcz37_4 : w33.cell? ⟨gb552, 4, none⟩ = some (.int .i8 0) := (blk_cell BK552.out 4).trans rfl; have hcz37_5 : w33.cell? ⟨gb552, 5, none⟩ = some (.int .i8 0) := (blk_cell BK552.out 5).trans rfl; have hcz37_6 : w33.cell? ⟨gb552, 6, none⟩ = some (.bool false) := (blk_cell BK552.out 6).trans rfl; have hcz37_7 : w33.cell? ⟨gb552, 7, none⟩ = some (.int .i64 0) := (blk_cell BK552.out 7).trans rfl; have hcz37_8 : w33.cell? ⟨gb552, 8, none⟩ = some (.int .i64 0) := (blk_cell BK552.out 8).trans rfl; have hcz37_9 : w33.cell? ⟨gb552, 9, none⟩ = some (.slice none 0 0) := (blk_cell BK552.out 9).trans rfl; have hfz37_0 := blk_frozen BK552.out 0; have hfz37_1 := blk_frozen BK552.out 1; have hfz37_2 := blk_frozen BK552.out 2; have hfz37_3 := blk_frozen BK552.out 3; have hfz37_4 := blk_frozen BK552.out 4; have hfz37_5 := blk_frozen BK552.out 5; have hfz37_6 := blk_frozen BK552.out 6; have hfz37_7 := blk_frozen BK552.out 7; have hfz37_8 := blk_frozen BK552.out 8; have hfz37_9 := blk_frozen BK552.out 9; obtain ⟨Ao38, co38, eo38⟩ := Kd.R_slice HO551.out; subst eo38))
      go_ret2
      exact ⟨by first | rfl | (simp [errW_none, errW_some] <;> rfl) | (simp [*, errW_none, errW_some] <;> rfl), by repeat (first | (with_reducible first | exact HB.out | apply below_alloc | apply pw_below_drewN | apply below_drew1 | refine below_set ?_ GE536.out | refine below_set ?_ GE537.out | refine below_set ?_ GE538.out | refine below_set ?_ GE552.out) | exact HB.out)⟩
  · replace c6 := Bool.eq_false_iff.mpr c6
    subst c6
    have H1 : (some (0, 1)) = some (r1, r2) := by rw [if_neg (show ¬ (false = true) by decide)] at H; exact H
    clear H
    have H := H1
    clear H1
    simp only [Option.some.injEq, Prod.mk.injEq] at H
    obtain ⟨rfl, rfl⟩ := H
    go_enter Try.func22, Try.ntmps22
    go_wp2_with (first | ((with_reducible refine gate_dst (N := 4) rfl ?_); refine box_event ?hg (N := 4) ?hd (cs := (a0).A) (t := 38) ?hr ?_; (case hd => rfl); (case hg => rfl); (case hr => first | exact AR.run_box_row rfl rfl | (go_simp; done) | (go_simp; rfl)); intro gb536 hg w39 hbox hb; have n0_ := Aside0.mk (sqH HB.out hb); have n1_ := Aside0.mk (hbox); have n2_ := Aside0.mk ((by rw [hg]; exact (below_size (by repeat (first | (with_reducible first | exact HB.out | apply below_alloc | apply pw_below_drewN | apply below_drew1) | exact HB.out))) : w.heap.size ≤ gb536)); have n3_ := n2_; clear HB; have HB := n0_; have BK536 := n1_; have GW536 := n2_; have GE536 := n3_; clear n0_ n1_ n2_ n3_; clear hb hbox hg) | ((with_reducible refine gate_dst (N := 5) rfl ?_); refine box_event ?hg (N := 5) ?hd (cs := (a1).A) (t := 40) ?hr ?_; (case hd => rfl); (case hg => rfl); (case hr => first | exact AR.run_box_row rfl rfl | (go_simp; done) | (go_simp; rfl)); intro gb537 hg w40 hbox hb; have n0_ := Aside0.mk (sqB BK536.out hb); have n1_ := Aside0.mk (sqH HB.out hb); have n2_ := Aside0.mk (hbox); have n3_ := Aside0.mk ((by rw [hg]; exact (below_size (by repeat (first | (with_reducible first | exact HB.out | apply below_alloc | apply pw_below_drewN | apply below_drew1 | refine below_set ?_ GE536.out) | exact HB.out))) : w.heap.size ≤ gb537)); have n4_ := n3_; have n5_ := Aside0.mk ((by rw [hg]; exact Nat.ne_of_lt (blk_lt (g := gb536) (o := .cells (a0).A 38 (0, 0)) (sqO BK536.out)) : gb536 ≠ gb537)); have n6_ := Aside0.mk (Ne.symm n5_.out); clear BK536; clear HB; have BK536 := n0_; have HB := n1_; have BK537 := n2_; have GW537 := n3_; have GE537 := n4_; have NB536_537 := n5_; have NB537_536 := n6_; clear n0_ n1_ n2_ n3_ n4_ n5_ n6_; clear hb hbox hg) | ((with_reducible refine gate_dst (N := 6) rfl ?_); refine box_event ?hg (N := 6) ?hd (cs := #[.int .i8 a2_0, .int .i8 a2_1, .int .i8 a2_2, .int .i8 a2_3, .int .i8 a2_4, .int .i8 a2_5]) (t := 44) ?hr ?_; (case hd => rfl); (case hg => rfl); (case hr => first | (go_simp; done) | (go_simp; rfl)); intro gb538 hg w41 hbox hb; have n0_ := Aside0.mk (sqB BK536.out hb); have n1_ := Aside0.mk (sqB BK537.out hb); have n2_ := Aside0.mk (sqH HB.out hb); have n3_ := Aside0.mk (hbox); have n4_ := Aside0.mk ((by rw [hg]; exact (below_size (by repeat (first | (with_reducible first | exact HB.out | apply below_alloc | apply pw_below_drewN | apply below_drew1 | refine below_set ?_ GE536.out | refine below_set ?_ GE537.out) | exact HB.out))) : w.heap.size ≤ gb538)); have n5_ := n4_; have n6_ := Aside0.mk ((by rw [hg]; exact Nat.ne_of_lt (blk_lt (g := gb536) (o := .cells (a0).A 38 (0, 0)) (sqO BK536.out)) : gb536 ≠ gb538)); have n7_ := Aside0.mk (Ne.symm n6_.out); have n8_ := Aside0.mk ((by rw [hg]; exact Nat.ne_of_lt (blk_lt (g := gb537) (o := .cells (a1).A 40 (0, 0)) (sqO BK537.out)) : gb537 ≠ gb538)); have n9_ := Aside0.mk (Ne.symm n8_.out); clear BK536; clear BK537; clear HB; have BK536 := n0_; have BK537 := n1_; have HB := n2_; have BK538 := n3_; have GW538 := n4_; have GE538 := n5_; have NB536_538 := n6_; have NB538_536 := n7_; have NB537_538 := n8_; have NB538_537 := n9_; clear n0_ n1_ n2_ n3_ n4_ n5_ n6_ n7_ n8_ n9_; clear hb hbox hg; have hnb42 := NB538_536.out; have hnc42 := NB536_538.out; have hnb43 := NB538_537.out; have hnc43 := NB537_538.out; obtain ⟨hcz44_0, hcz44_1, hcz44_2, hcz44_3, hcz44_4, hcz44_5⟩ := sqC BK538.out; have hfz44_0 := blk_frozen BK538.out 0; have hfz44_1 := blk_frozen BK538.out 1; have hfz44_2 := blk_frozen BK538.out 2; have hfz44_3 := blk_frozen BK538.out 3; have hfz44_4 := blk_frozen BK538.out 4; have hfz44_5 := blk_frozen BK538.out 5) | ((with_reducible refine gate_callee (f := 34) rfl ?_); refine goesL_ (some 13) rfl rfl Try.func34 (by kernel_rfl) rfl #[.pointer (some ⟨gb536, 0, none⟩), .pointer (some ⟨gb537, 0, none⟩), .agg #[.int .i8 a2_0, .int .i8 a2_1, .int .i8 a2_2, .int .i8 a2_3, .int .i8 a2_4, .int .i8 a2_5], .slice A3 l3.length c3] rfl (by (try simp only [List.map_toArray, List.map_cons, List.map_nil]); first | done | rfl | (simp only [List.length_drop, List.length_take]; rfl)) ?_; (with_reducible refine (spec_l07Valid.calls k gb536 a0 gb537 a1 a2_0 a2_1 a2_2 a2_3 a2_4 a2_5 _ _ l3 false _ ?side1 ?side2 ?side3 ?side4 A5.out).mono ?_); (case side1 => (with_reducible repeat (first | refine blk_drewN ?_ _ | refine blk_drew ?_ | refine blk_alloc ?_ _)); exact BK536.out); (case side2 => (with_reducible repeat (first | refine blk_drewN ?_ _ | refine blk_drew ?_ | refine blk_alloc ?_ _)); exact BK537.out); (case side3 => repeat (first | exact (Kd.C_below HR3.out HB.out) | (with_reducible refine Kd.C_alloc ?_ _) | (with_reducible refine Kd.C_drewN ?_ _) | (with_reducible refine Kd.C_drew ?_))); (case side4 => exact HC3.out); rintro e w45 ⟨rfl, hb⟩; refine ⟨_, rfl, ?_⟩; have n0_ := Aside0.mk (sqB BK536.out hb); have n1_ := Aside0.mk (sqB BK537.out hb); have n2_ := Aside0.mk (sqB BK538.out hb); have n3_ := Aside0.mk (sqH HB.out hb); clear BK536; clear BK537; clear BK538; clear HB; have BK536 := n0_; have BK537 := n1_; have BK538 := n2_; have HB := n3_; clear n0_ n1_ n2_ n3_; (try clear hb); (try clear hb2); (try clear hk); (try clear hi)))
    go_ret2
    exact ⟨by first | rfl | (simp [errW_none, errW_some] <;> rfl) | (simp [*, errW_none, errW_some] <;> rfl), by repeat (first | (with_reducible first | exact HB.out | apply below_alloc | apply pw_below_drewN | apply below_drew1 | refine below_set ?_ GE536.out | refine below_set ?_ GE537.out | refine below_set ?_ GE538.out) | exact HB.out)⟩
end Go.Proofs.Ytmhmfhdmeedcfaa.G
end
section
namespace Go.Proofs.Ytmhmfhdmeedcfaa.G
open Go.RowKit Go.Proofs.YtmhmfhdmeedcfaaW.PrintWords Go.Proofs.YtmhmfhdmeedcfaaW.PrintLast Go.Proofs.YtmhmfhdmeedcfaaW.PrintMore
attribute [local go_sem] max2_int min2_int max_two min_two max_three min_three max_four min_four   -- for this text's walks alone
set_option linter.unusedVariables false
set_option linter.unusedSimpArgs false
def impl_isWind.f (a0_0 : Int) (a0_1 : Int) : Option (Bool) := if a0_0 ≥ 0 then (if a0_0 ≤ 12 then (if a0_1 ≥ 0 then (some (decide (a0_1 ≤ 7))) else (some false)) else (some false)) else (some false)
set_option maxHeartbeats 8000000 in
set_option maxRecDepth 100000 in
theorem impl_isWind.calls (a0_0 : Int) (a0_1 : Int) (r : Bool) (w : World) (h : impl_isWind.f a0_0 a0_1 = some r) :
    Calls Try.prog 70 #[.agg #[.int .i8 a0_0, .int .i8 a0_1]] w fun e w' => e = .returned (.bool r) ∧ Below w.heap.size w w' := by
  have hu78 := Try.underlying78
  have HB := Aside0.mk (Below.refl w.heap.size w)
  have H : (if a0_0 ≥ 0 then (if a0_0 ≤ 12 then (if a0_1 ≥ 0 then (some (decide (a0_1 ≤ 7))) else (some false)) else (some false)) else (some false)) = some r := h
  clear h
  by_cases c2 : a0_0 ≥ 0
  · rw [if_pos c2] at H
    have c2b0 : decide (0 ≤ a0_0) = true := decide_eq_true c2
    clear c2
    by_cases c3 : a0_0 ≤ 12
    · rw [if_pos c3] at H
      have c3b0 : decide (a0_0 ≤ 12) = true := decide_eq_true c3
      clear c3
      by_cases c4 : a0_1 ≥ 0
      · rw [if_pos c4] at H
        have c4b0 : decide (0 ≤ a0_1) = true := decide_eq_true c4
        clear c4
        obtain rfl := Option.some.inj H
        go_enter Try.func70, Try.ntmps70
        go_wp2_with (first | ((with_reducible refine gate_dst (N := 1) rfl ?_); refine box_event ?hg (N := 1) ?hd (cs := #[.int .i8 a0_0, .int .i8 a0_1]) (t := 78) ?hr ?_; (case hd => rfl); (case hg => rfl); (case hr => first | (go_simp; done) | (go_simp; rfl)); intro gb168 hg w5 hbox hb; have n0_ := Aside0.mk (sqH HB.out hb); have n1_ := Aside0.mk (hbox); have n2_ := Aside0.mk ((by rw [hg]; exact (below_size (by repeat (first | (with_reducible first | exact HB.out | apply below_alloc | apply pw_below_drewN | apply below_drew1) | exact HB.out))) : w.heap.size ≤ gb168)); have n3_ := n2_; clear HB; have HB := n0_; have BK168 := n1_; have GW168 := n2_; have GE168 := n3_; clear n0_ n1_ n2_ n3_; clear hb hbox hg; have hcz6_0 : w5.cell? ⟨gb168, 0, none⟩ = some (.int .i8 a0_0) := (blk_cell BK168.out 0).trans rfl; have hcz6_1 : w5.cell? ⟨gb168, 1, none⟩ = some (.int .i8 a0_1) := (blk_cell BK168.out 1).trans rfl; have hfz6_0 := blk_frozen BK168.out 0; have hfz6_1 := blk_frozen BK168.out 1))
        go_ret
        exact ⟨by first | rfl | (simp [errW_none, errW_some] <;> rfl) | (simp [*, errW_none, errW_some] <;> rfl), by repeat (first | (with_reducible first | exact HB.out | apply below_alloc | apply pw_below_drewN | apply below_drew1 | refine below_set ?_ GE168.out) | exact HB.out)⟩
      · rw [if_neg c4] at H
        have c4b0 : decide (0 ≤ a0_1) = false := decide_eq_false c4
        clear c4
        obtain rfl := Option.some.inj H
        go_enter Try.func70, Try.ntmps70
        go_wp2_with (first | ((with_reducible refine gate_dst (N := 1) rfl ?_); refine box_event ?hg (N := 1) ?hd (cs := #[.int .i8 a0_0, .int .i8 a0_1]) (t := 78) ?hr ?_; (case hd => rfl); (case hg => rfl); (case hr => first | (go_simp; done) | (go_simp; rfl)); intro gb168 hg w7 hbox hb; have n0_ := Aside0.mk (sqH HB.out hb); have n1_ := Aside0.mk (hbox); have n2_ := Aside0.mk ((by rw [hg]; exact (below_size (by repeat (first | (with_reducible first | exact HB.out | apply below_alloc | apply pw_below_drewN | apply below_drew1) | exact HB.out))) : w.heap.size ≤ gb168)); have n3_ := n2_; clear HB; have HB := n0_; have BK168 := n1_; have GW168 := n2_; have GE168 := n3_; clear n0_ n1_ n2_ n3_; clear hb hbox hg; have hcz8_0 : w7.cell? ⟨gb168, 0, none⟩ = some (.int .i8 a0_0) := (blk_cell BK168.out 0).trans rfl; have hcz8_1 : w7.cell? ⟨gb168, 1, none⟩ = some (.int .i8 a0_1) := (blk_cell BK168.out 1).trans rfl; have hfz8_0 := blk_frozen BK168.out 0; have hfz8_1 := blk_frozen BK168.out 1))
        go_ret
        exact ⟨by first | rfl | (simp [errW_none, errW_some] <;> rfl) | (simp [*, errW_none, errW_some] <;> rfl), by repeat (first | (with_reducible first | exact HB.out | apply below_alloc | apply pw_below_drewN | apply below_drew1 | refine below_set ?_ GE168.out) | exact HB.out)⟩
    · rw [if_neg c3] at H
      have c3b0 : decide (a0_0 ≤ 12) = false := decide_eq_false c3
      clear c3
      obtain rfl := Option.some.inj H
      go_enter Try.func70, Try.ntmps70
      go_wp2_with (first | ((with_reducible refine gate_dst (N := 1) rfl ?_); refine box_event ?hg (N := 1) ?hd (cs := #[.int .i8 a0_0, .int .i8 a0_1]) (t := 78) ?hr ?_; (case hd => rfl); (case hg => rfl); (case hr => first | (go_simp; done) | (go_simp; rfl)); intro gb168 hg w9 hbox hb; have n0_ := Aside0.mk (sqH HB.out hb); have n1_ := Aside0.mk (hbox); have n2_ := Aside0.mk ((by rw [hg]; exact (below_size (by repeat (first | (with_reducible first | exact HB.out | apply below_alloc | apply pw_below_drewN | apply below_drew1) | exact HB.out))) : w.heap.size ≤ gb168)); have n3_ := n2_; clear HB; have HB := n0_; have BK168 := n1_; have GW168 := n2_; have GE168 := n3_; clear n0_ n1_ n2_ n3_; clear hb hbox hg; have hcz10_0 : w9.cell? ⟨gb168, 0, none⟩ = some (.int .i8 a0_0) := (blk_cell BK168.out 0).trans rfl; have hcz10_1 : w9.cell? ⟨gb168, 1, none⟩ = some (.int .i8 a0_1) := (blk_cell BK168.out 1).trans rfl; have hfz10_0 := blk_frozen BK168.out 0; have hfz10_1 := blk_frozen BK168.out 1))
      go_ret
      exact ⟨by first | rfl | (simp [errW_none, errW_some] <;> rfl) | (simp [*, errW_none, errW_some] <;> rfl), by repeat (first | (with_reducible first | exact HB.out | apply below_alloc | apply pw_below_drewN | apply below_drew1 | refine below_set ?_ GE168.out) | exact HB.out)⟩
  · rw [if_neg c2] at H
    have c2b0 : decide (0 ≤ a0_0) = false := decide_eq_false c2
    clear c2
    obtain rfl := Option.some.inj H
    go_enter Try.func70, Try.ntmps70
    go_wp2_with (first | ((with_reducible refine gate_dst (N := 1) rfl ?_); refine box_event ?hg (N := 1) ?hd (cs := #[.int .i8 a0_0, .int .i8 a0_1]) (t := 78) ?hr ?_; (case hd => rfl); (case hg => rfl); (case hr => first | (go_simp; done) | (go_simp; rfl)); intro gb168 hg w11 hbox hb; have n0_ := Aside0.mk (sqH HB.out hb); have n1_ := Aside0.mk (hbox); have n2_ := Aside0.mk ((by rw [hg]; exact (below_size (by repeat (first | (with_reducible first | exact HB.out | apply below_alloc | apply pw_below_drewN | apply below_drew1) | exact HB.out))) : w.heap.size ≤ gb168)); have n3_ := n2_; clear HB; have HB := n0_; have BK168 := n1_; have GW168 := n2_; have GE168 := n3_; clear n0_ n1_ n2_ n3_; clear hb hbox hg; have hcz12_0 : w11.cell? ⟨gb168, 0, none⟩ = some (.int .i8 a0_0) := (blk_cell BK168.out 0).trans rfl; have hcz12_1 : w11.cell? ⟨gb168, 1, none⟩ = some (.int .i8 a0_1) := (blk_cell BK168.out 1).trans rfl; have hfz12_0 := blk_frozen BK168.out 0; have hfz12_1 := blk_frozen BK168.out 1))
    go_ret
    exact ⟨by first | rfl | (simp [errW_none, errW_some] <;> rfl) | (simp [*, errW_none, errW_some] <;> rfl), by repeat (first | (with_reducible first | exact HB.out | apply below_alloc | apply pw_below_drewN | apply below_drew1 | refine below_set ?_ GE168.out) | exact HB.out)⟩
end Go.Proofs.Ytmhmfhdmeedcfaa.G
end
section
namespace Go.Proofs.Ytmhmfhdmeedcfaa.G
open Go.RowKit Go.Proofs.YtmhmfhdmeedcfaaW.PrintWords Go.Proofs.YtmhmfhdmeedcfaaW.PrintLast Go.Proofs.YtmhmfhdmeedcfaaW.PrintMore
attribute [local go_sem] max2_int min2_int max_two min_two max_three min_three max_four min_four   -- for this text's walks alone
set_option linter.unusedVariables false
set_option linter.unusedSimpArgs false
def impl_ValidWinds.l0 : Nat → List (S78) → List (S78) → Int → Int → Option (Bool)
  | 0, _, _, _, _ => none
  | k + 1, x0, x5, x6, x7 => if x7 < x6 then (if 0 ≤ x7 then (if x7 < (x5.length : Int) then ((impl_isWind.f ((rd_T78 x5 x7).f0) ((rd_T78 x5 x7).f1)).bind fun t171 => (if t171 = true then (impl_ValidWinds.l0 k x0 x5 x6 (wrap64 (x7 + 1))) else (some false))) else (none)) else (none)) else (some (decide ((x0.length : Int) ≤ 48)))
def impl_ValidWinds.f (k : Nat) (l0 : List (S78)) : Option (Bool) := impl_ValidWinds.l0 k l0 l0 (l0.length : Int) 0
set_option maxHeartbeats 8000000 in
set_option maxRecDepth 100000 in
theorem impl_ValidWinds.calls (k : Nat) (A0 : Option Addr) (c0 : Nat) (l0 : List (S78)) (r : Bool) (w : World) (hr0 : Kd.C k78 w A0 l0.length l0) (hc0 : l0.length ≤ c0) (h : impl_ValidWinds.f k l0 = some r) :
    Calls Try.prog 56 #[.slice A0 l0.length c0] w fun e w' => e = .returned (.bool r) ∧ Below w.heap.size w w' := by
  have hu78 := Try.underlying78
  have HR0 := Aside0.mk hr0
  have HC0 := Aside0.mk hc0
  clear hr0 hc0
  have HB := Aside0.mk (Below.refl w.heap.size w)
  have H : (impl_ValidWinds.l0 k l0 l0 (l0.length : Int) 0) = some r := h
  clear h
  have H' := Aside0.mk H
  clear H
  go_enter Try.func56, Try.ntmps56
  go_wp2
  go_loopg [7] k (fun kq v7 w' => ∃ (x7_1 : Int), v7 = .int .i64 x7_1 ∧ Aside0 (impl_ValidWinds.l0 kq l0 l0 (l0.length : Int) x7_1 = some r) ∧ Aside0 (kq ≤ k) ∧ Aside0 (Below w.heap.size w w'))
  case atStart => exact ⟨(0), (by first | rfl | (simp; done) | (simp [*]; done)), H', ⟨Nat.le_refl _⟩, ⟨by repeat (first | (with_reducible first | exact HB.out | apply below_alloc | apply pw_below_drewN | apply below_drew1) | exact HB.out)⟩⟩
  case round =>
    clear H'
    obtain ⟨x7_1, rfl, HA, HK1, HB⟩ := hrel
    cases gk with
    | zero => exact absurd HA.out (by simp [impl_ValidWinds.l0])
    | succ k1 =>
      have H := HA.out
      clear HA
      simp only [impl_ValidWinds.l0] at H
      by_cases c2 : x7_1 < (l0.length : Int)
      · rw [if_pos c2] at H
        have c2b0 : decide (x7_1 < (l0.length : Int)) = true := decide_eq_true c2
        clear c2
        by_cases c3 : 0 ≤ x7_1
        · rw [if_pos c3] at H
          have c3b0 : decide (0 ≤ x7_1) = true := decide_eq_true c3
          clear c3
          by_cases c4 : x7_1 < (l0.length : Int)
          · rw [if_pos c4] at H
            have c4b0 : decide (x7_1 < (l0.length : Int)) = true := decide_eq_true c4
            clear c4
            replace H := Option.bind_eq_some_iff.mp H
            obtain ⟨t171, A50, H⟩ := H
            replace H : (if t171 = true then (impl_ValidWinds.l0 k1 l0 l0 (l0.length : Int) (wrap64 (x7_1 + 1))) else (some false)) = some r := H
            have A5 := Aside0.mk A50
            clear A50
            by_cases c6 : t171 = true
            · subst c6
              have H1 : (impl_ValidWinds.l0 k1 l0 l0 (l0.length : Int) (wrap64 (x7_1 + 1))) = some r := by rw [if_pos rfl] at H; exact H
              clear H
              have H := H1
              clear H1
              have H' := Aside0.mk H
              clear H
              have p169 : 0 ≤ (x7_1 : Int) := of_decide_eq_true (by first | (with_reducible assumption) | assumption)
              have q169 : x7_1 < (l0.length : Int) := of_decide_eq_true (by first | (with_reducible assumption) | assumption)
              obtain ⟨ad169, e169, hx169_0, hx169_1⟩ := at_T78 HR0.out x7_1 p169 q169
              cases e169
              replace hx169_0 := (HB.out.cell (World.block_lt_of_cell? w _ hx169_0)).trans hx169_0
              replace hx169_1 := (HB.out.cell (World.block_lt_of_cell? w _ hx169_1)).trans hx169_1
              replace p169 := eq_true p169
              replace q169 := eq_true q169
              go_wp2_with (first | ((with_reducible refine gate_dst (N := 4) rfl ?_); refine box_event ?hg (N := 4) ?hd (cs := #[.int .i8 0, .int .i8 0]) (t := 78) ?hr ?_; (case hd => rfl); (case hg => rfl); (case hr => first | (go_simp; done) | (go_simp; rfl)); intro gb170 hg w7 hbox hb; have n0_ := Aside0.mk (sqH HB.out hb); have n1_ := Aside0.mk (hbox); have n2_ := Aside0.mk ((by rw [hg]; exact (below_size (by repeat (first | (with_reducible first | exact HB.out | apply below_alloc | apply pw_below_drewN | apply below_drew1) | exact HB.out))) : w.heap.size ≤ gb170)); have n3_ := n2_; clear HB; have HB := n0_; have BK170 := n1_; have GW170 := n2_; have GE170 := n3_; clear n0_ n1_ n2_ n3_; clear hb hbox hg; have hcz8_0 : w7.cell? ⟨gb170, 0, none⟩ = some (.int .i8 0) := (blk_cell BK170.out 0).trans rfl; have hcz8_1 : w7.cell? ⟨gb170, 1, none⟩ = some (.int .i8 0) := (blk_cell BK170.out 1).trans rfl; have hfz8_0 := blk_frozen BK170.out 0; have hfz8_1 := blk_frozen BK170.out 1) | ((with_reducible refine gate_callee (f := 70) rfl ?_); refine goesL_ (some 12) rfl rfl Try.func70 (by kernel_rfl) rfl #[.agg #[.int .i8 ((rd_T78 l0 x7_1).f0), .int .i8 ((rd_T78 l0 x7_1).f1)]] rfl (by (try simp only [List.map_toArray, List.map_cons, List.map_nil]); first | done | rfl | (simp only [List.length_drop, List.length_take]; rfl)) ?_; (with_reducible refine (impl_isWind.calls ((rd_T78 l0 x7_1).f0) ((rd_T78 l0 x7_1).f1) true _ A5.out).mono ?_); rintro e w9 ⟨rfl, hb⟩; refine ⟨_, rfl, ?_⟩; have n0_ := Aside0.mk (blk_below (g := gb170) (o := .cells #[.int .i8 ((rd_T78 l0 x7_1).f0), .int .i8 ((rd_T78 l0 x7_1).f1)] 78 (0, 0)) (by (with_reducible repeat (first | refine blk_drewN ?_ _ | refine blk_drew ?_ | refine blk_alloc ?_ _)); refine blk_put (cs := #[.int .i8 ((rd_T78 l0 x7_1).f0), .int .i8 0]) ?_ 1 _ rfl; (with_reducible repeat (first | refine blk_drewN ?_ _ | refine blk_drew ?_ | refine blk_alloc ?_ _)); refine blk_put (cs := #[.int .i8 0, .int .i8 0]) ?_ 0 _ rfl; (with_reducible repeat (first | refine blk_drewN ?_ _ | refine blk_drew ?_ | refine blk_alloc ?_ _)); exact BK170.out) hb); have n1_ := Aside0.mk (sqH HB.out hb); clear BK170; clear HB; have BK170 := n0_; have HB := n1_; clear n0_ n1_; (try clear hb); (try clear hb2); (try clear hk); (try clear hi)))
              go_roundg k1
              case measure => have := HK1.out; omega
              case rel => exact ⟨(wrap64 (x7_1 + 1)), (by first | rfl | (simp; done) | (simp [*]; done)), H', ⟨by have := HK1.out; omega⟩, ⟨by repeat (first | (with_reducible first | exact HB.out | apply below_alloc | apply pw_below_drewN | apply below_drew1 | refine below_set ?_ GE170.out) | exact HB.out)⟩⟩
            · replace c6 := Bool.eq_false_iff.mpr c6
              subst c6
              have H1 : (some false) = some r := by rw [if_neg (show ¬ (false = true) by decide)] at H; exact H
              clear H
              have H := H1
              clear H1
              obtain rfl := Option.some.inj H
              have p169 : 0 ≤ (x7_1 : Int) := of_decide_eq_true (by first | (with_reducible assumption) | assumption)
              have q169 : x7_1 < (l0.length : Int) := of_decide_eq_true (by first | (with_reducible assumption) | assumption)
              obtain ⟨ad169, e169, hx169_0, hx169_1⟩ := at_T78 HR0.out x7_1 p169 q169
              cases e169
              replace hx169_0 := (HB.out.cell (World.block_lt_of_cell? w _ hx169_0)).trans hx169_0
              replace hx169_1 := (HB.out.cell (World.block_lt_of_cell? w _ hx169_1)).trans hx169_1
              replace p169 := eq_true p169
              replace q169 := eq_true q169
              go_wp2_with (first | ((with_reducible refine gate_dst (N := 4) rfl ?_); refine box_event ?hg (N := 4) ?hd (cs := #[.int .i8 0, .int .i8 0]) (t := 78) ?hr ?_; (case hd => rfl); (case hg => rfl); (case hr => first | (go_simp; done) | (go_simp; rfl)); intro gb170 hg w10 hbox hb; have n0_ := Aside0.mk (sqH HB.out hb); have n1_ := Aside0.mk (hbox); have n2_ := Aside0.mk ((by rw [hg]; exact (below_size (by repeat (first | (with_reducible first | exact HB.out | apply below_alloc | apply pw_below_drewN | apply below_drew1) | exact HB.out))) : w.heap.size ≤ gb170)); have n3_ := n2_; clear HB; have HB := n0_; have BK170 := n1_; have GW170 := n2_; have GE170 := n3_; clear n0_ n1_ n2_ n3_; clear hb hbox hg; have hcz11_0 : w10.cell? ⟨gb170, 0, none⟩ = some (.int .i8 0) := (blk_cell BK170.out 0).trans rfl; have hcz11_1 : w10.cell? ⟨gb170, 1, none⟩ = some (.int .i8 0) := (blk_cell BK170.out 1).trans rfl; have hfz11_0 := blk_frozen BK170.out 0; have hfz11_1 := blk_frozen BK170.out 1) | ((with_reducible refine gate_callee (f := 70) rfl ?_); refine goesL_ (some 12) rfl rfl Try.func70 (by kernel_rfl) rfl #[.agg #[.int .i8 ((rd_T78 l0 x7_1).f0), .int .i8 ((rd_T78 l0 x7_1).f1)]] rfl (by (try simp only [List.map_toArray, List.map_cons, List.map_nil]); first | done | rfl | (simp only [List.length_drop, List.length_take]; rfl)) ?_; (with_reducible refine (impl_isWind.calls ((rd_T78 l0 x7_1).f0) ((rd_T78 l0 x7_1).f1) false _ A5.out).mono ?_); rintro e w12 ⟨rfl, hb⟩; refine ⟨_, rfl, ?_⟩; have n0_ := Aside0.mk (blk_below (g := gb170) (o := .cells #[.int .i8 ((rd_T78 l0 x7_1).f0), .int .i8 ((rd_T78 l0 x7_1).f1)] 78 (0, 0)) (by (with_reducible repeat (first | refine blk_drewN ?_ _ | refine blk_drew ?_ | refine blk_alloc ?_ _)); refine blk_put (cs := #[.int .i8 ((rd_T78 l0 x7_1).f0), .int .i8 0]) ?_ 1 _ rfl; (with_reducible repeat (first | refine blk_drewN ?_ _ | refine blk_drew ?_ | refine blk_alloc ?_ _)); refine blk_put (cs := #[.int .i8 0, .int .i8 0]) ?_ 0 _ rfl; (with_reducible repeat (first | refine blk_drewN ?_ _ | refine blk_drew ?_ | refine blk_alloc ?_ _)); exact BK170.out) hb); have n1_ := Aside0.mk (sqH HB.out hb); clear BK170; clear HB; have BK170 := n0_; have HB := n1_; clear n0_ n1_; (try clear hb); (try clear hb2); (try clear hk); (try clear hi)))
              go_ret
              exact ⟨by first | rfl | (simp [errW_none, errW_some] <;> rfl) | (simp [*, errW_none, errW_some] <;> rfl), by repeat (first | (with_reducible first | exact HB.out | apply below_alloc | apply pw_below_drewN | apply below_drew1 | refine below_set ?_ GE170.out) | exact HB.out)⟩
          · rw [if_neg c4] at H
            exact absurd H (by simp)
        · rw [if_neg c3] at H
          exact absurd H (by simp)
      · rw [if_neg c2] at H
        have c2b0 : decide (x7_1 < (l0.length : Int)) = false := decide_eq_false c2
        clear c2
        obtain rfl := Option.some.inj H
        go_wp2
        go_ret
        exact ⟨by first | rfl | (simp [errW_none, errW_some] <;> rfl) | (simp [*, errW_none, errW_some] <;> rfl), by repeat (first | (with_reducible first | exact HB.out | apply below_alloc | apply pw_below_drewN | apply below_drew1) | exact HB.out)⟩
end Go.Proofs.Ytmhmfhdmeedcfaa.G
end
section
namespace Go.Proofs.Ytmhmfhdmeedcfaa.G
open Go.RowKit Go.Proofs.YtmhmfhdmeedcfaaW.PrintWords Go.Proofs.YtmhmfhdmeedcfaaW.PrintLast Go.Proofs.YtmhmfhdmeedcfaaW.PrintMore
attribute [local go_sem] max2_int min2_int max_two min_two max_three min_three max_four min_four   -- for this text's walks alone
set_option linter.unusedVariables false
set_option linter.unusedSimpArgs false
def impl_isPlace.f (a0 : O38) (a1_0 : Int) (a1_1 : Int) : Option (Bool) := if a1_0 ≥ 0 then (if a1_0 < (a0.z 0) then (if a1_1 ≥ 0 then (some (decide (a1_1 < (a0.z 1)))) else (some false)) else (some false)) else (some false)
set_option maxHeartbeats 8000000 in
set_option maxRecDepth 100000 in
theorem impl_isPlace.calls (a0 : O38) (a1_0 : Int) (a1_1 : Int) (r : Bool) (w : World) (h : impl_isPlace.f a0 a1_0 a1_1 = some r) :
    Calls Try.prog 84 #[VO38 a0, .agg #[.int .i8 a1_0, .int .i8 a1_1]] w fun e w' => e = .returned (.bool r) ∧ Below w.heap.size w w' := by
  have hu42 := Try.underlying42
  have HB := Aside0.mk (Below.refl w.heap.size w)
  have H : (if a1_0 ≥ 0 then (if a1_0 < (a0.z 0) then (if a1_1 ≥ 0 then (some (decide (a1_1 < (a0.z 1)))) else (some false)) else (some false)) else (some false)) = some r := h
  clear h
  by_cases c3 : a1_0 ≥ 0
  · rw [if_pos c3] at H
    have c3b0 : decide (0 ≤ a1_0) = true := decide_eq_true c3
    clear c3
    by_cases c4 : a1_0 < (a0.z 0)
    · rw [if_pos c4] at H
      have c4b0 : decide (a1_0 < (a0.z 0)) = true := decide_eq_true c4
      clear c4
      by_cases c5 : a1_1 ≥ 0
      · rw [if_pos c5] at H
        have c5b0 : decide (0 ≤ a1_1) = true := decide_eq_true c5
        clear c5
        obtain rfl := Option.some.inj H
        go_enter Try.func84, Try.ntmps84
        go_wp2_with (first | ((with_reducible refine gate_dst (N := 2) rfl ?_); refine box_event ?hg (N := 2) ?hd (cs := (a0).A) (t := 38) ?hr ?_; (case hd => rfl); (case hg => rfl); (case hr => first | exact AR.run_box_row rfl rfl | (go_simp; done) | (go_simp; rfl)); intro gb172 hg w6 hbox hb; have n0_ := Aside0.mk (sqH HB.out hb); have n1_ := Aside0.mk (hbox); have n2_ := Aside0.mk ((by rw [hg]; exact (below_size (by repeat (first | (with_reducible first | exact HB.out | apply below_alloc | apply pw_below_drewN | apply below_drew1) | exact HB.out))) : w.heap.size ≤ gb172)); have n3_ := n2_; clear HB; have HB := n0_; have BK172 := n1_; have GW172 := n2_; have GE172 := n3_; clear n0_ n1_ n2_ n3_; clear hb hbox hg) | ((with_reducible refine gate_dst (N := 3) rfl ?_); refine box_event ?hg (N := 3) ?hd (cs := #[.int .i8 a1_0, .int .i8 a1_1]) (t := 42) ?hr ?_; (case hd => rfl); (case hg => rfl); (case hr => first | (go_simp; done) | (go_simp; rfl)); intro gb173 hg w7 hbox hb; have n0_ := Aside0.mk (sqB BK172.out hb); have n1_ := Aside0.mk (sqH HB.out hb); have n2_ := Aside0.mk (hbox); have n3_ := Aside0.mk ((by rw [hg]; exact (below_size (by repeat (first | (with_reducible first | exact HB.out | apply below_alloc | apply pw_below_drewN | apply below_drew1 | refine below_set ?_ GE172.out) | exact HB.out))) : w.heap.size ≤ gb173)); have n4_ := n3_; have n5_ := Aside0.mk ((by rw [hg]; exact Nat.ne_of_lt (blk_lt (g := gb172) (o := .cells (a0).A 38 (0, 0)) (sqO BK172.out)) : gb172 ≠ gb173)); have n6_ := Aside0.mk (Ne.symm n5_.out); clear BK172; clear HB; have BK172 := n0_; have HB := n1_; have BK173 := n2_; have GW173 := n3_; have GE173 := n4_; have NB172_173 := n5_; have NB173_172 := n6_; clear n0_ n1_ n2_ n3_ n4_ n5_ n6_; clear hb hbox hg; have hnb8 := NB173_172.out; have hnc8 := NB172_173.out; have hcz9_0 : w7.cell? ⟨gb173, 0, none⟩ = some (.int .i8 a1_0) := (blk_cell BK173.out 0).trans rfl; have hcz9_1 : w7.cell? ⟨gb173, 1, none⟩ = some (.int .i8 a1_1) := (blk_cell BK173.out 1).trans rfl; have hfz9_0 := blk_frozen BK173.out 0; have hfz9_1 := blk_frozen BK173.out 1; have hco172_0 : w7.cell? ⟨gb172, 0, none⟩ = some (.int .i8 (a0.z 0)) := AR.blk_cell BK172.out (Flat.at_ a0 (by decide)); have hco172_1 : w7.cell? ⟨gb172, 1, none⟩ = some (.int .i8 (a0.z 1)) := AR.blk_cell BK172.out (Flat.at_ a0 (by decide))))
        go_ret
        exact ⟨by first | rfl | (simp [errW_none, errW_some] <;> rfl) | (simp [*, errW_none, errW_some] <;> rfl), by repeat (first | (with_reducible first | exact HB.out | apply below_alloc | apply pw_below_drewN | apply below_drew1 | refine below_set ?_ GE172.out | refine below_set ?_ GE173.out) | exact HB.out)⟩
      · rw [if_neg c5] at H
        have c5b0 : decide (0 ≤ a1_1) = false := decide_eq_false c5
        clear c5
        obtain rfl := Option.some.inj H
        go_enter Try.func84, Try.ntmps84
        go_wp2_with (first | ((with_reducible refine gate_dst (N := 2) rfl ?_); refine box_event ?hg (N := 2) ?hd (cs := (a0).A) (t := 38) ?hr ?_; (case hd => rfl); (case hg => rfl); (case hr => first | exact AR.run_box_row rfl rfl | (go_simp; done) | (go_simp; rfl)); intro gb172 hg w10 hbox hb; have n0_ := Aside0.mk (sqH HB.out hb); have n1_ := Aside0.mk (hbox); have n2_ := Aside0.mk ((by rw [hg]; exact (below_size (by repeat (first | (with_reducible first | exact HB.out | apply below_alloc | apply pw_below_drewN | apply below_drew1) | exact HB.out))) : w.heap.size ≤ gb172)); have n3_ := n2_; clear HB; have HB := n0_; have BK172 := n1_; have GW172 := n2_; have GE172 := n3_; clear n0_ n1_ n2_ n3_; clear hb hbox hg) | ((with_reducible refine gate_dst (N := 3) rfl ?_); refine box_event ?hg (N := 3) ?hd (cs := #[.int .i8 a1_0, .int .i8 a1_1]) (t := 42) ?hr ?_; (case hd => rfl); (case hg => rfl); (case hr => first | (go_simp; done) | (go_simp; rfl)); intro gb173 hg w11 hbox hb; have n0_ := Aside0.mk (sqB BK172.out hb); have n1_ := Aside0.mk (sqH HB.out hb); have n2_ := Aside0.mk (hbox); have n3_ := Aside0.mk ((by rw [hg]; exact (below_size (by repeat (first | (with_reducible first | exact HB.out | apply below_alloc | apply pw_below_drewN | apply below_drew1 | refine below_set ?_ GE172.out) | exact HB.out))) : w.heap.size ≤ gb173)); have n4_ := n3_; have n5_ := Aside0.mk ((by rw [hg]; exact Nat.ne_of_lt (blk_lt (g := gb172) (o := .cells (a0).A 38 (0, 0)) (sqO BK172.out)) : gb172 ≠ gb173)); have n6_ := Aside0.mk (Ne.symm n5_.out); clear BK172; clear HB; have BK172 := n0_; have HB := n1_; have BK173 := n2_; have GW173 := n3_; have GE173 := n4_; have NB172_173 := n5_; have NB173_172 := n6_; clear n0_ n1_ n2_ n3_ n4_ n5_ n6_; clear hb hbox hg; have hnb12 := NB173_172.out; have hnc12 := NB172_173.out; have hcz13_0 : w11.cell? ⟨gb173, 0, none⟩ = some (.int .i8 a1_0) := (blk_cell BK173.out 0).trans rfl; have hcz13_1 : w11.cell? ⟨gb173, 1, none⟩ = some (.int .i8 a1_1) := (blk_cell BK173.out 1).trans rfl; have hfz13_0 := blk_frozen BK173.out 0; have hfz13_1 := blk_frozen BK173.out 1; have hco172_0 : w11.cell? ⟨gb172, 0, none⟩ = some (.int .i8 (a0.z 0)) := AR.blk_cell BK172.out (Flat.at_ a0 (by decide)); have hco172_1 : w11.cell? ⟨gb172, 1, none⟩ = some (.int .i8 (a0.z 1)) := AR.blk_cell BK172.out (Flat.at_ a0 (by decide))))
        go_ret
        exact ⟨by first | rfl | (simp [errW_none, errW_some] <;> rfl) | (simp [*, errW_none, errW_some] <;> rfl), by repeat (first | (with_reducible first | exact HB.out | apply below_alloc | apply pw_below_drewN | apply below_drew1 | refine below_set ?_ GE172.out | refine below_set ?_ GE173.out) | exact HB.out)⟩
    · rw [if_neg c4] at H
      have c4b0 : decide (a1_0 < (a0.z 0)) = false := decide_eq_false c4
      clear c4
      obtain rfl := Option.some.inj H
      go_enter Try.func84, Try.ntmps84
      go_wp2_with (first | ((with_reducible refine gate_dst (N := 2) rfl ?_); refine box_event ?hg (N := 2) ?hd (cs := (a0).A) (t := 38) ?hr ?_; (case hd => rfl); (case hg => rfl); (case hr => first | exact AR.run_box_row rfl rfl | (go_simp; done) | (go_simp; rfl)); intro gb172 hg w14 hbox hb; have n0_ := Aside0.mk (sqH HB.out hb); have n1_ := Aside0.mk (hbox); have n2_ := Aside0.mk ((by rw [hg]; exact (below_size (by repeat (first | (with_reducible first | exact HB.out | apply below_alloc | apply pw_below_drewN | apply below_drew1) | exact HB.out))) : w.heap.size ≤ gb172)); have n3_ := n2_; clear HB; have HB := n0_; have BK172 := n1_; have GW172 := n2_; have GE172 := n3_; clear n0_ n1_ n2_ n3_; clear hb hbox hg) | ((with_reducible refine gate_dst (N := 3) rfl ?_); refine box_event ?hg (N := 3) ?hd (cs := #[.int .i8 a1_0, .int .i8 a1_1]) (t := 42) ?hr ?_; (case hd => rfl); (case hg => rfl); (case hr => first | (go_simp; done) | (go_simp; rfl)); intro gb173 hg w15 hbox hb; have n0_ := Aside0.mk (sqB BK172.out hb); have n1_ := Aside0.mk (sqH HB.out hb); have n2_ := Aside0.mk (hbox); have n3_ := Aside0.mk ((by rw [hg]; exact (below_size (by repeat (first | (with_reducible first | exact HB.out | apply below_alloc | apply pw_below_drewN | apply below_drew1 | refine below_set ?_ GE172.out) | exact HB.out))) : w.heap.size ≤ gb173)); have n4_ := n3_; have n5_ := Aside0.mk ((by rw [hg]; exact Nat.ne_of_lt (blk_lt (g := gb172) (o := .cells (a0).A 38 (0, 0)) (sqO BK172.out)) : gb172 ≠ gb173)); have n6_ := Aside0.mk (Ne.symm n5_.out); clear BK172; clear HB; have BK172 := n0_; have HB := n1_; have BK173 := n2_; have GW173 := n3_; have GE173 := n4_; have NB172_173 := n5_; have NB173_172 := n6_; clear n0_ n1_ n2_ n3_ n4_ n5_ n6_; clear hb hbox hg; have hnb16 := NB173_172.out; have hnc16 := NB172_173.out; have hcz17_0 : w15.cell? ⟨gb173, 0, none⟩ = some (.int .i8 a1_0) := (blk_cell BK173.out 0).trans rfl; have hcz17_1 : w15.cell? ⟨gb173, 1, none⟩ = some (.int .i8 a1_1) := (blk_cell BK173.out 1).trans rfl; have hfz17_0 := blk_frozen BK173.out 0; have hfz17_1 := blk_frozen BK173.out 1; have hco172_0 : w15.cell? ⟨gb172, 0, none⟩ = some (.int .i8 (a0.z 0)) := AR.blk_cell BK172.out (Flat.at_ a0 (by decide)); have hco172_1 : w15.cell? ⟨gb172, 1, none⟩ = some (.int .i8 (a0.z 1)) := AR.blk_cell BK172.out (Flat.at_ a0 (by decide))))
      go_ret
      exact ⟨by first | rfl | (simp [errW_none, errW_some] <;> rfl) | (simp [*, errW_none, errW_some] <;> rfl), by repeat (first | (with_reducible first | exact HB.out | apply below_alloc | apply pw_below_drewN | apply below_drew1 | refine below_set ?_ GE172.out | refine below_set ?_ GE173.out) | exact HB.out)⟩
  · rw [if_neg c3] at H
    have c3b0 : decide (0 ≤ a1_0) = false := decide_eq_false c3
    clear c3
    obtain rfl := Option.some.inj H
    go_enter Try.func84, Try.ntmps84
    go_wp2_with (first | ((with_reducible refine gate_dst (N := 2) rfl ?_); refine box_event ?hg (N := 2) ?hd (cs := (a0).A) (t := 38) ?hr ?_; (case hd => rfl); (case hg => rfl); (case hr => first | exact AR.run_box_row rfl rfl | (go_simp; done) | (go_simp; rfl)); intro gb172 hg w18 hbox hb; have n0_ := Aside0.mk (sqH HB.out hb); have n1_ := Aside0.mk (hbox); have n2_ := Aside0.mk ((by rw [hg]; exact (below_size (by repeat (first | (with_reducible first | exact HB.out | apply below_alloc | apply pw_below_drewN | apply below_drew1) | exact HB.out))) : w.heap.size ≤ gb172)); have n3_ := n2_; clear HB; have HB := n0_; have BK172 := n1_; have GW172 := n2_; have GE172 := n3_; clear n0_ n1_ n2_ n3_; clear hb hbox hg) | ((with_reducible refine gate_dst (N := 3) rfl ?_); refine box_event ?hg (N := 3) ?hd (cs := #[.int .i8 a1_0, .int .i8 a1_1]) (t := 42) ?hr ?_; (case hd => rfl); (case hg => rfl); (case hr => first | (go_simp; done) | (go_simp; rfl)); intro gb173 hg w19 hbox hb; have n0_ := Aside0.mk (sqB BK172.out hb); have n1_ := Aside0.mk (sqH HB.out hb); have n2_ := Aside0.mk (hbox); have n3_ := Aside0.mk ((by rw [hg]; exact (below_size (by repeat (first | (with_reducible first | exact HB.out | apply below_alloc | apply pw_below_drewN | apply below_drew1 | refine below_set ?_ GE172.out) | exact HB.out))) : w.heap.size ≤ gb173)); have n4_ := n3_; have n5_ := Aside0.mk ((by rw [hg]; exact Nat.ne_of_lt (blk_lt (g := gb172) (o := .cells (a0).A 38 (0, 0)) (sqO BK172.out)) : gb172 ≠ gb173)); have n6_ := Aside0.mk (Ne.symm n5_.out); clear BK172; clear HB; have BK172 := n0_; have HB := n1_; have BK173 := n2_; have GW173 := n3_; have GE173 := n4_; have NB172_173 := n5_; have NB173_172 := n6_; clear n0_ n1_ n2_ n3_ n4_ n5_ n6_; clear hb hbox hg; have hnb20 := NB173_172.out; have hnc20 := NB172_173.out; have hcz21_0 : w19.cell? ⟨gb173, 0, none⟩ = some (.int .i8 a1_0) := (blk_cell BK173.out 0).trans rfl; have hcz21_1 : w19.cell? ⟨gb173, 1, none⟩ = some (.int .i8 a1_1) := (blk_cell BK173.out 1).trans rfl; have hfz21_0 := blk_frozen BK173.out 0; have hfz21_1 := blk_frozen BK173.out 1))
    go_ret
    exact ⟨by first | rfl | (simp [errW_none, errW_some] <;> rfl) | (simp [*, errW_none, errW_some] <;> rfl), by repeat (first | (with_reducible first | exact HB.out | apply below_alloc | apply pw_below_drewN | apply below_drew1 | refine below_set ?_ GE172.out | refine below_set ?_ GE173.out) | exact HB.out)⟩
end Go.Proofs.Ytmhmfhdmeedcfaa.G
end
