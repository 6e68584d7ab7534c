/- Values with arrays of whole numbers, told cell by cell. -/
import Derived.Test.YtofpjfbkbmpnnaaRowLib
import Derived.Test.YtofpjfbkbmpnnaaArr
import Derived.Test.YtofpjfbkbmpnnaaProg
namespace Go.Proofs.Ytofpjfbkbmpnnaa.G
open Go.RowKit Go.Proofs.YtofpjfbkbmpnnaaW.PrintWords
structure Flat (C : Nat) (k : IntKind) where
  z : Nat → Int
  ok : ∀ j, j < C → (Lit.int k (z j)).wf = true
def Flat.A {C : Nat} {k : IntKind} (o : Flat C k) : Array Value := ((List.range C).map fun j => Value.int k (o.z j)).toArray
theorem Flat.size {C : Nat} {k : IntKind} (o : Flat C k) : o.A.size = C := by simp [Flat.A]
theorem Flat.at_ {C : Nat} {k : IntKind} (o : Flat C k) {j : Nat} (h : j < C) : o.A[j]? = some (.int k (o.z j)) := by simp [Flat.A, h]
theorem Flat.one {C : Nat} {k : IntKind} (o : Flat C k) : o.A.all (·.oneCell') = true := by
  rw [Array.all_eq_true_iff_forall_mem]
  intro v hv
  simp only [Flat.A, List.mem_toArray, List.mem_map] at hv
  obtain ⟨j, _, rfl⟩ := hv
  rfl
theorem Flat.open_ {C : Nat} {k : IntKind} (z : Nat → Int) (h : ∀ j, j < C → (Lit.int ((List.replicate C k).getD j .i64) (z j)).wf = true) : ∃ o : Flat C k, o.A = (RL.cellsL (List.replicate C k) C z).toArray := by
  have hg : ∀ j, j < C → (List.replicate C k).getD j .i64 = k := fun j hj => by simp [hj]
  refine ⟨⟨z, fun j hj => by rw [← hg j hj]; exact h j hj⟩, ?_⟩
  unfold Flat.A RL.cellsL
  congr 1
  apply List.map_congr_left
  intro j hj
  rw [hg j (by simpa using hj)]
abbrev O26 := Flat 258 .i8
abbrev O30 := Flat 258 .i8
abbrev O28 := Flat 256 .u8
abbrev O32 := Flat 256 .u8
abbrev VO26 (o : O26) : Value := .agg o.A
abbrev VO30 (o : O30) : Value := .agg o.A
abbrev VO28 (o : O28) : Value := .agg o.A
abbrev VO32 (o : O32) : Value := .agg o.A
abbrev KSO26 : List IntKind := List.replicate 258 .i8
abbrev KSO28 : List IntKind := List.replicate 256 .u8
theorem openO26 (z : Nat → Int) (h : ∀ j, j < 258 → (Lit.int (KSO26.getD j .i64) (z j)).wf = true) : ∃ o : O26, VO26 o = .agg (RL.cellsL KSO26 258 z).toArray := by
  obtain ⟨o, h⟩ := Flat.open_ z h; exact ⟨o, by rw [← h]⟩
theorem openO28 (z : Nat → Int) (h : ∀ j, j < 256 → (Lit.int (KSO28.getD j .i64) (z j)).wf = true) : ∃ o : O28, VO28 o = .agg (RL.cellsL KSO28 256 z).toArray := by
  obtain ⟨o, h⟩ := Flat.open_ z h; exact ⟨o, by rw [← h]⟩
theorem szO26 (b : Flat 258 .i8) : (Try.prog.info? 26).map (·.size) = some b.A.size := by
  rw [Flat.size]; kernel_rfl
theorem szO30 (b : Flat 258 .i8) : (Try.prog.info? 30).map (·.size) = some b.A.size := by
  rw [Flat.size]; kernel_rfl
theorem szO28 (b : Flat 256 .u8) : (Try.prog.info? 28).map (·.size) = some b.A.size := by
  rw [Flat.size]; kernel_rfl
theorem szO32 (b : Flat 256 .u8) : (Try.prog.info? 32).map (·.size) = some b.A.size := by
  rw [Flat.size]; kernel_rfl
end Go.Proofs.Ytofpjfbkbmpnnaa.G
