/- Plain lemmas on lists of stays: the program's checks. -/
import Derived.Test.YtnpaoeemgglaaaaK4
import Derived.Test.YtnpaoeemgglaaaaPLStay
import Derived.Test.YtnpaoeemgglaaaaPureFnExactFeeOf
import Derived.Test.YtnpaoeemgglaaaaGF70
namespace Go.Proofs.Ytnpaoeemgglaaaa.G.Pure
open Go.RowKit M Go.Proofs.Ytnpaoeemgglaaaa.PL Go.Proofs.Ytnpaoeemgglaaaa.G.PS
set_option linter.unusedSimpArgs false
set_option linter.unusedVariables false
theorem rdS {l : List S33} {i : Nat} (h : i < l.length) : rd_T33 l (i : Int) = l[i] := by simp [rd_T33, h]
theorem are_loop (l : List S33) (hl : l.length ≤ 10000000) (d : Nat) : ∀ (k i : Nat), i + d = l.length → d < k → impl_areStays.l0 k l l.length i = some ((l.drop i).all vS) := by
  induction d with
  | zero =>
    intro k i hi hk
    obtain ⟨k, rfl⟩ : ∃ m, k = m + 1 := ⟨k - 1, by omega⟩
    simp only [impl_areStays.l0]; rw [if_neg (by omega), List.drop_of_length_le (by omega)]; rfl
  | succ d ih =>
    intro k i hi hk
    obtain ⟨k, rfl⟩ : ∃ m, k = m + 1 := ⟨k - 1, by omega⟩
    simp only [impl_areStays.l0]; rw [if_pos (by omega), if_pos (by omega), if_pos (by omega), rdS (by omega), impl_stay]
    rw [List.drop_eq_getElem_cons (by omega : i < l.length), List.all_cons]
    simp only [Option.bind_some]
    cases h : stayB (l[i]'(by omega)).f0 (l[i]'(by omega)).f1 (l[i]'(by omega)).f2
    · simp [vS, h]
    · rw [if_pos rfl, wnx (by omega), ih k (i + 1) (by omega) (by omega)]; simp [vS, h]
theorem code_tells {l : List S33} (hl : l.length ≤ 10000000) {k : Nat} (hk : l.length < k) : impl_staysCode.f k l = some (staysV l) := by
  unfold impl_staysCode.f impl_areStays.f staysV
  rw [show (0 : Int) = ((0 : Nat) : Int) from rfl, are_loop l hl l.length k 0 (by omega) hk, List.drop_zero]
  simp only [Option.bind_some]
  cases l.all vS
  · simp
  · by_cases h : 10 < l.length
    · simp [h]; omega
    · simp [h]; omega
theorem stays_ok {l : List S31} (h : ∀ x ∈ l, ∃ z : Nat → Int, x = (⟨z 0, z 1, z 2⟩ : S31) ∧ ∀ j, j < 3 → (Lit.int (([.i16, .i16, .i16] : List IntKind).getD j .i64) (z j)).wf = true) : (l.map convStay).all okS = true := by
  rw [List.all_eq_true]
  intro y hy
  rw [List.mem_map] at hy
  obtain ⟨x, hx, rfl⟩ := hy
  obtain ⟨z, rfl, hz⟩ := h x hx
  simp [okS, stayOk, convStay, i16_wf (hz 0 (by omega)), i16_wf (hz 1 (by omega)), i16_wf (hz 2 (by omega))]
theorem sz_tells {n : Nat} (h : n ≤ 9223372036854775807) : wrap64 (1048576 - (n : Int)) = 1048576 - (n : Int) := by unfold wrap64; omega
end Go.Proofs.Ytnpaoeemgglaaaa.G.Pure
