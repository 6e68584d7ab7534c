/- Plain lemmas on the laws' own helpers over slices. Written by my gen_pl.py. -/
import Derived.Test.YtnpaoeemgglaaaaGF37
import Derived.Test.YtnpaoeemgglaaaaGF39
import Derived.Test.YtnpaoeemgglaaaaPureLib
namespace Go.Proofs.Ytnpaoeemgglaaaa.G.PS
open Go.RowKit Go.Proofs.Ytnpaoeemgglaaaa.PL Go.Proofs.YtnpaoeemgglaaaaW.PrintWords
set_option linter.unusedVariables false
set_option linter.unusedSimpArgs false

def convStay (x : S31) : S33 := ⟨x.f0, x.f1, x.f2⟩
theorem toStay_loop (l : List S31) (hl : l.length ≤ 10000000) (d : Nat) : ∀ (k i : Nat) (o : List S33), o.length = l.length → o.take i = (l.map convStay).take i → i + d = l.length → d < k → laws_toStayS.l0 k l o i = some (l.map convStay) := by
  induction d with
  | zero =>
    intro k i o ho he hi hk
    obtain ⟨k, rfl⟩ : ∃ m, k = m + 1 := ⟨k - 1, by omega⟩
    rw [List.take_of_length_le (by omega), List.take_of_length_le (by rw [List.length_map]; omega)] at he
    simp only [laws_toStayS.l0]; rw [if_neg (by omega), he]
  | succ d ih =>
    intro k i o ho he hi hk
    obtain ⟨k, rfl⟩ : ∃ m, k = m + 1 := ⟨k - 1, by omega⟩
    simp only [laws_toStayS.l0]; rw [if_pos (by omega), if_pos (by omega)]
    simp only [laws_toStay.f, Option.bind_some]
    rw [if_pos (by omega), wnx (by omega)]
    refine ih k (i + 1) _ (by rw [List.length_set]; exact ho) ?_ (by omega) (by omega)
    rw [Int.toNat_natCast]
    have e2 : rd_T31 l (i : Int) = l[i]'(by omega) := by simp [rd_T31, show i < l.length by omega]
    simp only [e2]
    rw [List.take_add_one, List.take_set_of_le (Nat.le_refl _), List.getElem?_set_self (by omega), he, List.take_add_one (l := l.map convStay), List.getElem?_eq_getElem (by rw [List.length_map]; omega), List.getElem_map]
    rfl
theorem toStay_tells {l : List S31} (hl : l.length ≤ 1048576) {k : Nat} (hk : l.length < k) : laws_toStayS.f k l = some (l.map convStay) := by
  unfold laws_toStayS.f
  rw [if_pos (by omega), if_pos (by omega)]
  exact toStay_loop l (by omega) l.length k 0 _ (by simp) (by simp) (by omega) hk
theorem eqStay_loop (l : List S33) (hl : l.length ≤ 10000000) (d : Nat) : ∀ (k i : Nat), i + d = l.length → d < k → laws_eqStayS.l0 k l l i = some true := by
  induction d with
  | zero =>
    intro k i hi hk
    obtain ⟨k, rfl⟩ : ∃ m, k = m + 1 := ⟨k - 1, by omega⟩
    simp only [laws_eqStayS.l0]; rw [if_neg (by omega)]
  | succ d ih =>
    intro k i hi hk
    obtain ⟨k, rfl⟩ : ∃ m, k = m + 1 := ⟨k - 1, by omega⟩
    simp only [laws_eqStayS.l0]; rw [if_pos (by omega), if_pos (by omega), if_pos (by omega)]
    simp only [laws_eqStay.f, if_true, Option.bind_some]
    rw [wnx (by omega)]
    exact ih k (i + 1) (by omega) (by omega)
theorem eqStay_tells {l : List S33} (hl : l.length ≤ 10000000) {k : Nat} (hk : l.length < k) : laws_eqStayS.f k l l = some true := by
  unfold laws_eqStayS.f; rw [if_pos rfl]; exact eqStay_loop l hl l.length k 0 (by omega) hk
end Go.Proofs.Ytnpaoeemgglaaaa.G.PS
