/- FeesOf of the program and of the reference answer alike: the plain statement behind the walk. -/
import Derived.Test.YtnpaoeemgglaaaaGF11
import Derived.Test.YtnpaoeemgglaaaaPureStays
namespace Go.Proofs.Ytnpaoeemgglaaaa.G.Pure
open Go.RowKit M Go.Proofs.Ytnpaoeemgglaaaa.PL Go.Proofs.Ytnpaoeemgglaaaa.G.PS
set_option linter.unusedSimpArgs false
set_option linter.unusedVariables false
theorem feesOf_loop (l : List S33) (pl pn fr : Int) (hl : l.length ≤ 10) (hv : l.all vS = true) (hf : feesB pl pn fr = true) (d : Nat) : ∀ (k i : Nat), i + d = l.length → d < k → impl_feesOf.l0 k (sumV (l.take i) pl pn fr) l l.length i pl pn fr = some (sumV l pl pn fr) := by
  induction d with
  | zero =>
    intro k i hi hk
    obtain ⟨k, rfl⟩ : ∃ m, k = m + 1 := ⟨k - 1, by omega⟩
    simp only [impl_feesOf.l0]; rw [if_neg (by omega), List.take_of_length_le (by omega)]
  | succ d ih =>
    intro k i hi hk
    obtain ⟨k, rfl⟩ : ∃ m, k = m + 1 := ⟨k - 1, by omega⟩
    have hs : stayB (l[i]'(by omega)).f0 (l[i]'(by omega)).f1 (l[i]'(by omega)).f2 = true := List.all_eq_true.mp hv _ (List.getElem_mem (by omega : i < l.length))
    have b := feeV_bounds hs hf
    have b' := sumV_bounds hv hf i (by omega)
    simp only [impl_feesOf.l0]; rw [if_pos (by omega), if_pos (by omega), if_pos (by omega), rdS (by omega), impl_fee_tells _ _ _ _ _ _ hs hf]
    simp only [Option.bind_some]
    rw [wsm (by omega) (by omega), wnx (by omega), ← sumV_succ (by omega)]
    exact ih k (i + 1) (by omega) (by omega)
theorem feesOf_tells {l : List S33} {pl pn fr : Int} (hl : l.length ≤ 10) (hv : l.all vS = true) (hf : feesB pl pn fr = true) {k : Nat} (hk : 10 < k) : impl_feesOf.f k l pl pn fr = some (sumV l pl pn fr) :=
  feesOf_loop l pl pn fr hl hv hf l.length k 0 (by omega) (by omega)
theorem FeesOf_tells {l : List S33} {pl pn fr : Int} (hl : l.length ≤ 10000000) {k : Nat} (hk : l.length + 10 < k) : impl_FeesOf.f k l pl pn fr = some (feesOfV l pl pn fr) := by
  unfold impl_FeesOf.f feesOfV
  rw [impl_fees, code_tells hl (by omega)]
  simp only [Option.bind_some]
  cases h : feesB pl pn fr
  · simp
  · by_cases hz : staysV l = 0
    · obtain ⟨hv, h10⟩ := staysV_zero hz
      rw [feesOf_tells h10 hv h (by omega)]
      simp [hz]
    · simp [hz]
theorem FnExactFeesOf : ∀ (l0 : List S31) (a1_0 a1_1 a1_2 : Int), l0.length ≤ 9223372036854775807 → (∀ x ∈ l0, ∃ z : Nat → Int, x = (⟨z 0, z 1, z 2⟩ : S31) ∧ ∀ j, j < 3 → (Lit.int (([.i16, .i16, .i16] : List IntKind).getD j .i64) (z j)).wf = true) → (Lit.int .i16 a1_0).wf = true → (Lit.int .i16 a1_1).wf = true → (Lit.int .i8 a1_2).wf = true → ∃ k, laws_FnExactFeesOf.f k l0 a1_0 a1_1 a1_2 = some true := by
  intro l a b c hl hx ha hb hc
  have hok := stays_ok hx
  unfold laws_FnExactFeesOf.f laws_szStayS.f
  rw [sz_tells hl]
  by_cases hbig : (1048576 : Int) - (l.length : Int) < 0
  · exact ⟨0, by rw [if_pos hbig]; rfl⟩
  obtain ⟨K, hK⟩ : ∃ K, K = 3000000 := ⟨_, rfl⟩
  refine ⟨K + 1, ?_⟩
  rw [if_neg hbig]
  simp only [Option.bind_some]
  rw [if_neg hbig, toStay_tells (by omega) (by omega)]
  simp only [Option.bind_some, laws_toFees.f]
  have hfo : feesOk a b c = true := by simp [feesOk, i16_wf ha, i16_wf hb, i8_wf hc]
  have hsp : spec_FeesOf.f (l.map convStay) a b c = some (feesOfV (l.map convStay) a b c) := by unfold spec_FeesOf.f; rw [hok, hfo]; rfl
  rw [hsp, FeesOf_tells (by rw [List.length_map]; omega) (by rw [List.length_map]; omega)]
  simp only [Option.bind_some, if_true, bne_self_eq_false, laws_FnExactFeesOf.j0]
  rw [if_neg (by simp), toStay_tells (by omega) (by omega)]
  simp only [Option.bind_some]
  rw [eqStay_tells (by rw [List.length_map]; omega) (by rw [List.length_map]; omega)]
  simp
end Go.Proofs.Ytnpaoeemgglaaaa.G.Pure
