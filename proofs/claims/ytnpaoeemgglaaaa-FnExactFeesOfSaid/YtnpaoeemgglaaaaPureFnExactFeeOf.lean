/- FeeOf of the program and of the reference answer alike: the plain statement behind the walk. -/
import Derived.Test.YtnpaoeemgglaaaaGF7
import Derived.Test.YtnpaoeemgglaaaaPureFnExactValidStay
import Derived.Test.YtnpaoeemgglaaaaPureFnExactValidFees
namespace Go.Proofs.Ytnpaoeemgglaaaa.G.Pure
open Go.RowKit M PL
set_option linter.unusedSimpArgs false
set_option linter.unusedVariables false
theorem impl_fee_tells (f n l pl pn fr : Int) (h : stayB f n l = true) (h' : feesB pl pn fr = true) : impl_fee.f f n l pl pn fr = some (feeV n l pl pn fr) := by
  obtain ⟨_, _, hn0, hn1, hl0, hl1⟩ := stayB_bounds h
  obtain ⟨hp0, hp1, hq0, hq1, hr⟩ := feesB_bounds h'
  obtain ⟨m0, m1⟩ := mul_bounds (a := pl) (b := l) hp0 hp1 (by omega) hl1
  unfold impl_fee.f feeV
  rw [wsm (x := pl) (by omega) (by omega), wsm (x := l) (by omega) (by omega), wsm (x := pn) (by omega) (by omega), wsm (x := n) (by omega) (by omega), wsm (x := fr) (by omega) (by omega), wsm (x := pl * l) (by omega) (by omega), wsm (x := pl * l + pn) (by omega) (by omega)]
  by_cases hfr : fr > 0
  · obtain ⟨q0, q1⟩ := quo_bounds (n := n) (f := fr) (by omega) (by omega)
    obtain ⟨z0, z1⟩ := mul_bounds (a := pl * l + pn) (b := n - n / fr) (A := 101000) (B := 100) (by omega) (by omega) (by omega) (by omega)
    rw [if_pos hfr, if_neg (by omega), Int.tdiv_eq_ediv_of_nonneg (by omega), wsm (x := n / fr) (by omega) (by omega), wsm (x := n - n / fr) (by omega) (by omega), wsm (by omega) (by omega), if_pos (by omega)]
  · obtain ⟨z0, z1⟩ := mul_bounds (a := pl * l + pn) (b := n) (A := 101000) (B := 100) (by omega) (by omega) (by omega) (by omega)
    rw [if_neg hfr, wsm (by omega) (by omega), if_neg (by omega)]
theorem FnExactFeeOf : ∀ (a0_0 a0_1 a0_2 : Int) (a1_0 a1_1 a1_2 : Int), (Lit.int .i16 a0_0).wf = true → (Lit.int .i16 a0_1).wf = true → (Lit.int .i16 a0_2).wf = true → (Lit.int .i16 a1_0).wf = true → (Lit.int .i16 a1_1).wf = true → (Lit.int .i8 a1_2).wf = true → laws_FnExactFeeOf.f a0_0 a0_1 a0_2 a1_0 a1_1 a1_2 = some true := by
  intro a b c a' b' c' ha hb hc ha' hb' hc'
  unfold laws_FnExactFeeOf.f laws_toStay.f laws_toFees.f spec_FeeOf.f impl_FeeOf.f
  cases h : stayB a b c
  · simp [impl_stay, impl_fees, stayOk, feesOk, i16_wf ha, i16_wf hb, i16_wf hc, i16_wf ha', i16_wf hb', i8_wf hc', feeOfV, h]
  · cases h' : feesB a' b' c'
    · simp [impl_stay, impl_fees, stayOk, feesOk, i16_wf ha, i16_wf hb, i16_wf hc, i16_wf ha', i16_wf hb', i8_wf hc', feeOfV, h, h']
    · simp [impl_stay, impl_fees, stayOk, feesOk, i16_wf ha, i16_wf hb, i16_wf hc, i16_wf ha', i16_wf hb', i8_wf hc', feeOfV, h, h', impl_fee_tells _ _ _ _ _ _ h h']
end Go.Proofs.Ytnpaoeemgglaaaa.G.Pure
