/- ValidFees of the program and of the reference answer alike: the plain statement behind the walk. -/
import Derived.Test.YtnpaoeemgglaaaaGF3
import Derived.Test.YtnpaoeemgglaaaaPureLib
namespace Go.Proofs.Ytnpaoeemgglaaaa.G.Pure
open Go.RowKit M PL
set_option linter.unusedSimpArgs false
set_option linter.unusedVariables false
theorem impl_fees (l n f : Int) : impl_ValidFees.f l n f = some (feesB l n f) := by
  unfold impl_ValidFees.f feesB inB
  by_cases h1 : 0 ≤ l <;> by_cases h2 : l ≤ 1000 <;> by_cases h3 : 0 ≤ n <;> by_cases h4 : n ≤ 1000 <;> by_cases h5 : f = 0 <;> by_cases h6 : 2 ≤ f <;> simp [h1, h2, h3, h4, h5, h6]
theorem FnExactValidFees : ∀ (a0_0 a0_1 a0_2 : Int), (Lit.int .i16 a0_0).wf = true → (Lit.int .i16 a0_1).wf = true → (Lit.int .i8 a0_2).wf = true → laws_FnExactValidFees.f a0_0 a0_1 a0_2 = some true := by
  intro a b c ha hb hc
  unfold laws_FnExactValidFees.f laws_toFees.f spec_ValidFees.f
  simp [impl_fees, feesOk, i16_wf ha, i16_wf hb, i8_wf hc]
end Go.Proofs.Ytnpaoeemgglaaaa.G.Pure
