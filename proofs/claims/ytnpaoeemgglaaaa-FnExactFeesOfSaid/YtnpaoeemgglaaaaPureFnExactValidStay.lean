/- ValidStay of the program and of the reference answer alike: the plain statement behind the walk. -/
import Derived.Test.YtnpaoeemgglaaaaGF4
import Derived.Test.YtnpaoeemgglaaaaPureLib
namespace Go.Proofs.Ytnpaoeemgglaaaa.G.Pure
open Go.RowKit M PL
set_option linter.unusedSimpArgs false
set_option linter.unusedVariables false
theorem impl_stay (f n l : Int) : impl_ValidStay.f f n l = some (stayB f n l) := by
  unfold impl_ValidStay.f stayB inB
  by_cases h1 : 0 ≤ f <;> by_cases h2 : f ≤ 1000 <;> by_cases h3 : 1 ≤ n <;> by_cases h4 : n ≤ 100 <;> by_cases h5 : 1 ≤ l <;> simp [h1, h2, h3, h4, h5]
theorem FnExactValidStay : ∀ (a0_0 a0_1 a0_2 : Int), (Lit.int .i16 a0_0).wf = true → (Lit.int .i16 a0_1).wf = true → (Lit.int .i16 a0_2).wf = true → laws_FnExactValidStay.f a0_0 a0_1 a0_2 = some true := by
  intro a b c ha hb hc
  unfold laws_FnExactValidStay.f laws_toStay.f spec_ValidStay.f
  simp [impl_stay, stayOk, i16_wf ha, i16_wf hb, i16_wf hc]
end Go.Proofs.Ytnpaoeemgglaaaa.G.Pure
