/- ValidGrounds of the program and of the reference answer alike: the plain statement behind the walk. -/
import Derived.Test.YtofpjfbkbmpnnaaGF3
namespace Go.Proofs.Ytofpjfbkbmpnnaa.G.Pure
set_option linter.unusedVariables false
theorem FnExactValidGrounds : ∀ (o0 : O26) (o1 : O28), laws_FnExactValidGrounds.f o0 o1 = some true := by
  intro o0 o1
  unfold laws_FnExactValidGrounds.f laws_toBay.f laws_toGrounds.f spec_ValidGrounds.f spec_l07Grounds.f impl_ValidGrounds.f
  simp
end Go.Proofs.Ytofpjfbkbmpnnaa.G.Pure
