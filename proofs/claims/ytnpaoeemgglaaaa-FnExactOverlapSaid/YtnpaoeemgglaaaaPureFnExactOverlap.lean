/- Overlap of the program and of the reference answer alike: the plain statement behind the walk. -/
import Derived.Test.YtnpaoeemgglaaaaGF5
import Derived.Test.YtnpaoeemgglaaaaPureFnExactValidStay
namespace Go.Proofs.Ytnpaoeemgglaaaa.G.Pure
open Go.RowKit M PL
set_option linter.unusedSimpArgs false
set_option linter.unusedVariables false
theorem wrap16 {x : Int} (h0 : -32768 ≤ x) (h1 : x ≤ 32767) : IntKind.i16.wrap x = x := by
  rw [show IntKind.i16.wrap x = (x + 32768) % 65536 - 32768 by simp [IntKind.wrap, IntKind.signed, IntKind.bits]; omega]; omega
theorem impl_over (f n l f' n' l' : Int) (h : stayB f n l = true) (h' : stayB f' n' l' = true) : impl_overlap.f f n l f' n' l' = some (overB f n f' n') := by
  have b := stayB_bounds h
  have b' := stayB_bounds h'
  unfold impl_overlap.f overB
  rw [wrap16 (by omega) (by omega), wrap16 (by omega) (by omega)]
  by_cases h1 : f < f' + n' <;> simp [h1]
theorem FnExactOverlap : ∀ (a0_0 a0_1 a0_2 : Int) (a1_0 a1_1 a1_2 : Int), (Lit.int .i16 a0_0).wf = true → (Lit.int .i16 a0_1).wf = true → (Lit.int .i16 a0_2).wf = true → (Lit.int .i16 a1_0).wf = true → (Lit.int .i16 a1_1).wf = true → (Lit.int .i16 a1_2).wf = true → laws_FnExactOverlap.f a0_0 a0_1 a0_2 a1_0 a1_1 a1_2 = some true := by
  intro a b c a' b' c' ha hb hc ha' hb' hc'
  unfold laws_FnExactOverlap.f laws_toStay.f spec_Overlap.f impl_Overlap.f
  cases h : stayB a b c
  · simp [impl_stay, stayOk, i16_wf ha, i16_wf hb, i16_wf hc, i16_wf ha', i16_wf hb', i16_wf hc', overlapV, h]
  · cases h' : stayB a' b' c'
    · simp [impl_stay, stayOk, i16_wf ha, i16_wf hb, i16_wf hc, i16_wf ha', i16_wf hb', i16_wf hc', overlapV, h, h']
    · simp [impl_stay, stayOk, i16_wf ha, i16_wf hb, i16_wf hc, i16_wf ha', i16_wf hb', i16_wf hc', overlapV, h, h', impl_over _ _ _ _ _ _ h h']
end Go.Proofs.Ytnpaoeemgglaaaa.G.Pure
