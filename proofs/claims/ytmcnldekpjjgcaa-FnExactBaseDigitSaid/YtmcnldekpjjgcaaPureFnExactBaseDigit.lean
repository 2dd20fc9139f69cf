/- BaseDigit of the program answers as the reference's, at every int64; no condition. -/
import Derived.Test.YtmcnldekpjjgcaaPFnExactBaseDigitx1
namespace Go.Proofs.Ytmcnldekpjjgcaa.Pure
open Go.RowKit Go.Proofs.Ytmcnldekpjjgcaa.PFnExactBaseDigit Go.Proofs.YtmcnldekpjjgcaaW.PrintWords Go.Proofs.YtmcnldekpjjgcaaW.PrintLast
set_option linter.unusedSimpArgs false
set_option linter.unusedVariables false
theorem FnExactBaseDigit : laws_FnExactBaseDigit.Pure := by
  intro a w
  unfold laws_FnExactBaseDigit.f spec_BaseDigit.f impl_BaseDigit.f spec_l1In.f impl_within.f spec_l1Base.f laws_eqIntResult.f
  by_cases h0 : 0 ≤ a
  · by_cases h1 : a ≤ 63
    · have h2 : a < 64 := by omega
      simp [h0, h1, h2]
    · simp [h0, h1]
  · simp [h0]

end Go.Proofs.Ytmcnldekpjjgcaa.Pure
