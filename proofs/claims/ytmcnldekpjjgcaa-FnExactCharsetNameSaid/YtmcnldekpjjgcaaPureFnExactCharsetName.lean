/- CharsetName of the program answers as the reference's, at every int64; no condition. -/
import Derived.Test.YtmcnldekpjjgcaaPFnExactCharsetNamex1
namespace Go.Proofs.Ytmcnldekpjjgcaa.Pure
open Go.RowKit Go.Proofs.Ytmcnldekpjjgcaa.PFnExactCharsetName Go.Proofs.YtmcnldekpjjgcaaW.PrintWords Go.Proofs.YtmcnldekpjjgcaaW.PrintLast
set_option linter.unusedSimpArgs false
set_option linter.unusedVariables false
theorem in_eq (a b c : Int) : spec_l1In.f a b c = some (decide (b ≤ a ∧ a ≤ c)) := by
  unfold spec_l1In.f; by_cases h : a ≥ b <;> simp [h] <;> omega
theorem within_eq (a b c : Int) : impl_within.f a b c = some (decide (b ≤ a ∧ a ≤ c)) := by
  unfold impl_within.f; by_cases h : a ≥ b <;> simp [h] <;> omega
theorem FnExactCharsetName : laws_FnExactCharsetName.Pure := by
  intro a w
  by_cases h : 1 ≤ a ∧ a ≤ 5
  · obtain ⟨h1, h2⟩ := h
    have : a = 1 ∨ a = 2 ∨ a = 3 ∨ a = 4 ∨ a = 5 := by omega
    rcases this with rfl | rfl | rfl | rfl | rfl <;> decide +kernel
  · simp only [laws_FnExactCharsetName.f, spec_CharsetName.f, impl_CharsetName.f, spec_l2Set.f, impl_isCharset.f, in_eq, within_eq, Option.bind_some, h, decide_false]
    simp [laws_eqTextResult.f]

end Go.Proofs.Ytmcnldekpjjgcaa.Pure
