/- ComparatorOf of the program answers as the reference's, at every string of any length; no condition. -/
import Derived.Test.YtmcnldekpjjgcaaPFnExactComparatorOfx1
namespace Go.Proofs.Ytmcnldekpjjgcaa.Pure
open Go.RowKit Go.Proofs.Ytmcnldekpjjgcaa.PFnExactComparatorOf Go.Proofs.YtmcnldekpjjgcaaW.PrintWords Go.Proofs.YtmcnldekpjjgcaaW.PrintLast
set_option linter.unusedSimpArgs false
set_option linter.unusedVariables false
theorem FnExactComparatorOf : laws_FnExactComparatorOf.Pure := by
  intro s hs
  refine ⟨4, ?_⟩
  by_cases h0 : (s.size : Int) > 1048576
  · simp [laws_FnExactComparatorOf.f, h0]
  simp only [laws_FnExactComparatorOf.f, h0, if_false]
  have n1 : spec_l3Name.f 1 = some (⟨#[105, 59, 111, 99, 116, 101, 116]⟩ : ByteArray) := by rfl
  have n2 : spec_l3Name.f 2 = some (⟨#[105, 59, 97, 115, 99, 105, 105, 45, 99, 97, 115, 101, 109, 97, 112]⟩ : ByteArray) := by rfl
  have n3 : spec_l3Name.f 3 = some (⟨#[105, 59, 117, 110, 105, 99, 111, 100, 101, 45, 99, 97, 115, 101, 109, 97, 112]⟩ : ByteArray) := by rfl
  simp only [impl_ComparatorOf.f]
  generalize (⟨#[105, 59, 111, 99, 116, 101, 116]⟩ : ByteArray) = A at *
  generalize (⟨#[105, 59, 97, 115, 99, 105, 105, 45, 99, 97, 115, 101, 109, 97, 112]⟩ : ByteArray) = B at *
  generalize (⟨#[105, 59, 117, 110, 105, 99, 111, 100, 101, 45, 99, 97, 115, 101, 109, 97, 112]⟩ : ByteArray) = C at *
  have l0 : rdOf ByteArray.empty [A, B, C] 0 = A := rfl
  have l1 : rdOf ByteArray.empty [A, B, C] 1 = B := rfl
  have l2 : rdOf ByteArray.empty [A, B, C] 2 = C := rfl
  have w1 : wrap64 1 = 1 := by decide +kernel
  have w2 : wrap64 2 = 2 := by decide +kernel
  have w3 : wrap64 3 = 3 := by decide +kernel
  have w4 : wrap64 4 = 4 := by decide +kernel
  by_cases e1 : A.toList = s.toList
  · simp [spec_ComparatorOf.f, spec_ComparatorOf.l0, slices_Index_string_string.f, slices_Index_string_string.l0, laws_eqIntResult.f, n1, n2, n3, l0, l1, l2, w1, w2, w3, w4, e1]
  · have f1 : ¬ (s.toList = A.toList) := fun h => e1 h.symm
    by_cases e2 : B.toList = s.toList
    · simp [spec_ComparatorOf.f, spec_ComparatorOf.l0, slices_Index_string_string.f, slices_Index_string_string.l0, laws_eqIntResult.f, n1, n2, n3, l0, l1, l2, w1, w2, w3, w4, e1, e2, f1]
    · have f2 : ¬ (s.toList = B.toList) := fun h => e2 h.symm
      by_cases e3 : C.toList = s.toList
      · simp [spec_ComparatorOf.f, spec_ComparatorOf.l0, slices_Index_string_string.f, slices_Index_string_string.l0, laws_eqIntResult.f, n1, n2, n3, l0, l1, l2, w1, w2, w3, w4, e1, e2, e3, f1, f2]
      · have f3 : ¬ (s.toList = C.toList) := fun h => e3 h.symm
        simp [spec_ComparatorOf.f, spec_ComparatorOf.l0, slices_Index_string_string.f, slices_Index_string_string.l0, laws_eqIntResult.f, n1, n2, n3, l0, l1, l2, w1, w2, w3, w4, e1, e2, e3, f1, f2, f3]

end Go.Proofs.Ytmcnldekpjjgcaa.Pure
