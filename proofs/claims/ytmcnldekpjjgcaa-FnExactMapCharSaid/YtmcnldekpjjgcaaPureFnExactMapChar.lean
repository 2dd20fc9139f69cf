/- MapChar of the program answers as the reference's, at all int64s; no condition. -/
import Derived.Test.YtmcnldekpjjgcaaPFnExactMapCharx2
namespace Go.Proofs.Ytmcnldekpjjgcaa.Pure
open Go.RowKit Go.Proofs.Ytmcnldekpjjgcaa.PFnExactMapChar Go.Proofs.YtmcnldekpjjgcaaW.PrintWords Go.Proofs.YtmcnldekpjjgcaaW.PrintLast
set_option linter.unusedSimpArgs false
set_option linter.unusedVariables false
theorem in_eq (a b c : Int) : spec_l1In.f a b c = some (decide (b ≤ a ∧ a ≤ c)) := by
  unfold spec_l1In.f; by_cases h : a ≥ b <;> simp [h] <;> omega
theorem within_eq (a b c : Int) : impl_within.f a b c = some (decide (b ≤ a ∧ a ≤ c)) := by
  unfold impl_within.f; by_cases h : a ≥ b <;> simp [h] <;> omega
theorem char_eq (a c : Int) (h : 1 ≤ a ∧ a ≤ 3) : impl_mapped.f 3 a c = spec_l3Char.f 3 a c := by
  simp only [impl_mapped.f, impl_mapped.j0, spec_l3Char.f, spec_l3Char.j0, spec_l3Char.j1, in_eq, within_eq, Option.bind_some]
  have : a = 1 ∨ a = 2 ∨ a = 3 := by omega
  generalize decide (97 ≤ c ∧ c ≤ 122) = p1
  generalize decide (224 ≤ c ∧ c ≤ 254) = p2
  generalize decide (945 ≤ c ∧ c ≤ 969) = p3
  generalize decide (1072 ≤ c ∧ c ≤ 1103) = p4
  generalize decide (1104 ≤ c ∧ c ≤ 1119) = p5
  rcases this with rfl | rfl | rfl <;> cases p1 <;> simp <;> cases p2 <;> simp <;> cases p3 <;> cases p4 <;> simp
theorem char_some (a c : Int) : ∃ v, spec_l3Char.f 3 a c = some v := by
  simp only [spec_l3Char.f, spec_l3Char.j0, spec_l3Char.j1, in_eq, Option.bind_some]
  repeat' split
  all_goals exact ⟨_, rfl⟩
theorem FnExactMapChar : laws_FnExactMapChar.Pure := by
  intro a c _ _
  refine ⟨3, ?_⟩
  obtain ⟨v, hv⟩ := char_some a c
  simp only [laws_FnExactMapChar.f, spec_MapChar.f, impl_MapChar.f, spec_l3Cmp.f, spec_l2Char.f, impl_isChar.f, impl_isComparator.f, in_eq, within_eq, Option.bind_some]
  by_cases hs : 1 ≤ a ∧ a ≤ 3
  · rw [char_eq a c hs, hv]
    have hr : (decide (0 ≤ c ∧ c ≤ 65535) && !decide (55296 ≤ c ∧ c ≤ 57343)) = (decide (0 ≤ c ∧ c ≤ 55295) || decide (57344 ≤ c ∧ c ≤ 65535)) := by
      rw [Bool.eq_iff_iff]; simp only [Bool.and_eq_true, Bool.or_eq_true, Bool.not_eq_true', decide_eq_true_eq, decide_eq_false_iff_not]; omega
    generalize decide (0 ≤ c ∧ c ≤ 55295) = x at *
    generalize decide (57344 ≤ c ∧ c ≤ 65535) = y at *
    generalize decide (0 ≤ c ∧ c ≤ 65535) = u at *
    generalize decide (55296 ≤ c ∧ c ≤ 57343) = v at *
    rw [decide_eq_true hs]
    cases x <;> cases y <;> cases u <;> cases v <;> simp_all [laws_eqIntResult.f]
  · rw [decide_eq_false hs]
    simp [laws_eqIntResult.f]

end Go.Proofs.Ytmcnldekpjjgcaa.Pure
