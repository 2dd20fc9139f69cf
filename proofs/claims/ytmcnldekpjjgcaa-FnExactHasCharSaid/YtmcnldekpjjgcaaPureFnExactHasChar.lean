/- HasChar of the program answers as the reference's, at all int64s; no condition. -/
import Derived.Test.YtmcnldekpjjgcaaPFnExactHasCharx1
namespace Go.Proofs.Ytmcnldekpjjgcaa.Pure
open Go.RowKit Go.Proofs.Ytmcnldekpjjgcaa.PFnExactHasChar Go.Proofs.YtmcnldekpjjgcaaW.PrintWords Go.Proofs.YtmcnldekpjjgcaaW.PrintLast
set_option linter.unusedSimpArgs false
set_option linter.unusedVariables false
theorem in_eq (a b c : Int) : spec_l1In.f a b c = some (decide (b ≤ a ∧ a ≤ c)) := by
  unfold spec_l1In.f; by_cases h : a ≥ b <;> simp [h] <;> omega
theorem within_eq (a b c : Int) : impl_within.f a b c = some (decide (b ≤ a ∧ a ≤ c)) := by
  unfold impl_within.f; by_cases h : a ≥ b <;> simp [h] <;> omega
def Cyr (c : Int) : Prop := (0 ≤ c ∧ c ≤ 160) ∨ c = 173 ∨ c = 167 ∨ c = 8470 ∨ ((1025 ≤ c ∧ c ≤ 1119) ∧ c ≠ 1037 ∧ c ≠ 1104 ∧ c ≠ 1117)
instance (c : Int) : Decidable (Cyr c) := by unfold Cyr; infer_instance
theorem cyr (k : Nat) (c : Int) : ∃ v, spec_l2Cyrillic.f (k + 1) c = some v ∧ (v ≥ 0 ↔ Cyr c) := by
  simp only [spec_l2Cyrillic.f, spec_l2Cyrillic.j0, in_eq, Option.bind_some, decide_eq_true_eq, beq_iff_eq, if_true]
  unfold wrap64 Cyr
  repeat' split
  all_goals (refine ⟨_, rfl, ?_⟩; omega)
theorem hasE (k : Nat) (a c : Int) : spec_l2Has.f (k + 1) a c = some (if a = 1 then decide (0 ≤ c ∧ c ≤ 127) else if a = 2 then decide (0 ≤ c ∧ c ≤ 255) else if a = 3 then decide (Cyr c) else true) := by
  obtain ⟨v, hv, hp⟩ := cyr k c
  simp only [spec_l2Has.f, in_eq, hv, Option.bind_some]
  repeat' split
  all_goals simp [hp]
theorem impE (k : Nat) (a c : Int) (h0 : 0 ≤ c) : impl_HasChar.j0 (k + 1) a c false = some (if a = 1 then decide (0 ≤ c ∧ c ≤ 127) else if a = 2 then decide (0 ≤ c ∧ c ≤ 255) else if a = 3 then decide (Cyr c) else true) := by
  simp only [impl_HasChar.j0, within_eq, Option.bind_some, decide_eq_true_eq, Bool.false_eq_true, if_false]
  by_cases h1 : a = 1
  · simp [h1, h0]
  by_cases h2 : a = 2
  · simp [h2, h0]
  by_cases h3 : a = 3
  · simp only [h1, h2, h3, if_true, if_false]
    simp only [show ¬ ((3 : Int) = 1) by decide, show ¬ ((3 : Int) = 2) by decide, if_false]
    repeat' split
    all_goals (refine congrArg some ?_; rw [Bool.eq_iff_iff]; simp only [decide_eq_true_eq, beq_iff_eq, true_iff]; unfold Cyr; omega)
  · simp [h1, h2, h3]
theorem impT (k : Nat) (a c : Int) : impl_HasChar.j0 (k + 1) a c true = some false := by simp [impl_HasChar.j0]
theorem FnExactHasChar : laws_FnExactHasChar.Pure := by
  intro a c _ wc
  refine ⟨1, ?_⟩
  simp only [laws_FnExactHasChar.f, spec_HasChar.f, impl_HasChar.f, spec_l2Set.f, spec_l2Char.f, impl_isChar.f, impl_isCharset.f, in_eq, within_eq, Option.bind_some, hasE 0, impT 0]
  have hj : decide (0 ≤ c ∧ c ≤ 65535) = true → impl_HasChar.j0 1 a c false = _ := fun h => impE 0 a c (of_decide_eq_true h).1
  have hr : (decide (0 ≤ c ∧ c ≤ 65535) && !decide (55296 ≤ c ∧ c ≤ 57343)) = (decide (0 ≤ c ∧ c ≤ 55295) || decide (57344 ≤ c ∧ c ≤ 65535)) := by
    rw [Bool.eq_iff_iff]; simp only [Bool.and_eq_true, Bool.or_eq_true, Bool.not_eq_true', decide_eq_true_eq, decide_eq_false_iff_not]; omega
  generalize decide (1 ≤ a ∧ a ≤ 5) = s at *
  generalize decide (0 ≤ c ∧ c ≤ 55295) = x at *
  generalize decide (57344 ≤ c ∧ c ≤ 65535) = y at *
  generalize decide (0 ≤ c ∧ c ≤ 65535) = u at *
  generalize decide (55296 ≤ c ∧ c ≤ 57343) = v at *
  cases s <;> cases x <;> cases y <;> cases u <;> cases v <;> simp_all [impT 0]

end Go.Proofs.Ytmcnldekpjjgcaa.Pure
