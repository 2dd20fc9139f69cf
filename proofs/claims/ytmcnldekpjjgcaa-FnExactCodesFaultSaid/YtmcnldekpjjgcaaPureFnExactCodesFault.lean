/- The plain law: what the walk computes answers as the statement says. -/
import Derived.Test.YtmcnldekpjjgcaaPCodesFaultx1
namespace Go.Proofs.Ytmcnldekpjjgcaa.Pure
open Go.RowKit Go.Proofs.Ytmcnldekpjjgcaa.PCodesFault Go.Proofs.YtmcnldekpjjgcaaW.PrintWords Go.Proofs.YtmcnldekpjjgcaaW.PrintLast
set_option linter.unusedSimpArgs false
set_option linter.unusedVariables false
theorem rd_at (l : List Int) (i : Nat) (h : i < l.length) : rd l (i : Int) = l[i] := by
  simp [rd, List.getD_eq_getElem?_getD, h]
theorem wrap64_in {n : Int} (h : -9223372036854775808 ≤ n ∧ n ≤ 9223372036854775807) : wrap64 n = n := by
  unfold wrap64; omega
theorem maxLen_le : maxLen ≤ 9223372036854775807 := by unfold maxLen; decide
theorem laws_toInt64S.l0_eq (x0 : List Int) (hb : x0.length ≤ maxLen) : ∀ (n k i : Nat), x0.length = i + n → n < k → laws_toInt64S.l0 k x0 (x0.take i ++ List.replicate n 0) (i : Int) = some x0
  | 0, 0, _, _, h => absurd h (by omega)
  | 0, k + 1, i, hi, _ => by
    have h1 : ¬ ((i : Int) < (x0.length : Int)) := by omega
    simp only [laws_toInt64S.l0, if_neg h1, List.replicate_zero, List.append_nil]
    rw [List.take_of_length_le (by omega)]
  | n + 1, 0, _, _, h => absurd h (by omega)
  | n + 1, k + 1, i, hi, h => by
    have hm := maxLen_le
    have h1 : (i : Int) < (x0.length : Int) := by omega
    have h2 : (0 : Int) ≤ (i : Int) := by omega
    have h3 : (i : Int) < ((x0.take i ++ List.replicate (n + 1) (0 : Int)).length : Int) := by simp; omega
    have h4 : wrap64 ((i : Int) + 1) = ((i + 1 : Nat) : Int) := by rw [wrap64_in (by omega)]; omega
    simp only [laws_toInt64S.l0]
    rw [if_pos h1, if_pos h2, if_pos h3, h4]
    rw [← laws_toInt64S.l0_eq x0 hb n k (i + 1) (by omega) (by omega)]
    congr 1
    rw [rd_at x0 i (by omega), Int.toNat_natCast, List.set_append_right _ _ (by simp; omega)]
    have h5 : i - (x0.take i).length = 0 := by simp; omega
    rw [h5, List.take_succ_eq_append_getElem (by omega), List.append_assoc, List.replicate_succ, List.set_cons_zero]
    rfl
theorem laws_toInt64S_eq (l : List Int) (k : Nat) (hb : l.length ≤ maxLen) (hb2 : l.length ≤ 1048576) (hk : l.length < k) : laws_toInt64S.f k l = some l := by
  unfold laws_toInt64S.f
  have h1 : (0 : Int) ≤ (l.length : Int) := by omega
  rw [if_pos h1, Int.toNat_natCast, if_pos (by omega)]
  exact laws_toInt64S.l0_eq l hb l.length k 0 (by omega) hk
theorem laws_eqInt64S.l0_eq (x0 : List Int) (hb : x0.length ≤ maxLen) : ∀ (n k i : Nat), x0.length = i + n → n < k → laws_eqInt64S.l0 k x0 x0 (i : Int) = some true
  | 0, 0, _, _, h => absurd h (by omega)
  | 0, k + 1, i, hi, _ => by
    have h1 : ¬ ((i : Int) < (x0.length : Int)) := by omega
    simp only [laws_eqInt64S.l0, if_neg h1]
  | n + 1, 0, _, _, h => absurd h (by omega)
  | n + 1, k + 1, i, hi, h => by
    have hm := maxLen_le
    have h1 : (i : Int) < (x0.length : Int) := by omega
    have h2 : (0 : Int) ≤ (i : Int) := by omega
    have h4 : wrap64 ((i : Int) + 1) = ((i + 1 : Nat) : Int) := by rw [wrap64_in (by omega)]; omega
    unfold laws_eqInt64S.l0
    rw [if_pos h1, if_pos h2, if_pos h1]
    rw [if_pos rfl, h4]
    exact laws_eqInt64S.l0_eq x0 hb n k (i + 1) (by omega) (by omega)
theorem laws_eqInt64S_eq (l : List Int) (k : Nat) (hb : l.length ≤ maxLen) (hk : l.length < k) : laws_eqInt64S.f k l l = some true := by
  unfold laws_eqInt64S.f
  rw [if_pos rfl]
  exact laws_eqInt64S.l0_eq l hb l.length k 0 (by omega) hk
theorem in_eq (a b c : Int) : spec_l1In.f a b c = some (decide (b ≤ a ∧ a ≤ c)) := by
  unfold spec_l1In.f; by_cases h : a ≥ b <;> simp [h] <;> omega
def charB (c : Int) : Bool := decide (0 ≤ c ∧ c ≤ 55295) || decide (57344 ≤ c ∧ c ≤ 65535)
theorem charB_iff (c : Int) : charB c = true ↔ (0 ≤ c ∧ c ≤ 55295) ∨ (57344 ≤ c ∧ c ≤ 65535) := by
  simp [charB]
theorem spec_l2Char_eq (c : Int) : spec_l2Char.f c = some (charB c) := by
  simp only [spec_l2Char.f, in_eq, Option.bind_some, charB]
  generalize decide (0 ≤ c ∧ c ≤ 55295) = x
  cases x <;> simp
theorem spec_l2Fault.l0_eq (x0 : List Int) (hb : x0.length ≤ maxLen) : ∀ (n k i : Nat), x0.length = i + n → n < k → spec_l2Fault.l0 k x0 (i : Int) = some (if (x0.drop i).all charB = true then 0 else 3)
  | 0, 0, _, _, h => absurd h (by omega)
  | 0, k + 1, i, hi, _ => by
    have h1 : ¬ ((i : Int) < (x0.length : Int)) := by omega
    unfold spec_l2Fault.l0
    rw [if_neg h1, List.drop_eq_nil_of_le (by omega)]
    rfl
  | n + 1, 0, _, _, h => absurd h (by omega)
  | n + 1, k + 1, i, hi, h => by
    have hm := maxLen_le
    have h1 : (i : Int) < (x0.length : Int) := by omega
    have h2 : (0 : Int) ≤ (i : Int) := by omega
    have h4 : wrap64 ((i : Int) + 1) = ((i + 1 : Nat) : Int) := by rw [wrap64_in (by omega)]; omega
    unfold spec_l2Fault.l0
    rw [if_pos h1, if_pos h2, h4, rd_at x0 i (by omega), List.drop_eq_getElem_cons (by omega), List.all_cons, spec_l2Fault.l0_eq x0 hb n k (i + 1) (by omega) (by omega), spec_l2Char_eq, Option.bind_some]
    cases charB x0[i] <;> rfl
theorem spec_l2Fault_eq (l : List Int) (k : Nat) (hb : l.length ≤ maxLen) (hk : l.length < k) : spec_l2Fault.f k l = some (if 400 < l.length then 2 else if l.all charB = true then 0 else 3) := by
  unfold spec_l2Fault.f
  by_cases h : 400 < l.length
  · rw [if_pos (by omega), if_pos h]
  · rw [if_neg (by omega), if_neg h]
    have := spec_l2Fault.l0_eq l hb l.length k 0 (by omega) hk
    simpa using this
theorem CodesFault_p_eq (c : Int) : impl_CodesFault.p c = !charB c := by
  unfold impl_CodesFault.p charB
  rw [Bool.eq_iff_iff]; simp only [Bool.and_eq_true, Bool.or_eq_true, Bool.not_eq_true', decide_eq_true_eq, decide_eq_false_iff_not, Bool.and_eq_false_iff, Bool.not_eq_false', Bool.or_eq_false_iff]; omega
theorem CodesFault_any (l : List Int) : l.any impl_CodesFault.p = !(l.all charB) := by
  induction l with
  | nil => rfl
  | cons x xs ih => rw [List.any_cons, List.all_cons, ih, CodesFault_p_eq, Bool.not_and]
theorem impl_CodesFault_eq (l : List Int) : impl_CodesFault.f l = some (if 400 < l.length then 2 else if l.all charB = true then 0 else 3) := by
  unfold impl_CodesFault.f
  rw [CodesFault_any]
  by_cases h : 400 < l.length
  · rw [if_pos h, if_pos h]
  · rw [if_neg h, if_neg h]
    cases l.all charB <;> rfl
theorem FnExactCodesFault : laws_FnExactCodesFault.Pure := by
  intro l hb hb2 hw
  refine ⟨l.length + 1, ?_⟩
  unfold laws_FnExactCodesFault.f
  by_cases hl : (l.length : Int) > 1048576
  · rw [if_pos hl]
  · rw [if_neg hl]
    have e1 := laws_toInt64S_eq l (l.length + 1) hb (by omega) (by omega)
    have e2 := laws_eqInt64S_eq l (l.length + 1) hb (by omega)
    have e3 := spec_l2Fault_eq l (l.length + 1) hb (by omega)
    simp [e1, e2, e3, spec_CodesFault.f, impl_CodesFault_eq]

end Go.Proofs.Ytmcnldekpjjgcaa.Pure
