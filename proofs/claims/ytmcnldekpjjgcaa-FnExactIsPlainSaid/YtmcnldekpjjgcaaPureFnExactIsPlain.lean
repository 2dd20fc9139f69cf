/- The plain law: what the walk computes answers as the statement says. -/
import Derived.Test.YtmcnldekpjjgcaaPIsPlainx1
namespace Go.Proofs.Ytmcnldekpjjgcaa.Pure
open Go.RowKit Go.Proofs.Ytmcnldekpjjgcaa.PIsPlain Go.Proofs.YtmcnldekpjjgcaaW.PrintWords Go.Proofs.YtmcnldekpjjgcaaW.PrintLast
set_option linter.unusedSimpArgs false
set_option linter.unusedVariables false
theorem rd_at (l : List Int) (i : Nat) (h : i < l.length) : rd l (i : Int) = l[i] := by
  simp [rd, List.getD_eq_getElem?_getD, h]
theorem wrap64_in {n : Int} (h : -9223372036854775808 ≤ n ∧ n ≤ 9223372036854775807) : wrap64 n = n := by
  unfold wrap64; omega
theorem maxLen_le : maxLen ≤ 9223372036854775807 := by unfold maxLen; decide
theorem laws_toByteS.l0_eq (x0 : List Int) (hb : x0.length ≤ maxLen) : ∀ (n k i : Nat), x0.length = i + n → n < k → laws_toByteS.l0 k x0 (x0.take i ++ List.replicate n 0) (i : Int) = some x0
  | 0, 0, _, _, h => absurd h (by omega)
  | 0, k + 1, i, hi, _ => by
    have h1 : ¬ ((i : Int) < (x0.length : Int)) := by omega
    simp only [laws_toByteS.l0, if_neg h1, List.replicate_zero, List.append_nil]
    rw [List.take_of_length_le (by omega)]
  | n + 1, 0, _, _, h => absurd h (by omega)
  | n + 1, k + 1, i, hi, h => by
    have hm := maxLen_le
    have h1 : (i : Int) < (x0.length : Int) := by omega
    have h2 : (0 : Int) ≤ (i : Int) := by omega
    have h3 : (i : Int) < ((x0.take i ++ List.replicate (n + 1) (0 : Int)).length : Int) := by simp; omega
    have h4 : wrap64 ((i : Int) + 1) = ((i + 1 : Nat) : Int) := by rw [wrap64_in (by omega)]; omega
    simp only [laws_toByteS.l0]
    rw [if_pos h1, if_pos h2, if_pos h3, h4]
    rw [← laws_toByteS.l0_eq x0 hb n k (i + 1) (by omega) (by omega)]
    congr 1
    rw [rd_at x0 i (by omega), Int.toNat_natCast, List.set_append_right _ _ (by simp; omega)]
    have h5 : i - (x0.take i).length = 0 := by simp; omega
    rw [h5, List.take_succ_eq_append_getElem (by omega), List.append_assoc, List.replicate_succ, List.set_cons_zero]
    rfl
theorem laws_toByteS_eq (l : List Int) (k : Nat) (hb : l.length ≤ maxLen) (hb2 : l.length ≤ 140737488351232) (hk : l.length < k) : laws_toByteS.f k l = some l := by
  unfold laws_toByteS.f
  have h1 : (0 : Int) ≤ (l.length : Int) := by omega
  have h2 : ((l.length : Int)).toNat ≤ 281474976710656 := by omega
  rw [if_pos h1, if_pos h2, Int.toNat_natCast]
  exact laws_toByteS.l0_eq l hb l.length k 0 (by omega) hk
theorem laws_eqByteS.l0_eq (x0 : List Int) (hb : x0.length ≤ maxLen) : ∀ (n k i : Nat), x0.length = i + n → n < k → laws_eqByteS.l0 k x0 x0 (i : Int) = some true
  | 0, 0, _, _, h => absurd h (by omega)
  | 0, k + 1, i, hi, _ => by
    have h1 : ¬ ((i : Int) < (x0.length : Int)) := by omega
    simp only [laws_eqByteS.l0, if_neg h1]
  | n + 1, 0, _, _, h => absurd h (by omega)
  | n + 1, k + 1, i, hi, h => by
    have hm := maxLen_le
    have h1 : (i : Int) < (x0.length : Int) := by omega
    have h2 : (0 : Int) ≤ (i : Int) := by omega
    have h4 : wrap64 ((i : Int) + 1) = ((i + 1 : Nat) : Int) := by rw [wrap64_in (by omega)]; omega
    unfold laws_eqByteS.l0
    rw [if_pos h1, if_pos h2, if_pos h1]
    rw [if_pos rfl, h4]
    exact laws_eqByteS.l0_eq x0 hb n k (i + 1) (by omega) (by omega)
theorem laws_eqByteS_eq (l : List Int) (k : Nat) (hb : l.length ≤ maxLen) (hk : l.length < k) : laws_eqByteS.f k l l = some true := by
  unfold laws_eqByteS.f
  rw [if_pos rfl]
  exact laws_eqByteS.l0_eq l hb l.length k 0 (by omega) hk
def plainB (x : Int) : Bool := decide (1 ≤ x) && decide (x ≤ 127)
theorem spec_l1Plain.l0_eq (x0 : List Int) (hb : x0.length ≤ maxLen) : ∀ (n k i : Nat), x0.length = i + n → n < k → spec_l1Plain.l0 k x0 (i : Int) = some ((x0.drop i).all plainB)
  | 0, 0, _, _, h => absurd h (by omega)
  | 0, k + 1, i, hi, _ => by
    have h1 : ¬ ((i : Int) < (x0.length : Int)) := by omega
    simp only [spec_l1Plain.l0, if_neg h1]
    rw [List.drop_eq_nil_of_le (by omega)]
    rfl
  | n + 1, 0, _, _, h => absurd h (by omega)
  | n + 1, k + 1, i, hi, h => by
    have hm := maxLen_le
    have h1 : (i : Int) < (x0.length : Int) := by omega
    have h2 : (0 : Int) ≤ (i : Int) := by omega
    have h4 : wrap64 ((i : Int) + 1) = ((i + 1 : Nat) : Int) := by rw [wrap64_in (by omega)]; omega
    simp only [spec_l1Plain.l0]
    rw [if_pos h1, if_pos h2, h4, rd_at x0 i (by omega), List.drop_eq_getElem_cons (by omega), List.all_cons, spec_l1Plain.l0_eq x0 hb n k (i + 1) (by omega) (by omega)]
    generalize x0[i] = y
    unfold plainB
    by_cases h5 : y < 1
    · rw [if_pos h5, decide_eq_false (by omega : ¬ 1 ≤ y)]; rfl
    · rw [if_neg h5, decide_eq_true (by omega : 1 ≤ y)]
      by_cases h6 : y > 127
      · rw [if_pos h6, decide_eq_false (by omega : ¬ y ≤ 127)]; rfl
      · rw [if_neg h6, decide_eq_true (by omega : y ≤ 127)]; rfl
theorem spec_l1Plain_eq (l : List Int) (k : Nat) (hb : l.length ≤ maxLen) (hk : l.length < k) : spec_l1Plain.f k l = some (l.all plainB) := by
  unfold spec_l1Plain.f
  have := spec_l1Plain.l0_eq l hb l.length k 0 (by omega) hk
  simpa using this
theorem any_all (l : List Int) : (!(l.any impl_IsPlain.p)) = l.all plainB := by
  induction l with
  | nil => rfl
  | cons x xs ih =>
    rw [List.any_cons, List.all_cons, Bool.not_or, ih]
    congr 1
    unfold impl_IsPlain.p plainB
    rw [Bool.eq_iff_iff]
    simp only [Bool.not_eq_true', Bool.or_eq_false_iff, decide_eq_false_iff_not, Bool.and_eq_true, decide_eq_true_eq]
    omega
theorem FnExactIsPlain : laws_FnExactIsPlain.Pure := by
  intro l hb hb2 hw
  have e1 := laws_toByteS_eq l (l.length + 1) hb (by omega) (by omega)
  have e2 := laws_eqByteS_eq l (l.length + 1) hb (by omega)
  have e3 := spec_l1Plain_eq l (l.length + 1) hb (by omega)
  refine ⟨l.length + 1, ?_⟩
  unfold laws_FnExactIsPlain.f
  by_cases hl : (l.length : Int) > 1048576
  · rw [if_pos hl]
  · rw [if_neg hl]
    simp [e1, e2, e3, spec_IsPlain.f, impl_IsPlain.f, any_all]

end Go.Proofs.Ytmcnldekpjjgcaa.Pure
