/- The plain law: what the walk computes answers as the statement says. -/
import Derived.Test.YtmcnldekpjjgcaaPCharsetOfx1
namespace Go.Proofs.Ytmcnldekpjjgcaa.Pure
open Go.RowKit Go.Proofs.Ytmcnldekpjjgcaa.PCharsetOf Go.Proofs.YtmcnldekpjjgcaaW.PrintWords Go.Proofs.YtmcnldekpjjgcaaW.PrintLast
set_option linter.unusedSimpArgs false
set_option linter.unusedVariables false
theorem rd_at (l : List Int) (i : Nat) (h : i < l.length) : rd l (i : Int) = l[i] := by
  simp [rd, List.getD_eq_getElem?_getD, h]
theorem wrap64_in {n : Int} (h : -9223372036854775808 ≤ n ∧ n ≤ 9223372036854775807) : wrap64 n = n := by
  unfold wrap64; omega
theorem maxLen_le : maxLen ≤ 9223372036854775807 := by unfold maxLen; decide
def low (b : Int) : Int := if 65 ≤ b ∧ b ≤ 90 then (b + 32) % 256 else b
theorem low_step (L : List Int) (i : Nat) (h : i < L.length) : ((L.take i).map low ++ L.drop i).set i (low L[i]) = (L.take (i + 1)).map low ++ L.drop (i + 1) := by
  rw [List.set_append_right _ _ (by simp; omega)]
  have h5 : i - ((L.take i).map low).length = 0 := by simp; omega
  rw [h5, List.drop_eq_getElem_cons h, List.set_cons_zero, List.take_succ_eq_append_getElem h, List.map_append, List.append_assoc]
  rfl
theorem low_rd (L : List Int) (i : Nat) (h : i < L.length) : rd ((L.take i).map low ++ L.drop i) (i : Int) = L[i] := by
  rw [rd_at _ i (by simp; omega), List.getElem_append_right (by simp; omega)]
  simp only [List.getElem_drop]
  congr 1
  simp; omega
theorem low_same (L : List Int) (i : Nat) (h : i < L.length) (hl : low L[i] = L[i]) : (L.take i).map low ++ L.drop i = (L.take (i + 1)).map low ++ L.drop (i + 1) := by
  rw [← low_step L i h, hl, List.set_append_right _ _ (by simp; omega)]
  have h5 : i - ((L.take i).map low).length = 0 := by simp; omega
  rw [h5, List.drop_eq_getElem_cons h, List.set_cons_zero]
theorem low_len (L : List Int) (i : Nat) : ((L.take i).map low ++ L.drop i).length = L.length := by simp; omega
theorem spec_l2Lower.l0_eq (L : List Int) (hb : L.length ≤ maxLen) : ∀ (n k i : Nat), L.length = i + n → n < k → spec_l2Lower.l0 k ((L.take i).map low ++ L.drop i) (i : Int) = some (strOfNums (L.map low))
  | 0, 0, _, _, h => absurd h (by omega)
  | 0, k + 1, i, hi, _ => by
    have h1 : ¬ ((i : Int) < (((L.take i).map low ++ L.drop i).length : Int)) := by rw [low_len]; omega
    unfold spec_l2Lower.l0
    rw [if_neg h1, List.drop_eq_nil_of_le (by omega), List.take_of_length_le (by omega), List.append_nil]
  | n + 1, 0, _, _, h => absurd h (by omega)
  | n + 1, k + 1, i, hi, h => by
    have hm := maxLen_le
    have h1 : (i : Int) < (((L.take i).map low ++ L.drop i).length : Int) := by rw [low_len]; omega
    have h2 : (0 : Int) ≤ (i : Int) := by omega
    have h4 : wrap64 ((i : Int) + 1) = ((i + 1 : Nat) : Int) := by rw [wrap64_in (by omega)]; omega
    have hlt : i < L.length := by omega
    have ih := spec_l2Lower.l0_eq L hb n k (i + 1) (by omega) (by omega)
    have hs := low_step L i hlt
    have hq := low_same L i hlt
    unfold spec_l2Lower.l0
    rw [if_pos h1, if_pos h2, low_rd L i hlt, h4, Int.toNat_natCast]
    generalize L[i] = y at hs hq
    by_cases h5 : y ≥ 65
    · rw [if_pos h5]
      by_cases h6 : y ≤ 90
      · rw [if_pos h6]
        have h7 : low y = (y + 32) % 256 := by unfold low; rw [if_pos ⟨h5, h6⟩]
        rw [← h7, hs, ih]
      · rw [if_neg h6, hq (by unfold low; rw [if_neg (by omega)]), ih]
    · rw [if_neg h5, hq (by unfold low; rw [if_neg (by omega)]), ih]
theorem bytesOf_len (a : ByteArray) : (bytesOf a).length = a.size := by simp [bytesOf]
theorem spec_l2Lower_eq (a : ByteArray) (k : Nat) (hb : a.size ≤ 1048576) (hk : a.size < k) : spec_l2Lower.f k a = some (strOfNums ((bytesOf a).map low)) := by
  have hl := bytesOf_len a
  unfold spec_l2Lower.f
  rw [if_pos (by omega)]
  have := spec_l2Lower.l0_eq (bytesOf a) (by unfold maxLen; omega) a.size k 0 (by omega) hk
  simpa using this
theorem impl_small.l0_eq (L : List Int) (hb : L.length ≤ maxLen) : ∀ (n k i : Nat), L.length = i + n → n < k → impl_small.l0 k ((L.take i).map low ++ L.drop i) (L.length : Int) (i : Int) = some (strOfNums (L.map low))
  | 0, 0, _, _, h => absurd h (by omega)
  | 0, k + 1, i, hi, _ => by
    have h1 : ¬ ((i : Int) < (L.length : Int)) := by omega
    unfold impl_small.l0
    rw [if_neg h1, List.drop_eq_nil_of_le (by omega), List.take_of_length_le (by omega), List.append_nil]
  | n + 1, 0, _, _, h => absurd h (by omega)
  | n + 1, k + 1, i, hi, h => by
    have hm := maxLen_le
    have h0 : (i : Int) < (L.length : Int) := by omega
    have h1 : (i : Int) < (((L.take i).map low ++ L.drop i).length : Int) := by rw [low_len]; omega
    have h2 : (0 : Int) ≤ (i : Int) := by omega
    have h4 : wrap64 ((i : Int) + 1) = ((i + 1 : Nat) : Int) := by rw [wrap64_in (by omega)]; omega
    have hlt : i < L.length := by omega
    have ih := impl_small.l0_eq L hb n k (i + 1) (by omega) (by omega)
    have hs := low_step L i hlt
    have hq := low_same L i hlt
    unfold impl_small.l0
    rw [if_pos h0, if_pos h2, if_pos h1, low_rd L i hlt, h4, Int.toNat_natCast]
    generalize L[i] = y at hs hq
    by_cases h5 : y ≥ 65
    · rw [if_pos h5]
      by_cases h6 : y ≤ 90
      · rw [if_pos h6]
        have h7 : low y = (y + 32) % 256 := by unfold low; rw [if_pos ⟨h5, h6⟩]
        rw [← h7, hs, ih]
      · rw [if_neg h6, hq (by unfold low; rw [if_neg (by omega)]), ih]
    · rw [if_neg h5, hq (by unfold low; rw [if_neg (by omega)]), ih]
theorem bytesOf_len1 (a : ByteArray) : (bytesOf a).length = a.size := by simp [bytesOf]
theorem impl_small_eq (a : ByteArray) (k : Nat) (hb : a.size ≤ 1048576) (hk : a.size < k) : impl_small.f k a = some (strOfNums ((bytesOf a).map low)) := by
  have hl := bytesOf_len1 a
  unfold impl_small.f
  rw [if_pos (by omega), Option.bind_some]
  have := impl_small.l0_eq (bytesOf a) (by unfold maxLen; omega) a.size k 0 (by omega) hk
  simpa using this
theorem ite_eq_comm {α : Type} [DecidableEq α] {β : Type} (a b : α) (x y : β) : (if a = b then x else y) = if b = a then x else y := by
  by_cases h : a = b
  · rw [if_pos h, if_pos h.symm]
  · rw [if_neg h, if_neg (fun e => h e.symm)]
theorem FnExactCharsetOf : laws_FnExactCharsetOf.Pure := by
  intro a ha
  refine ⟨a.size + 7, ?_⟩
  unfold laws_FnExactCharsetOf.f
  by_cases hl : (a.size : Int) > 1048576
  · rw [if_pos hl]
  · rw [if_neg hl]
    have e1 : ∀ j, 1 ≤ j → spec_l2Lower.f (a.size + j) a = _ := fun j hj => spec_l2Lower_eq a (a.size + j) (by omega) (by omega)
    have e2 : impl_small.f (a.size + 7) a = _ := impl_small_eq a (a.size + 7) (by omega) (by omega)
    have w1 : wrap64 (1 + 1) = 2 := by decide +kernel
    have w2 : wrap64 (2 + 1) = 3 := by decide +kernel
    have w3 : wrap64 (3 + 1) = 4 := by decide +kernel
    have w4 : wrap64 (4 + 1) = 5 := by decide +kernel
    have w5 : wrap64 (5 + 1) = 6 := by decide +kernel
    have w0 : wrap64 (0 + 1) = 1 := by decide +kernel
    generalize strOfNums ((bytesOf a).map low) = s at e1 e2
    have n1 : spec_l2Name.f 1 = some ⟨#[117, 115, 45, 97, 115, 99, 105, 105]⟩ := by rfl
    have n2 : spec_l2Name.f 2 = some ⟨#[105, 115, 111, 45, 56, 56, 53, 57, 45, 49]⟩ := by rfl
    have n3 : spec_l2Name.f 3 = some ⟨#[105, 115, 111, 45, 56, 56, 53, 57, 45, 53]⟩ := by rfl
    have n4 : spec_l2Name.f 4 = some ⟨#[117, 116, 102, 45, 56]⟩ := by rfl
    have n5 : spec_l2Name.f 5 = some ⟨#[117, 116, 102, 45, 49, 54]⟩ := by rfl
    have hs : spec_l2Of.f (a.size + 7) a = some (if (⟨#[117, 115, 45, 97, 115, 99, 105, 105]⟩ : ByteArray).toList = s.toList then 1 else if (⟨#[105, 115, 111, 45, 56, 56, 53, 57, 45, 49]⟩ : ByteArray).toList = s.toList then 2 else if (⟨#[105, 115, 111, 45, 56, 56, 53, 57, 45, 53]⟩ : ByteArray).toList = s.toList then 3 else if (⟨#[117, 116, 102, 45, 56]⟩ : ByteArray).toList = s.toList then 4 else if (⟨#[117, 116, 102, 45, 49, 54]⟩ : ByteArray).toList = s.toList then 5 else 0) := by
      unfold spec_l2Of.f
      unfold spec_l2Of.l0
      rw [if_pos (by decide), n1, Option.bind_some, e1 6 (by omega), Option.bind_some]
      split
      · rfl
      rw [w1]; unfold spec_l2Of.l0
      rw [if_pos (by decide), n2, Option.bind_some, e1 5 (by omega), Option.bind_some]
      split
      · rfl
      rw [w2]; unfold spec_l2Of.l0
      rw [if_pos (by decide), n3, Option.bind_some, e1 4 (by omega), Option.bind_some]
      split
      · rfl
      rw [w3]; unfold spec_l2Of.l0
      rw [if_pos (by decide), n4, Option.bind_some, e1 3 (by omega), Option.bind_some]
      split
      · rfl
      rw [w4]; unfold spec_l2Of.l0
      rw [if_pos (by decide), n5, Option.bind_some, e1 2 (by omega), Option.bind_some]
      split
      · rfl
      rw [w5]; unfold spec_l2Of.l0
      rw [if_neg (by decide)]
    have hx : slices_Index_string_string.f (a.size + 7) [(⟨#[117, 115, 45, 97, 115, 99, 105, 105]⟩ : ByteArray), (⟨#[105, 115, 111, 45, 56, 56, 53, 57, 45, 49]⟩ : ByteArray), (⟨#[105, 115, 111, 45, 56, 56, 53, 57, 45, 53]⟩ : ByteArray), (⟨#[117, 116, 102, 45, 56]⟩ : ByteArray), (⟨#[117, 116, 102, 45, 49, 54]⟩ : ByteArray)] s = some (if (⟨#[117, 115, 45, 97, 115, 99, 105, 105]⟩ : ByteArray).toList = s.toList then 0 else if (⟨#[105, 115, 111, 45, 56, 56, 53, 57, 45, 49]⟩ : ByteArray).toList = s.toList then 1 else if (⟨#[105, 115, 111, 45, 56, 56, 53, 57, 45, 53]⟩ : ByteArray).toList = s.toList then 2 else if (⟨#[117, 116, 102, 45, 56]⟩ : ByteArray).toList = s.toList then 3 else if (⟨#[117, 116, 102, 45, 49, 54]⟩ : ByteArray).toList = s.toList then 4  else -1) := by
      unfold slices_Index_string_string.f
      rw [show (([(⟨#[117, 115, 45, 97, 115, 99, 105, 105]⟩ : ByteArray), (⟨#[105, 115, 111, 45, 56, 56, 53, 57, 45, 49]⟩ : ByteArray), (⟨#[105, 115, 111, 45, 56, 56, 53, 57, 45, 53]⟩ : ByteArray), (⟨#[117, 116, 102, 45, 56]⟩ : ByteArray), (⟨#[117, 116, 102, 45, 49, 54]⟩ : ByteArray)].length : Nat) : Int) = 5 from rfl]
      unfold slices_Index_string_string.l0
      rw [if_pos (by decide), if_pos (by decide), if_pos (by decide), show rdOf ByteArray.empty [(⟨#[117, 115, 45, 97, 115, 99, 105, 105]⟩ : ByteArray), (⟨#[105, 115, 111, 45, 56, 56, 53, 57, 45, 49]⟩ : ByteArray), (⟨#[105, 115, 111, 45, 56, 56, 53, 57, 45, 53]⟩ : ByteArray), (⟨#[117, 116, 102, 45, 56]⟩ : ByteArray), (⟨#[117, 116, 102, 45, 49, 54]⟩ : ByteArray)] 0 = (⟨#[117, 115, 45, 97, 115, 99, 105, 105]⟩ : ByteArray) from rfl, ite_eq_comm s.toList]
      split
      · rfl
      rw [w0]
      unfold slices_Index_string_string.l0
      rw [if_pos (by decide), if_pos (by decide), if_pos (by decide), show rdOf ByteArray.empty [(⟨#[117, 115, 45, 97, 115, 99, 105, 105]⟩ : ByteArray), (⟨#[105, 115, 111, 45, 56, 56, 53, 57, 45, 49]⟩ : ByteArray), (⟨#[105, 115, 111, 45, 56, 56, 53, 57, 45, 53]⟩ : ByteArray), (⟨#[117, 116, 102, 45, 56]⟩ : ByteArray), (⟨#[117, 116, 102, 45, 49, 54]⟩ : ByteArray)] 1 = (⟨#[105, 115, 111, 45, 56, 56, 53, 57, 45, 49]⟩ : ByteArray) from rfl, ite_eq_comm s.toList]
      split
      · rfl
      rw [w1]
      unfold slices_Index_string_string.l0
      rw [if_pos (by decide), if_pos (by decide), if_pos (by decide), show rdOf ByteArray.empty [(⟨#[117, 115, 45, 97, 115, 99, 105, 105]⟩ : ByteArray), (⟨#[105, 115, 111, 45, 56, 56, 53, 57, 45, 49]⟩ : ByteArray), (⟨#[105, 115, 111, 45, 56, 56, 53, 57, 45, 53]⟩ : ByteArray), (⟨#[117, 116, 102, 45, 56]⟩ : ByteArray), (⟨#[117, 116, 102, 45, 49, 54]⟩ : ByteArray)] 2 = (⟨#[105, 115, 111, 45, 56, 56, 53, 57, 45, 53]⟩ : ByteArray) from rfl, ite_eq_comm s.toList]
      split
      · rfl
      rw [w2]
      unfold slices_Index_string_string.l0
      rw [if_pos (by decide), if_pos (by decide), if_pos (by decide), show rdOf ByteArray.empty [(⟨#[117, 115, 45, 97, 115, 99, 105, 105]⟩ : ByteArray), (⟨#[105, 115, 111, 45, 56, 56, 53, 57, 45, 49]⟩ : ByteArray), (⟨#[105, 115, 111, 45, 56, 56, 53, 57, 45, 53]⟩ : ByteArray), (⟨#[117, 116, 102, 45, 56]⟩ : ByteArray), (⟨#[117, 116, 102, 45, 49, 54]⟩ : ByteArray)] 3 = (⟨#[117, 116, 102, 45, 56]⟩ : ByteArray) from rfl, ite_eq_comm s.toList]
      split
      · rfl
      rw [w3]
      unfold slices_Index_string_string.l0
      rw [if_pos (by decide), if_pos (by decide), if_pos (by decide), show rdOf ByteArray.empty [(⟨#[117, 115, 45, 97, 115, 99, 105, 105]⟩ : ByteArray), (⟨#[105, 115, 111, 45, 56, 56, 53, 57, 45, 49]⟩ : ByteArray), (⟨#[105, 115, 111, 45, 56, 56, 53, 57, 45, 53]⟩ : ByteArray), (⟨#[117, 116, 102, 45, 56]⟩ : ByteArray), (⟨#[117, 116, 102, 45, 49, 54]⟩ : ByteArray)] 4 = (⟨#[117, 116, 102, 45, 49, 54]⟩ : ByteArray) from rfl, ite_eq_comm s.toList]
      split
      · rfl
      rw [w4]
      unfold slices_Index_string_string.l0
      rw [if_neg (by decide)]
    simp only [spec_CharsetOf.f, impl_CharsetOf.f, impl_charsets.f, hs, hx, e2, Option.bind_some]
    split
    · simp +decide [laws_eqIntResult.f, show wrap64 1 = 1 from by decide +kernel]
    split
    · simp +decide [laws_eqIntResult.f, show wrap64 2 = 2 from by decide +kernel]
    split
    · simp +decide [laws_eqIntResult.f, show wrap64 3 = 3 from by decide +kernel]
    split
    · simp +decide [laws_eqIntResult.f, show wrap64 4 = 4 from by decide +kernel]
    split
    · simp +decide [laws_eqIntResult.f, show wrap64 5 = 5 from by decide +kernel]
    · simp [laws_eqIntResult.f]

end Go.Proofs.Ytmcnldekpjjgcaa.Pure
