/- Part of the proof; words that it uses. -/
import Derived.Test.YtjopgmjmjnfcjaaGreatDoorPWordsx13
namespace Go.Proofs.YtjopgmjmjnfcjaaGreatDoor.Pure
open Go.RowKit Go.Proofs.YtjopgmjmjnfcjaaGreatDoor.PWords Go.Proofs.YtjopgmjmjnfcjaaGreatDoorW.PrintWords Go.Proofs.YtjopgmjmjnfcjaaGreatDoorW.PrintLast
set_option linter.unusedSimpArgs false
set_option linter.unusedVariables false
theorem rd_at (l : List Int) (i : Nat) (h : i < l.length) : rd l (i : Int) = l[i] := by
  simp [rd, List.getD_eq_getElem?_getD, h]
theorem wrap64_in {n : Int} (h : -9223372036854775808 ≤ n ∧ n ≤ 9223372036854775807) : wrap64 n = n := by
  unfold wrap64; omega
theorem maxLen_le : maxLen ≤ 9223372036854775807 := by unfold maxLen; decide
def low (b : Int) : Int := if 65 ≤ b ∧ b ≤ 90 then (b + 32) % 256 else b
theorem low_step (L : List Int) (i : Nat) (h : i < L.length) : ((L.take i).map low ++ L.drop i).set i (low L[i]) = (L.take (i + 1)).map low ++ L.drop (i + 1) := by
  rw [List.set_append_right _ _ (by simp; omega)]
  have h5 : i - ((L.take i).map low).length = 0 := by simp; omega
  rw [h5, List.drop_eq_getElem_cons h, List.set_cons_zero, List.take_succ_eq_append_getElem h, List.map_append, List.append_assoc]
  rfl
theorem low_rd (L : List Int) (i : Nat) (h : i < L.length) : rd ((L.take i).map low ++ L.drop i) (i : Int) = L[i] := by
  rw [rd_at _ i (by simp; omega), List.getElem_append_right (by simp; omega)]
  simp only [List.getElem_drop]
  congr 1
  simp; omega
theorem low_same (L : List Int) (i : Nat) (h : i < L.length) (hl : low L[i] = L[i]) : (L.take i).map low ++ L.drop i = (L.take (i + 1)).map low ++ L.drop (i + 1) := by
  rw [← low_step L i h, hl, List.set_append_right _ _ (by simp; omega)]
  have h5 : i - ((L.take i).map low).length = 0 := by simp; omega
  rw [h5, List.drop_eq_getElem_cons h, List.set_cons_zero]
theorem low_len (L : List Int) (i : Nat) : ((L.take i).map low ++ L.drop i).length = L.length := by simp; omega
theorem spec_l2Lower.l0_eq (L : List Int) (hb : L.length ≤ maxLen) : ∀ (n k i : Nat), L.length = i + n → n < k → spec_l2Lower.l0 k ((L.take i).map low ++ L.drop i) (i : Int) = some (strOfNums (L.map low))
  | 0, 0, _, _, h => absurd h (by omega)
  | 0, k + 1, i, hi, _ => by
    have h1 : ¬ ((i : Int) < (((L.take i).map low ++ L.drop i).length : Int)) := by rw [low_len]; omega
    unfold spec_l2Lower.l0
    rw [if_neg h1, List.drop_eq_nil_of_le (by omega), List.take_of_length_le (by omega), List.append_nil]
  | n + 1, 0, _, _, h => absurd h (by omega)
  | n + 1, k + 1, i, hi, h => by
    have hm := maxLen_le
    have h1 : (i : Int) < (((L.take i).map low ++ L.drop i).length : Int) := by rw [low_len]; omega
    have h2 : (0 : Int) ≤ (i : Int) := by omega
    have h4 : wrap64 ((i : Int) + 1) = ((i + 1 : Nat) : Int) := by rw [wrap64_in (by omega)]; omega
    have hlt : i < L.length := by omega
    have ih := spec_l2Lower.l0_eq L hb n k (i + 1) (by omega) (by omega)
    have hs := low_step L i hlt
    have hq := low_same L i hlt
    unfold spec_l2Lower.l0
    rw [if_pos h1, if_pos h2, low_rd L i hlt, h4, Int.toNat_natCast]
    generalize L[i] = y at hs hq
    by_cases h5 : y ≥ 65
    · rw [if_pos h5]
      by_cases h6 : y ≤ 90
      · rw [if_pos h6]
        have h7 : low y = (y + 32) % 256 := by unfold low; rw [if_pos ⟨h5, h6⟩]
        rw [← h7, hs, ih]
      · rw [if_neg h6, hq (by unfold low; rw [if_neg (by omega)]), ih]
    · rw [if_neg h5, hq (by unfold low; rw [if_neg (by omega)]), ih]
theorem bytesOf_len (a : ByteArray) : (bytesOf a).length = a.size := by simp [bytesOf]
theorem spec_l2Lower_eq (a : ByteArray) (k : Nat) (hb : a.size ≤ 1048576) (hk : a.size < k) : spec_l2Lower.f k a = some (strOfNums ((bytesOf a).map low)) := by
  have hl := bytesOf_len a
  unfold spec_l2Lower.f
  rw [if_pos (by omega)]
  have := spec_l2Lower.l0_eq (bytesOf a) (by unfold maxLen; omega) a.size k 0 (by omega) hk
  simpa using this
theorem impl_small.l0_eq (L : List Int) (hb : L.length ≤ maxLen) : ∀ (n k i : Nat), L.length = i + n → n < k → impl_small.l0 k ((L.take i).map low ++ L.drop i) (L.length : Int) (i : Int) = some (strOfNums (L.map low))
  | 0, 0, _, _, h => absurd h (by omega)
  | 0, k + 1, i, hi, _ => by
    have h1 : ¬ ((i : Int) < (L.length : Int)) := by omega
    unfold impl_small.l0
    rw [if_neg h1, List.drop_eq_nil_of_le (by omega), List.take_of_length_le (by omega), List.append_nil]
  | n + 1, 0, _, _, h => absurd h (by omega)
  | n + 1, k + 1, i, hi, h => by
    have hm := maxLen_le
    have h0 : (i : Int) < (L.length : Int) := by omega
    have h1 : (i : Int) < (((L.take i).map low ++ L.drop i).length : Int) := by rw [low_len]; omega
    have h2 : (0 : Int) ≤ (i : Int) := by omega
    have h4 : wrap64 ((i : Int) + 1) = ((i + 1 : Nat) : Int) := by rw [wrap64_in (by omega)]; omega
    have hlt : i < L.length := by omega
    have ih := impl_small.l0_eq L hb n k (i + 1) (by omega) (by omega)
    have hs := low_step L i hlt
    have hq := low_same L i hlt
    unfold impl_small.l0
    rw [if_pos h0, if_pos h2, if_pos h1, low_rd L i hlt, h4, Int.toNat_natCast]
    generalize L[i] = y at hs hq
    by_cases h5 : y ≥ 65
    · rw [if_pos h5]
      by_cases h6 : y ≤ 90
      · rw [if_pos h6]
        have h7 : low y = (y + 32) % 256 := by unfold low; rw [if_pos ⟨h5, h6⟩]
        rw [← h7, hs, ih]
      · rw [if_neg h6, hq (by unfold low; rw [if_neg (by omega)]), ih]
    · rw [if_neg h5, hq (by unfold low; rw [if_neg (by omega)]), ih]
theorem bytesOf_len1 (a : ByteArray) : (bytesOf a).length = a.size := by simp [bytesOf]
theorem impl_small_eq (a : ByteArray) (k : Nat) (hb : a.size ≤ 1048576) (hk : a.size < k) : impl_small.f k a = some (strOfNums ((bytesOf a).map low)) := by
  have hl := bytesOf_len1 a
  unfold impl_small.f
  rw [if_pos (by omega), Option.bind_some]
  have := impl_small.l0_eq (bytesOf a) (by unfold maxLen; omega) a.size k 0 (by omega) hk
  simpa using this
theorem ite_eq_comm {α : Type} [DecidableEq α] {β : Type} (a b : α) (x y : β) : (if a = b then x else y) = if b = a then x else y := by
  by_cases h : a = b
  · rw [if_pos h, if_pos h.symm]
  · rw [if_neg h, if_neg (fun e => h e.symm)]
theorem charset_all (a : ByteArray) (hl : ¬ (a.size : Int) > 1048576) : ∃ v c, (∀ k0, a.size < k0 → spec_l2Of.f (k0 + 7) a = some v) ∧ (∀ k0, a.size < k0 → impl_CharsetOf.f (k0 + 7) a = some (c, v)) ∧ ((c = 0 ∧ 1 ≤ v ∧ v ≤ 5) ∨ (c ≠ 0 ∧ v = 0)) := by
  have e1 : ∀ k, a.size < k → spec_l2Lower.f k a = _ := fun k hk => spec_l2Lower_eq a k (by omega) (by omega)
  have e2 : ∀ k, a.size < k → impl_small.f k a = _ := fun k hk => impl_small_eq a k (by omega) (by omega)
  have w1 : wrap64 (1 + 1) = 2 := by decide +kernel
  have w2 : wrap64 (2 + 1) = 3 := by decide +kernel
  have w3 : wrap64 (3 + 1) = 4 := by decide +kernel
  have w4 : wrap64 (4 + 1) = 5 := by decide +kernel
  have w5 : wrap64 (5 + 1) = 6 := by decide +kernel
  have w0 : wrap64 (0 + 1) = 1 := by decide +kernel
  generalize strOfNums ((bytesOf a).map low) = s at e1 e2
  have n1 : spec_l2Name.f 1 = some ⟨#[117, 115, 45, 97, 115, 99, 105, 105]⟩ := by rfl
  have n2 : spec_l2Name.f 2 = some ⟨#[105, 115, 111, 45, 56, 56, 53, 57, 45, 49]⟩ := by rfl
  have n3 : spec_l2Name.f 3 = some ⟨#[105, 115, 111, 45, 56, 56, 53, 57, 45, 53]⟩ := by rfl
  have n4 : spec_l2Name.f 4 = some ⟨#[117, 116, 102, 45, 56]⟩ := by rfl
  have n5 : spec_l2Name.f 5 = some ⟨#[117, 116, 102, 45, 49, 54]⟩ := by rfl
  have hs : ∀ k0, a.size < k0 → spec_l2Of.f (k0 + 7) a = some (if (⟨#[117, 115, 45, 97, 115, 99, 105, 105]⟩ : ByteArray).toList = s.toList then 1 else if (⟨#[105, 115, 111, 45, 56, 56, 53, 57, 45, 49]⟩ : ByteArray).toList = s.toList then 2 else if (⟨#[105, 115, 111, 45, 56, 56, 53, 57, 45, 53]⟩ : ByteArray).toList = s.toList then 3 else if (⟨#[117, 116, 102, 45, 56]⟩ : ByteArray).toList = s.toList then 4 else if (⟨#[117, 116, 102, 45, 49, 54]⟩ : ByteArray).toList = s.toList then 5 else 0) := by
    intro k0 hk0
    unfold spec_l2Of.f
    unfold spec_l2Of.l0
    rw [if_pos (by decide), n1, Option.bind_some, e1 (k0 + 6) (by omega), Option.bind_some]
    split
    · rfl
    rw [w1]; unfold spec_l2Of.l0
    rw [if_pos (by decide), n2, Option.bind_some, e1 (k0 + 5) (by omega), Option.bind_some]
    split
    · rfl
    rw [w2]; unfold spec_l2Of.l0
    rw [if_pos (by decide), n3, Option.bind_some, e1 (k0 + 4) (by omega), Option.bind_some]
    split
    · rfl
    rw [w3]; unfold spec_l2Of.l0
    rw [if_pos (by decide), n4, Option.bind_some, e1 (k0 + 3) (by omega), Option.bind_some]
    split
    · rfl
    rw [w4]; unfold spec_l2Of.l0
    rw [if_pos (by decide), n5, Option.bind_some, e1 (k0 + 2) (by omega), Option.bind_some]
    split
    · rfl
    rw [w5]; unfold spec_l2Of.l0
    rw [if_neg (by decide)]
  have hx : ∀ k0, slices_Index_string_string.f (k0 + 7) [(⟨#[117, 115, 45, 97, 115, 99, 105, 105]⟩ : ByteArray), (⟨#[105, 115, 111, 45, 56, 56, 53, 57, 45, 49]⟩ : ByteArray), (⟨#[105, 115, 111, 45, 56, 56, 53, 57, 45, 53]⟩ : ByteArray), (⟨#[117, 116, 102, 45, 56]⟩ : ByteArray), (⟨#[117, 116, 102, 45, 49, 54]⟩ : ByteArray)] s = some (if (⟨#[117, 115, 45, 97, 115, 99, 105, 105]⟩ : ByteArray).toList = s.toList then 0 else if (⟨#[105, 115, 111, 45, 56, 56, 53, 57, 45, 49]⟩ : ByteArray).toList = s.toList then 1 else if (⟨#[105, 115, 111, 45, 56, 56, 53, 57, 45, 53]⟩ : ByteArray).toList = s.toList then 2 else if (⟨#[117, 116, 102, 45, 56]⟩ : ByteArray).toList = s.toList then 3 else if (⟨#[117, 116, 102, 45, 49, 54]⟩ : ByteArray).toList = s.toList then 4  else -1) := by
    intro k0
    unfold slices_Index_string_string.f
    rw [show (([(⟨#[117, 115, 45, 97, 115, 99, 105, 105]⟩ : ByteArray), (⟨#[105, 115, 111, 45, 56, 56, 53, 57, 45, 49]⟩ : ByteArray), (⟨#[105, 115, 111, 45, 56, 56, 53, 57, 45, 53]⟩ : ByteArray), (⟨#[117, 116, 102, 45, 56]⟩ : ByteArray), (⟨#[117, 116, 102, 45, 49, 54]⟩ : ByteArray)].length : Nat) : Int) = 5 from rfl]
    unfold slices_Index_string_string.l0
    rw [if_pos (by decide), if_pos (by decide), if_pos (by decide), show rdOf ByteArray.empty [(⟨#[117, 115, 45, 97, 115, 99, 105, 105]⟩ : ByteArray), (⟨#[105, 115, 111, 45, 56, 56, 53, 57, 45, 49]⟩ : ByteArray), (⟨#[105, 115, 111, 45, 56, 56, 53, 57, 45, 53]⟩ : ByteArray), (⟨#[117, 116, 102, 45, 56]⟩ : ByteArray), (⟨#[117, 116, 102, 45, 49, 54]⟩ : ByteArray)] 0 = (⟨#[117, 115, 45, 97, 115, 99, 105, 105]⟩ : ByteArray) from rfl, ite_eq_comm s.toList]
    split
    · rfl
    rw [w0]
    unfold slices_Index_string_string.l0
    rw [if_pos (by decide), if_pos (by decide), if_pos (by decide), show rdOf ByteArray.empty [(⟨#[117, 115, 45, 97, 115, 99, 105, 105]⟩ : ByteArray), (⟨#[105, 115, 111, 45, 56, 56, 53, 57, 45, 49]⟩ : ByteArray), (⟨#[105, 115, 111, 45, 56, 56, 53, 57, 45, 53]⟩ : ByteArray), (⟨#[117, 116, 102, 45, 56]⟩ : ByteArray), (⟨#[117, 116, 102, 45, 49, 54]⟩ : ByteArray)] 1 = (⟨#[105, 115, 111, 45, 56, 56, 53, 57, 45, 49]⟩ : ByteArray) from rfl, ite_eq_comm s.toList]
    split
    · rfl
    rw [w1]
    unfold slices_Index_string_string.l0
    rw [if_pos (by decide), if_pos (by decide), if_pos (by decide), show rdOf ByteArray.empty [(⟨#[117, 115, 45, 97, 115, 99, 105, 105]⟩ : ByteArray), (⟨#[105, 115, 111, 45, 56, 56, 53, 57, 45, 49]⟩ : ByteArray), (⟨#[105, 115, 111, 45, 56, 56, 53, 57, 45, 53]⟩ : ByteArray), (⟨#[117, 116, 102, 45, 56]⟩ : ByteArray), (⟨#[117, 116, 102, 45, 49, 54]⟩ : ByteArray)] 2 = (⟨#[105, 115, 111, 45, 56, 56, 53, 57, 45, 53]⟩ : ByteArray) from rfl, ite_eq_comm s.toList]
    split
    · rfl
    rw [w2]
    unfold slices_Index_string_string.l0
    rw [if_pos (by decide), if_pos (by decide), if_pos (by decide), show rdOf ByteArray.empty [(⟨#[117, 115, 45, 97, 115, 99, 105, 105]⟩ : ByteArray), (⟨#[105, 115, 111, 45, 56, 56, 53, 57, 45, 49]⟩ : ByteArray), (⟨#[105, 115, 111, 45, 56, 56, 53, 57, 45, 53]⟩ : ByteArray), (⟨#[117, 116, 102, 45, 56]⟩ : ByteArray), (⟨#[117, 116, 102, 45, 49, 54]⟩ : ByteArray)] 3 = (⟨#[117, 116, 102, 45, 56]⟩ : ByteArray) from rfl, ite_eq_comm s.toList]
    split
    · rfl
    rw [w3]
    unfold slices_Index_string_string.l0
    rw [if_pos (by decide), if_pos (by decide), if_pos (by decide), show rdOf ByteArray.empty [(⟨#[117, 115, 45, 97, 115, 99, 105, 105]⟩ : ByteArray), (⟨#[105, 115, 111, 45, 56, 56, 53, 57, 45, 49]⟩ : ByteArray), (⟨#[105, 115, 111, 45, 56, 56, 53, 57, 45, 53]⟩ : ByteArray), (⟨#[117, 116, 102, 45, 56]⟩ : ByteArray), (⟨#[117, 116, 102, 45, 49, 54]⟩ : ByteArray)] 4 = (⟨#[117, 116, 102, 45, 49, 54]⟩ : ByteArray) from rfl, ite_eq_comm s.toList]
    split
    · rfl
    rw [w4]
    unfold slices_Index_string_string.l0
    rw [if_neg (by decide)]
  have key : ∀ v j : Int, (∀ k0, a.size < k0 → spec_l2Of.f (k0 + 7) a = some v) → (∀ k0, slices_Index_string_string.f (k0 + 7) [(⟨#[117, 115, 45, 97, 115, 99, 105, 105]⟩ : ByteArray), (⟨#[105, 115, 111, 45, 56, 56, 53, 57, 45, 49]⟩ : ByteArray), (⟨#[105, 115, 111, 45, 56, 56, 53, 57, 45, 53]⟩ : ByteArray), (⟨#[117, 116, 102, 45, 56]⟩ : ByteArray), (⟨#[117, 116, 102, 45, 49, 54]⟩ : ByteArray)] s = some j) → ((v = 0 ∧ j = -1) ∨ (1 ≤ v ∧ v ≤ 5 ∧ j = v - 1)) → ∃ v c, (∀ k0, a.size < k0 → spec_l2Of.f (k0 + 7) a = some v) ∧ (∀ k0, a.size < k0 → impl_CharsetOf.f (k0 + 7) a = some (c, v)) ∧ ((c = 0 ∧ 1 ≤ v ∧ v ≤ 5) ∨ (c ≠ 0 ∧ v = 0)) := by
    intro v j h1 h2 h3
    rcases h3 with ⟨rfl, rfl⟩ | ⟨g1, g2, rfl⟩
    · refine ⟨0, 4, h1, fun k0 hk0 => ?_, .inr ⟨by decide, rfl⟩⟩
      rw [impl_CharsetOf.f, impl_charsets.f, Option.bind_some, e2 (k0 + 7) (by omega), Option.bind_some, h2 k0, Option.bind_some, if_pos (by decide)]
    · refine ⟨v, 0, h1, fun k0 hk0 => ?_, .inl ⟨rfl, g1, g2⟩⟩
      rw [impl_CharsetOf.f, impl_charsets.f, Option.bind_some, e2 (k0 + 7) (by omega), Option.bind_some, h2 k0, Option.bind_some, if_neg (by omega), wrap64_in (by omega), show v - 1 + 1 = v by omega]
  split at hs
  · rename_i g; simp only [if_pos g] at hx; exact key 1 0 hs hx (.inr (by omega))
  rename_i g1; simp only [if_neg g1] at hx
  split at hs
  · rename_i g; simp only [if_pos g] at hx; exact key 2 1 hs hx (.inr (by omega))
  rename_i g2; simp only [if_neg g2] at hx
  split at hs
  · rename_i g; simp only [if_pos g] at hx; exact key 3 2 hs hx (.inr (by omega))
  rename_i g3; simp only [if_neg g3] at hx
  split at hs
  · rename_i g; simp only [if_pos g] at hx; exact key 4 3 hs hx (.inr (by omega))
  rename_i g4; simp only [if_neg g4] at hx
  split at hs
  · rename_i g; simp only [if_pos g] at hx; exact key 5 4 hs hx (.inr (by omega))
  · rename_i g; simp only [if_neg g] at hx; exact key 0 (-1) hs hx (.inl ⟨rfl, rfl⟩)
theorem spec_l1Base_eq (n : Int) (h : 0 ≤ n ∧ n < 64) : spec_l1Base.f n = some (impl_baseText.dg n) := by
  unfold spec_l1Base.f impl_baseText.dg
  rw [if_pos h.1, if_pos h.2]
theorem tdw (V d : Int) (hV : 0 ≤ V ∧ V ≤ 16777215) (hd : 0 < d) : wrap64 (Int.tdiv V d) = V / d := by
  rw [Int.tdiv_eq_ediv_of_nonneg hV.1, wrap64_in]
  have h1 := Int.ediv_nonneg hV.1 (by omega : 0 ≤ d)
  have h2 := Int.ediv_le_self d hV.1
  omega
theorem tdwm (V d : Int) (hV : 0 ≤ V ∧ V ≤ 16777215) (hd : 0 < d) : Int.tmod (wrap64 (Int.tdiv V d)) 64 = V / d % 64 := by
  rw [tdw V d hV hd, Int.tmod_eq_emod_of_nonneg (Int.ediv_nonneg hV.1 (by omega))]
theorem tm64 (V : Int) (hV : 0 ≤ V ∧ V ≤ 16777215) : Int.tmod V 64 = V % 64 := Int.tmod_eq_emod_of_nonneg hV.1
theorem mod64 (x : Int) : 0 ≤ x % 64 ∧ x % 64 < 64 := by omega
theorem w123 (i : Nat) (h : i ≤ 1048576) : wrap64 ((i : Int) + 1) = (i : Int) + 1 ∧ wrap64 ((i : Int) + 2) = (i : Int) + 2 ∧ wrap64 ((i : Int) + 3) = ((i + 3 : Nat) : Int) := by
  refine ⟨wrap64_in (by omega), wrap64_in (by omega), ?_⟩
  rw [wrap64_in (by omega)]
  omega
theorem spec_l1Encode.j2_eq (k : Nat) (L x3 : List Int) (i n : Nat) (V : Int) (hb : L.length ≤ 1048576) (hi : i < L.length) (hn : n = min (L.length - i) 3) (hV : 0 ≤ V ∧ V ≤ 16777215) (hx : x3.length + 4 < 140737488355328) :
    spec_l1Encode.j2 (k + 1) L x3 i V = spec_l1Encode.l0 k L (x3 ++ impl_baseText.four n V) ((i + 3 : Nat) : Int) := by
  have e1 := tdw V 262144 hV (by decide)
  have e2 := tdwm V 4096 hV (by decide)
  have e3 := tdwm V 64 hV (by decide)
  have e4 := tm64 V hV
  have v0 : 0 ≤ V / 262144 ∧ V / 262144 < 64 := by clear e1 e2 e3 e4 hx hn; omega
  have v1 := mod64 (V / 4096)
  have v2 := mod64 (V / 64)
  have v3 := mod64 V
  obtain ⟨w1, w2, w3⟩ := w123 i (by omega)
  have p0 : (2 : Int) ^ (18 - 6 * 0) = 262144 := by decide
  have p1 : (2 : Int) ^ (18 - 6 * 1) = 4096 := by decide
  have p2 : (2 : Int) ^ (18 - 6 * 2) = 64 := by decide
  have p3 : (2 : Int) ^ (18 - 6 * 3) = 1 := by decide
  have d0 : V / 262144 % 64 = V / 262144 := Int.emod_eq_of_lt v0.1 v0.2
  have d3 : V / 1 % 64 = V % 64 := by rw [Int.ediv_one]
  unfold spec_l1Encode.j2
  rw [e1, e2, e3, e4, w2, w1, w3, spec_l1Base_eq _ v0, spec_l1Base_eq _ v1, spec_l1Base_eq _ v2, spec_l1Base_eq _ v3]
  simp only [Option.bind_some]
  unfold impl_baseText.four impl_baseText.dk
  rw [p0, p1, p2, p3, d0, d3]
  clear e1 e2 e3 e4 w1 w2 w3 p0 p1 p2 p3 d0 d3 v0 v1 v2 v3 hV
  by_cases h2 : i + 2 < L.length
  · obtain rfl : n = 3 := by omega
    rw [if_neg (by omega), if_neg (by omega), if_pos (by simp; omega)]
    simp
  · by_cases h1 : i + 1 < L.length
    · obtain rfl : n = 2 := by omega
      rw [if_pos (by omega), if_pos (by simp), if_neg (by omega), if_pos (by simp; omega)]
      simp
    · obtain rfl : n = 1 := by omega
      rw [if_pos (by omega), if_pos (by simp), if_pos (by omega), if_pos (by simp), if_pos (by simp; omega)]
      simp
theorem spec_l1Encode.one (k : Nat) (L x3 : List Int) (i : Nat) (hb : L.length ≤ 1048576) (hB : ∀ x ∈ L, 0 ≤ x ∧ x ≤ 255) (hi : i < L.length) (hx : x3.length + 4 < 140737488355328) :
    ∃ four : List Int, impl_baseText.q (L.drop i) = four ++ impl_baseText.q (L.drop (i + 3)) ∧ four.length = 4 ∧ spec_l1Encode.l0 (k + 3) L x3 i = spec_l1Encode.l0 k L (x3 ++ four) ((i + 3 : Nat) : Int) := by
  have hall : L.all (fun x => decide (0 ≤ x ∧ x ≤ 255)) = true := by
    rw [List.all_eq_true]; intro x hx; exact decide_eq_true (hB x hx)
  have h1 : (i : Int) < (L.length : Int) := by omega
  have h2 : (0 : Int) ≤ (i : Int) := by omega
  have w2 : wrap64 ((i : Int) + 2) = ((i + 2 : Nat) : Int) := by rw [wrap64_in (by omega)]; omega
  have w1 : wrap64 ((i : Int) + 1) = ((i + 1 : Nat) : Int) := by rw [wrap64_in (by omega)]; omega
  have ha := hB L[i] (List.getElem_mem hi)
  have ra := rd_at L i hi
  have hd : L.drop i = L[i] :: L.drop (i + 1) := List.drop_eq_getElem_cons hi
  generalize L[i] = a at ha ra hd
  have wa : wrap64 a = a := wrap64_in (by omega)
  have wa2 : wrap64 (a * 65536) = a * 65536 := wrap64_in (by omega)
  by_cases h3 : i + 1 < L.length
  · have hb1 := hB L[i + 1] (List.getElem_mem h3)
    have rb := rd_at L (i + 1) h3
    have hd2 : L.drop (i + 1) = L[i + 1] :: L.drop (i + 2) := List.drop_eq_getElem_cons h3
    generalize L[i + 1] = b at hb1 rb hd2
    have wb : wrap64 b = b := wrap64_in (by omega)
    have wb2 : wrap64 (b * 256) = b * 256 := wrap64_in (by omega)
    have wab : wrap64 (a * 65536 + b * 256) = a * 65536 + b * 256 := wrap64_in (by omega)
    by_cases h4 : i + 2 < L.length
    · have hc1 := hB L[i + 2] (List.getElem_mem h4)
      have rc := rd_at L (i + 2) h4
      have hd3 : L.drop (i + 2) = L[i + 2] :: L.drop (i + 3) := List.drop_eq_getElem_cons h4
      generalize L[i + 2] = c at hc1 rc hd3
      have wc : wrap64 c = c := wrap64_in (by omega)
      have wabc : wrap64 (a * 65536 + b * 256 + c) = a * 65536 + b * 256 + c := wrap64_in (by omega)
      refine ⟨impl_baseText.four 3 (a * 65536 + b * 256 + c), ?_, rfl, ?_⟩
      · have := impl_baseText.q_step L [a, b, c] i a b c hall (by rw [hd, hd2, hd3]; rfl) (.inr (.inr rfl))
        simpa using this
      · conv => lhs; unfold spec_l1Encode.l0
        rw [if_pos h1, if_pos h2, w1, if_pos (by omega), if_pos (by omega), ra, rb, wa, wb, wa2, wb2, wab]
        unfold spec_l1Encode.j1
        rw [w2, if_pos (by omega), if_pos (by omega), rc, wc, wabc]
        exact spec_l1Encode.j2_eq k L x3 i 3 (a * 65536 + b * 256 + c) hb hi (by omega) (by omega) hx
    · refine ⟨impl_baseText.four 2 (a * 65536 + b * 256 + 0), ?_, rfl, ?_⟩
      · have hd3 : L.drop (i + 2) = [] := List.drop_eq_nil_of_le (by omega)
        have := impl_baseText.q_step L [a, b] i a b 0 hall (by rw [hd, hd2, hd3]; rfl) (.inr (.inl ⟨rfl, rfl⟩))
        simpa using this
      · conv => lhs; unfold spec_l1Encode.l0
        rw [if_pos h1, if_pos h2, w1, if_pos (by omega), if_pos (by omega), ra, rb, wa, wb, wa2, wb2, wab]
        unfold spec_l1Encode.j1
        rw [w2, if_neg (by omega), Int.add_zero]
        exact spec_l1Encode.j2_eq k L x3 i 2 (a * 65536 + b * 256) hb hi (by omega) (by omega) hx
  · refine ⟨impl_baseText.four 1 (a * 65536 + 0 * 256 + 0), ?_, rfl, ?_⟩
    · have hd3 : L.drop (i + 1) = [] := List.drop_eq_nil_of_le (by omega)
      have := impl_baseText.q_step L [a] i a 0 0 hall (by rw [hd, hd3]; rfl) (.inl ⟨rfl, rfl, rfl⟩)
      simpa using this
    · conv => lhs; unfold spec_l1Encode.l0
      rw [if_pos h1, if_pos h2, w1, if_neg (by omega), ra, wa, wa2]
      unfold spec_l1Encode.j1
      rw [w2, if_neg (by omega), show a * 65536 + 0 * 256 + 0 = a * 65536 by omega]
      exact spec_l1Encode.j2_eq k L x3 i 1 (a * 65536) hb hi (by omega) (by omega) hx
theorem spec_l1Encode.l0_eq (L : List Int) (hb : L.length ≤ 1048576) (hB : ∀ x ∈ L, 0 ≤ x ∧ x ≤ 255) : ∀ (n k i : Nat) (x3 : List Int), L.length ≤ i + n → L.length + 3 ≤ k + i → i ≤ L.length + 2 → x3.length ≤ 2 * i → spec_l1Encode.l0 k L x3 (i : Int) = some (strOfNums (x3 ++ impl_baseText.q (L.drop i))) := by
  intro n
  induction n using Nat.strongRecOn with
  | _ n ih =>
    intro k i x3 hn hk hi hx
    by_cases h : i < L.length
    · obtain ⟨k, rfl⟩ : ∃ m, k = m + 3 := ⟨k - 3, by omega⟩
      obtain ⟨four, h1, h2, h3⟩ := spec_l1Encode.one k L x3 i hb hB h (by omega)
      rw [h3, h1]
      rw [ih (n - 1) (by omega) k (i + 3) (x3 ++ four) (by omega) (by omega) (by omega) (by simp; omega), List.append_assoc]
    · obtain ⟨k, rfl⟩ : ∃ m, k = m + 1 := ⟨k - 1, by omega⟩
      have h1 : ¬ ((i : Int) < (L.length : Int)) := by omega
      unfold spec_l1Encode.l0
      rw [if_neg h1, List.drop_eq_nil_of_le (by omega)]
      simp [impl_baseText.q]
theorem spec_l1Encode_eq (L : List Int) (k : Nat) (hb : L.length ≤ 1048576) (hB : ∀ x ∈ L, 0 ≤ x ∧ x ≤ 255) (hk : L.length + 3 ≤ k) : spec_l1Encode.f k L = some (strOfNums (impl_baseText.q L)) := by
  unfold spec_l1Encode.f
  have := spec_l1Encode.l0_eq L hb hB L.length k 0 [] (by omega) (by omega) (by omega) (by simp)
  simpa using this
theorem impl_baseText_eq (L : List Int) (hb : L.length ≤ 1000000) (hB : ∀ x ∈ L, 0 ≤ x ∧ x ≤ 255) : impl_baseText.f L = some (strOfNums (impl_baseText.q L)) := by
  have hall : L.all (fun x => decide (0 ≤ x ∧ x ≤ 255)) = true := by
    rw [List.all_eq_true]; intro x hx; exact decide_eq_true (hB x hx)
  unfold impl_baseText.f
  rw [if_pos ⟨hb, hall⟩]
theorem bt_range (s : ByteArray) (i : Int) : 0 ≤ bt s i ∧ bt s i ≤ 255 := by
  unfold bt
  split
  · rename_i h
    have := UInt8.toNat_lt (s[i.toNat]'h)
    omega
  · omega
theorem strOfNums_size (l : List Int) : (strOfNums l).size = l.length := by
  show (strOfNums l).data.size = _
  simp [strOfNums]
theorem bytesOf_strOfNums (l : List Int) (h : ∀ x ∈ l, 0 ≤ x ∧ x ≤ 255) : bytesOf (strOfNums l) = l := by
  unfold bytesOf strOfNums
  simp only [List.map_map]
  conv => rhs; rw [← List.map_id l]
  apply List.map_congr_left
  intro x hx
  have := h x hx
  simp only [Function.comp, id]
  rw [UInt8.toNat_ofNat_of_lt' (by show x.toNat < 256; omega)]
  omega
theorem strOfNums_bytesOf (s : ByteArray) : strOfNums (bytesOf s) = s := by
  unfold bytesOf strOfNums
  rw [List.map_map]
  have h : (s.data.toList.map ((fun n : Int => UInt8.ofNat n.toNat) ∘ fun b : UInt8 => (b.toNat : Int))) = s.data.toList := by
    conv => rhs; rw [← List.map_id s.data.toList]
    apply List.map_congr_left
    intro x _
    simp
  rw [h]
theorem bytesOf_in (s : ByteArray) : ∀ x ∈ bytesOf s, 0 ≤ x ∧ x ≤ 255 := by
  intro x hx
  obtain ⟨b, _, rfl⟩ := List.mem_map.1 hx
  have := UInt8.toNat_lt b
  omega
theorem u8_eq (x c : Int) (hx : 0 ≤ x ∧ x ≤ 255) (hc : 0 ≤ c ∧ c ≤ 255) : (UInt8.ofNat x.toNat == c.toNat.toUInt8) = decide (x = c) := by
  rw [Bool.eq_iff_iff, beq_iff_eq, decide_eq_true_eq]
  constructor
  · intro h
    have h2 := congrArg UInt8.toNat h
    rw [UInt8.toNat_ofNat_of_lt' (by show x.toNat < 256; omega)] at h2
    rw [show c.toNat.toUInt8.toNat = c.toNat from UInt8.toNat_ofNat_of_lt' (by show c.toNat < 256; omega)] at h2
    omega
  · intro h
    subst h
    rfl
def digT : ByteArray := ⟨#[65, 66, 67, 68, 69, 70, 71, 72, 73, 74, 75, 76, 77, 78, 79, 80, 81, 82, 83, 84, 85, 86, 87, 88, 89, 90, 97, 98, 99, 100, 101, 102, 103, 104, 105, 106, 107, 108, 109, 110, 111, 112, 113, 114, 115, 116, 117, 118, 119, 120, 121, 122, 48, 49, 50, 51, 52, 53, 54, 55, 56, 57, 43, 47]⟩
def dv (b : Int) : Int := if 65 ≤ b ∧ b ≤ 90 then b - 65 else if 97 ≤ b ∧ b ≤ 122 then b - 71 else if 48 ≤ b ∧ b ≤ 57 then b + 4 else if b = 43 then 62 else if b = 47 then 63 else -1
theorem dv_range (b : Int) : -1 ≤ dv b ∧ dv b < 64 := by
  unfold dv
  repeat' split
  all_goals omega
theorem dg_all : ∀ n : Fin 64, dv (impl_baseText.dg (n.val : Int)) = n.val ∧ impl_baseText.dg (n.val : Int) ≠ 61 ∧ 0 ≤ impl_baseText.dg (n.val : Int) ∧ impl_baseText.dg (n.val : Int) ≤ 255 := by decide +kernel
theorem dg_dv (n : Int) (h : 0 ≤ n ∧ n < 64) : dv (impl_baseText.dg n) = n ∧ impl_baseText.dg n ≠ 61 ∧ 0 ≤ impl_baseText.dg n ∧ impl_baseText.dg n ≤ 255 := by
  have := dg_all ⟨n.toNat, by omega⟩
  simpa [Int.toNat_of_nonneg h.1] using this
theorem ix_all : ∀ n : Fin 256, Lib.indexByte digT.data.toList ((n.val : Int)).toNat.toUInt8 = dv n.val := by decide +kernel
theorem ix_eq (b : Int) (h : 0 ≤ b ∧ b ≤ 255) : strings_IndexByte.f digT b = some (dv b) := by
  have := ix_all ⟨b.toNat, by omega⟩
  unfold strings_IndexByte.f
  rw [show ((⟨b.toNat, by omega⟩ : Fin 256).val : Int) = b from Int.toNat_of_nonneg h.1] at this
  rw [this]
theorem digit_all : ∀ n : Fin 256, spec_l1Digit.f 66 (n.val : Int) = some (dv n.val) := by decide +kernel
theorem digit_eq (b : Int) (h : 0 ≤ b ∧ b ≤ 255) (k : Nat) (hk : 66 ≤ k) : spec_l1Digit.f k b = some (dv b) := by
  obtain ⟨m, rfl⟩ : ∃ m, k = 66 + m := ⟨k - 66, by omega⟩
  clear hk
  induction m with
  | zero =>
    have := digit_all ⟨b.toNat, by omega⟩
    rw [show ((⟨b.toNat, by omega⟩ : Fin 256).val : Int) = b from Int.toNat_of_nonneg h.1] at this
    exact this
  | succ m ih => exact spec_l1Digit.mono b (66 + m) _ ih
def nS (c d : Int) (last : Prop) [Decidable last] : Nat := if last ∧ d = 61 then (if c = 61 then 2 else 3) else 4
def vS (a b c d : Int) (n : Nat) : Int := ((dv a * 64 + dv b) * 64 + (if 2 < n then dv c else 0)) * 64 + (if 3 < n then dv d else 0)
def badS (a b c d : Int) (n : Nat) : Prop := dv a < 0 ∨ dv b < 0 ∨ (2 < n ∧ dv c < 0) ∨ (3 < n ∧ dv d < 0)
instance (a b c d : Int) (n : Nat) : Decidable (badS a b c d n) := by unfold badS; infer_instance
def outS (v : Int) (n : Nat) : List Int := [v / 65536 % 256, v / 256 % 256, v % 256].take (n - 1)
def decS : List Int → List Int → Option (List Int)
  | a :: b :: c :: d :: r, out => if badS a b c d (nS c d (r = [])) then none else decS r (out ++ outS (vS a b c d (nS c d (r = []))) (nS c d (r = [])))
  | _, out => some out
theorem nS_cases (c d : Int) (last : Prop) [Decidable last] : nS c d last = 2 ∨ nS c d last = 3 ∨ nS c d last = 4 := by
  unfold nS
  repeat' split
  all_goals simp
theorem outS_byte (v : Int) (n : Nat) : ∀ x ∈ outS v n, 0 ≤ x ∧ x ≤ 255 := by
  intro x hx
  have := List.mem_of_mem_take hx
  simp only [List.mem_cons, List.not_mem_nil, or_false] at this
  omega
theorem outS_len (v : Int) (n : Nat) : (outS v n).length ≤ 3 := by
  unfold outS
  rw [List.length_take]
  simp only [List.length_cons, List.length_nil]
  omega
theorem decS_ok : ∀ (m : Nat) (L out o : List Int), L.length ≤ m → decS L out = some o → (∀ x ∈ out, 0 ≤ x ∧ x ≤ 255) → (∀ x ∈ o, 0 ≤ x ∧ x ≤ 255) ∧ o.length ≤ out.length + L.length := by
  intro m
  induction m using Nat.strongRecOn with
  | _ m ih =>
    intro L out o hm h hb
    match L, hm, h with
    | [], _, h => simp only [decS, Option.some.injEq] at h; subst h; exact ⟨hb, by omega⟩
    | [_], _, h => simp only [decS, Option.some.injEq] at h; subst h; exact ⟨hb, by omega⟩
    | [_, _], _, h => simp only [decS, Option.some.injEq] at h; subst h; exact ⟨hb, by omega⟩
    | [_, _, _], _, h => simp only [decS, Option.some.injEq] at h; subst h; exact ⟨hb, by omega⟩
    | a :: b :: c :: d :: r, hm, h =>
      simp only [List.length_cons] at hm
      rw [decS] at h
      split at h
      · cases h
      · have hl := outS_len (vS a b c d (nS c d (r = []))) (nS c d (r = []))
        have := ih r.length (by omega) r _ o (Nat.le_refl _) h (fun x hx => by
          rcases List.mem_append.1 hx with hx | hx
          · exact hb x hx
          · exact outS_byte _ _ x hx)
        refine ⟨this.1, ?_⟩
        have h2 := this.2
        rw [List.length_append] at h2
        simp only [List.length_cons]
        omega
theorem drop_btD (s : ByteArray) (i : Nat) (h : i < s.size) : (bytesOf s).drop i = bt s (i : Int) :: (bytesOf s).drop (i + 1) := by
  have hl : i < (bytesOf s).length := by rw [bytesOf_length]; exact h
  rw [List.drop_eq_getElem_cons hl, ← rd_bytesOf, rd_at _ i hl]
theorem text_eq (s t : ByteArray) : (s.toList == t.toList) = decide (s = t) := by
  rw [Bool.eq_iff_iff, beq_iff_eq, decide_eq_true_eq]
  constructor
  · intro h
    rw [Go.ByteArray.toList_eq, Go.ByteArray.toList_eq] at h
    match s, t, h with
    | ⟨⟨a⟩⟩, ⟨⟨b⟩⟩, h => simp only at h; rw [h]
  · intro h; rw [h]
theorem spec_l1Decode.l1_eq (s : ByteArray) (hs : s.size ≤ 1048576) (out : List Int) (i : Nat) (hi : i + 4 ≤ s.size) (k : Nat) :
    ∃ k', k ≤ k' ∧ spec_l1Decode.l1 (k + 3) s out (i : Int) 4 = spec_l1Decode.j2 k' s out (i : Int) ((nS (bt s ((i + 2 : Nat) : Int)) (bt s ((i + 3 : Nat) : Int)) (i + 4 = s.size) : Nat) : Int) := by
  have w0 : wrap64 ((i : Int) + 4) = ((i + 4 : Nat) : Int) := by rw [wrap64_in (by omega)]; omega
  have w1 : wrap64 (((i + 4 : Nat) : Int) - 1) = ((i + 3 : Nat) : Int) := by rw [wrap64_in (by omega)]; omega
  have w2 : wrap64 (wrap64 ((i : Int) + 3) - 1) = ((i + 2 : Nat) : Int) := by rw [wrap64_in (show _ ∧ (i : Int) + 3 ≤ _ by omega), wrap64_in (by omega)]; omega
  have w3 : wrap64 ((4 : Int) - 1) = 3 := (wrap64_in (by omega)).trans (by decide)
  have w4 : wrap64 ((3 : Int) - 1) = 2 := (wrap64_in (by omega)).trans (by decide)
  unfold nS
  by_cases c1 : i + 4 = s.size
  · by_cases c2 : bt s ((i + 3 : Nat) : Int) = 61
    · by_cases c3 : bt s ((i + 2 : Nat) : Int) = 61
      · refine ⟨k, by omega, ?_⟩
        rw [if_pos ⟨c1, c2⟩, if_pos c3, spec_l1Decode.l1, if_pos (by decide), w0, if_pos (by omega), w1, if_pos (by omega), if_pos (by omega), if_pos c2, w3, spec_l1Decode.l1, if_pos (by decide), w0, if_pos (by omega), w2, if_pos (by omega), if_pos (by omega), if_pos c3, w4, spec_l1Decode.l1, if_neg (by decide)]
        rfl
      · refine ⟨k + 1, by omega, ?_⟩
        rw [if_pos ⟨c1, c2⟩, if_neg c3, spec_l1Decode.l1, if_pos (by decide), w0, if_pos (by omega), w1, if_pos (by omega), if_pos (by omega), if_pos c2, w3, spec_l1Decode.l1, if_pos (by decide), w0, if_pos (by omega), w2, if_pos (by omega), if_pos (by omega), if_neg c3]
        rfl
    · refine ⟨k + 2, by omega, ?_⟩
      rw [if_neg (fun e => c2 e.2), spec_l1Decode.l1, if_pos (by decide), w0, if_pos (by omega), w1, if_pos (by omega), if_pos (by omega), if_neg c2]
      rfl
  · refine ⟨k + 2, by omega, ?_⟩
    rw [if_neg (fun e => c1 e.1), spec_l1Decode.l1, if_pos (by decide), w0, if_neg (by omega)]
    rfl
theorem spec_l1Decode.l2_pos (s : ByteArray) (hs : s.size ≤ 1048576) (out : List Int) (i n p : Nat) (j j1 : Int) (hp : (p : Int) = (i : Int) + j) (h0 : 0 ≤ j) (hj : j < 4) (hj1 : j1 = j + 1) (hjn : j < (n : Int)) (hi : p < s.size) (k : Nat) (hk : 66 ≤ k) (v : Int) (hv : 0 ≤ v ∧ v ≤ 1000000) :
    spec_l1Decode.l2 (k + 1) s out (i : Int) (n : Int) v j = if dv (bt s (p : Int)) < 0 then some ([], false) else spec_l1Decode.l2 k s out (i : Int) (n : Int) (v * 64 + dv (bt s (p : Int))) j1 := by
  have w0 : wrap64 ((i : Int) + j) = (p : Int) := by rw [wrap64_in (by omega)]; omega
  have w1 : wrap64 (j + 1) = j1 := by rw [wrap64_in (by omega)]; omega
  have hd := dv_range (bt s (p : Int))
  rw [spec_l1Decode.l2, if_pos hj, if_pos hjn, w0, if_pos (by omega), if_pos (by omega), digit_eq _ (bt_range s _) k hk, Option.bind_some, w1]
  generalize dv (bt s (p : Int)) = x at hd
  by_cases c : x < 0
  · rw [if_pos c, if_pos c]
  · have w2 : wrap64 (wrap64 (v * 64) + x) = v * 64 + x := by rw [wrap64_in (show _ ∧ v * 64 ≤ _ by omega), wrap64_in (by omega)]
    rw [if_neg c, if_neg c, w2]
theorem spec_l1Decode.l2_neg (s : ByteArray) (out : List Int) (i n : Nat) (j j1 : Int) (h0 : 0 ≤ j) (hj : j < 4) (hj1 : j1 = j + 1) (hjn : ¬ j < (n : Int)) (k : Nat) (v : Int) (hv : 0 ≤ v ∧ v ≤ 1000000) :
    spec_l1Decode.l2 (k + 1) s out (i : Int) (n : Int) v j = spec_l1Decode.l2 k s out (i : Int) (n : Int) (v * 64 + 0) j1 := by
  have w1 : wrap64 (j + 1) = j1 := by rw [wrap64_in (by omega)]; omega
  have w2 : wrap64 (wrap64 (v * 64) + 0) = v * 64 + 0 := by rw [wrap64_in (show _ ∧ v * 64 ≤ _ by omega), wrap64_in (by omega)]
  rw [spec_l1Decode.l2, if_pos hj, if_neg hjn, if_neg (by decide), w1, w2]
theorem v_tail (v : Int) (hv : 0 ≤ v ∧ v ≤ 16777215) : ([(wrap64 (Int.tdiv v 65536)) % 256, (Int.tmod (wrap64 (Int.tdiv v 256)) 256) % 256, (Int.tmod v 256) % 256] : List Int) = [v / 65536 % 256, v / 256 % 256, v % 256] := by
  rw [tdw v 65536 hv (by decide), tdw v 256 hv (by decide), Int.tmod_eq_emod_of_nonneg hv.1, Int.tmod_eq_emod_of_nonneg (by omega)]
  congr 2
  · omega
  · congr 1
    omega
theorem spec_l1Decode.l2_end (s : ByteArray) (out : List Int) (hout : out.length ≤ 1048576) (i : Nat) (hi : i ≤ 1048576) (n : Nat) (hn : n = 2 ∨ n = 3 ∨ n = 4) (k : Nat) (v : Int) (hv : 0 ≤ v ∧ v ≤ 16777215) :
    spec_l1Decode.l2 (k + 1) s out (i : Int) (n : Int) v 4 = spec_l1Decode.l0 k s (out ++ outS v n) ((i + 4 : Nat) : Int) := by
  have w0 : wrap64 ((i : Int) + 4) = ((i + 4 : Nat) : Int) := by rw [wrap64_in (by omega)]; omega
  have w1 : wrap64 ((n : Int) - 1) = ((n - 1 : Nat) : Int) := by rw [wrap64_in (by omega)]; omega
  have hl := outS_len v n
  rw [spec_l1Decode.l2, if_neg (by decide), v_tail v hv, Option.bind_some, w1, if_pos (by omega), if_pos (by simp only [List.length_cons, List.length_nil]; omega), Int.toNat_natCast, Option.bind_some]
  show (if out.length + (outS v n).length < _ then spec_l1Decode.l0 k s (out ++ outS v n) _ else none) = _
  rw [if_pos (by omega), w0]
theorem spec_l1Decode.step (s : ByteArray) (hs : s.size ≤ 1048576) (out : List Int) (hout : out.length ≤ 1048576) (i : Nat) (hi : i + 4 ≤ s.size) (k : Nat) (hk : 66 ≤ k) (n : Nat) (hn : n = nS (bt s ((i + 2 : Nat) : Int)) (bt s ((i + 3 : Nat) : Int)) (i + 4 = s.size)) :
    ∃ k', k ≤ k' ∧ spec_l1Decode.l0 (k + 10) s out (i : Int) = if badS (bt s ((i : Nat) : Int)) (bt s ((i + 1 : Nat) : Int)) (bt s ((i + 2 : Nat) : Int)) (bt s ((i + 3 : Nat) : Int)) n then some ([], false) else spec_l1Decode.l0 k' s (out ++ outS (vS (bt s ((i : Nat) : Int)) (bt s ((i + 1 : Nat) : Int)) (bt s ((i + 2 : Nat) : Int)) (bt s ((i + 3 : Nat) : Int)) n) n) ((i + 4 : Nat) : Int) := by
  obtain ⟨k1, hk1, e1⟩ := spec_l1Decode.l1_eq s hs out i hi (k + 6)
  have hnc := nS_cases (bt s ((i + 2 : Nat) : Int)) (bt s ((i + 3 : Nat) : Int)) (i + 4 = s.size)
  rw [← hn] at e1 hnc
  obtain ⟨k2, rfl⟩ : ∃ m, k1 = m + 6 := ⟨k1 - 6, by omega⟩
  refine ⟨k2, by omega, ?_⟩
  rw [spec_l1Decode.l0, if_pos (by omega), e1, spec_l1Decode.j2]
  have p0 := spec_l1Decode.l2_pos s hs out i n i 0 1 (by omega) (by omega) (by omega) (by omega) (by omega) (by omega) (k2 + 4) (by omega) 0 (by omega)
  rw [p0]
  have r0 := dv_range (bt s ((i : Nat) : Int))
  have r1 := dv_range (bt s ((i + 1 : Nat) : Int))
  have r2 := dv_range (bt s ((i + 2 : Nat) : Int))
  have r3 := dv_range (bt s ((i + 3 : Nat) : Int))
  unfold vS
  by_cases b0 : dv (bt s ((i : Nat) : Int)) < 0
  · rw [if_pos b0, if_pos (.inl b0)]
  · have p1 := spec_l1Decode.l2_pos s hs out i n (i + 1) 1 2 (by omega) (by omega) (by omega) (by omega) (by omega) (by omega) (k2 + 3) (by omega) (0 * 64 + dv (bt s ((i : Nat) : Int))) (by omega)
    rw [if_neg b0, p1]
    by_cases b1 : dv (bt s ((i + 1 : Nat) : Int)) < 0
    · rw [if_pos b1, if_pos (.inr (.inl b1))]
    · rw [if_neg b1]
      have hv1 : 0 ≤ dv (bt s ((i : Nat) : Int)) * 64 + dv (bt s ((i + 1 : Nat) : Int)) ∧ dv (bt s ((i : Nat) : Int)) * 64 + dv (bt s ((i + 1 : Nat) : Int)) < 4096 := by omega
      rw [show (0 * 64 + dv (bt s ((i : Nat) : Int))) = dv (bt s ((i : Nat) : Int)) by omega]
      have nb : ∀ m : Nat, ¬ (2 < m ∧ dv (bt s ((i + 2 : Nat) : Int)) < 0) → ¬ (3 < m ∧ dv (bt s ((i + 3 : Nat) : Int)) < 0) → ¬ badS (bt s ((i : Nat) : Int)) (bt s ((i + 1 : Nat) : Int)) (bt s ((i + 2 : Nat) : Int)) (bt s ((i + 3 : Nat) : Int)) m := by
        intro m q1 q2 q
        rcases q with q | q | q | q
        · exact b0 q
        · exact b1 q
        · exact q1 q
        · exact q2 q
      generalize dv (bt s ((i : Nat) : Int)) * 64 + dv (bt s ((i + 1 : Nat) : Int)) = v1 at hv1
      clear p0 p1 e1 hn
      rcases hnc with h2 | h3 | h4
      · subst h2
        rw [spec_l1Decode.l2_neg s out i 2 2 3 (by omega) (by omega) (by omega) (by omega) (k2 + 2) v1 (by omega), spec_l1Decode.l2_neg s out i 2 3 4 (by omega) (by omega) (by omega) (by omega) (k2 + 1) _ (by omega), if_neg (nb 2 (by omega) (by omega)), if_neg (by decide), if_neg (by decide)]
        exact spec_l1Decode.l2_end s out hout i (by omega) 2 (by omega) k2 _ (by omega)
      · subst h3
        rw [spec_l1Decode.l2_pos s hs out i 3 (i + 2) 2 3 (by omega) (by omega) (by omega) (by omega) (by omega) (by omega) (k2 + 2) (by omega) v1 (by omega)]
        by_cases b2 : dv (bt s ((i + 2 : Nat) : Int)) < 0
        · rw [if_pos b2, if_pos (.inr (.inr (.inl ⟨by decide, b2⟩)))]
        · rw [if_neg b2, spec_l1Decode.l2_neg s out i 3 3 4 (by omega) (by omega) (by omega) (by omega) (k2 + 1) _ (by omega), if_neg (nb 3 (by omega) (by omega)), if_pos (by decide), if_neg (by decide)]
          exact spec_l1Decode.l2_end s out hout i (by omega) 3 (by omega) k2 _ (by omega)
      · subst h4
        rw [spec_l1Decode.l2_pos s hs out i 4 (i + 2) 2 3 (by omega) (by omega) (by omega) (by omega) (by omega) (by omega) (k2 + 2) (by omega) v1 (by omega)]
        by_cases b2 : dv (bt s ((i + 2 : Nat) : Int)) < 0
        · rw [if_pos b2, if_pos (.inr (.inr (.inl ⟨by decide, b2⟩)))]
        · rw [if_neg b2, spec_l1Decode.l2_pos s hs out i 4 (i + 3) 3 4 (by omega) (by omega) (by omega) (by omega) (by omega) (by omega) (k2 + 1) (by omega) _ (by omega)]
          by_cases b3 : dv (bt s ((i + 3 : Nat) : Int)) < 0
          · rw [if_pos b3, if_pos (.inr (.inr (.inr ⟨by decide, b3⟩)))]
          · rw [if_neg b3, if_neg (nb 4 (by omega) (by omega)), if_pos (by decide), if_pos (by decide)]
            exact spec_l1Decode.l2_end s out hout i (by omega) 4 (by omega) k2 _ (by omega)
theorem spec_l1Decode.l0_eq (s : ByteArray) (hs : s.size ≤ 500000) : ∀ (n k i : Nat) (out : List Int), s.size = i + 4 * n → 1048576 + 10 * n + 100 ≤ k → (∀ x ∈ out, 0 ≤ x ∧ x ≤ 255) → out.length ≤ i →
    spec_l1Decode.l0 k s out (i : Int) = some (match decS ((bytesOf s).drop i) out with | none => ([], false) | some o => (o, decide (strOfNums (impl_baseText.q o) = s)))
  | 0, k, i, out, hi, hk, hb, hl => by
    obtain ⟨k, rfl⟩ : ∃ m, k = m + 1 := ⟨k - 1, by omega⟩
    rw [spec_l1Decode.l0, if_neg (by omega), List.drop_eq_nil_of_le (by rw [bytesOf_length]; omega), spec_l1Encode_eq out k (by omega) hb (by omega), Option.bind_some, text_eq]
    rfl
  | n + 1, k, i, out, hi, hk, hb, hl => by
    obtain ⟨k, rfl⟩ : ∃ m, k = m + 10 := ⟨k - 10, by omega⟩
    obtain ⟨k', hk', e⟩ := spec_l1Decode.step s (by omega) out (by omega) i (by omega) k (by omega) _ rfl
    have hd : (bytesOf s).drop i = bt s (i : Int) :: bt s ((i + 1 : Nat) : Int) :: bt s ((i + 2 : Nat) : Int) :: bt s ((i + 3 : Nat) : Int) :: (bytesOf s).drop (i + 4) := by
      rw [drop_btD s i (by omega), drop_btD s (i + 1) (by omega), drop_btD s (i + 2) (by omega), drop_btD s (i + 3) (by omega)]
    have hlast : ((bytesOf s).drop (i + 4) = []) ↔ (i + 4 = s.size) := by
      rw [List.drop_eq_nil_iff, bytesOf_length]
      omega
    have hn : nS (bt s ((i + 2 : Nat) : Int)) (bt s ((i + 3 : Nat) : Int)) ((bytesOf s).drop (i + 4) = []) = nS (bt s ((i + 2 : Nat) : Int)) (bt s ((i + 3 : Nat) : Int)) (i + 4 = s.size) := by
      unfold nS
      simp only [hlast]
    rw [e, hd, decS, hn]
    by_cases c : badS (bt s ((i : Nat) : Int)) (bt s ((i + 1 : Nat) : Int)) (bt s ((i + 2 : Nat) : Int)) (bt s ((i + 3 : Nat) : Int)) (nS (bt s ((i + 2 : Nat) : Int)) (bt s ((i + 3 : Nat) : Int)) (i + 4 = s.size))
    · rw [if_pos c, if_pos c]
    · rw [if_neg c, if_neg c]
      have hol := outS_len (vS (bt s ((i : Nat) : Int)) (bt s ((i + 1 : Nat) : Int)) (bt s ((i + 2 : Nat) : Int)) (bt s ((i + 3 : Nat) : Int)) (nS (bt s ((i + 2 : Nat) : Int)) (bt s ((i + 3 : Nat) : Int)) (i + 4 = s.size))) (nS (bt s ((i + 2 : Nat) : Int)) (bt s ((i + 3 : Nat) : Int)) (i + 4 = s.size))
      refine spec_l1Decode.l0_eq s hs n k' (i + 4) _ (by omega) (by omega) (fun x hx => ?_) (by rw [List.length_append]; omega)
      rcases List.mem_append.1 hx with hx | hx
      · exact hb x hx
      · exact outS_byte _ _ x hx
def decI : List Int → List Int → Int → Int → Option (List Int)
  | [], out, _, _ => some out
  | x :: r, out, b, m => if dv x < 0 then none else if m = 0 then decI r out (b * 64 + dv x) 6 else if m = 6 then decI r (out ++ [(b * 64 + dv x) / 16 % 256]) ((b * 64 + dv x) % 16) 4 else if m = 4 then decI r (out ++ [(b * 64 + dv x) / 4 % 256]) ((b * 64 + dv x) % 4) 2 else decI r (out ++ [(b * 64 + dv x) % 256]) 0 0
theorem or_all : ∀ b : Fin 64, ∀ t : Fin 64, Go.bits .or .i64 ((b.val : Int) * 64) t.val = b.val * 64 + t.val := by decide +kernel
theorem or_eq (b t : Int) (hb : 0 ≤ b ∧ b < 64) (ht : 0 ≤ t ∧ t < 64) : Go.bits .or .i64 (wrap64 (b * 64)) t = b * 64 + t := by
  rw [wrap64_in (by omega)]
  have := or_all ⟨b.toNat, by omega⟩ ⟨t.toNat, by omega⟩
  simpa [Int.toNat_of_nonneg hb.1, Int.toNat_of_nonneg ht.1] using this
theorem sh_all : ∀ h : Fin 64, ∀ l : Fin 64, (shr .i64 ((h.val : Int) * 64 + l.val) 4 = ((h.val : Int) * 64 + l.val) / 16 ∧ Go.bits .and .i64 ((h.val : Int) * 64 + l.val) (wrap64 ((shl .i64 1 4) - 1)) = ((h.val : Int) * 64 + l.val) % 16) ∧ (shr .i64 ((h.val : Int) * 64 + l.val) 2 = ((h.val : Int) * 64 + l.val) / 4 ∧ Go.bits .and .i64 ((h.val : Int) * 64 + l.val) (wrap64 ((shl .i64 1 2) - 1)) = ((h.val : Int) * 64 + l.val) % 4) ∧ (shr .i64 ((h.val : Int) * 64 + l.val) 0 = ((h.val : Int) * 64 + l.val) ∧ Go.bits .and .i64 ((h.val : Int) * 64 + l.val) (wrap64 ((shl .i64 1 0) - 1)) = 0) := by decide +kernel
theorem sh_eq (b x : Int) (hb : 0 ≤ b ∧ b < 64) (hx : 0 ≤ x ∧ x < 64) : (shr .i64 (b * 64 + x) 4 = (b * 64 + x) / 16 ∧ Go.bits .and .i64 (b * 64 + x) (wrap64 ((shl .i64 1 4) - 1)) = (b * 64 + x) % 16) ∧ (shr .i64 (b * 64 + x) 2 = (b * 64 + x) / 4 ∧ Go.bits .and .i64 (b * 64 + x) (wrap64 ((shl .i64 1 2) - 1)) = (b * 64 + x) % 4) ∧ (shr .i64 (b * 64 + x) 0 = b * 64 + x ∧ Go.bits .and .i64 (b * 64 + x) (wrap64 ((shl .i64 1 0) - 1)) = 0) := by
  have := sh_all ⟨b.toNat, by omega⟩ ⟨x.toNat, by omega⟩
  rw [show ((⟨b.toNat, by omega⟩ : Fin 64).val : Int) = b from Int.toNat_of_nonneg hb.1, show ((⟨x.toNat, by omega⟩ : Fin 64).val : Int) = x from Int.toNat_of_nonneg hx.1] at this
  exact this
theorem decI_0 (x v : Int) (r out : List Int) (b : Int) (h : dv x = v) (h0 : 0 ≤ v) : decI (x :: r) out b 0 = decI r out (b * 64 + v) 6 := by rw [decI, h, if_neg (by omega), if_pos rfl]
theorem decI_6 (x v : Int) (r out : List Int) (b : Int) (h : dv x = v) (h0 : 0 ≤ v) : decI (x :: r) out b 6 = decI r (out ++ [(b * 64 + v) / 16 % 256]) ((b * 64 + v) % 16) 4 := by rw [decI, h, if_neg (by omega), if_neg (by decide), if_pos rfl]
theorem decI_4 (x v : Int) (r out : List Int) (b : Int) (h : dv x = v) (h0 : 0 ≤ v) : decI (x :: r) out b 4 = decI r (out ++ [(b * 64 + v) / 4 % 256]) ((b * 64 + v) % 4) 2 := by rw [decI, h, if_neg (by omega), if_neg (by decide), if_neg (by decide), if_pos rfl]
theorem decI_2 (x v : Int) (r out : List Int) (b : Int) (h : dv x = v) (h0 : 0 ≤ v) : decI (x :: r) out b 2 = decI r (out ++ [(b * 64 + v) % 256]) 0 0 := by rw [decI, h, if_neg (by omega), if_neg (by decide), if_neg (by decide), if_neg (by decide)]
theorem decI_ok : ∀ (L out o : List Int) (b m : Int), decI L out b m = some o → (∀ x ∈ out, 0 ≤ x ∧ x ≤ 255) → (∀ x ∈ o, 0 ≤ x ∧ x ≤ 255) ∧ o.length ≤ out.length + L.length
  | [], out, o, b, m, h, hb => by simp only [decI, Option.some.injEq] at h; subst h; exact ⟨hb, by omega⟩
  | x :: r, out, o, b, m, h, hb => by
    have ho : ∀ z : Int, ∀ y ∈ out ++ [z % 256], 0 ≤ y ∧ y ≤ 255 := by
      intro z y hy
      rcases List.mem_append.1 hy with hy | hy
      · exact hb y hy
      · rw [List.mem_singleton] at hy; omega
    rw [decI] at h
    split at h
    · cases h
    · split at h
      · have := decI_ok r out o _ _ h hb
        exact ⟨this.1, by have := this.2; rw [List.length_cons]; omega⟩
      · split at h
        · have := decI_ok r _ o _ _ h (ho _)
          exact ⟨this.1, by have := this.2; rw [List.length_append, List.length_singleton] at this; rw [List.length_cons]; omega⟩
        · split at h
          · have := decI_ok r _ o _ _ h (ho _)
            exact ⟨this.1, by have := this.2; rw [List.length_append, List.length_singleton] at this; rw [List.length_cons]; omega⟩
          · have := decI_ok r _ o _ _ h (ho _)
            exact ⟨this.1, by have := this.2; rw [List.length_append, List.length_singleton] at this; rw [List.length_cons]; omega⟩
theorem impl_baseBytes.l0_eq (s t : ByteArray) (ht : t.size ≤ 500000) : ∀ (n k i : Nat) (out : List Int) (b m : Int), t.size = i + n → n < k → (∀ x ∈ out, 0 ≤ x ∧ x ≤ 255) → out.length ≤ i → ((m = 0 ∧ b = 0) ∨ (m = 6 ∧ 0 ≤ b ∧ b < 64) ∨ (m = 4 ∧ 0 ≤ b ∧ b < 16) ∨ (m = 2 ∧ 0 ≤ b ∧ b < 4)) →
    impl_baseBytes.l0 k s t out b m (t.size : Int) (i : Int) = some (match decI ((bytesOf t).drop i) out b m with | none => ([], false) | some o => (o, decide (strOfNums (impl_baseText.q o) = s)))
  | _, 0, _, _, _, _, _, h, _, _, _ => absurd h (by omega)
  | 0, k + 1, i, out, b, m, hi, _, hb, hl, _ => by
    rw [impl_baseBytes.l0, if_neg (by omega), List.drop_eq_nil_of_le (by rw [bytesOf_length]; omega), impl_baseText_eq out (by omega) hb, Option.bind_some, text_eq]
    rfl
  | n + 1, k + 1, i, out, b, m, hi, h, hb, hl, hm => by
    have w1 : wrap64 ((i : Int) + 1) = ((i + 1 : Nat) : Int) := by rw [wrap64_in (by omega)]; omega
    have hr := dv_range (bt t (i : Int))
    have ho : ∀ z : Int, ∀ y ∈ out ++ [z % 256], 0 ≤ y ∧ y ≤ 255 := by
      intro z y hy
      rcases List.mem_append.1 hy with hy | hy
      · exact hb y hy
      · rw [List.mem_singleton] at hy; omega
    have hol : ∀ z : Int, (out ++ [z % 256]).length ≤ i + 1 := by intro z; rw [List.length_append, List.length_singleton]; omega
    have hx := ix_eq (bt t (i : Int)) (bt_range t _)
    have g1 : (i : Int) < (t.size : Int) := by omega
    have g2 : (0 : Int) ≤ (i : Int) := by omega
    have g3 : out.length < 140737488355328 := by omega
    unfold digT at hx
    rw [impl_baseBytes.l0, if_pos g1, if_pos g2, if_pos g1, hx, Option.bind_some, w1, drop_btD t i (by omega), decI]
    generalize dv (bt t (i : Int)) = x at hr
    by_cases c : x < 0
    · rw [if_pos c, if_pos c]
    · rw [if_neg c, if_neg c]
      have q60 : wrap64 ((0 : Int) + 6) = 6 := (wrap64_in (by omega)).trans (by decide)
      have q66 : wrap64 ((6 : Int) + 6) = 12 := (wrap64_in (by omega)).trans (by decide)
      have q64 : wrap64 ((4 : Int) + 6) = 10 := (wrap64_in (by omega)).trans (by decide)
      have q62 : wrap64 ((2 : Int) + 6) = 8 := (wrap64_in (by omega)).trans (by decide)
      have q12 : wrap64 ((12 : Int) - 8) = 4 := (wrap64_in (by omega)).trans (by decide)
      have q10 : wrap64 ((10 : Int) - 8) = 2 := (wrap64_in (by omega)).trans (by decide)
      have q8 : wrap64 ((8 : Int) - 8) = 0 := (wrap64_in (by omega)).trans (by decide)
      rcases hm with ⟨rfl, rfl⟩ | ⟨rfl, h1, h2⟩ | ⟨rfl, h1, h2⟩ | ⟨rfl, h1, h2⟩
      · rw [or_eq 0 x (by omega) (by omega), q60, if_neg (by decide), if_pos rfl]
        exact impl_baseBytes.l0_eq s t ht n k (i + 1) out _ 6 (by omega) (by omega) hb (by omega) (.inr (.inl ⟨rfl, by omega, by omega⟩))
      · obtain ⟨⟨e1, e2⟩, _, _⟩ := sh_eq b x (by omega) (by omega)
        rw [or_eq b x (by omega) (by omega), q66, q12, e1, e2, if_pos (by decide), if_pos (by decide), if_pos g3, if_neg (by decide), if_pos rfl]
        exact impl_baseBytes.l0_eq s t ht n k (i + 1) _ _ 4 (by omega) (by omega) (ho _) (hol _) (.inr (.inr (.inl ⟨rfl, by omega, by omega⟩)))
      · obtain ⟨_, ⟨e1, e2⟩, _⟩ := sh_eq b x (by omega) (by omega)
        rw [or_eq b x (by omega) (by omega), q64, q10, e1, e2, if_pos (by decide), if_pos (by decide), if_pos g3, if_neg (by decide), if_neg (by decide), if_pos rfl]
        exact impl_baseBytes.l0_eq s t ht n k (i + 1) _ _ 2 (by omega) (by omega) (ho _) (hol _) (.inr (.inr (.inr ⟨rfl, by omega, by omega⟩)))
      · obtain ⟨_, _, e1, e2⟩ := sh_eq b x (by omega) (by omega)
        rw [or_eq b x (by omega) (by omega), q62, q8, e1, e2, if_pos (by decide), if_pos (by decide), if_pos g3, if_neg (by decide), if_neg (by decide), if_neg (by decide)]
        exact impl_baseBytes.l0_eq s t ht n k (i + 1) _ 0 0 (by omega) (by omega) (ho _) (hol _) (.inl ⟨rfl, rfl⟩)
def qd : List Int → List Int
  | [] => []
  | [a] => [impl_baseText.dg (a / 4 % 64), impl_baseText.dg (a % 4 * 16)]
  | [a, b] => [impl_baseText.dg (a / 4 % 64), impl_baseText.dg (a % 4 * 16 + b / 16), impl_baseText.dg (b % 16 * 4)]
  | a :: b :: c :: rest => impl_baseText.dg (a / 4 % 64) :: impl_baseText.dg (a % 4 * 16 + b / 16) :: impl_baseText.dg (b % 16 * 4 + c / 64) :: impl_baseText.dg (c % 64) :: qd rest
theorem qd_spec : ∀ (n : Nat) (D : List Int), D.length ≤ n → (∀ x ∈ D, 0 ≤ x ∧ x ≤ 255) → (∃ p, impl_baseText.q D = qd D ++ List.replicate p 61) ∧ (∀ x ∈ qd D, x ≠ 61) ∧ (∀ x ∈ impl_baseText.q D, 0 ≤ x ∧ x ≤ 255) ∧ (impl_baseText.q D).length % 4 = 0 ∧ (∀ out, decI (qd D) out 0 0 = some (out ++ D)) ∧ (∀ out, decS (impl_baseText.q D) out = some (out ++ D)) ∧ (impl_baseText.q D = [] → D = []) := by
  intro n
  induction n using Nat.strongRecOn with
  | _ n ih =>
    intro D hn hb
    match D, hn, hb with
    | [], _, _ => exact ⟨⟨0, rfl⟩, by simp [qd], by simp [impl_baseText.q], rfl, by simp [qd, decI], by simp [impl_baseText.q, decS], fun _ => rfl⟩
    | [a], _, hb =>
      have ha := hb a (by simp)
      have d0 := dg_dv (a / 4 % 64) (by omega)
      have d1 := dg_dv (a % 4 * 16) (by omega)
      have v1 : vS (impl_baseText.dg (a / 4 % 64)) (impl_baseText.dg (a % 4 * 16)) 61 61 2 = a * 65536 := by
        unfold vS
        rw [d0.1, d1.1, if_neg (by decide), if_neg (by decide)]
        omega
      refine ⟨⟨2, rfl⟩, ?_, ?_, by simp [impl_baseText.q], ?_, ?_, by simp [impl_baseText.q]⟩
      · intro x hx
        simp only [qd, List.mem_cons, List.not_mem_nil, or_false] at hx
        rcases hx with rfl | rfl
        · exact d0.2.1
        · exact d1.2.1
      · intro x hx
        simp only [impl_baseText.q, List.mem_cons, List.not_mem_nil, or_false] at hx
        rcases hx with rfl | rfl | rfl | rfl
        · exact d0.2.2
        · exact d1.2.2
        · decide
        · decide
      · intro out
        rw [qd, decI_0 _ _ _ _ _ d0.1 (by omega), decI_6 _ _ _ _ _ d1.1 (by omega), decI]
        congr 3
        omega
      · intro out
        rw [impl_baseText.q, decS]
        have hnS : nS (61 : Int) 61 (([] : List Int) = []) = 2 := by unfold nS; rfl
        rw [hnS, v1, if_neg (by unfold badS; rw [d0.1, d1.1]; omega)]
        show some (out ++ [a * 65536 / 65536 % 256]) = _
        congr 3
        omega
    | [a, b], _, hb =>
      have ha := hb a (by simp)
      have hb2 := hb b (by simp)
      have d0 := dg_dv (a / 4 % 64) (by omega)
      have d1 := dg_dv (a % 4 * 16 + b / 16) (by omega)
      have d2 := dg_dv (b % 16 * 4) (by omega)
      have v1 : vS (impl_baseText.dg (a / 4 % 64)) (impl_baseText.dg (a % 4 * 16 + b / 16)) (impl_baseText.dg (b % 16 * 4)) 61 3 = a * 65536 + b * 256 := by
        unfold vS
        rw [d0.1, d1.1, if_pos (by decide), if_neg (by decide), d2.1]
        omega
      refine ⟨⟨1, rfl⟩, ?_, ?_, by simp [impl_baseText.q], ?_, ?_, by simp [impl_baseText.q]⟩
      · intro x hx
        simp only [qd, List.mem_cons, List.not_mem_nil, or_false] at hx
        rcases hx with rfl | rfl | rfl
        · exact d0.2.1
        · exact d1.2.1
        · exact d2.2.1
      · intro x hx
        simp only [impl_baseText.q, List.mem_cons, List.not_mem_nil, or_false] at hx
        rcases hx with rfl | rfl | rfl | rfl
        · exact d0.2.2
        · exact d1.2.2
        · exact d2.2.2
        · decide
      · intro out
        rw [qd, decI_0 _ _ _ _ _ d0.1 (by omega), decI_6 _ _ _ _ _ d1.1 (by omega), decI_4 _ _ _ _ _ d2.1 (by omega), decI, List.append_assoc]
        congr 2
        simp only [List.singleton_append]
        congr 2
        · omega
        · congr 1
          omega
      · intro out
        rw [impl_baseText.q, decS]
        have hnS : nS (impl_baseText.dg (b % 16 * 4)) 61 (([] : List Int) = []) = 3 := by unfold nS; rw [if_pos ⟨rfl, rfl⟩, if_neg d2.2.1]
        rw [hnS, v1, if_neg (by unfold badS; rw [d0.1, d1.1, d2.1]; omega)]
        show some (out ++ [(a * 65536 + b * 256) / 65536 % 256, (a * 65536 + b * 256) / 256 % 256]) = _
        congr 2
        congr 1
        · omega
        · congr 1
          omega
    | a :: b :: c :: r, hn, hb =>
      simp only [List.length_cons] at hn
      have ha := hb a (by simp)
      have hb2 := hb b (by simp)
      have hc := hb c (by simp)
      obtain ⟨⟨p, i1⟩, i2, i3, i4, i5, i6, i7⟩ := ih r.length (by omega) r (Nat.le_refl _) (fun x hx => hb x (by simp [hx]))
      have d0 := dg_dv (a / 4 % 64) (by omega)
      have d1 := dg_dv (a % 4 * 16 + b / 16) (by omega)
      have d2 := dg_dv (b % 16 * 4 + c / 64) (by omega)
      have d3 := dg_dv (c % 64) (by omega)
      have v1 : vS (impl_baseText.dg (a / 4 % 64)) (impl_baseText.dg (a % 4 * 16 + b / 16)) (impl_baseText.dg (b % 16 * 4 + c / 64)) (impl_baseText.dg (c % 64)) 4 = a * 65536 + b * 256 + c := by
        unfold vS
        rw [d0.1, d1.1, if_pos (by decide), if_pos (by decide), d2.1, d3.1]
        omega
      refine ⟨⟨p, by simp only [impl_baseText.q, qd, i1, List.cons_append]⟩, ?_, ?_, ?_, ?_, ?_, by simp [impl_baseText.q]⟩
      · intro x hx
        simp only [qd, List.mem_cons] at hx
        rcases hx with rfl | rfl | rfl | rfl | hx
        · exact d0.2.1
        · exact d1.2.1
        · exact d2.2.1
        · exact d3.2.1
        · exact i2 x hx
      · intro x hx
        simp only [impl_baseText.q, List.mem_cons] at hx
        rcases hx with rfl | rfl | rfl | rfl | hx
        · exact d0.2.2
        · exact d1.2.2
        · exact d2.2.2
        · exact d3.2.2
        · exact i3 x hx
      · simp only [impl_baseText.q, List.length_cons]
        omega
      · intro out
        rw [qd, decI_0 _ _ _ _ _ d0.1 (by omega), decI_6 _ _ _ _ _ d1.1 (by omega), decI_4 _ _ _ _ _ d2.1 (by omega), decI_2 _ _ _ _ _ d3.1 (by omega), i5]
        have h1 : ((0 * 64 + a / 4 % 64) * 64 + (a % 4 * 16 + b / 16)) / 16 % 256 = a := by omega
        have h2 : (((0 * 64 + a / 4 % 64) * 64 + (a % 4 * 16 + b / 16)) % 16 * 64 + (b % 16 * 4 + c / 64)) / 4 % 256 = b := by omega
        have h3 : ((((0 * 64 + a / 4 % 64) * 64 + (a % 4 * 16 + b / 16)) % 16 * 64 + (b % 16 * 4 + c / 64)) % 4 * 64 + c % 64) % 256 = c := by omega
        rw [h1, h2, h3]
        simp
      · intro out
        simp only [impl_baseText.q, decS]
        have hnS : nS (impl_baseText.dg (b % 16 * 4 + c / 64)) (impl_baseText.dg (c % 64)) (impl_baseText.q r = []) = 4 := by unfold nS; rw [if_neg (fun e => d3.2.1 e.2)]
        rw [hnS, v1, if_neg (by unfold badS; rw [d0.1, d1.1, d2.1, d3.1]; omega), i6]
        have h1 : (a * 65536 + b * 256 + c) / 65536 % 256 = a := by omega
        have h2 : (a * 65536 + b * 256 + c) / 256 % 256 = b := by omega
        have h3 : (a * 65536 + b * 256 + c) % 256 = c := by omega
        show some ((out ++ [(a * 65536 + b * 256 + c) / 65536 % 256, (a * 65536 + b * 256 + c) / 256 % 256, (a * 65536 + b * 256 + c) % 256]) ++ r) = _
        rw [h1, h2, h3, List.append_assoc]
        rfl
theorem trim_len (l : List UInt8) (c : UInt8) : (Lib.trimRightB l c).length ≤ l.length := by
  unfold Lib.trimRightB
  rw [List.length_reverse]
  refine Nat.le_trans (List.dropWhile_sublist _).length_le ?_
  rw [List.length_reverse]
  exact Nat.le_refl _
theorem drop_rep (X : List UInt8) (hX : ∀ x ∈ X, x ≠ 61) : ∀ p : Nat, (List.replicate p (61 : UInt8) ++ X).dropWhile (· == 61) = X
  | 0 => by
    rw [List.replicate_zero, List.nil_append]
    cases X with
    | nil => rfl
    | cons x r => rw [List.dropWhile_cons_of_neg (by simpa using hX x (by simp))]
  | p + 1 => by
    rw [List.replicate_succ, List.cons_append, List.dropWhile_cons_of_pos (by simp)]
    exact drop_rep X hX p
theorem u8_ne (x : Int) (h : 0 ≤ x ∧ x ≤ 255) (hx : x ≠ 61) : UInt8.ofNat x.toNat ≠ 61 := by
  intro e
  have := u8_eq x 61 h (by omega)
  rw [show (61 : Int).toNat.toUInt8 = (61 : UInt8) from rfl, e, beq_self_eq_true] at this
  exact hx (of_decide_eq_true this.symm)
theorem trim_qd (Q : List Int) (hQ : ∀ x ∈ Q, x ≠ 61) (hB : ∀ x ∈ Q, 0 ≤ x ∧ x ≤ 255) (p : Nat) : strings_TrimRight.f (strOfNums (Q ++ List.replicate p 61)) (⟨#[61]⟩ : ByteArray) = if (strOfNums (Q ++ List.replicate p 61)).size ≤ 9223372036854775807 then some (strOfNums Q) else none := by
  unfold strings_TrimRight.f
  have h1 : (⟨#[61]⟩ : ByteArray).size = 1 := rfl
  have h2 : bt (⟨#[61]⟩ : ByteArray) 0 = 61 := rfl
  have h3 : (61 : Int).toNat.toUInt8 = (61 : UInt8) := rfl
  rw [h1, h2, h3]
  have hd : (strOfNums (Q ++ List.replicate p 61)).data.toList = Q.map (fun n : Int => UInt8.ofNat n.toNat) ++ List.replicate p (61 : UInt8) := by
    simp [strOfNums]
  by_cases c : (strOfNums (Q ++ List.replicate p 61)).size ≤ 9223372036854775807
  · rw [if_pos ⟨rfl, by decide, c⟩, if_pos c, hd]
    unfold Lib.trimRightB
    rw [List.reverse_append, List.reverse_replicate, drop_rep _ (fun x hx => by
      rw [List.mem_reverse] at hx
      obtain ⟨y, hy, rfl⟩ := List.mem_map.1 hx
      exact u8_ne y (hB y hy) (hQ y hy)) p, List.reverse_reverse]
    simp [strOfNums]
  · rw [if_neg c, if_neg (fun e => c e.2.2)]
theorem q_size : ∀ (n : Nat) (L : List Int), L.length ≤ n → (impl_baseText.q L).length = (L.length + 2) / 3 * 4 := by
  intro n
  induction n using Nat.strongRecOn with
  | _ n ih =>
    intro L h
    match L, h with
    | [], _ => simp [impl_baseText.q]
    | [a], _ => simp [impl_baseText.q]
    | [a, b], _ => simp [impl_baseText.q]
    | a :: b :: c :: r, h =>
      simp only [List.length_cons] at h
      have := ih r.length (by omega) r (Nat.le_refl _)
      simp only [impl_baseText.q, List.length_cons]
      omega
theorem dec_yes (D : List Int) (hDb : ∀ x ∈ D, 0 ≤ x ∧ x ≤ 255) (hq : (impl_baseText.q D).length ≤ 1600) (k : Nat) (hk : 1090000 < k) : spec_l1Decode.f k (strOfNums (impl_baseText.q D)) = some (D, true) ∧ impl_baseBytes.f k (strOfNums (impl_baseText.q D)) = some (D, true) := by
  obtain ⟨⟨p, i1⟩, i2, i3, i4, i5, i6, _⟩ := qd_spec D.length D (Nat.le_refl _) hDb
  have hnb : ∀ x ∈ ([] : List Int), 0 ≤ x ∧ x ≤ 255 := by simp
  have hDq := bytesOf_strOfNums _ i3
  have hsz := strOfNums_size (impl_baseText.q D)
  have hqb : ∀ x ∈ qd D, 0 ≤ x ∧ x ≤ 255 := fun x hx => i3 x (by rw [i1]; exact List.mem_append_left _ hx)
  have hql : (qd D).length ≤ 1600 := by
    rw [i1, List.length_append] at hq
    omega
  have et : strings_TrimRight.f (strOfNums (impl_baseText.q D)) (⟨#[61]⟩ : ByteArray) = some (strOfNums (qd D)) := by
    have := trim_qd (qd D) i2 hqb p
    rw [← i1, if_pos (by omega)] at this
    exact this
  have c4 : (((strOfNums (impl_baseText.q D)).size : Int) % 4) = 0 := by omega
  have e1 := spec_l1Decode.l0_eq (strOfNums (impl_baseText.q D)) (by omega) ((impl_baseText.q D).length / 4) k 0 [] (by omega) (by omega) hnb (Nat.zero_le _)
  have e2 := impl_baseBytes.l0_eq (strOfNums (impl_baseText.q D)) (strOfNums (qd D)) (by rw [strOfNums_size]; omega) (qd D).length k 0 [] 0 0 (by rw [strOfNums_size]; omega) (by omega) hnb (Nat.zero_le _) (.inl ⟨rfl, rfl⟩)
  rw [show ((0 : Nat) : Int) = 0 from rfl, List.drop_zero, hDq, i6, List.nil_append] at e1
  rw [show ((0 : Nat) : Int) = 0 from rfl, List.drop_zero, bytesOf_strOfNums _ hqb, i5, List.nil_append] at e2
  unfold spec_l1Decode.f impl_baseBytes.f
  rw [if_pos c4, if_pos c4, e1, et, Option.bind_some, e2]
  simp only [decide_true]
  exact ⟨trivial, trivial⟩
theorem dec_back (D : List Int) (hDb : ∀ x ∈ D, 0 ≤ x ∧ x ≤ 255) (hl : D.length ≤ 400) (k : Nat) (hk : 1090000 < k) : impl_DecodeBase.f k (strOfNums (impl_baseText.q D)) = some (0, D) := by
  have hq := q_size D.length D (Nat.le_refl _)
  have hsz := strOfNums_size (impl_baseText.q D)
  unfold impl_DecodeBase.f
  rw [if_neg (by omega), (dec_yes D hDb (by omega) k hk).2, Option.bind_some]
  simp only [if_true]
  rw [if_neg (by omega)]
theorem base_told (s : ByteArray) (h4 : s.size ≤ 400) : ∃ (D2 : List Int) (ok : Bool) (c : Int), (∀ x ∈ D2, 0 ≤ x ∧ x ≤ 255) ∧ D2.length ≤ 400 ∧ ((ok = true ∧ c = 0) ∨ (ok = false ∧ c ≠ 0)) ∧ ∀ k, 1090000 < k → (∃ D, spec_l1Decode.f k s = some (D, ok) ∧ (ok = true → D = D2)) ∧ impl_DecodeBase.f k s = some (c, D2) := by
  unfold impl_DecodeBase.f
  by_cases c : (s.size : Int) > 1600
  · omega
  · simp only [if_neg c]
    have hbl := bytesOf_length s
    by_cases hD : ∃ D : List Int, (∀ x ∈ D, 0 ≤ x ∧ x ≤ 255) ∧ bytesOf s = impl_baseText.q D
    · obtain ⟨D, hDb, hDq⟩ := hD
      have hs : s = strOfNums (impl_baseText.q D) := by rw [← hDq, strOfNums_bytesOf]
      have hy := dec_yes D hDb (by rw [← hDq, hbl]; omega)
      rw [← hs] at hy
      have hqs := q_size D.length D (Nat.le_refl _)
      have hdl : (impl_baseText.q D).length = s.size := by rw [← hDq, hbl]
      refine ⟨D, true, 0, hDb, by omega, .inl ⟨rfl, rfl⟩, fun k hk => ?_⟩
      obtain ⟨h1, h2⟩ := hy k hk
      refine ⟨⟨D, h1, fun _ => rfl⟩, ?_⟩
      rw [h2, Option.bind_some]
      simp only [if_true]
      rw [if_neg (by omega)]
    · refine ⟨[], false, 7, by simp, by simp, .inr ⟨rfl, by decide⟩, fun k hk => ?_⟩
      unfold spec_l1Decode.f impl_baseBytes.f
      by_cases c4 : ((s.size : Int) % 4) = 0
      · simp only [if_pos c4]
        obtain ⟨n, hn⟩ : ∃ n, s.size = 0 + 4 * n := ⟨s.size / 4, by omega⟩
        have hnb : ∀ x ∈ ([] : List Int), 0 ≤ x ∧ x ≤ 255 := by simp
        have hno : ∀ o : List Int, (∀ x ∈ o, 0 ≤ x ∧ x ≤ 255) → decide (strOfNums (impl_baseText.q o) = s) = false := by
          intro o ho
          refine decide_eq_false (fun e => hD ⟨o, ho, ?_⟩)
          rw [← e, bytesOf_strOfNums _ (qd_spec o.length o (Nat.le_refl _) ho).2.2.1]
        have e1 := spec_l1Decode.l0_eq s (by omega) n k 0 [] hn (by omega) hnb (Nat.zero_le _)
        rw [show ((0 : Nat) : Int) = 0 from rfl] at e1
        have hS : ∃ o, spec_l1Decode.l0 k s [] 0 = some (o, false) := by
          rw [e1]
          cases hc : decS ((bytesOf s).drop 0) [] with
          | none => exact ⟨[], rfl⟩
          | some o => exact ⟨o, by rw [← hno o (decS_ok _ _ [] o (Nat.le_refl _) hc hnb).1]⟩
        have et : ∃ t : ByteArray, t.size ≤ 1600 ∧ strings_TrimRight.f s (⟨#[61]⟩ : ByteArray) = some t := by
          unfold strings_TrimRight.f
          rw [if_pos ⟨rfl, by decide, by omega⟩]
          refine ⟨_, ?_, rfl⟩
          have := trim_len s.data.toList (bt (⟨#[61]⟩ : ByteArray) 0).toNat.toUInt8
          show (Lib.trimRightB _ _).toArray.size ≤ _
          rw [List.size_toArray]
          have hsz : s.data.toList.length = s.size := by rw [Array.length_toList]; rfl
          omega
        obtain ⟨t, htl, et⟩ := et
        have e2 := impl_baseBytes.l0_eq s t (by omega) t.size k 0 [] 0 0 (by omega) (by omega) hnb (Nat.zero_le _) (.inl ⟨rfl, rfl⟩)
        rw [show ((0 : Nat) : Int) = 0 from rfl] at e2
        have hI : ∃ o, impl_baseBytes.l0 k s t [] 0 0 (t.size : Int) 0 = some (o, false) := by
          rw [e2]
          cases hc : decI ((bytesOf t).drop 0) [] 0 0 with
          | none => exact ⟨[], rfl⟩
          | some o => exact ⟨o, by rw [← hno o (decI_ok _ [] o 0 0 hc hnb).1]⟩
        obtain ⟨o1, h1⟩ := hS
        obtain ⟨o2, h2⟩ := hI
        rw [h1, et, Option.bind_some, h2]
        exact ⟨⟨o1, rfl, fun h => by cases h⟩, rfl⟩
      · simp only [if_neg c4]
        exact ⟨⟨_, rfl, fun h => by cases h⟩, rfl⟩
theorem in_eq (a b c : Int) : spec_l1In.f a b c = some (decide (b ≤ a ∧ a ≤ c)) := by
  unfold spec_l1In.f; by_cases h : a ≥ b <;> simp [h] <;> omega
def Cyr (c : Int) : Prop := (0 ≤ c ∧ c ≤ 160) ∨ c = 173 ∨ c = 167 ∨ c = 8470 ∨ ((1025 ≤ c ∧ c ≤ 1119) ∧ c ≠ 1037 ∧ c ≠ 1104 ∧ c ≠ 1117)
instance (c : Int) : Decidable (Cyr c) := by unfold Cyr; infer_instance
def cyrV (c : Int) : Int := if (0 ≤ c ∧ c ≤ 160) ∨ c = 173 then c else if c = 167 then 253 else if c = 8470 then 240 else c - 864
theorem cyr (k : Nat) (c : Int) : ∃ v, spec_l2Cyrillic.f (k + 1) c = some v ∧ (v ≥ 0 ↔ Cyr c) ∧ (Cyr c → v = cyrV c) := by
  simp only [spec_l2Cyrillic.f, spec_l2Cyrillic.j0, in_eq, Option.bind_some, decide_eq_true_eq, beq_iff_eq, if_true]
  unfold wrap64 Cyr cyrV
  by_cases h1 : 0 ≤ c ∧ c ≤ 160
  · rw [if_pos h1, if_pos (Or.inl h1)]; refine ⟨c, rfl, ?_, fun _ => rfl⟩; omega
  · rw [if_neg h1]
    by_cases h2 : c = 173
    · rw [if_pos h2, if_pos (Or.inr h2)]; refine ⟨c, rfl, ?_, fun _ => rfl⟩; omega
    · rw [if_neg h2, if_neg (show ¬ ((0 ≤ c ∧ c ≤ 160) ∨ c = 173) by omega)]
      repeat' split
      all_goals refine ⟨_, rfl, ?_, ?_⟩
      all_goals omega
def hasB (a c : Int) : Bool := if a = 1 then decide (0 ≤ c ∧ c ≤ 127) else if a = 2 then decide (0 ≤ c ∧ c ≤ 255) else if a = 3 then decide (Cyr c) else true
theorem spec_l2Has_eq (k : Nat) (a c : Int) : spec_l2Has.f (k + 1) a c = some (hasB a c) := by
  obtain ⟨v, hv, hp, _⟩ := cyr k c
  simp only [spec_l2Has.f, in_eq, hv, Option.bind_some, hasB]
  repeat' split
  all_goals simp [hp]
theorem within_eq (a b c : Int) : impl_within.f a b c = some (decide (b ≤ a ∧ a ≤ c)) := by
  unfold impl_within.f; by_cases h : a ≥ b <;> simp [h] <;> omega
def charB (c : Int) : Bool := decide (0 ≤ c ∧ c ≤ 55295) || decide (57344 ≤ c ∧ c ≤ 65535)
theorem charB_iff (c : Int) : charB c = true ↔ (0 ≤ c ∧ c ≤ 55295) ∨ (57344 ≤ c ∧ c ≤ 65535) := by
  simp [charB]
theorem impl_isChar_eq (c : Int) : impl_isChar.f c = some (charB c) := by
  simp only [impl_isChar.f, within_eq, Option.bind_some]
  have hr : charB c = (decide (0 ≤ c ∧ c ≤ 65535) && !decide (55296 ≤ c ∧ c ≤ 57343)) := by
    rw [Bool.eq_iff_iff]; simp only [charB, Bool.and_eq_true, Bool.or_eq_true, Bool.not_eq_true', decide_eq_true_eq, decide_eq_false_iff_not]; omega
  rw [hr]
  generalize decide (0 ≤ c ∧ c ≤ 65535) = x
  cases x <;> simp
theorem impl_HasChar.j0_eq (k : Nat) (a c : Int) (h0 : 0 ≤ c) : impl_HasChar.j0 (k + 1) a c false = some (hasB a c) := by
  simp only [impl_HasChar.j0, within_eq, Option.bind_some, decide_eq_true_eq, Bool.false_eq_true, if_false, hasB]
  by_cases h1 : a = 1
  · simp [h1, h0]
  by_cases h2 : a = 2
  · simp [h2, h0]
  by_cases h3 : a = 3
  · simp only [h1, h2, h3, if_true, if_false]
    simp only [show ¬ ((3 : Int) = 1) by decide, show ¬ ((3 : Int) = 2) by decide, if_false]
    repeat' split
    all_goals (refine congrArg some ?_; rw [Bool.eq_iff_iff]; simp only [decide_eq_true_eq, beq_iff_eq, true_iff]; unfold Cyr; omega)
  · simp [h1, h2, h3]
theorem impl_isCharset_eq (a : Int) : impl_isCharset.f a = some (decide (1 ≤ a ∧ a ≤ 5)) := by
  simp only [impl_isCharset.f, within_eq, Option.bind_some]
theorem impl_HasChar_eq (k : Nat) (a c : Int) : impl_HasChar.f (k + 1) a c = some (charB c && (decide (1 ≤ a ∧ a ≤ 5) && hasB a c)) := by
  simp only [impl_HasChar.f, impl_isChar_eq, impl_isCharset_eq, Option.bind_some]
  cases hc : charB c with
  | false => simp [impl_HasChar.j0]
  | true =>
    have h0 : 0 ≤ c := by have := (charB_iff c).1 hc; omega
    rw [if_pos rfl]
    cases hd : decide (1 ≤ a ∧ a ≤ 5) with
    | false => simp [impl_HasChar.j0]
    | true => rw [Bool.not_true, impl_HasChar.j0_eq k a c h0]; rfl
def encB (a c : Int) : List Int :=
  if a = 1 ∨ a = 2 then [c % 256] else if a = 3 then [cyrV c % 256] else if a = 5 then [(wrap64 (Int.tdiv c 256)) % 256, (Int.tmod c 256) % 256]
  else if c < 128 then [c % 256] else if c < 2048 then [(wrap64 (192 + (wrap64 (Int.tdiv c 64)))) % 256, (wrap64 (128 + (Int.tmod c 64))) % 256]
  else [(wrap64 (224 + (wrap64 (Int.tdiv c 4096)))) % 256, (wrap64 (128 + (Int.tmod (wrap64 (Int.tdiv c 64)) 64))) % 256, (wrap64 (128 + (Int.tmod c 64))) % 256]
theorem encB_len (a c : Int) : (encB a c).length ≤ 3 := by
  unfold encB
  repeat' split
  all_goals simp
theorem flat_len (a : Int) : ∀ l : List Int, (l.flatMap (encB a)).length ≤ 3 * l.length
  | [] => by simp
  | x :: xs => by
    have h1 := flat_len a xs
    have h2 := encB_len a x
    rw [List.flatMap_cons, List.length_append, List.length_cons]
    omega
theorem impl_encodeChar_eq (k : Nat) (a c : Int) (ha : 1 ≤ a ∧ a ≤ 5) (h0 : 0 ≤ c ∧ c ≤ 65535) : impl_encodeChar.f (k + 3) a c = some (encB a c) := by
  unfold impl_encodeChar.f encB
  have : a = 1 ∨ a = 2 ∨ a = 3 ∨ a = 4 ∨ a = 5 := by omega
  rcases this with rfl | rfl | rfl | rfl | rfl
  · simp [impl_encodeChar.j0, impl_encodeChar.j1, impl_encodeChar.j2]
  · simp [impl_encodeChar.j0, impl_encodeChar.j1, impl_encodeChar.j2]
  · have hw : wrap64 (c - 864) = c - 864 := wrap64_in (by omega)
    have h0' := h0.1
    by_cases h1 : c ≤ 160
    · simp [impl_encodeChar.j0, impl_encodeChar.j1, impl_encodeChar.j2, cyrV, h1, h0']
    · by_cases h2 : c = 173
      · simp [impl_encodeChar.j0, impl_encodeChar.j1, impl_encodeChar.j2, cyrV, h2]
      · by_cases h3 : c = 167
        · simp [impl_encodeChar.j0, impl_encodeChar.j1, impl_encodeChar.j2, cyrV, h3]
        · by_cases h4 : c = 8470
          · simp [impl_encodeChar.j0, impl_encodeChar.j1, impl_encodeChar.j2, cyrV, h4]
          · simp [impl_encodeChar.j0, impl_encodeChar.j1, impl_encodeChar.j2, cyrV, h1, h2, h3, h4, hw]
  · by_cases h1 : c < 128
    · have h2 : ¬ (128 ≤ c) := by omega
      have h3 : ¬ (2048 ≤ c) := by omega
      simp [impl_encodeChar.j0, impl_encodeChar.j1, impl_encodeChar.j2, impl_encodeChar_1.f, h1, h2, h3]
    · have h2 : 128 ≤ c := by omega
      by_cases h4 : c < 2048
      · have h3 : ¬ (2048 ≤ c) := by omega
        simp [impl_encodeChar.j0, impl_encodeChar.j1, impl_encodeChar.j2, impl_encodeChar_1.f, h1, h2, h3, h4]
      · have h3 : 2048 ≤ c := by omega
        simp [impl_encodeChar.j0, impl_encodeChar.j1, impl_encodeChar.j2, impl_encodeChar_1.f, h1, h2, h3, h4]
  · simp
theorem encB_bytes (a c : Int) : ∀ x ∈ encB a c, 0 ≤ x ∧ x ≤ 255 := by
  intro x hx
  unfold encB at hx
  repeat' split at hx
  all_goals simp only [List.mem_cons, List.mem_nil_iff, or_false] at hx
  all_goals omega
theorem byte_inj : ∀ (t u : List Int), (∀ x ∈ t, 0 ≤ x ∧ x ≤ 255) → (∀ x ∈ u, 0 ≤ x ∧ x ≤ 255) → (t.map (fun n => UInt8.ofNat n.toNat) = u.map (fun n => UInt8.ofNat n.toNat) ↔ t = u)
  | [], [], _, _ => by simp
  | [], _ :: _, _, _ => by simp
  | _ :: _, [], _, _ => by simp
  | x :: xs, y :: ys, ht, hu => by
    have h1 := ht x (by simp)
    have h2 := hu y (by simp)
    have ih := byte_inj xs ys (fun z hz => ht z (by simp [hz])) (fun z hz => hu z (by simp [hz]))
    rw [List.map_cons, List.map_cons, List.cons.injEq, List.cons.injEq, ih]
    have e : UInt8.ofNat x.toNat = UInt8.ofNat y.toNat ↔ x = y := by
      constructor
      · intro h
        have := congrArg UInt8.toNat h
        rw [UInt8.toNat_ofNat', UInt8.toNat_ofNat'] at this
        omega
      · rintro rfl; rfl
    rw [e]
theorem bytes_Equal_eq (t u : List Int) (ht : ∀ x ∈ t, 0 ≤ x ∧ x ≤ 255) (hu : ∀ x ∈ u, 0 ≤ x ∧ x ≤ 255) : bytes_Equal.f t u = some (decide (t = u)) := by
  unfold bytes_Equal.f
  rw [Go.ByteArray.toList_eq, Go.ByteArray.toList_eq]
  congr 1
  rw [Bool.eq_iff_iff, beq_iff_eq, decide_eq_true_eq]
  exact byte_inj t u ht hu
def cy (cs b : Int) : Int := if cs = 3 then (if b = 253 then 167 else if b = 240 then 8470 else if b > 160 ∧ b ≠ 173 then b + 864 else b) else b
def moreD : List Int → Int
  | [] => -1
  | y :: _ => if 128 ≤ y ∧ y ≤ 191 then y - 128 else -1
def oneF (cs b : Int) (r : List Int) : Int × Int :=
  if cs = 4 then (if b < 128 then (b, 1) else if 194 ≤ b ∧ b < 224 ∧ 0 ≤ moreD r then ((b - 192) * 64 + moreD r, 2)
    else if 224 ≤ b ∧ b < 240 ∧ 0 ≤ moreD r ∧ 0 ≤ moreD r.tail ∧ 2048 ≤ (b - 224) * 4096 + moreD r * 64 + moreD r.tail ∧ charB ((b - 224) * 4096 + moreD r * 64 + moreD r.tail) = true then ((b - 224) * 4096 + moreD r * 64 + moreD r.tail, 3) else (0, 0))
  else if cs = 5 then (match r with | [] => (0, 0) | b1 :: _ => if charB (b * 256 + b1) = true then (b * 256 + b1, 2) else (0, 0))
  else if hasB cs (cy cs b) = true then (cy cs b, 1) else (0, 0)
theorem j6_eq (k : Nat) (a : Int) (x1 : List Int) (n : Nat) (c : Int) (ha : 1 ≤ a ∧ a ≤ 5) (hx : ∀ x ∈ x1, 0 ≤ x ∧ x ≤ 255) (hn : n ≤ x1.length) (h0 : 0 ≤ c ∧ c ≤ 65535) : impl_firstChar.j6 (k + 4) a x1 (n : Int) c = some (if (charB c && hasB a c && decide (encB a c = x1.take n)) = true then (c, (n : Int)) else (0, 0)) := by
  rw [impl_firstChar.j6, impl_HasChar_eq (k + 2), Option.bind_some, impl_encodeChar_eq k a c ha h0, Option.bind_some, if_pos (show (0 : Int) ≤ (n : Int) by omega), if_pos (show (n : Int) ≤ (x1.length : Int) by omega), Int.toNat_natCast, bytes_Equal_eq _ _ (encB_bytes a c) (fun x h => hx x (List.mem_of_mem_take h)), Option.bind_some, decide_eq_true ha, Bool.true_and]
  cases charB c <;> cases hasB a c <;> simp
  split <;> rfl
theorem single_ok : ∀ cs : Fin 3, ∀ b : Fin 256, (charB (cy ((cs.val : Int) + 1) (b.val : Int)) && hasB ((cs.val : Int) + 1) (cy ((cs.val : Int) + 1) (b.val : Int)) && decide (encB ((cs.val : Int) + 1) (cy ((cs.val : Int) + 1) (b.val : Int)) = [(b.val : Int)])) = hasB ((cs.val : Int) + 1) (cy ((cs.val : Int) + 1) (b.val : Int)) := by decide +kernel
theorem single_eq (cs b : Int) (hc : 1 ≤ cs ∧ cs ≤ 3) (hb : 0 ≤ b ∧ b ≤ 255) : (charB (cy cs b) && hasB cs (cy cs b) && decide (encB cs (cy cs b) = [b])) = hasB cs (cy cs b) := by
  have := single_ok ⟨(cs - 1).toNat, by omega⟩ ⟨b.toNat, by omega⟩
  have e : (((cs - 1).toNat : Nat) : Int) + 1 = cs := by omega
  simpa only [e, Int.toNat_of_nonneg hb.1] using this
theorem cy_in (cs b : Int) (hb : 0 ≤ b ∧ b ≤ 255) : 0 ≤ cy cs b ∧ cy cs b ≤ 65535 := by
  unfold cy
  repeat' split
  all_goals omega
theorem firstChar_low (k : Nat) (cs b : Int) (r : List Int) (hc : 1 ≤ cs ∧ cs ≤ 3) (hb : ∀ x ∈ b :: r, 0 ≤ x ∧ x ≤ 255) : impl_firstChar.f (k + 12) cs (b :: r) = some (oneF cs b r) := by
  have hb0 := hb b (by simp)
  have w0 : wrap64 b = b := wrap64_in (by omega)
  have w8 : wrap64 (b + 864) = b + 864 := wrap64_in (by omega)
  have n4 : ¬ cs = 4 := by omega
  have n5 : ¬ cs = 5 := by omega
  have hl : ¬ ((1 : Int) > ((b :: r).length : Int)) := by rw [List.length_cons]; omega
  have hl0 : (0 : Int) < ((b :: r).length : Int) := by rw [List.length_cons]; omega
  have e6 : ∀ m, impl_firstChar.j6 (m + 4) cs (b :: r) 1 (cy cs b) = some (oneF cs b r) := by
    intro m
    have h := j6_eq m cs (b :: r) 1 (cy cs b) (by omega) hb (by simp) (cy_in cs b hb0)
    rw [show (b :: r).take 1 = [b] from rfl, single_eq cs b hc hb0] at h
    unfold oneF
    rw [if_neg n4, if_neg n5]
    exact h
  unfold impl_firstChar.f
  rw [if_pos hl0, if_neg n5, if_neg n4, show rd (b :: r) 0 = b from rfl, w0, impl_firstChar.j0]
  simp only [Bool.false_eq_true, if_false, if_neg n4]
  rw [impl_firstChar.j1, if_neg hl, if_neg n5, if_neg n4, impl_firstChar.j2]
  simp only [Bool.false_eq_true, if_false, if_neg n4]
  rw [impl_firstChar.j3]
  simp only [Bool.false_eq_true, if_false]
  by_cases h3 : cs = 3
  · subst h3
    rw [if_pos rfl, impl_firstChar.j4]
    by_cases b1 : b = 253
    · have := e6 (k + 3); rw [show cy 3 b = 167 by unfold cy; rw [if_pos rfl, if_pos b1]] at this
      rw [if_pos (by simpa using b1)]; exact this
    · have f1 : (b == 253) = false := by simpa using b1
      rw [f1]
      simp only [Bool.false_eq_true, if_false, if_true]
      rw [impl_firstChar.j5]
      by_cases b2 : b = 240
      · have := e6 (k + 2); rw [show cy 3 b = 8470 by unfold cy; rw [if_pos rfl, if_neg b1, if_pos b2]] at this
        rw [if_pos (by simpa using b2)]; exact this
      · have f2 : (b == 240) = false := by simpa using b2
        rw [f2]
        simp only [Bool.false_eq_true, if_false, if_true]
        have h6 := e6 (k + 2)
        by_cases b3 : b > 160
        · rw [if_pos b3]
          by_cases b4 : b = 173
          · rw [if_pos b4]
            rw [show cy 3 b = b by unfold cy; rw [if_pos rfl, if_neg b1, if_neg b2, if_neg (by omega)]] at h6
            exact h6
          · rw [if_neg b4, w8]
            rw [show cy 3 b = b + 864 by unfold cy; rw [if_pos rfl, if_neg b1, if_neg b2, if_pos ⟨b3, b4⟩]] at h6
            exact h6
        · rw [if_neg b3]
          rw [show cy 3 b = b by unfold cy; rw [if_pos rfl, if_neg b1, if_neg b2, if_neg (by omega)]] at h6
          exact h6
  · rw [if_neg h3, impl_firstChar.j4]
    simp only [Bool.false_eq_true, if_false, if_neg h3]
    rw [impl_firstChar.j5]
    simp only [Bool.false_eq_true, if_false, if_neg h3]
    have h6 := e6 (k + 2)
    rw [show cy cs b = b by unfold cy; rw [if_neg h3]] at h6
    exact h6
theorem firstChar_16 (k : Nat) (b : Int) (r : List Int) (hb : ∀ x ∈ b :: r, 0 ≤ x ∧ x ≤ 255) : impl_firstChar.f (k + 12) 5 (b :: r) = some (oneF 5 b r) := by
  have hb0 := hb b (by simp)
  have w0 : wrap64 b = b := wrap64_in (by omega)
  have hl0 : (0 : Int) < ((b :: r).length : Int) := by rw [List.length_cons]; omega
  unfold impl_firstChar.f oneF
  rw [if_pos hl0, if_pos rfl, show rd (b :: r) 0 = b from rfl, w0, impl_firstChar.j0, if_pos rfl, impl_firstChar.j1, if_neg (by decide : ¬ (5 : Int) = 4), if_pos (rfl : (5 : Int) = 5), if_pos (rfl : (5 : Int) = 5)]
  cases r with
  | nil => rw [if_pos (by simp), if_neg (by decide : ¬ (5 : Int) = 4)]
  | cons b1 r =>
    have hb1 := hb b1 (by simp)
    have w1 : wrap64 b1 = b1 := wrap64_in (by omega)
    have w2 : wrap64 (b * 256) = b * 256 := wrap64_in (by omega)
    have w3 : wrap64 (b * 256 + b1) = b * 256 + b1 := wrap64_in (by omega)
    have hl : ¬ ((2 : Int) > ((b :: b1 :: r).length : Int)) := by rw [List.length_cons, List.length_cons]; omega
    have hl1 : (1 : Int) < ((b :: b1 :: r).length : Int) := by rw [List.length_cons, List.length_cons]; omega
    rw [if_neg hl, if_pos hl1, show rd (b :: b1 :: r) 1 = b1 from rfl, w1, w2, w3]
    have h := j6_eq (k + 6) 5 (b :: b1 :: r) 2 (b * 256 + b1) (by omega) hb (by simp) (by omega)
    have he : encB 5 (b * 256 + b1) = (b :: b1 :: r).take 2 := by
      have d1 : Int.tdiv (b * 256 + b1) 256 = b := by rw [Int.tdiv_eq_ediv_of_nonneg (by omega)]; omega
      have d2 : Int.tmod (b * 256 + b1) 256 = b1 := by rw [Int.tmod_eq_emod_of_nonneg (by omega)]; omega
      unfold encB
      rw [if_neg (by omega), if_neg (by decide), if_pos rfl, d1, d2, w0, show b % 256 = b by omega, show b1 % 256 = b1 by omega]
      rfl
    have hh : hasB 5 (b * 256 + b1) = true := by unfold hasB; rfl
    rw [he, hh, decide_eq_true rfl, Bool.and_true, Bool.and_true] at h
    exact h
theorem utf2 (b b1 : Int) (h1 : 192 ≤ b ∧ b ≤ 223) (h2 : 0 ≤ b1 ∧ b1 ≤ 255) : encB 4 (b % 32 * 64 + b1 % 64) = [b, b1] ↔ 194 ≤ b ∧ 128 ≤ b1 ∧ b1 ≤ 191 := by
  unfold encB
  rw [if_neg (by decide), if_neg (by decide), if_neg (by decide)]
  have t1 : Int.tdiv (b % 32 * 64 + b1 % 64) 64 = b % 32 := by rw [Int.tdiv_eq_ediv_of_nonneg (by omega)]; omega
  have t2 : Int.tmod (b % 32 * 64 + b1 % 64) 64 = b1 % 64 := by rw [Int.tmod_eq_emod_of_nonneg (by omega)]; omega
  by_cases hc : b % 32 * 64 + b1 % 64 < 128
  · rw [if_pos hc]
    simp only [List.cons.injEq, reduceCtorEq, and_false, false_iff]
    omega
  · rw [if_neg hc, if_pos (by omega), t1, t2]
    have w1 : wrap64 (b % 32) = b % 32 := wrap64_in (by omega)
    have w2 : wrap64 (192 + b % 32) = 192 + b % 32 := wrap64_in (by omega)
    have w3 : wrap64 (128 + b1 % 64) = 128 + b1 % 64 := wrap64_in (by omega)
    rw [w1, w2, w3]
    simp only [List.cons.injEq, and_true]
    omega
theorem utf3 (b b1 b2 : Int) (h1 : 224 ≤ b ∧ b ≤ 255) (h2 : 0 ≤ b1 ∧ b1 ≤ 255) (h3 : 0 ≤ b2 ∧ b2 ≤ 255) : encB 4 (b % 16 * 4096 + b1 % 64 * 64 + b2 % 64) = [b, b1, b2] ↔ b ≤ 239 ∧ (128 ≤ b1 ∧ b1 ≤ 191) ∧ (128 ≤ b2 ∧ b2 ≤ 191) ∧ 2048 ≤ b % 16 * 4096 + b1 % 64 * 64 + b2 % 64 := by
  unfold encB
  rw [if_neg (by decide), if_neg (by decide), if_neg (by decide)]
  have t1 : Int.tdiv (b % 16 * 4096 + b1 % 64 * 64 + b2 % 64) 64 = b % 16 * 64 + b1 % 64 := by rw [Int.tdiv_eq_ediv_of_nonneg (by omega)]; omega
  have t2 : Int.tmod (b % 16 * 4096 + b1 % 64 * 64 + b2 % 64) 64 = b2 % 64 := by rw [Int.tmod_eq_emod_of_nonneg (by omega)]; omega
  have t3 : Int.tdiv (b % 16 * 4096 + b1 % 64 * 64 + b2 % 64) 4096 = b % 16 := by rw [Int.tdiv_eq_ediv_of_nonneg (by omega)]; omega
  have t4 : Int.tmod (b % 16 * 64 + b1 % 64) 64 = b1 % 64 := by rw [Int.tmod_eq_emod_of_nonneg (by omega)]; omega
  by_cases hc : b % 16 * 4096 + b1 % 64 * 64 + b2 % 64 < 128
  · rw [if_pos hc]
    simp only [List.cons.injEq, reduceCtorEq, and_false, false_iff]
    omega
  · rw [if_neg hc]
    by_cases hc2 : b % 16 * 4096 + b1 % 64 * 64 + b2 % 64 < 2048
    · rw [if_pos hc2]
      simp only [List.cons.injEq, reduceCtorEq, and_false, false_iff]
      omega
    · rw [if_neg hc2, t1, t2, t3]
      have w0 : wrap64 (b % 16 * 64 + b1 % 64) = b % 16 * 64 + b1 % 64 := wrap64_in (by omega)
      have w1 : wrap64 (b % 16) = b % 16 := wrap64_in (by omega)
      have w2 : wrap64 (224 + b % 16) = 224 + b % 16 := wrap64_in (by omega)
      have w3 : wrap64 (128 + b1 % 64) = 128 + b1 % 64 := wrap64_in (by omega)
      have w4 : wrap64 (128 + b2 % 64) = 128 + b2 % 64 := wrap64_in (by omega)
      rw [w0, t4, w1, w2, w3, w4]
      simp only [List.cons.injEq, and_true]
      omega
theorem utf1 (b : Int) (h1 : 0 ≤ b ∧ b ≤ 255) : encB 4 b = [b] ↔ b < 128 := by
  unfold encB
  rw [if_neg (by decide), if_neg (by decide), if_neg (by decide)]
  by_cases hc : b < 128
  · rw [if_pos hc, show b % 256 = b by omega]; simp [hc]
  · rw [if_neg hc, if_pos (by omega)]; simp [hc]
theorem moreD_eq (y : Int) (r : List Int) : 0 ≤ moreD (y :: r) ↔ 128 ≤ y ∧ y ≤ 191 := by
  show 0 ≤ (if 128 ≤ y ∧ y ≤ 191 then y - 128 else -1) ↔ _
  split <;> omega
theorem moreD_val (y : Int) (r : List Int) (h : 128 ≤ y ∧ y ≤ 191) : moreD (y :: r) = y - 128 := by
  show (if 128 ≤ y ∧ y ≤ 191 then y - 128 else -1) = _
  rw [if_pos h]
theorem moreD_nil : ¬ 0 ≤ moreD [] := by decide
theorem firstChar_8 (k : Nat) (b : Int) (r : List Int) (hb : ∀ x ∈ b :: r, 0 ≤ x ∧ x ≤ 255) : impl_firstChar.f (k + 12) 4 (b :: r) = some (oneF 4 b r) := by
  have hb0 := hb b (by simp)
  have w0 : wrap64 b = b := wrap64_in (by omega)
  have hl0 : (0 : Int) < ((b :: r).length : Int) := by rw [List.length_cons]; omega
  have hh : ∀ c, hasB 4 c = true := fun c => by unfold hasB; rfl
  unfold impl_firstChar.f oneF
  rw [if_pos hl0, if_neg (by decide : ¬ (4 : Int) = 5), if_pos (rfl : (4 : Int) = 4), if_pos (rfl : (4 : Int) = 4), show rd (b :: r) 0 = b from rfl, w0, within_eq, Option.bind_some]
  by_cases c2 : 192 ≤ b ∧ b ≤ 223
  · rw [decide_eq_true c2, impl_firstChar.j0, if_pos rfl, impl_firstChar.j1, if_neg (by omega : ¬ b < 128), if_neg (by decide : ¬ (4 : Int) = 5), if_pos (rfl : (4 : Int) = 4)]
    cases r with
    | nil =>
      rw [if_pos (by simp), if_neg (fun h => moreD_nil h.2.2), if_neg (fun h => moreD_nil h.2.2.1)]
    | cons b1 r =>
      have hb1 := hb b1 (by simp)
      have hl : ¬ ((2 : Int) > ((b :: b1 :: r).length : Int)) := by rw [List.length_cons, List.length_cons]; omega
      have hl1 : (1 : Int) < ((b :: b1 :: r).length : Int) := by rw [List.length_cons, List.length_cons]; omega
      have t1 : Int.tmod b 32 = b % 32 := Int.tmod_eq_emod_of_nonneg hb0.1
      have t2 : Int.tmod b1 64 = b1 % 64 := Int.tmod_eq_emod_of_nonneg hb1.1
      have w1 : wrap64 b1 = b1 := wrap64_in (by omega)
      have w2 : wrap64 (b % 32 * 64) = b % 32 * 64 := wrap64_in (by omega)
      have w3 : wrap64 (b % 32 * 64 + b1 % 64) = b % 32 * 64 + b1 % 64 := wrap64_in (by omega)
      have h := j6_eq (k + 5) 4 (b :: b1 :: r) 2 (b % 32 * 64 + b1 % 64) (by omega) hb (by simp) (by omega)
      rw [show (b :: b1 :: r).take 2 = [b, b1] from rfl, hh, Bool.and_true, (charB_iff _).2 (by omega), Bool.true_and] at h
      rw [if_neg hl, impl_firstChar.j2, if_pos rfl, if_pos hl1, show rd (b :: b1 :: r) 1 = b1 from rfl, w1, t1, t2, w2, w3]
      refine Eq.trans h ?_
      congr 1
      by_cases g : 194 ≤ b ∧ 128 ≤ b1 ∧ b1 ≤ 191
      · rw [if_pos (decide_eq_true ((utf2 b b1 c2 hb1).2 g)), if_pos ⟨g.1, by omega, (moreD_eq b1 r).2 g.2⟩, moreD_val b1 r g.2]
        congr 1
        omega
      · rw [if_neg (fun e => g ((utf2 b b1 c2 hb1).1 (of_decide_eq_true e))), if_neg (fun e => g ⟨e.1, (moreD_eq b1 r).1 e.2.2⟩), if_neg (fun e => absurd e.1 (by omega))]
  · rw [decide_eq_false c2, impl_firstChar.j0]
    simp only [Bool.false_eq_true, if_false, if_true]
    by_cases c3 : b ≥ 224
    · rw [if_pos c3, impl_firstChar.j1, if_neg (by omega : ¬ b < 128), if_neg (fun h => absurd h.2.1 (by omega) : ¬ (194 ≤ b ∧ b < 224 ∧ 0 ≤ moreD r)), if_neg (by decide : ¬ (4 : Int) = 5), if_pos (rfl : (4 : Int) = 4)]
      cases r with
      | nil => rw [if_pos (by simp), if_neg (fun h => moreD_nil h.2.2.1)]
      | cons b1 r =>
        cases r with
        | nil => rw [if_pos (by simp), if_neg (fun h => moreD_nil h.2.2.2.1)]
        | cons b2 r =>
          have hb1 := hb b1 (by simp)
          have hb2 := hb b2 (by simp)
          have hl : ¬ ((3 : Int) > ((b :: b1 :: b2 :: r).length : Int)) := by rw [List.length_cons, List.length_cons, List.length_cons]; omega
          have hl1 : (1 : Int) < ((b :: b1 :: b2 :: r).length : Int) := by rw [List.length_cons, List.length_cons]; omega
          have hl2 : (2 : Int) < ((b :: b1 :: b2 :: r).length : Int) := by rw [List.length_cons, List.length_cons, List.length_cons]; omega
          have t1 : Int.tmod b 16 = b % 16 := Int.tmod_eq_emod_of_nonneg hb0.1
          have t2 : Int.tmod b1 64 = b1 % 64 := Int.tmod_eq_emod_of_nonneg hb1.1
          have t3 : Int.tmod b2 64 = b2 % 64 := Int.tmod_eq_emod_of_nonneg hb2.1
          have w1 : wrap64 b1 = b1 := wrap64_in (by omega)
          have w1' : wrap64 b2 = b2 := wrap64_in (by omega)
          have w2 : wrap64 (b % 16 * 4096) = b % 16 * 4096 := wrap64_in (by omega)
          have w2' : wrap64 (b1 % 64 * 64) = b1 % 64 * 64 := wrap64_in (by omega)
          have w3 : wrap64 (b % 16 * 4096 + b1 % 64 * 64) = b % 16 * 4096 + b1 % 64 * 64 := wrap64_in (by omega)
          have w4 : wrap64 (b % 16 * 4096 + b1 % 64 * 64 + b2 % 64) = b % 16 * 4096 + b1 % 64 * 64 + b2 % 64 := wrap64_in (by omega)
          have h := j6_eq (k + 4) 4 (b :: b1 :: b2 :: r) 3 (b % 16 * 4096 + b1 % 64 * 64 + b2 % 64) (by omega) hb (by simp) (by omega)
          rw [show (b :: b1 :: b2 :: r).take 3 = [b, b1, b2] from rfl, hh, Bool.and_true] at h
          rw [if_neg hl, show ((3 : Int) == 2) = false from rfl, impl_firstChar.j2]
          simp only [Bool.false_eq_true, if_false, if_true]
          rw [show ((3 : Int) == 3) = true from rfl, impl_firstChar.j3, if_pos rfl, if_pos hl1, if_pos hl2, show rd (b :: b1 :: b2 :: r) 1 = b1 from rfl, show rd (b :: b1 :: b2 :: r) 2 = b2 from rfl, w1, w1', t1, t2, t3, w2, w2', w3, w4]
          refine Eq.trans h ?_
          congr 1
          have hu := utf3 b b1 b2 (by omega) hb1 hb2
          by_cases g : b ≤ 239 ∧ (128 ≤ b1 ∧ b1 ≤ 191) ∧ (128 ≤ b2 ∧ b2 ≤ 191)
          · have v : (b - 224) * 4096 + moreD (b1 :: b2 :: r) * 64 + moreD (b2 :: r) = b % 16 * 4096 + b1 % 64 * 64 + b2 % 64 := by rw [moreD_val b1 _ g.2.1, moreD_val b2 _ g.2.2]; omega
            rw [show (b1 :: b2 :: r).tail = b2 :: r from rfl, v]
            by_cases g2 : 2048 ≤ b % 16 * 4096 + b1 % 64 * 64 + b2 % 64
            · rw [decide_eq_true (hu.2 ⟨g.1, g.2.1, g.2.2, g2⟩), Bool.and_true]
              cases hc : charB (b % 16 * 4096 + b1 % 64 * 64 + b2 % 64) with
              | true => rw [if_pos rfl, if_pos ⟨c3, by omega, (moreD_eq b1 _).2 g.2.1, (moreD_eq b2 _).2 g.2.2, g2, rfl⟩]; rfl
              | false => rw [if_neg (by decide), if_neg (fun e => absurd e.2.2.2.2.2 (by decide))]
            · rw [decide_eq_false (fun e => g2 (hu.1 e).2.2.2), Bool.and_false, if_neg (by decide), if_neg (fun e => g2 e.2.2.2.2.1)]
          · rw [decide_eq_false (fun e => g ⟨(hu.1 e).1, (hu.1 e).2.1, (hu.1 e).2.2.1⟩), Bool.and_false, if_neg (by decide), if_neg (fun e => g ⟨by have := e.2.1; omega, (moreD_eq b1 _).1 e.2.2.1, (moreD_eq b2 r).1 e.2.2.2.1⟩)]
    · have hl : ¬ ((1 : Int) > ((b :: r).length : Int)) := by rw [List.length_cons]; omega
      have h := j6_eq (k + 2) 4 (b :: r) 1 b (by omega) hb (by simp) (by omega)
      rw [show (b :: r).take 1 = [b] from rfl, hh, Bool.and_true, (charB_iff _).2 (by omega), Bool.true_and] at h
      rw [if_neg c3, impl_firstChar.j1, if_neg hl, if_neg (by decide : ¬ (4 : Int) = 5), if_pos (rfl : (4 : Int) = 4), show ((1 : Int) == 2) = false from rfl, impl_firstChar.j2]
      simp only [Bool.false_eq_true, if_false, if_true]
      rw [show ((1 : Int) == 3) = false from rfl, impl_firstChar.j3]
      simp only [Bool.false_eq_true, if_false, if_neg (by decide : ¬ (4 : Int) = 3)]
      rw [impl_firstChar.j4]
      simp only [Bool.false_eq_true, if_false, if_neg (by decide : ¬ (4 : Int) = 3)]
      rw [impl_firstChar.j5]
      simp only [Bool.false_eq_true, if_false, if_neg (by decide : ¬ (4 : Int) = 3)]
      refine Eq.trans h ?_
      congr 1
      by_cases g : b < 128
      · rw [if_pos (decide_eq_true ((utf1 b hb0).2 g)), if_pos g]; rfl
      · rw [if_neg (fun e => g ((utf1 b hb0).1 (of_decide_eq_true e))), if_neg g, if_neg (fun e => absurd e.1 (by have := e.2.1; omega)), if_neg (fun e => absurd e.1 (by omega))]
theorem impl_firstChar_eq (k : Nat) (cs b : Int) (r : List Int) (hc : 1 ≤ cs ∧ cs ≤ 5) (hb : ∀ x ∈ b :: r, 0 ≤ x ∧ x ≤ 255) : impl_firstChar.f (k + 12) cs (b :: r) = some (oneF cs b r) := by
  by_cases h4 : cs = 4
  · subst h4; exact firstChar_8 k b r hb
  · by_cases h5 : cs = 5
    · subst h5; exact firstChar_16 k b r hb
    · exact firstChar_low k cs b r (by omega) hb
theorem spec_l2Char_eq (c : Int) : spec_l2Char.f c = some (charB c) := by
  simp only [spec_l2Char.f, in_eq, Option.bind_some, charB]
  generalize decide (0 ≤ c ∧ c ≤ 55295) = x
  cases x <;> simp
theorem spec_l2Single_eq (k : Nat) (cs b : Int) (hc : 1 ≤ cs ∧ cs ≤ 3) (hb : 0 ≤ b ∧ b ≤ 255) : spec_l2Single.f (k + 4) cs b = some (if hasB cs (cy cs b) = true then cy cs b else -1) := by
  have w8 : wrap64 (b + 864) = b + 864 := wrap64_in (by omega)
  have fin : ∀ m c, (spec_l2Has.f (m + 1) cs c).bind (fun t => if t = true then some c else some (-1)) = some (if hasB cs c = true then c else -1) := by
    intro m c
    rw [spec_l2Has_eq, Option.bind_some]
    split <;> rfl
  unfold spec_l2Single.f
  by_cases h3 : cs = 3
  · subst h3
    have h167 : hasB 3 167 = true := by decide
    have h8470 : hasB 3 8470 = true := by decide
    rw [if_pos rfl, spec_l2Single.j0]
    by_cases b1 : b = 253
    · have e : cy 3 b = 167 := by unfold cy; rw [if_pos rfl, if_pos b1]
      rw [e, if_pos h167, if_pos (by simpa using b1)]
    · have f1 : (b == 253) = false := by simpa using b1
      simp only [f1, Bool.false_eq_true, if_false, if_true]
      rw [spec_l2Single.j1]
      by_cases b2 : b = 240
      · have e : cy 3 b = 8470 := by unfold cy; rw [if_pos rfl, if_neg b1, if_pos b2]
        rw [e, if_pos h8470, if_pos (by simpa using b2)]
      · have f2 : (b == 240) = false := by simpa using b2
        simp only [f2, Bool.false_eq_true, if_false, if_true]
        by_cases b3 : b > 160
        · rw [if_pos b3, spec_l2Single.j2, w8]
          by_cases b4 : b = 173
          · have f4 : (b != 173) = false := by simpa using b4
            have e : cy 3 b = b := by unfold cy; rw [if_pos rfl, if_neg b1, if_neg b2, if_neg (by omega)]
            rw [e]
            simp only [f4, Bool.false_eq_true, if_false]
            exact fin _ b
          · have f4 : (b != 173) = true := by simpa using b4
            have e : cy 3 b = b + 864 := by unfold cy; rw [if_pos rfl, if_neg b1, if_neg b2, if_pos ⟨b3, b4⟩]
            rw [e]
            simp only [f4, if_true]
            exact fin _ (b + 864)
        · have e : cy 3 b = b := by unfold cy; rw [if_pos rfl, if_neg b1, if_neg b2, if_neg (by omega)]
          rw [if_neg b3, spec_l2Single.j2, e]
          simp only [Bool.false_eq_true, if_false]
          exact fin _ b
  · rw [if_neg h3, spec_l2Single.j0]
    simp only [Bool.false_eq_true, if_false, if_neg h3]
    rw [spec_l2Single.j1]
    simp only [Bool.false_eq_true, if_false, if_neg h3]
    rw [spec_l2Single.j2]
    simp only [Bool.false_eq_true, if_false]
    rw [show cy cs b = b by unfold cy; rw [if_neg h3]]
    exact fin _ b
theorem spec_l2More_eq (L : List Int) (i : Nat) (hb : ∀ x ∈ L, 0 ≤ x ∧ x ≤ 255) : spec_l2More.f L (i : Int) = some (moreD (L.drop i)) := by
  unfold spec_l2More.f
  by_cases h : i < L.length
  · have hbi := hb L[i] (List.getElem_mem h)
    rw [if_neg (by omega), if_pos (by omega), if_pos (by omega), rd_at L i h, List.drop_eq_getElem_cons h]
    generalize L[i] = y at hbi
    have w : wrap64 (wrap64 y - 128) = y - 128 := by rw [wrap64_in (n := y) (by omega)]; exact wrap64_in (by omega)
    rw [w]
    show _ = some (if 128 ≤ y ∧ y ≤ 191 then y - 128 else -1)
    by_cases h1 : y < 128
    · rw [if_pos h1, if_neg (by omega)]
    · rw [if_neg h1]
      by_cases h2 : y > 191
      · rw [if_pos h2, if_neg (by omega)]
      · rw [if_neg h2, if_pos (by omega)]
  · rw [if_pos (by omega), List.drop_eq_nil_of_le (by omega)]
    rfl
theorem moreD_range (r : List Int) : -1 ≤ moreD r ∧ moreD r ≤ 63 := by
  cases r with
  | nil => decide
  | cons y r =>
    show -1 ≤ (if 128 ≤ y ∧ y ≤ 191 then y - 128 else -1) ∧ (if 128 ≤ y ∧ y ≤ 191 then y - 128 else -1) ≤ 63
    split <;> omega
theorem spec_l2One_eq (k : Nat) (cs : Int) (L : List Int) (i : Nat) (hc : 1 ≤ cs ∧ cs ≤ 5) (hL : L.length ≤ 1048576) (hb : ∀ x ∈ L, 0 ≤ x ∧ x ≤ 255) (hi : i < L.length) : spec_l2One.f (k + 4) cs L (i : Int) = some (oneF cs L[i] (L.drop (i + 1))) := by
  have hbi := hb L[i] (List.getElem_mem hi)
  have a0 : (0 : Int) ≤ (i : Int) := by omega
  have a1 : (i : Int) < (L.length : Int) := by omega
  have hrd := rd_at L i hi
  have w1 : wrap64 ((i : Int) + 1) = ((i + 1 : Nat) : Int) := by rw [wrap64_in (by omega)]; omega
  have w2 : wrap64 ((i : Int) + 2) = ((i + 2 : Nat) : Int) := by rw [wrap64_in (by omega)]; omega
  have hm1 := spec_l2More_eq L (i + 1) hb
  have hm2 := spec_l2More_eq L (i + 2) hb
  have ht : (L.drop (i + 1)).tail = L.drop (i + 2) := by rw [List.tail_drop]
  unfold spec_l2One.f oneF
  by_cases h4 : cs = 4
  · rw [if_pos h4, if_pos h4, ht]
    unfold spec_l2Utf8.f
    rw [if_pos a0, if_pos a1, hrd]
    have r1 := moreD_range (L.drop (i + 1))
    have r2 := moreD_range (L.drop (i + 2))
    generalize moreD (L.drop (i + 1)) = x at hm1 r1
    generalize moreD (L.drop (i + 2)) = y at hm2 r2
    generalize L[i] = b at hbi
    have w0 : wrap64 b = b := wrap64_in (by omega)
    rw [w0, w1, hm1, Option.bind_some]
    by_cases c1 : b < 128
    · rw [if_pos c1, if_pos c1]; rfl
    · rw [if_neg c1, if_neg c1]
      have v1 : wrap64 (b - 192) = b - 192 := wrap64_in (by omega)
      have v2 : wrap64 ((b - 192) * 64) = (b - 192) * 64 := wrap64_in (by omega)
      have v3 : wrap64 ((b - 192) * 64 + x) = (b - 192) * 64 + x := wrap64_in (by omega)
      have v4 : wrap64 (b - 224) = b - 224 := wrap64_in (by omega)
      have v5 : wrap64 ((b - 224) * 4096) = (b - 224) * 4096 := wrap64_in (by omega)
      have v6 : wrap64 (x * 64) = x * 64 := wrap64_in (by omega)
      have v7 : wrap64 ((b - 224) * 4096 + x * 64) = (b - 224) * 4096 + x * 64 := wrap64_in (by omega)
      have v8 : wrap64 ((b - 224) * 4096 + x * 64 + y) = (b - 224) * 4096 + x * 64 + y := wrap64_in (by omega)
      have J1f : ∀ m, spec_l2Utf8.j1 (m + 1) b x y false = some (0, 0) := fun m => by rw [spec_l2Utf8.j1, if_neg (by decide)]
      have J1t : ∀ m, spec_l2Utf8.j1 (m + 1) b x y true = some (if 2048 ≤ (b - 224) * 4096 + x * 64 + y ∧ charB ((b - 224) * 4096 + x * 64 + y) = true then ((b - 224) * 4096 + x * 64 + y, 3) else (0, 0)) := by
        intro m
        rw [spec_l2Utf8.j1, if_pos rfl, v4, v5, v6, v7, v8, spec_l2Char_eq, Option.bind_some]
        by_cases d1 : (b - 224) * 4096 + x * 64 + y ≥ 2048
        · rw [if_pos d1]
          by_cases d2 : charB ((b - 224) * 4096 + x * 64 + y) = true
          · rw [if_pos d2, if_pos ⟨d1, d2⟩]
          · rw [if_neg d2, if_neg (fun e => d2 e.2)]
        · rw [if_neg d1, if_neg (fun e => d1 e.1)]
      have J0f : ∀ m, spec_l2Utf8.j0 (m + 2) L (i : Int) b x false = some (if 224 ≤ b ∧ b < 240 ∧ 0 ≤ x ∧ 0 ≤ y ∧ 2048 ≤ (b - 224) * 4096 + x * 64 + y ∧ charB ((b - 224) * 4096 + x * 64 + y) = true then ((b - 224) * 4096 + x * 64 + y, 3) else (0, 0)) := by
        intro m
        rw [spec_l2Utf8.j0, if_neg (by decide), w2, hm2, Option.bind_some]
        by_cases d1 : b ≥ 224
        · rw [if_pos d1]
          by_cases d2 : b < 240
          · rw [if_pos d2]
            by_cases d3 : x ≥ 0
            · rw [if_pos d3]
              by_cases d4 : y ≥ 0
              · rw [decide_eq_true d4, J1t]
                congr 1
                by_cases d5 : 2048 ≤ (b - 224) * 4096 + x * 64 + y ∧ charB ((b - 224) * 4096 + x * 64 + y) = true
                · rw [if_pos d5, if_pos ⟨d1, d2, d3, d4, d5⟩]
                · rw [if_neg d5, if_neg (fun e => d5 e.2.2.2.2)]
              · rw [decide_eq_false d4, J1f, if_neg (fun e => d4 e.2.2.2.1)]
            · rw [if_neg d3, J1f, if_neg (fun e => d3 e.2.2.1)]
          · rw [if_neg d2, J1f, if_neg (fun e => d2 e.2.1)]
        · rw [if_neg d1, J1f, if_neg (fun e => d1 e.1)]
      by_cases e1 : b ≥ 194
      · rw [if_pos e1]
        by_cases e2 : b < 224
        · rw [if_pos e2]
          by_cases e3 : x ≥ 0
          · rw [decide_eq_true e3, spec_l2Utf8.j0, if_pos rfl, v1, v2, v3, if_pos ⟨e1, e2, e3⟩]; rfl
          · rw [decide_eq_false e3, J0f (k + 2), if_neg (show ¬ (194 ≤ b ∧ b < 224 ∧ 0 ≤ x) from fun e => e3 e.2.2)]; rfl
        · rw [if_neg e2, J0f (k + 2), if_neg (show ¬ (194 ≤ b ∧ b < 224 ∧ 0 ≤ x) from fun e => e2 e.2.1)]; rfl
      · rw [if_neg e1, J0f (k + 2), if_neg (show ¬ (194 ≤ b ∧ b < 224 ∧ 0 ≤ x) from fun e => e1 e.1)]; rfl
  · rw [if_neg h4, if_neg h4]
    by_cases h5 : cs = 5
    · rw [if_pos h5, if_pos h5, w1]
      by_cases hn : i + 1 < L.length
      · have hb1 := hb L[i + 1] (List.getElem_mem hn)
        rw [if_neg (by omega), if_pos a0, if_pos a1, if_pos (by omega), if_pos (by omega), hrd, rd_at L (i + 1) hn, List.drop_eq_getElem_cons hn]
        generalize L[i] = b at hbi
        generalize L[i + 1] = b1 at hb1
        have v0 : wrap64 b = b := wrap64_in (by omega)
        have v1 : wrap64 b1 = b1 := wrap64_in (by omega)
        have v2 : wrap64 (b * 256) = b * 256 := wrap64_in (by omega)
        have v3 : wrap64 (b * 256 + b1) = b * 256 + b1 := wrap64_in (by omega)
        rw [v0, v1, v2, v3, spec_l2Char_eq, Option.bind_some]
        show (if charB (b * 256 + b1) = true then some (b * 256 + b1, (2 : Int)) else some (0, 0)) = some (if charB (b * 256 + b1) = true then (b * 256 + b1, 2) else (0, 0))
        split <;> rfl
      · rw [if_pos (by omega), List.drop_eq_nil_of_le (by omega)]
    · rw [if_neg h5, if_neg h5, if_pos a0, if_pos a1, hrd, show wrap64 L[i] = L[i] from wrap64_in (by omega), spec_l2Single_eq k cs _ (by omega) hbi, Option.bind_some]
      have hcy := cy_in cs L[i] hbi
      by_cases hh : hasB cs (cy cs L[i]) = true
      · rw [if_pos hh, if_pos hh, if_neg (by omega)]
      · rw [if_neg hh, if_neg hh, if_pos (by decide)]
theorem oneF_snd (cs b : Int) (r : List Int) : (oneF cs b r).2 = 0 ∨ ((oneF cs b r).2 = 1) ∨ ((oneF cs b r).2 = 2 ∧ 1 ≤ r.length) ∨ ((oneF cs b r).2 = 3 ∧ 2 ≤ r.length) := by
  unfold oneF
  by_cases h4 : cs = 4
  · rw [if_pos h4]
    by_cases c1 : b < 128
    · rw [if_pos c1]; exact Or.inr (Or.inl rfl)
    · rw [if_neg c1]
      by_cases c2 : 194 ≤ b ∧ b < 224 ∧ 0 ≤ moreD r
      · rw [if_pos c2]
        refine Or.inr (Or.inr (Or.inl ⟨rfl, ?_⟩))
        cases r with
        | nil => exact absurd c2.2.2 moreD_nil
        | cons _ _ => simp
      · rw [if_neg c2]
        split
        · rename_i c3
          refine Or.inr (Or.inr (Or.inr ⟨rfl, ?_⟩))
          cases r with
          | nil => exact absurd c3.2.2.1 moreD_nil
          | cons _ r =>
            cases r with
            | nil => exact absurd c3.2.2.2.1 moreD_nil
            | cons _ _ => simp
        · exact Or.inl rfl
  · rw [if_neg h4]
    by_cases h5 : cs = 5
    · rw [if_pos h5]
      cases r with
      | nil => exact Or.inl rfl
      | cons b1 r =>
        have key : ∀ q : Int × Int, q = (if charB (b * 256 + b1) = true then (b * 256 + b1, 2) else (0, 0)) → q.2 = 0 ∨ q.2 = 1 ∨ (q.2 = 2 ∧ 1 ≤ (b1 :: r).length) ∨ (q.2 = 3 ∧ 2 ≤ (b1 :: r).length) := by
          intro q hq
          by_cases hc : charB (b * 256 + b1) = true
          · rw [if_pos hc] at hq; subst hq; exact Or.inr (Or.inr (Or.inl ⟨rfl, by simp⟩))
          · rw [if_neg hc] at hq; subst hq; exact Or.inl rfl
        exact key _ rfl
    · rw [if_neg h5]
      split
      · exact Or.inr (Or.inl rfl)
      · exact Or.inl rfl
theorem decode_end (cs : Int) (L : List Int) (k k2 i : Nat) (acc : List Int) (h : ¬ i < L.length) : spec_l2Decode.l0 (k + 1) cs L acc (i : Int) = some (acc, true) ∧ impl_decodeChars.l0 (k2 + 1) cs (L.drop i) acc = some (acc, true) := by
  constructor
  · unfold spec_l2Decode.l0
    rw [if_neg (by omega)]
  · unfold impl_decodeChars.l0
    rw [if_neg (by rw [List.length_drop]; omega)]
theorem decode_step (cs : Int) (hc : 1 ≤ cs ∧ cs ≤ 5) (L : List Int) (hL : L.length ≤ 1048576) (hb : ∀ x ∈ L, 0 ≤ x ∧ x ≤ 255) (k k2 i : Nat) (acc : List Int) (hi : i < L.length) (ha : acc.length < 17592186044416) :
    (spec_l2Decode.l0 (k + 13) cs L acc (i : Int) = some ([], false) ∧ impl_decodeChars.l0 (k2 + 13) cs (L.drop i) acc = some ([], false)) ∨
    ∃ (m : Nat) (c : Int), 1 ≤ m ∧ i + m ≤ L.length ∧ spec_l2Decode.l0 (k + 13) cs L acc (i : Int) = spec_l2Decode.l0 (k + 12) cs L (acc ++ [c]) ((i + m : Nat) : Int) ∧ impl_decodeChars.l0 (k2 + 13) cs (L.drop i) acc = impl_decodeChars.l0 (k2 + 12) cs (L.drop (i + m)) (acc ++ [c]) := by
  have hd : L.drop i = L[i] :: L.drop (i + 1) := List.drop_eq_getElem_cons hi
  have hlen : (L.drop i).length = L.length - i := List.length_drop
  have hs := spec_l2One_eq (k + 8) cs L i hc hL hb hi
  have hf := impl_firstChar_eq k2 cs L[i] (L.drop (i + 1)) hc (fun x hx => hb x (List.mem_of_mem_drop (by rw [hd]; exact hx)))
  have hn := oneF_snd cs L[i] (L.drop (i + 1))
  rw [List.length_drop] at hn
  rw [← hd] at hf
  have a1 : (i : Int) < (L.length : Int) := by omega
  have a2 : ((L.drop i).length : Int) > 0 := by rw [hlen]; omega
  have u1 : spec_l2Decode.l0 (k + 13) cs L acc (i : Int) = (if (oneF cs L[i] (L.drop (i + 1))).2 = 0 then some ([], false) else if acc.length < 17592186044416 then spec_l2Decode.l0 (k + 12) cs L (acc ++ [(oneF cs L[i] (L.drop (i + 1))).1]) (wrap64 ((i : Int) + (oneF cs L[i] (L.drop (i + 1))).2)) else none) := by
    conv => lhs; unfold spec_l2Decode.l0
    rw [if_pos a1, hs]
    rfl
  have u2 : impl_decodeChars.l0 (k2 + 13) cs (L.drop i) acc = (if (oneF cs L[i] (L.drop (i + 1))).2 = 0 then some ([], false) else if acc.length < 17592186044416 then (if 0 ≤ (oneF cs L[i] (L.drop (i + 1))).2 then (if (oneF cs L[i] (L.drop (i + 1))).2 ≤ ((L.drop i).length : Int) then impl_decodeChars.l0 (k2 + 12) cs ((L.drop i).drop ((oneF cs L[i] (L.drop (i + 1))).2).toNat) (acc ++ [(oneF cs L[i] (L.drop (i + 1))).1]) else none) else none) else none) := by
    conv => lhs; unfold impl_decodeChars.l0
    rw [if_pos a2, hf]
    rfl
  rw [u1, u2]
  clear u1 u2 hs hf
  generalize oneF cs L[i] (L.drop (i + 1)) = q at hn
  by_cases hz : q.2 = 0
  · rw [if_pos hz, if_pos hz]
    exact Or.inl ⟨rfl, rfl⟩
  · obtain ⟨m, hm, hm1, hm2⟩ : ∃ m : Nat, q.2 = (m : Int) ∧ 1 ≤ m ∧ i + m ≤ L.length := ⟨q.2.toNat, by omega, by omega, by omega⟩
    have w : wrap64 ((i : Int) + (m : Int)) = ((i + m : Nat) : Int) := by rw [wrap64_in (by omega)]; omega
    have ho : (0 : Int) ≤ (m : Int) := by omega
    have hle : (m : Int) ≤ ((L.drop i).length : Int) := by rw [hlen]; omega
    refine Or.inr ⟨m, q.1, hm1, hm2, ?_, ?_⟩
    · rw [if_neg hz, hm, if_pos ha, w]
    · rw [if_neg hz, hm, if_pos ha, if_pos ho, if_pos hle, Int.toNat_natCast, List.drop_drop]
theorem decode_both (cs : Int) (hc : 1 ≤ cs ∧ cs ≤ 5) (L : List Int) (hL : L.length ≤ 1048576) (hb : ∀ x ∈ L, 0 ≤ x ∧ x ≤ 255) : ∀ (n k k2 i : Nat) (acc : List Int), L.length ≤ i + n → i ≤ L.length → acc.length + n ≤ 4194304 → ∃ r, spec_l2Decode.l0 (k + n + 13) cs L acc (i : Int) = some r ∧ impl_decodeChars.l0 (k2 + n + 13) cs (L.drop i) acc = some r ∧ r.1.length ≤ acc.length + n
  | 0, k, k2, i, acc, h1, h2, h5 => by
    obtain ⟨e1, e2⟩ := decode_end cs L (k + 12) (k2 + 12) i acc (by omega)
    exact ⟨(acc, true), e1, e2, Nat.le_refl _⟩
  | n + 1, k, k2, i, acc, h1, h2, h5 => by
    by_cases hi : i < L.length
    · rcases decode_step cs hc L hL hb (k + n + 1) (k2 + n + 1) i acc hi (by omega) with ⟨e1, e2⟩ | ⟨m, c, m1, m2, e1, e2⟩
      · exact ⟨([], false), e1, e2, Nat.zero_le _⟩
      · obtain ⟨r, r1, r2, r3⟩ := decode_both cs hc L hL hb n k k2 (i + m) (acc ++ [c]) (by omega) m2 (by rw [List.length_append, List.length_singleton]; omega)
        refine ⟨r, e1.trans r1, e2.trans r2, ?_⟩
        rw [List.length_append, List.length_singleton] at r3
        omega
    · obtain ⟨e1, e2⟩ := decode_end cs L (k + (n + 1) + 12) (k2 + (n + 1) + 12) i acc hi
      exact ⟨(acc, true), e1, e2, Nat.le_add_right _ _⟩
def hv (b : Int) : Int := Lib.indexByte [48, 49, 50, 51, 52, 53, 54, 55, 56, 57, 65, 66, 67, 68, 69, 70] b.toNat.toUInt8
theorem hv256 : ∀ b : Fin 256, spec_l1HexValue.f 1 (b.val : Int) = some (hv (b.val : Int)) ∧ -1 ≤ hv (b.val : Int) ∧ hv (b.val : Int) ≤ 15 := by decide +kernel
theorem spec_l1HexValue_k (k : Nat) (b : Int) : spec_l1HexValue.f (k + 1) b = spec_l1HexValue.f 1 b := by
  unfold spec_l1HexValue.f
  split <;> rw [spec_l1HexValue.j0, spec_l1HexValue.j0]
theorem spec_l1HexValue_eq (k : Nat) (b : Int) (h : 0 ≤ b ∧ b ≤ 255) : spec_l1HexValue.f (k + 1) b = some (hv b) ∧ -1 ≤ hv b ∧ hv b ≤ 15 := by
  have := hv256 ⟨b.toNat, by omega⟩
  rw [spec_l1HexValue_k]
  simpa [Int.toNat_of_nonneg h.1] using this
theorem or16 : ∀ a b : Fin 16, (Go.bits .or .i64 (wrap64 ((a.val : Int) * 16)) (b.val : Int)) % 256 = (wrap64 ((wrap64 (16 * (a.val : Int))) + (b.val : Int))) % 256 := by decide +kernel
theorem or_eqh (a b : Int) (ha : 0 ≤ a ∧ a ≤ 15) (hb : 0 ≤ b ∧ b ≤ 15) : (Go.bits .or .i64 (wrap64 (a * 16)) b) % 256 = (wrap64 ((wrap64 (16 * a)) + b)) % 256 := by
  have := or16 ⟨a.toNat, by omega⟩ ⟨b.toNat, by omega⟩
  simpa [Int.toNat_of_nonneg ha.1, Int.toNat_of_nonneg hb.1] using this
theorem index_hv (b : Int) : strings_IndexByte.f (⟨#[48, 49, 50, 51, 52, 53, 54, 55, 56, 57, 65, 66, 67, 68, 69, 70]⟩ : ByteArray) b = some (hv b) := rfl
theorem impl_hexByte_eq (s : ByteArray) (i : Nat) (hs : s.size ≤ 1048576) (hi : i ≤ s.size) : ∃ v ok, impl_hexByte.f s (i : Int) = some (v, ok) ∧ (i + 2 > s.size → ok = false) ∧ (i + 2 ≤ s.size → (ok = true ↔ 0 ≤ hv (bt s (i : Int)) ∧ 0 ≤ hv (bt s ((i + 1 : Nat) : Int))) ∧ (ok = true → v = (wrap64 ((wrap64 (16 * hv (bt s (i : Int)))) + hv (bt s ((i + 1 : Nat) : Int)))) % 256)) := by
  have h1 : wrap64 ((i : Int) + 2) = ((i + 2 : Nat) : Int) := by rw [wrap64_in (by omega)]; omega
  have h2 : wrap64 ((i : Int) + 1) = ((i + 1 : Nat) : Int) := by rw [wrap64_in (by omega)]; omega
  unfold impl_hexByte.f
  rw [h1, h2]
  by_cases h : i + 2 > s.size
  · rw [if_pos (by omega)]
    exact ⟨0, false, rfl, fun _ => rfl, fun g => absurd h (by omega)⟩
  · rw [if_neg (by omega), if_pos (by omega), if_pos (by omega), index_hv, Option.bind_some, if_pos (by omega), if_pos (by omega), index_hv, Option.bind_some]
    have r1 := (spec_l1HexValue_eq 0 _ (bt_range s (i : Int))).2
    have r2 := (spec_l1HexValue_eq 0 _ (bt_range s ((i + 1 : Nat) : Int))).2
    generalize hv (bt s (i : Int)) = a at r1
    generalize hv (bt s ((i + 1 : Nat) : Int)) = b at r2
    by_cases ha : a ≥ 0
    · rw [if_pos ha]
      refine ⟨_, _, rfl, fun g => absurd g h, fun _ => ⟨?_, fun hok => ?_⟩⟩
      · rw [decide_eq_true_eq]; omega
      · rw [decide_eq_true_eq] at hok
        exact or_eqh a b (by omega) (by omega)
    · rw [if_neg ha]
      exact ⟨_, _, rfl, fun g => absurd g h, fun _ => ⟨⟨fun e => Bool.noConfusion e, fun e => absurd e.1 ha⟩, fun e => Bool.noConfusion e⟩⟩
def fst (c : Int) : List Int → Option Nat
  | [] => none
  | x :: xs => if x = c then some 0 else (fst c xs).map (· + 1)
theorem fst_lt (c : Int) : ∀ (l : List Int) (i : Nat), fst c l = some i → i < l.length
  | [], i, h => by cases h
  | x :: xs, i, h => by
    unfold fst at h
    by_cases hx : x = c
    · rw [if_pos hx] at h; cases h; simp
    · rw [if_neg hx] at h
      obtain ⟨j, hj, rfl⟩ := Option.map_eq_some_iff.1 h
      have := fst_lt c xs j hj
      simp only [List.length_cons]
      omega
theorem toList_nil (s : ByteArray) : s.toList = [] ↔ s.size = 0 := by
  rw [Go.ByteArray.toList_eq]
  constructor
  · intro h
    have := congrArg List.length h
    rw [Array.length_toList] at this
    exact this
  · intro h
    apply List.eq_nil_of_length_eq_zero
    rw [Array.length_toList]
    exact h
theorem bytesOf_extract (s : ByteArray) (i j : Nat) : bytesOf (s.extract i j) = ((bytesOf s).take j).drop i := by
  unfold bytesOf
  rw [ByteArray.data_extract, Array.toList_extract]
  unfold List.extract
  rw [List.map_take, List.map_drop, List.drop_take]
theorem impl_encodeChars.l0_eq (a : Int) (ha : 1 ≤ a ∧ a ≤ 5) (L : List Int) (hL : ∀ x ∈ L, 0 ≤ x ∧ x ≤ 65535) (hb : L.length ≤ 1048576) : ∀ (n k i : Nat) (acc : List Int), L.length = i + n → n + 3 < k → acc.length + 3 * n ≤ 4194304 → impl_encodeChars.l0 k a acc L (L.length : Int) (i : Int) = some (acc ++ (L.drop i).flatMap (encB a))
  | _, 0, _, _, _, h, _ => absurd h (by omega)
  | 0, k + 1, i, acc, hi, _, _ => by
    have h1 : ¬ ((i : Int) < (L.length : Int)) := by omega
    unfold impl_encodeChars.l0
    rw [if_neg h1, List.drop_eq_nil_of_le (by omega)]
    simp
  | n + 1, k + 1, i, acc, hi, h, hc => by
    have h1 : (i : Int) < (L.length : Int) := by omega
    have h2 : (0 : Int) ≤ (i : Int) := by omega
    have h4 : wrap64 ((i : Int) + 1) = ((i + 1 : Nat) : Int) := by rw [wrap64_in (by omega)]; omega
    have hl := encB_len a L[i]
    obtain ⟨k2, rfl⟩ : ∃ k2, k = k2 + 3 := ⟨k - 3, by omega⟩
    unfold impl_encodeChars.l0
    rw [if_pos h1, if_pos h2, if_pos h1, rd_at L i (by omega), impl_encodeChar_eq k2 a _ ha (hL _ (List.getElem_mem _)), Option.bind_some, if_pos (by omega), h4, impl_encodeChars.l0_eq a ha L hL hb n (k2 + 3) (i + 1) _ (by omega) (by omega) (by rw [List.length_append]; omega), List.drop_eq_getElem_cons (by omega : i < L.length), List.flatMap_cons, List.append_assoc]
theorem impl_encodeChars_eq (a : Int) (ha : 1 ≤ a ∧ a ≤ 5) (L : List Int) (hL : ∀ x ∈ L, 0 ≤ x ∧ x ≤ 65535) (k : Nat) (hb : L.length ≤ 1048576) (hk : L.length + 3 < k) : impl_encodeChars.f k a L = some (L.flatMap (encB a)) := by
  unfold impl_encodeChars.f
  have := impl_encodeChars.l0_eq a ha L hL hb L.length k 0 [] (by omega) hk (by simp; omega)
  simpa using this
theorem oneF_enc (cs b : Int) (r : List Int) (hc : 1 ≤ cs ∧ cs ≤ 5) (hb : ∀ x ∈ b :: r, 0 ≤ x ∧ x ≤ 255) : (oneF cs b r).2 ≠ 0 → charB (oneF cs b r).1 = true ∧ hasB cs (oneF cs b r).1 = true ∧ encB cs (oneF cs b r).1 = (b :: r).take (oneF cs b r).2.toNat := by
  have hb0 := hb b (by simp)
  have key : ∀ q : Int × Int, q = oneF cs b r → q.2 ≠ 0 → charB q.1 = true ∧ hasB cs q.1 = true ∧ encB cs q.1 = (b :: r).take q.2.toNat := by
    intro q hq hn
    unfold oneF at hq
    by_cases h4 : cs = 4
    · subst h4
      have hh : ∀ c, hasB 4 c = true := fun c => by unfold hasB; rfl
      rw [if_pos rfl] at hq
      by_cases c1 : b < 128
      · rw [if_pos c1] at hq
        subst hq
        exact ⟨(charB_iff _).2 (by simp only; omega), hh _, (utf1 b hb0).2 c1⟩
      · rw [if_neg c1] at hq
        by_cases c2 : 194 ≤ b ∧ b < 224 ∧ 0 ≤ moreD r
        · rw [if_pos c2] at hq
          cases r with
          | nil => exact absurd c2.2.2 moreD_nil
          | cons b1 r =>
            have hb1 := hb b1 (by simp)
            have hm := (moreD_eq b1 r).1 c2.2.2
            have hv := moreD_val b1 r hm
            rw [hv] at hq
            have e : (b - 192) * 64 + (b1 - 128) = b % 32 * 64 + b1 % 64 := by omega
            rw [e] at hq
            subst hq
            exact ⟨(charB_iff _).2 (by simp only; omega), hh _, (utf2 b b1 (by omega) hb1).2 ⟨c2.1, hm⟩⟩
        · rw [if_neg c2] at hq
          by_cases c3 : 224 ≤ b ∧ b < 240 ∧ 0 ≤ moreD r ∧ 0 ≤ moreD r.tail ∧ 2048 ≤ (b - 224) * 4096 + moreD r * 64 + moreD r.tail ∧ charB ((b - 224) * 4096 + moreD r * 64 + moreD r.tail) = true
          · rw [if_pos c3] at hq
            cases r with
            | nil => exact absurd c3.2.2.1 moreD_nil
            | cons b1 r =>
              cases r with
              | nil => exact absurd c3.2.2.2.1 moreD_nil
              | cons b2 r =>
                have hb1 := hb b1 (by simp)
                have hb2 := hb b2 (by simp)
                have hm1 := (moreD_eq b1 (b2 :: r)).1 c3.2.2.1
                have hm2 := (moreD_eq b2 r).1 c3.2.2.2.1
                have hv1 := moreD_val b1 (b2 :: r) hm1
                have hv2 := moreD_val b2 r hm2
                have e : (b - 224) * 4096 + moreD (b1 :: b2 :: r) * 64 + moreD (b1 :: b2 :: r).tail = b % 16 * 4096 + b1 % 64 * 64 + b2 % 64 := by
                  rw [show (b1 :: b2 :: r).tail = b2 :: r from rfl, hv1, hv2]
                  have := c3.1
                  have := c3.2.1
                  clear c3 hq hv1 hv2
                  omega
                rw [e] at hq c3
                subst hq
                exact ⟨c3.2.2.2.2.2, hh _, (utf3 b b1 b2 ⟨c3.1, hb0.2⟩ hb1 hb2).2 ⟨by have := c3.2.1; omega, hm1, hm2, c3.2.2.2.2.1⟩⟩
          · rw [if_neg c3] at hq
            subst hq
            exact absurd rfl hn
    · rw [if_neg h4] at hq
      by_cases h5 : cs = 5
      · subst h5
        rw [if_pos rfl] at hq
        cases r with
        | nil => subst hq; exact absurd rfl hn
        | cons b1 r =>
          have hb1 := hb b1 (by simp)
          replace hq : q = (if charB (b * 256 + b1) = true then (b * 256 + b1, 2) else (0, 0)) := hq
          by_cases hcc : charB (b * 256 + b1) = true
          · rw [if_pos hcc] at hq
            subst hq
            refine ⟨hcc, by unfold hasB; rfl, ?_⟩
            have d1 : Int.tdiv (b * 256 + b1) 256 = b := by rw [Int.tdiv_eq_ediv_of_nonneg (by omega)]; omega
            have d2 : Int.tmod (b * 256 + b1) 256 = b1 := by rw [Int.tmod_eq_emod_of_nonneg (by omega)]; omega
            have w0 : wrap64 b = b := wrap64_in (by omega)
            unfold encB
            rw [if_neg (by decide), if_neg (by decide), if_pos rfl, d1, d2, w0, show b % 256 = b by omega, show b1 % 256 = b1 by omega]
            rfl
          · rw [if_neg hcc] at hq
            subst hq
            exact absurd rfl hn
      · rw [if_neg h5] at hq
        have hs := single_eq cs b (by omega) hb0
        by_cases hh : hasB cs (cy cs b) = true
        · rw [if_pos hh] at hq
          subst hq
          rw [hh, Bool.and_true, Bool.and_eq_true, decide_eq_true_eq] at hs
          exact ⟨hs.1, hh, hs.2⟩
        · rw [if_neg hh] at hq
          subst hq
          exact absurd rfl hn
  exact key _ rfl
theorem cy_cyrV (c : Int) (h : Cyr c) : cy 3 (cyrV c % 256) = c := by
  unfold Cyr at h
  unfold cy cyrV
  rw [if_pos rfl]
  repeat' split
  all_goals omega
theorem enc_oneF (cs c : Int) (rest : List Int) (hc : 1 ≤ cs ∧ cs ≤ 5) (h1 : charB c = true) (h2 : hasB cs c = true) : ∃ b r, encB cs c = b :: r ∧ oneF cs b (r ++ rest) = (c, ((encB cs c).length : Int)) := by
  have hr := (charB_iff c).1 h1
  have h0 : 0 ≤ c ∧ c ≤ 65535 := by omega
  clear hr
  by_cases h4 : cs = 4
  · subst h4
    unfold encB
    rw [if_neg (by decide), if_neg (by decide), if_neg (by decide)]
    by_cases c1 : c < 128
    · rw [if_pos c1]
      refine ⟨_, _, rfl, ?_⟩
      unfold oneF
      rw [if_pos rfl, if_pos (by omega), show c % 256 = c by omega]
      rfl
    · rw [if_neg c1]
      have t1 : Int.tdiv c 64 = c / 64 := Int.tdiv_eq_ediv_of_nonneg h0.1
      have t2 : Int.tmod c 64 = c % 64 := Int.tmod_eq_emod_of_nonneg h0.1
      have w3 : wrap64 (128 + c % 64) = 128 + c % 64 := wrap64_in (by omega)
      by_cases c2 : c < 2048
      · rw [if_pos c2, t1, t2]
        have w1 : wrap64 (c / 64) = c / 64 := wrap64_in (by omega)
        have w2 : wrap64 (192 + c / 64) = 192 + c / 64 := wrap64_in (by omega)
        rw [w1, w2, w3, show (192 + c / 64) % 256 = 192 + c / 64 by omega, show (128 + c % 64) % 256 = 128 + c % 64 by omega]
        refine ⟨_, _, rfl, ?_⟩
        have hm : moreD ([128 + c % 64] ++ rest) = c % 64 := by
          show moreD ((128 + c % 64) :: rest) = _
          rw [moreD_val _ _ (by omega)]; omega
        unfold oneF
        rw [hm, if_pos rfl, if_neg (by omega), if_pos (by omega), show (192 + c / 64 - 192) * 64 + c % 64 = c by omega]
        rfl
      · have t3 : Int.tdiv c 4096 = c / 4096 := Int.tdiv_eq_ediv_of_nonneg h0.1
        have w1 : wrap64 (c / 4096) = c / 4096 := wrap64_in (by omega)
        have w2 : wrap64 (224 + c / 4096) = 224 + c / 4096 := wrap64_in (by omega)
        have w4 : wrap64 (c / 64) = c / 64 := wrap64_in (by omega)
        have t4 : Int.tmod (c / 64) 64 = c / 64 % 64 := Int.tmod_eq_emod_of_nonneg (by omega)
        have w5 : wrap64 (128 + c / 64 % 64) = 128 + c / 64 % 64 := wrap64_in (by omega)
        rw [if_neg c2, t1, t2, t3, w1, w2, w3, w4, t4, w5, show (224 + c / 4096) % 256 = 224 + c / 4096 by omega, show (128 + c % 64) % 256 = 128 + c % 64 by omega, show (128 + c / 64 % 64) % 256 = 128 + c / 64 % 64 by omega]
        refine ⟨_, _, rfl, ?_⟩
        have hm : moreD ([128 + c / 64 % 64, 128 + c % 64] ++ rest) = c / 64 % 64 := by
          show moreD ((128 + c / 64 % 64) :: (128 + c % 64) :: rest) = _
          rw [moreD_val _ _ (by omega)]; omega
        have hm2 : moreD ([128 + c / 64 % 64, 128 + c % 64] ++ rest).tail = c % 64 := by
          show moreD ((128 + c % 64) :: rest) = _
          rw [moreD_val _ _ (by omega)]; omega
        have e : (224 + c / 4096 - 224) * 4096 + c / 64 % 64 * 64 + c % 64 = c := by omega
        unfold oneF
        rw [hm, hm2, e, if_pos rfl, if_neg (by omega), if_neg (by omega), if_pos ⟨by omega, by omega, by omega, by omega, by omega, h1⟩]
        rfl
  · by_cases h5 : cs = 5
    · subst h5
      have d1 : Int.tdiv c 256 = c / 256 := Int.tdiv_eq_ediv_of_nonneg h0.1
      have d2 : Int.tmod c 256 = c % 256 := Int.tmod_eq_emod_of_nonneg h0.1
      have w0 : wrap64 (c / 256) = c / 256 := wrap64_in (by omega)
      unfold encB
      rw [if_neg (by decide), if_neg (by decide), if_pos rfl, d1, d2, w0, show c / 256 % 256 = c / 256 by omega, show c % 256 % 256 = c % 256 by omega]
      refine ⟨_, _, rfl, ?_⟩
      have e : c / 256 * 256 + c % 256 = c := by omega
      unfold oneF
      rw [if_neg (by decide), if_pos rfl]
      show (if charB (c / 256 * 256 + c % 256) = true then (c / 256 * 256 + c % 256, (2 : Int)) else (0, 0)) = _
      rw [e, if_pos h1]
      rfl
    · have n : ∀ b r, oneF cs b r = (if hasB cs (cy cs b) = true then (cy cs b, 1) else (0, 0)) := by
        intro b r
        unfold oneF
        rw [if_neg h4, if_neg h5]
      unfold encB
      by_cases h3 : cs = 3
      · subst h3
        have hcy : Cyr c := by
          unfold hasB at h2
          rw [if_neg (by decide), if_neg (by decide), if_pos rfl] at h2
          exact of_decide_eq_true h2
        rw [if_neg (by decide), if_pos rfl]
        refine ⟨_, _, rfl, ?_⟩
        rw [n, cy_cyrV c hcy, if_pos h2]
        rfl
      · have h12 : cs = 1 ∨ cs = 2 := by omega
        have hlt : 0 ≤ c ∧ c ≤ 255 := by
          unfold hasB at h2
          rcases h12 with rfl | rfl
          · rw [if_pos rfl] at h2
            have := of_decide_eq_true h2
            omega
          · rw [if_neg (by decide), if_pos rfl] at h2
            exact of_decide_eq_true h2
        rw [if_pos h12, show c % 256 = c by omega]
        refine ⟨_, _, rfl, ?_⟩
        have e : cy cs c = c := by unfold cy; rw [if_neg h3]
        rw [n, e, if_pos h2]
        rfl
theorem dec_step (cs : Int) (hc : 1 ≤ cs ∧ cs ≤ 5) (b : Int) (r : List Int) (hb : ∀ x ∈ b :: r, 0 ≤ x ∧ x ≤ 255) (k : Nat) (acc : List Int) (ha : acc.length < 17592186044416) :
    impl_decodeChars.l0 (k + 13) cs (b :: r) acc = (if (oneF cs b r).2 = 0 then some ([], false) else impl_decodeChars.l0 (k + 12) cs ((b :: r).drop ((oneF cs b r).2).toNat) (acc ++ [(oneF cs b r).1])) := by
  have hf := impl_firstChar_eq k cs b r hc hb
  have hn := oneF_snd cs b r
  have a2 : ((b :: r).length : Int) > 0 := by rw [List.length_cons]; omega
  conv => lhs; unfold impl_decodeChars.l0
  rw [if_pos a2, hf]
  show (if (oneF cs b r).2 = 0 then some ([], false) else if acc.length < 17592186044416 then (if 0 ≤ (oneF cs b r).2 then (if (oneF cs b r).2 ≤ ((b :: r).length : Int) then impl_decodeChars.l0 (k + 12) cs ((b :: r).drop ((oneF cs b r).2).toNat) (acc ++ [(oneF cs b r).1]) else none) else none) else none) = _
  clear hf
  generalize oneF cs b r = q at hn
  by_cases hz : q.2 = 0
  · rw [if_pos hz, if_pos hz]
  · rw [if_neg hz, if_neg hz, if_pos ha, if_pos (by omega), if_pos (by rw [List.length_cons]; omega)]
theorem dec_enc (cs : Int) (hc : 1 ≤ cs ∧ cs ≤ 5) : ∀ (codes : List Int) (k : Nat) (acc : List Int), (∀ x ∈ codes, charB x = true ∧ hasB cs x = true) → codes.length + 13 ≤ k → acc.length + codes.length ≤ 4194304 → impl_decodeChars.l0 k cs (codes.flatMap (encB cs)) acc = some (acc ++ codes, true)
  | [], k, acc, _, hk, _ => by
    obtain ⟨k, rfl⟩ : ∃ m, k = m + 1 := ⟨k - 1, by omega⟩
    unfold impl_decodeChars.l0
    rw [if_neg (by simp)]
    simp
  | c :: cd, k, acc, h, hk, ha => by
    simp only [List.length_cons] at hk ha
    obtain ⟨k, rfl⟩ : ∃ m, k = m + 13 := ⟨k - 13, by omega⟩
    obtain ⟨g1, g2⟩ := h c (by simp)
    obtain ⟨b, r, e1, e2⟩ := enc_oneF cs c (cd.flatMap (encB cs)) hc g1 g2
    have hby : ∀ x ∈ b :: (r ++ cd.flatMap (encB cs)), 0 ≤ x ∧ x ≤ 255 := by
      intro x hx
      rw [← List.cons_append, ← e1, List.mem_append, List.mem_flatMap] at hx
      rcases hx with hx | ⟨y, _, hx⟩
      · exact encB_bytes cs c x hx
      · exact encB_bytes cs y x hx
    have hl : (encB cs c).length = r.length + 1 := by rw [e1, List.length_cons]
    rw [List.flatMap_cons, e1, List.cons_append, dec_step cs hc b _ hby k acc (by omega), e2]
    simp only
    rw [if_neg (by omega), Int.toNat_natCast, hl, List.drop_succ_cons, List.drop_left, dec_enc cs hc cd (k + 12) (acc ++ [c]) (fun x hx => h x (by simp [hx])) (by omega) (by rw [List.length_append, List.length_singleton]; omega), List.append_assoc]
    rfl
theorem enc_dec (cs : Int) (hc : 1 ≤ cs ∧ cs ≤ 5) : ∀ (n : Nat) (L acc out : List Int) (k : Nat), L.length ≤ n → (∀ x ∈ L, 0 ≤ x ∧ x ≤ 255) → acc.length + n ≤ 4194304 → impl_decodeChars.l0 (k + n + 13) cs L acc = some (out, true) → ∃ codes, out = acc ++ codes ∧ codes.flatMap (encB cs) = L ∧ (∀ x ∈ codes, charB x = true ∧ hasB cs x = true) ∧ codes.length ≤ L.length
  | n, [], acc, out, k, _, _, _, h => by
    unfold impl_decodeChars.l0 at h
    rw [if_neg (by simp)] at h
    injection h with h
    injection h with h _
    exact ⟨[], by simp [h], rfl, by simp, Nat.le_refl _⟩
  | 0, b :: r, acc, out, k, hl, _, _, _ => absurd hl (by simp)
  | n + 1, b :: r, acc, out, k, hl, hb, ha, h => by
    rw [show k + (n + 1) + 13 = (k + n + 1) + 13 by omega, dec_step cs hc b r hb (k + n + 1) acc (by omega)] at h
    have hn := oneF_snd cs b r
    have he := oneF_enc cs b r hc hb
    generalize oneF cs b r = q at hn he h
    by_cases hz : q.2 = 0
    · rw [if_pos hz] at h
      injection h with h
      injection h with _ h
      cases h
    · obtain ⟨e1, e2, e3⟩ := he hz
      rw [if_neg hz] at h
      simp only [List.length_cons] at hl
      obtain ⟨codes, c1, c2, c3, c4⟩ := enc_dec cs hc n ((b :: r).drop q.2.toNat) (acc ++ [q.1]) out k (by rw [List.length_drop, List.length_cons]; omega) (fun x hx => hb x (List.mem_of_mem_drop hx)) (by rw [List.length_append, List.length_singleton]; omega) h
      refine ⟨q.1 :: codes, by rw [c1, List.append_assoc]; rfl, ?_, ?_, ?_⟩
      · rw [List.flatMap_cons, c2, e3, List.take_append_drop]
      · intro x hx
        rcases List.mem_cons.1 hx with rfl | hx
        · exact ⟨e1, e2⟩
        · exact c3 x hx
      · rw [List.length_drop, List.length_cons] at c4
        rw [List.length_cons, List.length_cons]
        omega
def good (c : Int) : Prop := charB c = true
theorem good_text (cs : Int) (hc : 1 ≤ cs ∧ cs ≤ 5) (L : List Int) (hL : L.length ≤ 400) (hb : ∀ x ∈ L, 0 ≤ x ∧ x ≤ 255) (r : List Int × Bool) (k : Nat) (hk : 450 < k) (h : impl_decodeChars.f k cs L = some r) (hok : r.2 = true) : ∀ c ∈ r.1, good c := by
  obtain ⟨kk, rfl⟩ : ∃ m, k = m + L.length + 13 := ⟨k - L.length - 13, by omega⟩
  obtain ⟨codes, c1, c2, c3, c4⟩ := enc_dec cs hc L.length L [] r.1 kk (Nat.le_refl _) hb (by simp; omega) (by unfold impl_decodeChars.f at h; rw [h, ← hok])
  rw [List.nil_append] at c1
  rw [c1]
  exact fun x hx => (c3 x hx).1
theorem good_one (b : Int) (r : List Int) (hb : ∀ x ∈ b :: r, 0 ≤ x ∧ x ≤ 255) (h : (oneF 4 b r).2 ≠ 0) : good (oneF 4 b r).1 := (oneF_enc 4 b r (by omega) hb h).1
theorem good_fffd : good 65533 := by unfold good; decide +kernel
theorem uniq2 {α : Type} (F G : Nat → Option α) (p : α → Prop) (K : Nat) (h : ∀ k k2, K < k → K < k2 → ∃ r, p r ∧ F k = some r ∧ G k2 = some r) : ∃ r, p r ∧ (∀ k, K < k → F k = some r) ∧ ∀ k, K < k → G k = some r := by
  obtain ⟨r, h1, h2, h3⟩ := h (K + 1) (K + 1) (by omega) (by omega)
  refine ⟨r, h1, fun k hk => ?_, fun k hk => ?_⟩
  · obtain ⟨q, _, g2, g3⟩ := h k (K + 1) hk (by omega)
    rw [h3] at g3
    rw [g2, ← g3]
  · obtain ⟨q, _, g2, g3⟩ := h (K + 1) k (by omega) hk
    rw [h2] at g2
    rw [g3, ← g2]
theorem text_all (cs : Int) (hc : 1 ≤ cs ∧ cs ≤ 5) (L : List Int) (hL : L.length ≤ 400) (hb : ∀ x ∈ L, 0 ≤ x ∧ x ≤ 255) : ∃ (r : List Int) (ok : Bool), (r.length ≤ 400 ∧ (ok = true → ∀ c ∈ r, good c)) ∧ (∀ k, 500 < k → spec_l2Decode.f k cs L = some (r, ok)) ∧ ∀ k, 500 < k → impl_DecodeText.f k cs L = some (if ok = true then (0, r) else (8, [])) := by
  obtain ⟨r, h1, h2, h3⟩ := uniq2 (fun k => spec_l2Decode.f k cs L) (fun k => impl_decodeChars.f k cs L) (fun r => r.1.length ≤ L.length) 500 (fun k k2 hk hk2 => by
    obtain ⟨q, rfl⟩ : ∃ m, k = m + L.length + 13 := ⟨k - L.length - 13, by omega⟩
    obtain ⟨q2, rfl⟩ : ∃ m, k2 = m + L.length + 13 := ⟨k2 - L.length - 13, by omega⟩
    obtain ⟨r, r1, r2, r3⟩ := decode_both cs hc L (by omega) hb L.length q q2 0 [] (by omega) (by omega) (by simp; omega)
    rw [List.drop_zero] at r2
    exact ⟨r, by simpa using r3, r1, r2⟩)
  refine ⟨r.1, r.2, ⟨by omega, fun e => good_text cs hc L hL hb r 600 (by omega) (h3 600 (by omega)) e⟩, h2, fun k hk => ?_⟩
  unfold impl_DecodeText.f
  simp only [impl_isCharset_eq, Option.bind_some]
  rw [decide_eq_true hc, if_pos rfl, if_neg (by omega), show impl_decodeChars.f k cs L = some r from h3 k hk, Option.bind_some]
  split <;> rfl
theorem wsucc (i : Nat) (h : i ≤ 4611686018427387904) : wrap64 ((i : Int) + 1) = ((i + 1 : Nat) : Int) := by rw [wrap64_in (by omega)]; omega
theorem wadd2 (i : Nat) (h : i ≤ 4611686018427387904) : wrap64 ((i : Int) + 2) = ((i + 2 : Nat) : Int) := by rw [wrap64_in (by omega)]; omega
theorem wadd3 (i : Nat) (h : i ≤ 4611686018427387904) : wrap64 ((i : Int) + 3) = ((i + 3 : Nat) : Int) := by rw [wrap64_in (by omega)]; omega
def suf (v : ByteArray) (i : Nat) : ByteArray := v.extract i v.size
theorem bl (v : ByteArray) : (bytesOf v).length = v.size := by simp [bytesOf]
theorem suf_size (v : ByteArray) (i : Nat) : (suf v i).size = v.size - i := by unfold suf; rw [ByteArray.size_extract]; omega
theorem suf_bytes (v : ByteArray) (i : Nat) : bytesOf (suf v i) = (bytesOf v).drop i := by
  unfold suf
  rw [bytesOf_extract, List.take_of_length_le (by rw [bl]; exact Nat.le_refl _)]
theorem inj {a b : ByteArray} (h : bytesOf a = bytesOf b) : a = b := by rw [← strOfNums_bytesOf a, h, strOfNums_bytesOf]
theorem suf_cut (v : ByteArray) (i n : Nat) : (suf v i).extract n (suf v i).size = suf v (i + n) := by
  apply inj
  rw [bytesOf_extract, suf_bytes, suf_bytes, List.take_of_length_le (by rw [List.length_drop, bl, suf_size]; exact Nat.le_refl _), List.drop_drop]
theorem suf_mid (v : ByteArray) (i n : Nat) : (suf v i).extract 0 n = v.extract i (i + n) := by
  apply inj
  rw [bytesOf_extract, bytesOf_extract, suf_bytes, List.drop_zero, List.drop_take, Nat.add_sub_cancel_left]
theorem suf_zero (v : ByteArray) : suf v 0 = v := by apply inj; rw [suf_bytes, List.drop_zero]
theorem bt_L (v : ByteArray) (i : Nat) (h : i < v.size) : bt v (i : Int) = (bytesOf v)[i]'(by rw [bl]; exact h) := by
  rw [← rd_bytesOf, rd_at _ i (by rw [bl]; exact h)]
theorem fst_drop (v : ByteArray) (i : Nat) (h : i < v.size) : fst 63 ((bytesOf v).drop i) = if bt v (i : Int) = 63 then some 0 else (fst 63 ((bytesOf v).drop (i + 1))).map (· + 1) := by
  rw [List.drop_eq_getElem_cons (by rw [bl]; exact h), bt_L v i h]
  rfl
theorem fst_at (v : ByteArray) (i d : Nat) (h : fst 63 ((bytesOf v).drop i) = some d) : i + d < v.size ∧ bt v ((i + d : Nat) : Int) = 63 := by
  induction d generalizing i with
  | zero =>
    have hlt := fst_lt 63 _ _ h
    rw [List.length_drop, bl] at hlt
    refine ⟨by omega, ?_⟩
    rw [fst_drop v i (by omega)] at h
    by_cases c : bt v (i : Int) = 63
    · exact c
    · rw [if_neg c] at h
      cases e : fst 63 ((bytesOf v).drop (i + 1)) <;> rw [e] at h <;> simp at h
  | succ d ih =>
    have hlt := fst_lt 63 _ _ h
    rw [List.length_drop, bl] at hlt
    rw [fst_drop v i (by omega)] at h
    by_cases c : bt v (i : Int) = 63
    · rw [if_pos c] at h; simp at h
    · rw [if_neg c] at h
      cases e : fst 63 ((bytesOf v).drop (i + 1)) with
      | none => rw [e] at h; simp at h
      | some q =>
        rw [e] at h
        simp at h
        subst h
        have := ih (i + 1) e
        rw [show i + (q + 1) = i + 1 + q by omega]
        exact this
theorem fst_before (v : ByteArray) (i d j : Nat) (h : fst 63 ((bytesOf v).drop i) = some d) (hj : j < d) : bt v ((i + j : Nat) : Int) ≠ 63 := by
  induction d generalizing i j with
  | zero => omega
  | succ d ih =>
    have hlt := fst_lt 63 _ _ h
    rw [List.length_drop, bl] at hlt
    rw [fst_drop v i (by omega)] at h
    by_cases c : bt v (i : Int) = 63
    · rw [if_pos c] at h; simp at h
    · rw [if_neg c] at h
      cases e : fst 63 ((bytesOf v).drop (i + 1)) with
      | none => rw [e] at h; simp at h
      | some q =>
        rw [e] at h
        simp at h
        subst h
        cases j with
        | zero => exact c
        | succ j =>
          have := ih (i + 1) j e (by omega)
          rw [show i + (j + 1) = i + 1 + j by omega]
          exact this
theorem fst_none (v : ByteArray) (i j : Nat) (h : fst 63 ((bytesOf v).drop i) = none) (hj : i ≤ j) (hl : j < v.size) : bt v (j : Int) ≠ 63 := by
  obtain ⟨n, rfl⟩ : ∃ n, j = i + n := ⟨j - i, by omega⟩
  induction n generalizing i with
  | zero =>
    rw [fst_drop v i (by omega)] at h
    intro c
    rw [show i + 0 = i from rfl] at c
    rw [if_pos c] at h
    cases h
  | succ n ih =>
    rw [fst_drop v i (by omega)] at h
    by_cases c : bt v (i : Int) = 63
    · rw [if_pos c] at h; cases h
    · rw [if_neg c] at h
      have := ih (i + 1) (by simpa using h) (by omega) (by omega)
      rw [show i + (n + 1) = i + 1 + n by omega]
      exact this
theorem mark_eq (v : ByteArray) (hv : v.size ≤ 400) : ∀ (n k i : Nat), v.size ≤ i + n → n < k → i ≤ 1000 → spec_l4Mark.f k v (i : Int) = some (match fst 63 ((bytesOf v).drop i) with | none => -1 | some d => ((i + d : Nat) : Int))
  | _, 0, _, _, h, _ => absurd h (by omega)
  | 0, k + 1, i, hi, _, _ => by
    show spec_l4Mark.l0 (k + 1) v (i : Int) = _
    rw [spec_l4Mark.l0, if_neg (by omega), List.drop_eq_nil_of_le (by rw [bl]; omega)]
    rfl
  | n + 1, k + 1, i, hi, hk, h1 => by
    show spec_l4Mark.l0 (k + 1) v (i : Int) = _
    by_cases c : i < v.size
    · have ih : spec_l4Mark.l0 k v ((i + 1 : Nat) : Int) = _ := mark_eq v hv n k (i + 1) (by omega) (by omega) (by omega)
      rw [spec_l4Mark.l0, if_pos (by omega), if_pos (by omega), fst_drop v i c, wsucc i (by omega)]
      by_cases d : bt v (i : Int) = 63
      · rw [if_pos d, if_pos d]; rfl
      · rw [if_neg d, if_neg d, ih]
        cases fst 63 ((bytesOf v).drop (i + 1)) with
        | none => rfl
        | some q => show some (((i + 1 + q : Nat) : Int)) = some (((i + (q + 1) : Nat) : Int)); congr 2; omega
    · rw [spec_l4Mark.l0, if_neg (by omega), List.drop_eq_nil_of_le (by rw [bl]; omega)]
      rfl
def lbytes (l : List Int) : List UInt8 := l.map fun n => UInt8.ofNat n.toNat
theorem dataL (s : ByteArray) : s.data.toList = lbytes (bytesOf s) := by
  unfold lbytes bytesOf
  rw [List.map_map]
  conv => lhs; rw [← List.map_id s.data.toList]
  apply List.map_congr_left
  intro x _
  simp
theorem index_fst : ∀ l : List Int, (∀ x ∈ l, 0 ≤ x ∧ x ≤ 255) → Lib.index (lbytes l) [63] = match fst 63 l with | none => -1 | some i => (i : Int)
  | [], _ => rfl
  | x :: r, h => by
    have ih := index_fst r (fun y hy => h y (List.mem_cons_of_mem _ hy))
    have hp : ([63] : List UInt8).isPrefixOf (UInt8.ofNat x.toNat :: lbytes r) = decide (x = 63) := by
      have h1 : ((63 : UInt8) == UInt8.ofNat x.toNat) = decide (x = 63) := by
        rw [← u8_eq x 63 (h x (by simp)) (by omega), Bool.eq_iff_iff, beq_iff_eq, beq_iff_eq]
        exact ⟨fun e => e.symm, fun e => e.symm⟩
      rw [List.isPrefixOf, h1]
      simp
    have hge := Lib.index_ge (lbytes r) [63]
    show Lib.index (UInt8.ofNat x.toNat :: lbytes r) [63] = _
    rw [Lib.index, hp, show fst 63 (x :: r) = if x = 63 then some 0 else (fst 63 r).map (· + 1) from rfl]
    by_cases c : x = 63
    · rw [decide_eq_true c, if_pos rfl, if_pos c]; rfl
    · rw [decide_eq_false c, if_neg (by decide), if_neg c, ih]
      cases fst 63 r with
      | none => rfl
      | some i =>
        show (if (((i : Int) == -1) = true) then -1 else (i : Int) + 1) = ((i + 1 : Nat) : Int)
        have : ((i : Int) == -1) = false := by rw [beq_eq_false_iff_ne]; omega
        rw [this, if_neg (by decide)]
        omega
theorem indexB_fst (s : ByteArray) : Lib.indexB s (⟨#[63]⟩ : ByteArray) = match fst 63 (bytesOf s) with | none => -1 | some i => (i : Int) := by
  have := index_fst (bytesOf s) (bytesOf_in s)
  rw [← dataL] at this
  exact this
theorem split_miss (s : ByteArray) (k : Nat) (h : fst 63 (bytesOf s) = none) : Lib.splitB (⟨#[63]⟩ : ByteArray) 0 k s = [s] :=
  Lib.splitB_miss _ _ _ _ (by rw [indexB_fst, h])
theorem split_hit (v : ByteArray) (i k d : Nat) (h : fst 63 ((bytesOf v).drop i) = some d) : Lib.splitB (⟨#[63]⟩ : ByteArray) 0 (k + 1) (suf v i) = v.extract i (i + d) :: Lib.splitB (⟨#[63]⟩ : ByteArray) 0 k (suf v (i + d + 1)) := by
  have := Lib.splitB_hit (⟨#[63]⟩ : ByteArray) 0 k (suf v i) d (by rw [indexB_fst, suf_bytes, h])
  rw [this, Nat.add_zero, suf_mid, show d + (⟨#[63]⟩ : ByteArray).size = d + 1 from rfl, suf_cut, Nat.add_assoc]
theorem split_more (v : ByteArray) : ∀ (k m i : Nat), v.size - i ≤ k → Lib.splitB (⟨#[63]⟩ : ByteArray) 0 k (suf v i) = Lib.splitB (⟨#[63]⟩ : ByteArray) 0 (k + m) (suf v i)
  | 0, m, i, h => by
    have : fst 63 (bytesOf (suf v i)) = none := by rw [suf_bytes, List.drop_eq_nil_of_le (by rw [bl]; omega)]; rfl
    rw [split_miss _ _ this, split_miss _ _ this]
  | k + 1, m, i, h => by
    cases e : fst 63 ((bytesOf v).drop i) with
    | none => rw [split_miss _ _ (by rw [suf_bytes, e]), split_miss _ _ (by rw [suf_bytes, e])]
    | some d => rw [split_hit v i k d e, show k + 1 + m = k + m + 1 by omega, split_hit v i (k + m) d e, split_more v k m (i + d + 1) (by omega)]
theorem splitN_eq (v : ByteArray) (hv : v.size ≤ 400) (i : Nat) : strings_SplitN.f (suf v i) (⟨#[63]⟩ : ByteArray) 4 = some (Lib.splitB (⟨#[63]⟩ : ByteArray) 0 3 (suf v i)) := by
  have hs := suf_size v i
  unfold strings_SplitN.f
  rw [if_pos ⟨by omega, by decide, by decide, by decide⟩]
  congr 1
  show Lib.splitB _ 0 (min 4 ((suf v i).size + 1) - 1) _ = _
  by_cases c : (suf v i).size ≤ 3
  · have := split_more v (min 4 ((suf v i).size + 1) - 1) (3 - (suf v i).size) i (by omega)
    rw [this, show min 4 ((suf v i).size + 1) - 1 + (3 - (suf v i).size) = 3 by omega]
  · rw [show min 4 ((suf v i).size + 1) - 1 = 3 by omega]
theorem seen_eq (b : Int) : impl_isSeen.f b = some (decide (33 ≤ b ∧ b ≤ 126) && b != 61) := by
  unfold impl_isSeen.f
  by_cases h1 : 33 ≤ b
  · rw [if_pos h1]
    by_cases h2 : b ≤ 126
    · rw [if_pos h2]; simp [h1, h2]
    · rw [if_neg h2]; simp [h2]
  · rw [if_neg h1]; simp [h1]
theorem letters_l0 (s : ByteArray) (hs : s.size ≤ 400) : ∀ (n k k2 i : Nat) (acc : List Int), s.size ≤ i + n → 3 * n + 4 < k → 3 * n + 4 < k2 → (acc.length ≤ i ∧ acc.length ≤ s.size) → i ≤ 1000 → (∀ x ∈ acc, 0 ≤ x ∧ x ≤ 255) → ∃ out ok, out.length ≤ s.size ∧ (∀ x ∈ out, 0 ≤ x ∧ x ≤ 255) ∧ spec_l4Letters.l0 k s acc (i : Int) = some (out, ok) ∧ impl_quotedWord.l0 k2 s acc (i : Int) = some (out, ok)
  | n, 0, _, _, _, _, h, _, _, _, _ => absurd h (by omega)
  | n, _ + 1, 0, _, _, _, _, h, _, _, _ => absurd h (by omega)
  | 0, k + 1, k2 + 1, i, acc, h1, _, _, ha, hi, hB => by
    refine ⟨acc, true, by omega, hB, ?_, ?_⟩
    · rw [spec_l4Letters.l0, if_neg (by omega)]
    · rw [impl_quotedWord.l0, if_neg (by omega)]
  | n + 1, k + 1, k2 + 1, i, acc, h1, hk, hk2, ha, hi, hB => by
    by_cases hlt : i < s.size
    · have hbr := bt_range s (i : Int)
      have hacc : acc.length < 140737488355328 := by omega
      have w4 : wrap64 (((i + 2 : Nat) : Int) + 1) = ((i + 3 : Nat) : Int) := by rw [wrap64_in (by omega)]; omega
      have app : ∀ (x : Int) (kk j : Nat), 0 ≤ x ∧ x ≤ 255 → i < j → j ≤ i + 3 → 3 * n + 4 < kk → ∃ out ok, out.length ≤ s.size ∧ (∀ y ∈ out, 0 ≤ y ∧ y ≤ 255) ∧ spec_l4Letters.l0 kk s (acc ++ [x]) (j : Int) = some (out, ok) ∧ impl_quotedWord.l0 k2 s (acc ++ [x]) (j : Int) = some (out, ok) := by
        intro x kk j hx g1 g2 g3
        refine letters_l0 s hs n kk k2 j (acc ++ [x]) (by omega) g3 (by omega) ⟨by simp; omega, by simp; omega⟩ (by omega) (fun y hy => ?_)
        rcases List.mem_append.1 hy with h | h
        · exact hB y h
        · rw [List.mem_singleton.1 h]; exact hx
      have a1 : (i : Int) < (s.size : Int) := by omega
      have a0 : (0 : Int) ≤ (i : Int) := by omega
      rw [spec_l4Letters.l0, impl_quotedWord.l0]
      simp only [if_pos a1, if_pos a0]
      rw [wsucc i (by omega), wadd2 i (by omega), w4, seen_eq, Option.bind_some]
      by_cases c95 : bt s (i : Int) = 95
      · simp only [if_pos c95, if_pos hacc]
        exact app 32 k (i + 1) (by omega) (by omega) (by omega) (by omega)
      · simp only [if_neg c95]
        obtain ⟨hxv, hxo, hx1, hx2, hx3⟩ := impl_hexByte_eq s (i + 1) (by omega) (by omega)
        have hj1 : ∀ b, spec_l4Letters.j1 k s acc (i : Int) (bt s (i : Int)) b = if b = true then some ([], false) else spec_l4Letters.j1 k s acc (i : Int) (bt s (i : Int)) false := by
          intro b
          cases b with
          | true =>
            obtain ⟨k, rfl⟩ : ∃ q, k = q + 1 := ⟨k - 1, by omega⟩
            rw [if_pos rfl, spec_l4Letters.j1, if_pos rfl]
          | false => rw [if_neg (by decide)]
        by_cases c33 : bt s (i : Int) < 33 ∨ bt s (i : Int) > 126
        · have hsn : (decide (33 ≤ bt s (i : Int) ∧ bt s (i : Int) ≤ 126) && bt s (i : Int) != 61) = false := by rw [decide_eq_false (by omega)]; rfl
          refine ⟨[], false, by simp, by simp, ?_, ?_⟩
          · by_cases g : bt s (i : Int) < 33
            · rw [if_pos g, hj1, if_pos rfl]
            · rw [if_neg g, decide_eq_true (show bt s (i : Int) > 126 by omega), hj1, if_pos rfl]
          · rw [hsn, if_neg (by decide), hx1, Option.bind_some, if_neg (show ¬ bt s (i : Int) = 61 by omega)]
        · rw [if_neg (show ¬ bt s (i : Int) < 33 by omega), decide_eq_false (show ¬ bt s (i : Int) > 126 by omega)]
          obtain ⟨k, rfl⟩ : ∃ q, k = q + 3 := ⟨k - 3, by omega⟩
          rw [spec_l4Letters.j1, if_neg (by decide), wsucc i (by omega), wadd2 i (by omega)]
          by_cases c61 : bt s (i : Int) = 61
          · have hsn : (decide (33 ≤ bt s (i : Int) ∧ bt s (i : Int) ≤ 126) && bt s (i : Int) != 61) = false := by rw [c61]; decide
            simp only [if_pos c61, hsn, hx1, Option.bind_some, Bool.false_eq_true, if_false]
            have hj2 : spec_l4Letters.j2 (k + 2) s acc (i : Int) true = some ([], false) := by rw [spec_l4Letters.j2, if_pos rfl]
            by_cases hend : i + 2 ≥ s.size
            · have hf : hxo = false := hx2 (by omega)
              rw [if_pos (show ((i + 2 : Nat) : Int) ≥ (s.size : Int) by omega), hj2, hf, if_neg (by decide)]
              exact ⟨[], false, by simp, by simp, rfl, rfl⟩
            · have hok := hx3 (by omega)
              have S1 := spec_l1HexValue_eq (k + 1) _ (bt_range s ((i + 1 : Nat) : Int))
              have S2 := spec_l1HexValue_eq (k + 1) _ (bt_range s ((i + 2 : Nat) : Int))
              have S3 := spec_l1HexValue_eq k _ (bt_range s ((i + 1 : Nat) : Int))
              have S4 := spec_l1HexValue_eq k _ (bt_range s ((i + 2 : Nat) : Int))
              rw [show ((i + 1 + 1 : Nat) : Int) = ((i + 2 : Nat) : Int) from rfl] at hok
              generalize hv (bt s ((i + 1 : Nat) : Int)) = u at hok S1 S3
              generalize hv (bt s ((i + 2 : Nat) : Int)) = z at hok S2 S4
              rw [if_neg (show ¬ ((i + 2 : Nat) : Int) ≥ (s.size : Int) by omega), if_pos (show (0 : Int) ≤ ((i + 1 : Nat) : Int) by omega), if_pos (show ((i + 1 : Nat) : Int) < (s.size : Int) by omega), S1.1, Option.bind_some]
              by_cases hu : u < 0
              · have hf : hxo = false := by
                  cases hxo with
                  | false => rfl
                  | true => have := (hok.1.1 rfl).1; omega
                rw [if_pos hu, hj2, hf, if_neg (by decide)]
                exact ⟨[], false, by simp, by simp, rfl, rfl⟩
              · rw [if_neg hu, if_pos (show (0 : Int) ≤ ((i + 2 : Nat) : Int) by omega), if_pos (show ((i + 2 : Nat) : Int) < (s.size : Int) by omega), S2.1, Option.bind_some]
                by_cases hz : z < 0
                · have hf : hxo = false := by
                    cases hxo with
                    | false => rfl
                    | true => have := (hok.1.1 rfl).2; omega
                  rw [decide_eq_true hz, hj2, hf, if_neg (by decide)]
                  exact ⟨[], false, by simp, by simp, rfl, rfl⟩
                · have h6 : hxo = true := hok.1.2 ⟨by omega, by omega⟩
                  have hval := hok.2 h6
                  rw [decide_eq_false hz, h6, if_pos rfl, if_pos hacc, hval, spec_l4Letters.j2, if_neg (by decide), wsucc i (by omega), wadd2 i (by omega), w4, if_pos (show (0 : Int) ≤ ((i + 1 : Nat) : Int) by omega), if_pos (show ((i + 1 : Nat) : Int) < (s.size : Int) by omega), S3.1, Option.bind_some, if_pos (show (0 : Int) ≤ ((i + 2 : Nat) : Int) by omega), if_pos (show ((i + 2 : Nat) : Int) < (s.size : Int) by omega), S4.1, Option.bind_some, if_pos hacc]
                  exact app (wrap64 (wrap64 (16 * u) + z) % 256) (k + 1) (i + 3) (by omega) (by omega) (by omega) (by omega)
          · have hsn : (decide (33 ≤ bt s (i : Int) ∧ bt s (i : Int) ≤ 126) && bt s (i : Int) != 61) = true := by rw [decide_eq_true (by omega)]; simpa using c61
            simp only [if_neg c61, if_pos hacc, hsn, if_true]
            exact app (bt s (i : Int)) (k + 2) (i + 1) hbr (by omega) (by omega) (by omega)
    · refine ⟨acc, true, by omega, hB, ?_, ?_⟩
      · rw [spec_l4Letters.l0, if_neg (by omega)]
      · rw [impl_quotedWord.l0, if_neg (by omega)]
theorem letters_all (s : ByteArray) (hs : s.size ≤ 400) : ∃ out ok, (out.length ≤ s.size ∧ ∀ x ∈ out, 0 ≤ x ∧ x ≤ 255) ∧ (∀ k, 2000 < k → spec_l4Letters.f k s = some (out, ok)) ∧ ∀ k, 2000 < k → impl_quotedWord.f k s = some (out, ok) := by
  obtain ⟨r, h1, h2, h3⟩ := uniq2 (fun k => spec_l4Letters.f k s) (fun k => impl_quotedWord.f k s) (fun r => r.1.length ≤ s.size ∧ ∀ x ∈ r.1, 0 ≤ x ∧ x ≤ 255) 2000 (fun k k2 hk hk2 => by
    obtain ⟨out, ok, g1, g2, g3, g4⟩ := letters_l0 s hs s.size k k2 0 [] (by omega) (by omega) (by omega) (by simp) (by omega) (by simp)
    exact ⟨(out, ok), ⟨g1, g2⟩, g3, g4⟩)
  exact ⟨r.1, r.2, h1, h2, h3⟩
theorem str_eq (s : ByteArray) (l : List Int) (t : ByteArray) (h : bytesOf t = l) : (s.toList == t.toList) = decide (bytesOf s = l) := by
  rw [text_eq, decide_eq_decide, ← h]
  exact ⟨fun e => by rw [e], fun e => inj e⟩
theorem suf_take2 (v : ByteArray) (i : Nat) (h : i + 2 ≤ v.size) : bytesOf ((suf v i).extract 0 2) = [bt v (i : Int), bt v ((i + 1 : Nat) : Int)] := by
  rw [bytesOf_extract, suf_bytes, List.drop_zero, List.drop_eq_getElem_cons (by rw [bl]; omega), List.drop_eq_getElem_cons (by rw [bl]; omega), bt_L v i (by omega), bt_L v (i + 1) (by omega)]
  rfl
theorem suf_take1 (v : ByteArray) (i : Nat) (h : i + 1 ≤ v.size) : bytesOf ((suf v i).extract 0 1) = [bt v (i : Int)] := by
  rw [bytesOf_extract, suf_bytes, List.drop_zero, List.drop_eq_getElem_cons (by rw [bl]; omega), bt_L v i (by omega)]
  rfl
theorem cut_prefix (v : ByteArray) (i : Nat) (hi : i ≤ v.size) (hv : v.size ≤ 400) : strings_CutPrefix.f (suf v i) (⟨#[61, 63]⟩ : ByteArray) = some (if i + 2 ≤ v.size ∧ bt v (i : Int) = 61 ∧ bt v ((i + 1 : Nat) : Int) = 63 then (suf v (i + 2), true) else (suf v i, false)) := by
  have hs := suf_size v i
  have h2 : ((⟨#[61, 63]⟩ : ByteArray).size : Int) = 2 := rfl
  unfold strings_CutPrefix.f stringslite_CutPrefix.f stringslite_HasPrefix.f
  rw [h2]
  by_cases c : i + 2 ≤ v.size
  · have e : (((suf v i).extract 0 ((2 : Int) : Int).toNat).toList == (⟨#[61, 63]⟩ : ByteArray).toList) = decide (bt v (i : Int) = 61 ∧ bt v ((i + 1 : Nat) : Int) = 63) := by
      rw [str_eq _ [61, 63] _ rfl, show ((2 : Int)).toNat = 2 from rfl, suf_take2 v i c, decide_eq_decide]
      simp
    rw [if_pos (show ((suf v i).size : Int) ≥ 2 by omega), if_pos (show (0 : Int) ≤ 2 by omega), if_pos (show (2 : Int) ≤ ((suf v i).size : Int) by omega), e, Option.bind_some]
    by_cases d : bt v (i : Int) = 61 ∧ bt v ((i + 1 : Nat) : Int) = 63
    · rw [decide_eq_true d, if_pos rfl, if_pos (show (0 : Int) ≤ 2 by omega), if_pos (show (2 : Int) ≤ ((suf v i).size : Int) by omega), if_pos ⟨c, d⟩, show ((2 : Int)).toNat = 2 from rfl, suf_cut]
      rfl
    · rw [decide_eq_false d, if_neg (by decide), if_neg (fun e => d e.2)]
      rfl
  · rw [if_neg (show ¬ ((suf v i).size : Int) ≥ 2 by omega), Option.bind_some, if_neg (by decide), if_neg (fun e => c e.1)]
    rfl
theorem has_eq (v : ByteArray) (j : Nat) (hj : j ≤ v.size) : strings_HasPrefix.f (suf v j) (⟨#[61]⟩ : ByteArray) = some (decide (j < v.size ∧ bt v (j : Int) = 61)) := by
  have hs := suf_size v j
  have h1 : ((⟨#[61]⟩ : ByteArray).size : Int) = 1 := rfl
  unfold strings_HasPrefix.f stringslite_HasPrefix.f
  rw [h1]
  by_cases c : j < v.size
  · have e : (((suf v j).extract 0 ((1 : Int) : Int).toNat).toList == (⟨#[61]⟩ : ByteArray).toList) = decide (bt v (j : Int) = 61) := by
      rw [str_eq _ [61] _ rfl, show ((1 : Int)).toNat = 1 from rfl, suf_take1 v j (by omega), decide_eq_decide]
      simp
    rw [if_pos (show ((suf v j).size : Int) ≥ 1 by omega), if_pos (show (0 : Int) ≤ 1 by omega), if_pos (show (1 : Int) ≤ ((suf v j).size : Int) by omega), e, Option.bind_some]
    congr 1
    rw [decide_eq_decide]
    exact ⟨fun h => ⟨c, h⟩, fun h => h.2⟩
  · rw [if_neg (show ¬ ((suf v j).size : Int) ≥ 1 by omega), Option.bind_some, decide_eq_false (fun h => c h.1)]
theorem mid_size (v : ByteArray) (a b : Nat) (h : b ≤ v.size) : (v.extract a b).size = b - a := by rw [ByteArray.size_extract]; omega
theorem mid_one (v : ByteArray) (a : Nat) (h : a < v.size) : bytesOf (v.extract a (a + 1)) = [bt v (a : Int)] := by
  rw [bytesOf_extract, List.take_succ_eq_append_getElem (by rw [bl]; exact h), List.drop_append, bt_L v a h]
  simp [bl, Nat.min_eq_left (Nat.le_of_lt h)]
theorem spec_tail (v : ByteArray) (hv : v.size ≤ 400) (i a b : Nat) (h1 : i + 2 ≤ a) (h2 : a + 3 ≤ b) (h3 : b < v.size) (k : Nat) (hk : 2000000 < k) (v0 : Int) (D : List Int) (ok : Bool)
    (hc : spec_l2Of.f k (v.extract (i + 2) a) = some v0) (ht : spec_l4Told.f k (bt v ((a + 1 : Nat) : Int)) (v.extract (a + 3) b) = some (D, ok)) :
    spec_l4Word.j2 (k + 1) v (i : Int) (a : Int) (b : Int) false = spec_l4Word.j3 k (i : Int) (b : Int) v0 D (decide (v0 = 0) || !ok) := by
  rw [spec_l4Word.j2, if_neg (by decide), wadd2 i (by omega), wsucc a (by omega), wadd3 a (by omega), if_pos (by omega), if_pos (by omega), if_pos (by omega), Int.toNat_natCast, Int.toNat_natCast, hc, Option.bind_some, if_pos (by omega), if_pos (by omega), if_pos (by omega), if_pos (by omega), if_pos (by omega), Int.toNat_natCast, Int.toNat_natCast, ht, Option.bind_some]
  by_cases c : v0 = 0
  · rw [if_pos c, decide_eq_true c, Bool.true_or]
  · rw [if_neg c, decide_eq_false c, Bool.false_or]
theorem told_bad (k : Nat) (x : Int) (s : ByteArray) (h : x ≠ 66 ∧ x ≠ 98 ∧ x ≠ 81 ∧ x ≠ 113) : spec_l4Told.f (k + 1) x s = some ([], false) := by
  unfold spec_l4Told.f
  have e : (x == 98) = false := by rw [beq_eq_false_iff_ne]; exact h.2.1
  rw [if_neg h.1, e, spec_l4Told.j0, if_neg (by decide), if_neg h.2.2.1, if_neg h.2.2.2]
theorem told_b (k : Nat) (hk : 1090000 < k) (x : Int) (s : ByteArray) (h : x = 66 ∨ x = 98) (D : List Int) (ok : Bool) (e : spec_l1Decode.f k s = some (D, ok)) : spec_l4Told.f (k + 1) x s = some (D, ok) := by
  unfold spec_l4Told.f
  rcases h with h | h
  · rw [if_pos h, h, show ((66 : Int) == 66) = true from rfl, spec_l4Told.j0, if_pos rfl, e]; rfl
  · rw [if_neg (by omega), h, show ((98 : Int) == 98) = true from rfl, spec_l4Told.j0, if_pos rfl, e]; rfl
theorem told_q (k : Nat) (x : Int) (s : ByteArray) (h : x = 81 ∨ x = 113) (D : List Int) (ok : Bool) (e : spec_l4Letters.f k s = some (D, ok)) : spec_l4Told.f (k + 1) x s = some (D, ok) := by
  unfold spec_l4Told.f
  have e2 : (x == 98) = false := by rw [beq_eq_false_iff_ne]; omega
  rw [if_neg (by omega), e2, spec_l4Told.j0, if_neg (by decide)]
  rcases h with h | h
  · rw [if_pos h, e]; rfl
  · rw [if_neg (by omega), if_pos h, e]; rfl
theorem j3_true (k : Nat) (i b v0 : Int) (D : List Int) : spec_l4Word.j3 (k + 1) i b v0 D true = some ([], 0) := by rw [spec_l4Word.j3, if_pos rfl]
theorem spec_j1 (v : ByteArray) (hv : v.size ≤ 400) (i a : Nat) (h1 : i + 2 ≤ a) (h2 : a < v.size) (hp : i + 2 ≤ v.size ∧ bt v (i : Int) = 61 ∧ bt v ((i + 1 : Nat) : Int) = 63) (hf : fst 63 ((bytesOf v).drop (i + 2)) = some (a - (i + 2))) (k : Nat) (hk : 2000000 < k) :
    spec_l4Word.f (k + 2) v (i : Int) = spec_l4Word.j1 (k + 1) v (i : Int) (a : Int) (!(decide (a + 2 < v.size ∧ bt v ((a + 2 : Nat) : Int) = 63))) := by
  have hm := mark_eq v hv 400 (k + 1) (i + 2) (by omega) (by omega) (by omega)
  rw [hf] at hm
  have hm' : spec_l4Mark.f (k + 1) v ((i + 2 : Nat) : Int) = some (a : Int) := by rw [hm]; show some (((i + 2 + (a - (i + 2)) : Nat) : Int)) = _; rw [show i + 2 + (a - (i + 2)) = a by omega]
  have e63 : (bt v ((i + 1 : Nat) : Int) != 63) = false := by rw [hp.2.2]; rfl
  unfold spec_l4Word.f
  rw [wsucc i (by omega), if_neg (by omega), if_pos (by omega), if_pos (by omega), if_pos hp.2.1, if_pos (by omega), if_pos (by omega), e63, spec_l4Word.j0, if_neg (by decide), wadd2 i (by omega), hm', Option.bind_some, if_neg (by omega), wadd2 a (by omega)]
  by_cases c : a + 2 < v.size
  · rw [if_neg (by omega), if_pos (by omega), if_pos (by omega)]
    have : (bt v ((a + 2 : Nat) : Int) != 63) = !(decide (a + 2 < v.size ∧ bt v ((a + 2 : Nat) : Int) = 63)) := by
      by_cases d : bt v ((a + 2 : Nat) : Int) = 63
      · rw [decide_eq_true ⟨c, d⟩, d]; rfl
      · rw [decide_eq_false (fun e => d e.2)]
        simpa using d
    rw [this]
  · rw [if_pos (by omega), decide_eq_false (fun e => c e.1), Bool.not_false]
theorem spec_nomark (v : ByteArray) (hv : v.size ≤ 400) (i : Nat) (hi : i ≤ v.size) (h : ¬ (i + 2 ≤ v.size ∧ bt v (i : Int) = 61 ∧ bt v ((i + 1 : Nat) : Int) = 63) ∨ fst 63 ((bytesOf v).drop (i + 2)) = none) (k : Nat) (hk : 2000000 < k) : spec_l4Word.f (k + 2) v (i : Int) = some ([], 0) := by
  have hj0 : spec_l4Word.j0 (k + 2) v (i : Int) true = some ([], 0) := by rw [spec_l4Word.j0, if_pos rfl]
  unfold spec_l4Word.f
  rw [wsucc i (by omega)]
  by_cases c : i + 2 ≤ v.size
  · rw [if_neg (by omega), if_pos (by omega), if_pos (by omega)]
    by_cases d : bt v (i : Int) = 61
    · rw [if_pos d, if_pos (by omega), if_pos (by omega)]
      by_cases e : bt v ((i + 1 : Nat) : Int) = 63
      · have hn := h.resolve_left (fun g => g ⟨c, d, e⟩)
        have hm := mark_eq v hv 400 (k + 1) (i + 2) (by omega) (by omega) (by omega)
        rw [hn] at hm
        rw [e, show ((63 : Int) != 63) = false from rfl, spec_l4Word.j0, if_neg (by decide), wadd2 i (by omega), hm, Option.bind_some]
        show (if (-1 : Int) < 0 then _ else _) = _
        rw [if_pos (by decide), spec_l4Word.j1, if_pos rfl]
      · have : (bt v ((i + 1 : Nat) : Int) != 63) = true := by simpa using e
        rw [this, hj0]
    · rw [if_neg d, hj0]
  · rw [if_pos (by omega), hj0]
theorem spec_badkind (v : ByteArray) (hv : v.size ≤ 400) (i a : Nat) (h1 : i + 2 ≤ a) (h2 : a + 2 < v.size) (hb : bt v ((a + 1 : Nat) : Int) = 63) (k : Nat) (hk : 9000000 < k) : spec_l4Word.j1 (k + 1) v (i : Int) (a : Int) false = some ([], 0) := by
  have hm := mark_eq v hv 400 k (a + 3) (by omega) (by omega) (by omega)
  have hj2 : spec_l4Word.j2 k v (i : Int) (a : Int) = fun b x => spec_l4Word.j2 k v (i : Int) (a : Int) b x := rfl
  have bad : ∀ b : Int, spec_l4Word.j2 k v (i : Int) (a : Int) b true = some ([], 0) := by
    intro b
    obtain ⟨k, rfl⟩ : ∃ q, k = q + 1 := ⟨k - 1, by omega⟩
    rw [spec_l4Word.j2, if_pos rfl]
  rw [spec_l4Word.j1, if_neg (by decide), wadd3 a (by omega), hm, Option.bind_some]
  cases hf : fst 63 ((bytesOf v).drop (a + 3)) with
  | none => show (if (-1 : Int) < 0 then _ else _) = _; rw [if_pos (by decide), bad]
  | some d =>
    obtain ⟨g1, g2⟩ := fst_at v (a + 3) d hf
    show (if ((a + 3 + d : Nat) : Int) < 0 then _ else _) = _
    rw [if_neg (by omega), wsucc (a + 3 + d) (by omega)]
    by_cases c : a + 3 + d + 1 < v.size
    · rw [if_neg (by omega), if_pos (by omega), if_pos (by omega)]
      cases hq : (bt v ((a + 3 + d + 1 : Nat) : Int) != 61) with
      | true => rw [bad]
      | false =>
        obtain ⟨k, rfl⟩ : ∃ q, k = q + 9 := ⟨k - 9, by omega⟩
        have hsz := mid_size v (i + 2) a (by omega)
        obtain ⟨v0, c0, q1, q2, q3⟩ := charset_all (v.extract (i + 2) a) (by omega)
        have ht := told_bad (k + 7) (bt v ((a + 1 : Nat) : Int)) (v.extract (a + 3) (a + 3 + d)) (by rw [hb]; decide)
        rw [spec_tail v hv i a (a + 3 + d) h1 (by omega) (by omega) (k + 8) (by omega) v0 [] false (q1 (k + 1) (by omega)) ht]
        rw [Bool.not_false, Bool.or_true, j3_true]
    · rw [if_pos (by omega), bad]
theorem impl_fail (k : Nat) (x : ByteArray) (P : List ByteArray) : impl_toldWord.j0 (k + 1) x P true = some ([], 0) := by rw [impl_toldWord.j0, if_pos rfl]
theorem kd_eq (v : ByteArray) (a : Nat) (h : a < v.size) (y : UInt8) : (v.extract a (a + 1)).toList = [y] ↔ bt v (a : Int) = (y.toNat : Int) := by
  have e := str_eq (v.extract a (a + 1)) [(y.toNat : Int)] (⟨#[y]⟩ : ByteArray) rfl
  rw [Go.ByteArray.toList_eq ⟨#[y]⟩, mid_one v a h] at e
  have e' : ((v.extract a (a + 1)).toList == [y]) = decide ([bt v (a : Int)] = [(y.toNat : Int)]) := e
  constructor
  · intro q
    rw [q, beq_self_eq_true] at e'
    have := of_decide_eq_true e'.symm
    exact (List.cons.inj this).1
  · intro q
    rw [q, decide_eq_true rfl] at e'
    exact beq_iff_eq.1 e'
theorem told_all (x : Int) (s : ByteArray) (hs : s.size ≤ 400) (k : Nat) (hk : 9000000 < k) : ∃ D ok, spec_l4Told.f k x s = some (D, ok) := by
  obtain ⟨k, rfl⟩ : ∃ q, k = q + 1 := ⟨k - 1, by omega⟩
  by_cases h : x = 66 ∨ x = 98
  · obtain ⟨D2, ok, c, _, _, _, q⟩ := base_told s hs
    obtain ⟨⟨D, e, _⟩, _⟩ := q k (by omega)
    exact ⟨D, ok, told_b k (by omega) x s h D ok e⟩
  · by_cases h2 : x = 81 ∨ x = 113
    · obtain ⟨out, ok, _, e, _⟩ := letters_all s hs
      exact ⟨out, ok, told_q k x s h2 out ok (e k (by omega))⟩
    · exact ⟨[], false, told_bad k x s (by omega)⟩
theorem back0 (v : ByteArray) (hv : v.size ≤ 400) (i b : Nat) (h : i ≤ b) (h3 : b + 1 < v.size) : wrap64 (wrap64 (((suf v i).size : Int) - ((suf v (b + 1)).size : Int)) + 1) = ((b + 2 - i : Nat) : Int) := by
  rw [suf_size, suf_size]
  have e : wrap64 (((v.size - i : Nat) : Int) - ((v.size - (b + 1) : Nat) : Int)) = ((b + 1 - i : Nat) : Int) := by
    rw [wrap64_in (by omega)]; omega
  rw [e, wrap64_in (by omega)]; omega
theorem back1 (i b : Nat) (h : i ≤ b) (h3 : b ≤ 400) : wrap64 (wrap64 ((b : Int) + 2) - (i : Int)) = ((b + 2 - i : Nat) : Int) := by
  have e : wrap64 ((b : Int) + 2) = ((b + 2 : Nat) : Int) := by rw [wrap64_in (by omega)]; omega
  rw [e, wrap64_in (by omega)]; omega
theorem word_told (v : ByteArray) (hv : v.size ≤ 400) (i a b : Nat) (h1 : i + 2 ≤ a) (h2 : a + 3 ≤ b) (h3 : b + 1 < v.size) : ∃ (codes : List Int) (n : Nat), (n = 0 ∨ (2 ≤ n ∧ i + n ≤ v.size)) ∧ (codes.length ≤ 1000 ∧ ∀ c ∈ codes, good c) ∧ ∀ k, 9000050 < k → spec_l4Word.j2 k v (i : Int) (a : Int) (b : Int) false = some (codes, (n : Int)) ∧ impl_toldWord.j0 k (suf v i) [v.extract (i + 2) a, v.extract (a + 1) (a + 2), v.extract (a + 3) b, suf v (b + 1)] false = some (codes, (n : Int)) := by
  have hsz := mid_size v (i + 2) a (by omega)
  have hsb := mid_size v (a + 3) b (by omega)
  have hB := bytesOf_in v
  have K1 := kd_eq v (a + 1) (by omega)
  obtain ⟨v0, c0, q1, q2, q3⟩ := charset_all (v.extract (i + 2) a) (by omega)
  have U1 : ∀ k, 1007 ≤ k → spec_l2Of.f k (v.extract (i + 2) a) = some v0 := fun k hk => by
    obtain ⟨k, rfl⟩ : ∃ q, k = q + 7 := ⟨k - 7, by omega⟩
    exact q1 k (by omega)
  have U2 : ∀ k, 1007 ≤ k → impl_CharsetOf.f k (v.extract (i + 2) a) = some (c0, v0) := fun k hk => by
    obtain ⟨k, rfl⟩ : ∃ q, k = q + 7 := ⟨k - 7, by omega⟩
    exact q2 k (by omega)
  generalize hP : [v.extract (i + 2) a, v.extract (a + 1) (a + 2), v.extract (a + 3) b, suf v (b + 1)] = P
  have hPl : P.length = 4 := by rw [← hP]; rfl
  have P0 : rdOf ByteArray.empty P 0 = v.extract (i + 2) a := by rw [← hP]; rfl
  have P1 : rdOf ByteArray.empty P 1 = v.extract (a + 1) (a + 1 + 1) := by rw [← hP]; rfl
  have P2 : rdOf ByteArray.empty P 2 = v.extract (a + 3) b := by rw [← hP]; rfl
  have P3 : rdOf ByteArray.empty P 3 = suf v (b + 1) := by rw [← hP]; rfl
  generalize hx : bt v ((a + 1 : Nat) : Int) = x at K1
  have S0 : ∀ k D ok, 9000000 < k → spec_l4Told.f k x (v.extract (a + 3) b) = some (D, ok) → spec_l4Word.j2 (k + 1) v (i : Int) (a : Int) (b : Int) false = spec_l4Word.j3 k (i : Int) (b : Int) v0 D (decide (v0 = 0) || !ok) :=
    fun k D ok hk e => spec_tail v hv i a b h1 h2 (by omega) k (by omega) v0 D ok (U1 k (by omega)) (by rw [hx]; exact e)
  have I0 : ∀ k, 9000000 < k → impl_toldWord.j0 (k + 1) (suf v i) P false = if c0 = 0 then (if x = 66 then impl_toldWord.j1 k (suf v i) P [] (v.extract (a + 1) (a + 1 + 1)) true c0 v0 else impl_toldWord.j1 k (suf v i) P [] (v.extract (a + 1) (a + 1 + 1)) (decide (x = 98)) c0 v0) else some ([], 0) := by
    intro k hk
    rw [impl_toldWord.j0, if_neg (by decide), if_pos (by omega), P0, show impl_CharsetOf.f k (v.extract (i + 2) a) = some (c0, v0) from U2 k (by omega), Option.bind_some]
    by_cases c : c0 = 0
    · rw [if_pos c, if_pos c, Option.bind_some, if_pos (by omega), P1]
      by_cases d : x = 66
      · rw [if_pos d, if_pos ((K1 66).2 d)]
        rw [show ((v.extract (a + 1) (a + 1 + 1)).toList == ([66] : List UInt8)) = true from by rw [(K1 66).2 d]; rfl]
      · rw [if_neg d, if_neg (fun e => d ((K1 66).1 e))]
        congr 1
        by_cases e : x = 98
        · rw [decide_eq_true e, (K1 98).2 e]; rfl
        · rw [decide_eq_false e, beq_eq_false_iff_ne]
          exact fun q => e ((K1 98).1 q)
    · rw [if_neg c, if_neg c]
  rcases q3 with ⟨hc, hv1, hv5⟩ | ⟨hc, hv0⟩
  ·
    have hv0 : decide (v0 = 0) = false := decide_eq_false (by omega)
    have fin_ : ∀ (L : List Int) (hL : L.length ≤ 400) (hb : ∀ y ∈ L, 0 ≤ y ∧ y ≤ 255), ∃ (codes : List Int) (n : Nat), (n = 0 ∨ (2 ≤ n ∧ i + n ≤ v.size)) ∧ (codes.length ≤ 1000 ∧ ∀ c ∈ codes, good c) ∧ ∀ k, 9000000 < k → spec_l4Word.j3 (k + 1) (i : Int) (b : Int) v0 L false = some (codes, (n : Int)) ∧ ((impl_DecodeText.f k v0 L).bind fun bt => if bt.1 = 0 then some (bt.2, ((b + 2 - i : Nat) : Int)) else some ([], 0)) = some (codes, (n : Int)) := by
      intro L hL hb
      obtain ⟨r, ok, hr, V1, V2⟩ := text_all v0 ⟨hv1, hv5⟩ L hL hb
      cases ok with
      | true =>
        refine ⟨r, b + 2 - i, .inr ⟨by omega, by omega⟩, ⟨by omega, hr.2 rfl⟩, fun k hk => ⟨?_, ?_⟩⟩
        · rw [spec_l4Word.j3, if_neg (by decide), show spec_l2Decode.f k v0 L = some (r, true) from V1 k (by omega), Option.bind_some, if_pos rfl, back1 i b (by omega) (by omega)]
        · rw [show impl_DecodeText.f k v0 L = some (0, r) from V2 k (by omega)]; rfl
      | false =>
        refine ⟨[], 0, .inl rfl, by simp, fun k hk => ⟨?_, ?_⟩⟩
        · rw [spec_l4Word.j3, if_neg (by decide), show spec_l2Decode.f k v0 L = some (r, false) from V1 k (by omega), Option.bind_some]; rfl
        · rw [show impl_DecodeText.f k v0 L = some (8, []) from V2 k (by omega)]; rfl
    have some_ : ∀ (L : List Int) (hL : L.length ≤ 400) (hb : ∀ y ∈ L, 0 ≤ y ∧ y ≤ 255) (k : Nat), 9000000 < k → ∃ r, impl_DecodeText.f k v0 L = some r := by
      intro L hL hb k hk
      obtain ⟨r, ok, hr, s1, s2⟩ := text_all v0 ⟨hv1, hv5⟩ L hL hb
      exact ⟨_, s2 k (by omega)⟩
    by_cases hB2 : x = 66 ∨ x = 98
    ·
      obtain ⟨D2, ok, c, hD, hDl, hcase, hk0⟩ := base_told (v.extract (a + 3) b) (by omega)
      have I1 : ∀ k, 9000000 < k → impl_toldWord.j0 (k + 2) (suf v i) P false = (impl_DecodeText.f k v0 D2).bind fun bt390 => (if c = 0 then (if bt390.1 = 0 then some (bt390.2, ((b + 2 - i : Nat) : Int)) else some ([], 0)) else some ([], 0)) := by
        intro k hk
        have J : impl_toldWord.j1 (k + 1) (suf v i) P [] (v.extract (a + 1) (a + 1 + 1)) true c0 v0 = (impl_DecodeText.f k v0 D2).bind fun bt390 => (if c = 0 then (if bt390.1 = 0 then some (bt390.2, ((b + 2 - i : Nat) : Int)) else some ([], 0)) else some ([], 0)) := by
          rw [impl_toldWord.j1, if_pos rfl, if_pos (by omega), P2, (hk0 k (by omega)).2, Option.bind_some, P3, back0 v hv i b (by omega) h3]
          congr 1
          funext z
          rw [if_pos (show (3 : Int) < (P.length : Int) by omega)]
        rw [I0 (k + 1) (by omega), if_pos hc]
        rcases hB2 with h | h
        · rw [if_pos h, J]
        · rw [if_neg (by omega), decide_eq_true h, J]
      rcases hcase with ⟨o1, o2⟩ | ⟨o1, o2⟩
      · subst o1 o2
        obtain ⟨codes, n, w1, w2, w3⟩ := fin_ D2 hDl hD
        refine ⟨codes, n, w1, w2, fun k hk => ?_⟩
        obtain ⟨k, rfl⟩ : ∃ q, k = q + 3 := ⟨k - 3, by omega⟩
        obtain ⟨⟨D, e1, e2⟩, e3⟩ := hk0 (k + 1) (by omega)
        have hDD := e2 rfl
        subst hDD
        refine ⟨?_, ?_⟩
        · rw [S0 (k + 2) D true (by omega) (told_b (k + 1) (by omega) x _ hB2 D true e1), hv0]
          exact (w3 (k + 1) (by omega)).1
        · rw [I1 (k + 1) (by omega)]
          exact (w3 (k + 1) (by omega)).2
      · subst o1
        refine ⟨[], 0, .inl rfl, by simp, fun k hk => ?_⟩
        obtain ⟨k, rfl⟩ : ∃ q, k = q + 3 := ⟨k - 3, by omega⟩
        obtain ⟨⟨D, e1, e2⟩, e3⟩ := hk0 (k + 1) (by omega)
        refine ⟨?_, ?_⟩
        · rw [S0 (k + 2) D false (by omega) (told_b (k + 1) (by omega) x _ hB2 D false e1), Bool.not_false, Bool.or_true, j3_true]; rfl
        · obtain ⟨r, hr⟩ := some_ D2 hDl hD (k + 1) (by omega)
          rw [I1 (k + 1) (by omega), hr, Option.bind_some, if_neg o2]; rfl
    · have I2 : ∀ k, 9000000 < k → impl_toldWord.j0 (k + 2) (suf v i) P false = impl_toldWord.j2 k (suf v i) P [] (decide (x = 81 ∨ x = 113)) c0 v0 := by
        intro k hk
        rw [I0 (k + 1) (by omega), if_pos hc, if_neg (by omega), decide_eq_false (show ¬ x = 98 by omega), impl_toldWord.j1, if_neg (by decide)]
        by_cases d : x = 81
        · rw [if_pos ((K1 81).2 d), decide_eq_true (show x = 81 ∨ x = 113 from .inl d), (K1 81).2 d]; rfl
        · rw [if_neg (fun e => d ((K1 81).1 e))]
          congr 1
          by_cases e : x = 113
          · rw [decide_eq_true (show x = 81 ∨ x = 113 from .inr e), (K1 113).2 e]; rfl
          · rw [decide_eq_false (show ¬ (x = 81 ∨ x = 113) by omega), beq_eq_false_iff_ne]
            exact fun q => e ((K1 113).1 q)
      by_cases hQ : x = 81 ∨ x = 113
      ·
        obtain ⟨out, ok, ⟨hol, hob⟩, V1, V2⟩ := letters_all (v.extract (a + 3) b) (by omega)
        have I3 : ∀ k, 9000000 < k → impl_toldWord.j0 (k + 3) (suf v i) P false = (impl_DecodeText.f k v0 out).bind fun bt401 => (if ok = true then (if bt401.1 = 0 then some (bt401.2, ((b + 2 - i : Nat) : Int)) else some ([], 0)) else some ([], 0)) := by
          intro k hk
          rw [I2 (k + 1) (by omega), decide_eq_true hQ, impl_toldWord.j2, if_pos rfl, if_pos (by omega), P2, show impl_quotedWord.f k (v.extract (a + 3) b) = some (out, ok) from V2 k (by omega), Option.bind_some, P3, back0 v hv i b (by omega) h3]
          congr 1
          funext z
          rw [if_pos (show (3 : Int) < (P.length : Int) by omega)]
        cases ok with
        | true =>
          obtain ⟨codes, n, w1, w2, w3⟩ := fin_ out (by omega) hob
          refine ⟨codes, n, w1, w2, fun k hk => ?_⟩
          obtain ⟨k, rfl⟩ : ∃ q, k = q + 3 := ⟨k - 3, by omega⟩
          refine ⟨?_, ?_⟩
          · rw [S0 (k + 2) out true (by omega) (told_q (k + 1) x _ hQ out true (V1 (k + 1) (by omega))), hv0]
            exact (w3 (k + 1) (by omega)).1
          · rw [I3 k (by omega)]
            exact (w3 k (by omega)).2
        | false =>
          refine ⟨[], 0, .inl rfl, by simp, fun k hk => ?_⟩
          obtain ⟨k, rfl⟩ : ∃ q, k = q + 3 := ⟨k - 3, by omega⟩
          refine ⟨?_, ?_⟩
          · rw [S0 (k + 2) out false (by omega) (told_q (k + 1) x _ hQ out false (V1 (k + 1) (by omega))), Bool.not_false, Bool.or_true, j3_true]; rfl
          · obtain ⟨r, hr⟩ := some_ out (by omega) hob k (by omega)
            rw [I3 k (by omega), hr, Option.bind_some, if_neg (by decide)]; rfl
      · refine ⟨[], 0, .inl rfl, by simp, fun k hk => ?_⟩
        obtain ⟨k, rfl⟩ : ∃ q, k = q + 3 := ⟨k - 3, by omega⟩
        refine ⟨?_, ?_⟩
        · rw [S0 (k + 2) [] false (by omega) (told_bad (k + 1) x _ (by omega)), Bool.not_false, Bool.or_true, j3_true]; rfl
        · obtain ⟨r, hr⟩ := some_ [] (by simp) (by simp) k (by omega)
          rw [I2 (k + 1) (by omega), decide_eq_false hQ, impl_toldWord.j2, if_neg (by decide), hr]; rfl
  · refine ⟨[], 0, .inl rfl, by simp, fun k hk => ?_⟩
    obtain ⟨k, rfl⟩ : ∃ q, k = q + 2 := ⟨k - 2, by omega⟩
    obtain ⟨D, ok, e⟩ := told_all x (v.extract (a + 3) b) (by omega) (k + 1) (by omega)
    refine ⟨?_, ?_⟩
    · rw [S0 (k + 1) D ok (by omega) e, decide_eq_true hv0, Bool.true_or, j3_true]; rfl
    · rw [I0 (k + 1) (by omega), if_neg hc]; rfl
theorem impl_badkind (x X K Y Z : ByteArray) (hX : X.size ≤ 400) (hK : K.size ≠ 1) (k : Nat) (hk : 9000000 < k) : impl_toldWord.j0 (k + 3) x [X, K, Y, Z] false = some ([], 0) := by
  have hne : ∀ y : UInt8, K.toList ≠ [y] := by
    intro y e
    apply hK
    rw [Go.ByteArray.toList_eq] at e
    have := congrArg List.length e
    rw [Array.length_toList] at this
    exact this
  obtain ⟨v0, c0, q1, q2, q3⟩ := charset_all X (by omega)
  have U2 : ∀ k, 1007 ≤ k → impl_CharsetOf.f k X = some (c0, v0) := fun k hk => by
    obtain ⟨k, rfl⟩ : ∃ q, k = q + 7 := ⟨k - 7, by omega⟩
    exact q2 k (by omega)
  have b0 : ∀ y : UInt8, (K.toList == [y]) = false := fun y => by rw [beq_eq_false_iff_ne]; exact hne y
  rw [impl_toldWord.j0, if_neg (by decide), if_pos (by simp)]
  show ((impl_CharsetOf.f (k + 2) X).bind _) = _
  rw [show impl_CharsetOf.f (k + 2) X = some (c0, v0) from U2 _ (by omega), Option.bind_some]
  by_cases c : c0 = 0
  · have hv : 1 ≤ v0 ∧ v0 ≤ 5 := by rcases q3 with h | h <;> omega
    rw [if_pos c, Option.bind_some, if_pos (by simp)]
    show (if K.toList = ([66] : List UInt8) then impl_toldWord.j1 (k + 2) x [X, K, Y, Z] [] K (K.toList == ([66] : List UInt8)) c0 v0 else impl_toldWord.j1 (k + 2) x [X, K, Y, Z] [] K (K.toList == ([98] : List UInt8)) c0 v0) = _
    obtain ⟨r, ok, hr, s1, s2⟩ := text_all v0 hv [] (by simp) (by simp)
    rw [if_neg (hne 66), b0 98, impl_toldWord.j1, if_neg (by decide), if_neg (hne 81), b0 113, impl_toldWord.j2, if_neg (by decide), s2 k (by omega)]; rfl
  · rw [if_neg c]
theorem word_both (v : ByteArray) (hv : v.size ≤ 400) (i : Nat) (hi : i ≤ v.size) : ∃ (codes : List Int) (n : Nat), (n = 0 ∨ (2 ≤ n ∧ i + n ≤ v.size)) ∧ (codes.length ≤ 1000 ∧ ∀ c ∈ codes, good c) ∧ ∀ k, 9000100 < k → spec_l4Word.f k v (i : Int) = some (codes, (n : Int)) ∧ impl_toldWord.f k (suf v i) = some (codes, (n : Int)) := by
  have none_ : (∀ k, 9000100 < k → spec_l4Word.f k v (i : Int) = some ([], 0) ∧ impl_toldWord.f k (suf v i) = some ([], 0)) → ∃ (codes : List Int) (n : Nat), (n = 0 ∨ (2 ≤ n ∧ i + n ≤ v.size)) ∧ (codes.length ≤ 1000 ∧ ∀ c ∈ codes, good c) ∧ ∀ k, 9000100 < k → spec_l4Word.f k v (i : Int) = some (codes, (n : Int)) ∧ impl_toldWord.f k (suf v i) = some (codes, (n : Int)) := fun h => ⟨[], 0, .inl rfl, by simp, h⟩
  have hcp := cut_prefix v i hi hv
  by_cases hp : i + 2 ≤ v.size ∧ bt v (i : Int) = 61 ∧ bt v ((i + 1 : Nat) : Int) = 63
  · rw [if_pos hp] at hcp
    have hsp := splitN_eq v hv (i + 2)
    have himp : ∀ k, impl_toldWord.f k (suf v i) = (if ((Lib.splitB (⟨#[63]⟩ : ByteArray) 0 3 (suf v (i + 2))).length : Int) = 4 then (if 3 < ((Lib.splitB (⟨#[63]⟩ : ByteArray) 0 3 (suf v (i + 2))).length : Int) then ((strings_HasPrefix.f (rdOf ByteArray.empty (Lib.splitB (⟨#[63]⟩ : ByteArray) 0 3 (suf v (i + 2))) 3) (⟨#[61]⟩ : ByteArray)).bind fun t375 => (impl_toldWord.j0 k (suf v i) (Lib.splitB (⟨#[63]⟩ : ByteArray) 0 3 (suf v (i + 2))) (!t375))) else (none)) else (impl_toldWord.j0 k (suf v i) (Lib.splitB (⟨#[63]⟩ : ByteArray) 0 3 (suf v (i + 2))) true)) := by
      intro k
      unfold impl_toldWord.f
      rw [hcp, Option.bind_some]
      show (if true = true then ((strings_SplitN.f (suf v (i + 2)) (⟨#[63]⟩ : ByteArray) 4).bind _) else _) = _
      rw [if_pos rfl, hsp, Option.bind_some]
    have few : ∀ P, Lib.splitB (⟨#[63]⟩ : ByteArray) 0 3 (suf v (i + 2)) = P → P.length ≠ 4 → ∀ k, 0 < k → impl_toldWord.f k (suf v i) = some ([], 0) := by
      intro P hP hl k hk
      obtain ⟨k, rfl⟩ : ∃ q, k = q + 1 := ⟨k - 1, by omega⟩
      rw [himp, hP, if_neg (by omega), impl_fail]
    cases hf0 : fst 63 ((bytesOf v).drop (i + 2)) with
    | none =>
      refine none_ (fun k hk => ?_)
      obtain ⟨k, rfl⟩ : ∃ q, k = q + 2 := ⟨k - 2, by omega⟩
      exact ⟨spec_nomark v hv i hi (.inr hf0) k (by omega), few [suf v (i + 2)] (split_miss _ _ (by rw [suf_bytes, hf0])) (by simp) _ (by omega)⟩
    | some d0 =>
      obtain ⟨a, ha⟩ : ∃ a, a = i + 2 + d0 := ⟨_, rfl⟩
      obtain ⟨a1, a2⟩ := fst_at v (i + 2) d0 hf0
      rw [← ha] at a1 a2
      have hs1 : ∀ k, Lib.splitB (⟨#[63]⟩ : ByteArray) 0 (k + 1) (suf v (i + 2)) = v.extract (i + 2) a :: Lib.splitB (⟨#[63]⟩ : ByteArray) 0 k (suf v (a + 1)) := fun k => by rw [split_hit v (i + 2) k d0 hf0, ← ha]
      have hS1 := fun k (hk : 2000000 < k) => spec_j1 v hv i a (by omega) a1 hp (by rw [hf0, ha, Nat.add_sub_cancel_left]) k hk
      have sj1 : ∀ k, spec_l4Word.j1 (k + 1) v (i : Int) (a : Int) true = some ([], 0) := fun k => by rw [spec_l4Word.j1, if_pos rfl]
      cases hf1 : fst 63 ((bytesOf v).drop (a + 1)) with
      | none =>
        refine none_ (fun k hk => ?_)
        obtain ⟨k, rfl⟩ : ∃ q, k = q + 2 := ⟨k - 2, by omega⟩
        refine ⟨?_, few [v.extract (i + 2) a, suf v (a + 1)] (by rw [hs1, split_miss _ _ (by rw [suf_bytes, hf1])]) (by simp) _ (by omega)⟩
        rw [hS1 k (by omega), decide_eq_false (fun e => fst_none v (a + 1) (a + 2) hf1 (by omega) e.1 e.2), Bool.not_false, sj1]
      | some d1 =>
        obtain ⟨m, hm⟩ : ∃ m, m = a + 1 + d1 := ⟨_, rfl⟩
        obtain ⟨m1, m2⟩ := fst_at v (a + 1) d1 hf1
        rw [← hm] at m1 m2
        have hs2 : ∀ k, Lib.splitB (⟨#[63]⟩ : ByteArray) 0 (k + 1) (suf v (a + 1)) = v.extract (a + 1) m :: Lib.splitB (⟨#[63]⟩ : ByteArray) 0 k (suf v (m + 1)) := fun k => by rw [split_hit v (a + 1) k d1 hf1, ← hm]
        have sbad : d1 ≠ 1 → ∀ k, 9000001 < k → spec_l4Word.f (k + 2) v (i : Int) = some ([], 0) := by
          intro hd k hk
          rw [hS1 k (by omega)]
          by_cases g : a + 2 < v.size ∧ bt v ((a + 2 : Nat) : Int) = 63
          · rw [decide_eq_true g, Bool.not_true]
            have h0 : d1 = 0 := by
              rcases Nat.lt_or_ge 1 d1 with q | q
              · exact absurd g.2 (fst_before v (a + 1) d1 1 hf1 q)
              · omega
            subst h0
            rw [show a + 1 + 0 = a + 1 from rfl] at hm
            rw [hm] at m2
            exact spec_badkind v hv i a (by omega) g.1 m2 k (by omega)
          · rw [decide_eq_false g, Bool.not_false, sj1]
        cases hf2 : fst 63 ((bytesOf v).drop (m + 1)) with
        | none =>
          refine none_ (fun k hk => ?_)
          obtain ⟨k, rfl⟩ : ∃ q, k = q + 2 := ⟨k - 2, by omega⟩
          refine ⟨?_, few [v.extract (i + 2) a, v.extract (a + 1) m, suf v (m + 1)] (by rw [hs1, hs2, split_miss _ _ (by rw [suf_bytes, hf2])]) (by simp) _ (by omega)⟩
          by_cases hd : d1 = 1
          · subst hd
            have hmk := mark_eq v hv 400 k (a + 3) (by omega) (by omega) (by omega)
            rw [show a + 3 = m + 1 by omega, hf2] at hmk
            rw [hS1 k (by omega), show decide (a + 2 < v.size ∧ bt v ((a + 2 : Nat) : Int) = 63) = true from decide_eq_true ⟨by omega, by rw [show a + 2 = m by omega]; exact m2⟩, Bool.not_true, spec_l4Word.j1, if_neg (by decide), wadd3 a (by omega), show a + 3 = m + 1 by omega, hmk, Option.bind_some]
            show (if (-1 : Int) < 0 then _ else _) = _
            rw [if_pos (by decide)]
            obtain ⟨k, rfl⟩ : ∃ q, k = q + 1 := ⟨k - 1, by omega⟩
            rw [spec_l4Word.j2, if_pos rfl]
          · exact sbad hd k (by omega)
        | some d2 =>
          obtain ⟨b, hb⟩ : ∃ b, b = m + 1 + d2 := ⟨_, rfl⟩
          obtain ⟨b1, b2⟩ := fst_at v (m + 1) d2 hf2
          rw [← hb] at b1 b2
          have hP : Lib.splitB (⟨#[63]⟩ : ByteArray) 0 3 (suf v (i + 2)) = [v.extract (i + 2) a, v.extract (a + 1) m, v.extract (m + 1) b, suf v (b + 1)] := by
            rw [hs1, hs2, split_hit v (m + 1) 0 d2 hf2, ← hb]
            rfl
          have hhas := has_eq v (b + 1) (by omega)
          have himp2 : ∀ k, impl_toldWord.f k (suf v i) = impl_toldWord.j0 k (suf v i) [v.extract (i + 2) a, v.extract (a + 1) m, v.extract (m + 1) b, suf v (b + 1)] (!(decide (b + 1 < v.size ∧ bt v ((b + 1 : Nat) : Int) = 61))) := by
            intro k
            rw [himp, hP, if_pos (by rfl), if_pos (by simp)]
            show ((strings_HasPrefix.f (suf v (b + 1)) (⟨#[61]⟩ : ByteArray)).bind _) = _
            rw [hhas, Option.bind_some]
          by_cases hE : b + 1 < v.size ∧ bt v ((b + 1 : Nat) : Int) = 61
          · rw [decide_eq_true hE, Bool.not_true] at himp2
            by_cases hd : d1 = 1
            · subst hd
              obtain rfl : m = a + 2 := by omega
              obtain ⟨codes, n, w1, w2, w3⟩ := word_told v hv i a b (by omega) (by omega) hE.1
              refine ⟨codes, n, w1, w2, fun k hk => ?_⟩
              obtain ⟨k, rfl⟩ : ∃ q, k = q + 2 := ⟨k - 2, by omega⟩
              refine ⟨?_, by rw [himp2]; exact (w3 (k + 2) (by omega)).2⟩
              have hmk := mark_eq v hv 400 k (a + 3) (by omega) (by omega) (by omega)
              rw [hf2] at hmk
              have hmk' : spec_l4Mark.f k v ((a + 3 : Nat) : Int) = some (b : Int) := by rw [hmk, hb]
              rw [hS1 k (by omega), show decide (a + 2 < v.size ∧ bt v ((a + 2 : Nat) : Int) = 63) = true from decide_eq_true ⟨by omega, m2⟩, Bool.not_true, spec_l4Word.j1, if_neg (by decide), wadd3 a (by omega), hmk', Option.bind_some, if_neg (by omega), wsucc b (by omega), if_neg (by omega), if_pos (by omega), if_pos (by omega), hE.2]
              exact (w3 k (by omega)).1
            · refine none_ (fun k hk => ?_)
              obtain ⟨k, rfl⟩ : ∃ q, k = q + 2 := ⟨k - 2, by omega⟩
              refine ⟨sbad hd k (by omega), ?_⟩
              obtain ⟨k, rfl⟩ : ∃ q, k = q + 1 := ⟨k - 1, by omega⟩
              have hsz := mid_size v (i + 2) a (by omega)
              have hsm := mid_size v (a + 1) m (by omega)
              rw [himp2]
              exact impl_badkind _ _ _ _ _ (by omega) (by omega) k (by omega)
          · refine none_ (fun k hk => ?_)
            obtain ⟨k, rfl⟩ : ∃ q, k = q + 2 := ⟨k - 2, by omega⟩
            refine ⟨?_, by rw [himp2, decide_eq_false hE, Bool.not_false, impl_fail]⟩
            by_cases hd : d1 = 1
            · subst hd
              have hmk := mark_eq v hv 400 k (a + 3) (by omega) (by omega) (by omega)
              rw [show a + 3 = m + 1 by omega, hf2] at hmk
              have hmk' : spec_l4Mark.f k v ((m + 1 : Nat) : Int) = some (b : Int) := by rw [hmk, hb]
              have j2t : spec_l4Word.j2 k v (i : Int) (a : Int) (b : Int) true = some ([], 0) := by
                obtain ⟨k, rfl⟩ : ∃ q, k = q + 1 := ⟨k - 1, by omega⟩
                rw [spec_l4Word.j2, if_pos rfl]
              rw [hS1 k (by omega), show decide (a + 2 < v.size ∧ bt v ((a + 2 : Nat) : Int) = 63) = true from decide_eq_true ⟨by omega, by rw [show a + 2 = m by omega]; exact m2⟩, Bool.not_true, spec_l4Word.j1, if_neg (by decide), wadd3 a (by omega), show a + 3 = m + 1 by omega, hmk', Option.bind_some, if_neg (by omega), wsucc b (by omega)]
              by_cases q : b + 1 < v.size
              · have : (bt v ((b + 1 : Nat) : Int) != 61) = true := by
                  have : bt v ((b + 1 : Nat) : Int) ≠ 61 := fun e => hE ⟨q, e⟩
                  simpa using this
                rw [if_neg (by omega), if_pos (by omega), if_pos (by omega), this, j2t]
              · rw [if_pos (by omega), j2t]
            · exact sbad hd k (by omega)
  · rw [if_neg hp] at hcp
    refine none_ (fun k hk => ?_)
    obtain ⟨k, rfl⟩ : ∃ q, k = q + 2 := ⟨k - 2, by omega⟩
    refine ⟨spec_nomark v hv i hi (.inl hp) k (by omega), ?_⟩
    unfold impl_toldWord.f
    rw [hcp, Option.bind_some]
    rfl
def gapL : List Int → Nat
  | [] => 0
  | b :: r => if b = 32 ∨ b = 9 then gapL r + 1 else 0
theorem gapL_le : ∀ L, gapL L ≤ L.length
  | [] => Nat.le_refl _
  | b :: r => by
    have := gapL_le r
    rw [gapL, List.length_cons]
    split <;> omega
def gapN (v : ByteArray) (p : Nat) : Nat := gapL ((bytesOf v).drop p)
theorem gapN_le (v : ByteArray) (p : Nat) : gapN v p ≤ v.size - p := by
  have := gapL_le ((bytesOf v).drop p)
  rw [List.length_drop, bl] at this
  exact this
theorem gapN_step (v : ByteArray) (p : Nat) (h : p < v.size) : gapN v p = if bt v (p : Int) = 32 ∨ bt v (p : Int) = 9 then gapN v (p + 1) + 1 else 0 := by
  unfold gapN
  rw [List.drop_eq_getElem_cons (by rw [bl]; exact h), bt_L v p h]
  rfl
theorem gap_eq (v : ByteArray) (hv : v.size ≤ 400) (p : Nat) : ∀ (n k j : Nat), v.size ≤ p + j + n → n < k → p + j ≤ 1000 → spec_l4Gap.l0 k v (p : Int) (j : Int) = some ((j + gapN v (p + j) : Nat) : Int)
  | n, 0, _, _, h, _ => absurd h (by omega)
  | 0, k + 1, j, h1, _, h2 => by
    rw [spec_l4Gap.l0, show wrap64 ((p : Int) + (j : Int)) = ((p + j : Nat) : Int) by rw [wrap64_in (by omega)]; omega, if_neg (by omega)]
    have := gapN_le v (p + j)
    rw [show gapN v (p + j) = 0 by omega]
    rfl
  | n + 1, k + 1, j, h1, hk, h2 => by
    rw [spec_l4Gap.l0, show wrap64 ((p : Int) + (j : Int)) = ((p + j : Nat) : Int) by rw [wrap64_in (by omega)]; omega]
    by_cases c : p + j < v.size
    · rw [if_pos (by omega), if_pos (by omega), gapN_step v (p + j) c, wsucc j (by omega), gap_eq v hv p n k (j + 1) (by omega) (by omega) (by omega), show p + (j + 1) = p + j + 1 from rfl, show j + 1 + gapN v (p + j + 1) = j + (gapN v (p + j + 1) + 1) by omega]
      by_cases d : bt v ((p + j : Nat) : Int) = 32
      · rw [if_pos d, if_pos (.inl d)]
      · rw [if_neg d]
        by_cases e : bt v ((p + j : Nat) : Int) = 9
        · rw [if_pos e, if_pos (.inr e)]
        · rw [if_neg e, if_neg (fun h => h.elim d e)]; rfl
    · have := gapN_le v (p + j)
      rw [if_neg (by omega), show gapN v (p + j) = 0 by omega]
      rfl
theorem trim_L : ∀ L : List Int, (∀ x ∈ L, 0 ≤ x ∧ x ≤ 255) → (lbytes L).dropWhile (([32, 9] : List UInt8).contains ·) = lbytes (L.drop (gapL L))
  | [], _ => rfl
  | b :: r, h => by
    have ih := trim_L r (fun y hy => h y (List.mem_cons_of_mem _ hy))
    have hb := h b (by simp)
    have e : ([32, 9] : List UInt8).contains (UInt8.ofNat b.toNat) = decide (b = 32 ∨ b = 9) := by
      have h1 : (UInt8.ofNat b.toNat == (32 : UInt8)) = decide (b = 32) := by
        rw [← u8_eq b 32 hb (by omega), Bool.eq_iff_iff, beq_iff_eq, beq_iff_eq]; exact Iff.rfl
      have h2 : (UInt8.ofNat b.toNat == (9 : UInt8)) = decide (b = 9) := by
        rw [← u8_eq b 9 hb (by omega), Bool.eq_iff_iff, beq_iff_eq, beq_iff_eq]; exact Iff.rfl
      rw [List.contains_cons, List.contains_cons, h1, h2]
      simp
    show (UInt8.ofNat b.toNat :: lbytes r).dropWhile _ = _
    rw [List.dropWhile_cons, gapL]
    by_cases c : b = 32 ∨ b = 9
    · rw [if_pos (show ([32, 9] : List UInt8).contains (UInt8.ofNat b.toNat) = true by rw [e]; exact decide_eq_true c), if_pos c, List.drop_succ_cons, ih]
    · rw [if_neg (show ¬ ([32, 9] : List UInt8).contains (UInt8.ofNat b.toNat) = true by rw [e, decide_eq_false c]; decide), if_neg c, List.drop_zero]
      rfl
theorem wtrim_eq (v : ByteArray) (hv : v.size ≤ 400) (p : Nat) : strings_TrimLeft.f (suf v p) (⟨#[32, 9]⟩ : ByteArray) = some (suf v (p + gapN v p)) := by
  have hs := suf_size v p
  unfold strings_TrimLeft.f
  rw [if_pos ⟨by omega, by decide, by decide⟩]
  congr 1
  have hr : ∀ x ∈ (bytesOf v).drop p, 0 ≤ x ∧ x ≤ 255 := fun x hx => bytesOf_in v x (List.mem_of_mem_drop hx)
  have h := trim_L _ hr
  have e : Lib.trimLeftS (suf v p).data.toList (⟨#[32, 9]⟩ : ByteArray).data.toList = (suf v (p + gapN v p)).data.toList := by
    show (suf v p).data.toList.dropWhile (([32, 9] : List UInt8).contains ·) = _
    rw [dataL, dataL, suf_bytes, suf_bytes, h, List.drop_drop]
    rfl
  rw [e]
theorem suf_same (v : ByteArray) (p g : Nat) (hg : p + g ≤ v.size) : (suf v (p + g)).toList = (suf v p).toList ↔ g = 0 := by
  constructor
  · intro e
    have h1 : ((suf v (p + g)).toList == (suf v p).toList) = true := beq_iff_eq.2 e
    rw [text_eq] at h1
    have h2 := congrArg ByteArray.size (of_decide_eq_true h1)
    rw [suf_size, suf_size] at h2
    omega
  · intro e; subst e; rfl
theorem utf8_both (v : ByteArray) (hv : v.size ≤ 400) (p : Nat) (h : p < v.size) : ∃ (c : Int) (n : Nat), (p + n ≤ v.size ∧ (n ≠ 0 → good c)) ∧ (∀ k, 100 < k → spec_l2Utf8.f k (bytesOf v) (p : Int) = some (c, (n : Int))) ∧ ∀ k, 100 < k → impl_firstChar.f k 4 (bytesOf (suf v p)) = some (c, (n : Int)) := by
  have hL : p < (bytesOf v).length := by rw [bl]; exact h
  have hs : (oneF 4 (bytesOf v)[p] ((bytesOf v).drop (p + 1))).2 = 0 ∨ _ := oneF_snd 4 _ _
  obtain ⟨n, hn, hn2⟩ : ∃ n : Nat, (oneF 4 (bytesOf v)[p] ((bytesOf v).drop (p + 1))).2 = (n : Int) ∧ p + n ≤ v.size := by
    rw [List.length_drop, bl] at hs
    rcases hs with h0 | h0 | ⟨h0, h1⟩ | ⟨h0, h1⟩
    · exact ⟨0, h0, by omega⟩
    · exact ⟨1, h0, by omega⟩
    · exact ⟨2, h0, by omega⟩
    · exact ⟨3, h0, by omega⟩
  refine ⟨(oneF 4 (bytesOf v)[p] ((bytesOf v).drop (p + 1))).1, n, ⟨hn2, fun h0 => good_one _ _ (fun x hx => bytesOf_in v x (by
    rw [← List.drop_eq_getElem_cons hL] at hx
    exact List.mem_of_mem_drop hx)) (by omega)⟩, fun k hk => ?_, fun k hk => ?_⟩
  · obtain ⟨k, rfl⟩ : ∃ q, k = q + 4 := ⟨k - 4, by omega⟩
    have e := spec_l2One_eq k 4 (bytesOf v) p (by omega) (by rw [bl]; omega) (bytesOf_in v) hL
    unfold spec_l2One.f at e
    rw [if_pos rfl] at e
    rw [← hn]
    cases q : spec_l2Utf8.f (k + 4) (bytesOf v) (p : Int) with
    | none => rw [q] at e; cases e
    | some z => rw [q, Option.bind_some] at e; exact e
  · obtain ⟨k, rfl⟩ : ∃ q, k = q + 12 := ⟨k - 12, by omega⟩
    rw [suf_bytes, List.drop_eq_getElem_cons hL, impl_firstChar_eq k 4 _ _ (by omega) (fun x hx => bytesOf_in v x (by
      rw [← List.drop_eq_getElem_cons hL] at hx
      exact List.mem_of_mem_drop hx)), ← hn]
theorem aft_false (v : ByteArray) (hv : v.size ≤ 400) (p : Nat) (hp : p ≤ v.size) (out : List Int) (ho : ∀ c ∈ out, good c) (k k2 : Nat) (hk : 1000 < k) (hk2 : 0 < k2) (H : p < v.size → ∃ r, (∀ c ∈ r, good c) ∧ spec_l4Words.j2 k v out (p : Int) = some r ∧ impl_decodeWords.l0 k2 (suf v p) out = some r) : ∃ r, (∀ c ∈ r, good c) ∧ spec_l4Words.l0 (k + 2) v out (p : Int) false = some r ∧ impl_decodeWords.l0 k2 (suf v p) out = some r := by
  by_cases c : p < v.size
  · obtain ⟨r, h0, h1, h2⟩ := H c
    refine ⟨r, h0, ?_, h2⟩
    have g : spec_l4Gap.f (k + 1) v (p : Int) = _ := gap_eq v hv p 400 (k + 1) 0 (by omega) (by omega) (by omega)
    rw [spec_l4Words.l0, if_pos (by omega), g, Option.bind_some, if_neg (by decide), spec_l4Words.j1, if_neg (by decide), h1]
  · obtain ⟨k2, rfl⟩ : ∃ q, k2 = q + 1 := ⟨k2 - 1, by omega⟩
    refine ⟨out, ho, ?_, ?_⟩
    · rw [spec_l4Words.l0, if_neg (by omega)]
    · rw [impl_decodeWords.l0, if_pos ((toList_nil _).2 (by rw [suf_size]; omega))]
theorem aft_true (v : ByteArray) (hv : v.size ≤ 400) (p : Nat) (hp : p ≤ v.size) (out : List Int) (ho : ∀ c ∈ out, good c) (k k2 : Nat) (hk : 9000200 < k) (hk2 : 9000200 < k2) (H : ∀ q, p ≤ q → q < v.size → ∃ r, (∀ c ∈ r, good c) ∧ spec_l4Words.j2 k v out (q : Int) = some r ∧ impl_decodeWords.l0 k2 (suf v q) out = some r) : ∃ r, (∀ c ∈ r, good c) ∧ spec_l4Words.l0 (k + 2) v out (p : Int) true = some r ∧ ((strings_TrimLeft.f (suf v p) (⟨#[32, 9]⟩ : ByteArray)).bind fun t422 => (if t422.toList = (suf v p).toList then (impl_decodeWords.l0 k2 (suf v p) out) else ((impl_toldWord.f k2 t422).bind fun bt423 => (if bt423.2 > 0 then (impl_decodeWords.l0 k2 t422 out) else (impl_decodeWords.l0 k2 (suf v p) out))))) = some r := by
  have hg := gapN_le v p
  rw [wtrim_eq v hv p, Option.bind_some]
  by_cases c : p < v.size
  · have g : spec_l4Gap.f (k + 1) v (p : Int) = _ := gap_eq v hv p 400 (k + 1) 0 (by omega) (by omega) (by omega)
    rw [Nat.zero_add, show p + 0 = p from rfl] at g
    rw [spec_l4Words.l0, if_pos (by omega), g, Option.bind_some, if_pos rfl]
    by_cases z : gapN v p = 0
    · obtain ⟨r, h0, h1, h2⟩ := H p (by omega) c
      refine ⟨r, h0, ?_, ?_⟩
      · rw [z, decide_eq_false (by omega), spec_l4Words.j1, if_neg (by decide), h1]
      · rw [if_pos ((suf_same v p _ (by omega)).2 z), h2]
    · obtain ⟨codes, n, w1, w2, w3⟩ := word_both v hv (p + gapN v p) (by omega)
      rw [decide_eq_true (by omega), spec_l4Words.j1, if_pos rfl, if_neg (fun e => z ((suf_same v p _ (by omega)).1 e)), show wrap64 ((p : Int) + ((gapN v p : Nat) : Int)) = ((p + gapN v p : Nat) : Int) by rw [wrap64_in (by omega)]; omega, (w3 k (by omega)).1, (w3 k2 (by omega)).2, Option.bind_some, Option.bind_some]
      by_cases n0 : n = 0
      · obtain ⟨r, h0, h1, h2⟩ := H p (by omega) c
        refine ⟨r, h0, ?_, ?_⟩
        · rw [if_neg (show ¬ ((codes, (n : Int)).2 > 0) by show ¬ ((n : Int) > 0); omega), h1]
        · rw [if_neg (show ¬ ((codes, (n : Int)).2 > 0) by show ¬ ((n : Int) > 0); omega), h2]
      · obtain ⟨r, h0, h1, h2⟩ := H (p + gapN v p) (by omega) (by omega)
        refine ⟨r, h0, ?_, ?_⟩
        · rw [if_pos (show ((codes, (n : Int)).2 > 0) by show ((n : Int) > 0); omega), h1]
        · rw [if_pos (show ((codes, (n : Int)).2 > 0) by show ((n : Int) > 0); omega), h2]
  · obtain ⟨k2, rfl⟩ : ∃ q, k2 = q + 1 := ⟨k2 - 1, by omega⟩
    refine ⟨out, ho, ?_, ?_⟩
    · rw [spec_l4Words.l0, if_neg (by omega)]
    · rw [if_pos ((suf_same v p _ (by omega)).2 (by omega)), impl_decodeWords.l0, if_pos ((toList_nil _).2 (by rw [suf_size]; omega))]
theorem words_both (v : ByteArray) (hv : v.size ≤ 400) : ∀ (m p k k2 : Nat) (out : List Int), v.size ≤ p + m → p < v.size → 9001000 + 3 * m < k → 9001000 + 3 * m < k2 → out.length ≤ 1000 * p → (∀ c ∈ out, good c) → ∃ r, (∀ c ∈ r, good c) ∧ spec_l4Words.j2 k v out (p : Int) = some r ∧ impl_decodeWords.l0 k2 (suf v p) out = some r
  | 0, p, _, _, _, h, h2, _, _, _, _ => absurd h (by omega)
  | m + 1, p, k, k2, out, h, h2, hk, hk2, ho, hg => by
    obtain ⟨k, rfl⟩ : ∃ q, k = q + 3 := ⟨k - 3, by omega⟩
    obtain ⟨k2, rfl⟩ : ∃ q, k2 = q + 1 := ⟨k2 - 1, by omega⟩
    have hs := suf_size v p
    obtain ⟨codes, n, w1, w2, w3⟩ := word_both v hv p (by omega)
    have next : ∀ (q : Nat) (o : List Int), p < q → q ≤ v.size → o.length ≤ 1000 * q → (∀ c ∈ o, good c) → ∀ q2, q ≤ q2 → q2 < v.size → ∃ r, (∀ c ∈ r, good c) ∧ spec_l4Words.j2 k v o (q2 : Int) = some r ∧ impl_decodeWords.l0 k2 (suf v q2) o = some r :=
      fun q o h3 h4 h5 hg q2 h6 h7 => words_both v hv m q2 k k2 o (by omega) h7 (by omega) (by omega) (by omega) hg
    rw [spec_l4Words.j2, impl_decodeWords.l0, if_neg (fun e => by have := (toList_nil _).1 e; omega), (w3 (k + 2) (by omega)).1, (w3 k2 (by omega)).2, Option.bind_some, Option.bind_some]
    by_cases n0 : n = 0
    · subst n0
      obtain ⟨c, q, u1, u2, u3⟩ := utf8_both v hv p h2
      have nz : ¬ ((codes, ((0 : Nat) : Int)).2 > 0) := by show ¬ (((0 : Nat) : Int) > 0); omega
      rw [if_neg nz, if_neg nz, if_pos (show v.size ≤ 281474976710656 by omega), if_pos (show (suf v p).size ≤ 281474976710656 by omega), u2 (k + 2) (by omega), u3 k2 (by omega), Option.bind_some, Option.bind_some]
      have hd : decide (((codes, ((0 : Nat) : Int)).2 : Int) > 0) = false := decide_eq_false (by show ¬ (((0 : Nat) : Int) > 0); omega)
      rw [hd]
      by_cases q0 : q = 0
      · subst q0
        have hg2 : ∀ c ∈ out ++ [65533], good c := fun x hx => (List.mem_append.1 hx).elim (hg x) (fun e => by rw [List.mem_singleton.1 e]; exact good_fffd)
        obtain ⟨r, e0, e1, e2⟩ := aft_false v hv (p + 1) (by omega) (out ++ [65533]) hg2 k k2 (by omega) (by omega) (next (p + 1) _ (by omega) (by omega) (by simp; omega) hg2 (p + 1) (by omega))
        refine ⟨r, e0, ?_, ?_⟩
        · show (if ((0 : Nat) : Int) = 0 then _ else _) = _
          rw [if_pos (by omega), if_pos (by omega), wsucc p (by omega), e1]
        · show (if ((0 : Nat) : Int) = 0 then _ else _) = _
          rw [if_pos (by omega), if_pos (by omega), if_pos (by omega), suf_cut, e2]
      · have hg2 : ∀ x ∈ out ++ [c], good x := fun x hx => (List.mem_append.1 hx).elim (hg x) (fun e => by rw [List.mem_singleton.1 e]; exact u1.2 q0)
        obtain ⟨r, e0, e1, e2⟩ := aft_false v hv (p + q) (by omega) (out ++ [c]) hg2 k k2 (by omega) (by omega) (next (p + q) _ (by omega) (by omega) (by simp; omega) hg2 (p + q) (by omega))
        refine ⟨r, e0, ?_, ?_⟩
        · show (if (q : Int) = 0 then _ else (if _ then spec_l4Words.l0 (k + 2) v (out ++ [c]) (wrap64 ((p : Int) + (q : Int))) false else none)) = _
          rw [if_neg (by omega), if_pos (by omega), show wrap64 ((p : Int) + (q : Int)) = ((p + q : Nat) : Int) by rw [wrap64_in (by omega)]; omega, e1]
        · show (if (q : Int) = 0 then _ else (if _ then (if 0 ≤ (q : Int) then (if (q : Int) ≤ ((suf v p).size : Int) then impl_decodeWords.l0 k2 ((suf v p).extract (q : Int).toNat (suf v p).size) (out ++ [c]) else none) else none) else none)) = _
          rw [if_neg (by omega), if_pos (by omega), if_pos (by omega), if_pos (by omega), Int.toNat_natCast, suf_cut, e2]
    · have hn : 2 ≤ n ∧ p + n ≤ v.size := by omega
      have hg2 : ∀ c ∈ out ++ codes, good c := fun x hx => (List.mem_append.1 hx).elim (hg x) (w2.2 x)
      obtain ⟨r, e0, e1, e2⟩ := aft_true v hv (p + n) hn.2 (out ++ codes) hg2 k k2 (by omega) (by omega) (next (p + n) _ (by omega) (by omega) (by rw [List.length_append]; omega) hg2)
      refine ⟨r, e0, ?_, ?_⟩
      · show (if (n : Int) > 0 then (if _ then spec_l4Words.l0 (k + 2) v (out ++ codes) (wrap64 ((p : Int) + (n : Int))) (decide ((n : Int) > 0)) else none) else _) = _
        rw [if_pos (by omega), if_pos (by show out.length + codes.length < _; omega), show wrap64 ((p : Int) + (n : Int)) = ((p + n : Nat) : Int) by rw [wrap64_in (by omega)]; omega, decide_eq_true (by omega), e1]
      · show (if (n : Int) > 0 then (if _ then (if 0 ≤ (n : Int) then (if (n : Int) ≤ ((suf v p).size : Int) then ((strings_TrimLeft.f ((suf v p).extract (n : Int).toNat (suf v p).size) (⟨#[32, 9]⟩ : ByteArray)).bind fun t422 => (if t422.toList = ((suf v p).extract (n : Int).toNat (suf v p).size).toList then (impl_decodeWords.l0 k2 ((suf v p).extract (n : Int).toNat (suf v p).size) (out ++ codes)) else ((impl_toldWord.f k2 t422).bind fun bt423 => (if bt423.2 > 0 then (impl_decodeWords.l0 k2 t422 (out ++ codes)) else (impl_decodeWords.l0 k2 ((suf v p).extract (n : Int).toNat (suf v p).size) (out ++ codes)))))) else none) else none) else none) else _) = _
        rw [if_pos (by omega), if_pos (by show out.length + codes.length < _; omega), if_pos (by omega), if_pos (by omega), Int.toNat_natCast, suf_cut, e2]
theorem DecodeWords_all (v : ByteArray) : ∃ r, (r.2.length ≤ 400 ∧ ∀ c ∈ r.2, good c) ∧ (∀ k, 9003000 < k → spec_DecodeWords.f k v = some r) ∧ ∀ k, 9003000 < k → impl_DecodeWords.f k v = some r := by
  refine uniq2 (fun k => spec_DecodeWords.f k v) (fun k => impl_DecodeWords.f k v) (fun r => r.2.length ≤ 400 ∧ ∀ c ∈ r.2, good c) 9003000 (fun k k2 hk hk2 => ?_)
  show ∃ r, (r.2.length ≤ 400 ∧ ∀ c ∈ r.2, good c) ∧ spec_DecodeWords.f k v = some r ∧ impl_DecodeWords.f k2 v = some r
  unfold spec_DecodeWords.f impl_DecodeWords.f
  by_cases c : (v.size : Int) > 400
  · rw [if_pos c, if_pos c]; exact ⟨_, ⟨Nat.zero_le _, by simp⟩, rfl, rfl⟩
  · rw [if_neg c, if_neg c]
    obtain ⟨k, rfl⟩ : ∃ q, k = q + 2 := ⟨k - 2, by omega⟩
    obtain ⟨r, e0, e1, e2⟩ := aft_false v (by omega) 0 (by omega) [] (by simp) k k2 (by omega) (by omega) (fun h => words_both v (by omega) v.size 0 k k2 [] (by omega) h (by omega) (by omega) (by simp) (by simp))
    rw [suf_zero] at e2
    have e1' : spec_l4Words.f (k + 2) v = some r := e1
    have e2' : impl_decodeWords.f k2 v = some r := e2
    rw [e1', e2', Option.bind_some]
    by_cases d : (r.length : Int) > 400
    · rw [if_pos d]; exact ⟨_, ⟨Nat.zero_le _, by simp⟩, rfl, rfl⟩
    · rw [if_neg d]; exact ⟨_, ⟨by show r.length ≤ 400; omega, e0⟩, rfl, rfl⟩
theorem spec_l2Bytes_eq (k : Nat) (a c : Int) (ha : 1 ≤ a ∧ a ≤ 5) (hh : hasB a c = true) : spec_l2Bytes.f (k + 2) a c = some (encB a c) := by
  obtain ⟨v, hv, _, hp⟩ := cyr k c
  unfold spec_l2Bytes.f encB
  have : a = 1 ∨ a = 2 ∨ a = 3 ∨ a = 4 ∨ a = 5 := by omega
  rcases this with rfl | rfl | rfl | rfl | rfl
  · simp [spec_l2Bytes.j0]
  · simp [spec_l2Bytes.j0]
  · have hc : Cyr c := by unfold hasB at hh; simpa using hh
    simp [spec_l2Bytes.j0, hv, hp hc]
  · simp [spec_l2Bytes.j0]
    repeat' split
    all_goals rfl
  · simp [spec_l2Bytes.j0]
def enco (a : Int) (acc l : List Int) : List Int × Int :=
  if l.all (hasB a) = true then (if 400 < (acc ++ l.flatMap (encB a)).length then ([], 2) else (acc ++ l.flatMap (encB a), 0)) else ([], 8)
theorem spec_l2Encode.l0_eq (a : Int) (ha : 1 ≤ a ∧ a ≤ 5) (L : List Int) (hb : L.length ≤ 1048576) : ∀ (n k i : Nat) (acc : List Int), L.length = i + n → n + 2 < k → acc.length + 3 * n ≤ 4194304 → spec_l2Encode.l0 k a L acc (i : Int) = some (enco a acc (L.drop i))
  | _, 0, _, _, _, h, _ => absurd h (by omega)
  | 0, k + 1, i, acc, hi, _, _ => by
    have h1 : ¬ ((i : Int) < (L.length : Int)) := by omega
    unfold spec_l2Encode.l0 enco
    rw [if_neg h1, List.drop_eq_nil_of_le (by omega)]
    simp only [List.all_nil, if_true, List.flatMap_nil, List.append_nil]
    by_cases h2 : 400 < acc.length
    · rw [if_pos (by omega), if_pos h2]
    · rw [if_neg (by omega), if_neg h2]
  | n + 1, k + 1, i, acc, hi, h, hc => by
    have h1 : (i : Int) < (L.length : Int) := by omega
    have h2 : (0 : Int) ≤ (i : Int) := by omega
    have h4 : wrap64 ((i : Int) + 1) = ((i + 1 : Nat) : Int) := by rw [wrap64_in (by omega)]; omega
    obtain ⟨k2, rfl⟩ : ∃ k2, k = k2 + 2 := ⟨k - 2, by omega⟩
    unfold spec_l2Encode.l0
    rw [if_pos h1, if_pos h2, rd_at L i (by omega), spec_l2Has_eq (k2 + 1), Option.bind_some, List.drop_eq_getElem_cons (by omega : i < L.length), h4]
    have hl := encB_len a L[i]
    cases hh : hasB a L[i] with
    | true =>
      rw [if_pos rfl, spec_l2Bytes_eq k2 a _ ha hh, Option.bind_some, if_pos (by omega), spec_l2Encode.l0_eq a ha L hb n (k2 + 2) (i + 1) _ (by omega) (by omega) (by rw [List.length_append]; omega)]
      unfold enco
      rw [List.all_cons, hh, Bool.true_and, List.flatMap_cons, List.append_assoc]
    | false =>
      rw [if_neg (by decide)]
      unfold enco
      rw [List.all_cons, hh, Bool.false_and, if_neg (by decide)]
theorem spec_l2Fault.l0_eq (x0 : List Int) (hb : x0.length ≤ maxLen) : ∀ (n k i : Nat), x0.length = i + n → n < k → spec_l2Fault.l0 k x0 (i : Int) = some (if (x0.drop i).all charB = true then 0 else 3)
  | 0, 0, _, _, h => absurd h (by omega)
  | 0, k + 1, i, hi, _ => by
    have h1 : ¬ ((i : Int) < (x0.length : Int)) := by omega
    unfold spec_l2Fault.l0
    rw [if_neg h1, List.drop_eq_nil_of_le (by omega)]
    rfl
  | n + 1, 0, _, _, h => absurd h (by omega)
  | n + 1, k + 1, i, hi, h => by
    have hm := maxLen_le
    have h1 : (i : Int) < (x0.length : Int) := by omega
    have h2 : (0 : Int) ≤ (i : Int) := by omega
    have h4 : wrap64 ((i : Int) + 1) = ((i + 1 : Nat) : Int) := by rw [wrap64_in (by omega)]; omega
    unfold spec_l2Fault.l0
    rw [if_pos h1, if_pos h2, h4, rd_at x0 i (by omega), List.drop_eq_getElem_cons (by omega), List.all_cons, spec_l2Fault.l0_eq x0 hb n k (i + 1) (by omega) (by omega), spec_l2Char_eq, Option.bind_some]
    cases charB x0[i] <;> rfl
theorem spec_l2Fault_eq (l : List Int) (k : Nat) (hb : l.length ≤ maxLen) (hk : l.length < k) : spec_l2Fault.f k l = some (if 400 < l.length then 2 else if l.all charB = true then 0 else 3) := by
  unfold spec_l2Fault.f
  by_cases h : 400 < l.length
  · rw [if_pos (by omega), if_pos h]
  · rw [if_neg (by omega), if_neg h]
    have := spec_l2Fault.l0_eq l hb l.length k 0 (by omega) hk
    simpa using this
theorem CodesFault_p_eq (c : Int) : impl_CodesFault.p c = !charB c := by
  unfold impl_CodesFault.p charB
  rw [Bool.eq_iff_iff]; simp only [Bool.and_eq_true, Bool.or_eq_true, Bool.not_eq_true', decide_eq_true_eq, decide_eq_false_iff_not, Bool.and_eq_false_iff, Bool.not_eq_false', Bool.or_eq_false_iff]; omega
theorem CodesFault_any (l : List Int) : l.any impl_CodesFault.p = !(l.all charB) := by
  induction l with
  | nil => rfl
  | cons x xs ih => rw [List.any_cons, List.all_cons, ih, CodesFault_p_eq, Bool.not_and]
theorem impl_CodesFault_eq (l : List Int) : impl_CodesFault.f l = some (if 400 < l.length then 2 else if l.all charB = true then 0 else 3) := by
  unfold impl_CodesFault.f
  rw [CodesFault_any]
  by_cases h : 400 < l.length
  · rw [if_pos h, if_pos h]
  · rw [if_neg h, if_neg h]
    cases l.all charB <;> rfl
def fault (l : List Int) : Int := if 400 < l.length then 2 else if l.all charB = true then 0 else 3
theorem fault_zero {l : List Int} (h : fault l = 0) : l.length ≤ 400 ∧ ∀ x ∈ l, charB x = true := by
  unfold fault at h
  by_cases h1 : 400 < l.length
  · rw [if_pos h1] at h; omega
  · rw [if_neg h1] at h
    by_cases h2 : l.all charB = true
    · exact ⟨by omega, List.all_eq_true.mp h2⟩
    · rw [if_neg h2] at h; omega
def plW (x : Int) : Bool := decide (32 ≤ x ∧ x ≤ 126)
def pairB : Int → List Int → Bool
  | _, [] => true
  | p, x :: r => plW x && !(decide (p = 61) && decide (x = 63)) && pairB x r
def has2 : List Int → Bool
  | [] => false
  | x :: r => (decide (x = 61) && decide (r.head? = some 63)) || has2 r
theorem pairB_eq : ∀ (l : List Int) (p : Int), pairB p l = (l.all plW && !(has2 (p :: l)))
  | [], p => by simp [pairB, has2]
  | x :: r, p => by
    rw [pairB, pairB_eq r x, List.all_cons]
    have h : has2 (p :: x :: r) = ((decide (p = 61) && decide (x = 63)) || has2 (x :: r)) := by
      conv => lhs; rw [has2]
      simp
    rw [h]
    cases plW x <;> cases (decide (p = 61) && decide (x = 63)) <;> cases r.all plW <;> cases has2 (x :: r) <;> rfl
def u8s (L : List Int) : List UInt8 := L.map fun n => UInt8.ofNat n.toNat
theorem data_strOfNums (L : List Int) : (strOfNums L).data.toList = u8s L := by simp [strOfNums, u8s]
theorem contains_has2 : ∀ (L : List Int), (∀ x ∈ L, 0 ≤ x ∧ x ≤ 255) → Lib.contains (u8s L) [61, 63] = has2 L
  | [], _ => rfl
  | x :: r, h => by
    have ih := contains_has2 r (fun y hy => h y (List.mem_cons_of_mem _ hy))
    have hx := u8_eq x 61 (h x (List.mem_cons_self ..)) (by omega)
    have hb : u8s (x :: r) = UInt8.ofNat x.toNat :: u8s r := rfl
    have hp : ([61, 63] : List UInt8).isPrefixOf (UInt8.ofNat x.toNat :: u8s r) = (decide (x = 61) && decide (r.head? = some 63)) := by
      rw [List.isPrefixOf]
      have h1 : ((61 : UInt8) == UInt8.ofNat x.toNat) = decide (x = 61) := by
        rw [← hx, Bool.eq_iff_iff, beq_iff_eq, beq_iff_eq]
        exact ⟨fun e => e.symm, fun e => e.symm⟩
      rw [h1]
      congr 1
      cases r with
      | nil => rfl
      | cons y t =>
        have hy := u8_eq y 63 (h y (by simp)) (by omega)
        show ((63 : UInt8) == UInt8.ofNat y.toNat && true) = _
        have h2 : ((63 : UInt8) == UInt8.ofNat y.toNat) = decide (y = 63) := by
          rw [← hy, Bool.eq_iff_iff, beq_iff_eq, beq_iff_eq]
          exact ⟨fun e => e.symm, fun e => e.symm⟩
        rw [h2, Bool.and_true]
        simp
    unfold Lib.contains at ih ⊢
    have hge := Lib.index_ge (u8s r) [61, 63]
    rw [hb, Lib.index, hp, has2, ← ih]
    cases (decide (x = 61) && decide (r.head? = some 63)) with
    | true => rfl
    | false =>
      rw [if_neg (by simp), Bool.false_or]
      by_cases c : Lib.index (u8s r) [61, 63] = -1
      · rw [if_pos (by rw [c]; rfl), c]
      · rw [if_neg (by simpa using c)]
        congr 1
        apply propext
        constructor <;> intro _ <;> omega
theorem spec_l4Self.l0_eq (L : List Int) (hb : L.length ≤ 1048576) : ∀ (n k i : Nat), L.length = i + n → n < k → spec_l4Self.l0 k L (i : Int) = some (pairB (if i = 0 then 0 else rd L ((i - 1 : Nat) : Int)) (L.drop i))
  | _, 0, _, _, h => absurd h (by omega)
  | 0, k + 1, i, hi, _ => by
    have h1 : ¬ ((i : Int) < (L.length : Int)) := by omega
    rw [spec_l4Self.l0, if_neg h1, List.drop_eq_nil_of_le (by omega)]
    rfl
  | n + 1, k + 1, i, hi, h => by
    have hlt : i < L.length := by omega
    have h1 : (i : Int) < (L.length : Int) := by omega
    have h2 : (0 : Int) ≤ (i : Int) := by omega
    have ih := spec_l4Self.l0_eq L hb n k (i + 1) (by omega) (by omega)
    rw [if_neg (by omega), Nat.add_sub_cancel] at ih
    rw [spec_l4Self.l0, if_pos h1, if_pos h2, in_eq, Option.bind_some, List.drop_eq_getElem_cons hlt, pairB, ← rd_at L i hlt]
    have w1 : wrap64 ((i : Int) + 1) = ((i + 1 : Nat) : Int) := by rw [wrap64_in (by omega)]; omega
    rw [w1, ih]
    unfold plW
    by_cases c : 32 ≤ rd L (i : Int) ∧ rd L (i : Int) ≤ 126
    · rw [decide_eq_true c, if_pos rfl, Bool.true_and]
      by_cases g : i = 0
      · rw [if_neg (by omega), if_pos g]; rfl
      · have w2 : wrap64 ((i : Int) - 1) = ((i - 1 : Nat) : Int) := by rw [wrap64_in (by omega)]; omega
        have g1 : (i : Int) > 0 := by omega
        have g2 : (0 : Int) ≤ ((i - 1 : Nat) : Int) := by omega
        have g3 : ((i - 1 : Nat) : Int) < (L.length : Int) := by omega
        rw [w2, if_pos g1, if_pos g2, if_pos g3, if_neg g]
        by_cases e1 : rd L ((i - 1 : Nat) : Int) = 61 <;> by_cases e2 : rd L (i : Int) = 63 <;> simp [e1, e2]
    · rw [decide_eq_false c]; rfl
theorem spec_l4Self_eq (L : List Int) (hb : L.length ≤ 1048576) (k : Nat) (hk : L.length < k) : spec_l4Self.f k L = some (L.all plW && !(has2 L)) := by
  unfold spec_l4Self.f
  have := spec_l4Self.l0_eq L hb L.length k 0 (by omega) hk
  rw [show ((0 : Nat) : Int) = 0 from rfl, if_pos rfl, List.drop_zero, pairB_eq] at this
  rw [this]
  congr 3
def wrapW (F : List Int) : ByteArray := ((⟨#[61, 63, 117, 116, 102, 45, 56, 63, 66, 63]⟩ : ByteArray) ++ strOfNums (impl_baseText.q F)) ++ (⟨#[63, 61]⟩ : ByteArray)
def outW (F : List Int) (b : Bool) : Int × ByteArray := if b = true then (0, strOfNums F) else if ((strOfNums F).size : Int) > 400 then (2, (⟨#[]⟩ : ByteArray)) else if ((wrapW F).size : Int) > 400 then (2, (⟨#[]⟩ : ByteArray)) else (0, wrapW F)
theorem q_len : ∀ (n : Nat) (L : List Int), L.length ≤ n → (impl_baseText.q L).length ≤ 4 * L.length + 4 := by
  intro n
  induction n using Nat.strongRecOn with
  | _ n ih =>
    intro L h
    match L, h with
    | [], _ => simp [impl_baseText.q]
    | [a], _ => simp [impl_baseText.q]
    | [a, b], _ => simp [impl_baseText.q]
    | a :: b :: c :: r, h =>
      simp only [List.length_cons] at h
      have := ih r.length (by omega) r (Nat.le_refl _)
      simp only [impl_baseText.q, List.length_cons]
      omega
theorem flat_bytes (a : Int) (l : List Int) : ∀ x ∈ l.flatMap (encB a), 0 ≤ x ∧ x ≤ 255 := by
  intro x hx
  obtain ⟨c, _, hc⟩ := List.mem_flatMap.1 hx
  exact encB_bytes a c x hc
theorem wrap_sz (F : List Int) (hF : F.length ≤ 1000000) : 10 + (strOfNums (impl_baseText.q F)).size ≤ 9223372036854775807 ∧ ((⟨#[61, 63, 117, 116, 102, 45, 56, 63, 66, 63]⟩ : ByteArray) ++ strOfNums (impl_baseText.q F)).size + 2 ≤ 9223372036854775807 := by
  have hq := q_len F.length F (Nat.le_refl _)
  have h1 : (⟨#[61, 63, 117, 116, 102, 45, 56, 63, 66, 63]⟩ : ByteArray).size = 10 := rfl
  rw [ByteArray.size_append, h1, strOfNums_size]
  omega
theorem impl_EncodeWords.j1_eq (F : List Int) (hF : F.length ≤ 1000000) (hB : ∀ x ∈ F, 0 ≤ x ∧ x ≤ 255) (k : Nat) (b : Bool) : impl_EncodeWords.j1 (k + 1) (strOfNums F) b = some (outW F b) := by
  obtain ⟨z1, z2⟩ := wrap_sz F hF
  rw [impl_EncodeWords.j1]
  unfold outW
  by_cases hb : b = true
  · rw [if_pos hb, if_pos hb]
  · rw [if_neg hb, if_neg hb]
    by_cases c : ((strOfNums F).size : Int) > 400
    · rw [if_pos c, if_pos c]
    · rw [if_neg c, if_neg c, if_pos (by rw [strOfNums_size]; omega), bytesOf_strOfNums F hB, impl_baseText_eq F hF hB, Option.bind_some, if_pos z1, if_pos z2]
      show (if ((wrapW F).size : Int) > 400 then some ((2 : Int), (⟨#[]⟩ : ByteArray)) else some (0, wrapW F)) = _
      split <;> rfl
theorem impl_EncodeWords.l0_eq (F : List Int) (hF : F.length ≤ 1000000) (hB : ∀ x ∈ F, 0 ≤ x ∧ x ≤ 255) (L : List Int) (hb : L.length ≤ 1048576) : ∀ (n k i : Nat) (b : Bool), L.length = i + n → n + 1 < k → impl_EncodeWords.l0 k b (strOfNums F) L (L.length : Int) (i : Int) = some (outW F (b && (L.drop i).all plW && !(has2 F)))
  | _, 0, _, _, _, h => absurd h (by omega)
  | 0, k + 1, i, b, hi, h => by
    have h1 : ¬ ((i : Int) < (L.length : Int)) := by omega
    obtain ⟨k, rfl⟩ : ∃ m, k = m + 1 := ⟨k - 1, by omega⟩
    rw [impl_EncodeWords.l0, if_neg h1, List.drop_eq_nil_of_le (by omega)]
    have hs : (strOfNums F).size < 4294967281 := by rw [strOfNums_size]; omega
    have hc : strings_Contains.f (strOfNums F) (⟨#[61, 63]⟩ : ByteArray) = some (has2 F) := by
      unfold strings_Contains.f
      rw [if_pos hs, ← contains_has2 F hB, data_strOfNums]
    cases b with
    | true => rw [if_pos rfl, hc, Option.bind_some, impl_EncodeWords.j1_eq F hF hB]; simp
    | false => rw [if_neg (by decide), impl_EncodeWords.j1_eq F hF hB]; simp
  | n + 1, k + 1, i, b, hi, h => by
    have hlt : i < L.length := by omega
    have h1 : (i : Int) < (L.length : Int) := by omega
    have h2 : (0 : Int) ≤ (i : Int) := by omega
    have w1 : wrap64 ((i : Int) + 1) = ((i + 1 : Nat) : Int) := by rw [wrap64_in (by omega)]; omega
    have ih := impl_EncodeWords.l0_eq F hF hB L hb n k (i + 1)
    rw [impl_EncodeWords.l0, if_pos h1, if_pos h2, if_pos h1, w1, within_eq, Option.bind_some, List.drop_eq_getElem_cons hlt, List.all_cons, ← rd_at L i hlt]
    cases b with
    | true => rw [if_pos rfl, ih _ (by omega) (by omega)]; rfl
    | false => rw [if_neg (by decide), ih _ (by omega) (by omega)]; simp
theorem flat_plain : ∀ (l : List Int), l.all plW = true → l.flatMap (encB 4) = l
  | [], _ => rfl
  | x :: r, h => by
    rw [List.all_cons, Bool.and_eq_true] at h
    have hx : 32 ≤ x ∧ x ≤ 126 := of_decide_eq_true h.1
    rw [List.flatMap_cons, flat_plain r h.2]
    have : encB 4 x = [x] := by
      unfold encB
      rw [if_neg (by decide), if_neg (by decide), if_neg (by decide), if_pos (by omega), show x % 256 = x by omega]
    rw [this]
    rfl
theorem out_short (F : List Int) (b : Bool) (hb : b = true → F.length ≤ 400) : outW F b = if 400 < F.length then (2, (⟨#[]⟩ : ByteArray)) else if b = true then (0, strOfNums F) else if ((wrapW F).size : Int) > 400 then (2, (⟨#[]⟩ : ByteArray)) else (0, wrapW F) := by
  unfold outW
  rw [strOfNums_size]
  by_cases c : 400 < F.length
  · rw [if_neg (fun e => by have := hb e; omega), if_pos (by omega), if_pos c]
  · rw [if_neg c]
    by_cases e : b = true
    · rw [if_pos e, if_pos e]
    · rw [if_neg e, if_neg e, if_neg (by omega)]
def ewo (l : List Int) : Int × ByteArray := if fault l = 0 then outW (l.flatMap (encB 4)) (l.all plW && !(has2 (l.flatMap (encB 4)))) else (fault l, (⟨#[]⟩ : ByteArray))
theorem impl_EncodeWords_eq (l : List Int) (k : Nat) (hb : l.length ≤ 1048576) (hk : l.length + 8 < k) : impl_EncodeWords.f k l = some (ewo l) := by
  unfold impl_EncodeWords.f ewo
  rw [impl_CodesFault_eq, Option.bind_some]
  change (if fault l = 0 then _ else some (fault l, _)) = _
  by_cases hf : fault l = 0
  · rw [if_pos hf, if_pos hf]
    obtain ⟨hl, hch⟩ := fault_zero hf
    have hL : ∀ x ∈ l, 0 ≤ x ∧ x ≤ 65535 := fun x hx => by have := (charB_iff x).1 (hch x hx); omega
    have hfl := flat_len 4 l
    rw [impl_encodeChars_eq 4 (by decide) l hL k hb (by omega), Option.bind_some]
    have := impl_EncodeWords.l0_eq (l.flatMap (encB 4)) (by omega) (flat_bytes 4 l) l hb l.length k 0 true (by omega) (by omega)
    rw [List.drop_zero, Bool.true_and] at this
    exact this
  · rw [if_neg hf, if_neg hf]
theorem spec_EncodeWords_eq (l : List Int) (k : Nat) (hb : l.length ≤ 1048576) (hk : 4 * l.length + 12 < k) : spec_EncodeWords.f k l = some (ewo l) := by
  unfold spec_EncodeWords.f ewo
  rw [spec_l2Fault_eq l k (by unfold maxLen; omega) (by omega), Option.bind_some]
  change (if fault l = 0 then _ else some (fault l, _)) = _
  by_cases hf : fault l = 0
  · rw [if_pos hf, if_pos hf]
    obtain ⟨hl, hch⟩ := fault_zero hf
    have hfl := flat_len 4 l
    have hsh : (l.all plW && !(has2 (l.flatMap (encB 4)))) = true → (l.flatMap (encB 4)).length ≤ 400 := by
      intro e
      rw [Bool.and_eq_true] at e
      rw [flat_plain l e.1]
      exact hl
    have hself : (l.all plW && !(has2 l)) = (l.all plW && !(has2 (l.flatMap (encB 4)))) := by
      cases e : l.all plW with
      | false => rfl
      | true => rw [flat_plain l e]
    have he := spec_l2Encode.l0_eq 4 (by decide) l hb l.length k 0 [] (by omega) (by omega) (by simp; omega)
    rw [show ((0 : Nat) : Int) = 0 from rfl, List.drop_zero] at he
    have hall : l.all (hasB 4) = true := by rw [List.all_eq_true]; intro x _; rfl
    have hec : spec_l2Encode.f k 4 l = some (if 400 < (l.flatMap (encB 4)).length then ([], 2) else (l.flatMap (encB 4), 0)) := by
      unfold spec_l2Encode.f
      rw [he]
      unfold enco
      rw [if_pos hall, List.nil_append]
    rw [out_short _ _ hsh]
    unfold spec_l4Encode.f
    rw [hec, Option.bind_some]
    have hB := flat_bytes 4 l
    generalize l.flatMap (encB 4) = F at *
    by_cases c : 400 < F.length
    · rw [if_pos c, if_pos c]; rfl
    · obtain ⟨z1, z2⟩ := wrap_sz F (by omega)
      rw [if_neg c, if_neg c, spec_l4Self_eq l hb k (by omega), hself]
      show ((if (0 : Int) = 0 then _ else _) : Option (ByteArray × Int)).bind _ = _
      rw [if_pos rfl, Option.bind_some]
      cases (l.all plW && !(has2 F)) with
      | true => rw [if_pos rfl, if_pos rfl]; rfl
      | false =>
        rw [if_neg (by decide), if_neg (by decide)]
        show ((spec_l1Encode.f k F).bind _).bind _ = _
        rw [spec_l1Encode_eq F k (by omega) hB (by omega), Option.bind_some, if_pos z1, if_pos z2]
        show (if ((wrapW F).size : Int) > 400 then some ((⟨#[]⟩ : ByteArray), (2 : Int)) else some (wrapW F, 0)).bind _ = _
        split <;> rfl
  · rw [if_neg hf, if_neg hf]
theorem fault_of (l : List Int) (h1 : l.length ≤ 400) (h2 : ∀ x ∈ l, charB x = true) : fault l = 0 := by
  unfold fault
  rw [if_neg (by omega), if_pos (List.all_eq_true.mpr h2)]
theorem laws_lwNums.l0_eq (X Y : List Int) (hx : X.length ≤ 1048576) (hxy : X.length = Y.length) : ∀ (n k i : Nat), X.length = i + n → n < k → laws_lwNums.l0 k X Y (i : Int) = some (decide (X.drop i = Y.drop i))
  | _, 0, _, _, h => absurd h (by omega)
  | 0, k + 1, i, hi, _ => by
    have h1 : ¬ ((i : Int) < (X.length : Int)) := by omega
    unfold laws_lwNums.l0
    rw [if_neg h1, List.drop_eq_nil_of_le (by omega : X.length ≤ i), List.drop_eq_nil_of_le (by omega : Y.length ≤ i)]
    rfl
  | n + 1, k + 1, i, hi, h => by
    have h1 : (i : Int) < (X.length : Int) := by omega
    have h1y : (i : Int) < (Y.length : Int) := by omega
    have h2 : (0 : Int) ≤ (i : Int) := by omega
    have h4 : wrap64 ((i : Int) + 1) = ((i + 1 : Nat) : Int) := by rw [wrap64_in (by omega)]; omega
    unfold laws_lwNums.l0
    rw [if_pos h1, if_pos h2, if_pos h1y, rd_at X i (by omega), rd_at Y i (by omega), h4, laws_lwNums.l0_eq X Y hx hxy n k (i + 1) (by omega) (by omega), List.drop_eq_getElem_cons (by omega : i < X.length), List.drop_eq_getElem_cons (by omega : i < Y.length)]
    by_cases h5 : X[i] = Y[i]
    · rw [if_pos h5, h5]
      congr 1
      rw [decide_eq_decide]
      exact ⟨fun e => by rw [e], fun e => (List.cons.inj e).2⟩
    · rw [if_neg h5, decide_eq_false (fun e => h5 (List.cons.inj e).1)]
theorem laws_lwNums_eq (X Y : List Int) (k : Nat) (hx : X.length ≤ 1048576) (hk : X.length < k) : laws_lwNums.f k X Y = some (decide (X = Y)) := by
  unfold laws_lwNums.f
  by_cases h : X.length = Y.length
  · rw [if_pos (by omega)]
    have := laws_lwNums.l0_eq X Y hx h X.length k 0 (by omega) hk
    simpa using this
  · rw [if_neg (by omega), decide_eq_false (fun e => h (by rw [e]))]
theorem byte_wf {l : List Int} (h : ∀ x ∈ l, (Lit.int .u8 x).wf = true) : ∀ x ∈ l, 0 ≤ x ∧ x ≤ 255 := by
  intro x hx
  have h1 := h x hx
  unfold Lit.wf at h1
  rw [Bool.and_eq_true, decide_eq_true_eq, decide_eq_true_eq, show IntKind.u8.min = 0 from by decide, show IntKind.u8.max = 255 from by decide] at h1
  exact h1
theorem rd_byte {l : List Int} (h : ∀ x ∈ l, 0 ≤ x ∧ x ≤ 255) (j : Int) : 0 ≤ rd l j ∧ rd l j ≤ 255 := by
  unfold rd
  rw [List.getD_eq_getElem?_getD]
  cases hg : l[j.toNat]? with
  | none => simp
  | some v =>
    have := h v (List.mem_of_getElem? hg)
    simpa using this
theorem tmod_in (x n : Int) (hx : 0 ≤ x) (hn : 1 ≤ n) : 0 ≤ Int.tmod x n ∧ Int.tmod x n < n :=
  ⟨Int.tmod_nonneg _ hx, Int.tmod_lt_of_pos _ (by omega)⟩
theorem spec_l1Next_eq (l : List Int) (hB : ∀ x ∈ l, 0 ≤ x ∧ x ≤ 255) (hl : l.length ≤ 1048576) (i n : Int) (hi : 0 ≤ i ∧ i ≤ 4294967296) (hn : 1 ≤ n) : ∃ v, spec_l1Next.f l i n = some (v, i + 1) ∧ 0 ≤ v ∧ v < n := by
  unfold spec_l1Next.f
  have a1 : wrap64 (i + 1) = i + 1 := wrap64_in (by omega)
  have a2 : wrap64 (i + 1 - 1) = i := by rw [show i + 1 - 1 = i by omega]; exact wrap64_in (by omega)
  rw [a1, a2, if_neg (by omega)]
  by_cases h0 : (l.length : Int) = 0
  · have a3 : wrap64 (i * 7) = i * 7 := wrap64_in (by omega)
    rw [if_pos h0, if_neg (by omega), a3]
    exact ⟨_, rfl, tmod_in _ _ (by omega) hn⟩
  · rw [if_neg h0]
    have h1 := tmod_in i (l.length : Int) hi.1 (by omega)
    rw [if_pos h1.1, if_pos h1.2]
    have hd : 0 ≤ Int.tdiv i (l.length : Int) ∧ Int.tdiv i (l.length : Int) ≤ i := by
      rw [Int.tdiv_eq_ediv_of_nonneg hi.1]
      exact ⟨Int.ediv_nonneg hi.1 (by omega), Int.ediv_le_self _ hi.1⟩
    have hr1 := rd_byte hB (Int.tmod i (l.length : Int))
    generalize rd l (Int.tmod i (l.length : Int)) = r1 at hr1
    generalize Int.tdiv i (l.length : Int) = q at hd
    have b0 : wrap64 r1 = r1 := wrap64_in (by omega)
    have b1 : wrap64 q = q := wrap64_in (by omega)
    have b2 : wrap64 (q * 37) = q * 37 := wrap64_in (by omega)
    have b3 : wrap64 (r1 + q * 37) = r1 + q * 37 := wrap64_in (by omega)
    rw [b0, b1, b2, b3]
    by_cases h2 : n > 200
    · rw [if_pos h2, a1]
      have h3 := tmod_in (i + 1) (l.length : Int) (by omega) (by omega)
      rw [if_pos h3.1, if_pos h3.2, if_neg (by omega)]
      have hr2 := rd_byte hB (Int.tmod (i + 1) (l.length : Int))
      generalize rd l (Int.tmod (i + 1) (l.length : Int)) = r2 at hr2
      have c0 : wrap64 r2 = r2 := wrap64_in (by omega)
      have c1 : wrap64 ((r1 + q * 37) * 251) = (r1 + q * 37) * 251 := wrap64_in (by omega)
      have c2 : wrap64 (r2 * 13) = r2 * 13 := wrap64_in (by omega)
      have c3 : wrap64 ((r1 + q * 37) * 251 + r2 * 13) = (r1 + q * 37) * 251 + r2 * 13 := wrap64_in (by omega)
      have c4 : wrap64 ((r1 + q * 37) * 251 + r2 * 13 + i) = (r1 + q * 37) * 251 + r2 * 13 + i := wrap64_in (by omega)
      rw [c0, c1, c2, c3, c4]
      exact ⟨_, rfl, tmod_in _ _ (by omega) hn⟩
    · rw [if_neg h2, if_neg (by omega)]
      exact ⟨_, rfl, tmod_in _ _ (by omega) hn⟩
theorem spec_l1Pick_eq (l : List Int) (hB : ∀ x ∈ l, 0 ≤ x ∧ x ≤ 255) (hl : l.length ≤ 1048576) (i : Int) (hi : 0 ≤ i ∧ i ≤ 4294967296) (L : List Int) (hL : 1 ≤ L.length) : ∃ j : Nat, j < L.length ∧ spec_l1Pick.f l i L = some (rd L (j : Int), i + 1) := by
  obtain ⟨v, hv, h0, h1⟩ := spec_l1Next_eq l hB hl i (L.length : Int) hi (by omega)
  unfold spec_l1Pick.f
  rw [hv, Option.bind_some]
  refine ⟨v.toNat, by omega, ?_⟩
  rw [Int.toNat_of_nonneg h0]
  simp only
  rw [if_pos h0, if_pos h1]
theorem spec_l2Codes.l0_eq (l : List Int) (hB : ∀ x ∈ l, 0 ≤ x ∧ x ≤ 255) (hl : l.length ≤ 1048576) : ∀ (n k : Nat) (acc : List Int) (i : Int), n < k → (0 ≤ i ∧ i + n ≤ 4294967296) → acc.length + n ≤ 1000 → (∀ x ∈ acc, x ∈ ([97, 66, 32, 228, 1078, 1046, 8470, 167, 8364, 127, 160, 1037] : List Int)) → ∃ out, spec_l2Codes.l0 k acc (n : Int) l i = some (out, i + n) ∧ out.length = acc.length + n ∧ ∀ x ∈ out, x ∈ ([97, 66, 32, 228, 1078, 1046, 8470, 167, 8364, 127, 160, 1037] : List Int)
  | _, 0, _, _, h, _, _, _ => absurd h (by omega)
  | 0, k + 1, acc, i, _, hi, ha, hx => by
    unfold spec_l2Codes.l0
    rw [if_neg (by omega)]
    exact ⟨acc, by simp, by simp, hx⟩
  | n + 1, k + 1, acc, i, h, hi, ha, hx => by
    obtain ⟨j, hj, hp⟩ := spec_l1Pick_eq l hB hl i (by omega) ([97, 66, 32, 228, 1078, 1046, 8470, 167, 8364, 127, 160, 1037] : List Int) (by decide)
    have hw : wrap64 (((n + 1 : Nat) : Int) - 1) = (n : Int) := by rw [wrap64_in (by omega)]; omega
    have hm : rd [97, 66, 32, 228, 1078, 1046, 8470, 167, 8364, 127, 160, 1037] (j : Int) ∈ ([97, 66, 32, 228, 1078, 1046, 8470, 167, 8364, 127, 160, 1037] : List Int) := by
      rw [rd_at _ j hj]
      exact List.getElem_mem hj
    unfold spec_l2Codes.l0
    rw [if_pos (by omega), hp, Option.bind_some, if_pos (by omega), hw]
    simp only
    generalize rd [97, 66, 32, 228, 1078, 1046, 8470, 167, 8364, 127, 160, 1037] (j : Int) = y at hm
    obtain ⟨out, ho, hlen, hb⟩ := spec_l2Codes.l0_eq l hB hl n k (acc ++ [y]) (i + 1) (by omega) (by omega) (by simp; omega) (by
      intro x hx'
      rcases List.mem_append.1 hx' with h' | h'
      · exact hx x h'
      · rw [List.mem_singleton.1 h']; exact hm)
    refine ⟨out, ?_, by simp at hlen; omega, hb⟩
    rw [ho]
    congr 2
    omega
theorem spec_l2Codes_eq (l : List Int) (hB : ∀ x ∈ l, 0 ≤ x ∧ x ≤ 255) (hl : l.length ≤ 1048576) (k : Nat) (i : Int) (hk : 8 ≤ k) (hi : 0 ≤ i ∧ i ≤ 1000000) : ∃ out j, spec_l2Codes.f k l i = some (out, j) ∧ out.length ≤ 5 ∧ (∀ x ∈ out, x ∈ ([97, 66, 32, 228, 1078, 1046, 8470, 167, 8364, 127, 160, 1037] : List Int)) ∧ i ≤ j ∧ j ≤ i + 6 := by
  obtain ⟨v, hv, h0, h1⟩ := spec_l1Next_eq l hB hl i 6 (by omega) (by omega)
  obtain ⟨n, rfl⟩ := Int.eq_ofNat_of_zero_le h0
  obtain ⟨out, ho, hlen, hm⟩ := spec_l2Codes.l0_eq l hB hl n k [] (i + 1) (by omega) (by omega) (by simp; omega) (by simp)
  unfold spec_l2Codes.f
  rw [hv, Option.bind_some]
  exact ⟨out, _, ho, by simp at hlen; omega, hm, by omega, by omega⟩
theorem spec_l2Bent_eq (l : List Int) (hB : ∀ x ∈ l, 0 ≤ x ∧ x ≤ 255) (hl : l.length ≤ 1048576) (k : Nat) (i : Int) (hk : 8 ≤ k) (hi : 0 ≤ i ∧ i ≤ 1000) : ∃ out j, spec_l2Bent.f k l i = some (out, j) ∧ out.length ≤ 401 ∧ i ≤ j ∧ j ≤ i + 10 := by
  obtain ⟨c, j, h1, h2, _, h3, h4⟩ := spec_l2Codes_eq l hB hl k i hk (by omega)
  obtain ⟨v, hv, v0, v1⟩ := spec_l1Next_eq l hB hl j 10 (by omega) (by omega)
  unfold spec_l2Bent.f
  rw [h1, Option.bind_some]
  simp only
  rw [hv, Option.bind_some]
  simp only
  by_cases c0 : v = 0
  · obtain ⟨q, hq, hp⟩ := spec_l1Pick_eq l hB hl (j + 1) (by omega) ([-1, 55296, 57343, 65535, 65536] : List Int) (by decide)
    rw [if_pos c0, hp, Option.bind_some, if_pos (by omega)]
    exact ⟨_, _, rfl, by simp; omega, by omega, by omega⟩
  · rw [if_neg c0]
    by_cases c1 : v = 1
    · obtain ⟨q, hq, hp⟩ := spec_l1Pick_eq l hB hl (j + 1) (by omega) ([400, 401, 300] : List Int) (by decide)
      have h5 : 300 ≤ rd [400, 401, 300] (q : Int) ∧ rd [400, 401, 300] (q : Int) ≤ 401 := by
        have hq2 : q < 3 := hq
        rcases (by omega : q = 0 ∨ q = 1 ∨ q = 2) with rfl | rfl | rfl <;> decide
      rw [if_pos c1, hp, Option.bind_some]
      simp only
      generalize rd [400, 401, 300] (q : Int) = y at h5
      rw [if_pos (by omega), if_pos (by omega)]
      exact ⟨_, _, rfl, by simp; omega, by omega, by omega⟩
    · rw [if_neg c1]
      exact ⟨_, _, rfl, by omega, by omega, by omega⟩
theorem spec_l1Chance_eq (l : List Int) (hB : ∀ x ∈ l, 0 ≤ x ∧ x ≤ 255) (hl : l.length ≤ 1048576) (i n : Int) (hi : 0 ≤ i ∧ i ≤ 4294967296) (hn : 1 ≤ n) : ∃ b, spec_l1Chance.f l i n = some (b, i + 1) := by
  obtain ⟨v, hv, _, _⟩ := spec_l1Next_eq l hB hl i n hi hn
  unfold spec_l1Chance.f
  rw [hv]
  exact ⟨_, rfl⟩
theorem q_plainA : ∀ n : Fin 64, 43 ≤ impl_baseText.dg (n.val : Int) ∧ impl_baseText.dg (n.val : Int) ≤ 122 ∧ impl_baseText.dg (n.val : Int) ≠ 63 := by decide +kernel
theorem dg_plain (n : Int) (h : 0 ≤ n ∧ n < 64) : 43 ≤ impl_baseText.dg n ∧ impl_baseText.dg n ≤ 122 ∧ impl_baseText.dg n ≠ 63 := by
  have := q_plainA ⟨n.toNat, by omega⟩
  rw [show ((⟨n.toNat, by omega⟩ : Fin 64).val : Int) = n from Int.toNat_of_nonneg h.1] at this
  exact this
theorem q_plain : ∀ (n : Nat) (L : List Int), L.length ≤ n → (∀ x ∈ L, 0 ≤ x ∧ x ≤ 255) → ∀ y ∈ impl_baseText.q L, 43 ≤ y ∧ y ≤ 122 ∧ y ≠ 63 := by
  intro n
  induction n using Nat.strongRecOn with
  | _ n ih =>
    intro L hn hb y hy
    match L, hn, hb, hy with
    | [], _, _, hy => simp [impl_baseText.q] at hy
    | [a], _, hb, hy =>
      have ha := hb a (by simp)
      simp only [impl_baseText.q, List.mem_cons, List.not_mem_nil, or_false] at hy
      rcases hy with rfl | rfl | rfl | rfl
      · exact dg_plain _ (by omega)
      · exact dg_plain _ (by omega)
      · decide
      · decide
    | [a, b], _, hb, hy =>
      have ha := hb a (by simp)
      have hb2 := hb b (by simp)
      simp only [impl_baseText.q, List.mem_cons, List.not_mem_nil, or_false] at hy
      rcases hy with rfl | rfl | rfl | rfl
      · exact dg_plain _ (by omega)
      · exact dg_plain _ (by omega)
      · exact dg_plain _ (by omega)
      · decide
    | a :: b :: c :: r, hn, hb, hy =>
      simp only [List.length_cons] at hn
      have ha := hb a (by simp)
      have hb2 := hb b (by simp)
      have hc := hb c (by simp)
      simp only [impl_baseText.q, List.mem_cons] at hy
      rcases hy with rfl | rfl | rfl | rfl | hy
      · exact dg_plain _ (by omega)
      · exact dg_plain _ (by omega)
      · exact dg_plain _ (by omega)
      · exact dg_plain _ (by omega)
      · exact ih r.length (by omega) r (Nat.le_refl _) (fun x hx => hb x (by simp [hx])) y hy
theorem spec_l4Encode_ex (l : List Int) (k : Nat) (hb : l.length ≤ 1000) (hk : 4 * l.length + 412 < k) : ∃ s c, spec_l4Encode.f k l = some (s, c) ∧ s.size ≤ 2000 := by
  have he := spec_l2Encode.l0_eq 4 (by decide) l (by omega) l.length k 0 [] (by omega) (by omega) (by simp; omega)
  rw [show ((0 : Nat) : Int) = 0 from rfl, List.drop_zero] at he
  have hall : l.all (hasB 4) = true := by rw [List.all_eq_true]; intro x _; rfl
  have hec : spec_l2Encode.f k 4 l = some (if 400 < (l.flatMap (encB 4)).length then ([], 2) else (l.flatMap (encB 4), 0)) := by
    unfold spec_l2Encode.f
    rw [he]
    unfold enco
    rw [if_pos hall, List.nil_append]
  unfold spec_l4Encode.f
  rw [hec, Option.bind_some]
  have hB := flat_bytes 4 l
  generalize l.flatMap (encB 4) = F at *
  by_cases c : 400 < F.length
  · rw [if_pos c]; exact ⟨_, _, rfl, by decide⟩
  · obtain ⟨z1, z2⟩ := wrap_sz F (by omega)
    have hq := q_len F.length F (Nat.le_refl _)
    rw [if_neg c, spec_l4Self_eq l (by omega) k (by omega)]
    show ∃ s c, (if (0 : Int) = 0 then _ else _) = _ ∧ _
    rw [if_pos rfl, Option.bind_some]
    cases (l.all plW && !(has2 l)) with
    | true => rw [if_pos rfl]; exact ⟨_, _, rfl, by rw [strOfNums_size]; show F.length ≤ 2000; omega⟩
    | false =>
      rw [if_neg (by decide)]
      show ∃ s c, (spec_l1Encode.f k F).bind _ = _ ∧ _
      rw [spec_l1Encode_eq F k (by omega) hB (by omega), Option.bind_some, if_pos z1, if_pos z2]
      split
      · exact ⟨_, _, rfl, by decide⟩
      · refine ⟨_, _, rfl, ?_⟩
        rw [ByteArray.size_append, ByteArray.size_append, strOfNums_size]
        show 10 + _ + 2 ≤ 2000
        omega
theorem rdB_size (L : List ByteArray) (N : Nat) (h : ∀ x ∈ L, x.size ≤ N) (v : Int) : (rdOf ByteArray.empty L v).size ≤ N := by
  unfold rdOf
  rw [List.getD_eq_getElem?_getD]
  cases e : L[v.toNat]? with
  | none => exact Nat.zero_le _
  | some x => exact h x (List.mem_of_getElem? e)
theorem drawValue_ex (l : List Int) (hB : ∀ x ∈ l, 0 ≤ x ∧ x ≤ 255) (hl : l.length ≤ 1048576) (k : Nat) (hk : 1000 < k) (i : Int) (hi : 0 ≤ i ∧ i ≤ 100000) : ∃ s j, spec_l4DrawValue.f k l i = some (s, j) ∧ s.size ≤ 2000 ∧ i ≤ j ∧ j ≤ i + 8 := by
  obtain ⟨v, hv, h0, h1⟩ := spec_l1Next_eq l hB hl i 5 (by omega) (by omega)
  unfold spec_l4DrawValue.f
  rw [hv, Option.bind_some]
  by_cases c0 : v = 0
  · obtain ⟨c, j, q1, q2, _, q3, q4⟩ := spec_l2Codes_eq l hB hl k (i + 1) (by omega) (by omega)
    obtain ⟨s, d, q5, q6⟩ := spec_l4Encode_ex c k (by omega) (by omega)
    rw [if_pos c0]
    show ∃ s j, (spec_l2Codes.f k l (i + 1)).bind _ = _ ∧ _
    rw [q1, Option.bind_some]
    show ∃ s j, (spec_l4Encode.f k c).bind _ = _ ∧ _
    rw [q5, Option.bind_some]
    exact ⟨s, j, rfl, q6, by omega, by omega⟩
  · rw [if_neg c0]
    obtain ⟨u, hu, u0, u1⟩ := spec_l1Next_eq l hB hl (i + 1) 6 (by omega) (by omega)
    by_cases c1 : v = 1
    · rw [if_pos c1, Option.bind_some]
      show ∃ s j, (spec_l1Next.f l (i + 1) 6).bind _ = _ ∧ _
      rw [hu, Option.bind_some, if_pos (by exact u0), if_pos (by exact u1)]
      exact ⟨_, _, rfl, rdB_size _ 2000 (by decide) u, by show i ≤ i + 1 + 1; omega, by show i + 1 + 1 ≤ i + 8; omega⟩
    · rw [if_neg c1, Option.bind_some]
      show ∃ s j, (spec_l1Next.f l (i + 1) 6).bind _ = _ ∧ _
      rw [hu, Option.bind_some, if_pos (by exact u0), if_pos (by exact u1)]
      exact ⟨_, _, rfl, rdB_size _ 2000 (by decide) u, by show i ≤ i + 1 + 1; omega, by show i + 1 + 1 ≤ i + 8; omega⟩
theorem draw_words (l : List Int) (hB : ∀ x ∈ l, 0 ≤ x ∧ x ≤ 255) (hl : l.length ≤ 1048576) (k : Nat) (hk : 1000 < k) : ∃ v, spec_DrawDecodeWords.f k l = some v := by
  have last : ∀ (s : ByteArray) (j : Int), 0 ≤ j ∧ j ≤ 100000 → ∃ v, ((spec_l1Chance.f l j 40).bind fun bt => (if bt.1 = true then (if 401 ≤ 281474976710656 then (some (strOfNums (List.replicate 401 0))) else (none)) else (some s))) = some v := by
    intro s j hj
    obtain ⟨b, hb⟩ := spec_l1Chance_eq l hB hl j 40 (by omega) (by omega)
    rw [hb, Option.bind_some]
    cases b with
    | true => exact ⟨_, by rw [if_pos rfl, if_pos (by omega)]⟩
    | false => exact ⟨s, by rw [if_neg (by simp)]⟩
  obtain ⟨s, j, q1, q2, q3, q4⟩ := drawValue_ex l hB hl k hk 0 (by omega)
  unfold spec_DrawDecodeWords.f spec_l1Source.f
  rw [Option.bind_some]
  show ∃ v, (spec_l4DrawValue.f k l 0).bind _ = some v
  rw [q1, Option.bind_some]
  obtain ⟨b, hb⟩ := spec_l1Chance_eq l hB hl j 3 (by omega) (by omega)
  show ∃ v, (spec_l1Chance.f l j 3).bind _ = some v
  rw [hb, Option.bind_some]
  cases b with
  | true =>
    obtain ⟨u, hu, u0, u1⟩ := spec_l1Next_eq l hB hl (j + 1) 3 (by omega) (by omega)
    have hz := rdB_size ([(⟨#[32]⟩ : ByteArray), (⟨#[]⟩ : ByteArray), (⟨#[63, 61]⟩ : ByteArray)] : List ByteArray) 2000 (by decide) u
    obtain ⟨s2, j2, p1, p2, p3, p4⟩ := drawValue_ex l hB hl k hk (j + 1 + 1) (by omega)
    rw [if_pos rfl, Option.bind_some]
    show ∃ v, (spec_l1Next.f l (j + 1) 3).bind _ = some v
    rw [hu, Option.bind_some, if_pos (by exact u0), if_pos (by exact u1)]
    show ∃ v, (if s.size + (rdOf ByteArray.empty ([(⟨#[32]⟩ : ByteArray), (⟨#[]⟩ : ByteArray), (⟨#[63, 61]⟩ : ByteArray)] : List ByteArray) u).size ≤ 9223372036854775807 then ((spec_l4DrawValue.f k l (j + 1 + 1)).bind _) else none) = some v
    rw [if_pos (by omega), p1, Option.bind_some]
    show ∃ v, (if (s ++ (rdOf ByteArray.empty ([(⟨#[32]⟩ : ByteArray), (⟨#[]⟩ : ByteArray), (⟨#[63, 61]⟩ : ByteArray)] : List ByteArray) u)).size + s2.size ≤ 9223372036854775807 then _ else none) = some v
    rw [if_pos (by rw [ByteArray.size_append]; omega)]
    exact last _ j2 (by omega)
  | false =>
    rw [if_neg (by simp)]
    exact last _ (j + 1) (by omega)
theorem draw_codes (l : List Int) (hB : ∀ x ∈ l, 0 ≤ x ∧ x ≤ 255) (hl : l.length ≤ 1048576) (k : Nat) (hk : 1000 < k) : ∃ codes, spec_DrawEncodeWords.f k l = some codes ∧ codes.length ≤ 403 := by
  obtain ⟨codes, j, h1, h2, h3, h4⟩ := spec_l2Bent_eq l hB hl k 0 (by omega) (by omega)
  obtain ⟨b, hb⟩ := spec_l1Chance_eq l hB hl j 6 (by omega) (by omega)
  unfold spec_DrawEncodeWords.f spec_l1Source.f
  rw [Option.bind_some]
  show ∃ c, (spec_l2Bent.f k l 0).bind _ = some c ∧ _
  rw [h1, Option.bind_some]
  show ∃ c, (spec_l1Chance.f l j 6).bind _ = some c ∧ _
  rw [hb, Option.bind_some]
  cases b with
  | true =>
    rw [if_pos rfl, Option.bind_some]
    show ∃ c, (if codes.length + 2 < 17592186044416 then some (codes ++ [61, 63]) else none) = some c ∧ _
    rw [if_pos (by omega)]
    exact ⟨_, rfl, by simp; omega⟩
  | false => exact ⟨codes, by rw [if_neg (by simp)], by omega⟩
theorem has2_no : ∀ (L : List Int) (i : Nat) (h : i + 1 < L.length), has2 L = false → ¬ (L[i] = 61 ∧ L[i + 1] = 63)
  | [], i, h, _ => absurd h (by simp)
  | [x], i, h, _ => absurd h (by simp)
  | x :: y :: r, 0, h, e => by
    rw [has2, Bool.or_eq_false_iff, Bool.and_eq_false_iff] at e
    rintro ⟨h1, h2⟩
    rcases e.1 with g | g
    · exact of_decide_eq_false g h1
    · exact of_decide_eq_false g (by simpa using h2)
  | x :: y :: r, i + 1, h, e => by
    rw [has2, Bool.or_eq_false_iff] at e
    have := has2_no (y :: r) i (by simpa using h) e.2
    simpa using this
theorem plain_step (codes : List Int) (hp : codes.all plW = true) (h2 : has2 codes = false) (hl : codes.length ≤ 400) : ∀ (m p k : Nat) (out : List Int), codes.length = p + m → 9001000 + m < k → out.length ≤ p → impl_decodeWords.l0 k (suf (strOfNums codes) p) out = some (out ++ codes.drop p)
  | m, p, 0, _, _, h, _ => absurd h (by omega)
  | 0, p, k + 1, out, h, _, _ => by
    rw [impl_decodeWords.l0, if_pos ((toList_nil _).2 (by rw [suf_size, strOfNums_size]; omega)), List.drop_eq_nil_of_le (by omega), List.append_nil]
  | m + 1, p, k + 1, out, h, hk, ho => by
    have hr : ∀ x ∈ codes, 0 ≤ x ∧ x ≤ 255 := fun x hx => by
      have := of_decide_eq_true (List.all_eq_true.1 hp x hx)
      omega
    have hbo := bytesOf_strOfNums codes hr
    have hsz : (strOfNums codes).size = codes.length := strOfNums_size codes
    have hs := suf_size (strOfNums codes) p
    have hcp := cut_prefix (strOfNums codes) p (by omega) (by omega)
    have hno : ¬ (p + 2 ≤ (strOfNums codes).size ∧ bt (strOfNums codes) (p : Int) = 61 ∧ bt (strOfNums codes) ((p + 1 : Nat) : Int) = 63) := by
      rintro ⟨g1, g2, g3⟩
      rw [← rd_bytesOf, hbo, rd_at codes p (by omega)] at g2
      rw [← rd_bytesOf, hbo, rd_at codes (p + 1) (by omega)] at g3
      exact has2_no codes p (by omega) h2 ⟨g2, g3⟩
    rw [if_neg hno] at hcp
    have ht : impl_toldWord.f k (suf (strOfNums codes) p) = some ([], 0) := by
      unfold impl_toldWord.f
      rw [hcp, Option.bind_some]
      rfl
    have hd : codes.drop p = codes[p]'(by omega) :: codes.drop (p + 1) := List.drop_eq_getElem_cons (by omega)
    have hc := of_decide_eq_true (List.all_eq_true.1 hp (codes[p]'(by omega)) (List.getElem_mem _))
    obtain ⟨k, rfl⟩ : ∃ q, k = q + 12 := ⟨k - 12, by omega⟩
    have hf : impl_firstChar.f (k + 12) 4 (bytesOf (suf (strOfNums codes) p)) = some (codes[p]'(by omega), 1) := by
      rw [suf_bytes, hbo, hd, impl_firstChar_eq k 4 _ _ (by omega) (fun x hx => hr x (by rw [← hd] at hx; exact List.mem_of_mem_drop hx))]
      unfold oneF
      rw [if_pos rfl, if_pos (by omega)]
    rw [impl_decodeWords.l0, if_neg (fun e => by have := (toList_nil _).1 e; omega), ht, Option.bind_some]
    show (if (0 : Int) > 0 then _ else _) = _
    rw [if_neg (by decide), if_pos (by omega), hf, Option.bind_some]
    show (if (1 : Int) = 0 then _ else (if out.length < 17592186044416 then (if 0 ≤ (1 : Int) then (if (1 : Int) ≤ ((suf (strOfNums codes) p).size : Int) then impl_decodeWords.l0 (k + 12) ((suf (strOfNums codes) p).extract (1 : Int).toNat (suf (strOfNums codes) p).size) (out ++ [codes[p]'(by omega)]) else none) else none) else none)) = _
    rw [if_neg (by decide), if_pos (by omega), if_pos (by decide), if_pos (by omega), show (1 : Int).toNat = 1 from rfl, suf_cut, plain_step codes hp h2 hl m (p + 1) (k + 12) (out ++ [codes[p]'(by omega)]) (by omega) (by omega) (by simp; omega), hd, List.append_assoc]
    rfl
theorem plain_back (codes : List Int) (hp : codes.all plW = true) (h2 : has2 codes = false) (hl : codes.length ≤ 400) (k : Nat) (hk : 9003000 < k) : impl_DecodeWords.f k (strOfNums codes) = some (0, codes) := by
  have hsz : (strOfNums codes).size = codes.length := strOfNums_size codes
  have h := plain_step codes hp h2 hl codes.length 0 k [] (by omega) (by omega) (by simp)
  rw [suf_zero, List.drop_zero, List.nil_append] at h
  have h' : impl_decodeWords.f k (strOfNums codes) = some codes := h
  unfold impl_DecodeWords.f
  rw [if_neg (by omega), h', Option.bind_some, if_neg (by omega)]
theorem fst_app : ∀ (A B : List Int), (∀ x ∈ A, x ≠ 63) → fst 63 (A ++ 63 :: B) = some A.length
  | [], B, _ => rfl
  | a :: A, B, h => by
    have ih := fst_app A B (fun x hx => h x (by simp [hx]))
    show (if a = 63 then some 0 else (fst 63 (A ++ 63 :: B)).map (· + 1)) = _
    rw [if_neg (h a (by simp)), ih]
    rfl
theorem word_back (codes : List Int) (hch : ∀ x ∈ codes, charB x = true) (hl : codes.length ≤ 400) (hF : (codes.flatMap (encB 4)).length ≤ 400) (hw : (wrapW (codes.flatMap (encB 4))).size ≤ 400) (k : Nat) (hk : 9003000 < k) : impl_DecodeWords.f k (wrapW (codes.flatMap (encB 4))) = some (0, codes) := by
  have hFB := flat_bytes 4 codes
  have hbk := dec_enc 4 (by decide) codes
  have hdb : ∀ k, 1090000 < k → impl_DecodeBase.f k (strOfNums (impl_baseText.q (codes.flatMap (encB 4)))) = some (0, codes.flatMap (encB 4)) := fun k hk => dec_back _ hFB hF k hk
  have hdt : ∀ k, 1090000 < k → impl_DecodeText.f k 4 (codes.flatMap (encB 4)) = some (0, codes) := by
    intro k hk
    unfold impl_DecodeText.f
    rw [impl_isCharset_eq, Option.bind_some, decide_eq_true (by decide : 1 ≤ (4 : Int) ∧ (4 : Int) ≤ 5), if_pos rfl, if_neg (by omega)]
    unfold impl_decodeChars.f
    rw [hbk k [] (fun x hx => ⟨hch x hx, rfl⟩) (by omega) (by simp; omega)]
    rfl
  have hqp := q_plain _ (codes.flatMap (encB 4)) (Nat.le_refl _) hFB
  generalize hFe : codes.flatMap (encB 4) = F at *
  generalize hQ : impl_baseText.q F = Q at *
  have hQr : ∀ x ∈ Q, 0 ≤ x ∧ x ≤ 255 := fun x hx => by have := hqp x hx; omega
  have hv : wrapW F = strOfNums ([61, 63, 117, 116, 102, 45, 56, 63, 66, 63] ++ Q ++ [63, 61]) := by
    apply inj
    rw [bytesOf_strOfNums _ (fun x hx => by
      rcases List.mem_append.1 hx with h | h
      · rcases List.mem_append.1 h with g | g
        · exact (by decide : ∀ x ∈ ([61, 63, 117, 116, 102, 45, 56, 63, 66, 63] : List Int), 0 ≤ x ∧ x ≤ 255) x g
        · exact hQr x g
      · exact (by decide : ∀ x ∈ ([63, 61] : List Int), 0 ≤ x ∧ x ≤ 255) x h)]
    unfold wrapW bytesOf
    rw [ByteArray.data_append, ByteArray.data_append, Array.toList_append, Array.toList_append, List.map_append, List.map_append, hQ]
    have : (strOfNums Q).data.toList.map (fun b => (b.toNat : Int)) = Q := bytesOf_strOfNums Q hQr
    rw [this]
    rfl
  generalize hve : wrapW F = v at *
  have hL : bytesOf v = [61, 63, 117, 116, 102, 45, 56, 63, 66, 63] ++ Q ++ [63, 61] := by
    rw [hv, bytesOf_strOfNums _ (fun x hx => by
      rcases List.mem_append.1 hx with h | h
      · rcases List.mem_append.1 h with g | g
        · exact (by decide : ∀ x ∈ ([61, 63, 117, 116, 102, 45, 56, 63, 66, 63] : List Int), 0 ≤ x ∧ x ≤ 255) x g
        · exact hQr x g
      · exact (by decide : ∀ x ∈ ([63, 61] : List Int), 0 ≤ x ∧ x ≤ 255) x h)]
  have hsz : v.size = Q.length + 12 := by
    have := congrArg List.length hL
    rw [bl, List.length_append, List.length_append] at this
    simp only [List.length_cons, List.length_nil] at this
    omega
  have hb : ∀ i : Nat, i < v.size → bt v (i : Int) = ([61, 63, 117, 116, 102, 45, 56, 63, 66, 63] ++ Q ++ [63, 61]).getD i 0 := by
    intro i hi
    rw [← rd_bytesOf, hL]
    rfl
  have b0 : bt v ((0 : Nat) : Int) = 61 := by rw [hb 0 (by omega)]; rfl
  have b1 : bt v ((0 + 1 : Nat) : Int) = 63 := by rw [hb (0 + 1) (by omega)]; rfl
  have hcp := cut_prefix v 0 (by omega) (by omega)
  rw [if_pos ⟨by omega, b0, b1⟩, suf_zero] at hcp
  have f0 : fst 63 ((bytesOf v).drop 2) = some 5 := by
    rw [hL]
    exact fst_app [117, 116, 102, 45, 56] (66 :: 63 :: (Q ++ [63, 61])) (by decide)
  have f1 : fst 63 ((bytesOf v).drop 8) = some 1 := by
    rw [hL]
    exact fst_app [66] (Q ++ [63, 61]) (by decide)
  have d10 : (bytesOf v).drop 10 = Q ++ 63 :: [61] := by
    rw [hL]
    show Q ++ [63, 61] = _
    rfl
  have f2 : fst 63 ((bytesOf v).drop 10) = some Q.length := by
    rw [d10]
    exact fst_app Q [61] (fun x hx => (hqp x hx).2.2)
  have hsp := splitN_eq v (by omega) (0 + 2)
  rw [split_hit v (0 + 2) 2 5 f0, split_hit v (2 + 5 + 1) 1 1 f1, split_hit v (8 + 1 + 1) 0 Q.length f2] at hsp
  have e1 : v.extract (0 + 2) (0 + 2 + 5) = (⟨#[117, 116, 102, 45, 56]⟩ : ByteArray) := by
    apply inj
    rw [bytesOf_extract, List.drop_take, hL]
    rfl
  have e2 : v.extract (2 + 5 + 1) (2 + 5 + 1 + 1) = (⟨#[66]⟩ : ByteArray) := by
    apply inj
    rw [bytesOf_extract, List.drop_take, hL]
    rfl
  have e3 : v.extract (8 + 1 + 1) (8 + 1 + 1 + Q.length) = strOfNums Q := by
    apply inj
    rw [bytesOf_extract, List.drop_take, d10, bytesOf_strOfNums Q hQr, show 8 + 1 + 1 + Q.length - (8 + 1 + 1) = Q.length by omega]
    simp
  rw [e1, e2, e3, show Lib.splitB (⟨#[63]⟩ : ByteArray) 0 0 (suf v (8 + 1 + 1 + Q.length + 1)) = [suf v (8 + 1 + 1 + Q.length + 1)] from rfl] at hsp
  generalize hj : 8 + 1 + 1 + Q.length + 1 = j at hsp
  have hhas := has_eq v j (by omega)
  have bj : bt v (j : Int) = 61 := by
    rw [hb j (by omega), ← hj, List.getD_eq_getElem?_getD, List.getElem?_append_right (by simp; omega)]
    have h_ : ∀ n : Nat, n = 1 → (([63, 61] : List Int)[n]?).getD 0 = 61 := by rintro _ rfl; rfl
    exact h_ _ (by simp; omega)
  rw [decide_eq_true ⟨by omega, bj⟩] at hhas
  obtain ⟨cv, cc, _, cs2, _⟩ := charset_all (⟨#[117, 116, 102, 45, 56]⟩ : ByteArray) (by decide)
  have hcs : (cc, cv) = (0, 4) := by
    have h1 := cs2 6 (by decide)
    have h2 : impl_CharsetOf.f (6 + 7) (⟨#[117, 116, 102, 45, 56]⟩ : ByteArray) = some (0, 4) := by decide +kernel
    rw [h1] at h2
    exact Option.some.inj h2
  have U2 : ∀ k, 1007 ≤ k → impl_CharsetOf.f k (⟨#[117, 116, 102, 45, 56]⟩ : ByteArray) = some (0, 4) := fun k hk => by
    obtain ⟨k, rfl⟩ : ∃ q, k = q + 7 := ⟨k - 7, by omega⟩
    rw [cs2 k (by show 5 < k; omega), hcs]
  have hn : wrap64 (wrap64 ((v.size : Int) - ((suf v j).size : Int)) + 1) = (v.size : Int) := by
    rw [suf_size]
    have e : wrap64 ((v.size : Int) - ((v.size - j : Nat) : Int)) = (j : Int) := by rw [wrap64_in (by omega)]; omega
    rw [e, wrap64_in (by omega)]
    omega
  have told : ∀ k, 9000000 < k → impl_toldWord.f (k + 2) v = some (codes, (v.size : Int)) := by
    intro k hk
    unfold impl_toldWord.f
    rw [hcp, Option.bind_some]
    show (if true = true then ((strings_SplitN.f (suf v (0 + 2)) (⟨#[63]⟩ : ByteArray) 4).bind _) else _) = _
    rw [if_pos rfl, hsp, Option.bind_some, if_pos (by rfl), if_pos (by simp)]
    show ((strings_HasPrefix.f (suf v j) (⟨#[61]⟩ : ByteArray)).bind _) = _
    rw [hhas, Option.bind_some, Bool.not_true, impl_toldWord.j0, if_neg (by decide), if_pos (by simp)]
    show ((impl_CharsetOf.f (k + 1) (⟨#[117, 116, 102, 45, 56]⟩ : ByteArray)).bind _) = _
    rw [U2 (k + 1) (by omega), Option.bind_some]
    show (if (0 : Int) = 0 then _ else _) = _
    rw [if_pos rfl, Option.bind_some, if_pos (by simp)]
    have hK : (⟨#[66]⟩ : ByteArray).toList = ([66] : List UInt8) := by rw [Go.ByteArray.toList_eq]
    show (if (⟨#[66]⟩ : ByteArray).toList = ([66] : List UInt8) then impl_toldWord.j1 (k + 1) v _ [] (⟨#[66]⟩ : ByteArray) ((⟨#[66]⟩ : ByteArray).toList == ([66] : List UInt8)) 0 4 else _) = _
    rw [if_pos hK, hK, show (([66] : List UInt8) == [66]) = true from rfl, impl_toldWord.j1, if_pos rfl, if_pos (by simp)]
    show ((impl_DecodeBase.f k (strOfNums Q)).bind fun bt385 => ((impl_DecodeText.f k 4 bt385.2).bind fun bt390 => (if bt385.1 = 0 then (if bt390.1 = 0 then (if 3 < (([(⟨#[117, 116, 102, 45, 56]⟩ : ByteArray), (⟨#[66]⟩ : ByteArray), strOfNums Q, suf v j] : List ByteArray).length : Int) then (some (bt390.2, wrap64 ((wrap64 ((v.size : Int) - ((suf v j).size : Int))) + 1))) else (none)) else (some (([] : List Int), 0))) else (some (([] : List Int), 0))))) = _
    rw [hdb k (by omega), Option.bind_some, hdt k (by omega), Option.bind_some, hn]
    rfl
  have hw0 : ∀ k, 9001000 < k → impl_decodeWords.l0 (k + 3) v [] = some codes := by
    intro k hk
    rw [impl_decodeWords.l0, if_neg (fun e => by have := (toList_nil _).1 e; omega), told k (by omega), Option.bind_some]
    show (if (v.size : Int) > 0 then (if 0 + codes.length < 17592186044416 then (if 0 ≤ (v.size : Int) then (if (v.size : Int) ≤ (v.size : Int) then ((strings_TrimLeft.f (v.extract (v.size : Int).toNat v.size) (⟨#[32, 9]⟩ : ByteArray)).bind fun t422 => (if t422.toList = (v.extract (v.size : Int).toNat v.size).toList then (impl_decodeWords.l0 (k + 2) (v.extract (v.size : Int).toNat v.size) ([] ++ codes)) else ((impl_toldWord.f (k + 2) t422).bind fun bt423 => (if bt423.2 > 0 then (impl_decodeWords.l0 (k + 2) t422 ([] ++ codes)) else (impl_decodeWords.l0 (k + 2) (v.extract (v.size : Int).toNat v.size) ([] ++ codes)))))) else none) else none) else none) else _) = _
    have ht := wtrim_eq v (by omega) v.size
    have hg := gapN_le v v.size
    rw [show gapN v v.size = 0 by omega] at ht
    rw [if_pos (by omega), if_pos (by omega), if_pos (by omega), if_pos (by omega), Int.toNat_natCast, show v.extract v.size v.size = suf v v.size from rfl, ht, Option.bind_some, if_pos (by rfl), impl_decodeWords.l0, if_pos ((toList_nil _).2 (by rw [suf_size]; omega)), List.nil_append]
  have h' : impl_decodeWords.f k v = some codes := by
    obtain ⟨k, rfl⟩ : ∃ q, k = q + 3 := ⟨k - 3, by omega⟩
    exact hw0 k (by omega)
  unfold impl_DecodeWords.f
  rw [if_neg (by omega), h', Option.bind_some, if_neg (by omega)]
theorem wrap_plain (F : List Int) (hFB : ∀ x ∈ F, 0 ≤ x ∧ x ≤ 255) : ∀ x ∈ bytesOf (wrapW F), 1 ≤ x ∧ x ≤ 127 := by
  intro x hx
  have hqp := q_plain _ F (Nat.le_refl _) hFB
  have hQr : ∀ x ∈ impl_baseText.q F, 0 ≤ x ∧ x ≤ 255 := fun x hx => by have := hqp x hx; omega
  unfold wrapW bytesOf at hx
  rw [ByteArray.data_append, ByteArray.data_append, Array.toList_append, Array.toList_append, List.map_append, List.map_append, show (strOfNums (impl_baseText.q F)).data.toList.map (fun b => (b.toNat : Int)) = impl_baseText.q F from bytesOf_strOfNums _ hQr] at hx
  rcases List.mem_append.1 hx with h | h
  · rcases List.mem_append.1 h with g | g
    · exact (by decide : ∀ x ∈ ([61, 63, 117, 116, 102, 45, 56, 63, 66, 63] : List Int), 1 ≤ x ∧ x ≤ 127) x g
    · have := hqp x g; omega
  · exact (by decide : ∀ x ∈ ([63, 61] : List Int), 1 ≤ x ∧ x ≤ 127) x h
theorem isPlain_yes (L : List Int) (h : ∀ x ∈ L, 1 ≤ x ∧ x ≤ 127) : impl_IsPlain.f L = some true := by
  unfold impl_IsPlain.f
  have : L.any impl_IsPlain.p = false := by
    rw [List.any_eq_false]
    intro x hx
    have := h x hx
    unfold impl_IsPlain.p
    rw [decide_eq_false (by omega), decide_eq_false (by omega)]
    decide
  rw [this]
  rfl
theorem ewo_zero (codes : List Int) (h : (ewo codes).1 = 0) (k : Nat) (hk : 9003000 < k) : impl_DecodeWords.f k (ewo codes).2 = some (0, codes) ∧ (∀ x ∈ bytesOf (ewo codes).2, 1 ≤ x ∧ x ≤ 127) ∧ (ewo codes).2.size ≤ 400 := by
  unfold ewo at h ⊢
  by_cases hf : fault codes = 0
  · obtain ⟨hl, hch⟩ := fault_zero hf
    rw [if_pos hf] at h ⊢
    unfold outW at h ⊢
    by_cases b : (codes.all plW && !(has2 (codes.flatMap (encB 4)))) = true
    · rw [if_pos b]
      rw [Bool.and_eq_true] at b
      have e := flat_plain codes b.1
      have hr : ∀ x ∈ codes, 32 ≤ x ∧ x ≤ 126 := fun x hx => of_decide_eq_true (List.all_eq_true.1 b.1 x hx)
      simp only [e] at b ⊢
      refine ⟨plain_back codes b.1 (by simpa using b.2) hl k hk, fun x hx => ?_, by rw [strOfNums_size]; exact hl⟩
      rw [bytesOf_strOfNums codes (fun x hx => by have := hr x hx; omega)] at hx
      have := hr x hx
      omega
    · rw [if_neg b] at h ⊢
      by_cases c : ((strOfNums (codes.flatMap (encB 4))).size : Int) > 400
      · rw [if_pos c] at h; exact absurd h (by decide)
      · rw [if_neg c] at h ⊢
        by_cases d : ((wrapW (codes.flatMap (encB 4))).size : Int) > 400
        · rw [if_pos d] at h; exact absurd h (by decide)
        · rw [if_neg d]
          rw [strOfNums_size] at c
          exact ⟨word_back codes hch hl (by omega) (by omega) k hk, wrap_plain _ (flat_bytes 4 codes), by show (wrapW (codes.flatMap (encB 4))).size ≤ 400; omega⟩
  · rw [if_neg hf] at h; exact absurd h hf
theorem words_j0 (l : List Int) (hB : ∀ x ∈ l, 0 ≤ x ∧ x ≤ 255) (hl : l.length ≤ 1048576) (k : Nat) (hk : 9003000 < k) : laws_FnWords.j0 (k + 1) l false = some true := by
  obtain ⟨codes, c1, c2⟩ := draw_codes l hB hl k (by omega)
  rw [laws_FnWords.j0, if_neg (by decide), c1, Option.bind_some, impl_EncodeWords_eq codes k (by omega) (by omega), Option.bind_some]
  have hs := spec_EncodeWords_eq codes k (by omega) (by omega)
  by_cases h0 : (ewo codes).1 = 0
  · obtain ⟨g1, g2, g3⟩ := ewo_zero codes h0 k hk
    rw [if_pos h0, g1, Option.bind_some, if_pos rfl, laws_lwNums_eq codes codes k (by omega) (by omega), decide_eq_true rfl, Option.bind_some, if_pos rfl, hs]
    by_cases he : (ewo codes).2.toList = []
    · rw [if_pos he, Option.bind_some, beq_self_eq_true]
    · rw [if_neg he, if_pos (by omega), isPlain_yes _ g2, Option.bind_some, if_pos rfl, Option.bind_some, beq_self_eq_true]
  · rw [if_neg h0, hs, Option.bind_some, beq_self_eq_true]
theorem FnWords : laws_FnWords.Pure := by
  intro l hb _ hw
  have hB := byte_wf hw
  refine ⟨9005000 + 1, ?_⟩
  unfold laws_FnWords.f laws_lwBig.f
  rw [Option.bind_some]
  by_cases hl : (l.length : Int) > 1048576
  · rw [decide_eq_true hl, if_pos rfl]
  · rw [decide_eq_false hl, if_neg (by decide)]
    obtain ⟨v, d1⟩ := draw_words l hB (by omega) (9005000 + 1) (by omega)
    obtain ⟨r, r1, r2, r3⟩ := DecodeWords_all v
    have hj := words_j0 l hB (by omega) 9005000 (by omega)
    rw [d1, Option.bind_some, r3 (9005000 + 1) (by omega), Option.bind_some, r2 (9005000 + 1) (by omega), Option.bind_some, if_pos rfl, Option.bind_some, laws_lwNums_eq r.2 r.2 (9005000 + 1) (by omega) (by omega), decide_eq_true rfl, Option.bind_some, if_pos rfl]
    by_cases h0 : r.1 = 0
    · have hf := fault_of r.2 r1.1 r1.2
      have hcf : impl_CodesFault.f r.2 = some 0 := by
        rw [impl_CodesFault_eq]
        exact congrArg some hf
      rw [if_pos h0, hcf, Option.bind_some]
      exact hj
    · rw [if_neg h0]
      exact hj
end Go.Proofs.YtjopgmjmjnfcjaaGreatDoor.Pure
