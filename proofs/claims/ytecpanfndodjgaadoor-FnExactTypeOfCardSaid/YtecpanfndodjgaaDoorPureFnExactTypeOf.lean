/- The plain law: what the walk computes answers as the statement says. -/
import Derived.Test.YtecpanfndodjgaaDoorPTypeOfx2
namespace Go.Proofs.YtecpanfndodjgaaDoor.Pure
open Go.RowKit Go.Proofs.YtecpanfndodjgaaDoor.PTypeOf Go.Proofs.YtecpanfndodjgaaDoorW.PrintWords Go.Proofs.YtecpanfndodjgaaDoorW.PrintLast
set_option linter.unusedSimpArgs false
set_option linter.unusedVariables false
theorem rd_at (l : List Int) (i : Nat) (h : i < l.length) : rd l (i : Int) = l[i] := by
  simp [rd, List.getD_eq_getElem?_getD, h]
theorem wrap64_in {n : Int} (h : -9223372036854775808 ≤ n ∧ n ≤ 9223372036854775807) : wrap64 n = n := by
  unfold wrap64; omega
theorem maxLen_le : maxLen ≤ 9223372036854775807 := by unfold maxLen; decide
def low (b : Int) : Int := if 65 ≤ b ∧ b ≤ 90 then (b + 32) % 256 else b
theorem low_step (L : List Int) (i : Nat) (h : i < L.length) : ((L.take i).map low ++ L.drop i).set i (low L[i]) = (L.take (i + 1)).map low ++ L.drop (i + 1) := by
  rw [List.set_append_right _ _ (by simp; omega)]
  have h5 : i - ((L.take i).map low).length = 0 := by simp; omega
  rw [h5, List.drop_eq_getElem_cons h, List.set_cons_zero, List.take_succ_eq_append_getElem h, List.map_append, List.append_assoc]
  rfl
theorem low_rd (L : List Int) (i : Nat) (h : i < L.length) : rd ((L.take i).map low ++ L.drop i) (i : Int) = L[i] := by
  rw [rd_at _ i (by simp; omega), List.getElem_append_right (by simp; omega)]
  simp only [List.getElem_drop]
  congr 1
  simp; omega
theorem low_same (L : List Int) (i : Nat) (h : i < L.length) (hl : low L[i] = L[i]) : (L.take i).map low ++ L.drop i = (L.take (i + 1)).map low ++ L.drop (i + 1) := by
  rw [← low_step L i h, hl, List.set_append_right _ _ (by simp; omega)]
  have h5 : i - ((L.take i).map low).length = 0 := by simp; omega
  rw [h5, List.drop_eq_getElem_cons h, List.set_cons_zero]
theorem low_len (L : List Int) (i : Nat) : ((L.take i).map low ++ L.drop i).length = L.length := by simp; omega
theorem spec_l2Lower.l0_eq (L : List Int) (hb : L.length ≤ maxLen) : ∀ (n k i : Nat), L.length = i + n → n < k → spec_l2Lower.l0 k ((L.take i).map low ++ L.drop i) (i : Int) = some (strOfNums (L.map low))
  | 0, 0, _, _, h => absurd h (by omega)
  | 0, k + 1, i, hi, _ => by
    have h1 : ¬ ((i : Int) < (((L.take i).map low ++ L.drop i).length : Int)) := by rw [low_len]; omega
    unfold spec_l2Lower.l0
    rw [if_neg h1, List.drop_eq_nil_of_le (by omega), List.take_of_length_le (by omega), List.append_nil]
  | n + 1, 0, _, _, h => absurd h (by omega)
  | n + 1, k + 1, i, hi, h => by
    have hm := maxLen_le
    have h1 : (i : Int) < (((L.take i).map low ++ L.drop i).length : Int) := by rw [low_len]; omega
    have h2 : (0 : Int) ≤ (i : Int) := by omega
    have h4 : wrap64 ((i : Int) + 1) = ((i + 1 : Nat) : Int) := by rw [wrap64_in (by omega)]; omega
    have hlt : i < L.length := by omega
    have ih := spec_l2Lower.l0_eq L hb n k (i + 1) (by omega) (by omega)
    have hs := low_step L i hlt
    have hq := low_same L i hlt
    unfold spec_l2Lower.l0
    rw [if_pos h1, if_pos h2, low_rd L i hlt, h4, Int.toNat_natCast]
    generalize L[i] = y at hs hq
    by_cases h5 : y ≥ 65
    · rw [if_pos h5]
      by_cases h6 : y ≤ 90
      · rw [if_pos h6]
        have h7 : low y = (y + 32) % 256 := by unfold low; rw [if_pos ⟨h5, h6⟩]
        rw [← h7, hs, ih]
      · rw [if_neg h6, hq (by unfold low; rw [if_neg (by omega)]), ih]
    · rw [if_neg h5, hq (by unfold low; rw [if_neg (by omega)]), ih]
theorem bytesOf_len (a : ByteArray) : (bytesOf a).length = a.size := by simp [bytesOf]
theorem spec_l2Lower_eq (a : ByteArray) (k : Nat) (hb : a.size ≤ 1048576) (hk : a.size < k) : spec_l2Lower.f k a = some (strOfNums ((bytesOf a).map low)) := by
  have hl := bytesOf_len a
  unfold spec_l2Lower.f
  rw [if_pos (by omega)]
  have := spec_l2Lower.l0_eq (bytesOf a) (by unfold maxLen; omega) a.size k 0 (by omega) hk
  simpa using this
theorem impl_small.l0_eq (L : List Int) (hb : L.length ≤ maxLen) : ∀ (n k i : Nat), L.length = i + n → n < k → impl_small.l0 k ((L.take i).map low ++ L.drop i) (L.length : Int) (i : Int) = some (strOfNums (L.map low))
  | 0, 0, _, _, h => absurd h (by omega)
  | 0, k + 1, i, hi, _ => by
    have h1 : ¬ ((i : Int) < (L.length : Int)) := by omega
    unfold impl_small.l0
    rw [if_neg h1, List.drop_eq_nil_of_le (by omega), List.take_of_length_le (by omega), List.append_nil]
  | n + 1, 0, _, _, h => absurd h (by omega)
  | n + 1, k + 1, i, hi, h => by
    have hm := maxLen_le
    have h0 : (i : Int) < (L.length : Int) := by omega
    have h1 : (i : Int) < (((L.take i).map low ++ L.drop i).length : Int) := by rw [low_len]; omega
    have h2 : (0 : Int) ≤ (i : Int) := by omega
    have h4 : wrap64 ((i : Int) + 1) = ((i + 1 : Nat) : Int) := by rw [wrap64_in (by omega)]; omega
    have hlt : i < L.length := by omega
    have ih := impl_small.l0_eq L hb n k (i + 1) (by omega) (by omega)
    have hs := low_step L i hlt
    have hq := low_same L i hlt
    unfold impl_small.l0
    rw [if_pos h0, if_pos h2, if_pos h1, low_rd L i hlt, h4, Int.toNat_natCast]
    generalize L[i] = y at hs hq
    by_cases h5 : y ≥ 65
    · rw [if_pos h5]
      by_cases h6 : y ≤ 90
      · rw [if_pos h6]
        have h7 : low y = (y + 32) % 256 := by unfold low; rw [if_pos ⟨h5, h6⟩]
        rw [← h7, hs, ih]
      · rw [if_neg h6, hq (by unfold low; rw [if_neg (by omega)]), ih]
    · rw [if_neg h5, hq (by unfold low; rw [if_neg (by omega)]), ih]
theorem bytesOf_len1 (a : ByteArray) : (bytesOf a).length = a.size := by simp [bytesOf]
theorem impl_small_eq (a : ByteArray) (k : Nat) (hb : a.size ≤ 1048576) (hk : a.size < k) : impl_small.f k a = some (strOfNums ((bytesOf a).map low)) := by
  have hl := bytesOf_len1 a
  unfold impl_small.f
  rw [if_pos (by omega), Option.bind_some]
  have := impl_small.l0_eq (bytesOf a) (by unfold maxLen; omega) a.size k 0 (by omega) hk
  simpa using this
theorem ite_eq_comm {α : Type} [DecidableEq α] {β : Type} (a b : α) (x y : β) : (if a = b then x else y) = if b = a then x else y := by
  by_cases h : a = b
  · rw [if_pos h, if_pos h.symm]
  · rw [if_neg h, if_neg (fun e => h e.symm)]
theorem charset_both (a : ByteArray) (hl : ¬ (a.size : Int) > 1048576) (k0 : Nat) (hk0 : a.size < k0) : ∃ v c, spec_l2Of.f (k0 + 7) a = some v ∧ impl_CharsetOf.f (k0 + 7) a = some (c, v) := by
  have e1 : ∀ j, 1 ≤ j → spec_l2Lower.f (k0 + j) a = _ := fun j hj => spec_l2Lower_eq a (k0 + j) (by omega) (by omega)
  have e2 : impl_small.f (k0 + 7) a = _ := impl_small_eq a (k0 + 7) (by omega) (by omega)
  have w1 : wrap64 (1 + 1) = 2 := by decide +kernel
  have w2 : wrap64 (2 + 1) = 3 := by decide +kernel
  have w3 : wrap64 (3 + 1) = 4 := by decide +kernel
  have w4 : wrap64 (4 + 1) = 5 := by decide +kernel
  have w5 : wrap64 (5 + 1) = 6 := by decide +kernel
  have w0 : wrap64 (0 + 1) = 1 := by decide +kernel
  generalize strOfNums ((bytesOf a).map low) = s at e1 e2
  have n1 : spec_l2Name.f 1 = some ⟨#[117, 115, 45, 97, 115, 99, 105, 105]⟩ := by rfl
  have n2 : spec_l2Name.f 2 = some ⟨#[105, 115, 111, 45, 56, 56, 53, 57, 45, 49]⟩ := by rfl
  have n3 : spec_l2Name.f 3 = some ⟨#[105, 115, 111, 45, 56, 56, 53, 57, 45, 53]⟩ := by rfl
  have n4 : spec_l2Name.f 4 = some ⟨#[117, 116, 102, 45, 56]⟩ := by rfl
  have n5 : spec_l2Name.f 5 = some ⟨#[117, 116, 102, 45, 49, 54]⟩ := by rfl
  have hs : spec_l2Of.f (k0 + 7) a = some (if (⟨#[117, 115, 45, 97, 115, 99, 105, 105]⟩ : ByteArray).toList = s.toList then 1 else if (⟨#[105, 115, 111, 45, 56, 56, 53, 57, 45, 49]⟩ : ByteArray).toList = s.toList then 2 else if (⟨#[105, 115, 111, 45, 56, 56, 53, 57, 45, 53]⟩ : ByteArray).toList = s.toList then 3 else if (⟨#[117, 116, 102, 45, 56]⟩ : ByteArray).toList = s.toList then 4 else if (⟨#[117, 116, 102, 45, 49, 54]⟩ : ByteArray).toList = s.toList then 5 else 0) := by
    unfold spec_l2Of.f
    unfold spec_l2Of.l0
    rw [if_pos (by decide), n1, Option.bind_some, e1 6 (by omega), Option.bind_some]
    split
    · rfl
    rw [w1]; unfold spec_l2Of.l0
    rw [if_pos (by decide), n2, Option.bind_some, e1 5 (by omega), Option.bind_some]
    split
    · rfl
    rw [w2]; unfold spec_l2Of.l0
    rw [if_pos (by decide), n3, Option.bind_some, e1 4 (by omega), Option.bind_some]
    split
    · rfl
    rw [w3]; unfold spec_l2Of.l0
    rw [if_pos (by decide), n4, Option.bind_some, e1 3 (by omega), Option.bind_some]
    split
    · rfl
    rw [w4]; unfold spec_l2Of.l0
    rw [if_pos (by decide), n5, Option.bind_some, e1 2 (by omega), Option.bind_some]
    split
    · rfl
    rw [w5]; unfold spec_l2Of.l0
    rw [if_neg (by decide)]
  have hx : slices_Index_string_string.f (k0 + 7) [(⟨#[117, 115, 45, 97, 115, 99, 105, 105]⟩ : ByteArray), (⟨#[105, 115, 111, 45, 56, 56, 53, 57, 45, 49]⟩ : ByteArray), (⟨#[105, 115, 111, 45, 56, 56, 53, 57, 45, 53]⟩ : ByteArray), (⟨#[117, 116, 102, 45, 56]⟩ : ByteArray), (⟨#[117, 116, 102, 45, 49, 54]⟩ : ByteArray)] s = some (if (⟨#[117, 115, 45, 97, 115, 99, 105, 105]⟩ : ByteArray).toList = s.toList then 0 else if (⟨#[105, 115, 111, 45, 56, 56, 53, 57, 45, 49]⟩ : ByteArray).toList = s.toList then 1 else if (⟨#[105, 115, 111, 45, 56, 56, 53, 57, 45, 53]⟩ : ByteArray).toList = s.toList then 2 else if (⟨#[117, 116, 102, 45, 56]⟩ : ByteArray).toList = s.toList then 3 else if (⟨#[117, 116, 102, 45, 49, 54]⟩ : ByteArray).toList = s.toList then 4  else -1) := by
    unfold slices_Index_string_string.f
    rw [show (([(⟨#[117, 115, 45, 97, 115, 99, 105, 105]⟩ : ByteArray), (⟨#[105, 115, 111, 45, 56, 56, 53, 57, 45, 49]⟩ : ByteArray), (⟨#[105, 115, 111, 45, 56, 56, 53, 57, 45, 53]⟩ : ByteArray), (⟨#[117, 116, 102, 45, 56]⟩ : ByteArray), (⟨#[117, 116, 102, 45, 49, 54]⟩ : ByteArray)].length : Nat) : Int) = 5 from rfl]
    unfold slices_Index_string_string.l0
    rw [if_pos (by decide), if_pos (by decide), if_pos (by decide), show rdOf ByteArray.empty [(⟨#[117, 115, 45, 97, 115, 99, 105, 105]⟩ : ByteArray), (⟨#[105, 115, 111, 45, 56, 56, 53, 57, 45, 49]⟩ : ByteArray), (⟨#[105, 115, 111, 45, 56, 56, 53, 57, 45, 53]⟩ : ByteArray), (⟨#[117, 116, 102, 45, 56]⟩ : ByteArray), (⟨#[117, 116, 102, 45, 49, 54]⟩ : ByteArray)] 0 = (⟨#[117, 115, 45, 97, 115, 99, 105, 105]⟩ : ByteArray) from rfl, ite_eq_comm s.toList]
    split
    · rfl
    rw [w0]
    unfold slices_Index_string_string.l0
    rw [if_pos (by decide), if_pos (by decide), if_pos (by decide), show rdOf ByteArray.empty [(⟨#[117, 115, 45, 97, 115, 99, 105, 105]⟩ : ByteArray), (⟨#[105, 115, 111, 45, 56, 56, 53, 57, 45, 49]⟩ : ByteArray), (⟨#[105, 115, 111, 45, 56, 56, 53, 57, 45, 53]⟩ : ByteArray), (⟨#[117, 116, 102, 45, 56]⟩ : ByteArray), (⟨#[117, 116, 102, 45, 49, 54]⟩ : ByteArray)] 1 = (⟨#[105, 115, 111, 45, 56, 56, 53, 57, 45, 49]⟩ : ByteArray) from rfl, ite_eq_comm s.toList]
    split
    · rfl
    rw [w1]
    unfold slices_Index_string_string.l0
    rw [if_pos (by decide), if_pos (by decide), if_pos (by decide), show rdOf ByteArray.empty [(⟨#[117, 115, 45, 97, 115, 99, 105, 105]⟩ : ByteArray), (⟨#[105, 115, 111, 45, 56, 56, 53, 57, 45, 49]⟩ : ByteArray), (⟨#[105, 115, 111, 45, 56, 56, 53, 57, 45, 53]⟩ : ByteArray), (⟨#[117, 116, 102, 45, 56]⟩ : ByteArray), (⟨#[117, 116, 102, 45, 49, 54]⟩ : ByteArray)] 2 = (⟨#[105, 115, 111, 45, 56, 56, 53, 57, 45, 53]⟩ : ByteArray) from rfl, ite_eq_comm s.toList]
    split
    · rfl
    rw [w2]
    unfold slices_Index_string_string.l0
    rw [if_pos (by decide), if_pos (by decide), if_pos (by decide), show rdOf ByteArray.empty [(⟨#[117, 115, 45, 97, 115, 99, 105, 105]⟩ : ByteArray), (⟨#[105, 115, 111, 45, 56, 56, 53, 57, 45, 49]⟩ : ByteArray), (⟨#[105, 115, 111, 45, 56, 56, 53, 57, 45, 53]⟩ : ByteArray), (⟨#[117, 116, 102, 45, 56]⟩ : ByteArray), (⟨#[117, 116, 102, 45, 49, 54]⟩ : ByteArray)] 3 = (⟨#[117, 116, 102, 45, 56]⟩ : ByteArray) from rfl, ite_eq_comm s.toList]
    split
    · rfl
    rw [w3]
    unfold slices_Index_string_string.l0
    rw [if_pos (by decide), if_pos (by decide), if_pos (by decide), show rdOf ByteArray.empty [(⟨#[117, 115, 45, 97, 115, 99, 105, 105]⟩ : ByteArray), (⟨#[105, 115, 111, 45, 56, 56, 53, 57, 45, 49]⟩ : ByteArray), (⟨#[105, 115, 111, 45, 56, 56, 53, 57, 45, 53]⟩ : ByteArray), (⟨#[117, 116, 102, 45, 56]⟩ : ByteArray), (⟨#[117, 116, 102, 45, 49, 54]⟩ : ByteArray)] 4 = (⟨#[117, 116, 102, 45, 49, 54]⟩ : ByteArray) from rfl, ite_eq_comm s.toList]
    split
    · rfl
    rw [w4]
    unfold slices_Index_string_string.l0
    rw [if_neg (by decide)]
  simp only [impl_CharsetOf.f, impl_charsets.f, hs, hx, e2, Option.bind_some]
  split
  · exact ⟨_, _, rfl, by simp +decide [show wrap64 1 = 1 from by decide +kernel]; rfl⟩
  split
  · exact ⟨_, _, rfl, by simp +decide [show wrap64 2 = 2 from by decide +kernel]; rfl⟩
  split
  · exact ⟨_, _, rfl, by simp +decide [show wrap64 3 = 3 from by decide +kernel]; rfl⟩
  split
  · exact ⟨_, _, rfl, by simp +decide [show wrap64 4 = 4 from by decide +kernel]; rfl⟩
  split
  · exact ⟨_, _, rfl, by simp +decide [show wrap64 5 = 5 from by decide +kernel]; rfl⟩
  · exact ⟨_, _, rfl, by simp; rfl⟩
def cutB (s : ByteArray) : Nat → Nat → Nat → List (Nat × Nat) → List (Nat × Nat)
  | 0, pos, fr, acc => if fr < pos then acc ++ [(fr, pos)] else acc
  | f + 1, pos, fr, acc =>
    if pos < s.size then
      if (s.get! pos).toNat = 59 then cutB s f (pos + 1) (pos + 1) (if fr < pos then acc ++ [(fr, pos)] else acc) else cutB s f (pos + 1) fr acc
    else if fr < pos then acc ++ [(fr, pos)] else acc
theorem dec_low (s : ByteArray) (i : Nat) (h : (s.get! i).toNat < 128) : Utf8.decode s i = ((s.get! i).toNat, 1) := by
  unfold Utf8.decode
  simp only [Nat.add_zero]
  rw [if_pos (by omega)]
theorem dec_high (s : ByteArray) (i : Nat) (h : 128 ≤ (s.get! i).toNat) : 128 ≤ (Utf8.decode s i).1 ∧ 1 ≤ (Utf8.decode s i).2 ∧ (Utf8.decode s i).2 ≤ 4 ∧ ∀ k, 1 ≤ k → k < (Utf8.decode s i).2 → i + k < s.size ∧ 128 ≤ (s.get! (i + k)).toNat := by
  unfold Utf8.decode
  simp only [Nat.add_zero]
  rw [if_neg (by omega)]
  have hc : ∀ k, (decide (i + k < s.size) && (s.get! (i + k)).toNat / 64 == 2) = true → i + k < s.size ∧ 128 ≤ (s.get! (i + k)).toNat := by
    intro k hk
    simp only [Bool.and_eq_true, decide_eq_true_eq, beq_iff_eq] at hk
    exact ⟨hk.1, by omega⟩
  have h1 : ∀ x : Nat, 128 ≤ x → 128 ≤ (x, 1).1 ∧ 1 ≤ (x, 1).2 ∧ (x, 1).2 ≤ 4 ∧ ∀ k, 1 ≤ k → k < (x, 1).2 → i + k < s.size ∧ 128 ≤ (s.get! (i + k)).toNat := fun x hx => ⟨hx, Nat.le_refl _, by simp, fun k a b => by simp at b; omega⟩
  split
  · rename_i hb
    simp only [Bool.and_eq_true] at hb
    split
    · refine ⟨by assumption, by simp, by simp, fun k a b => ?_⟩
      have : k = 1 := by simp at b; omega
      subst this
      exact hc 1 (by simpa using hb.2)
    · exact h1 _ (by decide)
  · split
    · rename_i hb
      simp only [Bool.and_eq_true] at hb
      split
      · rename_i hv
        simp only [ge_iff_le, Bool.and_eq_true, decide_eq_true_eq] at hv
        refine ⟨by omega, by simp, by simp, fun k a b => ?_⟩
        have : k = 1 ∨ k = 2 := by simp at b; omega
        rcases this with rfl | rfl
        · exact hc 1 (by simpa using hb.1.2)
        · exact hc 2 (by simpa using hb.2)
      · exact h1 _ (by decide)
    · split
      · rename_i hb
        simp only [Bool.and_eq_true] at hb
        split
        · rename_i hv
          simp only [ge_iff_le, Bool.and_eq_true, decide_eq_true_eq] at hv
          refine ⟨by omega, by simp, by simp, fun k a b => ?_⟩
          have : k = 1 ∨ k = 2 ∨ k = 3 := by simp at b; omega
          rcases this with rfl | rfl | rfl
          · exact hc 1 (by simpa using hb.1.1.2)
          · exact hc 2 (by simpa using hb.1.2)
          · exact hc 3 (by simpa using hb.2)
        · exact h1 _ (by decide)
      · exact h1 _ (by decide)
theorem cutB_end (s : ByteArray) (f pos fr : Nat) (acc : List (Nat × Nat)) (h : ¬ pos < s.size) : cutB s f pos fr acc = if fr < pos then acc ++ [(fr, pos)] else acc := by
  cases f with
  | zero => rfl
  | succ f => rw [cutB, if_neg h]
theorem cutB_skip (s : ByteArray) : ∀ (w f pos fr : Nat) (acc : List (Nat × Nat)), (∀ k, k < w → pos + k < s.size ∧ (s.get! (pos + k)).toNat ≠ 59) → cutB s (f + w) pos fr acc = cutB s f (pos + w) fr acc
  | 0, _, _, _, _, _ => rfl
  | w + 1, f, pos, fr, acc, h => by
    have h0 := h 0 (by omega)
    simp only [Nat.add_zero] at h0
    rw [show f + (w + 1) = (f + w) + 1 from rfl, cutB, if_pos h0.1, if_neg h0.2, cutB_skip s w f (pos + 1) fr acc (fun k hk => by
      have := h (k + 1) (by omega)
      rwa [show pos + 1 + k = pos + (k + 1) by omega]), show pos + 1 + w = pos + (w + 1) by omega]
theorem spans_cut (s : ByteArray) : ∀ (f g pos fr : Nat) (st : Option Nat) (acc : List (Nat × Nat)), s.size ≤ pos + f → s.size ≤ pos + g → fr ≤ pos → pos ≤ s.size → st = (if fr < pos then some fr else none) →
    Lib.closeSpans s (Lib.spansFromP (fun n => n == 59) s f pos st acc) = cutB s g pos fr acc := by
  intro f
  induction f with
  | zero =>
    intro g pos fr st acc h1 h2 h3 h4 h5
    rw [Lib.spansFromP_end _ _ _ _ _ _ (by omega), cutB_end _ _ _ _ _ (by omega), h5]
    have : pos = s.size := by omega
    by_cases h : fr < pos
    · rw [if_pos h, if_pos h, this]; rfl
    · rw [if_neg h, if_neg h]; rfl
  | succ f ih =>
    intro g pos fr st acc h1 h2 h3 h4 h5
    by_cases hp : pos < s.size
    · unfold Lib.spansFromP
      rw [if_pos hp]
      obtain ⟨g, rfl⟩ : ∃ g', g = g' + 1 := ⟨g - 1, by omega⟩
      by_cases hs : (s.get! pos).toNat = 59
      · have hd := dec_low s pos (by omega)
        rw [hd, hs]
        simp only [beq_self_eq_true, if_true]
        rw [cutB, if_pos hp, if_pos hs]
        by_cases h : fr < pos
        · rw [h5, if_pos h, if_pos h]
          exact ih g (pos + 1) (pos + 1) none _ (by omega) (by omega) (Nat.le_refl _) (by omega) (by rw [if_neg (Nat.lt_irrefl _)])
        · rw [h5, if_neg h, if_neg h]
          exact ih g (pos + 1) (pos + 1) none _ (by omega) (by omega) (Nat.le_refl _) (by omega) (by rw [if_neg (Nat.lt_irrefl _)])
      · obtain ⟨r1, r2, r3⟩ : (Utf8.decode s pos).1 ≠ 59 ∧ 1 ≤ (Utf8.decode s pos).2 ∧ ∀ k, k < (Utf8.decode s pos).2 → pos + k < s.size ∧ (s.get! (pos + k)).toNat ≠ 59 := by
          by_cases hl : (s.get! pos).toNat < 128
          · rw [dec_low s pos hl]
            refine ⟨hs, Nat.le_refl _, fun k hk => ?_⟩
            have : k = 0 := by simp at hk; omega
            subst this
            exact ⟨hp, hs⟩
          · obtain ⟨q1, q2, q3, q4⟩ := dec_high s pos (by omega)
            refine ⟨by omega, q2, fun k hk => ?_⟩
            rcases Nat.eq_zero_or_pos k with rfl | hk0
            · exact ⟨hp, hs⟩
            · have := q4 k hk0 hk
              exact ⟨this.1, by omega⟩
        generalize Utf8.decode s pos = dd at r1 r2 r3
        obtain ⟨r, w⟩ := dd
        simp only at r1 r2 r3 ⊢
        rw [if_neg (by simpa using r1)]
        have hw := r3 (w - 1) (by omega)
        have key : Lib.closeSpans s (Lib.spansFromP (fun n => n == 59) s f (pos + w) (some fr) acc) = cutB s (g + 1) pos fr acc := by
          by_cases hgw : w ≤ g + 1
          · rw [show g + 1 = (g + 1 - w) + w by omega, cutB_skip s w _ _ _ _ r3]
            exact ih _ (pos + w) fr _ acc (by omega) (by omega) (by omega) (by omega) (by rw [if_pos (by omega)])
          · omega
        by_cases h : fr < pos
        · rw [if_pos h] at h5
          subst h5
          exact key
        · rw [if_neg h] at h5
          subst h5
          have e : pos = fr := by omega
          rw [← key, ← e]
    · rw [Lib.spansFromP_end _ _ _ _ _ _ hp, cutB_end _ _ _ _ _ hp, h5]
      have : pos = s.size := by omega
      by_cases h : fr < pos
      · rw [if_pos h, if_pos h, this]; rfl
      · rw [if_neg h, if_neg h]; rfl
theorem goFields_cut (s : ByteArray) : Lib.goFieldsP (fun n => n == 59) s = (cutB s s.size 0 0 []).map fun x => s.extract x.1 x.2 := by
  unfold Lib.goFieldsP Lib.spansOfP
  rw [spans_cut s s.size s.size 0 0 none [] (by omega) (by omega) (Nat.le_refl _) (Nat.zero_le _) rfl]
theorem bt_range (s : ByteArray) (i : Int) : 0 ≤ bt s i ∧ bt s i ≤ 255 := by
  unfold bt
  split
  · rename_i h
    have := UInt8.toNat_lt (s[i.toNat]'h)
    omega
  · omega
theorem strOfNums_size (l : List Int) : (strOfNums l).size = l.length := by
  show (strOfNums l).data.size = _
  simp [strOfNums]
theorem bytesOf_strOfNums (l : List Int) (h : ∀ x ∈ l, 0 ≤ x ∧ x ≤ 255) : bytesOf (strOfNums l) = l := by
  unfold bytesOf strOfNums
  simp only [List.map_map]
  conv => rhs; rw [← List.map_id l]
  apply List.map_congr_left
  intro x hx
  have := h x hx
  simp only [Function.comp, id]
  rw [UInt8.toNat_ofNat_of_lt' (by show x.toNat < 256; omega)]
  omega
theorem strOfNums_bytesOf (s : ByteArray) : strOfNums (bytesOf s) = s := by
  unfold bytesOf strOfNums
  rw [List.map_map]
  have h : (s.data.toList.map ((fun n : Int => UInt8.ofNat n.toNat) ∘ fun b : UInt8 => (b.toNat : Int))) = s.data.toList := by
    conv => rhs; rw [← List.map_id s.data.toList]
    apply List.map_congr_left
    intro x _
    simp
  rw [h]
theorem bytesOf_in (s : ByteArray) : ∀ x ∈ bytesOf s, 0 ≤ x ∧ x ≤ 255 := by
  intro x hx
  obtain ⟨b, _, rfl⟩ := List.mem_map.1 hx
  have := UInt8.toNat_lt b
  omega
theorem bt_strOfNums (l : List Int) (h : ∀ x ∈ l, 0 ≤ x ∧ x ≤ 255) (i : Nat) (hi : i < l.length) : bt (strOfNums l) (i : Int) = l[i] := by
  rw [← rd_bytesOf, bytesOf_strOfNums l h, rd_at l i hi]
theorem bytesOf_extract (s : ByteArray) (i j : Nat) : bytesOf (s.extract i j) = ((bytesOf s).take j).drop i := by
  unfold bytesOf
  rw [ByteArray.data_extract, Array.toList_extract]
  unfold List.extract
  rw [List.map_take, List.map_drop, List.drop_take]
def mkB (l : List UInt8) : ByteArray := ⟨l.toArray⟩
theorem mkB_data (x : ByteArray) : mkB x.data.toList = x := by unfold mkB; rw [Array.toArray_toList]
theorem mkB_size (l : List UInt8) : (mkB l).size = l.length := by show l.toArray.size = _; simp
theorem mkB_toList (l : List UInt8) : (mkB l).toList = l := by rw [Go.ByteArray.toList_eq]; simp [mkB]
theorem mkB_bt (l : List UInt8) (i : Nat) (h : i < l.length) : bt (mkB l) (i : Int) = (l[i].toNat : Int) := by
  have e : bytesOf (mkB l) = l.map fun b => (b.toNat : Int) := by simp [bytesOf, mkB]
  rw [← rd_bytesOf, e, rd_at _ i (by simpa using h)]
  simp
theorem mkB_ext {a b : ByteArray} (h : a.data.toList = b.data.toList) : a = b := by
  have := congrArg mkB h
  rwa [mkB_data, mkB_data] at this
theorem mkB_drop1 (l : List UInt8) : (mkB l).extract 1 (mkB l).size = mkB (l.drop 1) := by
  apply mkB_ext
  rw [ByteArray.data_extract, Array.toList_extract, mkB_size]
  simp [mkB, List.extract]
  exact List.take_of_length_le (by simp)
theorem mkB_take (l : List UInt8) (n : Nat) : (mkB l).extract 0 n = mkB (l.take n) := by
  apply mkB_ext
  rw [ByteArray.data_extract, Array.toList_extract]
  simp [mkB, List.extract]
def cs2 : List UInt8 := [32, 9]
theorem cs2_has (c : UInt8) : cs2.contains c = true ↔ (c.toNat : Int) = 32 ∨ (c.toNat : Int) = 9 := by
  have e : ∀ d : UInt8, c = d ↔ c.toNat = d.toNat := fun d => ⟨fun h => by rw [h], fun h => UInt8.toNat_inj.1 h⟩
  simp only [cs2, List.contains_cons, List.contains_nil, Bool.or_false, Bool.or_eq_true, beq_iff_eq]
  rw [e 32, e 9]
  show (c.toNat = 32 ∨ c.toNat = 9) ↔ _
  omega
theorem trimR_snoc (m : List UInt8) (c : UInt8) : Lib.trimRightS (m ++ [c]) cs2 = if cs2.contains c = true then Lib.trimRightS m cs2 else m ++ [c] := by
  unfold Lib.trimRightS
  rw [List.reverse_append, List.reverse_singleton, List.singleton_append, List.dropWhile_cons]
  split <;> simp
theorem spec_l5Trim.l1_eq : ∀ (n k : Nat) (l : List UInt8), l.length = n → n < k → n ≤ 1048576 → spec_l5Trim.l1 k (mkB l) = some (mkB (Lib.trimRightS l cs2))
  | _, 0, _, _, h, _ => absurd h (by omega)
  | 0, k + 1, l, hl, _, _ => by
    have : l = [] := List.eq_nil_of_length_eq_zero hl
    subst this
    rw [spec_l5Trim.l1, mkB_toList, if_pos rfl]
    rfl
  | n + 1, k + 1, l, hl, hk, hm => by
    have hne : l ≠ [] := by intro e; subst e; simp at hl
    obtain ⟨m, c, rfl⟩ : ∃ m c, l = m ++ [c] := ⟨l.dropLast, l.getLast hne, (List.dropLast_concat_getLast hne).symm⟩
    have hml : m.length = n := by simpa using hl
    have hsz : (mkB (m ++ [c])).size = n + 1 := by rw [mkB_size]; simp [hml]
    have hw : wrap64 (((n + 1 : Nat) : Int) - 1) = (n : Int) := by rw [wrap64_in (by omega)]; omega
    have hb : bt (mkB (m ++ [c])) (n : Int) = (c.toNat : Int) := by
      rw [mkB_bt _ n (by simp [hml])]
      congr 2
      rw [List.getElem_append_right (by omega)]
      simp [hml]
    have hx : (mkB (m ++ [c])).extract 0 ((n : Int)).toNat = mkB m := by
      rw [Int.toNat_natCast, mkB_take, ← hml]; simp
    have ih := spec_l5Trim.l1_eq n k m hml (by omega) (by omega)
    rw [spec_l5Trim.l1, mkB_toList, if_neg (by simp), hsz, hw, if_pos (by omega), if_pos (by omega), hb, if_pos (show (n : Int) ≤ ((n + 1 : Nat) : Int) by omega), hx, ih, trimR_snoc]
    by_cases c1 : (c.toNat : Int) = 32
    · rw [if_pos c1, if_pos ((cs2_has c).2 (.inl c1))]
    · rw [if_neg c1]
      by_cases c2 : (c.toNat : Int) = 9
      · rw [if_pos c2, if_pos ((cs2_has c).2 (.inr c2))]
      · rw [if_neg c2, if_neg (fun h => by have := (cs2_has c).1 h; omega)]
theorem spec_l5Trim.l0_eq : ∀ (l : List UInt8) (k : Nat), 2 * l.length + 3 < k → l.length ≤ 1048576 → spec_l5Trim.l0 k (mkB l) = some (mkB (Lib.trimRightS (Lib.trimLeftS l cs2) cs2))
  | l, 0, h, _ => absurd h (by omega)
  | [], k + 1, hk, _ => by
    obtain ⟨k, rfl⟩ : ∃ m, k = m + 1 := ⟨k - 1, by simp at hk; omega⟩
    rw [spec_l5Trim.l0, mkB_toList, if_pos rfl, spec_l5Trim.j1, spec_l5Trim.l1_eq 0 k [] rfl (by simp at hk; omega) (by omega)]
    rfl
  | c :: m, k + 1, hk, hm => by
    obtain ⟨k, rfl⟩ : ∃ q, k = q + 1 := ⟨k - 1, by simp at hk; omega⟩
    simp only [List.length_cons] at hk hm
    have hsz : (mkB (c :: m)).size = m.length + 1 := by rw [mkB_size]; simp
    have hb : bt (mkB (c :: m)) 0 = (c.toNat : Int) := by
      have := mkB_bt (c :: m) 0 (by simp)
      simpa using this
    have hx : (mkB (c :: m)).extract 1 (mkB (c :: m)).size = mkB m := by rw [mkB_drop1]; rfl
    have ih := spec_l5Trim.l0_eq m (k + 1) (by omega) (by omega)
    have hj : spec_l5Trim.j1 (k + 1) (mkB (c :: m)) = some (mkB (Lib.trimRightS (c :: m) cs2)) := by
      rw [spec_l5Trim.j1, spec_l5Trim.l1_eq (m.length + 1) k (c :: m) (by simp) (by omega) (by omega)]
    have hd : Lib.trimLeftS (c :: m) cs2 = if cs2.contains c = true then Lib.trimLeftS m cs2 else c :: m := by
      unfold Lib.trimLeftS; rw [List.dropWhile_cons]
    rw [spec_l5Trim.l0, mkB_toList, if_neg (by simp), hx, hb, hsz, if_pos (by omega), if_pos (show (1 : Int) ≤ ((m.length + 1 : Nat) : Int) by omega), ih, hj, hd]
    by_cases c1 : (c.toNat : Int) = 32
    · rw [if_pos c1, if_pos ((cs2_has c).2 (.inl c1))]
    · rw [if_neg c1]
      by_cases c2 : (c.toNat : Int) = 9
      · rw [if_pos c2, if_pos ((cs2_has c).2 (.inr c2))]
      · rw [if_neg c2, if_neg (fun h => by have := (cs2_has c).1 h; omega)]
theorem trim_comm (l : List UInt8) : Lib.trimRightS (Lib.trimLeftS l cs2) cs2 = Lib.trimLeftS (Lib.trimRightS l cs2) cs2 := by
  have hc : ∀ (x : UInt8) (m : List UInt8), Lib.trimRightS (x :: m) cs2 = if Lib.trimRightS m cs2 = [] then (if cs2.contains x = true then [] else [x]) else x :: Lib.trimRightS m cs2 := by
    intro x m
    unfold Lib.trimRightS
    rw [List.reverse_cons, List.dropWhile_append]
    cases h : m.reverse.dropWhile (cs2.contains ·) with
    | nil =>
      simp only [List.isEmpty_nil, if_true, List.reverse_nil, List.dropWhile_cons, List.dropWhile_nil]
      split <;> rfl
    | cons y t => simp
  induction l with
  | nil => rfl
  | cons x m ih =>
    by_cases h : cs2.contains x = true
    · have e : Lib.trimLeftS (x :: m) cs2 = Lib.trimLeftS m cs2 := by unfold Lib.trimLeftS; rw [List.dropWhile_cons, if_pos h]
      rw [e, ih, hc, if_pos h]
      by_cases g : Lib.trimRightS m cs2 = []
      · rw [if_pos g, g]
      · rw [if_neg g]
        unfold Lib.trimLeftS
        rw [List.dropWhile_cons, if_pos h]
    · have e : Lib.trimLeftS (x :: m) cs2 = x :: m := by unfold Lib.trimLeftS; rw [List.dropWhile_cons, if_neg h]
      rw [e, hc, if_neg h]
      by_cases g : Lib.trimRightS m cs2 = []
      · rw [if_pos g]; unfold Lib.trimLeftS; rw [List.dropWhile_cons, if_neg h]
      · rw [if_neg g]; unfold Lib.trimLeftS; rw [List.dropWhile_cons, if_neg h]
def trB (x : ByteArray) : ByteArray := mkB (Lib.trimS x.data.toList cs2)
theorem trB_size (x : ByteArray) : (trB x).size ≤ x.size := by
  have h1 : ∀ (p : UInt8 → Bool) (l : List UInt8), (l.dropWhile p).length ≤ l.length := fun p l => (List.dropWhile_sublist p).length_le
  have h2 : x.size = x.data.toList.length := by show x.data.size = _; simp
  unfold trB
  rw [mkB_size, h2]
  unfold Lib.trimS Lib.trimLeftS Lib.trimRightS
  refine Nat.le_trans (h1 _ _) ?_
  rw [List.length_reverse]
  refine Nat.le_trans (h1 _ _) ?_
  rw [List.length_reverse]
  exact Nat.le_refl _
theorem spec_l5Trim_eq (x : ByteArray) (hx : x.size ≤ 1048576) (k : Nat) (hk : 2 * x.size + 3 < k) : spec_l5Trim.f k x = some (trB x) := by
  have h2 : x.size = x.data.toList.length := by show x.data.size = _; simp
  have := spec_l5Trim.l0_eq x.data.toList k (by omega) (by omega)
  rw [mkB_data, trim_comm] at this
  exact this
theorem strings_Trim_eq (x : ByteArray) (hx : x.size ≤ 1048576) : strings_Trim.f x (⟨#[32, 9]⟩ : ByteArray) = some (trB x) := by
  unfold strings_Trim.f
  rw [if_pos ⟨by omega, by decide, by decide⟩]
  rfl
theorem get_bt (s : ByteArray) (i : Nat) (h : i < s.size) : bt s (i : Int) = ((s.get! i).toNat : Int) := by
  have h2 : s.size = s.data.toList.length := by show s.data.size = _; simp
  have e := mkB_bt s.data.toList i (by omega)
  rw [mkB_data] at e
  rw [e]
  congr 2
  show _ = s.data[i]!
  have hd : i < s.data.size := h
  rw [getElem!_pos s.data i hd, Array.getElem_toList]
theorem extract_size (s : ByteArray) (a b : Nat) : (s.extract a b).size ≤ s.size := by
  rw [ByteArray.size_extract]; omega
theorem spec_l5Pieces.l0_eq (s : ByteArray) (hs : s.size ≤ 1048576) : ∀ (n k i fr : Nat) (acc : List (Nat × Nat)), s.size = i + n → 2 * n + 2097170 < k → fr ≤ i → acc.length ≤ i → spec_l5Pieces.l0 k s (acc.map fun x => trB (s.extract x.1 x.2)) (fr : Int) (i : Int) = some ((cutB s n i fr acc).map fun x => trB (s.extract x.1 x.2))
  | n, k, i, fr, acc, hi, hk, hf, ha => by
    obtain ⟨k, rfl⟩ : ∃ q, k = q + 2 := ⟨k - 2, by omega⟩
    have w1 : wrap64 ((i : Int) + 1) = ((i + 1 : Nat) : Int) := by rw [wrap64_in (by omega)]; omega
    have hal : (acc.map fun x => trB (s.extract x.1 x.2)).length < 8796093022208 := by simp; omega
    have hj : ∀ b : Bool, spec_l5Pieces.j1 (k + 1) s (acc.map fun x => trB (s.extract x.1 x.2)) (fr : Int) (i : Int) b = if b = true then (if fr < i then spec_l5Pieces.l0 k s ((acc ++ [(fr, i)]).map fun x => trB (s.extract x.1 x.2)) ((i + 1 : Nat) : Int) ((i + 1 : Nat) : Int) else spec_l5Pieces.l0 k s (acc.map fun x => trB (s.extract x.1 x.2)) ((i + 1 : Nat) : Int) ((i + 1 : Nat) : Int)) else spec_l5Pieces.l0 k s (acc.map fun x => trB (s.extract x.1 x.2)) (fr : Int) ((i + 1 : Nat) : Int) := by
      intro b
      rw [spec_l5Pieces.j1, w1]
      by_cases hb : b = true
      · rw [if_pos hb, if_pos hb]
        by_cases c : fr < i
        · have hes := extract_size s fr i
          rw [if_pos (by omega), if_pos (by omega), if_pos (by omega), if_pos (by omega), if_pos c, Int.toNat_natCast, Int.toNat_natCast, spec_l5Trim_eq _ (by omega) k (by omega), Option.bind_some, if_pos hal]
          simp
        · rw [if_neg (by omega), if_neg c]
      · rw [if_neg hb, if_neg hb]
    rw [spec_l5Pieces.l0, if_pos (by omega)]
    match n, hi, hk with
    | 0, hi, hk =>
      obtain ⟨k, rfl⟩ : ∃ q, k = q + 1 := ⟨k - 1, by omega⟩
      have hend : ∀ (o : List ByteArray), spec_l5Pieces.l0 (k + 1) s o ((i + 1 : Nat) : Int) ((i + 1 : Nat) : Int) = some o := fun o => by rw [spec_l5Pieces.l0, if_neg (by omega)]
      rw [if_pos (by omega), hj, if_pos rfl, hend, hend, cutB]
      split <;> rfl
    | n + 1, hi, hk =>
      rw [if_neg (by omega), if_pos (by omega), if_pos (by omega), hj, get_bt s i (by omega), cutB, if_pos (show i < s.size by omega)]
      by_cases c : (s.get! i).toNat = 59
      · have cb : (((s.get! i).toNat : Int) == 59) = true := by rw [beq_iff_eq]; omega
        rw [if_pos c, if_pos cb]
        by_cases d : fr < i
        · rw [if_pos d, if_pos d]
          exact spec_l5Pieces.l0_eq s hs n k (i + 1) (i + 1) _ (by omega) (by omega) (Nat.le_refl _) (by first | (simp; done) | (simp; omega))
        · rw [if_neg d, if_neg d]
          exact spec_l5Pieces.l0_eq s hs n k (i + 1) (i + 1) _ (by omega) (by omega) (Nat.le_refl _) (by omega)
      · have cb : ¬ (((s.get! i).toNat : Int) == 59) = true := by rw [beq_iff_eq]; omega
        rw [if_neg c, if_neg cb]
        exact spec_l5Pieces.l0_eq s hs n k (i + 1) fr _ (by omega) (by omega) (by omega) (by omega)
theorem cutB_len (s : ByteArray) : ∀ (n i fr : Nat) (acc : List (Nat × Nat)), (cutB s n i fr acc).length ≤ acc.length + n + 1
  | 0, i, fr, acc => by rw [cutB]; split <;> simp
  | n + 1, i, fr, acc => by
    have e : (if fr < i then acc ++ [(fr, i)] else acc).length ≤ acc.length + 1 := by split <;> simp
    rw [cutB]
    by_cases h1 : i < s.size
    · rw [if_pos h1]
      by_cases h2 : (s.get! i).toNat = 59
      · rw [if_pos h2]
        have := cutB_len s n (i + 1) (i + 1) (if fr < i then acc ++ [(fr, i)] else acc)
        omega
      · rw [if_neg h2]
        have := cutB_len s n (i + 1) fr acc
        omega
    · rw [if_neg h1]
      omega
def piecesB (s : ByteArray) : List ByteArray := (cutB s s.size 0 0 []).map fun x => trB (s.extract x.1 x.2)
theorem piecesB_len (s : ByteArray) : (piecesB s).length ≤ s.size + 1 := by
  have := cutB_len s s.size 0 0 []
  simp only [piecesB, List.length_map]
  simpa using this
theorem piecesB_size (s : ByteArray) : ∀ x ∈ piecesB s, x.size ≤ s.size := by
  intro x hx
  obtain ⟨p, _, rfl⟩ := List.mem_map.1 hx
  exact Nat.le_trans (trB_size _) (extract_size s _ _)
theorem spec_l5Pieces_eq (s : ByteArray) (hs : s.size ≤ 1048576) (k : Nat) (hk : 4194400 < k) : spec_l5Pieces.f k s = some (piecesB s) := by
  have := spec_l5Pieces.l0_eq s hs s.size k 0 0 [] (by omega) (by omega) (Nat.le_refl _) (Nat.le_refl _)
  exact this
theorem rdB_at (l : List ByteArray) (i : Nat) (h : i < l.length) : rdOf ByteArray.empty l (i : Int) = l[i] := by
  simp [rdOf, List.getD_eq_getElem?_getD, h]
theorem impl_pieces.l0_eq (fs : List ByteArray) (hf : ∀ x ∈ fs, x.size ≤ 1048576) (hl : fs.length ≤ 1048577) : ∀ (n k i : Nat) (out : List ByteArray), fs.length = i + n → n < k → out.length + n ≤ 2000000 → impl_pieces.l0 k out fs (fs.length : Int) (i : Int) = some (out ++ (fs.drop i).map trB)
  | _, 0, _, _, _, h, _ => absurd h (by omega)
  | 0, k + 1, i, out, hi, _, _ => by
    rw [impl_pieces.l0, if_neg (by omega), List.drop_eq_nil_of_le (by omega)]
    simp
  | n + 1, k + 1, i, out, hi, h, ho => by
    have w1 : wrap64 ((i : Int) + 1) = ((i + 1 : Nat) : Int) := by rw [wrap64_in (by omega)]; omega
    have hlt : i < fs.length := by omega
    rw [impl_pieces.l0, if_pos (by omega), if_pos (by omega), if_pos (by omega), rdB_at fs i hlt, strings_Trim_eq _ (hf _ (List.getElem_mem hlt)), Option.bind_some, if_pos (by omega), w1, impl_pieces.l0_eq fs hf hl n k (i + 1) _ (by omega) (by omega) (by first | (simp; done) | (simp; omega)), List.drop_eq_getElem_cons hlt, List.map_cons, List.append_assoc]
    rfl
theorem impl_pieces_eq (s : ByteArray) (hs : s.size ≤ 1048576) (k : Nat) (hk : 1048600 < k) : impl_pieces.f k s = some (piecesB s) := by
  unfold impl_pieces.f strings_FieldsFunc.f
  rw [if_pos (by omega), Option.bind_some, goFields_cut]
  have hlen := cutB_len s s.size 0 0 []
  have := impl_pieces.l0_eq ((cutB s s.size 0 0 []).map fun x => s.extract x.1 x.2) (fun x hx => by
    obtain ⟨p, _, rfl⟩ := List.mem_map.1 hx
    exact Nat.le_trans (extract_size s _ _) hs) (by simp at hlen ⊢; omega) _ k 0 [] (by rw [Nat.zero_add]) (by simp at hlen ⊢; omega) (by simp at hlen ⊢; omega)
  rw [List.drop_zero, List.nil_append] at this
  rw [show ((0 : Nat) : Int) = 0 from rfl] at this
  rw [this]
  simp [piecesB, List.map_map, Function.comp]
def pf (a w : ByteArray) : Bool := decide (((bytesOf a).map low).take w.size = bytesOf w)
theorem eqStr (M : List Int) (h : ∀ x ∈ M, 0 ≤ x ∧ x ≤ 255) (w : ByteArray) : ((strOfNums M).toList == w.toList) = decide (M = bytesOf w) := by
  rw [Bool.eq_iff_iff, beq_iff_eq, decide_eq_true_eq]
  constructor
  · intro e
    rw [Go.ByteArray.toList_eq, Go.ByteArray.toList_eq] at e
    have := mkB_ext e
    rw [← this, bytesOf_strOfNums M h]
  · rintro rfl
    rw [strOfNums_bytesOf]
theorem low_in (x : Int) (h : 0 ≤ x ∧ x ≤ 255) : 0 ≤ low x ∧ low x ≤ 255 := by unfold low; split <;> omega
theorem lows_in (a : ByteArray) : ∀ x ∈ (bytesOf a).map low, 0 ≤ x ∧ x ≤ 255 := by
  intro x hx
  obtain ⟨y, hy, rfl⟩ := List.mem_map.1 hx
  exact low_in y (bytesOf_in a y hy)
theorem bytesOf_lenB (a : ByteArray) : (bytesOf a).length = a.size := by simp [bytesOf]
theorem pre_short (M : List Int) (w : ByteArray) (h : M.length < w.size) : ¬ M.take w.size = bytesOf w := by
  intro e
  have := congrArg List.length e
  rw [bytesOf_lenB, List.length_take] at this
  omega
theorem spec_l5Begins_eq (a w : ByteArray) (ha : a.size ≤ 1048576) (k : Nat) (hk : 1048577 < k) : spec_l5Begins.f k a w = some (pf a w) := by
  unfold spec_l5Begins.f
  by_cases c : (a.size : Int) ≥ (w.size : Int)
  · have hes := extract_size a 0 w.size
    rw [if_pos c, if_pos (by omega), if_pos (by omega), Int.toNat_natCast, spec_l2Lower_eq _ k (by omega) (by omega), Option.bind_some, bytesOf_extract, List.drop_zero]
    rw [eqStr _ (fun x hx => by
      obtain ⟨y, hy, rfl⟩ := List.mem_map.1 hx
      exact low_in y (bytesOf_in a y (List.mem_of_mem_take hy)))]
    unfold pf
    rw [List.map_take]
  · rw [if_neg c]
    unfold pf
    rw [decide_eq_false (pre_short _ w (by rw [List.length_map, bytesOf_lenB]; omega))]
theorem strings_HasPrefix_eq (M : List Int) (h : ∀ x ∈ M, 0 ≤ x ∧ x ≤ 255) (w : ByteArray) : strings_HasPrefix.f (strOfNums M) w = some (decide (M.take w.size = bytesOf w)) := by
  unfold strings_HasPrefix.f stringslite_HasPrefix.f
  rw [strOfNums_size]
  by_cases c : (M.length : Int) ≥ (w.size : Int)
  · have hx : (strOfNums M).extract 0 w.size = strOfNums (M.take w.size) := by
      rw [← strOfNums_bytesOf ((strOfNums M).extract 0 w.size), bytesOf_extract, bytesOf_strOfNums M h, List.drop_zero]
    rw [if_pos c, if_pos (by omega), if_pos (by omega), Option.bind_some, Int.toNat_natCast, hx, eqStr _ (fun x hx => h x (List.mem_of_mem_take hx))]
  · rw [if_neg c, Option.bind_some, decide_eq_false (pre_short M w (by omega))]
theorem small_pre (a w : ByteArray) (ha : a.size ≤ 1048576) (k : Nat) (hk : 1048577 < k) : (impl_small.f k a).bind (fun t => strings_HasPrefix.f t w) = some (pf a w) := by
  rw [impl_small_eq a k ha (by omega), Option.bind_some, strings_HasPrefix_eq _ (lows_in a)]
  rfl
theorem pf_size (a w : ByteArray) (h : pf a w = true) : w.size ≤ a.size := by
  rcases Nat.lt_or_ge a.size w.size with c | c
  · exact absurd (of_decide_eq_true h) (pre_short _ w (by rw [List.length_map, bytesOf_lenB]; exact c))
  · exact c
def nmF : List ByteArray → ByteArray → ByteArray × Bool
  | [], _ => ((⟨#[]⟩ : ByteArray), false)
  | x :: r, w => if pf x w = true then (x.extract w.size x.size, true) else nmF r w
theorem spec_l5Named.l0_eq (P : List ByteArray) (w : ByteArray) (hP : ∀ x ∈ P, x.size ≤ 1048576) (hl : P.length ≤ 1048577) : ∀ (n k i : Nat), P.length = i + n → n + 1048578 < k → spec_l5Named.l0 k P w (i : Int) = some (nmF (P.drop i) w)
  | _, 0, _, _, h => absurd h (by omega)
  | 0, k + 1, i, hi, _ => by
    rw [spec_l5Named.l0, if_neg (by omega), List.drop_eq_nil_of_le (by omega)]
    rfl
  | n + 1, k + 1, i, hi, h => by
    have w1 : wrap64 ((i : Int) + 1) = ((i + 1 : Nat) : Int) := by rw [wrap64_in (by omega)]; omega
    have hlt : i < P.length := by omega
    have hx := hP P[i] (List.getElem_mem hlt)
    rw [spec_l5Named.l0, if_pos (by omega), if_pos (by omega), rdB_at P i hlt, spec_l5Begins_eq _ w hx k (by omega), Option.bind_some, w1, List.drop_eq_getElem_cons hlt, nmF, spec_l5Named.l0_eq P w hP hl n k (i + 1) (by omega) (by omega)]
    by_cases c : pf P[i] w = true
    · have := pf_size _ _ c
      rw [if_pos c, if_pos c, if_pos (by omega), if_pos (by omega), Int.toNat_natCast]
    · rw [if_neg c, if_neg c]
theorem impl_parameter.l0_eq (P : List ByteArray) (w : ByteArray) (hP : ∀ x ∈ P, x.size ≤ 1048576) (hl : P.length ≤ 1048577) : ∀ (n k i : Nat), P.length = i + n → n + 1048578 < k → 1 ≤ i → impl_parameter.l0 k w P (P.length : Int) (i : Int) = some (nmF (P.drop i) w)
  | _, 0, _, _, h, _ => absurd h (by omega)
  | 0, k + 1, i, hi, _, _ => by
    rw [impl_parameter.l0, if_neg (by omega), List.drop_eq_nil_of_le (by omega)]
    rfl
  | n + 1, k + 1, i, hi, h, h1 => by
    have w1 : wrap64 ((i : Int) + 1) = ((i + 1 : Nat) : Int) := by rw [wrap64_in (by omega)]; omega
    have hlt : i < P.length := by omega
    have hx := hP P[i] (List.getElem_mem hlt)
    have hs : impl_small.f k P[i] = _ := impl_small_eq P[i] k hx (by omega)
    have hp : strings_HasPrefix.f (strOfNums ((bytesOf P[i]).map low)) w = some (pf P[i] w) := strings_HasPrefix_eq _ (lows_in P[i]) w
    rw [impl_parameter.l0, if_pos (by omega), if_pos (by omega), if_pos (by omega), if_pos (by omega), rdB_at P i hlt, hs, Option.bind_some, hp, Option.bind_some, w1, List.drop_eq_getElem_cons hlt, nmF, impl_parameter.l0_eq P w hP hl n k (i + 1) (by omega) (by omega) (by omega)]
    by_cases c : pf P[i] w = true
    · have := pf_size _ _ c
      rw [if_pos c, if_pos c, if_pos (by omega), if_pos (by omega), Int.toNat_natCast]
    · rw [if_neg c, if_neg c]
theorem nmF_size : ∀ (l : List ByteArray) (w : ByteArray) (N : Nat), (∀ x ∈ l, x.size ≤ N) → (nmF l w).1.size ≤ N
  | [], w, N, _ => Nat.zero_le _
  | x :: r, w, N, h => by
    rw [nmF]
    split
    · exact Nat.le_trans (extract_size x _ _) (h x (by simp))
    · exact nmF_size r w N (fun y hy => h y (by simp [hy]))
theorem spec_l5Named_eq (P : List ByteArray) (w : ByteArray) (hP : ∀ x ∈ P, x.size ≤ 1048576) (hl : P.length ≤ 1048577) (k : Nat) (hk : 4194400 < k) : spec_l5Named.f k P w = some (nmF (P.drop 1) w) := by
  unfold spec_l5Named.f
  cases P with
  | nil =>
    obtain ⟨k, rfl⟩ : ∃ q, k = q + 1 := ⟨k - 1, by omega⟩
    rw [spec_l5Named.l0, if_neg (by simp)]
    rfl
  | cons x r => exact spec_l5Named.l0_eq (x :: r) w hP hl r.length k 1 (by first | (simp; done) | (simp; omega)) (by simp at hl; omega)
theorem impl_parameter_eq (s w : ByteArray) (hs : s.size ≤ 1048576) (k : Nat) (hk : 4194400 < k) : impl_parameter.f k s w = some (nmF ((piecesB s).drop 1) w) := by
  have hl := piecesB_len s
  have hP : ∀ x ∈ piecesB s, x.size ≤ 1048576 := fun x hx => Nat.le_trans (piecesB_size s x hx) hs
  unfold impl_parameter.f
  rw [impl_pieces_eq s hs k (by omega), Option.bind_some]
  generalize piecesB s = P at hl hP
  obtain ⟨k, rfl⟩ : ∃ q, k = q + 1 := ⟨k - 1, by omega⟩
  rw [impl_parameter.l0]
  cases P with
  | nil => rw [if_neg (by simp)]; rfl
  | cons x r =>
    rw [if_pos (by first | (simp; done) | (simp; omega)), if_pos (by omega), if_pos (by first | (simp; done) | (simp; omega)), if_neg (by omega)]
    have w1 : wrap64 (0 + 1) = ((1 : Nat) : Int) := by decide +kernel
    rw [w1]
    exact impl_parameter.l0_eq (x :: r) w hP (by omega) r.length k 1 (by first | (simp; done) | (simp; omega)) (by simp at hl; omega) (by omega)
theorem eqPart_self (a b c d e f g : Int) : laws_eqPart.f a b c d e f g a b c d e f g = some true := by simp [laws_eqPart.f]
theorem hp_empty (w : ByteArray) (h : 0 < w.size) : strings_HasPrefix.f (⟨#[]⟩ : ByteArray) w = some false := by
  unfold strings_HasPrefix.f stringslite_HasPrefix.f
  rw [if_neg (by show ¬ ((0 : Nat) : Int) ≥ _; omega)]
  rfl
theorem type_both (a : ByteArray) (ha : a.size ≤ 1048576) (k0 : Nat) (hk : 8388608 < k0) : ∃ o, spec_TypeOf.f (k0 + 7 + 1) a = some o ∧ impl_TypeOf.f (k0 + 7 + 1) a = some o := by
  have hl := piecesB_len a
  have hP : ∀ x ∈ piecesB a, x.size ≤ 1048576 := fun x hx => Nat.le_trans (piecesB_size a x hx) ha
  have e1 := spec_l5Pieces_eq a ha (k0 + 7 + 1) (by omega)
  have e2 := impl_pieces_eq a ha (k0 + 7 + 1) (by omega)
  have e3 := fun w => impl_parameter_eq a w ha (k0 + 7) (by omega)
  have e4 := fun w => spec_l5Named_eq (piecesB a) w hP (by omega) (k0 + 7 + 1) (by omega)
  unfold spec_TypeOf.f spec_l5Type.f impl_TypeOf.f
  rw [e1, e2]
  simp only [Option.bind_some]
  generalize piecesB a = P at hl hP e3 e4
  cases P with
  | nil =>
    refine ⟨(3, 0, 0, 0, 0, 0, 0), ?_, ?_⟩
    · rw [if_pos (by simp)]; rfl
    · rw [if_neg (by simp), impl_TypeOf.j0, hp_empty _ (by decide), Option.bind_some, if_neg (by decide), hp_empty _ (by decide), Option.bind_some, if_neg (by decide)]
  | cons x r =>
    have hx := hP x (by simp)
    have r0 : rdOf ByteArray.empty (x :: r) 0 = x := by simp [rdOf]
    have b1 := fun w => spec_l5Begins_eq x w hx (k0 + 7 + 1) (by omega)
    have s1 : impl_small.f (k0 + 7 + 1) x = _ := impl_small_eq x (k0 + 7 + 1) hx (by omega)
    have h1 : ∀ w, strings_HasPrefix.f (strOfNums ((bytesOf x).map low)) w = some (pf x w) := fun w => strings_HasPrefix_eq _ (lows_in x) w
    rw [if_neg (by first | (simp; done) | (simp; omega)), if_pos (by first | (simp; done) | (simp; omega)), if_pos (by first | (simp; done) | (simp; omega)), if_pos (by first | (simp; done) | (simp; omega)), r0, s1, Option.bind_some, impl_TypeOf.j0]
    simp only [b1, h1, e3, e4, Option.bind_some]
    by_cases c1 : pf x (⟨#[109, 117, 108, 116, 105, 112, 97, 114, 116, 47]⟩ : ByteArray) = true
    · exact ⟨(2, 0, 0, 0, 0, 0, 0), by rw [if_pos c1]; rfl, by rw [if_pos c1]⟩
    · by_cases c2 : pf x (⟨#[116, 101, 120, 116, 47]⟩ : ByteArray) = true
      · have hsz := nmF_size ((x :: r).drop 1) (⟨#[99, 104, 97, 114, 115, 101, 116, 61]⟩ : ByteArray) 1048576 (fun y hy => hP y (List.mem_of_mem_drop hy))
        generalize nmF ((x :: r).drop 1) (⟨#[99, 104, 97, 114, 115, 101, 116, 61]⟩ : ByteArray) = o at hsz
        by_cases c3 : o.2 = true
        · obtain ⟨v, c, q1, q2⟩ := charset_both o.1 (by omega) k0 (by omega)
          have q3 := spec_l2Of.mono o.1 (k0 + 7) v q1
          refine ⟨(1, v, 0, 0, 0, 0, 0), ?_, ?_⟩
          · rw [if_neg c1, if_pos c2, if_pos c3, q3]; rfl
          · rw [if_neg c1, if_pos c2, if_pos c3, q2]; rfl
        · exact ⟨(1, 1, 0, 0, 0, 0, 0), by rw [if_neg c1, if_pos c2, if_neg c3]; rfl, by rw [if_neg c1, if_pos c2, if_neg c3]⟩
      · exact ⟨(3, 0, 0, 0, 0, 0, 0), by rw [if_neg c1, if_neg c2]; rfl, by rw [if_neg c1, if_neg c2]⟩
theorem FnExactTypeOf : laws_FnExactTypeOf.Pure := by
  intro a _
  obtain ⟨k, hk⟩ : ∃ k, 8388608 < k := ⟨_, Nat.lt_succ_self _⟩
  refine ⟨k + 7 + 1, ?_⟩
  unfold laws_FnExactTypeOf.f
  by_cases hl : (a.size : Int) > 1048576
  · rw [if_pos hl]
  · obtain ⟨o, e1, e2⟩ := type_both a (by omega) k hk
    rw [if_neg hl, e1, Option.bind_some, e2, Option.bind_some, eqPart_self, Option.bind_some, if_pos rfl]

end Go.Proofs.YtecpanfndodjgaaDoor.Pure
