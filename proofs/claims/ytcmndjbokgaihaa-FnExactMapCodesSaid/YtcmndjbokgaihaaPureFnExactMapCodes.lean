/- The plain law: what the walk computes answers as the statement says. -/
import Derived.Test.YtcmndjbokgaihaaPMapCodesx3
namespace Go.Proofs.Ytcmndjbokgaihaa.Pure
open Go.RowKit Go.Proofs.Ytcmndjbokgaihaa.PMapCodes Go.Proofs.YtcmndjbokgaihaaW.PrintWords Go.Proofs.YtcmndjbokgaihaaW.PrintLast
set_option linter.unusedSimpArgs false
set_option linter.unusedVariables false
theorem rd_at (l : List Int) (i : Nat) (h : i < l.length) : rd l (i : Int) = l[i] := by
  simp [rd, List.getD_eq_getElem?_getD, h]
theorem wrap64_in {n : Int} (h : -9223372036854775808 ≤ n ∧ n ≤ 9223372036854775807) : wrap64 n = n := by
  unfold wrap64; omega
theorem maxLen_le : maxLen ≤ 9223372036854775807 := by unfold maxLen; decide
theorem laws_toInt64S.l0_eq (x0 : List Int) (hb : x0.length ≤ maxLen) : ∀ (n k i : Nat), x0.length = i + n → n < k → laws_toInt64S.l0 k x0 (x0.take i ++ List.replicate n 0) (i : Int) = some x0
  | 0, 0, _, _, h => absurd h (by omega)
  | 0, k + 1, i, hi, _ => by
    have h1 : ¬ ((i : Int) < (x0.length : Int)) := by omega
    simp only [laws_toInt64S.l0, if_neg h1, List.replicate_zero, List.append_nil]
    rw [List.take_of_length_le (by omega)]
  | n + 1, 0, _, _, h => absurd h (by omega)
  | n + 1, k + 1, i, hi, h => by
    have hm := maxLen_le
    have h1 : (i : Int) < (x0.length : Int) := by omega
    have h2 : (0 : Int) ≤ (i : Int) := by omega
    have h3 : (i : Int) < ((x0.take i ++ List.replicate (n + 1) (0 : Int)).length : Int) := by simp; omega
    have h4 : wrap64 ((i : Int) + 1) = ((i + 1 : Nat) : Int) := by rw [wrap64_in (by omega)]; omega
    simp only [laws_toInt64S.l0]
    rw [if_pos h1, if_pos h2, if_pos h3, h4]
    rw [← laws_toInt64S.l0_eq x0 hb n k (i + 1) (by omega) (by omega)]
    congr 1
    rw [rd_at x0 i (by omega), Int.toNat_natCast, List.set_append_right _ _ (by simp; omega)]
    have h5 : i - (x0.take i).length = 0 := by simp; omega
    rw [h5, List.take_succ_eq_append_getElem (by omega), List.append_assoc, List.replicate_succ, List.set_cons_zero]
    rfl
theorem laws_toInt64S_eq (l : List Int) (k : Nat) (hb : l.length ≤ maxLen) (hb2 : l.length ≤ 1048576) (hk : l.length < k) : laws_toInt64S.f k l = some l := by
  unfold laws_toInt64S.f
  have h1 : (0 : Int) ≤ (l.length : Int) := by omega
  rw [if_pos h1, Int.toNat_natCast, if_pos (by omega)]
  exact laws_toInt64S.l0_eq l hb l.length k 0 (by omega) hk
theorem laws_eqInt64S.l0_eq (x0 : List Int) (hb : x0.length ≤ maxLen) : ∀ (n k i : Nat), x0.length = i + n → n < k → laws_eqInt64S.l0 k x0 x0 (i : Int) = some true
  | 0, 0, _, _, h => absurd h (by omega)
  | 0, k + 1, i, hi, _ => by
    have h1 : ¬ ((i : Int) < (x0.length : Int)) := by omega
    simp only [laws_eqInt64S.l0, if_neg h1]
  | n + 1, 0, _, _, h => absurd h (by omega)
  | n + 1, k + 1, i, hi, h => by
    have hm := maxLen_le
    have h1 : (i : Int) < (x0.length : Int) := by omega
    have h2 : (0 : Int) ≤ (i : Int) := by omega
    have h4 : wrap64 ((i : Int) + 1) = ((i + 1 : Nat) : Int) := by rw [wrap64_in (by omega)]; omega
    unfold laws_eqInt64S.l0
    rw [if_pos h1, if_pos h2, if_pos h1]
    rw [if_pos rfl, h4]
    exact laws_eqInt64S.l0_eq x0 hb n k (i + 1) (by omega) (by omega)
theorem laws_eqInt64S_eq (l : List Int) (k : Nat) (hb : l.length ≤ maxLen) (hk : l.length < k) : laws_eqInt64S.f k l l = some true := by
  unfold laws_eqInt64S.f
  rw [if_pos rfl]
  exact laws_eqInt64S.l0_eq l hb l.length k 0 (by omega) hk
def mkInt64S (x : Int) : Int := x
def marksInt64S : Int → Nat → List Int
  | _, 0 => []
  | m, n + 1 => mkInt64S m :: marksInt64S (m + 1) n
theorem marksInt64S_len : ∀ n m, (marksInt64S m n).length = n
  | 0, _ => rfl
  | n + 1, m => by simp [marksInt64S, marksInt64S_len n]
theorem laws_markInt64S.l0_eq : ∀ (n k i : Nat) (x0 : List Int) (x1 : Int), x0.length = i + n → n < k → 0 ≤ x1 → x1 + n ≤ 4611686018427387904 → x0.length ≤ 4611686018427387904 → laws_markInt64S.l0 k x0 x1 (i : Int) = some (x1 + n, x0.take i ++ marksInt64S x1 n)
  | 0, 0, _, _, _, _, h, _, _, _ => absurd h (by omega)
  | 0, k + 1, i, x0, x1, hi, _, _, _, _ => by
    have h1 : ¬ ((i : Int) < (x0.length : Int)) := by omega
    unfold laws_markInt64S.l0
    rw [if_neg h1, List.take_of_length_le (by omega)]
    simp [marksInt64S]
  | n + 1, 0, _, _, _, _, h, _, _, _ => absurd h (by omega)
  | n + 1, k + 1, i, x0, x1, hi, h, hx, hx1, hb => by
    have h1 : (i : Int) < (x0.length : Int) := by omega
    have h2 : (0 : Int) ≤ (i : Int) := by omega
    have h4 : wrap64 ((i : Int) + 1) = ((i + 1 : Nat) : Int) := by rw [wrap64_in (by omega)]; omega
    have h5 : wrap64 (x1 + 1) = x1 + 1 := wrap64_in (by omega)
    have hs : (x0.set i (mkInt64S x1)).take (i + 1) = x0.take i ++ [mkInt64S x1] := by
      rw [List.take_succ_eq_append_getElem (by simp; omega), List.getElem_set_self]
      congr 1
      rw [List.take_set, List.set_eq_of_length_le (by simp; omega)]
    unfold laws_markInt64S.l0
    rw [if_pos h1, if_pos h2, Int.toNat_natCast, h4, h5]
    have := laws_markInt64S.l0_eq n k (i + 1) (x0.set i (mkInt64S x1)) (x1 + 1) (by simp; omega) (by omega) (by omega) (by omega) (by simp; omega)
    rw [hs] at this
    unfold mkInt64S at this
    rw [this]
    simp [marksInt64S, mkInt64S]
    omega
theorem laws_markInt64S_eq (l : List Int) (m : Int) (k : Nat) (hk : l.length < k) (hl : l.length ≤ 1048576) (hm : 0 ≤ m ∧ m ≤ 4294967296) : laws_markInt64S.f k l m = some (m + l.length, marksInt64S m l.length) := by
  unfold laws_markInt64S.f
  have := laws_markInt64S.l0_eq l.length k 0 l m (by omega) hk hm.1 (by omega) (by omega)
  simpa using this
theorem laws_heldInt64S.l0_eq : ∀ (n k i : Nat) (x0 : List Int) (x1 : Int), x0.length = i + n → n < k → 0 ≤ x1 → x1 + n ≤ 4611686018427387904 → x0.length ≤ 4611686018427387904 → x0.drop i = marksInt64S x1 n → laws_heldInt64S.l0 k x0 x1 (i : Int) = some (x1 + n)
  | 0, 0, _, _, _, _, h, _, _, _, _ => absurd h (by omega)
  | 0, k + 1, i, x0, x1, hi, _, _, _, _, _ => by
    have h1 : ¬ ((i : Int) < (x0.length : Int)) := by omega
    unfold laws_heldInt64S.l0
    rw [if_neg h1]
    simp
  | n + 1, 0, _, _, _, _, h, _, _, _, _ => absurd h (by omega)
  | n + 1, k + 1, i, x0, x1, hi, h, hx, hx1, hb, hd => by
    have h1 : (i : Int) < (x0.length : Int) := by omega
    have h2 : (0 : Int) ≤ (i : Int) := by omega
    have h4 : wrap64 ((i : Int) + 1) = ((i + 1 : Nat) : Int) := by rw [wrap64_in (by omega)]; omega
    have h5 : wrap64 (x1 + 1) = x1 + 1 := wrap64_in (by omega)
    have hlt : i < x0.length := by omega
    rw [List.drop_eq_getElem_cons hlt] at hd
    unfold marksInt64S at hd
    have h6 : x0[i] = mkInt64S x1 := (List.cons.inj hd).1
    have h7 : x0.drop (i + 1) = marksInt64S (x1 + 1) n := (List.cons.inj hd).2
    unfold laws_heldInt64S.l0
    rw [if_pos h1, if_pos h2, rd_at x0 i hlt, h6, if_pos (by unfold mkInt64S; rfl), h4, h5, laws_heldInt64S.l0_eq n k (i + 1) x0 (x1 + 1) (by omega) (by omega) (by omega) (by omega) hb h7]
    congr 1
    omega
theorem laws_heldInt64S_eq (n : Nat) (m : Int) (k : Nat) (hk : n < k) (hl : n ≤ 1048576) (hm : 0 ≤ m ∧ m ≤ 4294967296) : laws_heldInt64S.f k (marksInt64S m n) m = some (m + n) := by
  have hml := marksInt64S_len n m
  unfold laws_heldInt64S.f
  exact laws_heldInt64S.l0_eq n k 0 (marksInt64S m n) m (by omega) hk hm.1 (by omega) (by omega) (by simp)
/-- The mapping of a char under a comparator, as a plain law. -/
def mc (a c : Int) : Int :=
  if a = 1 then c else if decide (97 ≤ c ∧ c ≤ 122) = true then wrap64 (c - 32) else if a = 2 then c else
    if ((decide (224 ≤ c ∧ c ≤ 254) && c != 247) || (decide (945 ≤ c ∧ c ≤ 969) && c != 962) || decide (1072 ≤ c ∧ c ≤ 1103)) = true then wrap64 (c - 32) else if decide (1104 ≤ c ∧ c ≤ 1119) = true then wrap64 (c - 80) else c
theorem in_eq (a b c : Int) : spec_l1In.f a b c = some (decide (b ≤ a ∧ a ≤ c)) := by
  unfold spec_l1In.f; by_cases h : a ≥ b <;> simp [h] <;> omega
theorem spec_l3Char_eq (k : Nat) (a c : Int) (h : 1 ≤ a ∧ a ≤ 3) : spec_l3Char.f (k + 2) a c = some (mc a c) := by
  simp only [spec_l3Char.f, spec_l3Char.j0, spec_l3Char.j1, in_eq, Option.bind_some, mc]
  have : a = 1 ∨ a = 2 ∨ a = 3 := by omega
  generalize decide (97 ≤ c ∧ c ≤ 122) = p1
  generalize decide (224 ≤ c ∧ c ≤ 254) = p2
  generalize decide (945 ≤ c ∧ c ≤ 969) = p3
  generalize decide (1072 ≤ c ∧ c ≤ 1103) = p4
  generalize decide (1104 ≤ c ∧ c ≤ 1119) = p5
  by_cases h1 : c = 247 <;> by_cases h2 : c = 962
  · omega
  all_goals (rcases this with rfl | rfl | rfl <;> cases p1 <;> cases p2 <;> cases p3 <;> cases p4 <;> cases p5 <;> simp [h1, h2])
theorem spec_l3Map.l0_eq (a : Int) (ha : 1 ≤ a ∧ a ≤ 3) (L : List Int) (hb : L.length ≤ 1048576) : ∀ (n k i : Nat) (acc : List Int), L.length = i + n → n + 2 < k → acc.length + n ≤ 1048576 → spec_l3Map.l0 k a L acc (i : Int) = some (acc ++ (L.drop i).map (mc a))
  | _, 0, _, _, _, h, _ => absurd h (by omega)
  | 0, k + 1, i, acc, hi, _, _ => by
    have h1 : ¬ ((i : Int) < (L.length : Int)) := by omega
    unfold spec_l3Map.l0
    rw [if_neg h1, List.drop_eq_nil_of_le (by omega)]
    simp
  | n + 1, k + 1, i, acc, hi, h, hc => by
    have h1 : (i : Int) < (L.length : Int) := by omega
    have h2 : (0 : Int) ≤ (i : Int) := by omega
    have h4 : wrap64 ((i : Int) + 1) = ((i + 1 : Nat) : Int) := by rw [wrap64_in (by omega)]; omega
    obtain ⟨k2, rfl⟩ : ∃ k2, k = k2 + 2 := ⟨k - 2, by omega⟩
    unfold spec_l3Map.l0
    rw [if_pos h1, if_pos h2, rd_at L i (by omega), spec_l3Char_eq k2 a _ ha, Option.bind_some, if_pos (by omega), h4, spec_l3Map.l0_eq a ha L hb n (k2 + 2) (i + 1) _ (by omega) (by omega) (by simp; omega), List.drop_eq_getElem_cons (by omega : i < L.length), List.map_cons, List.append_assoc]
    rfl
theorem spec_l3Map_eq (a : Int) (ha : 1 ≤ a ∧ a ≤ 3) (L : List Int) (k : Nat) (hb : L.length ≤ 1048576) (hk : L.length + 2 < k) : spec_l3Map.f k a L = some (L.map (mc a)) := by
  unfold spec_l3Map.f
  have := spec_l3Map.l0_eq a ha L hb L.length k 0 [] (by omega) hk (by simp; omega)
  simpa using this
theorem within_eq (a b c : Int) : impl_within.f a b c = some (decide (b ≤ a ∧ a ≤ c)) := by
  unfold impl_within.f; by_cases h : a ≥ b <;> simp [h] <;> omega
theorem impl_mapped_eq (k : Nat) (a c : Int) (h : 1 ≤ a ∧ a ≤ 3) : impl_mapped.f (k + 1) a c = some (mc a c) := by
  simp only [impl_mapped.f, impl_mapped.j0, within_eq, Option.bind_some, mc]
  have : a = 1 ∨ a = 2 ∨ a = 3 := by omega
  generalize decide (97 ≤ c ∧ c ≤ 122) = p1
  generalize decide (224 ≤ c ∧ c ≤ 254) = p2
  generalize decide (945 ≤ c ∧ c ≤ 969) = p3
  generalize decide (1072 ≤ c ∧ c ≤ 1103) = p4
  generalize decide (1104 ≤ c ∧ c ≤ 1119) = p5
  by_cases h1 : c = 247 <;> by_cases h2 : c = 962
  · omega
  all_goals (rcases this with rfl | rfl | rfl <;> cases p1 <;> cases p2 <;> cases p3 <;> cases p4 <;> cases p5 <;> simp [h1, h2])
theorem impl_mappedAll.l0_eq (a : Int) (ha : 1 ≤ a ∧ a ≤ 3) (L : List Int) (hb : L.length ≤ 1048576) : ∀ (n k i : Nat) (acc : List Int), L.length = i + n → n + 1 < k → acc.length + n ≤ 1048576 → impl_mappedAll.l0 k a acc L (L.length : Int) (i : Int) = some (acc ++ (L.drop i).map (mc a))
  | _, 0, _, _, _, h, _ => absurd h (by omega)
  | 0, k + 1, i, acc, hi, _, _ => by
    have h1 : ¬ ((i : Int) < (L.length : Int)) := by omega
    unfold impl_mappedAll.l0
    rw [if_neg h1, List.drop_eq_nil_of_le (by omega)]
    simp
  | n + 1, k + 1, i, acc, hi, h, hc => by
    have h1 : (i : Int) < (L.length : Int) := by omega
    have h2 : (0 : Int) ≤ (i : Int) := by omega
    have h4 : wrap64 ((i : Int) + 1) = ((i + 1 : Nat) : Int) := by rw [wrap64_in (by omega)]; omega
    obtain ⟨k2, rfl⟩ : ∃ k2, k = k2 + 1 := ⟨k - 1, by omega⟩
    unfold impl_mappedAll.l0
    rw [if_pos h1, if_pos h2, if_pos h1, rd_at L i (by omega), impl_mapped_eq k2 a _ ha, Option.bind_some, if_pos (by omega), h4, impl_mappedAll.l0_eq a ha L hb n (k2 + 1) (i + 1) _ (by omega) (by omega) (by simp; omega), List.drop_eq_getElem_cons (by omega : i < L.length), List.map_cons, List.append_assoc]
    rfl
theorem impl_mappedAll_eq (a : Int) (ha : 1 ≤ a ∧ a ≤ 3) (L : List Int) (k : Nat) (hb : L.length ≤ 1048576) (hk : L.length + 1 < k) : impl_mappedAll.f k a L = some (L.map (mc a)) := by
  unfold impl_mappedAll.f
  have := impl_mappedAll.l0_eq a ha L hb L.length k 0 [] (by omega) hk (by simp; omega)
  simpa using this
theorem spec_l3Cmp_eq (a : Int) : spec_l3Cmp.f a = some (decide (1 ≤ a ∧ a ≤ 3)) := by
  simp only [spec_l3Cmp.f, in_eq, Option.bind_some]
theorem impl_isComparator_eq (a : Int) : impl_isComparator.f a = some (decide (1 ≤ a ∧ a ≤ 3)) := by
  simp only [impl_isComparator.f, within_eq, Option.bind_some]
def charB (c : Int) : Bool := decide (0 ≤ c ∧ c ≤ 55295) || decide (57344 ≤ c ∧ c ≤ 65535)
theorem charB_iff (c : Int) : charB c = true ↔ (0 ≤ c ∧ c ≤ 55295) ∨ (57344 ≤ c ∧ c ≤ 65535) := by
  simp [charB]
theorem spec_l2Char_eq (c : Int) : spec_l2Char.f c = some (charB c) := by
  simp only [spec_l2Char.f, in_eq, Option.bind_some, charB]
  generalize decide (0 ≤ c ∧ c ≤ 55295) = x
  cases x <;> simp
theorem spec_l2Fault.l0_eq (x0 : List Int) (hb : x0.length ≤ maxLen) : ∀ (n k i : Nat), x0.length = i + n → n < k → spec_l2Fault.l0 k x0 (i : Int) = some (if (x0.drop i).all charB = true then 0 else 3)
  | 0, 0, _, _, h => absurd h (by omega)
  | 0, k + 1, i, hi, _ => by
    have h1 : ¬ ((i : Int) < (x0.length : Int)) := by omega
    unfold spec_l2Fault.l0
    rw [if_neg h1, List.drop_eq_nil_of_le (by omega)]
    rfl
  | n + 1, 0, _, _, h => absurd h (by omega)
  | n + 1, k + 1, i, hi, h => by
    have hm := maxLen_le
    have h1 : (i : Int) < (x0.length : Int) := by omega
    have h2 : (0 : Int) ≤ (i : Int) := by omega
    have h4 : wrap64 ((i : Int) + 1) = ((i + 1 : Nat) : Int) := by rw [wrap64_in (by omega)]; omega
    unfold spec_l2Fault.l0
    rw [if_pos h1, if_pos h2, h4, rd_at x0 i (by omega), List.drop_eq_getElem_cons (by omega), List.all_cons, spec_l2Fault.l0_eq x0 hb n k (i + 1) (by omega) (by omega), spec_l2Char_eq, Option.bind_some]
    cases charB x0[i] <;> rfl
theorem spec_l2Fault_eq (l : List Int) (k : Nat) (hb : l.length ≤ maxLen) (hk : l.length < k) : spec_l2Fault.f k l = some (if 400 < l.length then 2 else if l.all charB = true then 0 else 3) := by
  unfold spec_l2Fault.f
  by_cases h : 400 < l.length
  · rw [if_pos (by omega), if_pos h]
  · rw [if_neg (by omega), if_neg h]
    have := spec_l2Fault.l0_eq l hb l.length k 0 (by omega) hk
    simpa using this
theorem CodesFault_p_eq (c : Int) : impl_CodesFault.p c = !charB c := by
  unfold impl_CodesFault.p charB
  rw [Bool.eq_iff_iff]; simp only [Bool.and_eq_true, Bool.or_eq_true, Bool.not_eq_true', decide_eq_true_eq, decide_eq_false_iff_not, Bool.and_eq_false_iff, Bool.not_eq_false', Bool.or_eq_false_iff]; omega
theorem CodesFault_any (l : List Int) : l.any impl_CodesFault.p = !(l.all charB) := by
  induction l with
  | nil => rfl
  | cons x xs ih => rw [List.any_cons, List.all_cons, ih, CodesFault_p_eq, Bool.not_and]
theorem impl_CodesFault_eq (l : List Int) : impl_CodesFault.f l = some (if 400 < l.length then 2 else if l.all charB = true then 0 else 3) := by
  unfold impl_CodesFault.f
  rw [CodesFault_any]
  by_cases h : 400 < l.length
  · rw [if_pos h, if_pos h]
  · rw [if_neg h, if_neg h]
    cases l.all charB <;> rfl
def mapo (a : Int) (l : List Int) : Int × List Int :=
  if 1 ≤ a ∧ a ≤ 3 then (if 400 < l.length then (2, []) else if l.all charB = true then (0, l.map (mc a)) else (3, [])) else (4, [])
theorem mapo_len (a : Int) (l : List Int) : (mapo a l).2.length ≤ 400 := by
  unfold mapo
  repeat' split
  all_goals simp
  omega
theorem spec_MapCodes_eq (a : Int) (l : List Int) (k : Nat) (hb : l.length ≤ 1048576) (hk : l.length + 3 < k) : spec_MapCodes.f k a l = some (mapo a l) := by
  unfold spec_MapCodes.f mapo
  rw [spec_l3Cmp_eq, Option.bind_some]
  by_cases ha : 1 ≤ a ∧ a ≤ 3
  · rw [decide_eq_true ha, if_pos rfl, if_pos ha, spec_l2Fault_eq l k (by unfold maxLen; omega) (by omega), Option.bind_some, spec_l3Map_eq a ha l k hb (by omega)]
    by_cases h4 : 400 < l.length
    · rw [if_pos h4, if_pos h4, if_neg (by decide)]
    · rw [if_neg h4, if_neg h4]
      cases l.all charB <;> rfl
  · rw [decide_eq_false ha, if_neg ha]; rfl
theorem impl_MapCodes_eq (a : Int) (l : List Int) (k : Nat) (hb : l.length ≤ 1048576) (hk : l.length + 3 < k) : impl_MapCodes.f k a l = some (mapo a l) := by
  unfold impl_MapCodes.f mapo
  rw [impl_isComparator_eq, Option.bind_some]
  by_cases ha : 1 ≤ a ∧ a ≤ 3
  · rw [decide_eq_true ha, if_pos rfl, if_pos ha, impl_CodesFault_eq, Option.bind_some, impl_mappedAll_eq a ha l k hb (by omega)]
    by_cases h4 : 400 < l.length
    · rw [if_pos h4, if_pos h4, if_neg (by decide)]
    · rw [if_neg h4, if_neg h4]
      cases l.all charB <;> rfl
  · rw [decide_eq_false ha, if_neg ha]; rfl
theorem FnExactMapCodes : laws_FnExactMapCodes.Pure := by
  intro a l _ hb hb2 hw
  refine ⟨l.length + 406, ?_⟩
  unfold laws_FnExactMapCodes.f
  by_cases hl : (l.length : Int) > 1048576
  · rw [if_pos hl]
  · rw [if_neg hl]
    have hlen := mapo_len a l
    have e2 := laws_eqInt64S_eq l (l.length + 406) hb (by omega)
    have e4 := laws_markInt64S_eq l 1 (l.length + 406) (by omega) (by omega) (by omega)
    have e5 := laws_markInt64S_eq (mapo a l).2 1 (l.length + 405) (by omega) (by omega) (by omega)
    have e6 := laws_heldInt64S_eq (mapo a l).2.length 1 (l.length + 405) (by omega) (by omega) (by omega)
    have p0 : ¬ (1 + (l.length : Int) < 0) := by omega
    have e7 : ∀ k, 400 < k → laws_eqCodesResult.f k (mapo a l).1 (mapo a l).2 (mapo a l).1 (mapo a l).2 = some true := by
      intro k hk; unfold laws_eqCodesResult.f; rw [if_pos rfl, laws_eqInt64S_eq (mapo a l).2 k (by unfold maxLen; omega) (by omega)]; rfl
    have q1 := laws_toInt64S_eq l (l.length + 406) hb (by omega) (by omega)
    have q2 := laws_toInt64S_eq l (l.length + 405) hb (by omega) (by omega)
    have q3 := spec_MapCodes_eq a l (l.length + 406) (by omega) (by omega)
    have q4 := impl_MapCodes_eq a l (l.length + 406) (by omega) (by omega)
    have q5 := impl_MapCodes_eq a l (l.length + 405) (by omega) (by omega)
    have q6 := e7 (l.length + 406) (by omega)
    have q7 := e7 (l.length + 405) (by omega)
    have p1 : ¬ (1 + ((mapo a l).2.length : Int) < 0) := by omega
    simp only [q1, q3, q4, q6, e2, e4, Option.bind_some, if_true, if_neg p0]
    rw [laws_FnExactMapCodes.j0]
    simp only [laws_markCodesResult.f, laws_heldCodesResult.f, q2, q5, q7, e5, e6, Option.bind_some, if_true, if_neg p1, Bool.not_true, Bool.false_eq_true, if_false]

end Go.Proofs.Ytcmndjbokgaihaa.Pure
