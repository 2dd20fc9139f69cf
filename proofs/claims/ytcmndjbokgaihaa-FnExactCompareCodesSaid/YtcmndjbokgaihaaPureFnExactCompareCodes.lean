/- The plain law: what the walk computes answers as the statement says. -/
import Derived.Test.YtcmndjbokgaihaaPCompareCodesx2
namespace Go.Proofs.Ytcmndjbokgaihaa.Pure
open Go.RowKit Go.Proofs.Ytcmndjbokgaihaa.PCompareCodes Go.Proofs.YtcmndjbokgaihaaW.PrintWords Go.Proofs.YtcmndjbokgaihaaW.PrintLast
set_option linter.unusedSimpArgs false
set_option linter.unusedVariables false
theorem rd_at (l : List Int) (i : Nat) (h : i < l.length) : rd l (i : Int) = l[i] := by
  simp [rd, List.getD_eq_getElem?_getD, h]
theorem wrap64_in {n : Int} (h : -9223372036854775808 ≤ n ∧ n ≤ 9223372036854775807) : wrap64 n = n := by
  unfold wrap64; omega
theorem maxLen_le : maxLen ≤ 9223372036854775807 := by unfold maxLen; decide
theorem laws_toInt64S.l0_eq (x0 : List Int) (hb : x0.length ≤ maxLen) : ∀ (n k i : Nat), x0.length = i + n → n < k → laws_toInt64S.l0 k x0 (x0.take i ++ List.replicate n 0) (i : Int) = some x0
  | 0, 0, _, _, h => absurd h (by omega)
  | 0, k + 1, i, hi, _ => by
    have h1 : ¬ ((i : Int) < (x0.length : Int)) := by omega
    simp only [laws_toInt64S.l0, if_neg h1, List.replicate_zero, List.append_nil]
    rw [List.take_of_length_le (by omega)]
  | n + 1, 0, _, _, h => absurd h (by omega)
  | n + 1, k + 1, i, hi, h => by
    have hm := maxLen_le
    have h1 : (i : Int) < (x0.length : Int) := by omega
    have h2 : (0 : Int) ≤ (i : Int) := by omega
    have h3 : (i : Int) < ((x0.take i ++ List.replicate (n + 1) (0 : Int)).length : Int) := by simp; omega
    have h4 : wrap64 ((i : Int) + 1) = ((i + 1 : Nat) : Int) := by rw [wrap64_in (by omega)]; omega
    simp only [laws_toInt64S.l0]
    rw [if_pos h1, if_pos h2, if_pos h3, h4]
    rw [← laws_toInt64S.l0_eq x0 hb n k (i + 1) (by omega) (by omega)]
    congr 1
    rw [rd_at x0 i (by omega), Int.toNat_natCast, List.set_append_right _ _ (by simp; omega)]
    have h5 : i - (x0.take i).length = 0 := by simp; omega
    rw [h5, List.take_succ_eq_append_getElem (by omega), List.append_assoc, List.replicate_succ, List.set_cons_zero]
    rfl
theorem laws_toInt64S_eq (l : List Int) (k : Nat) (hb : l.length ≤ maxLen) (hb2 : l.length ≤ 1048576) (hk : l.length < k) : laws_toInt64S.f k l = some l := by
  unfold laws_toInt64S.f
  have h1 : (0 : Int) ≤ (l.length : Int) := by omega
  rw [if_pos h1, Int.toNat_natCast, if_pos (by omega)]
  exact laws_toInt64S.l0_eq l hb l.length k 0 (by omega) hk
theorem laws_eqInt64S.l0_eq (x0 : List Int) (hb : x0.length ≤ maxLen) : ∀ (n k i : Nat), x0.length = i + n → n < k → laws_eqInt64S.l0 k x0 x0 (i : Int) = some true
  | 0, 0, _, _, h => absurd h (by omega)
  | 0, k + 1, i, hi, _ => by
    have h1 : ¬ ((i : Int) < (x0.length : Int)) := by omega
    simp only [laws_eqInt64S.l0, if_neg h1]
  | n + 1, 0, _, _, h => absurd h (by omega)
  | n + 1, k + 1, i, hi, h => by
    have hm := maxLen_le
    have h1 : (i : Int) < (x0.length : Int) := by omega
    have h2 : (0 : Int) ≤ (i : Int) := by omega
    have h4 : wrap64 ((i : Int) + 1) = ((i + 1 : Nat) : Int) := by rw [wrap64_in (by omega)]; omega
    unfold laws_eqInt64S.l0
    rw [if_pos h1, if_pos h2, if_pos h1]
    rw [if_pos rfl, h4]
    exact laws_eqInt64S.l0_eq x0 hb n k (i + 1) (by omega) (by omega)
theorem laws_eqInt64S_eq (l : List Int) (k : Nat) (hb : l.length ≤ maxLen) (hk : l.length < k) : laws_eqInt64S.f k l l = some true := by
  unfold laws_eqInt64S.f
  rw [if_pos rfl]
  exact laws_eqInt64S.l0_eq l hb l.length k 0 (by omega) hk
/-- The mapping of a char under a comparator, as a plain law. -/
def mc (a c : Int) : Int :=
  if a = 1 then c else if decide (97 ≤ c ∧ c ≤ 122) = true then wrap64 (c - 32) else if a = 2 then c else
    if ((decide (224 ≤ c ∧ c ≤ 254) && c != 247) || (decide (945 ≤ c ∧ c ≤ 969) && c != 962) || decide (1072 ≤ c ∧ c ≤ 1103)) = true then wrap64 (c - 32) else if decide (1104 ≤ c ∧ c ≤ 1119) = true then wrap64 (c - 80) else c
theorem in_eq (a b c : Int) : spec_l1In.f a b c = some (decide (b ≤ a ∧ a ≤ c)) := by
  unfold spec_l1In.f; by_cases h : a ≥ b <;> simp [h] <;> omega
theorem spec_l3Char_eq (k : Nat) (a c : Int) (h : 1 ≤ a ∧ a ≤ 3) : spec_l3Char.f (k + 2) a c = some (mc a c) := by
  simp only [spec_l3Char.f, spec_l3Char.j0, spec_l3Char.j1, in_eq, Option.bind_some, mc]
  have : a = 1 ∨ a = 2 ∨ a = 3 := by omega
  generalize decide (97 ≤ c ∧ c ≤ 122) = p1
  generalize decide (224 ≤ c ∧ c ≤ 254) = p2
  generalize decide (945 ≤ c ∧ c ≤ 969) = p3
  generalize decide (1072 ≤ c ∧ c ≤ 1103) = p4
  generalize decide (1104 ≤ c ∧ c ≤ 1119) = p5
  by_cases h1 : c = 247 <;> by_cases h2 : c = 962
  · omega
  all_goals (rcases this with rfl | rfl | rfl <;> cases p1 <;> cases p2 <;> cases p3 <;> cases p4 <;> cases p5 <;> simp [h1, h2])
def cmpL : List Int → List Int → Int
  | [], [] => 0
  | [], _ :: _ => -1
  | _ :: _, [] => 1
  | x :: xs, y :: ys => if x < y then -1 else if x > y then 1 else cmpL xs ys
theorem cmpL_zero : ∀ xs ys, cmpL xs ys = 0 ↔ xs = ys
  | [], [] => by simp [cmpL]
  | [], _ :: _ => by simp [cmpL]
  | _ :: _, [] => by simp [cmpL]
  | x :: xs, y :: ys => by
    have ih := cmpL_zero xs ys
    unfold cmpL
    by_cases h1 : x < y
    · rw [if_pos h1]
      constructor
      · intro h; omega
      · intro h; have := (List.cons.inj h).1; omega
    · rw [if_neg h1]
      by_cases h2 : x > y
      · rw [if_pos h2]
        constructor
        · intro h; omega
        · intro h; have := (List.cons.inj h).1; omega
      · rw [if_neg h2, ih]
        have : x = y := by omega
        subst this
        simp
theorem spec_l3Compare.l0_eq (a : Int) (ha : 1 ≤ a ∧ a ≤ 3) (X Y : List Int) (hx : X.length ≤ 1048576) (hy : Y.length ≤ 1048576) : ∀ (n k i : Nat), X.length = i + n → i ≤ Y.length → 2 * n + 4 < k → spec_l3Compare.l0 k a X Y (i : Int) = some (cmpL ((X.drop i).map (mc a)) ((Y.drop i).map (mc a)))
  | _, 0, _, _, _, h => absurd h (by omega)
  | _, 1, _, _, _, h => absurd h (by omega)
  | 0, k + 2, i, hi, hj, _ => by
    have h1 : ¬ ((i : Int) < (X.length : Int)) := by omega
    unfold spec_l3Compare.l0
    rw [if_neg h1]
    unfold spec_l3Compare.j1
    rw [if_neg (by decide), List.drop_eq_nil_of_le (by omega : X.length ≤ i)]
    by_cases h2 : i < Y.length
    · rw [if_pos (by omega), List.drop_eq_getElem_cons h2]; rfl
    · rw [if_neg (by omega), if_neg (by omega), List.drop_eq_nil_of_le (by omega)]; rfl
  | n + 1, k + 2, i, hi, hj, h => by
    have h1 : (i : Int) < (X.length : Int) := by omega
    have h2 : (0 : Int) ≤ (i : Int) := by omega
    have h4 : wrap64 ((i : Int) + 1) = ((i + 1 : Nat) : Int) := by rw [wrap64_in (by omega)]; omega
    have hlt : i < X.length := by omega
    obtain ⟨k2, rfl⟩ : ∃ k2, k = k2 + 2 := ⟨k - 2, by omega⟩
    unfold spec_l3Compare.l0
    rw [if_pos h1]
    unfold spec_l3Compare.j1
    rw [List.drop_eq_getElem_cons hlt]
    by_cases h5 : i < Y.length
    · have h6 : (i : Int) < (Y.length : Int) := by omega
      rw [decide_eq_true h6, if_pos rfl, if_pos h2, if_pos h1, rd_at X i hlt, spec_l3Char_eq k2 a _ ha, Option.bind_some, if_pos h6, rd_at Y i h5, spec_l3Char_eq k2 a _ ha, Option.bind_some, h4, spec_l3Compare.l0_eq a ha X Y hx hy n (k2 + 2) (i + 1) (by omega) (by omega) (by omega), List.drop_eq_getElem_cons h5, List.map_cons, List.map_cons]
      conv => rhs; unfold cmpL
      generalize mc a X[i] = u
      generalize mc a Y[i] = v
      by_cases g1 : u < v
      · rw [if_pos g1, if_pos g1]
      · rw [if_neg g1, if_neg g1]
        by_cases g2 : u > v
        · rw [if_pos g2, if_pos g2]
        · rw [if_neg g2, if_neg g2]
    · have h6 : ¬ ((i : Int) < (Y.length : Int)) := by omega
      rw [decide_eq_false h6, if_neg (by decide), if_neg (by omega), if_pos (by omega), List.drop_eq_nil_of_le (by omega : Y.length ≤ i)]
      rfl
theorem spec_l3Compare_eq (a : Int) (ha : 1 ≤ a ∧ a ≤ 3) (X Y : List Int) (k : Nat) (hx : X.length ≤ 1048576) (hy : Y.length ≤ 1048576) (hk : 2 * X.length + 4 < k) : spec_l3Compare.f k a X Y = some (cmpL (X.map (mc a)) (Y.map (mc a))) := by
  unfold spec_l3Compare.f
  have := spec_l3Compare.l0_eq a ha X Y hx hy X.length k 0 (by omega) (by omega) hk
  simpa using this
theorem cmp_Compare_eq (x y : Int) : cmp_Compare_int64.f x y = some (if x < y then -1 else if x > y then 1 else 0) := by
  unfold cmp_Compare_int64.f cmp_isNaN_int64.f
  simp only [bne_self_eq_false, Option.bind_some, Bool.false_eq_true, if_false]
  repeat' split
  all_goals rfl
theorem slices_Compare_int64_int64.l0_eq (X Y : List Int) (hx : X.length ≤ 1048576) (hy : Y.length ≤ 1048576) : ∀ (n k i : Nat), X.length = i + n → i ≤ Y.length → n < k → slices_Compare_int64_int64.l0 k X Y X (X.length : Int) (i : Int) = some (cmpL (X.drop i) (Y.drop i))
  | _, 0, _, _, _, h => absurd h (by omega)
  | 0, k + 1, i, hi, hj, _ => by
    have h1 : ¬ ((i : Int) < (X.length : Int)) := by omega
    unfold slices_Compare_int64_int64.l0
    rw [if_neg h1, List.drop_eq_nil_of_le (by omega : X.length ≤ i)]
    by_cases h2 : i < Y.length
    · rw [if_pos (by omega), List.drop_eq_getElem_cons h2]; rfl
    · rw [if_neg (by omega), List.drop_eq_nil_of_le (by omega)]; rfl
  | n + 1, k + 1, i, hi, hj, h => by
    have h1 : (i : Int) < (X.length : Int) := by omega
    have h2 : (0 : Int) ≤ (i : Int) := by omega
    have h4 : wrap64 ((i : Int) + 1) = ((i + 1 : Nat) : Int) := by rw [wrap64_in (by omega)]; omega
    have hlt : i < X.length := by omega
    unfold slices_Compare_int64_int64.l0
    rw [if_pos h1, if_pos h2, if_pos h1, List.drop_eq_getElem_cons hlt]
    by_cases h5 : i < Y.length
    · rw [if_neg (by omega), if_pos (by omega), rd_at X i hlt, rd_at Y i h5, cmp_Compare_eq, Option.bind_some, h4, List.drop_eq_getElem_cons h5, slices_Compare_int64_int64.l0_eq X Y hx hy n k (i + 1) (by omega) (by omega) (by omega)]
      conv => rhs; unfold cmpL
      generalize X[i] = u
      generalize Y[i] = v
      by_cases g1 : u < v
      · rw [if_pos g1, if_pos g1]; rfl
      · rw [if_neg g1, if_neg g1]
        by_cases g2 : u > v
        · rw [if_pos g2, if_pos g2]; rfl
        · rw [if_neg g2, if_neg g2]; rfl
    · rw [if_pos (by omega), List.drop_eq_nil_of_le (by omega : Y.length ≤ i)]
      rfl
theorem slices_Compare_eq (X Y : List Int) (k : Nat) (hx : X.length ≤ 1048576) (hy : Y.length ≤ 1048576) (hk : X.length < k) : slices_Compare_int64_int64.f k X Y = some (cmpL X Y) := by
  unfold slices_Compare_int64_int64.f
  have := slices_Compare_int64_int64.l0_eq X Y hx hy X.length k 0 (by omega) (by omega) hk
  simpa using this
theorem within_eq (a b c : Int) : impl_within.f a b c = some (decide (b ≤ a ∧ a ≤ c)) := by
  unfold impl_within.f; by_cases h : a ≥ b <;> simp [h] <;> omega
theorem impl_mapped_eq (k : Nat) (a c : Int) (h : 1 ≤ a ∧ a ≤ 3) : impl_mapped.f (k + 1) a c = some (mc a c) := by
  simp only [impl_mapped.f, impl_mapped.j0, within_eq, Option.bind_some, mc]
  have : a = 1 ∨ a = 2 ∨ a = 3 := by omega
  generalize decide (97 ≤ c ∧ c ≤ 122) = p1
  generalize decide (224 ≤ c ∧ c ≤ 254) = p2
  generalize decide (945 ≤ c ∧ c ≤ 969) = p3
  generalize decide (1072 ≤ c ∧ c ≤ 1103) = p4
  generalize decide (1104 ≤ c ∧ c ≤ 1119) = p5
  by_cases h1 : c = 247 <;> by_cases h2 : c = 962
  · omega
  all_goals (rcases this with rfl | rfl | rfl <;> cases p1 <;> cases p2 <;> cases p3 <;> cases p4 <;> cases p5 <;> simp [h1, h2])
theorem impl_mappedAll.l0_eq (a : Int) (ha : 1 ≤ a ∧ a ≤ 3) (L : List Int) (hb : L.length ≤ 1048576) : ∀ (n k i : Nat) (acc : List Int), L.length = i + n → n + 1 < k → acc.length + n ≤ 1048576 → impl_mappedAll.l0 k a acc L (L.length : Int) (i : Int) = some (acc ++ (L.drop i).map (mc a))
  | _, 0, _, _, _, h, _ => absurd h (by omega)
  | 0, k + 1, i, acc, hi, _, _ => by
    have h1 : ¬ ((i : Int) < (L.length : Int)) := by omega
    unfold impl_mappedAll.l0
    rw [if_neg h1, List.drop_eq_nil_of_le (by omega)]
    simp
  | n + 1, k + 1, i, acc, hi, h, hc => by
    have h1 : (i : Int) < (L.length : Int) := by omega
    have h2 : (0 : Int) ≤ (i : Int) := by omega
    have h4 : wrap64 ((i : Int) + 1) = ((i + 1 : Nat) : Int) := by rw [wrap64_in (by omega)]; omega
    obtain ⟨k2, rfl⟩ : ∃ k2, k = k2 + 1 := ⟨k - 1, by omega⟩
    unfold impl_mappedAll.l0
    rw [if_pos h1, if_pos h2, if_pos h1, rd_at L i (by omega), impl_mapped_eq k2 a _ ha, Option.bind_some, if_pos (by omega), h4, impl_mappedAll.l0_eq a ha L hb n (k2 + 1) (i + 1) _ (by omega) (by omega) (by simp; omega), List.drop_eq_getElem_cons (by omega : i < L.length), List.map_cons, List.append_assoc]
    rfl
theorem impl_mappedAll_eq (a : Int) (ha : 1 ≤ a ∧ a ≤ 3) (L : List Int) (k : Nat) (hb : L.length ≤ 1048576) (hk : L.length + 1 < k) : impl_mappedAll.f k a L = some (L.map (mc a)) := by
  unfold impl_mappedAll.f
  have := impl_mappedAll.l0_eq a ha L hb L.length k 0 [] (by omega) hk (by simp; omega)
  simpa using this
theorem spec_l3Cmp_eq (a : Int) : spec_l3Cmp.f a = some (decide (1 ≤ a ∧ a ≤ 3)) := by
  simp only [spec_l3Cmp.f, in_eq, Option.bind_some]
theorem impl_isComparator_eq (a : Int) : impl_isComparator.f a = some (decide (1 ≤ a ∧ a ≤ 3)) := by
  simp only [impl_isComparator.f, within_eq, Option.bind_some]
def charB (c : Int) : Bool := decide (0 ≤ c ∧ c ≤ 55295) || decide (57344 ≤ c ∧ c ≤ 65535)
theorem charB_iff (c : Int) : charB c = true ↔ (0 ≤ c ∧ c ≤ 55295) ∨ (57344 ≤ c ∧ c ≤ 65535) := by
  simp [charB]
theorem spec_l2Char_eq (c : Int) : spec_l2Char.f c = some (charB c) := by
  simp only [spec_l2Char.f, in_eq, Option.bind_some, charB]
  generalize decide (0 ≤ c ∧ c ≤ 55295) = x
  cases x <;> simp
theorem spec_l2Fault.l0_eq (x0 : List Int) (hb : x0.length ≤ maxLen) : ∀ (n k i : Nat), x0.length = i + n → n < k → spec_l2Fault.l0 k x0 (i : Int) = some (if (x0.drop i).all charB = true then 0 else 3)
  | 0, 0, _, _, h => absurd h (by omega)
  | 0, k + 1, i, hi, _ => by
    have h1 : ¬ ((i : Int) < (x0.length : Int)) := by omega
    unfold spec_l2Fault.l0
    rw [if_neg h1, List.drop_eq_nil_of_le (by omega)]
    rfl
  | n + 1, 0, _, _, h => absurd h (by omega)
  | n + 1, k + 1, i, hi, h => by
    have hm := maxLen_le
    have h1 : (i : Int) < (x0.length : Int) := by omega
    have h2 : (0 : Int) ≤ (i : Int) := by omega
    have h4 : wrap64 ((i : Int) + 1) = ((i + 1 : Nat) : Int) := by rw [wrap64_in (by omega)]; omega
    unfold spec_l2Fault.l0
    rw [if_pos h1, if_pos h2, h4, rd_at x0 i (by omega), List.drop_eq_getElem_cons (by omega), List.all_cons, spec_l2Fault.l0_eq x0 hb n k (i + 1) (by omega) (by omega), spec_l2Char_eq, Option.bind_some]
    cases charB x0[i] <;> rfl
theorem spec_l2Fault_eq (l : List Int) (k : Nat) (hb : l.length ≤ maxLen) (hk : l.length < k) : spec_l2Fault.f k l = some (if 400 < l.length then 2 else if l.all charB = true then 0 else 3) := by
  unfold spec_l2Fault.f
  by_cases h : 400 < l.length
  · rw [if_pos (by omega), if_pos h]
  · rw [if_neg (by omega), if_neg h]
    have := spec_l2Fault.l0_eq l hb l.length k 0 (by omega) hk
    simpa using this
theorem CodesFault_p_eq (c : Int) : impl_CodesFault.p c = !charB c := by
  unfold impl_CodesFault.p charB
  rw [Bool.eq_iff_iff]; simp only [Bool.and_eq_true, Bool.or_eq_true, Bool.not_eq_true', decide_eq_true_eq, decide_eq_false_iff_not, Bool.and_eq_false_iff, Bool.not_eq_false', Bool.or_eq_false_iff]; omega
theorem CodesFault_any (l : List Int) : l.any impl_CodesFault.p = !(l.all charB) := by
  induction l with
  | nil => rfl
  | cons x xs ih => rw [List.any_cons, List.all_cons, ih, CodesFault_p_eq, Bool.not_and]
theorem impl_CodesFault_eq (l : List Int) : impl_CodesFault.f l = some (if 400 < l.length then 2 else if l.all charB = true then 0 else 3) := by
  unfold impl_CodesFault.f
  rw [CodesFault_any]
  by_cases h : 400 < l.length
  · rw [if_pos h, if_pos h]
  · rw [if_neg h, if_neg h]
    cases l.all charB <;> rfl
theorem firstCode2 (k : Nat) (u v : Int) : impl_firstCode.f (k + 3) [u, v] = some (if u = 0 then v else u) := by
  have w1 : wrap64 (0 + 1) = 1 := by decide +kernel
  have w2 : wrap64 (1 + 1) = 2 := by decide +kernel
  unfold impl_firstCode.f
  rw [show (([u, v] : List Int).length : Int) = 2 from rfl]
  unfold impl_firstCode.l0
  rw [if_pos (by decide), if_pos (by decide), if_pos (by simp), show rd [u, v] 0 = u from rfl, w1]
  by_cases h : u = 0
  · rw [if_pos h, if_pos h]
    unfold impl_firstCode.l0
    rw [if_pos (by decide), if_pos (by decide), if_pos (by simp), show rd [u, v] 1 = v from rfl, w2]
    by_cases h2 : v = 0
    · rw [if_pos h2, h2]
      unfold impl_firstCode.l0
      rw [if_neg (by decide)]
    · rw [if_neg h2]
  · rw [if_neg h, if_neg h]
def fault (l : List Int) : Int := if 400 < l.length then 2 else if l.all charB = true then 0 else 3
def cmpo (a : Int) (X Y : List Int) : Int × Int :=
  if 1 ≤ a ∧ a ≤ 3 then (if fault X = 0 then (if fault Y = 0 then (0, cmpL (X.map (mc a)) (Y.map (mc a))) else (fault Y, 0)) else (fault X, 0)) else (4, 0)
theorem spec_CompareCodes_eq (a : Int) (X Y : List Int) (k : Nat) (hx : X.length ≤ 1048576) (hy : Y.length ≤ 1048576) (hk : 2 * X.length + Y.length + 8 < k) : spec_CompareCodes.f k a X Y = some (cmpo a X Y) := by
  unfold spec_CompareCodes.f cmpo
  rw [spec_l3Cmp_eq, spec_l2Fault_eq X k (by unfold maxLen; omega) (by omega), spec_l2Fault_eq Y k (by unfold maxLen; omega) (by omega)]
  simp only [Option.bind_some]
  by_cases ha : 1 ≤ a ∧ a ≤ 3
  · rw [decide_eq_true ha, if_pos rfl, if_pos ha, spec_l3Compare_eq a ha X Y k hx hy (by omega)]
    change (if fault X = 0 then (if fault Y = 0 then ((some (cmpL (X.map (mc a)) (Y.map (mc a)))).bind fun t => some ((0 : Int), t)) else some (fault Y, 0)) else some (fault X, 0)) = some (if fault X = 0 then (if fault Y = 0 then (0, cmpL (X.map (mc a)) (Y.map (mc a))) else (fault Y, 0)) else (fault X, 0))
    by_cases h1 : fault X = 0
    · rw [if_pos h1, if_pos h1]
      by_cases h2 : fault Y = 0
      · rw [if_pos h2, if_pos h2]; rfl
      · rw [if_neg h2, if_neg h2]
    · rw [if_neg h1, if_neg h1]
  · rw [decide_eq_false ha, if_neg ha]; rfl
theorem impl_CompareCodes_eq (a : Int) (X Y : List Int) (k : Nat) (hx : X.length ≤ 1048576) (hy : Y.length ≤ 1048576) (hk : 2 * X.length + Y.length + 8 < k) : impl_CompareCodes.f k a X Y = some (cmpo a X Y) := by
  obtain ⟨k2, rfl⟩ : ∃ k2, k = k2 + 3 := ⟨k - 3, by omega⟩
  unfold impl_CompareCodes.f cmpo
  rw [impl_isComparator_eq, impl_CodesFault_eq, impl_CodesFault_eq]
  simp only [Option.bind_some]
  by_cases ha : 1 ≤ a ∧ a ≤ 3
  · rw [decide_eq_true ha, if_pos rfl, if_pos ha]
    show (impl_firstCode.f (k2 + 3) [fault X, fault Y]).bind _ = _
    rw [firstCode2, Option.bind_some]
    unfold impl_compared.f
    rw [impl_mappedAll_eq a ha X _ hx (by omega), impl_mappedAll_eq a ha Y _ hy (by omega)]
    simp only [Option.bind_some]
    rw [slices_Compare_eq _ _ _ (by rw [List.length_map]; omega) (by rw [List.length_map]; omega) (by rw [List.length_map]; omega)]
    by_cases h1 : fault X = 0
    · rw [if_pos h1, if_pos h1]
      by_cases h2 : fault Y = 0
      · rw [if_pos h2, if_pos h2]; rfl
      · rw [if_neg h2, if_neg h2]
    · rw [if_neg h1, if_neg h1, if_neg h1]
  · rw [decide_eq_false ha, if_neg ha]; rfl
theorem FnExactCompareCodes : laws_FnExactCompareCodes.Pure := by
  intro a X Y _ hb _ _ hc _ _
  refine ⟨2 * X.length + Y.length + 9, ?_⟩
  unfold laws_FnExactCompareCodes.f
  by_cases hl : (X.length : Int) > 1048576
  · rw [if_pos hl]
  · rw [if_neg hl]
    by_cases hl2 : (Y.length : Int) > 1048576
    · rw [if_pos hl2]
    · rw [if_neg hl2]
      have h1 := spec_CompareCodes_eq a X Y (2 * X.length + Y.length + 9) (by omega) (by omega) (by omega)
      have h2 := impl_CompareCodes_eq a X Y (2 * X.length + Y.length + 9) (by omega) (by omega) (by omega)
      have e1 := laws_toInt64S_eq X (2 * X.length + Y.length + 9) hb (by omega) (by omega)
      have e2 := laws_toInt64S_eq Y (2 * X.length + Y.length + 9) hc (by omega) (by omega)
      have e3 := laws_eqInt64S_eq X (2 * X.length + Y.length + 9) hb (by omega)
      have e4 := laws_eqInt64S_eq Y (2 * X.length + Y.length + 9) hc (by omega)
      simp [e1, e2, e3, e4, h1, h2, laws_eqIntResult.f]

end Go.Proofs.Ytcmndjbokgaihaa.Pure
