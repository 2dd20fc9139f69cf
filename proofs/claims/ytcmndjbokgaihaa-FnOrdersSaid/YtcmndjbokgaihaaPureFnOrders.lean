/- The plain law: what the walk computes answers as the statement says. -/
import Derived.Test.YtcmndjbokgaihaaPFnOrdersx4
namespace Go.Proofs.Ytcmndjbokgaihaa.Pure
open Go.RowKit Go.Proofs.Ytcmndjbokgaihaa.PFnOrders Go.Proofs.YtcmndjbokgaihaaW.PrintWords Go.Proofs.YtcmndjbokgaihaaW.PrintLast
set_option linter.unusedSimpArgs false
set_option linter.unusedVariables false
theorem rd_at (l : List Int) (i : Nat) (h : i < l.length) : rd l (i : Int) = l[i] := by
  simp [rd, List.getD_eq_getElem?_getD, h]
theorem wrap64_in {n : Int} (h : -9223372036854775808 ≤ n ∧ n ≤ 9223372036854775807) : wrap64 n = n := by
  unfold wrap64; omega
theorem maxLen_le : maxLen ≤ 9223372036854775807 := by unfold maxLen; decide
/-- The mapping of a char under a comparator, as a plain law. -/
def mc (a c : Int) : Int :=
  if a = 1 then c else if decide (97 ≤ c ∧ c ≤ 122) = true then wrap64 (c - 32) else if a = 2 then c else
    if ((decide (224 ≤ c ∧ c ≤ 254) && c != 247) || (decide (945 ≤ c ∧ c ≤ 969) && c != 962) || decide (1072 ≤ c ∧ c ≤ 1103)) = true then wrap64 (c - 32) else if decide (1104 ≤ c ∧ c ≤ 1119) = true then wrap64 (c - 80) else c
theorem in_eq (a b c : Int) : spec_l1In.f a b c = some (decide (b ≤ a ∧ a ≤ c)) := by
  unfold spec_l1In.f; by_cases h : a ≥ b <;> simp [h] <;> omega
theorem spec_l3Char_eq (k : Nat) (a c : Int) (h : 1 ≤ a ∧ a ≤ 3) : spec_l3Char.f (k + 2) a c = some (mc a c) := by
  simp only [spec_l3Char.f, spec_l3Char.j0, spec_l3Char.j1, in_eq, Option.bind_some, mc]
  have : a = 1 ∨ a = 2 ∨ a = 3 := by omega
  generalize decide (97 ≤ c ∧ c ≤ 122) = p1
  generalize decide (224 ≤ c ∧ c ≤ 254) = p2
  generalize decide (945 ≤ c ∧ c ≤ 969) = p3
  generalize decide (1072 ≤ c ∧ c ≤ 1103) = p4
  generalize decide (1104 ≤ c ∧ c ≤ 1119) = p5
  by_cases h1 : c = 247 <;> by_cases h2 : c = 962
  · omega
  all_goals (rcases this with rfl | rfl | rfl <;> cases p1 <;> cases p2 <;> cases p3 <;> cases p4 <;> cases p5 <;> simp [h1, h2])
def cmpL : List Int → List Int → Int
  | [], [] => 0
  | [], _ :: _ => -1
  | _ :: _, [] => 1
  | x :: xs, y :: ys => if x < y then -1 else if x > y then 1 else cmpL xs ys
theorem cmpL_zero : ∀ xs ys, cmpL xs ys = 0 ↔ xs = ys
  | [], [] => by simp [cmpL]
  | [], _ :: _ => by simp [cmpL]
  | _ :: _, [] => by simp [cmpL]
  | x :: xs, y :: ys => by
    have ih := cmpL_zero xs ys
    unfold cmpL
    by_cases h1 : x < y
    · rw [if_pos h1]
      constructor
      · intro h; omega
      · intro h; have := (List.cons.inj h).1; omega
    · rw [if_neg h1]
      by_cases h2 : x > y
      · rw [if_pos h2]
        constructor
        · intro h; omega
        · intro h; have := (List.cons.inj h).1; omega
      · rw [if_neg h2, ih]
        have : x = y := by omega
        subst this
        simp
theorem spec_l3Compare.l0_eq (a : Int) (ha : 1 ≤ a ∧ a ≤ 3) (X Y : List Int) (hx : X.length ≤ 1048576) (hy : Y.length ≤ 1048576) : ∀ (n k i : Nat), X.length = i + n → i ≤ Y.length → 2 * n + 4 < k → spec_l3Compare.l0 k a X Y (i : Int) = some (cmpL ((X.drop i).map (mc a)) ((Y.drop i).map (mc a)))
  | _, 0, _, _, _, h => absurd h (by omega)
  | _, 1, _, _, _, h => absurd h (by omega)
  | 0, k + 2, i, hi, hj, _ => by
    have h1 : ¬ ((i : Int) < (X.length : Int)) := by omega
    unfold spec_l3Compare.l0
    rw [if_neg h1]
    unfold spec_l3Compare.j1
    rw [if_neg (by decide), List.drop_eq_nil_of_le (by omega : X.length ≤ i)]
    by_cases h2 : i < Y.length
    · rw [if_pos (by omega), List.drop_eq_getElem_cons h2]; rfl
    · rw [if_neg (by omega), if_neg (by omega), List.drop_eq_nil_of_le (by omega)]; rfl
  | n + 1, k + 2, i, hi, hj, h => by
    have h1 : (i : Int) < (X.length : Int) := by omega
    have h2 : (0 : Int) ≤ (i : Int) := by omega
    have h4 : wrap64 ((i : Int) + 1) = ((i + 1 : Nat) : Int) := by rw [wrap64_in (by omega)]; omega
    have hlt : i < X.length := by omega
    obtain ⟨k2, rfl⟩ : ∃ k2, k = k2 + 2 := ⟨k - 2, by omega⟩
    unfold spec_l3Compare.l0
    rw [if_pos h1]
    unfold spec_l3Compare.j1
    rw [List.drop_eq_getElem_cons hlt]
    by_cases h5 : i < Y.length
    · have h6 : (i : Int) < (Y.length : Int) := by omega
      rw [decide_eq_true h6, if_pos rfl, if_pos h2, if_pos h1, rd_at X i hlt, spec_l3Char_eq k2 a _ ha, Option.bind_some, if_pos h6, rd_at Y i h5, spec_l3Char_eq k2 a _ ha, Option.bind_some, h4, spec_l3Compare.l0_eq a ha X Y hx hy n (k2 + 2) (i + 1) (by omega) (by omega) (by omega), List.drop_eq_getElem_cons h5, List.map_cons, List.map_cons]
      conv => rhs; unfold cmpL
      generalize mc a X[i] = u
      generalize mc a Y[i] = v
      by_cases g1 : u < v
      · rw [if_pos g1, if_pos g1]
      · rw [if_neg g1, if_neg g1]
        by_cases g2 : u > v
        · rw [if_pos g2, if_pos g2]
        · rw [if_neg g2, if_neg g2]
    · have h6 : ¬ ((i : Int) < (Y.length : Int)) := by omega
      rw [decide_eq_false h6, if_neg (by decide), if_neg (by omega), if_pos (by omega), List.drop_eq_nil_of_le (by omega : Y.length ≤ i)]
      rfl
theorem spec_l3Compare_eq (a : Int) (ha : 1 ≤ a ∧ a ≤ 3) (X Y : List Int) (k : Nat) (hx : X.length ≤ 1048576) (hy : Y.length ≤ 1048576) (hk : 2 * X.length + 4 < k) : spec_l3Compare.f k a X Y = some (cmpL (X.map (mc a)) (Y.map (mc a))) := by
  unfold spec_l3Compare.f
  have := spec_l3Compare.l0_eq a ha X Y hx hy X.length k 0 (by omega) (by omega) hk
  simpa using this
theorem cmp_Compare_eq (x y : Int) : cmp_Compare_int64.f x y = some (if x < y then -1 else if x > y then 1 else 0) := by
  unfold cmp_Compare_int64.f cmp_isNaN_int64.f
  simp only [bne_self_eq_false, Option.bind_some, Bool.false_eq_true, if_false]
  repeat' split
  all_goals rfl
theorem slices_Compare_int64_int64.l0_eq (X Y : List Int) (hx : X.length ≤ 1048576) (hy : Y.length ≤ 1048576) : ∀ (n k i : Nat), X.length = i + n → i ≤ Y.length → n < k → slices_Compare_int64_int64.l0 k X Y X (X.length : Int) (i : Int) = some (cmpL (X.drop i) (Y.drop i))
  | _, 0, _, _, _, h => absurd h (by omega)
  | 0, k + 1, i, hi, hj, _ => by
    have h1 : ¬ ((i : Int) < (X.length : Int)) := by omega
    unfold slices_Compare_int64_int64.l0
    rw [if_neg h1, List.drop_eq_nil_of_le (by omega : X.length ≤ i)]
    by_cases h2 : i < Y.length
    · rw [if_pos (by omega), List.drop_eq_getElem_cons h2]; rfl
    · rw [if_neg (by omega), List.drop_eq_nil_of_le (by omega)]; rfl
  | n + 1, k + 1, i, hi, hj, h => by
    have h1 : (i : Int) < (X.length : Int) := by omega
    have h2 : (0 : Int) ≤ (i : Int) := by omega
    have h4 : wrap64 ((i : Int) + 1) = ((i + 1 : Nat) : Int) := by rw [wrap64_in (by omega)]; omega
    have hlt : i < X.length := by omega
    unfold slices_Compare_int64_int64.l0
    rw [if_pos h1, if_pos h2, if_pos h1, List.drop_eq_getElem_cons hlt]
    by_cases h5 : i < Y.length
    · rw [if_neg (by omega), if_pos (by omega), rd_at X i hlt, rd_at Y i h5, cmp_Compare_eq, Option.bind_some, h4, List.drop_eq_getElem_cons h5, slices_Compare_int64_int64.l0_eq X Y hx hy n k (i + 1) (by omega) (by omega) (by omega)]
      conv => rhs; unfold cmpL
      generalize X[i] = u
      generalize Y[i] = v
      by_cases g1 : u < v
      · rw [if_pos g1, if_pos g1]; rfl
      · rw [if_neg g1, if_neg g1]
        by_cases g2 : u > v
        · rw [if_pos g2, if_pos g2]; rfl
        · rw [if_neg g2, if_neg g2]; rfl
    · rw [if_pos (by omega), List.drop_eq_nil_of_le (by omega : Y.length ≤ i)]
      rfl
theorem slices_Compare_eq (X Y : List Int) (k : Nat) (hx : X.length ≤ 1048576) (hy : Y.length ≤ 1048576) (hk : X.length < k) : slices_Compare_int64_int64.f k X Y = some (cmpL X Y) := by
  unfold slices_Compare_int64_int64.f
  have := slices_Compare_int64_int64.l0_eq X Y hx hy X.length k 0 (by omega) (by omega) hk
  simpa using this
theorem within_eq (a b c : Int) : impl_within.f a b c = some (decide (b ≤ a ∧ a ≤ c)) := by
  unfold impl_within.f; by_cases h : a ≥ b <;> simp [h] <;> omega
theorem impl_mapped_eq (k : Nat) (a c : Int) (h : 1 ≤ a ∧ a ≤ 3) : impl_mapped.f (k + 1) a c = some (mc a c) := by
  simp only [impl_mapped.f, impl_mapped.j0, within_eq, Option.bind_some, mc]
  have : a = 1 ∨ a = 2 ∨ a = 3 := by omega
  generalize decide (97 ≤ c ∧ c ≤ 122) = p1
  generalize decide (224 ≤ c ∧ c ≤ 254) = p2
  generalize decide (945 ≤ c ∧ c ≤ 969) = p3
  generalize decide (1072 ≤ c ∧ c ≤ 1103) = p4
  generalize decide (1104 ≤ c ∧ c ≤ 1119) = p5
  by_cases h1 : c = 247 <;> by_cases h2 : c = 962
  · omega
  all_goals (rcases this with rfl | rfl | rfl <;> cases p1 <;> cases p2 <;> cases p3 <;> cases p4 <;> cases p5 <;> simp [h1, h2])
theorem impl_mappedAll.l0_eq (a : Int) (ha : 1 ≤ a ∧ a ≤ 3) (L : List Int) (hb : L.length ≤ 1048576) : ∀ (n k i : Nat) (acc : List Int), L.length = i + n → n + 1 < k → acc.length + n ≤ 1048576 → impl_mappedAll.l0 k a acc L (L.length : Int) (i : Int) = some (acc ++ (L.drop i).map (mc a))
  | _, 0, _, _, _, h, _ => absurd h (by omega)
  | 0, k + 1, i, acc, hi, _, _ => by
    have h1 : ¬ ((i : Int) < (L.length : Int)) := by omega
    unfold impl_mappedAll.l0
    rw [if_neg h1, List.drop_eq_nil_of_le (by omega)]
    simp
  | n + 1, k + 1, i, acc, hi, h, hc => by
    have h1 : (i : Int) < (L.length : Int) := by omega
    have h2 : (0 : Int) ≤ (i : Int) := by omega
    have h4 : wrap64 ((i : Int) + 1) = ((i + 1 : Nat) : Int) := by rw [wrap64_in (by omega)]; omega
    obtain ⟨k2, rfl⟩ : ∃ k2, k = k2 + 1 := ⟨k - 1, by omega⟩
    unfold impl_mappedAll.l0
    rw [if_pos h1, if_pos h2, if_pos h1, rd_at L i (by omega), impl_mapped_eq k2 a _ ha, Option.bind_some, if_pos (by omega), h4, impl_mappedAll.l0_eq a ha L hb n (k2 + 1) (i + 1) _ (by omega) (by omega) (by simp; omega), List.drop_eq_getElem_cons (by omega : i < L.length), List.map_cons, List.append_assoc]
    rfl
theorem impl_mappedAll_eq (a : Int) (ha : 1 ≤ a ∧ a ≤ 3) (L : List Int) (k : Nat) (hb : L.length ≤ 1048576) (hk : L.length + 1 < k) : impl_mappedAll.f k a L = some (L.map (mc a)) := by
  unfold impl_mappedAll.f
  have := impl_mappedAll.l0_eq a ha L hb L.length k 0 [] (by omega) hk (by simp; omega)
  simpa using this
theorem spec_l3Cmp_eq (a : Int) : spec_l3Cmp.f a = some (decide (1 ≤ a ∧ a ≤ 3)) := by
  simp only [spec_l3Cmp.f, in_eq, Option.bind_some]
theorem impl_isComparator_eq (a : Int) : impl_isComparator.f a = some (decide (1 ≤ a ∧ a ≤ 3)) := by
  simp only [impl_isComparator.f, within_eq, Option.bind_some]
def charB (c : Int) : Bool := decide (0 ≤ c ∧ c ≤ 55295) || decide (57344 ≤ c ∧ c ≤ 65535)
theorem charB_iff (c : Int) : charB c = true ↔ (0 ≤ c ∧ c ≤ 55295) ∨ (57344 ≤ c ∧ c ≤ 65535) := by
  simp [charB]
theorem spec_l2Char_eq (c : Int) : spec_l2Char.f c = some (charB c) := by
  simp only [spec_l2Char.f, in_eq, Option.bind_some, charB]
  generalize decide (0 ≤ c ∧ c ≤ 55295) = x
  cases x <;> simp
theorem spec_l2Fault.l0_eq (x0 : List Int) (hb : x0.length ≤ maxLen) : ∀ (n k i : Nat), x0.length = i + n → n < k → spec_l2Fault.l0 k x0 (i : Int) = some (if (x0.drop i).all charB = true then 0 else 3)
  | 0, 0, _, _, h => absurd h (by omega)
  | 0, k + 1, i, hi, _ => by
    have h1 : ¬ ((i : Int) < (x0.length : Int)) := by omega
    unfold spec_l2Fault.l0
    rw [if_neg h1, List.drop_eq_nil_of_le (by omega)]
    rfl
  | n + 1, 0, _, _, h => absurd h (by omega)
  | n + 1, k + 1, i, hi, h => by
    have hm := maxLen_le
    have h1 : (i : Int) < (x0.length : Int) := by omega
    have h2 : (0 : Int) ≤ (i : Int) := by omega
    have h4 : wrap64 ((i : Int) + 1) = ((i + 1 : Nat) : Int) := by rw [wrap64_in (by omega)]; omega
    unfold spec_l2Fault.l0
    rw [if_pos h1, if_pos h2, h4, rd_at x0 i (by omega), List.drop_eq_getElem_cons (by omega), List.all_cons, spec_l2Fault.l0_eq x0 hb n k (i + 1) (by omega) (by omega), spec_l2Char_eq, Option.bind_some]
    cases charB x0[i] <;> rfl
theorem spec_l2Fault_eq (l : List Int) (k : Nat) (hb : l.length ≤ maxLen) (hk : l.length < k) : spec_l2Fault.f k l = some (if 400 < l.length then 2 else if l.all charB = true then 0 else 3) := by
  unfold spec_l2Fault.f
  by_cases h : 400 < l.length
  · rw [if_pos (by omega), if_pos h]
  · rw [if_neg (by omega), if_neg h]
    have := spec_l2Fault.l0_eq l hb l.length k 0 (by omega) hk
    simpa using this
theorem CodesFault_p_eq (c : Int) : impl_CodesFault.p c = !charB c := by
  unfold impl_CodesFault.p charB
  rw [Bool.eq_iff_iff]; simp only [Bool.and_eq_true, Bool.or_eq_true, Bool.not_eq_true', decide_eq_true_eq, decide_eq_false_iff_not, Bool.and_eq_false_iff, Bool.not_eq_false', Bool.or_eq_false_iff]; omega
theorem CodesFault_any (l : List Int) : l.any impl_CodesFault.p = !(l.all charB) := by
  induction l with
  | nil => rfl
  | cons x xs ih => rw [List.any_cons, List.all_cons, ih, CodesFault_p_eq, Bool.not_and]
theorem impl_CodesFault_eq (l : List Int) : impl_CodesFault.f l = some (if 400 < l.length then 2 else if l.all charB = true then 0 else 3) := by
  unfold impl_CodesFault.f
  rw [CodesFault_any]
  by_cases h : 400 < l.length
  · rw [if_pos h, if_pos h]
  · rw [if_neg h, if_neg h]
    cases l.all charB <;> rfl
theorem firstCode2 (k : Nat) (u v : Int) : impl_firstCode.f (k + 3) [u, v] = some (if u = 0 then v else u) := by
  have w1 : wrap64 (0 + 1) = 1 := by decide +kernel
  have w2 : wrap64 (1 + 1) = 2 := by decide +kernel
  unfold impl_firstCode.f
  rw [show (([u, v] : List Int).length : Int) = 2 from rfl]
  unfold impl_firstCode.l0
  rw [if_pos (by decide), if_pos (by decide), if_pos (by simp), show rd [u, v] 0 = u from rfl, w1]
  by_cases h : u = 0
  · rw [if_pos h, if_pos h]
    unfold impl_firstCode.l0
    rw [if_pos (by decide), if_pos (by decide), if_pos (by simp), show rd [u, v] 1 = v from rfl, w2]
    by_cases h2 : v = 0
    · rw [if_pos h2, h2]
      unfold impl_firstCode.l0
      rw [if_neg (by decide)]
    · rw [if_neg h2]
  · rw [if_neg h, if_neg h]
def fault (l : List Int) : Int := if 400 < l.length then 2 else if l.all charB = true then 0 else 3
theorem fault_zero {l : List Int} (h : fault l = 0) : l.length ≤ 400 ∧ ∀ x ∈ l, charB x = true := by
  unfold fault at h
  by_cases h1 : 400 < l.length
  · rw [if_pos h1] at h; omega
  · rw [if_neg h1] at h
    by_cases h2 : l.all charB = true
    · exact ⟨by omega, List.all_eq_true.mp h2⟩
    · rw [if_neg h2] at h; omega
def cmpo (a : Int) (X Y : List Int) : Int × Int :=
  if 1 ≤ a ∧ a ≤ 3 then (if fault X = 0 then (if fault Y = 0 then (0, cmpL (X.map (mc a)) (Y.map (mc a))) else (fault Y, 0)) else (fault X, 0)) else (4, 0)
theorem spec_CompareCodes_eq (a : Int) (X Y : List Int) (k : Nat) (hx : X.length ≤ 1048576) (hy : Y.length ≤ 1048576) (hk : 2 * X.length + Y.length + 8 < k) : spec_CompareCodes.f k a X Y = some (cmpo a X Y) := by
  unfold spec_CompareCodes.f cmpo
  rw [spec_l3Cmp_eq, spec_l2Fault_eq X k (by unfold maxLen; omega) (by omega), spec_l2Fault_eq Y k (by unfold maxLen; omega) (by omega)]
  simp only [Option.bind_some]
  by_cases ha : 1 ≤ a ∧ a ≤ 3
  · rw [decide_eq_true ha, if_pos rfl, if_pos ha, spec_l3Compare_eq a ha X Y k hx hy (by omega)]
    change (if fault X = 0 then (if fault Y = 0 then ((some (cmpL (X.map (mc a)) (Y.map (mc a)))).bind fun t => some ((0 : Int), t)) else some (fault Y, 0)) else some (fault X, 0)) = some (if fault X = 0 then (if fault Y = 0 then (0, cmpL (X.map (mc a)) (Y.map (mc a))) else (fault Y, 0)) else (fault X, 0))
    by_cases h1 : fault X = 0
    · rw [if_pos h1, if_pos h1]
      by_cases h2 : fault Y = 0
      · rw [if_pos h2, if_pos h2]; rfl
      · rw [if_neg h2, if_neg h2]
    · rw [if_neg h1, if_neg h1]
  · rw [decide_eq_false ha, if_neg ha]; rfl
theorem impl_CompareCodes_eq (a : Int) (X Y : List Int) (k : Nat) (hx : X.length ≤ 1048576) (hy : Y.length ≤ 1048576) (hk : 2 * X.length + Y.length + 8 < k) : impl_CompareCodes.f k a X Y = some (cmpo a X Y) := by
  obtain ⟨k2, rfl⟩ : ∃ k2, k = k2 + 3 := ⟨k - 3, by omega⟩
  unfold impl_CompareCodes.f cmpo
  rw [impl_isComparator_eq, impl_CodesFault_eq, impl_CodesFault_eq]
  simp only [Option.bind_some]
  by_cases ha : 1 ≤ a ∧ a ≤ 3
  · rw [decide_eq_true ha, if_pos rfl, if_pos ha]
    show (impl_firstCode.f (k2 + 3) [fault X, fault Y]).bind _ = _
    rw [firstCode2, Option.bind_some]
    unfold impl_compared.f
    rw [impl_mappedAll_eq a ha X _ hx (by omega), impl_mappedAll_eq a ha Y _ hy (by omega)]
    simp only [Option.bind_some]
    rw [slices_Compare_eq _ _ _ (by rw [List.length_map]; omega) (by rw [List.length_map]; omega) (by rw [List.length_map]; omega)]
    by_cases h1 : fault X = 0
    · rw [if_pos h1, if_pos h1]
      by_cases h2 : fault Y = 0
      · rw [if_pos h2, if_pos h2]; rfl
      · rw [if_neg h2, if_neg h2]
    · rw [if_neg h1, if_neg h1, if_neg h1]
  · rw [decide_eq_false ha, if_neg ha]; rfl
theorem cmpL_range : ∀ xs ys, -1 ≤ cmpL xs ys ∧ cmpL xs ys ≤ 1
  | [], [] => by unfold cmpL; decide
  | [], _ :: _ => by unfold cmpL; decide
  | _ :: _, [] => by unfold cmpL; decide
  | x :: xs, y :: ys => by
    have ih := cmpL_range xs ys
    unfold cmpL
    repeat' split
    all_goals omega
theorem cmpL_neg : ∀ xs ys, cmpL ys xs = - cmpL xs ys
  | [], [] => by decide
  | [], _ :: _ => rfl
  | _ :: _, [] => rfl
  | x :: xs, y :: ys => by
    have ih := cmpL_neg xs ys
    unfold cmpL
    by_cases h1 : x < y
    · have h2 : ¬ y < x := by omega
      simp [h1, h2]
    · by_cases h2 : y < x
      · simp [h1, h2]
      · simp [h1, h2, ih]
theorem cmpL_trans : ∀ xs ys zs, cmpL xs ys ≤ 0 → cmpL ys zs ≤ 0 → cmpL xs zs ≤ 0
  | [], _, [], _, _ => by decide
  | [], _, _ :: _, _, _ => by unfold cmpL; decide
  | _ :: _, [], _, h, _ => absurd h (by unfold cmpL; decide)
  | _ :: _, _ :: _, [], _, h => absurd h (by unfold cmpL; decide)
  | x :: xs, y :: ys, z :: zs, h1, h2 => by
    have ih := cmpL_trans xs ys zs
    unfold cmpL at h1 h2 ⊢
    by_cases a1 : x < y
    · by_cases b1 : y < z
      · rw [if_pos (by omega)]; decide
      · rw [if_neg b1] at h2
        by_cases b2 : y > z
        · rw [if_pos b2] at h2; exact absurd h2 (by decide)
        · rw [if_pos (by omega)]; decide
    · rw [if_neg a1] at h1
      by_cases a2 : x > y
      · rw [if_pos a2] at h1; exact absurd h1 (by decide)
      · rw [if_neg a2] at h1
        by_cases b1 : y < z
        · rw [if_pos (by omega)]; decide
        · rw [if_neg b1] at h2
          by_cases b2 : y > z
          · rw [if_pos b2] at h2; exact absurd h2 (by decide)
          · rw [if_neg b2] at h2
            rw [if_neg (by omega), if_neg (by omega)]
            exact ih h1 h2
theorem byte_wf {l : List Int} (h : ∀ x ∈ l, (Lit.int .u8 x).wf = true) : ∀ x ∈ l, 0 ≤ x ∧ x ≤ 255 := by
  intro x hx
  have h1 := h x hx
  unfold Lit.wf at h1
  rw [Bool.and_eq_true, decide_eq_true_eq, decide_eq_true_eq, show IntKind.u8.min = 0 from by decide, show IntKind.u8.max = 255 from by decide] at h1
  exact h1
theorem rd_byte {l : List Int} (h : ∀ x ∈ l, 0 ≤ x ∧ x ≤ 255) (j : Int) : 0 ≤ rd l j ∧ rd l j ≤ 255 := by
  unfold rd
  rw [List.getD_eq_getElem?_getD]
  cases hg : l[j.toNat]? with
  | none => simp
  | some v =>
    have := h v (List.mem_of_getElem? hg)
    simpa using this
theorem tmod_in (x n : Int) (hx : 0 ≤ x) (hn : 1 ≤ n) : 0 ≤ Int.tmod x n ∧ Int.tmod x n < n :=
  ⟨Int.tmod_nonneg _ hx, Int.tmod_lt_of_pos _ (by omega)⟩
/-- A draw tells a number below its bound. -/
theorem spec_l1Next_eq (l : List Int) (hB : ∀ x ∈ l, 0 ≤ x ∧ x ≤ 255) (hl : l.length ≤ 1048576) (i n : Int) (hi : 0 ≤ i ∧ i ≤ 4294967296) (hn : 1 ≤ n) : ∃ v, spec_l1Next.f l i n = some (v, i + 1) ∧ 0 ≤ v ∧ v < n := by
  unfold spec_l1Next.f
  have a1 : wrap64 (i + 1) = i + 1 := wrap64_in (by omega)
  have a2 : wrap64 (i + 1 - 1) = i := by rw [show i + 1 - 1 = i by omega]; exact wrap64_in (by omega)
  rw [a1, a2, if_neg (by omega)]
  by_cases h0 : (l.length : Int) = 0
  · have a3 : wrap64 (i * 7) = i * 7 := wrap64_in (by omega)
    rw [if_pos h0, if_neg (by omega), a3]
    exact ⟨_, rfl, tmod_in _ _ (by omega) hn⟩
  · rw [if_neg h0]
    have h1 := tmod_in i (l.length : Int) hi.1 (by omega)
    rw [if_pos h1.1, if_pos h1.2]
    have hd : 0 ≤ Int.tdiv i (l.length : Int) ∧ Int.tdiv i (l.length : Int) ≤ i := by
      rw [Int.tdiv_eq_ediv_of_nonneg hi.1]
      exact ⟨Int.ediv_nonneg hi.1 (by omega), Int.ediv_le_self _ hi.1⟩
    have hr1 := rd_byte hB (Int.tmod i (l.length : Int))
    generalize rd l (Int.tmod i (l.length : Int)) = r1 at hr1
    generalize Int.tdiv i (l.length : Int) = q at hd
    have b0 : wrap64 r1 = r1 := wrap64_in (by omega)
    have b1 : wrap64 q = q := wrap64_in (by omega)
    have b2 : wrap64 (q * 37) = q * 37 := wrap64_in (by omega)
    have b3 : wrap64 (r1 + q * 37) = r1 + q * 37 := wrap64_in (by omega)
    rw [b0, b1, b2, b3]
    by_cases h2 : n > 200
    · rw [if_pos h2, a1]
      have h3 := tmod_in (i + 1) (l.length : Int) (by omega) (by omega)
      rw [if_pos h3.1, if_pos h3.2, if_neg (by omega)]
      have hr2 := rd_byte hB (Int.tmod (i + 1) (l.length : Int))
      generalize rd l (Int.tmod (i + 1) (l.length : Int)) = r2 at hr2
      have c0 : wrap64 r2 = r2 := wrap64_in (by omega)
      have c1 : wrap64 ((r1 + q * 37) * 251) = (r1 + q * 37) * 251 := wrap64_in (by omega)
      have c2 : wrap64 (r2 * 13) = r2 * 13 := wrap64_in (by omega)
      have c3 : wrap64 ((r1 + q * 37) * 251 + r2 * 13) = (r1 + q * 37) * 251 + r2 * 13 := wrap64_in (by omega)
      have c4 : wrap64 ((r1 + q * 37) * 251 + r2 * 13 + i) = (r1 + q * 37) * 251 + r2 * 13 + i := wrap64_in (by omega)
      rw [c0, c1, c2, c3, c4]
      exact ⟨_, rfl, tmod_in _ _ (by omega) hn⟩
    · rw [if_neg h2, if_neg (by omega)]
      exact ⟨_, rfl, tmod_in _ _ (by omega) hn⟩
theorem spec_l1Pick_eq (l : List Int) (hB : ∀ x ∈ l, 0 ≤ x ∧ x ≤ 255) (hl : l.length ≤ 1048576) (i : Int) (hi : 0 ≤ i ∧ i ≤ 4294967296) (L : List Int) (hL : 1 ≤ L.length) : ∃ j : Nat, j < L.length ∧ spec_l1Pick.f l i L = some (rd L (j : Int), i + 1) := by
  obtain ⟨v, hv, h0, h1⟩ := spec_l1Next_eq l hB hl i (L.length : Int) hi (by omega)
  unfold spec_l1Pick.f
  rw [hv, Option.bind_some]
  refine ⟨v.toNat, by omega, ?_⟩
  rw [Int.toNat_of_nonneg h0]
  simp only
  rw [if_pos h0, if_pos h1]
theorem spec_l1Chance_eq (l : List Int) (hB : ∀ x ∈ l, 0 ≤ x ∧ x ≤ 255) (hl : l.length ≤ 1048576) (i n : Int) (hi : 0 ≤ i ∧ i ≤ 4294967296) (hn : 1 ≤ n) : ∃ b, spec_l1Chance.f l i n = some (b, i + 1) := by
  obtain ⟨v, hv, _, _⟩ := spec_l1Next_eq l hB hl i n hi hn
  unfold spec_l1Chance.f
  rw [hv]
  exact ⟨_, rfl⟩
theorem spec_l3Letters.l0_eq (l : List Int) (hB : ∀ x ∈ l, 0 ≤ x ∧ x ≤ 255) (hl : l.length ≤ 1048576) : ∀ (n k : Nat) (acc : List Int) (i : Int), n < k → (0 ≤ i ∧ i + n ≤ 4294967296) → acc.length + n ≤ 1000 → ∃ out, spec_l3Letters.l0 k acc (n : Int) l i = some (out, i + n + 1) ∧ out.length ≤ acc.length + n + 1
  | _, 0, _, _, h, _, _ => absurd h (by omega)
  | 0, k + 1, acc, i, _, hi, ha => by
    obtain ⟨b, hb⟩ := spec_l1Chance_eq l hB hl i 14 (by omega) (by omega)
    unfold spec_l3Letters.l0
    rw [if_neg (by omega), hb, Option.bind_some]
    cases b with
    | false => exact ⟨acc, by simp, by omega⟩
    | true => exact ⟨acc ++ [-1], by rw [if_pos rfl, if_pos (by omega)]; simp, by simp⟩
  | n + 1, k + 1, acc, i, h, hi, ha => by
    obtain ⟨j, hj, hp⟩ := spec_l1Pick_eq l hB hl i (by omega) ([97, 65, 98, 228, 196, 1078, 1046] : List Int) (by decide)
    have hw : wrap64 (((n + 1 : Nat) : Int) - 1) = (n : Int) := by rw [wrap64_in (by omega)]; omega
    unfold spec_l3Letters.l0
    rw [if_pos (by omega), hp, Option.bind_some, if_pos (by omega), hw]
    obtain ⟨out, ho, hlen⟩ := spec_l3Letters.l0_eq l hB hl n k (acc ++ [rd [97, 65, 98, 228, 196, 1078, 1046] (j : Int)]) (i + 1) (by omega) (by omega) (by simp; omega)
    refine ⟨out, ?_, by simp at hlen; omega⟩
    rw [ho]
    congr 2
    omega
theorem spec_l3Letters_eq (l : List Int) (hB : ∀ x ∈ l, 0 ≤ x ∧ x ≤ 255) (hl : l.length ≤ 1048576) (k : Nat) (i : Int) (hk : 8 ≤ k) (hi : 0 ≤ i ∧ i ≤ 1000) : ∃ out j, spec_l3Letters.f k l i = some (out, j) ∧ out.length ≤ 6 ∧ i ≤ j ∧ j ≤ i + 7 := by
  obtain ⟨v, hv, h0, h1⟩ := spec_l1Next_eq l hB hl i 6 (by omega) (by omega)
  obtain ⟨n, rfl⟩ := Int.eq_ofNat_of_zero_le h0
  obtain ⟨out, ho, hlen⟩ := spec_l3Letters.l0_eq l hB hl n k [] (i + 1) (by omega) (by omega) (by simp; omega)
  unfold spec_l3Letters.f
  rw [hv, Option.bind_some]
  exact ⟨out, _, ho, by simp at hlen; omega, by omega, by omega⟩
theorem spec_l3Draw_eq (l : List Int) (hB : ∀ x ∈ l, 0 ≤ x ∧ x ≤ 255) (hl : l.length ≤ 1048576) (i : Int) (hi : 0 ≤ i ∧ i ≤ 1000) : ∃ a, spec_l3Draw.f l i = some (a, i + 1) := by
  obtain ⟨j, hj, hp⟩ := spec_l1Pick_eq l hB hl i (by omega) ([1, 2, 3, 3, 3, 0, 4] : List Int) (by decide)
  unfold spec_l3Draw.f
  rw [hp]
  exact ⟨_, rfl⟩
theorem spec_DrawHasCodes_eq (l : List Int) (hB : ∀ x ∈ l, 0 ≤ x ∧ x ≤ 255) (hl : l.length ≤ 1048576) (k : Nat) (hk : 10 ≤ k) : ∃ a A B, spec_DrawHasCodes.f k l = some (a, A, B) ∧ A.length ≤ 6 ∧ B.length ≤ 6 := by
  obtain ⟨a, ha⟩ := spec_l3Draw_eq l hB hl 0 (by omega)
  obtain ⟨A, j, hA, hAl, hj1, hj2⟩ := spec_l3Letters_eq l hB hl k (0 + 1) (by omega) (by omega)
  obtain ⟨k2, rfl⟩ : ∃ k2, k = k2 + 1 := ⟨k - 1, by omega⟩
  unfold spec_DrawHasCodes.f spec_l1Source.f
  simp only [Option.bind_some, ha, hA]
  have hlet : ∀ i2, 0 ≤ i2 ∧ i2 ≤ 1000 → ∃ B, spec_DrawHasCodes.j0 (k2 + 1) a A false l i2 = some (a, A, B) ∧ B.length ≤ 6 := by
    intro i2 hi2
    obtain ⟨B, j2, hB2, hBl, _, _⟩ := spec_l3Letters_eq l hB hl k2 i2 (by omega) hi2
    rw [spec_DrawHasCodes.j0, if_neg (by decide), hB2]
    exact ⟨B, rfl, hBl⟩
  by_cases h1 : (A.length : Int) > 1
  · rw [if_pos h1]
    obtain ⟨b, hb⟩ := spec_l1Chance_eq l hB hl j 2 (by omega) (by omega)
    rw [hb, Option.bind_some]
    cases b with
    | false =>
      obtain ⟨B, h2, h3⟩ := hlet (j + 1) (by omega)
      exact ⟨a, A, B, h2, hAl, h3⟩
    | true =>
      obtain ⟨v, hv, h0, hv1⟩ := spec_l1Next_eq l hB hl (j + 1) (A.length : Int) (by omega) (by omega)
      rw [spec_DrawHasCodes.j0, if_pos rfl, hv]
      simp only [Option.bind_some]
      rw [if_pos h0, if_pos (by omega), if_pos (by simp; omega)]
      exact ⟨a, A, _, rfl, hAl, by simp; omega⟩
  · rw [if_neg h1]
    obtain ⟨B, h2, h3⟩ := hlet j (by omega)
    exact ⟨a, A, B, h2, hAl, h3⟩
def mapo (a : Int) (l : List Int) : Int × List Int :=
  if 1 ≤ a ∧ a ≤ 3 then (if 400 < l.length then (2, []) else if l.all charB = true then (0, l.map (mc a)) else (3, [])) else (4, [])
theorem mapo_len (a : Int) (l : List Int) : (mapo a l).2.length ≤ 400 := by
  unfold mapo
  repeat' split
  all_goals simp
  omega
theorem impl_MapCodes_eq (a : Int) (l : List Int) (k : Nat) (hb : l.length ≤ 1048576) (hk : l.length + 3 < k) : impl_MapCodes.f k a l = some (mapo a l) := by
  unfold impl_MapCodes.f mapo
  rw [impl_isComparator_eq, Option.bind_some]
  by_cases ha : 1 ≤ a ∧ a ≤ 3
  · rw [decide_eq_true ha, if_pos rfl, if_pos ha, impl_CodesFault_eq, Option.bind_some, impl_mappedAll_eq a ha l k hb (by omega)]
    by_cases h4 : 400 < l.length
    · rw [if_pos h4, if_pos h4, if_neg (by decide)]
    · rw [if_neg h4, if_neg h4]
      cases l.all charB <;> rfl
  · rw [decide_eq_false ha, if_neg ha]; rfl
theorem laws_lwNums.l0_eq (X Y : List Int) (hx : X.length ≤ 1048576) (hxy : X.length = Y.length) : ∀ (n k i : Nat), X.length = i + n → n < k → laws_lwNums.l0 k X Y (i : Int) = some (decide (X.drop i = Y.drop i))
  | _, 0, _, _, h => absurd h (by omega)
  | 0, k + 1, i, hi, _ => by
    have h1 : ¬ ((i : Int) < (X.length : Int)) := by omega
    unfold laws_lwNums.l0
    rw [if_neg h1, List.drop_eq_nil_of_le (by omega : X.length ≤ i), List.drop_eq_nil_of_le (by omega : Y.length ≤ i)]
    rfl
  | n + 1, k + 1, i, hi, h => by
    have h1 : (i : Int) < (X.length : Int) := by omega
    have h1y : (i : Int) < (Y.length : Int) := by omega
    have h2 : (0 : Int) ≤ (i : Int) := by omega
    have h4 : wrap64 ((i : Int) + 1) = ((i + 1 : Nat) : Int) := by rw [wrap64_in (by omega)]; omega
    unfold laws_lwNums.l0
    rw [if_pos h1, if_pos h2, if_pos h1y, rd_at X i (by omega), rd_at Y i (by omega), h4, laws_lwNums.l0_eq X Y hx hxy n k (i + 1) (by omega) (by omega), List.drop_eq_getElem_cons (by omega : i < X.length), List.drop_eq_getElem_cons (by omega : i < Y.length)]
    by_cases h5 : X[i] = Y[i]
    · rw [if_pos h5, h5]
      congr 1
      rw [decide_eq_decide]
      exact ⟨fun e => by rw [e], fun e => (List.cons.inj e).2⟩
    · rw [if_neg h5, decide_eq_false (fun e => h5 (List.cons.inj e).1)]
theorem laws_lwNums_eq (X Y : List Int) (k : Nat) (hx : X.length ≤ 1048576) (hk : X.length < k) : laws_lwNums.f k X Y = some (decide (X = Y)) := by
  unfold laws_lwNums.f
  by_cases h : X.length = Y.length
  · rw [if_pos (by omega)]
    have := laws_lwNums.l0_eq X Y hx h X.length k 0 (by omega) hk
    simpa using this
  · rw [if_neg (by omega), decide_eq_false (fun e => h (by rw [e]))]
theorem cmpo_zero (a : Int) (X Y : List Int) (h : (cmpo a X Y).1 = 0) : (1 ≤ a ∧ a ≤ 3) ∧ fault X = 0 ∧ fault Y = 0 := by
  unfold cmpo at h
  by_cases h1 : 1 ≤ a ∧ a ≤ 3
  · rw [if_pos h1] at h
    by_cases h2 : fault X = 0
    · rw [if_pos h2] at h
      by_cases h3 : fault Y = 0
      · exact ⟨h1, h2, h3⟩
      · rw [if_neg h3] at h; exact absurd h h3
    · rw [if_neg h2] at h; exact absurd h h2
  · rw [if_neg h1] at h; exact absurd h (by decide)
theorem cmpo_of (a : Int) (X Y : List Int) (h1 : 1 ≤ a ∧ a ≤ 3) (h2 : fault X = 0) (h3 : fault Y = 0) : cmpo a X Y = (0, cmpL (X.map (mc a)) (Y.map (mc a))) := by
  unfold cmpo
  rw [if_pos h1, if_pos h2, if_pos h3]
theorem mapo_of (a : Int) (X : List Int) (h1 : 1 ≤ a ∧ a ≤ 3) (h2 : fault X = 0) : mapo a X = (0, X.map (mc a)) := by
  unfold fault at h2
  unfold mapo
  rw [if_pos h1]
  by_cases h : 400 < X.length
  · rw [if_pos h] at h2; exact absurd h2 (by decide)
  · rw [if_neg h] at h2
    rw [if_neg h]
    cases hc : X.all charB with
    | true => rfl
    | false => rw [hc] at h2; exact absurd h2 (by decide)
theorem cmpI (a : Int) (X Y : List Int) (hx : X.length ≤ 6) (hy : Y.length ≤ 6) : impl_CompareCodes.f 100 a X Y = some (cmpo a X Y) := impl_CompareCodes_eq a X Y 100 (by omega) (by omega) (by omega)
theorem cmpI9 (a : Int) (X Y : List Int) (hx : X.length ≤ 6) (hy : Y.length ≤ 6) : impl_CompareCodes.f 99 a X Y = some (cmpo a X Y) := impl_CompareCodes_eq a X Y 99 (by omega) (by omega) (by omega)
theorem cmpS (a : Int) (X Y : List Int) (hx : X.length ≤ 6) (hy : Y.length ≤ 6) : spec_CompareCodes.f 100 a X Y = some (cmpo a X Y) := spec_CompareCodes_eq a X Y 100 (by omega) (by omega) (by omega)
theorem cmpS9 (a : Int) (X Y : List Int) (hx : X.length ≤ 6) (hy : Y.length ≤ 6) : spec_CompareCodes.f 99 a X Y = some (cmpo a X Y) := spec_CompareCodes_eq a X Y 99 (by omega) (by omega) (by omega)
theorem mapI9 (a : Int) (X : List Int) (hx : X.length ≤ 6) : impl_MapCodes.f 99 a X = some (mapo a X) := impl_MapCodes_eq a X 99 (by omega) (by omega)
theorem numsE (m : Int → Int) (X Y : List Int) (hx : X.length ≤ 6) : laws_lwNums.f 99 (X.map m) (Y.map m) = some (decide (X.map m = Y.map m)) := laws_lwNums_eq _ _ 99 (by rw [List.length_map]; omega) (by rw [List.length_map]; omega)
theorem draw_compare (l : List Int) (hB : ∀ x ∈ l, 0 ≤ x ∧ x ≤ 255) (hl : l.length ≤ 1048576) : ∃ a A B, spec_DrawCompareCodes.f 100 l = some (a, A, B) ∧ A.length ≤ 6 ∧ B.length ≤ 6 := by
  obtain ⟨a, ha⟩ := spec_l3Draw_eq l hB hl 0 (by omega)
  obtain ⟨A, j, hA, hAl, hj1, hj2⟩ := spec_l3Letters_eq l hB hl 100 (0 + 1) (by omega) (by omega)
  obtain ⟨B, j2, hB2, hBl, _, _⟩ := spec_l3Letters_eq l hB hl 100 j (by omega) (by omega)
  unfold spec_DrawCompareCodes.f spec_l1Source.f
  simp only [Option.bind_some, ha, hA, hB2]
  exact ⟨a, A, B, rfl, hAl, hBl⟩
theorem wneg (x : Int) (h : -1 ≤ x ∧ x ≤ 1) : wrap64 (-x) = -x := wrap64_in (by omega)
theorem eqb (X Y : List Int) : ((cmpL X Y == 0) == decide (X = Y)) = true := by
  have h := cmpL_zero X Y
  by_cases e : X = Y
  · rw [decide_eq_true e, h.2 e]; rfl
  · have : (cmpL X Y == 0) = false := by simpa using fun z => e (h.1 z)
    rw [decide_eq_false e, this]; rfl
theorem orders_j0 (a : Int) (A B : List Int) (hA : A.length ≤ 6) (hB : B.length ≤ 6) (ha : 1 ≤ a ∧ a ≤ 3) (fA : fault A = 0) (fB : fault B = 0) : laws_FnOrders.j0 100 a A B false 0 (cmpL (A.map (mc a)) (B.map (mc a))) 0 (cmpL (B.map (mc a)) (A.map (mc a))) = some true := by
  have e := eqb (A.map (mc a)) (B.map (mc a))
  rw [laws_FnOrders.j0, if_neg (by decide), mapI9 a A hA, mapI9 a B hB, mapo_of a A ha fA, mapo_of a B ha fB, Option.bind_some, Option.bind_some, numsE _ _ _ hA, Option.bind_some, if_pos rfl, wneg _ (cmpL_range _ _), if_pos (cmpL_neg _ _), if_pos e, cmpI9 a A A hA hA, cmpo_of a A A ha fA fA, Option.bind_some, if_pos ((cmpL_zero _ _).2 rfl), cmpS9 a A B hA hB, cmpo_of a A B ha fA fB, Option.bind_some, beq_self_eq_true]
theorem FnOrders : laws_FnOrders.Pure := by
  intro l hb _ hw
  have hB := byte_wf hw
  refine ⟨100, ?_⟩
  unfold laws_FnOrders.f laws_lwBig.f
  rw [Option.bind_some]
  by_cases hl : (l.length : Int) > 1048576
  · rw [decide_eq_true hl, if_pos rfl]
  rw [decide_eq_false hl, if_neg (by decide)]
  obtain ⟨a, A, B, hd, hA, hBl⟩ := draw_compare l hB (by omega)
  obtain ⟨a2, C, D, hd2, hC, hD⟩ := spec_DrawHasCodes_eq l hB (by omega) 100 (by omega)
  rw [hd, Option.bind_some]
  simp only [cmpI a A B hA hBl, cmpI a B A hBl hA, cmpS a A B hA hBl, hd2, cmpI a B C hBl hC, cmpI a A C hA hC, Option.bind_some]
  by_cases h0 : (cmpo a A B).1 = 0
  · obtain ⟨ha, fA, fB⟩ := cmpo_zero a A B h0
    have hj := orders_j0 a A B hA hBl ha fA fB
    rw [if_pos h0]
    rw [cmpo_of a A B ha fA fB, cmpo_of a B A ha fB fA]
    by_cases h1 : (cmpo a B C).1 = 0
    · obtain ⟨_, _, fC⟩ := cmpo_zero a B C h1
      rw [if_pos h1, cmpo_of a B C ha fB fC, cmpo_of a A C ha fA fC]
      by_cases h2 : cmpL (A.map (mc a)) (B.map (mc a)) ≤ 0
      · rw [if_pos h2]
        by_cases h3 : cmpL (B.map (mc a)) (C.map (mc a)) ≤ 0
        · rw [if_pos h3]
          have h4 := cmpL_trans _ _ _ h2 h3
          rw [decide_eq_false (by omega : ¬ (cmpL (A.map (mc a)) (C.map (mc a)) > 0))]
          exact hj
        · rw [if_neg h3]; exact hj
      · rw [if_neg h2]; exact hj
    · rw [if_neg h1]; exact hj
  · rw [if_neg h0, beq_self_eq_true]

end Go.Proofs.Ytcmndjbokgaihaa.Pure
