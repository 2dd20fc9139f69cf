/- The plain law: what the walk computes answers as the statement says. -/
import Derived.Test.YtcmndjbokgaihaaPFnMapsx5
namespace Go.Proofs.Ytcmndjbokgaihaa.Pure
open Go.RowKit Go.Proofs.Ytcmndjbokgaihaa.PFnMaps Go.Proofs.YtcmndjbokgaihaaW.PrintWords Go.Proofs.YtcmndjbokgaihaaW.PrintLast
set_option linter.unusedSimpArgs false
set_option linter.unusedVariables false
theorem rd_at (l : List Int) (i : Nat) (h : i < l.length) : rd l (i : Int) = l[i] := by
  simp [rd, List.getD_eq_getElem?_getD, h]
theorem wrap64_in {n : Int} (h : -9223372036854775808 ≤ n ∧ n ≤ 9223372036854775807) : wrap64 n = n := by
  unfold wrap64; omega
theorem maxLen_le : maxLen ≤ 9223372036854775807 := by unfold maxLen; decide
/-- The mapping of a char under a comparator, as a plain law. -/
def mc (a c : Int) : Int :=
  if a = 1 then c else if decide (97 ≤ c ∧ c ≤ 122) = true then wrap64 (c - 32) else if a = 2 then c else
    if ((decide (224 ≤ c ∧ c ≤ 254) && c != 247) || (decide (945 ≤ c ∧ c ≤ 969) && c != 962) || decide (1072 ≤ c ∧ c ≤ 1103)) = true then wrap64 (c - 32) else if decide (1104 ≤ c ∧ c ≤ 1119) = true then wrap64 (c - 80) else c
def charB (c : Int) : Bool := decide (0 ≤ c ∧ c ≤ 55295) || decide (57344 ≤ c ∧ c ≤ 65535)
theorem charB_iff (c : Int) : charB c = true ↔ (0 ≤ c ∧ c ≤ 55295) ∨ (57344 ≤ c ∧ c ≤ 65535) := by
  simp [charB]
def mapo (a : Int) (l : List Int) : Int × List Int :=
  if 1 ≤ a ∧ a ≤ 3 then (if 400 < l.length then (2, []) else if l.all charB = true then (0, l.map (mc a)) else (3, [])) else (4, [])
theorem mapo_len (a : Int) (l : List Int) : (mapo a l).2.length ≤ 400 := by
  unfold mapo
  repeat' split
  all_goals simp
  omega
theorem within_eq (a b c : Int) : impl_within.f a b c = some (decide (b ≤ a ∧ a ≤ c)) := by
  unfold impl_within.f; by_cases h : a ≥ b <;> simp [h] <;> omega
theorem impl_mapped_eq (k : Nat) (a c : Int) (h : 1 ≤ a ∧ a ≤ 3) : impl_mapped.f (k + 1) a c = some (mc a c) := by
  simp only [impl_mapped.f, impl_mapped.j0, within_eq, Option.bind_some, mc]
  have : a = 1 ∨ a = 2 ∨ a = 3 := by omega
  generalize decide (97 ≤ c ∧ c ≤ 122) = p1
  generalize decide (224 ≤ c ∧ c ≤ 254) = p2
  generalize decide (945 ≤ c ∧ c ≤ 969) = p3
  generalize decide (1072 ≤ c ∧ c ≤ 1103) = p4
  generalize decide (1104 ≤ c ∧ c ≤ 1119) = p5
  by_cases h1 : c = 247 <;> by_cases h2 : c = 962
  · omega
  all_goals (rcases this with rfl | rfl | rfl <;> cases p1 <;> cases p2 <;> cases p3 <;> cases p4 <;> cases p5 <;> simp [h1, h2])
theorem impl_mappedAll.l0_eq (a : Int) (ha : 1 ≤ a ∧ a ≤ 3) (L : List Int) (hb : L.length ≤ 1048576) : ∀ (n k i : Nat) (acc : List Int), L.length = i + n → n + 1 < k → acc.length + n ≤ 1048576 → impl_mappedAll.l0 k a acc L (L.length : Int) (i : Int) = some (acc ++ (L.drop i).map (mc a))
  | _, 0, _, _, _, h, _ => absurd h (by omega)
  | 0, k + 1, i, acc, hi, _, _ => by
    have h1 : ¬ ((i : Int) < (L.length : Int)) := by omega
    unfold impl_mappedAll.l0
    rw [if_neg h1, List.drop_eq_nil_of_le (by omega)]
    simp
  | n + 1, k + 1, i, acc, hi, h, hc => by
    have h1 : (i : Int) < (L.length : Int) := by omega
    have h2 : (0 : Int) ≤ (i : Int) := by omega
    have h4 : wrap64 ((i : Int) + 1) = ((i + 1 : Nat) : Int) := by rw [wrap64_in (by omega)]; omega
    obtain ⟨k2, rfl⟩ : ∃ k2, k = k2 + 1 := ⟨k - 1, by omega⟩
    unfold impl_mappedAll.l0
    rw [if_pos h1, if_pos h2, if_pos h1, rd_at L i (by omega), impl_mapped_eq k2 a _ ha, Option.bind_some, if_pos (by omega), h4, impl_mappedAll.l0_eq a ha L hb n (k2 + 1) (i + 1) _ (by omega) (by omega) (by simp; omega), List.drop_eq_getElem_cons (by omega : i < L.length), List.map_cons, List.append_assoc]
    rfl
theorem impl_mappedAll_eq (a : Int) (ha : 1 ≤ a ∧ a ≤ 3) (L : List Int) (k : Nat) (hb : L.length ≤ 1048576) (hk : L.length + 1 < k) : impl_mappedAll.f k a L = some (L.map (mc a)) := by
  unfold impl_mappedAll.f
  have := impl_mappedAll.l0_eq a ha L hb L.length k 0 [] (by omega) hk (by simp; omega)
  simpa using this
theorem in_eq (a b c : Int) : spec_l1In.f a b c = some (decide (b ≤ a ∧ a ≤ c)) := by
  unfold spec_l1In.f; by_cases h : a ≥ b <;> simp [h] <;> omega
theorem impl_isComparator_eq (a : Int) : impl_isComparator.f a = some (decide (1 ≤ a ∧ a ≤ 3)) := by
  simp only [impl_isComparator.f, within_eq, Option.bind_some]
theorem spec_l3Cmp_eq (a : Int) : spec_l3Cmp.f a = some (decide (1 ≤ a ∧ a ≤ 3)) := by
  simp only [spec_l3Cmp.f, in_eq, Option.bind_some]
theorem CodesFault_p_eq (c : Int) : impl_CodesFault.p c = !charB c := by
  unfold impl_CodesFault.p charB
  rw [Bool.eq_iff_iff]; simp only [Bool.and_eq_true, Bool.or_eq_true, Bool.not_eq_true', decide_eq_true_eq, decide_eq_false_iff_not, Bool.and_eq_false_iff, Bool.not_eq_false', Bool.or_eq_false_iff]; omega
theorem CodesFault_any (l : List Int) : l.any impl_CodesFault.p = !(l.all charB) := by
  induction l with
  | nil => rfl
  | cons x xs ih => rw [List.any_cons, List.all_cons, ih, CodesFault_p_eq, Bool.not_and]
theorem impl_CodesFault_eq (l : List Int) : impl_CodesFault.f l = some (if 400 < l.length then 2 else if l.all charB = true then 0 else 3) := by
  unfold impl_CodesFault.f
  rw [CodesFault_any]
  by_cases h : 400 < l.length
  · rw [if_pos h, if_pos h]
  · rw [if_neg h, if_neg h]
    cases l.all charB <;> rfl
theorem impl_MapCodes_eq (a : Int) (l : List Int) (k : Nat) (hb : l.length ≤ 1048576) (hk : l.length + 3 < k) : impl_MapCodes.f k a l = some (mapo a l) := by
  unfold impl_MapCodes.f mapo
  rw [impl_isComparator_eq, Option.bind_some]
  by_cases ha : 1 ≤ a ∧ a ≤ 3
  · rw [decide_eq_true ha, if_pos rfl, if_pos ha, impl_CodesFault_eq, Option.bind_some, impl_mappedAll_eq a ha l k hb (by omega)]
    by_cases h4 : 400 < l.length
    · rw [if_pos h4, if_pos h4, if_neg (by decide)]
    · rw [if_neg h4, if_neg h4]
      cases l.all charB <;> rfl
  · rw [decide_eq_false ha, if_neg ha]; rfl
theorem spec_l3Char_eq (k : Nat) (a c : Int) (h : 1 ≤ a ∧ a ≤ 3) : spec_l3Char.f (k + 2) a c = some (mc a c) := by
  simp only [spec_l3Char.f, spec_l3Char.j0, spec_l3Char.j1, in_eq, Option.bind_some, mc]
  have : a = 1 ∨ a = 2 ∨ a = 3 := by omega
  generalize decide (97 ≤ c ∧ c ≤ 122) = p1
  generalize decide (224 ≤ c ∧ c ≤ 254) = p2
  generalize decide (945 ≤ c ∧ c ≤ 969) = p3
  generalize decide (1072 ≤ c ∧ c ≤ 1103) = p4
  generalize decide (1104 ≤ c ∧ c ≤ 1119) = p5
  by_cases h1 : c = 247 <;> by_cases h2 : c = 962
  · omega
  all_goals (rcases this with rfl | rfl | rfl <;> cases p1 <;> cases p2 <;> cases p3 <;> cases p4 <;> cases p5 <;> simp [h1, h2])
theorem spec_l3Map.l0_eq (a : Int) (ha : 1 ≤ a ∧ a ≤ 3) (L : List Int) (hb : L.length ≤ 1048576) : ∀ (n k i : Nat) (acc : List Int), L.length = i + n → n + 2 < k → acc.length + n ≤ 1048576 → spec_l3Map.l0 k a L acc (i : Int) = some (acc ++ (L.drop i).map (mc a))
  | _, 0, _, _, _, h, _ => absurd h (by omega)
  | 0, k + 1, i, acc, hi, _, _ => by
    have h1 : ¬ ((i : Int) < (L.length : Int)) := by omega
    unfold spec_l3Map.l0
    rw [if_neg h1, List.drop_eq_nil_of_le (by omega)]
    simp
  | n + 1, k + 1, i, acc, hi, h, hc => by
    have h1 : (i : Int) < (L.length : Int) := by omega
    have h2 : (0 : Int) ≤ (i : Int) := by omega
    have h4 : wrap64 ((i : Int) + 1) = ((i + 1 : Nat) : Int) := by rw [wrap64_in (by omega)]; omega
    obtain ⟨k2, rfl⟩ : ∃ k2, k = k2 + 2 := ⟨k - 2, by omega⟩
    unfold spec_l3Map.l0
    rw [if_pos h1, if_pos h2, rd_at L i (by omega), spec_l3Char_eq k2 a _ ha, Option.bind_some, if_pos (by omega), h4, spec_l3Map.l0_eq a ha L hb n (k2 + 2) (i + 1) _ (by omega) (by omega) (by simp; omega), List.drop_eq_getElem_cons (by omega : i < L.length), List.map_cons, List.append_assoc]
    rfl
theorem spec_l3Map_eq (a : Int) (ha : 1 ≤ a ∧ a ≤ 3) (L : List Int) (k : Nat) (hb : L.length ≤ 1048576) (hk : L.length + 2 < k) : spec_l3Map.f k a L = some (L.map (mc a)) := by
  unfold spec_l3Map.f
  have := spec_l3Map.l0_eq a ha L hb L.length k 0 [] (by omega) hk (by simp; omega)
  simpa using this
theorem spec_l2Char_eq (c : Int) : spec_l2Char.f c = some (charB c) := by
  simp only [spec_l2Char.f, in_eq, Option.bind_some, charB]
  generalize decide (0 ≤ c ∧ c ≤ 55295) = x
  cases x <;> simp
theorem spec_l2Fault.l0_eq (x0 : List Int) (hb : x0.length ≤ maxLen) : ∀ (n k i : Nat), x0.length = i + n → n < k → spec_l2Fault.l0 k x0 (i : Int) = some (if (x0.drop i).all charB = true then 0 else 3)
  | 0, 0, _, _, h => absurd h (by omega)
  | 0, k + 1, i, hi, _ => by
    have h1 : ¬ ((i : Int) < (x0.length : Int)) := by omega
    unfold spec_l2Fault.l0
    rw [if_neg h1, List.drop_eq_nil_of_le (by omega)]
    rfl
  | n + 1, 0, _, _, h => absurd h (by omega)
  | n + 1, k + 1, i, hi, h => by
    have hm := maxLen_le
    have h1 : (i : Int) < (x0.length : Int) := by omega
    have h2 : (0 : Int) ≤ (i : Int) := by omega
    have h4 : wrap64 ((i : Int) + 1) = ((i + 1 : Nat) : Int) := by rw [wrap64_in (by omega)]; omega
    unfold spec_l2Fault.l0
    rw [if_pos h1, if_pos h2, h4, rd_at x0 i (by omega), List.drop_eq_getElem_cons (by omega), List.all_cons, spec_l2Fault.l0_eq x0 hb n k (i + 1) (by omega) (by omega), spec_l2Char_eq, Option.bind_some]
    cases charB x0[i] <;> rfl
theorem spec_l2Fault_eq (l : List Int) (k : Nat) (hb : l.length ≤ maxLen) (hk : l.length < k) : spec_l2Fault.f k l = some (if 400 < l.length then 2 else if l.all charB = true then 0 else 3) := by
  unfold spec_l2Fault.f
  by_cases h : 400 < l.length
  · rw [if_pos (by omega), if_pos h]
  · rw [if_neg (by omega), if_neg h]
    have := spec_l2Fault.l0_eq l hb l.length k 0 (by omega) hk
    simpa using this
theorem spec_MapCodes_eq (a : Int) (l : List Int) (k : Nat) (hb : l.length ≤ 1048576) (hk : l.length + 3 < k) : spec_MapCodes.f k a l = some (mapo a l) := by
  unfold spec_MapCodes.f mapo
  rw [spec_l3Cmp_eq, Option.bind_some]
  by_cases ha : 1 ≤ a ∧ a ≤ 3
  · rw [decide_eq_true ha, if_pos rfl, if_pos ha, spec_l2Fault_eq l k (by unfold maxLen; omega) (by omega), Option.bind_some, spec_l3Map_eq a ha l k hb (by omega)]
    by_cases h4 : 400 < l.length
    · rw [if_pos h4, if_pos h4, if_neg (by decide)]
    · rw [if_neg h4, if_neg h4]
      cases l.all charB <;> rfl
  · rw [decide_eq_false ha, if_neg ha]; rfl
def fault (l : List Int) : Int := if 400 < l.length then 2 else if l.all charB = true then 0 else 3
theorem fault_zero {l : List Int} (h : fault l = 0) : l.length ≤ 400 ∧ ∀ x ∈ l, charB x = true := by
  unfold fault at h
  by_cases h1 : 400 < l.length
  · rw [if_pos h1] at h; omega
  · rw [if_neg h1] at h
    by_cases h2 : l.all charB = true
    · exact ⟨by omega, List.all_eq_true.mp h2⟩
    · rw [if_neg h2] at h; omega
theorem mapo_code (a : Int) (l : List Int) : (mapo a l).1 = 0 ↔ (1 ≤ a ∧ a ≤ 3) ∧ fault l = 0 := by
  unfold mapo fault
  by_cases h1 : 1 ≤ a ∧ a ≤ 3
  · rw [if_pos h1]
    by_cases h2 : 400 < l.length
    · rw [if_pos h2, if_pos h2]; simp
    · rw [if_neg h2, if_neg h2]
      cases l.all charB <;> simp [h1]
  · rw [if_neg h1]; simp [h1]
theorem fault_of (l : List Int) (h1 : l.length ≤ 400) (h2 : ∀ x ∈ l, charB x = true) : fault l = 0 := by
  unfold fault
  rw [if_neg (by omega), if_pos (List.all_eq_true.mpr h2)]
theorem slices_Equal_int64_int64.l0_eq (X Y : List Int) (hx : X.length ≤ 1048576) (hxy : X.length = Y.length) : ∀ (n k i : Nat), X.length = i + n → n < k → slices_Equal_int64_int64.l0 k X Y (X.length : Int) (i : Int) = some (decide (X.drop i = Y.drop i))
  | _, 0, _, _, h => absurd h (by omega)
  | 0, k + 1, i, hi, _ => by
    have h1 : ¬ ((i : Int) < (X.length : Int)) := by omega
    unfold slices_Equal_int64_int64.l0
    rw [if_neg h1, List.drop_eq_nil_of_le (by omega : X.length ≤ i), List.drop_eq_nil_of_le (by omega : Y.length ≤ i)]
    rfl
  | n + 1, k + 1, i, hi, h => by
    have h1 : (i : Int) < (X.length : Int) := by omega
    have h1y : (i : Int) < (Y.length : Int) := by omega
    have h2 : (0 : Int) ≤ (i : Int) := by omega
    have h4 : wrap64 ((i : Int) + 1) = ((i + 1 : Nat) : Int) := by rw [wrap64_in (by omega)]; omega
    unfold slices_Equal_int64_int64.l0
    rw [if_pos h1, if_pos h2, if_pos h1, if_pos h1y, rd_at X i (by omega), rd_at Y i (by omega), h4, slices_Equal_int64_int64.l0_eq X Y hx hxy n k (i + 1) (by omega) (by omega), List.drop_eq_getElem_cons (by omega : i < X.length), List.drop_eq_getElem_cons (by omega : i < Y.length)]
    by_cases h5 : X[i] = Y[i]
    · rw [if_pos h5, h5]
      congr 1
      rw [decide_eq_decide]
      exact ⟨fun e => by rw [e], fun e => (List.cons.inj e).2⟩
    · rw [if_neg h5, decide_eq_false (fun e => h5 (List.cons.inj e).1)]
theorem slices_Equal_eq (X Y : List Int) (k : Nat) (hx : X.length ≤ 1048576) (hk : X.length < k) : slices_Equal_int64_int64.f k X Y = some (decide (X = Y)) := by
  unfold slices_Equal_int64_int64.f
  by_cases h : X.length = Y.length
  · rw [if_pos (by omega)]
    have := slices_Equal_int64_int64.l0_eq X Y hx h X.length k 0 (by omega) hk
    simpa using this
  · rw [if_neg (by omega), decide_eq_false (fun e => h (by rw [e]))]
def inside (X Y : List Int) : Prop := ∃ j, j + Y.length ≤ X.length ∧ (X.drop j).take Y.length = Y
theorem hasPart_iff (X Y : List Int) (hx : X.length ≤ 1048576) (hy : Y.length ≤ 1048576) : ∀ (n k i : Nat), X.length + 1 ≤ i + n → n + 2 * X.length + 8 < k → i ≤ X.length + 1 → ∃ b, impl_hasPart.l0 k X Y (i : Int) = some b ∧ (b = true ↔ ∃ j, i ≤ j ∧ j + Y.length ≤ X.length ∧ (X.drop j).take Y.length = Y)
  | _, 0, _, _, h, _ => absurd h (by omega)
  | n, k + 1, i, hi, h, hi2 => by
    have h0 : wrap64 ((i : Int) + (Y.length : Int)) = ((i + Y.length : Nat) : Int) := by rw [wrap64_in (by omega)]; omega
    unfold impl_hasPart.l0
    rw [h0]
    by_cases h1 : i + Y.length ≤ X.length
    · have h4 : wrap64 ((i : Int) + 1) = ((i + 1 : Nat) : Int) := by rw [wrap64_in (by omega)]; omega
      rw [if_pos (by omega), if_pos (by omega), if_pos (by omega)]
      simp only [Int.toNat_natCast]
      have hw : (X.take (i + Y.length)).drop i = (X.drop i).take Y.length := by rw [List.drop_take]; congr 1; omega
      have hwl : ((X.drop i).take Y.length).length ≤ X.length := by simp; omega
      rw [hw, slices_Equal_eq _ _ k (by omega) (by omega), Option.bind_some, h4]
      by_cases h5 : (X.drop i).take Y.length = Y
      · rw [if_pos (decide_eq_true h5)]
        exact ⟨true, rfl, fun _ => ⟨i, by omega, h1, h5⟩, fun _ => rfl⟩
      · rw [if_neg (by rw [decide_eq_false h5]; decide)]
        match n, hi, h with
        | 0, hi, h => exact absurd hi (by omega)
        | n + 1, hi, h =>
          obtain ⟨b, hb, hiff⟩ := hasPart_iff X Y hx hy n k (i + 1) (by omega) (by omega) (by omega)
          refine ⟨b, hb, hiff.trans ⟨fun ⟨j, g1, g2, g3⟩ => ⟨j, by omega, g2, g3⟩, fun ⟨j, g1, g2, g3⟩ => ⟨j, ?_, g2, g3⟩⟩⟩
          rcases Nat.lt_or_ge i j with g | g
          · omega
          · have : i = j := by omega
            subst this
            exact absurd g3 h5
    · rw [if_neg (by omega)]
      refine ⟨false, rfl, fun e => Bool.noConfusion e, fun ⟨j, g1, g2, _⟩ => absurd g2 (by omega)⟩
theorem HasCodesI_iff (a : Int) (X Y : List Int) (hx : X.length ≤ 1048576) (hy : Y.length ≤ 1048576) (k : Nat) (hk : 4 * X.length + Y.length + 20 < k) : ∃ b, impl_HasCodes.f k a X Y = some b ∧ (b = true ↔ (1 ≤ a ∧ a ≤ 3) ∧ fault X = 0 ∧ fault Y = 0 ∧ inside (X.map (mc a)) (Y.map (mc a))) := by
  unfold impl_HasCodes.f
  rw [impl_isComparator_eq, impl_CodesFault_eq, impl_CodesFault_eq]
  simp only [Option.bind_some]
  by_cases ha : 1 ≤ a ∧ a ≤ 3
  · rw [decide_eq_true ha, if_pos rfl]
    change ∃ b, (if fault X = 0 then (if fault Y = 0 then _ else _) else _) = some b ∧ _
    by_cases hu : fault X = 0
    · rw [if_pos hu]
      by_cases hv : fault Y = 0
      · rw [if_pos hv]
        obtain ⟨b2, h3, h4⟩ := hasPart_iff (X.map (mc a)) (Y.map (mc a)) (by rw [List.length_map]; omega) (by rw [List.length_map]; omega) (X.length + 1) k 0 (by rw [List.length_map]; omega) (by rw [List.length_map]; omega) (by omega)
        unfold impl_hasPart.f
        rw [impl_mappedAll_eq a ha X k hx (by omega), impl_mappedAll_eq a ha Y k hy (by omega)]
        simp only [Option.bind_some]
        have h2' : impl_hasPart.l0 k (X.map (mc a)) (Y.map (mc a)) 0 = some b2 := h3
        refine ⟨b2, by rw [h2']; rfl, h4.trans ⟨fun ⟨j, _, g2, g3⟩ => ⟨ha, hu, hv, j, g2, g3⟩, fun ⟨_, _, _, j, g2, g3⟩ => ⟨j, by omega, g2, g3⟩⟩⟩
      · rw [if_neg hv]
        exact ⟨false, rfl, fun e => Bool.noConfusion e, fun ⟨_, _, e, _⟩ => absurd e hv⟩
    · rw [if_neg hu]
      exact ⟨false, rfl, fun e => Bool.noConfusion e, fun ⟨_, e, _⟩ => absurd e hu⟩
  · rw [decide_eq_false ha]
    exact ⟨false, rfl, fun e => Bool.noConfusion e, fun ⟨e, _⟩ => absurd e ha⟩
def cmpL : List Int → List Int → Int
  | [], [] => 0
  | [], _ :: _ => -1
  | _ :: _, [] => 1
  | x :: xs, y :: ys => if x < y then -1 else if x > y then 1 else cmpL xs ys
theorem cmpL_zero : ∀ xs ys, cmpL xs ys = 0 ↔ xs = ys
  | [], [] => by simp [cmpL]
  | [], _ :: _ => by simp [cmpL]
  | _ :: _, [] => by simp [cmpL]
  | x :: xs, y :: ys => by
    have ih := cmpL_zero xs ys
    unfold cmpL
    by_cases h1 : x < y
    · rw [if_pos h1]
      constructor
      · intro h; omega
      · intro h; have := (List.cons.inj h).1; omega
    · rw [if_neg h1]
      by_cases h2 : x > y
      · rw [if_pos h2]
        constructor
        · intro h; omega
        · intro h; have := (List.cons.inj h).1; omega
      · rw [if_neg h2, ih]
        have : x = y := by omega
        subst this
        simp
theorem cmp_Compare_eq (x y : Int) : cmp_Compare_int64.f x y = some (if x < y then -1 else if x > y then 1 else 0) := by
  unfold cmp_Compare_int64.f cmp_isNaN_int64.f
  simp only [bne_self_eq_false, Option.bind_some, Bool.false_eq_true, if_false]
  repeat' split
  all_goals rfl
theorem slices_Compare_int64_int64.l0_eq (X Y : List Int) (hx : X.length ≤ 1048576) (hy : Y.length ≤ 1048576) : ∀ (n k i : Nat), X.length = i + n → i ≤ Y.length → n < k → slices_Compare_int64_int64.l0 k X Y X (X.length : Int) (i : Int) = some (cmpL (X.drop i) (Y.drop i))
  | _, 0, _, _, _, h => absurd h (by omega)
  | 0, k + 1, i, hi, hj, _ => by
    have h1 : ¬ ((i : Int) < (X.length : Int)) := by omega
    unfold slices_Compare_int64_int64.l0
    rw [if_neg h1, List.drop_eq_nil_of_le (by omega : X.length ≤ i)]
    by_cases h2 : i < Y.length
    · rw [if_pos (by omega), List.drop_eq_getElem_cons h2]; rfl
    · rw [if_neg (by omega), List.drop_eq_nil_of_le (by omega)]; rfl
  | n + 1, k + 1, i, hi, hj, h => by
    have h1 : (i : Int) < (X.length : Int) := by omega
    have h2 : (0 : Int) ≤ (i : Int) := by omega
    have h4 : wrap64 ((i : Int) + 1) = ((i + 1 : Nat) : Int) := by rw [wrap64_in (by omega)]; omega
    have hlt : i < X.length := by omega
    unfold slices_Compare_int64_int64.l0
    rw [if_pos h1, if_pos h2, if_pos h1, List.drop_eq_getElem_cons hlt]
    by_cases h5 : i < Y.length
    · rw [if_neg (by omega), if_pos (by omega), rd_at X i hlt, rd_at Y i h5, cmp_Compare_eq, Option.bind_some, h4, List.drop_eq_getElem_cons h5, slices_Compare_int64_int64.l0_eq X Y hx hy n k (i + 1) (by omega) (by omega) (by omega)]
      conv => rhs; unfold cmpL
      generalize X[i] = u
      generalize Y[i] = v
      by_cases g1 : u < v
      · rw [if_pos g1, if_pos g1]; rfl
      · rw [if_neg g1, if_neg g1]
        by_cases g2 : u > v
        · rw [if_pos g2, if_pos g2]; rfl
        · rw [if_neg g2, if_neg g2]; rfl
    · rw [if_pos (by omega), List.drop_eq_nil_of_le (by omega : Y.length ≤ i)]
      rfl
theorem slices_Compare_eq (X Y : List Int) (k : Nat) (hx : X.length ≤ 1048576) (hy : Y.length ≤ 1048576) (hk : X.length < k) : slices_Compare_int64_int64.f k X Y = some (cmpL X Y) := by
  unfold slices_Compare_int64_int64.f
  have := slices_Compare_int64_int64.l0_eq X Y hx hy X.length k 0 (by omega) (by omega) hk
  simpa using this
theorem firstCode2 (k : Nat) (u v : Int) : impl_firstCode.f (k + 3) [u, v] = some (if u = 0 then v else u) := by
  have w1 : wrap64 (0 + 1) = 1 := by decide +kernel
  have w2 : wrap64 (1 + 1) = 2 := by decide +kernel
  unfold impl_firstCode.f
  rw [show (([u, v] : List Int).length : Int) = 2 from rfl]
  unfold impl_firstCode.l0
  rw [if_pos (by decide), if_pos (by decide), if_pos (by simp), show rd [u, v] 0 = u from rfl, w1]
  by_cases h : u = 0
  · rw [if_pos h, if_pos h]
    unfold impl_firstCode.l0
    rw [if_pos (by decide), if_pos (by decide), if_pos (by simp), show rd [u, v] 1 = v from rfl, w2]
    by_cases h2 : v = 0
    · rw [if_pos h2, h2]
      unfold impl_firstCode.l0
      rw [if_neg (by decide)]
    · rw [if_neg h2]
  · rw [if_neg h, if_neg h]
def cmpo (a : Int) (X Y : List Int) : Int × Int :=
  if 1 ≤ a ∧ a ≤ 3 then (if fault X = 0 then (if fault Y = 0 then (0, cmpL (X.map (mc a)) (Y.map (mc a))) else (fault Y, 0)) else (fault X, 0)) else (4, 0)
theorem impl_CompareCodes_eq (a : Int) (X Y : List Int) (k : Nat) (hx : X.length ≤ 1048576) (hy : Y.length ≤ 1048576) (hk : 2 * X.length + Y.length + 8 < k) : impl_CompareCodes.f k a X Y = some (cmpo a X Y) := by
  obtain ⟨k2, rfl⟩ : ∃ k2, k = k2 + 3 := ⟨k - 3, by omega⟩
  unfold impl_CompareCodes.f cmpo
  rw [impl_isComparator_eq, impl_CodesFault_eq, impl_CodesFault_eq]
  simp only [Option.bind_some]
  by_cases ha : 1 ≤ a ∧ a ≤ 3
  · rw [decide_eq_true ha, if_pos rfl, if_pos ha]
    show (impl_firstCode.f (k2 + 3) [fault X, fault Y]).bind _ = _
    rw [firstCode2, Option.bind_some]
    unfold impl_compared.f
    rw [impl_mappedAll_eq a ha X _ hx (by omega), impl_mappedAll_eq a ha Y _ hy (by omega)]
    simp only [Option.bind_some]
    rw [slices_Compare_eq _ _ _ (by rw [List.length_map]; omega) (by rw [List.length_map]; omega) (by rw [List.length_map]; omega)]
    by_cases h1 : fault X = 0
    · rw [if_pos h1, if_pos h1]
      by_cases h2 : fault Y = 0
      · rw [if_pos h2, if_pos h2]; rfl
      · rw [if_neg h2, if_neg h2]
    · rw [if_neg h1, if_neg h1, if_neg h1]
  · rw [decide_eq_false ha, if_neg ha]; rfl
theorem laws_lwNums.l0_eq (X Y : List Int) (hx : X.length ≤ 1048576) (hxy : X.length = Y.length) : ∀ (n k i : Nat), X.length = i + n → n < k → laws_lwNums.l0 k X Y (i : Int) = some (decide (X.drop i = Y.drop i))
  | _, 0, _, _, h => absurd h (by omega)
  | 0, k + 1, i, hi, _ => by
    have h1 : ¬ ((i : Int) < (X.length : Int)) := by omega
    unfold laws_lwNums.l0
    rw [if_neg h1, List.drop_eq_nil_of_le (by omega : X.length ≤ i), List.drop_eq_nil_of_le (by omega : Y.length ≤ i)]
    rfl
  | n + 1, k + 1, i, hi, h => by
    have h1 : (i : Int) < (X.length : Int) := by omega
    have h1y : (i : Int) < (Y.length : Int) := by omega
    have h2 : (0 : Int) ≤ (i : Int) := by omega
    have h4 : wrap64 ((i : Int) + 1) = ((i + 1 : Nat) : Int) := by rw [wrap64_in (by omega)]; omega
    unfold laws_lwNums.l0
    rw [if_pos h1, if_pos h2, if_pos h1y, rd_at X i (by omega), rd_at Y i (by omega), h4, laws_lwNums.l0_eq X Y hx hxy n k (i + 1) (by omega) (by omega), List.drop_eq_getElem_cons (by omega : i < X.length), List.drop_eq_getElem_cons (by omega : i < Y.length)]
    by_cases h5 : X[i] = Y[i]
    · rw [if_pos h5, h5]
      congr 1
      rw [decide_eq_decide]
      exact ⟨fun e => by rw [e], fun e => (List.cons.inj e).2⟩
    · rw [if_neg h5, decide_eq_false (fun e => h5 (List.cons.inj e).1)]
theorem laws_lwNums_eq (X Y : List Int) (k : Nat) (hx : X.length ≤ 1048576) (hk : X.length < k) : laws_lwNums.f k X Y = some (decide (X = Y)) := by
  unfold laws_lwNums.f
  by_cases h : X.length = Y.length
  · rw [if_pos (by omega)]
    have := laws_lwNums.l0_eq X Y hx h X.length k 0 (by omega) hk
    simpa using this
  · rw [if_neg (by omega), decide_eq_false (fun e => h (by rw [e]))]
theorem byte_wf {l : List Int} (h : ∀ x ∈ l, (Lit.int .u8 x).wf = true) : ∀ x ∈ l, 0 ≤ x ∧ x ≤ 255 := by
  intro x hx
  have h1 := h x hx
  unfold Lit.wf at h1
  rw [Bool.and_eq_true, decide_eq_true_eq, decide_eq_true_eq, show IntKind.u8.min = 0 from by decide, show IntKind.u8.max = 255 from by decide] at h1
  exact h1
theorem rd_byte {l : List Int} (h : ∀ x ∈ l, 0 ≤ x ∧ x ≤ 255) (j : Int) : 0 ≤ rd l j ∧ rd l j ≤ 255 := by
  unfold rd
  rw [List.getD_eq_getElem?_getD]
  cases hg : l[j.toNat]? with
  | none => simp
  | some v =>
    have := h v (List.mem_of_getElem? hg)
    simpa using this
theorem tmod_in (x n : Int) (hx : 0 ≤ x) (hn : 1 ≤ n) : 0 ≤ Int.tmod x n ∧ Int.tmod x n < n :=
  ⟨Int.tmod_nonneg _ hx, Int.tmod_lt_of_pos _ (by omega)⟩
/-- A draw tells a number below its bound. -/
theorem spec_l1Next_eq (l : List Int) (hB : ∀ x ∈ l, 0 ≤ x ∧ x ≤ 255) (hl : l.length ≤ 1048576) (i n : Int) (hi : 0 ≤ i ∧ i ≤ 4294967296) (hn : 1 ≤ n) : ∃ v, spec_l1Next.f l i n = some (v, i + 1) ∧ 0 ≤ v ∧ v < n := by
  unfold spec_l1Next.f
  have a1 : wrap64 (i + 1) = i + 1 := wrap64_in (by omega)
  have a2 : wrap64 (i + 1 - 1) = i := by rw [show i + 1 - 1 = i by omega]; exact wrap64_in (by omega)
  rw [a1, a2, if_neg (by omega)]
  by_cases h0 : (l.length : Int) = 0
  · have a3 : wrap64 (i * 7) = i * 7 := wrap64_in (by omega)
    rw [if_pos h0, if_neg (by omega), a3]
    exact ⟨_, rfl, tmod_in _ _ (by omega) hn⟩
  · rw [if_neg h0]
    have h1 := tmod_in i (l.length : Int) hi.1 (by omega)
    rw [if_pos h1.1, if_pos h1.2]
    have hd : 0 ≤ Int.tdiv i (l.length : Int) ∧ Int.tdiv i (l.length : Int) ≤ i := by
      rw [Int.tdiv_eq_ediv_of_nonneg hi.1]
      exact ⟨Int.ediv_nonneg hi.1 (by omega), Int.ediv_le_self _ hi.1⟩
    have hr1 := rd_byte hB (Int.tmod i (l.length : Int))
    generalize rd l (Int.tmod i (l.length : Int)) = r1 at hr1
    generalize Int.tdiv i (l.length : Int) = q at hd
    have b0 : wrap64 r1 = r1 := wrap64_in (by omega)
    have b1 : wrap64 q = q := wrap64_in (by omega)
    have b2 : wrap64 (q * 37) = q * 37 := wrap64_in (by omega)
    have b3 : wrap64 (r1 + q * 37) = r1 + q * 37 := wrap64_in (by omega)
    rw [b0, b1, b2, b3]
    by_cases h2 : n > 200
    · rw [if_pos h2, a1]
      have h3 := tmod_in (i + 1) (l.length : Int) (by omega) (by omega)
      rw [if_pos h3.1, if_pos h3.2, if_neg (by omega)]
      have hr2 := rd_byte hB (Int.tmod (i + 1) (l.length : Int))
      generalize rd l (Int.tmod (i + 1) (l.length : Int)) = r2 at hr2
      have c0 : wrap64 r2 = r2 := wrap64_in (by omega)
      have c1 : wrap64 ((r1 + q * 37) * 251) = (r1 + q * 37) * 251 := wrap64_in (by omega)
      have c2 : wrap64 (r2 * 13) = r2 * 13 := wrap64_in (by omega)
      have c3 : wrap64 ((r1 + q * 37) * 251 + r2 * 13) = (r1 + q * 37) * 251 + r2 * 13 := wrap64_in (by omega)
      have c4 : wrap64 ((r1 + q * 37) * 251 + r2 * 13 + i) = (r1 + q * 37) * 251 + r2 * 13 + i := wrap64_in (by omega)
      rw [c0, c1, c2, c3, c4]
      exact ⟨_, rfl, tmod_in _ _ (by omega) hn⟩
    · rw [if_neg h2, if_neg (by omega)]
      exact ⟨_, rfl, tmod_in _ _ (by omega) hn⟩
theorem spec_l1Pick_eq (l : List Int) (hB : ∀ x ∈ l, 0 ≤ x ∧ x ≤ 255) (hl : l.length ≤ 1048576) (i : Int) (hi : 0 ≤ i ∧ i ≤ 4294967296) (L : List Int) (hL : 1 ≤ L.length) : ∃ j : Nat, j < L.length ∧ spec_l1Pick.f l i L = some (rd L (j : Int), i + 1) := by
  obtain ⟨v, hv, h0, h1⟩ := spec_l1Next_eq l hB hl i (L.length : Int) hi (by omega)
  unfold spec_l1Pick.f
  rw [hv, Option.bind_some]
  refine ⟨v.toNat, by omega, ?_⟩
  rw [Int.toNat_of_nonneg h0]
  simp only
  rw [if_pos h0, if_pos h1]
theorem spec_l2Codes.l0_eq (l : List Int) (hB : ∀ x ∈ l, 0 ≤ x ∧ x ≤ 255) (hl : l.length ≤ 1048576) : ∀ (n k : Nat) (acc : List Int) (i : Int), n < k → (0 ≤ i ∧ i + n ≤ 4294967296) → acc.length + n ≤ 1000 → (∀ x ∈ acc, x ∈ ([97, 66, 32, 228, 1078, 1046, 8470, 167, 8364, 127, 160, 1037] : List Int)) → ∃ out, spec_l2Codes.l0 k acc (n : Int) l i = some (out, i + n) ∧ out.length = acc.length + n ∧ ∀ x ∈ out, x ∈ ([97, 66, 32, 228, 1078, 1046, 8470, 167, 8364, 127, 160, 1037] : List Int)
  | _, 0, _, _, h, _, _, _ => absurd h (by omega)
  | 0, k + 1, acc, i, _, hi, ha, hx => by
    unfold spec_l2Codes.l0
    rw [if_neg (by omega)]
    exact ⟨acc, by simp, by simp, hx⟩
  | n + 1, k + 1, acc, i, h, hi, ha, hx => by
    obtain ⟨j, hj, hp⟩ := spec_l1Pick_eq l hB hl i (by omega) ([97, 66, 32, 228, 1078, 1046, 8470, 167, 8364, 127, 160, 1037] : List Int) (by decide)
    have hw : wrap64 (((n + 1 : Nat) : Int) - 1) = (n : Int) := by rw [wrap64_in (by omega)]; omega
    have hm : rd [97, 66, 32, 228, 1078, 1046, 8470, 167, 8364, 127, 160, 1037] (j : Int) ∈ ([97, 66, 32, 228, 1078, 1046, 8470, 167, 8364, 127, 160, 1037] : List Int) := by
      rw [rd_at _ j hj]
      exact List.getElem_mem hj
    unfold spec_l2Codes.l0
    rw [if_pos (by omega), hp, Option.bind_some, if_pos (by omega), hw]
    simp only
    generalize rd [97, 66, 32, 228, 1078, 1046, 8470, 167, 8364, 127, 160, 1037] (j : Int) = y at hm
    obtain ⟨out, ho, hlen, hb⟩ := spec_l2Codes.l0_eq l hB hl n k (acc ++ [y]) (i + 1) (by omega) (by omega) (by simp; omega) (by
      intro x hx'
      rcases List.mem_append.1 hx' with h' | h'
      · exact hx x h'
      · rw [List.mem_singleton.1 h']; exact hm)
    refine ⟨out, ?_, by simp at hlen; omega, hb⟩
    rw [ho]
    congr 2
    omega
theorem spec_l2Codes_eq (l : List Int) (hB : ∀ x ∈ l, 0 ≤ x ∧ x ≤ 255) (hl : l.length ≤ 1048576) (k : Nat) (i : Int) (hk : 8 ≤ k) (hi : 0 ≤ i ∧ i ≤ 1000000) : ∃ out j, spec_l2Codes.f k l i = some (out, j) ∧ out.length ≤ 5 ∧ (∀ x ∈ out, x ∈ ([97, 66, 32, 228, 1078, 1046, 8470, 167, 8364, 127, 160, 1037] : List Int)) ∧ i ≤ j ∧ j ≤ i + 6 := by
  obtain ⟨v, hv, h0, h1⟩ := spec_l1Next_eq l hB hl i 6 (by omega) (by omega)
  obtain ⟨n, rfl⟩ := Int.eq_ofNat_of_zero_le h0
  obtain ⟨out, ho, hlen, hm⟩ := spec_l2Codes.l0_eq l hB hl n k [] (i + 1) (by omega) (by omega) (by simp; omega) (by simp)
  unfold spec_l2Codes.f
  rw [hv, Option.bind_some]
  exact ⟨out, _, ho, by simp at hlen; omega, hm, by omega, by omega⟩
theorem spec_l2Bent_eq (l : List Int) (hB : ∀ x ∈ l, 0 ≤ x ∧ x ≤ 255) (hl : l.length ≤ 1048576) (k : Nat) (i : Int) (hk : 8 ≤ k) (hi : 0 ≤ i ∧ i ≤ 1000) : ∃ out j, spec_l2Bent.f k l i = some (out, j) ∧ out.length ≤ 401 ∧ i ≤ j ∧ j ≤ i + 10 := by
  obtain ⟨c, j, h1, h2, _, h3, h4⟩ := spec_l2Codes_eq l hB hl k i hk (by omega)
  obtain ⟨v, hv, v0, v1⟩ := spec_l1Next_eq l hB hl j 10 (by omega) (by omega)
  unfold spec_l2Bent.f
  rw [h1, Option.bind_some]
  simp only
  rw [hv, Option.bind_some]
  simp only
  by_cases c0 : v = 0
  · obtain ⟨q, hq, hp⟩ := spec_l1Pick_eq l hB hl (j + 1) (by omega) ([-1, 55296, 57343, 65535, 65536] : List Int) (by decide)
    rw [if_pos c0, hp, Option.bind_some, if_pos (by omega)]
    exact ⟨_, _, rfl, by simp; omega, by omega, by omega⟩
  · rw [if_neg c0]
    by_cases c1 : v = 1
    · obtain ⟨q, hq, hp⟩ := spec_l1Pick_eq l hB hl (j + 1) (by omega) ([400, 401, 300] : List Int) (by decide)
      have h5 : 300 ≤ rd [400, 401, 300] (q : Int) ∧ rd [400, 401, 300] (q : Int) ≤ 401 := by
        have hq2 : q < 3 := hq
        rcases (by omega : q = 0 ∨ q = 1 ∨ q = 2) with rfl | rfl | rfl <;> decide
      rw [if_pos c1, hp, Option.bind_some]
      simp only
      generalize rd [400, 401, 300] (q : Int) = y at h5
      rw [if_pos (by omega), if_pos (by omega)]
      exact ⟨_, _, rfl, by simp; omega, by omega, by omega⟩
    · rw [if_neg c1]
      exact ⟨_, _, rfl, by omega, by omega, by omega⟩
theorem spec_l3Draw_eq (l : List Int) (hB : ∀ x ∈ l, 0 ≤ x ∧ x ≤ 255) (hl : l.length ≤ 1048576) (i : Int) (hi : 0 ≤ i ∧ i ≤ 1000) : ∃ a, spec_l3Draw.f l i = some (a, i + 1) := by
  obtain ⟨j, hj, hp⟩ := spec_l1Pick_eq l hB hl i (by omega) ([1, 2, 3, 3, 3, 0, 4] : List Int) (by decide)
  unfold spec_l3Draw.f
  rw [hp]
  exact ⟨_, rfl⟩
theorem impl_isChar_eq (c : Int) : impl_isChar.f c = some (charB c) := by
  simp only [impl_isChar.f, within_eq, Option.bind_some]
  have hr : charB c = (decide (0 ≤ c ∧ c ≤ 65535) && !decide (55296 ≤ c ∧ c ≤ 57343)) := by
    rw [Bool.eq_iff_iff]; simp only [charB, Bool.and_eq_true, Bool.or_eq_true, Bool.not_eq_true', decide_eq_true_eq, decide_eq_false_iff_not]; omega
  rw [hr]
  generalize decide (0 ≤ c ∧ c ≤ 65535) = x
  cases x <;> simp
theorem mc_cases (a c : Int) (hc : 0 ≤ c ∧ c ≤ 65535) : mc a c = if a = 1 then c else if 97 ≤ c ∧ c ≤ 122 then c - 32 else if a = 2 then c else if (224 ≤ c ∧ c ≤ 254 ∧ c ≠ 247) ∨ (945 ≤ c ∧ c ≤ 969 ∧ c ≠ 962) ∨ (1072 ≤ c ∧ c ≤ 1103) then c - 32 else if 1104 ≤ c ∧ c ≤ 1119 then c - 80 else c := by
  unfold mc
  rw [wrap64_in (n := c - 32) (by omega), wrap64_in (n := c - 80) (by omega)]
  simp only [Bool.or_eq_true, Bool.and_eq_true, decide_eq_true_eq, bne_iff_ne, ne_eq, and_assoc, or_assoc]
theorem mc_again (a c : Int) (hc : charB c = true) : charB (mc a c) = true ∧ mc a (mc a c) = mc a c := by
  have h := (charB_iff c).1 hc
  have e := mc_cases a c (by omega)
  have hr : (0 ≤ mc a c ∧ mc a c ≤ 55295) ∨ (57344 ≤ mc a c ∧ mc a c ≤ 65535) := by
    rw [e]; repeat' split
    all_goals omega
  refine ⟨(charB_iff _).2 hr, ?_⟩
  rw [mc_cases a (mc a c) (by omega), e]
  clear e hr
  repeat' split
  all_goals omega
theorem map_again (a : Int) (l : List Int) (h : ∀ x ∈ l, charB x = true) : (∀ x ∈ l.map (mc a), charB x = true) ∧ (l.map (mc a)).map (mc a) = l.map (mc a) := by
  constructor
  · intro x hx
    obtain ⟨y, hy, rfl⟩ := List.mem_map.1 hx
    exact (mc_again a y (h y hy)).1
  · rw [List.map_map]
    apply List.map_congr_left
    intro x hx
    exact (mc_again a x (h x hx)).2
theorem MapChar_both (k : Nat) (a c : Int) : ∃ r, impl_MapChar.f (k + 2) a c = some r ∧ spec_MapChar.f (k + 2) a c = some r := by
  unfold impl_MapChar.f spec_MapChar.f
  rw [impl_isComparator_eq, spec_l3Cmp_eq, Option.bind_some, Option.bind_some]
  by_cases h : 1 ≤ a ∧ a ≤ 3
  · rw [decide_eq_true h, if_pos rfl, if_pos rfl, impl_isChar_eq, spec_l2Char_eq, Option.bind_some, Option.bind_some, impl_mapped_eq (k + 1) a c h, spec_l3Char_eq k a c h]
    cases charB c
    · exact ⟨_, rfl, rfl⟩
    · exact ⟨_, rfl, rfl⟩
  · rw [decide_eq_false h]
    exact ⟨_, rfl, rfl⟩
theorem draw_map (l : List Int) (hB : ∀ x ∈ l, 0 ≤ x ∧ x ≤ 255) (hl : l.length ≤ 1048576) (k : Nat) (hk : 8 ≤ k) : ∃ a c b L, spec_DrawMapChar.f l = some (a, c) ∧ spec_DrawMapCodes.f k l = some (b, L) ∧ L.length ≤ 401 := by
  obtain ⟨a, ha⟩ := spec_l3Draw_eq l hB hl 0 (by omega)
  obtain ⟨j, hj, hp⟩ := spec_l1Pick_eq l hB hl (0 + 1) (by omega) ([97, 122, 123, 65, 223, 224, 247, 254, 255, 945, 962, 969, 1072, 1103, 1104, 1119, 1120, -1] : List Int) (by decide)
  obtain ⟨L, q, h1, h2, _⟩ := spec_l2Bent_eq l hB hl k (0 + 1) hk (by omega)
  refine ⟨a, rd [97, 122, 123, 65, 223, 224, 247, 254, 255, 945, 962, 969, 1072, 1103, 1104, 1119, 1120, -1] (j : Int), a, L, ?_, ?_, h2⟩
  · unfold spec_DrawMapChar.f spec_l1Source.f
    simp only [Option.bind_some, ha, hp]
  · unfold spec_DrawMapCodes.f spec_l1Source.f
    simp only [Option.bind_some, ha, h1]
theorem maps_rest (k : Nat) (hk : 4000 ≤ k) (a : Int) (L : List Int) (hL : L.length ≤ 401) : ((impl_MapCodes.f k a L).bind fun bt280 => (if bt280.1 = 0 then ((impl_MapCodes.f k a bt280.2).bind fun bt289 => (if bt289.1 = 0 then ((laws_lwNums.f k bt289.2 bt280.2).bind fun t294 => (if t294 = true then (if (bt280.2.length : Int) = (L.length : Int) then ((impl_CompareCodes.f k a L bt280.2).bind fun bt295 => (if bt295.2 = 0 then ((impl_CompareCodes.f k a L bt280.2).bind fun bt297 => (if bt297.1 = 0 then ((impl_HasCodes.f k a L bt280.2).bind fun t299 => (if t299 = true then ((spec_MapCodes.f k a L).bind fun bt300 => ((laws_lwNums.f k bt280.2 bt300.2).bind fun t304 => (some t304))) else (some false))) else (some false))) else (some false))) else (some false)) else (some false))) else (some false))) else ((spec_MapCodes.f k a L).bind fun bt285 => (some (bt285.1 == bt280.1))))) = some true := by
  rw [impl_MapCodes_eq a L k (by omega) (by omega), spec_MapCodes_eq a L k (by omega) (by omega)]
  simp only [Option.bind_some]
  by_cases h0 : (mapo a L).1 = 0
  · obtain ⟨ha, hf⟩ := (mapo_code a L).1 h0
    obtain ⟨hl4, hch⟩ := fault_zero hf
    have hm : mapo a L = (0, L.map (mc a)) := by
      unfold mapo
      rw [if_pos ha, if_neg (by omega), if_pos (List.all_eq_true.mpr hch)]
    rw [hm]
    show (if (0 : Int) = 0 then _ else _) = _
    obtain ⟨hc2, hm2⟩ := map_again a L hch
    have hlm : (L.map (mc a)).length = L.length := List.length_map ..
    have hf2 : fault (L.map (mc a)) = 0 := fault_of _ (by omega) hc2
    have hmm : mapo a (L.map (mc a)) = (0, L.map (mc a)) := by
      unfold mapo
      rw [if_pos ha, if_neg (by omega), if_pos (List.all_eq_true.mpr hc2), hm2]
    rw [if_pos rfl, impl_MapCodes_eq a (L.map (mc a)) k (by omega) (by omega), hmm, Option.bind_some, if_pos rfl]
    simp only
    rw [laws_lwNums_eq _ _ k (by omega) (by omega), decide_eq_true rfl, Option.bind_some, if_pos rfl, if_pos (by omega), impl_CompareCodes_eq a L (L.map (mc a)) k (by omega) (by omega) (by omega)]
    have hcm : cmpo a L (L.map (mc a)) = (0, 0) := by
      unfold cmpo
      rw [if_pos ha, if_pos hf, if_pos hf2, hm2, (cmpL_zero _ _).2 rfl]
    rw [hcm, Option.bind_some, if_pos rfl, Option.bind_some, if_pos rfl]
    obtain ⟨b, g1, g2⟩ := HasCodesI_iff a L (L.map (mc a)) (by omega) (by omega) k (by omega)
    have hb : b = true := g2.2 ⟨ha, hf, hf2, 0, by rw [hm2]; omega, by rw [hm2, List.drop_zero, List.take_of_length_le (Nat.le_refl _)]⟩
    rw [g1, hb, Option.bind_some, if_pos rfl]
    rfl
  · rw [if_neg h0, beq_self_eq_true]
theorem FnMaps : laws_FnMaps.Pure := by
  intro l hb _ hw
  have hB := byte_wf hw
  refine ⟨4000, ?_⟩
  generalize hk : 4000 = k
  unfold laws_FnMaps.f laws_lwBig.f
  rw [Option.bind_some]
  by_cases hl : (l.length : Int) > 1048576
  · rw [decide_eq_true hl, if_pos rfl]
  · rw [decide_eq_false hl, if_neg (by decide)]
    obtain ⟨a, c, b, L, d1, d2, hL⟩ := draw_map l hB (by omega) k (by omega)
    obtain ⟨k2, hk2⟩ : ∃ k2, k = k2 + 2 := ⟨k - 2, by omega⟩
    obtain ⟨r, e1, e2⟩ := MapChar_both k2 a c
    rw [← hk2] at e1 e2
    rw [d1, Option.bind_some, e1, Option.bind_some, e2, Option.bind_some, beq_self_eq_true, beq_self_eq_true, if_neg (by decide), d2, Option.bind_some]
    exact maps_rest k (by omega) b L hL

end Go.Proofs.Ytcmndjbokgaihaa.Pure
