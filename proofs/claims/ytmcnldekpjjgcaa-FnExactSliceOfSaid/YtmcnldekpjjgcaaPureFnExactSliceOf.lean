/- The plain law: what the walk computes answers as the statement says. -/
import Derived.Test.YtmcnldekpjjgcaaPSliceOfx2
namespace Go.Proofs.Ytmcnldekpjjgcaa.Pure
open Go.RowKit Go.Proofs.Ytmcnldekpjjgcaa.PSliceOf Go.Proofs.YtmcnldekpjjgcaaW.PrintWords Go.Proofs.YtmcnldekpjjgcaaW.PrintLast
set_option linter.unusedSimpArgs false
set_option linter.unusedVariables false
theorem rd_at (l : List Int) (i : Nat) (h : i < l.length) : rd l (i : Int) = l[i] := by
  simp [rd, List.getD_eq_getElem?_getD, h]
theorem wrap64_in {n : Int} (h : -9223372036854775808 ≤ n ∧ n ≤ 9223372036854775807) : wrap64 n = n := by
  unfold wrap64; omega
theorem maxLen_le : maxLen ≤ 9223372036854775807 := by unfold maxLen; decide
theorem laws_toByteS.l0_eq (x0 : List Int) (hb : x0.length ≤ maxLen) : ∀ (n k i : Nat), x0.length = i + n → n < k → laws_toByteS.l0 k x0 (x0.take i ++ List.replicate n 0) (i : Int) = some x0
  | 0, 0, _, _, h => absurd h (by omega)
  | 0, k + 1, i, hi, _ => by
    have h1 : ¬ ((i : Int) < (x0.length : Int)) := by omega
    simp only [laws_toByteS.l0, if_neg h1, List.replicate_zero, List.append_nil]
    rw [List.take_of_length_le (by omega)]
  | n + 1, 0, _, _, h => absurd h (by omega)
  | n + 1, k + 1, i, hi, h => by
    have hm := maxLen_le
    have h1 : (i : Int) < (x0.length : Int) := by omega
    have h2 : (0 : Int) ≤ (i : Int) := by omega
    have h3 : (i : Int) < ((x0.take i ++ List.replicate (n + 1) (0 : Int)).length : Int) := by simp; omega
    have h4 : wrap64 ((i : Int) + 1) = ((i + 1 : Nat) : Int) := by rw [wrap64_in (by omega)]; omega
    simp only [laws_toByteS.l0]
    rw [if_pos h1, if_pos h2, if_pos h3, h4]
    rw [← laws_toByteS.l0_eq x0 hb n k (i + 1) (by omega) (by omega)]
    congr 1
    rw [rd_at x0 i (by omega), Int.toNat_natCast, List.set_append_right _ _ (by simp; omega)]
    have h5 : i - (x0.take i).length = 0 := by simp; omega
    rw [h5, List.take_succ_eq_append_getElem (by omega), List.append_assoc, List.replicate_succ, List.set_cons_zero]
    rfl
theorem laws_toByteS_eq (l : List Int) (k : Nat) (hb : l.length ≤ maxLen) (hb2 : l.length ≤ 1048576) (hk : l.length < k) : laws_toByteS.f k l = some l := by
  unfold laws_toByteS.f
  have h1 : (0 : Int) ≤ (l.length : Int) := by omega
  rw [if_pos h1, Int.toNat_natCast, if_pos (by omega)]
  exact laws_toByteS.l0_eq l hb l.length k 0 (by omega) hk
theorem laws_eqByteS.l0_eq (x0 : List Int) (hb : x0.length ≤ maxLen) : ∀ (n k i : Nat), x0.length = i + n → n < k → laws_eqByteS.l0 k x0 x0 (i : Int) = some true
  | 0, 0, _, _, h => absurd h (by omega)
  | 0, k + 1, i, hi, _ => by
    have h1 : ¬ ((i : Int) < (x0.length : Int)) := by omega
    simp only [laws_eqByteS.l0, if_neg h1]
  | n + 1, 0, _, _, h => absurd h (by omega)
  | n + 1, k + 1, i, hi, h => by
    have hm := maxLen_le
    have h1 : (i : Int) < (x0.length : Int) := by omega
    have h2 : (0 : Int) ≤ (i : Int) := by omega
    have h4 : wrap64 ((i : Int) + 1) = ((i + 1 : Nat) : Int) := by rw [wrap64_in (by omega)]; omega
    unfold laws_eqByteS.l0
    rw [if_pos h1, if_pos h2, if_pos h1]
    rw [if_pos rfl, h4]
    exact laws_eqByteS.l0_eq x0 hb n k (i + 1) (by omega) (by omega)
theorem laws_eqByteS_eq (l : List Int) (k : Nat) (hb : l.length ≤ maxLen) (hk : l.length < k) : laws_eqByteS.f k l l = some true := by
  unfold laws_eqByteS.f
  rw [if_pos rfl]
  exact laws_eqByteS.l0_eq l hb l.length k 0 (by omega) hk
def mkByteS (x : Int) : Int := ((x)%256)
def marksByteS : Int → Nat → List Int
  | _, 0 => []
  | m, n + 1 => mkByteS m :: marksByteS (m + 1) n
theorem marksByteS_len : ∀ n m, (marksByteS m n).length = n
  | 0, _ => rfl
  | n + 1, m => by simp [marksByteS, marksByteS_len n]
theorem laws_markByteS.l0_eq : ∀ (n k i : Nat) (x0 : List Int) (x1 : Int), x0.length = i + n → n < k → 0 ≤ x1 → x1 + n ≤ 4611686018427387904 → x0.length ≤ 4611686018427387904 → laws_markByteS.l0 k x0 x1 (i : Int) = some (x1 + n, x0.take i ++ marksByteS x1 n)
  | 0, 0, _, _, _, _, h, _, _, _ => absurd h (by omega)
  | 0, k + 1, i, x0, x1, hi, _, _, _, _ => by
    have h1 : ¬ ((i : Int) < (x0.length : Int)) := by omega
    unfold laws_markByteS.l0
    rw [if_neg h1, List.take_of_length_le (by omega)]
    simp [marksByteS]
  | n + 1, 0, _, _, _, _, h, _, _, _ => absurd h (by omega)
  | n + 1, k + 1, i, x0, x1, hi, h, hx, hx1, hb => by
    have h1 : (i : Int) < (x0.length : Int) := by omega
    have h2 : (0 : Int) ≤ (i : Int) := by omega
    have h4 : wrap64 ((i : Int) + 1) = ((i + 1 : Nat) : Int) := by rw [wrap64_in (by omega)]; omega
    have h5 : wrap64 (x1 + 1) = x1 + 1 := wrap64_in (by omega)
    have hs : (x0.set i (mkByteS x1)).take (i + 1) = x0.take i ++ [mkByteS x1] := by
      rw [List.take_succ_eq_append_getElem (by simp; omega), List.getElem_set_self]
      congr 1
      rw [List.take_set, List.set_eq_of_length_le (by simp; omega)]
    unfold laws_markByteS.l0
    rw [if_pos h1, if_pos h2, Int.toNat_natCast, h4, h5]
    have := laws_markByteS.l0_eq n k (i + 1) (x0.set i (mkByteS x1)) (x1 + 1) (by simp; omega) (by omega) (by omega) (by omega) (by simp; omega)
    rw [hs] at this
    unfold mkByteS at this
    rw [this]
    simp [marksByteS, mkByteS]
    omega
theorem laws_markByteS_eq (l : List Int) (m : Int) (k : Nat) (hk : l.length < k) (hl : l.length ≤ 1048576) (hm : 0 ≤ m ∧ m ≤ 4294967296) : laws_markByteS.f k l m = some (m + l.length, marksByteS m l.length) := by
  unfold laws_markByteS.f
  have := laws_markByteS.l0_eq l.length k 0 l m (by omega) hk hm.1 (by omega) (by omega)
  simpa using this
theorem laws_heldByteS.l0_eq : ∀ (n k i : Nat) (x0 : List Int) (x1 : Int), x0.length = i + n → n < k → 0 ≤ x1 → x1 + n ≤ 4611686018427387904 → x0.length ≤ 4611686018427387904 → x0.drop i = marksByteS x1 n → laws_heldByteS.l0 k x0 x1 (i : Int) = some (x1 + n)
  | 0, 0, _, _, _, _, h, _, _, _, _ => absurd h (by omega)
  | 0, k + 1, i, x0, x1, hi, _, _, _, _, _ => by
    have h1 : ¬ ((i : Int) < (x0.length : Int)) := by omega
    unfold laws_heldByteS.l0
    rw [if_neg h1]
    simp
  | n + 1, 0, _, _, _, _, h, _, _, _, _ => absurd h (by omega)
  | n + 1, k + 1, i, x0, x1, hi, h, hx, hx1, hb, hd => by
    have h1 : (i : Int) < (x0.length : Int) := by omega
    have h2 : (0 : Int) ≤ (i : Int) := by omega
    have h4 : wrap64 ((i : Int) + 1) = ((i + 1 : Nat) : Int) := by rw [wrap64_in (by omega)]; omega
    have h5 : wrap64 (x1 + 1) = x1 + 1 := wrap64_in (by omega)
    have hlt : i < x0.length := by omega
    rw [List.drop_eq_getElem_cons hlt] at hd
    unfold marksByteS at hd
    have h6 : x0[i] = mkByteS x1 := (List.cons.inj hd).1
    have h7 : x0.drop (i + 1) = marksByteS (x1 + 1) n := (List.cons.inj hd).2
    unfold laws_heldByteS.l0
    rw [if_pos h1, if_pos h2, rd_at x0 i hlt, h6, if_pos (by unfold mkByteS; rfl), h4, h5, laws_heldByteS.l0_eq n k (i + 1) x0 (x1 + 1) (by omega) (by omega) (by omega) (by omega) hb h7]
    congr 1
    omega
theorem laws_heldByteS_eq (n : Nat) (m : Int) (k : Nat) (hk : n < k) (hl : n ≤ 1048576) (hm : 0 ≤ m ∧ m ≤ 4294967296) : laws_heldByteS.f k (marksByteS m n) m = some (m + n) := by
  have hml := marksByteS_len n m
  unfold laws_heldByteS.f
  exact laws_heldByteS.l0_eq n k 0 (marksByteS m n) m (by omega) hk hm.1 (by omega) (by omega) (by simp)
theorem in_eq (a b c : Int) : spec_l1In.f a b c = some (decide (b ≤ a ∧ a ≤ c)) := by
  unfold spec_l1In.f; by_cases h : a ≥ b <;> simp [h] <;> omega
theorem within_eq (a b c : Int) : impl_within.f a b c = some (decide (b ≤ a ∧ a ≤ c)) := by
  unfold impl_within.f; by_cases h : a ≥ b <;> simp [h] <;> omega
def slo (l : List Int) (a1 a2 : Int) : Int × List Int :=
  if 400 < l.length then (2, []) else if (0 ≤ a1 ∧ a1 ≤ 400) ∧ (0 ≤ a2 ∧ a2 ≤ 400) then (0, (l.drop a1.toNat).take a2.toNat) else (3, [])
theorem slo_len (l : List Int) (a1 a2 : Int) : (slo l a1 a2).2.length ≤ 400 := by
  unfold slo
  split
  · simp
  · split
    · simp; omega
    · simp
theorem cut_eq (l : List Int) (hl : l.length ≤ 400) (a b : Nat) : (l.take (min l.length (min a l.length + b))).drop (min a l.length) = (l.drop a).take b := by
  apply List.ext_getElem
  · simp; omega
  · intro i h1 h2
    simp at h1 h2 ⊢
    congr 1
    omega
theorem spec_SliceOf_eq (l : List Int) (a1 a2 : Int) (k : Nat) : spec_SliceOf.f (k + 1) l a1 a2 = some (slo l a1 a2) := by
  unfold spec_SliceOf.f slo
  by_cases hl : 400 < l.length
  · rw [if_pos (by omega), if_pos hl]
  · rw [if_neg (by omega), if_neg hl]
    simp only [in_eq, Option.bind_some]
    by_cases h1 : 0 ≤ a1 ∧ a1 ≤ 400
    · by_cases h2 : 0 ≤ a2 ∧ a2 ≤ 400
      · rw [decide_eq_true h1, if_pos rfl, if_pos ⟨h1, h2⟩, decide_eq_true h2]
        obtain ⟨a, rfl⟩ := Int.eq_ofNat_of_zero_le h1.1
        obtain ⟨b, rfl⟩ := Int.eq_ofNat_of_zero_le h2.1
        rw [spec_SliceOf.j0]
        have m1 : spec_l1Min.f (a : Int) (l.length : Int) = some ((min a l.length : Nat) : Int) := by
          unfold spec_l1Min.f; split <;> congr 1 <;> omega
        have hw : wrap64 (((min a l.length : Nat) : Int) + (b : Int)) = ((min a l.length + b : Nat) : Int) := by rw [wrap64_in (by omega)]; omega
        have m2 : spec_l1Min.f (l.length : Int) ((min a l.length + b : Nat) : Int) = some ((min l.length (min a l.length + b) : Nat) : Int) := by
          unfold spec_l1Min.f; split <;> congr 1 <;> omega
        rw [Bool.not_true, if_neg (by decide), m1, Option.bind_some, hw, m2, Option.bind_some, if_pos (by omega), if_pos (by omega), if_pos (by omega)]
        simp only [Int.toNat_natCast]
        rw [cut_eq l (by omega) a b]
        unfold spec_l1Copy.f
        simp only [Option.bind_some, List.nil_append]
        rw [if_pos (by simp; omega)]
        rfl
      · rw [decide_eq_true h1, if_pos rfl, if_neg (by omega), decide_eq_false h2]
        rw [spec_SliceOf.j0]
        rw [Bool.not_false, if_pos rfl]
    · rw [decide_eq_false h1, if_neg (by decide), if_neg (by omega)]
      rw [spec_SliceOf.j0]
      rw [if_pos rfl]
theorem impl_SliceOf_eq (l : List Int) (a1 a2 : Int) (k : Nat) : impl_SliceOf.f (k + 1) l a1 a2 = some (slo l a1 a2) := by
  unfold impl_SliceOf.f slo
  by_cases hl : 400 < l.length
  · rw [if_pos (by omega), if_pos hl]
  · rw [if_neg (by omega), if_neg hl]
    simp only [within_eq, Option.bind_some]
    by_cases h1 : 0 ≤ a1 ∧ a1 ≤ 400
    · by_cases h2 : 0 ≤ a2 ∧ a2 ≤ 400
      · rw [decide_eq_true h1, if_pos rfl, if_pos ⟨h1, h2⟩, decide_eq_true h2]
        obtain ⟨a, rfl⟩ := Int.eq_ofNat_of_zero_le h1.1
        obtain ⟨b, rfl⟩ := Int.eq_ofNat_of_zero_le h2.1
        rw [impl_SliceOf.j0]
        have m1 : mn (a : Int) (l.length : Int) = ((min a l.length : Nat) : Int) := by
          unfold mn; split <;> omega
        have hw : wrap64 (((min a l.length : Nat) : Int) + (b : Int)) = ((min a l.length + b : Nat) : Int) := by rw [wrap64_in (by omega)]; omega
        have m2 : mn ((min a l.length + b : Nat) : Int) (l.length : Int) = ((min l.length (min a l.length + b) : Nat) : Int) := by
          unfold mn; split <;> omega
        rw [Bool.not_true, if_neg (by decide)]
        simp only [impl_length_byte.f, Option.bind_some]
        rw [m1, hw, m2, if_pos (by omega), if_pos (by omega), if_pos (by omega)]
        simp only [Int.toNat_natCast]
        rw [cut_eq l (by omega) a b]
        unfold slices_Clone_byte_byte.f
        rw [if_pos (by simp; omega)]
        rfl
      · rw [decide_eq_true h1, if_pos rfl, if_neg (by omega), decide_eq_false h2]
        rw [impl_SliceOf.j0]
        rw [Bool.not_false, if_pos rfl]
    · rw [decide_eq_false h1, if_neg (by decide), if_neg (by omega)]
      rw [impl_SliceOf.j0]
      rw [if_pos rfl]
theorem FnExactSliceOf : laws_FnExactSliceOf.Pure := by
  intro l a1 a2 hb hb2 hw _ _
  refine ⟨l.length + 402, ?_⟩
  unfold laws_FnExactSliceOf.f
  by_cases hl : (l.length : Int) > 1048576
  · rw [if_pos hl]
  · rw [if_neg hl]
    have hlen := slo_len l a1 a2
    have e1 := fun k (hk : l.length < k) => laws_toByteS_eq l k hb (by omega) hk
    have e2 := laws_eqByteS_eq l (l.length + 402) hb (by omega)
    have e3 := fun k => laws_eqByteS_eq (slo l a1 a2).2 (l.length + 401 + k) (by unfold maxLen; omega) (by omega)
    have e4 := laws_markByteS_eq l 1 (l.length + 402) (by omega) (by omega) (by omega)
    have e5 := laws_markByteS_eq (slo l a1 a2).2 1 (l.length + 401) (by omega) (by omega) (by omega)
    have e6 := laws_heldByteS_eq (slo l a1 a2).2.length 1 (l.length + 401) (by omega) (by omega) (by omega)
    have p0 : ¬ (1 + (l.length : Int) < 0) := by omega
    have e7 : ∀ k, laws_eqBytesResult.f (l.length + 401 + k) (slo l a1 a2).1 (slo l a1 a2).2 (slo l a1 a2).1 (slo l a1 a2).2 = some true := by
      intro k; unfold laws_eqBytesResult.f; rw [if_pos rfl, e3 k]; rfl
    have q1 := e1 (l.length + 402) (by omega)
    have q2 := e1 (l.length + 401) (by omega)
    have q3 := spec_SliceOf_eq l a1 a2 (l.length + 401)
    have q4 := impl_SliceOf_eq l a1 a2 (l.length + 401)
    have q5 := impl_SliceOf_eq l a1 a2 (l.length + 400)
    have q6 := e7 1
    have q7 := e7 0
    have p1 : ¬ (1 + ((slo l a1 a2).2.length : Int) < 0) := by omega
    simp only [q1, q3, q4, q6, e2, e4, Option.bind_some, if_true, if_neg p0]
    rw [laws_FnExactSliceOf.j0]
    simp only [laws_markBytesResult.f, laws_heldBytesResult.f, q2, q5, q7, e5, e6, Option.bind_some, if_true, if_neg p1, Bool.not_true, Bool.false_eq_true, if_false]

end Go.Proofs.Ytmcnldekpjjgcaa.Pure
