/- The plain law: what the walk computes answers as the statement says. -/
import Derived.Test.YtcmndjbokgaihaaPDecodeTextx5
namespace Go.Proofs.Ytcmndjbokgaihaa.Pure
open Go.RowKit Go.Proofs.Ytcmndjbokgaihaa.PDecodeText Go.Proofs.YtcmndjbokgaihaaW.PrintWords Go.Proofs.YtcmndjbokgaihaaW.PrintLast
set_option linter.unusedSimpArgs false
set_option linter.unusedVariables false
theorem rd_at (l : List Int) (i : Nat) (h : i < l.length) : rd l (i : Int) = l[i] := by
  simp [rd, List.getD_eq_getElem?_getD, h]
theorem wrap64_in {n : Int} (h : -9223372036854775808 ≤ n ∧ n ≤ 9223372036854775807) : wrap64 n = n := by
  unfold wrap64; omega
theorem maxLen_le : maxLen ≤ 9223372036854775807 := by unfold maxLen; decide
theorem laws_toByteS.l0_eq (x0 : List Int) (hb : x0.length ≤ maxLen) : ∀ (n k i : Nat), x0.length = i + n → n < k → laws_toByteS.l0 k x0 (x0.take i ++ List.replicate n 0) (i : Int) = some x0
  | 0, 0, _, _, h => absurd h (by omega)
  | 0, k + 1, i, hi, _ => by
    have h1 : ¬ ((i : Int) < (x0.length : Int)) := by omega
    simp only [laws_toByteS.l0, if_neg h1, List.replicate_zero, List.append_nil]
    rw [List.take_of_length_le (by omega)]
  | n + 1, 0, _, _, h => absurd h (by omega)
  | n + 1, k + 1, i, hi, h => by
    have hm := maxLen_le
    have h1 : (i : Int) < (x0.length : Int) := by omega
    have h2 : (0 : Int) ≤ (i : Int) := by omega
    have h3 : (i : Int) < ((x0.take i ++ List.replicate (n + 1) (0 : Int)).length : Int) := by simp; omega
    have h4 : wrap64 ((i : Int) + 1) = ((i + 1 : Nat) : Int) := by rw [wrap64_in (by omega)]; omega
    simp only [laws_toByteS.l0]
    rw [if_pos h1, if_pos h2, if_pos h3, h4]
    rw [← laws_toByteS.l0_eq x0 hb n k (i + 1) (by omega) (by omega)]
    congr 1
    rw [rd_at x0 i (by omega), Int.toNat_natCast, List.set_append_right _ _ (by simp; omega)]
    have h5 : i - (x0.take i).length = 0 := by simp; omega
    rw [h5, List.take_succ_eq_append_getElem (by omega), List.append_assoc, List.replicate_succ, List.set_cons_zero]
    rfl
theorem laws_toByteS_eq (l : List Int) (k : Nat) (hb : l.length ≤ maxLen) (hb2 : l.length ≤ 1048576) (hk : l.length < k) : laws_toByteS.f k l = some l := by
  unfold laws_toByteS.f
  have h1 : (0 : Int) ≤ (l.length : Int) := by omega
  rw [if_pos h1, Int.toNat_natCast, if_pos (by omega)]
  exact laws_toByteS.l0_eq l hb l.length k 0 (by omega) hk
theorem laws_eqByteS.l0_eq (x0 : List Int) (hb : x0.length ≤ maxLen) : ∀ (n k i : Nat), x0.length = i + n → n < k → laws_eqByteS.l0 k x0 x0 (i : Int) = some true
  | 0, 0, _, _, h => absurd h (by omega)
  | 0, k + 1, i, hi, _ => by
    have h1 : ¬ ((i : Int) < (x0.length : Int)) := by omega
    simp only [laws_eqByteS.l0, if_neg h1]
  | n + 1, 0, _, _, h => absurd h (by omega)
  | n + 1, k + 1, i, hi, h => by
    have hm := maxLen_le
    have h1 : (i : Int) < (x0.length : Int) := by omega
    have h2 : (0 : Int) ≤ (i : Int) := by omega
    have h4 : wrap64 ((i : Int) + 1) = ((i + 1 : Nat) : Int) := by rw [wrap64_in (by omega)]; omega
    unfold laws_eqByteS.l0
    rw [if_pos h1, if_pos h2, if_pos h1]
    rw [if_pos rfl, h4]
    exact laws_eqByteS.l0_eq x0 hb n k (i + 1) (by omega) (by omega)
theorem laws_eqByteS_eq (l : List Int) (k : Nat) (hb : l.length ≤ maxLen) (hk : l.length < k) : laws_eqByteS.f k l l = some true := by
  unfold laws_eqByteS.f
  rw [if_pos rfl]
  exact laws_eqByteS.l0_eq l hb l.length k 0 (by omega) hk
theorem laws_eqInt64S.l0_eq (x0 : List Int) (hb : x0.length ≤ maxLen) : ∀ (n k i : Nat), x0.length = i + n → n < k → laws_eqInt64S.l0 k x0 x0 (i : Int) = some true
  | 0, 0, _, _, h => absurd h (by omega)
  | 0, k + 1, i, hi, _ => by
    have h1 : ¬ ((i : Int) < (x0.length : Int)) := by omega
    simp only [laws_eqInt64S.l0, if_neg h1]
  | n + 1, 0, _, _, h => absurd h (by omega)
  | n + 1, k + 1, i, hi, h => by
    have hm := maxLen_le
    have h1 : (i : Int) < (x0.length : Int) := by omega
    have h2 : (0 : Int) ≤ (i : Int) := by omega
    have h4 : wrap64 ((i : Int) + 1) = ((i + 1 : Nat) : Int) := by rw [wrap64_in (by omega)]; omega
    unfold laws_eqInt64S.l0
    rw [if_pos h1, if_pos h2, if_pos h1]
    rw [if_pos rfl, h4]
    exact laws_eqInt64S.l0_eq x0 hb n k (i + 1) (by omega) (by omega)
theorem laws_eqInt64S_eq (l : List Int) (k : Nat) (hb : l.length ≤ maxLen) (hk : l.length < k) : laws_eqInt64S.f k l l = some true := by
  unfold laws_eqInt64S.f
  rw [if_pos rfl]
  exact laws_eqInt64S.l0_eq l hb l.length k 0 (by omega) hk
def mkByteS (x : Int) : Int := ((x)%256)
def marksByteS : Int → Nat → List Int
  | _, 0 => []
  | m, n + 1 => mkByteS m :: marksByteS (m + 1) n
theorem marksByteS_len : ∀ n m, (marksByteS m n).length = n
  | 0, _ => rfl
  | n + 1, m => by simp [marksByteS, marksByteS_len n]
theorem laws_markByteS.l0_eq : ∀ (n k i : Nat) (x0 : List Int) (x1 : Int), x0.length = i + n → n < k → 0 ≤ x1 → x1 + n ≤ 4611686018427387904 → x0.length ≤ 4611686018427387904 → laws_markByteS.l0 k x0 x1 (i : Int) = some (x1 + n, x0.take i ++ marksByteS x1 n)
  | 0, 0, _, _, _, _, h, _, _, _ => absurd h (by omega)
  | 0, k + 1, i, x0, x1, hi, _, _, _, _ => by
    have h1 : ¬ ((i : Int) < (x0.length : Int)) := by omega
    unfold laws_markByteS.l0
    rw [if_neg h1, List.take_of_length_le (by omega)]
    simp [marksByteS]
  | n + 1, 0, _, _, _, _, h, _, _, _ => absurd h (by omega)
  | n + 1, k + 1, i, x0, x1, hi, h, hx, hx1, hb => by
    have h1 : (i : Int) < (x0.length : Int) := by omega
    have h2 : (0 : Int) ≤ (i : Int) := by omega
    have h4 : wrap64 ((i : Int) + 1) = ((i + 1 : Nat) : Int) := by rw [wrap64_in (by omega)]; omega
    have h5 : wrap64 (x1 + 1) = x1 + 1 := wrap64_in (by omega)
    have hs : (x0.set i (mkByteS x1)).take (i + 1) = x0.take i ++ [mkByteS x1] := by
      rw [List.take_succ_eq_append_getElem (by simp; omega), List.getElem_set_self]
      congr 1
      rw [List.take_set, List.set_eq_of_length_le (by simp; omega)]
    unfold laws_markByteS.l0
    rw [if_pos h1, if_pos h2, Int.toNat_natCast, h4, h5]
    have := laws_markByteS.l0_eq n k (i + 1) (x0.set i (mkByteS x1)) (x1 + 1) (by simp; omega) (by omega) (by omega) (by omega) (by simp; omega)
    rw [hs] at this
    unfold mkByteS at this
    rw [this]
    simp [marksByteS, mkByteS]
    omega
theorem laws_markByteS_eq (l : List Int) (m : Int) (k : Nat) (hk : l.length < k) (hl : l.length ≤ 1048576) (hm : 0 ≤ m ∧ m ≤ 4294967296) : laws_markByteS.f k l m = some (m + l.length, marksByteS m l.length) := by
  unfold laws_markByteS.f
  have := laws_markByteS.l0_eq l.length k 0 l m (by omega) hk hm.1 (by omega) (by omega)
  simpa using this
def mkInt64S (x : Int) : Int := x
def marksInt64S : Int → Nat → List Int
  | _, 0 => []
  | m, n + 1 => mkInt64S m :: marksInt64S (m + 1) n
theorem marksInt64S_len : ∀ n m, (marksInt64S m n).length = n
  | 0, _ => rfl
  | n + 1, m => by simp [marksInt64S, marksInt64S_len n]
theorem laws_markInt64S.l0_eq : ∀ (n k i : Nat) (x0 : List Int) (x1 : Int), x0.length = i + n → n < k → 0 ≤ x1 → x1 + n ≤ 4611686018427387904 → x0.length ≤ 4611686018427387904 → laws_markInt64S.l0 k x0 x1 (i : Int) = some (x1 + n, x0.take i ++ marksInt64S x1 n)
  | 0, 0, _, _, _, _, h, _, _, _ => absurd h (by omega)
  | 0, k + 1, i, x0, x1, hi, _, _, _, _ => by
    have h1 : ¬ ((i : Int) < (x0.length : Int)) := by omega
    unfold laws_markInt64S.l0
    rw [if_neg h1, List.take_of_length_le (by omega)]
    simp [marksInt64S]
  | n + 1, 0, _, _, _, _, h, _, _, _ => absurd h (by omega)
  | n + 1, k + 1, i, x0, x1, hi, h, hx, hx1, hb => by
    have h1 : (i : Int) < (x0.length : Int) := by omega
    have h2 : (0 : Int) ≤ (i : Int) := by omega
    have h4 : wrap64 ((i : Int) + 1) = ((i + 1 : Nat) : Int) := by rw [wrap64_in (by omega)]; omega
    have h5 : wrap64 (x1 + 1) = x1 + 1 := wrap64_in (by omega)
    have hs : (x0.set i (mkInt64S x1)).take (i + 1) = x0.take i ++ [mkInt64S x1] := by
      rw [List.take_succ_eq_append_getElem (by simp; omega), List.getElem_set_self]
      congr 1
      rw [List.take_set, List.set_eq_of_length_le (by simp; omega)]
    unfold laws_markInt64S.l0
    rw [if_pos h1, if_pos h2, Int.toNat_natCast, h4, h5]
    have := laws_markInt64S.l0_eq n k (i + 1) (x0.set i (mkInt64S x1)) (x1 + 1) (by simp; omega) (by omega) (by omega) (by omega) (by simp; omega)
    rw [hs] at this
    unfold mkInt64S at this
    rw [this]
    simp [marksInt64S, mkInt64S]
    omega
theorem laws_markInt64S_eq (l : List Int) (m : Int) (k : Nat) (hk : l.length < k) (hl : l.length ≤ 1048576) (hm : 0 ≤ m ∧ m ≤ 4294967296) : laws_markInt64S.f k l m = some (m + l.length, marksInt64S m l.length) := by
  unfold laws_markInt64S.f
  have := laws_markInt64S.l0_eq l.length k 0 l m (by omega) hk hm.1 (by omega) (by omega)
  simpa using this
theorem laws_heldInt64S.l0_eq : ∀ (n k i : Nat) (x0 : List Int) (x1 : Int), x0.length = i + n → n < k → 0 ≤ x1 → x1 + n ≤ 4611686018427387904 → x0.length ≤ 4611686018427387904 → x0.drop i = marksInt64S x1 n → laws_heldInt64S.l0 k x0 x1 (i : Int) = some (x1 + n)
  | 0, 0, _, _, _, _, h, _, _, _, _ => absurd h (by omega)
  | 0, k + 1, i, x0, x1, hi, _, _, _, _, _ => by
    have h1 : ¬ ((i : Int) < (x0.length : Int)) := by omega
    unfold laws_heldInt64S.l0
    rw [if_neg h1]
    simp
  | n + 1, 0, _, _, _, _, h, _, _, _, _ => absurd h (by omega)
  | n + 1, k + 1, i, x0, x1, hi, h, hx, hx1, hb, hd => by
    have h1 : (i : Int) < (x0.length : Int) := by omega
    have h2 : (0 : Int) ≤ (i : Int) := by omega
    have h4 : wrap64 ((i : Int) + 1) = ((i + 1 : Nat) : Int) := by rw [wrap64_in (by omega)]; omega
    have h5 : wrap64 (x1 + 1) = x1 + 1 := wrap64_in (by omega)
    have hlt : i < x0.length := by omega
    rw [List.drop_eq_getElem_cons hlt] at hd
    unfold marksInt64S at hd
    have h6 : x0[i] = mkInt64S x1 := (List.cons.inj hd).1
    have h7 : x0.drop (i + 1) = marksInt64S (x1 + 1) n := (List.cons.inj hd).2
    unfold laws_heldInt64S.l0
    rw [if_pos h1, if_pos h2, rd_at x0 i hlt, h6, if_pos (by unfold mkInt64S; rfl), h4, h5, laws_heldInt64S.l0_eq n k (i + 1) x0 (x1 + 1) (by omega) (by omega) (by omega) (by omega) hb h7]
    congr 1
    omega
theorem laws_heldInt64S_eq (n : Nat) (m : Int) (k : Nat) (hk : n < k) (hl : n ≤ 1048576) (hm : 0 ≤ m ∧ m ≤ 4294967296) : laws_heldInt64S.f k (marksInt64S m n) m = some (m + n) := by
  have hml := marksInt64S_len n m
  unfold laws_heldInt64S.f
  exact laws_heldInt64S.l0_eq n k 0 (marksInt64S m n) m (by omega) hk hm.1 (by omega) (by omega) (by simp)
theorem in_eq (a b c : Int) : spec_l1In.f a b c = some (decide (b ≤ a ∧ a ≤ c)) := by
  unfold spec_l1In.f; by_cases h : a ≥ b <;> simp [h] <;> omega
def Cyr (c : Int) : Prop := (0 ≤ c ∧ c ≤ 160) ∨ c = 173 ∨ c = 167 ∨ c = 8470 ∨ ((1025 ≤ c ∧ c ≤ 1119) ∧ c ≠ 1037 ∧ c ≠ 1104 ∧ c ≠ 1117)
instance (c : Int) : Decidable (Cyr c) := by unfold Cyr; infer_instance
def cyrV (c : Int) : Int := if (0 ≤ c ∧ c ≤ 160) ∨ c = 173 then c else if c = 167 then 253 else if c = 8470 then 240 else c - 864
theorem cyr (k : Nat) (c : Int) : ∃ v, spec_l2Cyrillic.f (k + 1) c = some v ∧ (v ≥ 0 ↔ Cyr c) ∧ (Cyr c → v = cyrV c) := by
  simp only [spec_l2Cyrillic.f, spec_l2Cyrillic.j0, in_eq, Option.bind_some, decide_eq_true_eq, beq_iff_eq, if_true]
  unfold wrap64 Cyr cyrV
  by_cases h1 : 0 ≤ c ∧ c ≤ 160
  · rw [if_pos h1, if_pos (Or.inl h1)]; refine ⟨c, rfl, ?_, fun _ => rfl⟩; omega
  · rw [if_neg h1]
    by_cases h2 : c = 173
    · rw [if_pos h2, if_pos (Or.inr h2)]; refine ⟨c, rfl, ?_, fun _ => rfl⟩; omega
    · rw [if_neg h2, if_neg (show ¬ ((0 ≤ c ∧ c ≤ 160) ∨ c = 173) by omega)]
      repeat' split
      all_goals refine ⟨_, rfl, ?_, ?_⟩
      all_goals omega
def hasB (a c : Int) : Bool := if a = 1 then decide (0 ≤ c ∧ c ≤ 127) else if a = 2 then decide (0 ≤ c ∧ c ≤ 255) else if a = 3 then decide (Cyr c) else true
theorem spec_l2Has_eq (k : Nat) (a c : Int) : spec_l2Has.f (k + 1) a c = some (hasB a c) := by
  obtain ⟨v, hv, hp, _⟩ := cyr k c
  simp only [spec_l2Has.f, in_eq, hv, Option.bind_some, hasB]
  repeat' split
  all_goals simp [hp]
theorem within_eq (a b c : Int) : impl_within.f a b c = some (decide (b ≤ a ∧ a ≤ c)) := by
  unfold impl_within.f; by_cases h : a ≥ b <;> simp [h] <;> omega
def charB (c : Int) : Bool := decide (0 ≤ c ∧ c ≤ 55295) || decide (57344 ≤ c ∧ c ≤ 65535)
theorem charB_iff (c : Int) : charB c = true ↔ (0 ≤ c ∧ c ≤ 55295) ∨ (57344 ≤ c ∧ c ≤ 65535) := by
  simp [charB]
theorem impl_isChar_eq (c : Int) : impl_isChar.f c = some (charB c) := by
  simp only [impl_isChar.f, within_eq, Option.bind_some]
  have hr : charB c = (decide (0 ≤ c ∧ c ≤ 65535) && !decide (55296 ≤ c ∧ c ≤ 57343)) := by
    rw [Bool.eq_iff_iff]; simp only [charB, Bool.and_eq_true, Bool.or_eq_true, Bool.not_eq_true', decide_eq_true_eq, decide_eq_false_iff_not]; omega
  rw [hr]
  generalize decide (0 ≤ c ∧ c ≤ 65535) = x
  cases x <;> simp
theorem impl_HasChar.j0_eq (k : Nat) (a c : Int) (h0 : 0 ≤ c) : impl_HasChar.j0 (k + 1) a c false = some (hasB a c) := by
  simp only [impl_HasChar.j0, within_eq, Option.bind_some, decide_eq_true_eq, Bool.false_eq_true, if_false, hasB]
  by_cases h1 : a = 1
  · simp [h1, h0]
  by_cases h2 : a = 2
  · simp [h2, h0]
  by_cases h3 : a = 3
  · simp only [h1, h2, h3, if_true, if_false]
    simp only [show ¬ ((3 : Int) = 1) by decide, show ¬ ((3 : Int) = 2) by decide, if_false]
    repeat' split
    all_goals (refine congrArg some ?_; rw [Bool.eq_iff_iff]; simp only [decide_eq_true_eq, beq_iff_eq, true_iff]; unfold Cyr; omega)
  · simp [h1, h2, h3]
theorem impl_isCharset_eq (a : Int) : impl_isCharset.f a = some (decide (1 ≤ a ∧ a ≤ 5)) := by
  simp only [impl_isCharset.f, within_eq, Option.bind_some]
theorem impl_HasChar_eq (k : Nat) (a c : Int) : impl_HasChar.f (k + 1) a c = some (charB c && (decide (1 ≤ a ∧ a ≤ 5) && hasB a c)) := by
  simp only [impl_HasChar.f, impl_isChar_eq, impl_isCharset_eq, Option.bind_some]
  cases hc : charB c with
  | false => simp [impl_HasChar.j0]
  | true =>
    have h0 : 0 ≤ c := by have := (charB_iff c).1 hc; omega
    rw [if_pos rfl]
    cases hd : decide (1 ≤ a ∧ a ≤ 5) with
    | false => simp [impl_HasChar.j0]
    | true => rw [Bool.not_true, impl_HasChar.j0_eq k a c h0]; rfl
/-- The bytes of a char in a charset, as a plain law. -/
def encB (a c : Int) : List Int :=
  if a = 1 ∨ a = 2 then [c % 256] else if a = 3 then [cyrV c % 256] else if a = 5 then [(wrap64 (Int.tdiv c 256)) % 256, (Int.tmod c 256) % 256]
  else if c < 128 then [c % 256] else if c < 2048 then [(wrap64 (192 + (wrap64 (Int.tdiv c 64)))) % 256, (wrap64 (128 + (Int.tmod c 64))) % 256]
  else [(wrap64 (224 + (wrap64 (Int.tdiv c 4096)))) % 256, (wrap64 (128 + (Int.tmod (wrap64 (Int.tdiv c 64)) 64))) % 256, (wrap64 (128 + (Int.tmod c 64))) % 256]
theorem encB_len (a c : Int) : (encB a c).length ≤ 3 := by
  unfold encB
  repeat' split
  all_goals simp
theorem flat_len (a : Int) : ∀ l : List Int, (l.flatMap (encB a)).length ≤ 3 * l.length
  | [] => by simp
  | x :: xs => by
    have h1 := flat_len a xs
    have h2 := encB_len a x
    rw [List.flatMap_cons, List.length_append, List.length_cons]
    omega
theorem impl_encodeChar_eq (k : Nat) (a c : Int) (ha : 1 ≤ a ∧ a ≤ 5) (h0 : 0 ≤ c ∧ c ≤ 65535) : impl_encodeChar.f (k + 3) a c = some (encB a c) := by
  unfold impl_encodeChar.f encB
  have : a = 1 ∨ a = 2 ∨ a = 3 ∨ a = 4 ∨ a = 5 := by omega
  rcases this with rfl | rfl | rfl | rfl | rfl
  · simp [impl_encodeChar.j0, impl_encodeChar.j1, impl_encodeChar.j2]
  · simp [impl_encodeChar.j0, impl_encodeChar.j1, impl_encodeChar.j2]
  · have hw : wrap64 (c - 864) = c - 864 := wrap64_in (by omega)
    have h0' := h0.1
    by_cases h1 : c ≤ 160
    · simp [impl_encodeChar.j0, impl_encodeChar.j1, impl_encodeChar.j2, cyrV, h1, h0']
    · by_cases h2 : c = 173
      · simp [impl_encodeChar.j0, impl_encodeChar.j1, impl_encodeChar.j2, cyrV, h2]
      · by_cases h3 : c = 167
        · simp [impl_encodeChar.j0, impl_encodeChar.j1, impl_encodeChar.j2, cyrV, h3]
        · by_cases h4 : c = 8470
          · simp [impl_encodeChar.j0, impl_encodeChar.j1, impl_encodeChar.j2, cyrV, h4]
          · simp [impl_encodeChar.j0, impl_encodeChar.j1, impl_encodeChar.j2, cyrV, h1, h2, h3, h4, hw]
  · by_cases h1 : c < 128
    · have h2 : ¬ (128 ≤ c) := by omega
      have h3 : ¬ (2048 ≤ c) := by omega
      simp [impl_encodeChar.j0, impl_encodeChar.j1, impl_encodeChar.j2, impl_encodeChar_1.f, h1, h2, h3]
    · have h2 : 128 ≤ c := by omega
      by_cases h4 : c < 2048
      · have h3 : ¬ (2048 ≤ c) := by omega
        simp [impl_encodeChar.j0, impl_encodeChar.j1, impl_encodeChar.j2, impl_encodeChar_1.f, h1, h2, h3, h4]
      · have h3 : 2048 ≤ c := by omega
        simp [impl_encodeChar.j0, impl_encodeChar.j1, impl_encodeChar.j2, impl_encodeChar_1.f, h1, h2, h3, h4]
  · simp
theorem encB_bytes (a c : Int) : ∀ x ∈ encB a c, 0 ≤ x ∧ x ≤ 255 := by
  intro x hx
  unfold encB at hx
  repeat' split at hx
  all_goals simp only [List.mem_cons, List.mem_nil_iff, or_false] at hx
  all_goals omega
theorem byte_inj : ∀ (t u : List Int), (∀ x ∈ t, 0 ≤ x ∧ x ≤ 255) → (∀ x ∈ u, 0 ≤ x ∧ x ≤ 255) → (t.map (fun n => UInt8.ofNat n.toNat) = u.map (fun n => UInt8.ofNat n.toNat) ↔ t = u)
  | [], [], _, _ => by simp
  | [], _ :: _, _, _ => by simp
  | _ :: _, [], _, _ => by simp
  | x :: xs, y :: ys, ht, hu => by
    have h1 := ht x (by simp)
    have h2 := hu y (by simp)
    have ih := byte_inj xs ys (fun z hz => ht z (by simp [hz])) (fun z hz => hu z (by simp [hz]))
    rw [List.map_cons, List.map_cons, List.cons.injEq, List.cons.injEq, ih]
    have e : UInt8.ofNat x.toNat = UInt8.ofNat y.toNat ↔ x = y := by
      constructor
      · intro h
        have := congrArg UInt8.toNat h
        rw [UInt8.toNat_ofNat', UInt8.toNat_ofNat'] at this
        omega
      · rintro rfl; rfl
    rw [e]
theorem bytes_Equal_eq (t u : List Int) (ht : ∀ x ∈ t, 0 ≤ x ∧ x ≤ 255) (hu : ∀ x ∈ u, 0 ≤ x ∧ x ≤ 255) : bytes_Equal.f t u = some (decide (t = u)) := by
  unfold bytes_Equal.f
  rw [Go.ByteArray.toList_eq, Go.ByteArray.toList_eq]
  congr 1
  rw [Bool.eq_iff_iff, beq_iff_eq, decide_eq_true_eq]
  exact byte_inj t u ht hu
def cy (cs b : Int) : Int := if cs = 3 then (if b = 253 then 167 else if b = 240 then 8470 else if b > 160 ∧ b ≠ 173 then b + 864 else b) else b
def moreD : List Int → Int
  | [] => -1
  | y :: _ => if 128 ≤ y ∧ y ≤ 191 then y - 128 else -1
/-- The first character of bytes, as a plain law. -/
def oneF (cs b : Int) (r : List Int) : Int × Int :=
  if cs = 4 then (if b < 128 then (b, 1) else if 194 ≤ b ∧ b < 224 ∧ 0 ≤ moreD r then ((b - 192) * 64 + moreD r, 2)
    else if 224 ≤ b ∧ b < 240 ∧ 0 ≤ moreD r ∧ 0 ≤ moreD r.tail ∧ 2048 ≤ (b - 224) * 4096 + moreD r * 64 + moreD r.tail ∧ charB ((b - 224) * 4096 + moreD r * 64 + moreD r.tail) = true then ((b - 224) * 4096 + moreD r * 64 + moreD r.tail, 3) else (0, 0))
  else if cs = 5 then (match r with | [] => (0, 0) | b1 :: _ => if charB (b * 256 + b1) = true then (b * 256 + b1, 2) else (0, 0))
  else if hasB cs (cy cs b) = true then (cy cs b, 1) else (0, 0)
theorem j6_eq (k : Nat) (a : Int) (x1 : List Int) (n : Nat) (c : Int) (ha : 1 ≤ a ∧ a ≤ 5) (hx : ∀ x ∈ x1, 0 ≤ x ∧ x ≤ 255) (hn : n ≤ x1.length) (h0 : 0 ≤ c ∧ c ≤ 65535) : impl_firstChar.j6 (k + 4) a x1 (n : Int) c = some (if (charB c && hasB a c && decide (encB a c = x1.take n)) = true then (c, (n : Int)) else (0, 0)) := by
  rw [impl_firstChar.j6, impl_HasChar_eq (k + 2), Option.bind_some, impl_encodeChar_eq k a c ha h0, Option.bind_some, if_pos (show (0 : Int) ≤ (n : Int) by omega), if_pos (show (n : Int) ≤ (x1.length : Int) by omega), Int.toNat_natCast, bytes_Equal_eq _ _ (encB_bytes a c) (fun x h => hx x (List.mem_of_mem_take h)), Option.bind_some, decide_eq_true ha, Bool.true_and]
  cases charB c <;> cases hasB a c <;> simp
  split <;> rfl
theorem single_ok : ∀ cs : Fin 3, ∀ b : Fin 256, (charB (cy ((cs.val : Int) + 1) (b.val : Int)) && hasB ((cs.val : Int) + 1) (cy ((cs.val : Int) + 1) (b.val : Int)) && decide (encB ((cs.val : Int) + 1) (cy ((cs.val : Int) + 1) (b.val : Int)) = [(b.val : Int)])) = hasB ((cs.val : Int) + 1) (cy ((cs.val : Int) + 1) (b.val : Int)) := by decide +kernel
theorem single_eq (cs b : Int) (hc : 1 ≤ cs ∧ cs ≤ 3) (hb : 0 ≤ b ∧ b ≤ 255) : (charB (cy cs b) && hasB cs (cy cs b) && decide (encB cs (cy cs b) = [b])) = hasB cs (cy cs b) := by
  have := single_ok ⟨(cs - 1).toNat, by omega⟩ ⟨b.toNat, by omega⟩
  have e : (((cs - 1).toNat : Nat) : Int) + 1 = cs := by omega
  simpa only [e, Int.toNat_of_nonneg hb.1] using this
theorem cy_in (cs b : Int) (hb : 0 ≤ b ∧ b ≤ 255) : 0 ≤ cy cs b ∧ cy cs b ≤ 65535 := by
  unfold cy
  repeat' split
  all_goals omega
theorem firstChar_low (k : Nat) (cs b : Int) (r : List Int) (hc : 1 ≤ cs ∧ cs ≤ 3) (hb : ∀ x ∈ b :: r, 0 ≤ x ∧ x ≤ 255) : impl_firstChar.f (k + 12) cs (b :: r) = some (oneF cs b r) := by
  have hb0 := hb b (by simp)
  have w0 : wrap64 b = b := wrap64_in (by omega)
  have w8 : wrap64 (b + 864) = b + 864 := wrap64_in (by omega)
  have n4 : ¬ cs = 4 := by omega
  have n5 : ¬ cs = 5 := by omega
  have hl : ¬ ((1 : Int) > ((b :: r).length : Int)) := by rw [List.length_cons]; omega
  have hl0 : (0 : Int) < ((b :: r).length : Int) := by rw [List.length_cons]; omega
  have e6 : ∀ m, impl_firstChar.j6 (m + 4) cs (b :: r) 1 (cy cs b) = some (oneF cs b r) := by
    intro m
    have h := j6_eq m cs (b :: r) 1 (cy cs b) (by omega) hb (by simp) (cy_in cs b hb0)
    rw [show (b :: r).take 1 = [b] from rfl, single_eq cs b hc hb0] at h
    unfold oneF
    rw [if_neg n4, if_neg n5]
    exact h
  unfold impl_firstChar.f
  rw [if_pos hl0, if_neg n5, if_neg n4, show rd (b :: r) 0 = b from rfl, w0, impl_firstChar.j0]
  simp only [Bool.false_eq_true, if_false, if_neg n4]
  rw [impl_firstChar.j1, if_neg hl, if_neg n5, if_neg n4, impl_firstChar.j2]
  simp only [Bool.false_eq_true, if_false, if_neg n4]
  rw [impl_firstChar.j3]
  simp only [Bool.false_eq_true, if_false]
  by_cases h3 : cs = 3
  · subst h3
    rw [if_pos rfl, impl_firstChar.j4]
    by_cases b1 : b = 253
    · have := e6 (k + 3); rw [show cy 3 b = 167 by unfold cy; rw [if_pos rfl, if_pos b1]] at this
      rw [if_pos (by simpa using b1)]; exact this
    · have f1 : (b == 253) = false := by simpa using b1
      rw [f1]
      simp only [Bool.false_eq_true, if_false, if_true]
      rw [impl_firstChar.j5]
      by_cases b2 : b = 240
      · have := e6 (k + 2); rw [show cy 3 b = 8470 by unfold cy; rw [if_pos rfl, if_neg b1, if_pos b2]] at this
        rw [if_pos (by simpa using b2)]; exact this
      · have f2 : (b == 240) = false := by simpa using b2
        rw [f2]
        simp only [Bool.false_eq_true, if_false, if_true]
        have h6 := e6 (k + 2)
        by_cases b3 : b > 160
        · rw [if_pos b3]
          by_cases b4 : b = 173
          · rw [if_pos b4]
            rw [show cy 3 b = b by unfold cy; rw [if_pos rfl, if_neg b1, if_neg b2, if_neg (by omega)]] at h6
            exact h6
          · rw [if_neg b4, w8]
            rw [show cy 3 b = b + 864 by unfold cy; rw [if_pos rfl, if_neg b1, if_neg b2, if_pos ⟨b3, b4⟩]] at h6
            exact h6
        · rw [if_neg b3]
          rw [show cy 3 b = b by unfold cy; rw [if_pos rfl, if_neg b1, if_neg b2, if_neg (by omega)]] at h6
          exact h6
  · rw [if_neg h3, impl_firstChar.j4]
    simp only [Bool.false_eq_true, if_false, if_neg h3]
    rw [impl_firstChar.j5]
    simp only [Bool.false_eq_true, if_false, if_neg h3]
    have h6 := e6 (k + 2)
    rw [show cy cs b = b by unfold cy; rw [if_neg h3]] at h6
    exact h6
theorem firstChar_16 (k : Nat) (b : Int) (r : List Int) (hb : ∀ x ∈ b :: r, 0 ≤ x ∧ x ≤ 255) : impl_firstChar.f (k + 12) 5 (b :: r) = some (oneF 5 b r) := by
  have hb0 := hb b (by simp)
  have w0 : wrap64 b = b := wrap64_in (by omega)
  have hl0 : (0 : Int) < ((b :: r).length : Int) := by rw [List.length_cons]; omega
  unfold impl_firstChar.f oneF
  rw [if_pos hl0, if_pos rfl, show rd (b :: r) 0 = b from rfl, w0, impl_firstChar.j0, if_pos rfl, impl_firstChar.j1, if_neg (by decide : ¬ (5 : Int) = 4), if_pos (rfl : (5 : Int) = 5), if_pos (rfl : (5 : Int) = 5)]
  cases r with
  | nil => rw [if_pos (by simp), if_neg (by decide : ¬ (5 : Int) = 4)]
  | cons b1 r =>
    have hb1 := hb b1 (by simp)
    have w1 : wrap64 b1 = b1 := wrap64_in (by omega)
    have w2 : wrap64 (b * 256) = b * 256 := wrap64_in (by omega)
    have w3 : wrap64 (b * 256 + b1) = b * 256 + b1 := wrap64_in (by omega)
    have hl : ¬ ((2 : Int) > ((b :: b1 :: r).length : Int)) := by rw [List.length_cons, List.length_cons]; omega
    have hl1 : (1 : Int) < ((b :: b1 :: r).length : Int) := by rw [List.length_cons, List.length_cons]; omega
    rw [if_neg hl, if_pos hl1, show rd (b :: b1 :: r) 1 = b1 from rfl, w1, w2, w3]
    have h := j6_eq (k + 6) 5 (b :: b1 :: r) 2 (b * 256 + b1) (by omega) hb (by simp) (by omega)
    have he : encB 5 (b * 256 + b1) = (b :: b1 :: r).take 2 := by
      have d1 : Int.tdiv (b * 256 + b1) 256 = b := by rw [Int.tdiv_eq_ediv_of_nonneg (by omega)]; omega
      have d2 : Int.tmod (b * 256 + b1) 256 = b1 := by rw [Int.tmod_eq_emod_of_nonneg (by omega)]; omega
      unfold encB
      rw [if_neg (by omega), if_neg (by decide), if_pos rfl, d1, d2, w0, show b % 256 = b by omega, show b1 % 256 = b1 by omega]
      rfl
    have hh : hasB 5 (b * 256 + b1) = true := by unfold hasB; rfl
    rw [he, hh, decide_eq_true rfl, Bool.and_true, Bool.and_true] at h
    exact h
theorem utf2 (b b1 : Int) (h1 : 192 ≤ b ∧ b ≤ 223) (h2 : 0 ≤ b1 ∧ b1 ≤ 255) : encB 4 (b % 32 * 64 + b1 % 64) = [b, b1] ↔ 194 ≤ b ∧ 128 ≤ b1 ∧ b1 ≤ 191 := by
  unfold encB
  rw [if_neg (by decide), if_neg (by decide), if_neg (by decide)]
  have t1 : Int.tdiv (b % 32 * 64 + b1 % 64) 64 = b % 32 := by rw [Int.tdiv_eq_ediv_of_nonneg (by omega)]; omega
  have t2 : Int.tmod (b % 32 * 64 + b1 % 64) 64 = b1 % 64 := by rw [Int.tmod_eq_emod_of_nonneg (by omega)]; omega
  by_cases hc : b % 32 * 64 + b1 % 64 < 128
  · rw [if_pos hc]
    simp only [List.cons.injEq, reduceCtorEq, and_false, false_iff]
    omega
  · rw [if_neg hc, if_pos (by omega), t1, t2]
    have w1 : wrap64 (b % 32) = b % 32 := wrap64_in (by omega)
    have w2 : wrap64 (192 + b % 32) = 192 + b % 32 := wrap64_in (by omega)
    have w3 : wrap64 (128 + b1 % 64) = 128 + b1 % 64 := wrap64_in (by omega)
    rw [w1, w2, w3]
    simp only [List.cons.injEq, and_true]
    omega
theorem utf3 (b b1 b2 : Int) (h1 : 224 ≤ b ∧ b ≤ 255) (h2 : 0 ≤ b1 ∧ b1 ≤ 255) (h3 : 0 ≤ b2 ∧ b2 ≤ 255) : encB 4 (b % 16 * 4096 + b1 % 64 * 64 + b2 % 64) = [b, b1, b2] ↔ b ≤ 239 ∧ (128 ≤ b1 ∧ b1 ≤ 191) ∧ (128 ≤ b2 ∧ b2 ≤ 191) ∧ 2048 ≤ b % 16 * 4096 + b1 % 64 * 64 + b2 % 64 := by
  unfold encB
  rw [if_neg (by decide), if_neg (by decide), if_neg (by decide)]
  have t1 : Int.tdiv (b % 16 * 4096 + b1 % 64 * 64 + b2 % 64) 64 = b % 16 * 64 + b1 % 64 := by rw [Int.tdiv_eq_ediv_of_nonneg (by omega)]; omega
  have t2 : Int.tmod (b % 16 * 4096 + b1 % 64 * 64 + b2 % 64) 64 = b2 % 64 := by rw [Int.tmod_eq_emod_of_nonneg (by omega)]; omega
  have t3 : Int.tdiv (b % 16 * 4096 + b1 % 64 * 64 + b2 % 64) 4096 = b % 16 := by rw [Int.tdiv_eq_ediv_of_nonneg (by omega)]; omega
  have t4 : Int.tmod (b % 16 * 64 + b1 % 64) 64 = b1 % 64 := by rw [Int.tmod_eq_emod_of_nonneg (by omega)]; omega
  by_cases hc : b % 16 * 4096 + b1 % 64 * 64 + b2 % 64 < 128
  · rw [if_pos hc]
    simp only [List.cons.injEq, reduceCtorEq, and_false, false_iff]
    omega
  · rw [if_neg hc]
    by_cases hc2 : b % 16 * 4096 + b1 % 64 * 64 + b2 % 64 < 2048
    · rw [if_pos hc2]
      simp only [List.cons.injEq, reduceCtorEq, and_false, false_iff]
      omega
    · rw [if_neg hc2, t1, t2, t3]
      have w0 : wrap64 (b % 16 * 64 + b1 % 64) = b % 16 * 64 + b1 % 64 := wrap64_in (by omega)
      have w1 : wrap64 (b % 16) = b % 16 := wrap64_in (by omega)
      have w2 : wrap64 (224 + b % 16) = 224 + b % 16 := wrap64_in (by omega)
      have w3 : wrap64 (128 + b1 % 64) = 128 + b1 % 64 := wrap64_in (by omega)
      have w4 : wrap64 (128 + b2 % 64) = 128 + b2 % 64 := wrap64_in (by omega)
      rw [w0, t4, w1, w2, w3, w4]
      simp only [List.cons.injEq, and_true]
      omega
theorem utf1 (b : Int) (h1 : 0 ≤ b ∧ b ≤ 255) : encB 4 b = [b] ↔ b < 128 := by
  unfold encB
  rw [if_neg (by decide), if_neg (by decide), if_neg (by decide)]
  by_cases hc : b < 128
  · rw [if_pos hc, show b % 256 = b by omega]; simp [hc]
  · rw [if_neg hc, if_pos (by omega)]; simp [hc]
theorem moreD_eq (y : Int) (r : List Int) : 0 ≤ moreD (y :: r) ↔ 128 ≤ y ∧ y ≤ 191 := by
  show 0 ≤ (if 128 ≤ y ∧ y ≤ 191 then y - 128 else -1) ↔ _
  split <;> omega
theorem moreD_val (y : Int) (r : List Int) (h : 128 ≤ y ∧ y ≤ 191) : moreD (y :: r) = y - 128 := by
  show (if 128 ≤ y ∧ y ≤ 191 then y - 128 else -1) = _
  rw [if_pos h]
theorem moreD_nil : ¬ 0 ≤ moreD [] := by decide
theorem firstChar_8 (k : Nat) (b : Int) (r : List Int) (hb : ∀ x ∈ b :: r, 0 ≤ x ∧ x ≤ 255) : impl_firstChar.f (k + 12) 4 (b :: r) = some (oneF 4 b r) := by
  have hb0 := hb b (by simp)
  have w0 : wrap64 b = b := wrap64_in (by omega)
  have hl0 : (0 : Int) < ((b :: r).length : Int) := by rw [List.length_cons]; omega
  have hh : ∀ c, hasB 4 c = true := fun c => by unfold hasB; rfl
  unfold impl_firstChar.f oneF
  rw [if_pos hl0, if_neg (by decide : ¬ (4 : Int) = 5), if_pos (rfl : (4 : Int) = 4), if_pos (rfl : (4 : Int) = 4), show rd (b :: r) 0 = b from rfl, w0, within_eq, Option.bind_some]
  by_cases c2 : 192 ≤ b ∧ b ≤ 223
  · rw [decide_eq_true c2, impl_firstChar.j0, if_pos rfl, impl_firstChar.j1, if_neg (by omega : ¬ b < 128), if_neg (by decide : ¬ (4 : Int) = 5), if_pos (rfl : (4 : Int) = 4)]
    cases r with
    | nil =>
      rw [if_pos (by simp), if_neg (fun h => moreD_nil h.2.2), if_neg (fun h => moreD_nil h.2.2.1)]
    | cons b1 r =>
      have hb1 := hb b1 (by simp)
      have hl : ¬ ((2 : Int) > ((b :: b1 :: r).length : Int)) := by rw [List.length_cons, List.length_cons]; omega
      have hl1 : (1 : Int) < ((b :: b1 :: r).length : Int) := by rw [List.length_cons, List.length_cons]; omega
      have t1 : Int.tmod b 32 = b % 32 := Int.tmod_eq_emod_of_nonneg hb0.1
      have t2 : Int.tmod b1 64 = b1 % 64 := Int.tmod_eq_emod_of_nonneg hb1.1
      have w1 : wrap64 b1 = b1 := wrap64_in (by omega)
      have w2 : wrap64 (b % 32 * 64) = b % 32 * 64 := wrap64_in (by omega)
      have w3 : wrap64 (b % 32 * 64 + b1 % 64) = b % 32 * 64 + b1 % 64 := wrap64_in (by omega)
      have h := j6_eq (k + 5) 4 (b :: b1 :: r) 2 (b % 32 * 64 + b1 % 64) (by omega) hb (by simp) (by omega)
      rw [show (b :: b1 :: r).take 2 = [b, b1] from rfl, hh, Bool.and_true, (charB_iff _).2 (by omega), Bool.true_and] at h
      rw [if_neg hl, impl_firstChar.j2, if_pos rfl, if_pos hl1, show rd (b :: b1 :: r) 1 = b1 from rfl, w1, t1, t2, w2, w3]
      refine Eq.trans h ?_
      congr 1
      by_cases g : 194 ≤ b ∧ 128 ≤ b1 ∧ b1 ≤ 191
      · rw [if_pos (decide_eq_true ((utf2 b b1 c2 hb1).2 g)), if_pos ⟨g.1, by omega, (moreD_eq b1 r).2 g.2⟩, moreD_val b1 r g.2]
        congr 1
        omega
      · rw [if_neg (fun e => g ((utf2 b b1 c2 hb1).1 (of_decide_eq_true e))), if_neg (fun e => g ⟨e.1, (moreD_eq b1 r).1 e.2.2⟩), if_neg (fun e => absurd e.1 (by omega))]
  · rw [decide_eq_false c2, impl_firstChar.j0]
    simp only [Bool.false_eq_true, if_false, if_true]
    by_cases c3 : b ≥ 224
    · rw [if_pos c3, impl_firstChar.j1, if_neg (by omega : ¬ b < 128), if_neg (fun h => absurd h.2.1 (by omega) : ¬ (194 ≤ b ∧ b < 224 ∧ 0 ≤ moreD r)), if_neg (by decide : ¬ (4 : Int) = 5), if_pos (rfl : (4 : Int) = 4)]
      cases r with
      | nil => rw [if_pos (by simp), if_neg (fun h => moreD_nil h.2.2.1)]
      | cons b1 r =>
        cases r with
        | nil => rw [if_pos (by simp), if_neg (fun h => moreD_nil h.2.2.2.1)]
        | cons b2 r =>
          have hb1 := hb b1 (by simp)
          have hb2 := hb b2 (by simp)
          have hl : ¬ ((3 : Int) > ((b :: b1 :: b2 :: r).length : Int)) := by rw [List.length_cons, List.length_cons, List.length_cons]; omega
          have hl1 : (1 : Int) < ((b :: b1 :: b2 :: r).length : Int) := by rw [List.length_cons, List.length_cons]; omega
          have hl2 : (2 : Int) < ((b :: b1 :: b2 :: r).length : Int) := by rw [List.length_cons, List.length_cons, List.length_cons]; omega
          have t1 : Int.tmod b 16 = b % 16 := Int.tmod_eq_emod_of_nonneg hb0.1
          have t2 : Int.tmod b1 64 = b1 % 64 := Int.tmod_eq_emod_of_nonneg hb1.1
          have t3 : Int.tmod b2 64 = b2 % 64 := Int.tmod_eq_emod_of_nonneg hb2.1
          have w1 : wrap64 b1 = b1 := wrap64_in (by omega)
          have w1' : wrap64 b2 = b2 := wrap64_in (by omega)
          have w2 : wrap64 (b % 16 * 4096) = b % 16 * 4096 := wrap64_in (by omega)
          have w2' : wrap64 (b1 % 64 * 64) = b1 % 64 * 64 := wrap64_in (by omega)
          have w3 : wrap64 (b % 16 * 4096 + b1 % 64 * 64) = b % 16 * 4096 + b1 % 64 * 64 := wrap64_in (by omega)
          have w4 : wrap64 (b % 16 * 4096 + b1 % 64 * 64 + b2 % 64) = b % 16 * 4096 + b1 % 64 * 64 + b2 % 64 := wrap64_in (by omega)
          have h := j6_eq (k + 4) 4 (b :: b1 :: b2 :: r) 3 (b % 16 * 4096 + b1 % 64 * 64 + b2 % 64) (by omega) hb (by simp) (by omega)
          rw [show (b :: b1 :: b2 :: r).take 3 = [b, b1, b2] from rfl, hh, Bool.and_true] at h
          rw [if_neg hl, show ((3 : Int) == 2) = false from rfl, impl_firstChar.j2]
          simp only [Bool.false_eq_true, if_false, if_true]
          rw [show ((3 : Int) == 3) = true from rfl, impl_firstChar.j3, if_pos rfl, if_pos hl1, if_pos hl2, show rd (b :: b1 :: b2 :: r) 1 = b1 from rfl, show rd (b :: b1 :: b2 :: r) 2 = b2 from rfl, w1, w1', t1, t2, t3, w2, w2', w3, w4]
          refine Eq.trans h ?_
          congr 1
          have hu := utf3 b b1 b2 (by omega) hb1 hb2
          by_cases g : b ≤ 239 ∧ (128 ≤ b1 ∧ b1 ≤ 191) ∧ (128 ≤ b2 ∧ b2 ≤ 191)
          · have v : (b - 224) * 4096 + moreD (b1 :: b2 :: r) * 64 + moreD (b2 :: r) = b % 16 * 4096 + b1 % 64 * 64 + b2 % 64 := by rw [moreD_val b1 _ g.2.1, moreD_val b2 _ g.2.2]; omega
            rw [show (b1 :: b2 :: r).tail = b2 :: r from rfl, v]
            by_cases g2 : 2048 ≤ b % 16 * 4096 + b1 % 64 * 64 + b2 % 64
            · rw [decide_eq_true (hu.2 ⟨g.1, g.2.1, g.2.2, g2⟩), Bool.and_true]
              cases hc : charB (b % 16 * 4096 + b1 % 64 * 64 + b2 % 64) with
              | true => rw [if_pos rfl, if_pos ⟨c3, by omega, (moreD_eq b1 _).2 g.2.1, (moreD_eq b2 _).2 g.2.2, g2, rfl⟩]; rfl
              | false => rw [if_neg (by decide), if_neg (fun e => absurd e.2.2.2.2.2 (by decide))]
            · rw [decide_eq_false (fun e => g2 (hu.1 e).2.2.2), Bool.and_false, if_neg (by decide), if_neg (fun e => g2 e.2.2.2.2.1)]
          · rw [decide_eq_false (fun e => g ⟨(hu.1 e).1, (hu.1 e).2.1, (hu.1 e).2.2.1⟩), Bool.and_false, if_neg (by decide), if_neg (fun e => g ⟨by have := e.2.1; omega, (moreD_eq b1 _).1 e.2.2.1, (moreD_eq b2 r).1 e.2.2.2.1⟩)]
    · have hl : ¬ ((1 : Int) > ((b :: r).length : Int)) := by rw [List.length_cons]; omega
      have h := j6_eq (k + 2) 4 (b :: r) 1 b (by omega) hb (by simp) (by omega)
      rw [show (b :: r).take 1 = [b] from rfl, hh, Bool.and_true, (charB_iff _).2 (by omega), Bool.true_and] at h
      rw [if_neg c3, impl_firstChar.j1, if_neg hl, if_neg (by decide : ¬ (4 : Int) = 5), if_pos (rfl : (4 : Int) = 4), show ((1 : Int) == 2) = false from rfl, impl_firstChar.j2]
      simp only [Bool.false_eq_true, if_false, if_true]
      rw [show ((1 : Int) == 3) = false from rfl, impl_firstChar.j3]
      simp only [Bool.false_eq_true, if_false, if_neg (by decide : ¬ (4 : Int) = 3)]
      rw [impl_firstChar.j4]
      simp only [Bool.false_eq_true, if_false, if_neg (by decide : ¬ (4 : Int) = 3)]
      rw [impl_firstChar.j5]
      simp only [Bool.false_eq_true, if_false, if_neg (by decide : ¬ (4 : Int) = 3)]
      refine Eq.trans h ?_
      congr 1
      by_cases g : b < 128
      · rw [if_pos (decide_eq_true ((utf1 b hb0).2 g)), if_pos g]; rfl
      · rw [if_neg (fun e => g ((utf1 b hb0).1 (of_decide_eq_true e))), if_neg g, if_neg (fun e => absurd e.1 (by have := e.2.1; omega)), if_neg (fun e => absurd e.1 (by omega))]
theorem impl_firstChar_eq (k : Nat) (cs b : Int) (r : List Int) (hc : 1 ≤ cs ∧ cs ≤ 5) (hb : ∀ x ∈ b :: r, 0 ≤ x ∧ x ≤ 255) : impl_firstChar.f (k + 12) cs (b :: r) = some (oneF cs b r) := by
  by_cases h4 : cs = 4
  · subst h4; exact firstChar_8 k b r hb
  · by_cases h5 : cs = 5
    · subst h5; exact firstChar_16 k b r hb
    · exact firstChar_low k cs b r (by omega) hb
theorem spec_l2Char_eq (c : Int) : spec_l2Char.f c = some (charB c) := by
  simp only [spec_l2Char.f, in_eq, Option.bind_some, charB]
  generalize decide (0 ≤ c ∧ c ≤ 55295) = x
  cases x <;> simp
theorem spec_l2Single_eq (k : Nat) (cs b : Int) (hc : 1 ≤ cs ∧ cs ≤ 3) (hb : 0 ≤ b ∧ b ≤ 255) : spec_l2Single.f (k + 4) cs b = some (if hasB cs (cy cs b) = true then cy cs b else -1) := by
  have w8 : wrap64 (b + 864) = b + 864 := wrap64_in (by omega)
  have fin : ∀ m c, (spec_l2Has.f (m + 1) cs c).bind (fun t => if t = true then some c else some (-1)) = some (if hasB cs c = true then c else -1) := by
    intro m c
    rw [spec_l2Has_eq, Option.bind_some]
    split <;> rfl
  unfold spec_l2Single.f
  by_cases h3 : cs = 3
  · subst h3
    have h167 : hasB 3 167 = true := by decide
    have h8470 : hasB 3 8470 = true := by decide
    rw [if_pos rfl, spec_l2Single.j0]
    by_cases b1 : b = 253
    · have e : cy 3 b = 167 := by unfold cy; rw [if_pos rfl, if_pos b1]
      rw [e, if_pos h167, if_pos (by simpa using b1)]
    · have f1 : (b == 253) = false := by simpa using b1
      simp only [f1, Bool.false_eq_true, if_false, if_true]
      rw [spec_l2Single.j1]
      by_cases b2 : b = 240
      · have e : cy 3 b = 8470 := by unfold cy; rw [if_pos rfl, if_neg b1, if_pos b2]
        rw [e, if_pos h8470, if_pos (by simpa using b2)]
      · have f2 : (b == 240) = false := by simpa using b2
        simp only [f2, Bool.false_eq_true, if_false, if_true]
        by_cases b3 : b > 160
        · rw [if_pos b3, spec_l2Single.j2, w8]
          by_cases b4 : b = 173
          · have f4 : (b != 173) = false := by simpa using b4
            have e : cy 3 b = b := by unfold cy; rw [if_pos rfl, if_neg b1, if_neg b2, if_neg (by omega)]
            rw [e]
            simp only [f4, Bool.false_eq_true, if_false]
            exact fin _ b
          · have f4 : (b != 173) = true := by simpa using b4
            have e : cy 3 b = b + 864 := by unfold cy; rw [if_pos rfl, if_neg b1, if_neg b2, if_pos ⟨b3, b4⟩]
            rw [e]
            simp only [f4, if_true]
            exact fin _ (b + 864)
        · have e : cy 3 b = b := by unfold cy; rw [if_pos rfl, if_neg b1, if_neg b2, if_neg (by omega)]
          rw [if_neg b3, spec_l2Single.j2, e]
          simp only [Bool.false_eq_true, if_false]
          exact fin _ b
  · rw [if_neg h3, spec_l2Single.j0]
    simp only [Bool.false_eq_true, if_false, if_neg h3]
    rw [spec_l2Single.j1]
    simp only [Bool.false_eq_true, if_false, if_neg h3]
    rw [spec_l2Single.j2]
    simp only [Bool.false_eq_true, if_false]
    rw [show cy cs b = b by unfold cy; rw [if_neg h3]]
    exact fin _ b
theorem spec_l2More_eq (L : List Int) (i : Nat) (hb : ∀ x ∈ L, 0 ≤ x ∧ x ≤ 255) : spec_l2More.f L (i : Int) = some (moreD (L.drop i)) := by
  unfold spec_l2More.f
  by_cases h : i < L.length
  · have hbi := hb L[i] (List.getElem_mem h)
    rw [if_neg (by omega), if_pos (by omega), if_pos (by omega), rd_at L i h, List.drop_eq_getElem_cons h]
    generalize L[i] = y at hbi
    have w : wrap64 (wrap64 y - 128) = y - 128 := by rw [wrap64_in (n := y) (by omega)]; exact wrap64_in (by omega)
    rw [w]
    show _ = some (if 128 ≤ y ∧ y ≤ 191 then y - 128 else -1)
    by_cases h1 : y < 128
    · rw [if_pos h1, if_neg (by omega)]
    · rw [if_neg h1]
      by_cases h2 : y > 191
      · rw [if_pos h2, if_neg (by omega)]
      · rw [if_neg h2, if_pos (by omega)]
  · rw [if_pos (by omega), List.drop_eq_nil_of_le (by omega)]
    rfl
theorem moreD_range (r : List Int) : -1 ≤ moreD r ∧ moreD r ≤ 63 := by
  cases r with
  | nil => decide
  | cons y r =>
    show -1 ≤ (if 128 ≤ y ∧ y ≤ 191 then y - 128 else -1) ∧ (if 128 ≤ y ∧ y ≤ 191 then y - 128 else -1) ≤ 63
    split <;> omega
theorem spec_l2One_eq (k : Nat) (cs : Int) (L : List Int) (i : Nat) (hc : 1 ≤ cs ∧ cs ≤ 5) (hL : L.length ≤ 1048576) (hb : ∀ x ∈ L, 0 ≤ x ∧ x ≤ 255) (hi : i < L.length) : spec_l2One.f (k + 4) cs L (i : Int) = some (oneF cs L[i] (L.drop (i + 1))) := by
  have hbi := hb L[i] (List.getElem_mem hi)
  have a0 : (0 : Int) ≤ (i : Int) := by omega
  have a1 : (i : Int) < (L.length : Int) := by omega
  have hrd := rd_at L i hi
  have w1 : wrap64 ((i : Int) + 1) = ((i + 1 : Nat) : Int) := by rw [wrap64_in (by omega)]; omega
  have w2 : wrap64 ((i : Int) + 2) = ((i + 2 : Nat) : Int) := by rw [wrap64_in (by omega)]; omega
  have hm1 := spec_l2More_eq L (i + 1) hb
  have hm2 := spec_l2More_eq L (i + 2) hb
  have ht : (L.drop (i + 1)).tail = L.drop (i + 2) := by rw [List.tail_drop]
  unfold spec_l2One.f oneF
  by_cases h4 : cs = 4
  · rw [if_pos h4, if_pos h4, ht]
    unfold spec_l2Utf8.f
    rw [if_pos a0, if_pos a1, hrd]
    have r1 := moreD_range (L.drop (i + 1))
    have r2 := moreD_range (L.drop (i + 2))
    generalize moreD (L.drop (i + 1)) = x at hm1 r1
    generalize moreD (L.drop (i + 2)) = y at hm2 r2
    generalize L[i] = b at hbi
    have w0 : wrap64 b = b := wrap64_in (by omega)
    rw [w0, w1, hm1, Option.bind_some]
    by_cases c1 : b < 128
    · rw [if_pos c1, if_pos c1]; rfl
    · rw [if_neg c1, if_neg c1]
      have v1 : wrap64 (b - 192) = b - 192 := wrap64_in (by omega)
      have v2 : wrap64 ((b - 192) * 64) = (b - 192) * 64 := wrap64_in (by omega)
      have v3 : wrap64 ((b - 192) * 64 + x) = (b - 192) * 64 + x := wrap64_in (by omega)
      have v4 : wrap64 (b - 224) = b - 224 := wrap64_in (by omega)
      have v5 : wrap64 ((b - 224) * 4096) = (b - 224) * 4096 := wrap64_in (by omega)
      have v6 : wrap64 (x * 64) = x * 64 := wrap64_in (by omega)
      have v7 : wrap64 ((b - 224) * 4096 + x * 64) = (b - 224) * 4096 + x * 64 := wrap64_in (by omega)
      have v8 : wrap64 ((b - 224) * 4096 + x * 64 + y) = (b - 224) * 4096 + x * 64 + y := wrap64_in (by omega)
      have J1f : ∀ m, spec_l2Utf8.j1 (m + 1) b x y false = some (0, 0) := fun m => by rw [spec_l2Utf8.j1, if_neg (by decide)]
      have J1t : ∀ m, spec_l2Utf8.j1 (m + 1) b x y true = some (if 2048 ≤ (b - 224) * 4096 + x * 64 + y ∧ charB ((b - 224) * 4096 + x * 64 + y) = true then ((b - 224) * 4096 + x * 64 + y, 3) else (0, 0)) := by
        intro m
        rw [spec_l2Utf8.j1, if_pos rfl, v4, v5, v6, v7, v8, spec_l2Char_eq, Option.bind_some]
        by_cases d1 : (b - 224) * 4096 + x * 64 + y ≥ 2048
        · rw [if_pos d1]
          by_cases d2 : charB ((b - 224) * 4096 + x * 64 + y) = true
          · rw [if_pos d2, if_pos ⟨d1, d2⟩]
          · rw [if_neg d2, if_neg (fun e => d2 e.2)]
        · rw [if_neg d1, if_neg (fun e => d1 e.1)]
      have J0f : ∀ m, spec_l2Utf8.j0 (m + 2) L (i : Int) b x false = some (if 224 ≤ b ∧ b < 240 ∧ 0 ≤ x ∧ 0 ≤ y ∧ 2048 ≤ (b - 224) * 4096 + x * 64 + y ∧ charB ((b - 224) * 4096 + x * 64 + y) = true then ((b - 224) * 4096 + x * 64 + y, 3) else (0, 0)) := by
        intro m
        rw [spec_l2Utf8.j0, if_neg (by decide), w2, hm2, Option.bind_some]
        by_cases d1 : b ≥ 224
        · rw [if_pos d1]
          by_cases d2 : b < 240
          · rw [if_pos d2]
            by_cases d3 : x ≥ 0
            · rw [if_pos d3]
              by_cases d4 : y ≥ 0
              · rw [decide_eq_true d4, J1t]
                congr 1
                by_cases d5 : 2048 ≤ (b - 224) * 4096 + x * 64 + y ∧ charB ((b - 224) * 4096 + x * 64 + y) = true
                · rw [if_pos d5, if_pos ⟨d1, d2, d3, d4, d5⟩]
                · rw [if_neg d5, if_neg (fun e => d5 e.2.2.2.2)]
              · rw [decide_eq_false d4, J1f, if_neg (fun e => d4 e.2.2.2.1)]
            · rw [if_neg d3, J1f, if_neg (fun e => d3 e.2.2.1)]
          · rw [if_neg d2, J1f, if_neg (fun e => d2 e.2.1)]
        · rw [if_neg d1, J1f, if_neg (fun e => d1 e.1)]
      by_cases e1 : b ≥ 194
      · rw [if_pos e1]
        by_cases e2 : b < 224
        · rw [if_pos e2]
          by_cases e3 : x ≥ 0
          · rw [decide_eq_true e3, spec_l2Utf8.j0, if_pos rfl, v1, v2, v3, if_pos ⟨e1, e2, e3⟩]; rfl
          · rw [decide_eq_false e3, J0f (k + 2), if_neg (show ¬ (194 ≤ b ∧ b < 224 ∧ 0 ≤ x) from fun e => e3 e.2.2)]; rfl
        · rw [if_neg e2, J0f (k + 2), if_neg (show ¬ (194 ≤ b ∧ b < 224 ∧ 0 ≤ x) from fun e => e2 e.2.1)]; rfl
      · rw [if_neg e1, J0f (k + 2), if_neg (show ¬ (194 ≤ b ∧ b < 224 ∧ 0 ≤ x) from fun e => e1 e.1)]; rfl
  · rw [if_neg h4, if_neg h4]
    by_cases h5 : cs = 5
    · rw [if_pos h5, if_pos h5, w1]
      by_cases hn : i + 1 < L.length
      · have hb1 := hb L[i + 1] (List.getElem_mem hn)
        rw [if_neg (by omega), if_pos a0, if_pos a1, if_pos (by omega), if_pos (by omega), hrd, rd_at L (i + 1) hn, List.drop_eq_getElem_cons hn]
        generalize L[i] = b at hbi
        generalize L[i + 1] = b1 at hb1
        have v0 : wrap64 b = b := wrap64_in (by omega)
        have v1 : wrap64 b1 = b1 := wrap64_in (by omega)
        have v2 : wrap64 (b * 256) = b * 256 := wrap64_in (by omega)
        have v3 : wrap64 (b * 256 + b1) = b * 256 + b1 := wrap64_in (by omega)
        rw [v0, v1, v2, v3, spec_l2Char_eq, Option.bind_some]
        show (if charB (b * 256 + b1) = true then some (b * 256 + b1, (2 : Int)) else some (0, 0)) = some (if charB (b * 256 + b1) = true then (b * 256 + b1, 2) else (0, 0))
        split <;> rfl
      · rw [if_pos (by omega), List.drop_eq_nil_of_le (by omega)]
    · rw [if_neg h5, if_neg h5, if_pos a0, if_pos a1, hrd, show wrap64 L[i] = L[i] from wrap64_in (by omega), spec_l2Single_eq k cs _ (by omega) hbi, Option.bind_some]
      have hcy := cy_in cs L[i] hbi
      by_cases hh : hasB cs (cy cs L[i]) = true
      · rw [if_pos hh, if_pos hh, if_neg (by omega)]
      · rw [if_neg hh, if_neg hh, if_pos (by decide)]
theorem oneF_snd (cs b : Int) (r : List Int) : (oneF cs b r).2 = 0 ∨ ((oneF cs b r).2 = 1) ∨ ((oneF cs b r).2 = 2 ∧ 1 ≤ r.length) ∨ ((oneF cs b r).2 = 3 ∧ 2 ≤ r.length) := by
  unfold oneF
  by_cases h4 : cs = 4
  · rw [if_pos h4]
    by_cases c1 : b < 128
    · rw [if_pos c1]; exact Or.inr (Or.inl rfl)
    · rw [if_neg c1]
      by_cases c2 : 194 ≤ b ∧ b < 224 ∧ 0 ≤ moreD r
      · rw [if_pos c2]
        refine Or.inr (Or.inr (Or.inl ⟨rfl, ?_⟩))
        cases r with
        | nil => exact absurd c2.2.2 moreD_nil
        | cons _ _ => simp
      · rw [if_neg c2]
        split
        · rename_i c3
          refine Or.inr (Or.inr (Or.inr ⟨rfl, ?_⟩))
          cases r with
          | nil => exact absurd c3.2.2.1 moreD_nil
          | cons _ r =>
            cases r with
            | nil => exact absurd c3.2.2.2.1 moreD_nil
            | cons _ _ => simp
        · exact Or.inl rfl
  · rw [if_neg h4]
    by_cases h5 : cs = 5
    · rw [if_pos h5]
      cases r with
      | nil => exact Or.inl rfl
      | cons b1 r =>
        have key : ∀ q : Int × Int, q = (if charB (b * 256 + b1) = true then (b * 256 + b1, 2) else (0, 0)) → q.2 = 0 ∨ q.2 = 1 ∨ (q.2 = 2 ∧ 1 ≤ (b1 :: r).length) ∨ (q.2 = 3 ∧ 2 ≤ (b1 :: r).length) := by
          intro q hq
          by_cases hc : charB (b * 256 + b1) = true
          · rw [if_pos hc] at hq; subst hq; exact Or.inr (Or.inr (Or.inl ⟨rfl, by simp⟩))
          · rw [if_neg hc] at hq; subst hq; exact Or.inl rfl
        exact key _ rfl
    · rw [if_neg h5]
      split
      · exact Or.inr (Or.inl rfl)
      · exact Or.inl rfl
theorem decode_end (cs : Int) (L : List Int) (k k2 i : Nat) (acc : List Int) (h : ¬ i < L.length) : spec_l2Decode.l0 (k + 1) cs L acc (i : Int) = some (acc, true) ∧ impl_decodeChars.l0 (k2 + 1) cs (L.drop i) acc = some (acc, true) := by
  constructor
  · unfold spec_l2Decode.l0
    rw [if_neg (by omega)]
  · unfold impl_decodeChars.l0
    rw [if_neg (by rw [List.length_drop]; omega)]
theorem decode_step (cs : Int) (hc : 1 ≤ cs ∧ cs ≤ 5) (L : List Int) (hL : L.length ≤ 1048576) (hb : ∀ x ∈ L, 0 ≤ x ∧ x ≤ 255) (k k2 i : Nat) (acc : List Int) (hi : i < L.length) (ha : acc.length < 17592186044416) :
    (spec_l2Decode.l0 (k + 13) cs L acc (i : Int) = some ([], false) ∧ impl_decodeChars.l0 (k2 + 13) cs (L.drop i) acc = some ([], false)) ∨
    ∃ (m : Nat) (c : Int), 1 ≤ m ∧ i + m ≤ L.length ∧ spec_l2Decode.l0 (k + 13) cs L acc (i : Int) = spec_l2Decode.l0 (k + 12) cs L (acc ++ [c]) ((i + m : Nat) : Int) ∧ impl_decodeChars.l0 (k2 + 13) cs (L.drop i) acc = impl_decodeChars.l0 (k2 + 12) cs (L.drop (i + m)) (acc ++ [c]) := by
  have hd : L.drop i = L[i] :: L.drop (i + 1) := List.drop_eq_getElem_cons hi
  have hlen : (L.drop i).length = L.length - i := List.length_drop
  have hs := spec_l2One_eq (k + 8) cs L i hc hL hb hi
  have hf := impl_firstChar_eq k2 cs L[i] (L.drop (i + 1)) hc (fun x hx => hb x (List.mem_of_mem_drop (by rw [hd]; exact hx)))
  have hn := oneF_snd cs L[i] (L.drop (i + 1))
  rw [List.length_drop] at hn
  rw [← hd] at hf
  have a1 : (i : Int) < (L.length : Int) := by omega
  have a2 : ((L.drop i).length : Int) > 0 := by rw [hlen]; omega
  have u1 : spec_l2Decode.l0 (k + 13) cs L acc (i : Int) = (if (oneF cs L[i] (L.drop (i + 1))).2 = 0 then some ([], false) else if acc.length < 17592186044416 then spec_l2Decode.l0 (k + 12) cs L (acc ++ [(oneF cs L[i] (L.drop (i + 1))).1]) (wrap64 ((i : Int) + (oneF cs L[i] (L.drop (i + 1))).2)) else none) := by
    conv => lhs; unfold spec_l2Decode.l0
    rw [if_pos a1, hs]
    rfl
  have u2 : impl_decodeChars.l0 (k2 + 13) cs (L.drop i) acc = (if (oneF cs L[i] (L.drop (i + 1))).2 = 0 then some ([], false) else if acc.length < 17592186044416 then (if 0 ≤ (oneF cs L[i] (L.drop (i + 1))).2 then (if (oneF cs L[i] (L.drop (i + 1))).2 ≤ ((L.drop i).length : Int) then impl_decodeChars.l0 (k2 + 12) cs ((L.drop i).drop ((oneF cs L[i] (L.drop (i + 1))).2).toNat) (acc ++ [(oneF cs L[i] (L.drop (i + 1))).1]) else none) else none) else none) := by
    conv => lhs; unfold impl_decodeChars.l0
    rw [if_pos a2, hf]
    rfl
  rw [u1, u2]
  clear u1 u2 hs hf
  generalize oneF cs L[i] (L.drop (i + 1)) = q at hn
  by_cases hz : q.2 = 0
  · rw [if_pos hz, if_pos hz]
    exact Or.inl ⟨rfl, rfl⟩
  · obtain ⟨m, hm, hm1, hm2⟩ : ∃ m : Nat, q.2 = (m : Int) ∧ 1 ≤ m ∧ i + m ≤ L.length := ⟨q.2.toNat, by omega, by omega, by omega⟩
    have w : wrap64 ((i : Int) + (m : Int)) = ((i + m : Nat) : Int) := by rw [wrap64_in (by omega)]; omega
    have ho : (0 : Int) ≤ (m : Int) := by omega
    have hle : (m : Int) ≤ ((L.drop i).length : Int) := by rw [hlen]; omega
    refine Or.inr ⟨m, q.1, hm1, hm2, ?_, ?_⟩
    · rw [if_neg hz, hm, if_pos ha, w]
    · rw [if_neg hz, hm, if_pos ha, if_pos ho, if_pos hle, Int.toNat_natCast, List.drop_drop]
theorem decode_both (cs : Int) (hc : 1 ≤ cs ∧ cs ≤ 5) (L : List Int) (hL : L.length ≤ 1048576) (hb : ∀ x ∈ L, 0 ≤ x ∧ x ≤ 255) : ∀ (n k k2 i : Nat) (acc : List Int), L.length ≤ i + n → i ≤ L.length → acc.length + n ≤ 4194304 → ∃ r, spec_l2Decode.l0 (k + n + 13) cs L acc (i : Int) = some r ∧ impl_decodeChars.l0 (k2 + n + 13) cs (L.drop i) acc = some r ∧ r.1.length ≤ acc.length + n
  | 0, k, k2, i, acc, h1, h2, h5 => by
    obtain ⟨e1, e2⟩ := decode_end cs L (k + 12) (k2 + 12) i acc (by omega)
    exact ⟨(acc, true), e1, e2, Nat.le_refl _⟩
  | n + 1, k, k2, i, acc, h1, h2, h5 => by
    by_cases hi : i < L.length
    · rcases decode_step cs hc L hL hb (k + n + 1) (k2 + n + 1) i acc hi (by omega) with ⟨e1, e2⟩ | ⟨m, c, m1, m2, e1, e2⟩
      · exact ⟨([], false), e1, e2, Nat.zero_le _⟩
      · obtain ⟨r, r1, r2, r3⟩ := decode_both cs hc L hL hb n k k2 (i + m) (acc ++ [c]) (by omega) m2 (by rw [List.length_append, List.length_singleton]; omega)
        refine ⟨r, e1.trans r1, e2.trans r2, ?_⟩
        rw [List.length_append, List.length_singleton] at r3
        omega
    · obtain ⟨e1, e2⟩ := decode_end cs L (k + (n + 1) + 12) (k2 + (n + 1) + 12) i acc hi
      exact ⟨(acc, true), e1, e2, Nat.le_add_right _ _⟩
theorem DecodeText_both (cs : Int) (L : List Int) (hL : L.length ≤ 1048576) (hb : ∀ x ∈ L, 0 ≤ x ∧ x ≤ 255) (k : Nat) (hk : L.length + 13 < k) : ∃ r : Int × List Int, r.2.length ≤ 400 ∧ spec_DecodeText.f k cs L = some r ∧ impl_DecodeText.f k cs L = some r := by
  obtain ⟨kk, rfl⟩ : ∃ m, k = m + L.length + 13 := ⟨k - L.length - 13, by omega⟩
  unfold spec_DecodeText.f impl_DecodeText.f
  simp only [spec_l2Set.f, in_eq, impl_isCharset_eq, Option.bind_some]
  by_cases hc : 1 ≤ cs ∧ cs ≤ 5
  · rw [decide_eq_true hc, if_pos rfl, if_pos rfl]
    by_cases h4 : (L.length : Int) > 400
    · exact ⟨(2, []), by simp, by rw [if_pos h4], by rw [if_pos h4]⟩
    · obtain ⟨r, r1, r2, r3⟩ := decode_both cs hc L hL hb L.length kk kk 0 [] (by omega) (by omega) (by simp; omega)
      have r1' : spec_l2Decode.l0 (kk + L.length + 13) cs L [] 0 = some r := r1
      rw [List.drop_zero] at r2
      rw [if_neg h4, if_neg h4]
      unfold spec_l2Decode.f impl_decodeChars.f
      rw [r1', r2]
      simp only [Option.bind_some]
      cases hr : r.2 with
      | true => exact ⟨(0, r.1), by simp at r3; show r.1.length ≤ 400; omega, by rw [if_pos rfl], by rw [if_pos rfl]⟩
      | false => exact ⟨(8, []), by simp, by rw [if_neg (by decide)], by rw [if_neg (by decide)]⟩
  · rw [decide_eq_false hc]
    exact ⟨(4, []), by simp, by rw [if_neg (by decide)], by rw [if_neg (by decide)]⟩
theorem byte_wf {l : List Int} (h : ∀ x ∈ l, (Lit.int .u8 x).wf = true) : ∀ x ∈ l, 0 ≤ x ∧ x ≤ 255 := by
  intro x hx
  have h1 := h x hx
  unfold Lit.wf at h1
  rw [Bool.and_eq_true, decide_eq_true_eq, decide_eq_true_eq, show IntKind.u8.min = 0 from by decide, show IntKind.u8.max = 255 from by decide] at h1
  exact h1
theorem FnExactDecodeText : laws_FnExactDecodeText.Pure := by
  intro a l _ hb hb2 hw
  refine ⟨l.length + 450, ?_⟩
  unfold laws_FnExactDecodeText.f
  by_cases hl : (l.length : Int) > 1048576
  · rw [if_pos hl]
  · rw [if_neg hl]
    have hB := byte_wf hw
    obtain ⟨r, hlen, q3, q4⟩ := DecodeText_both a l (by omega) hB (l.length + 450) (by omega)
    obtain ⟨r2, _, q3', q5⟩ := DecodeText_both a l (by omega) hB (l.length + 449) (by omega)
    have hr : r2 = r := by
      have := impl_DecodeText.mono a l (l.length + 449) r2 q5
      rw [q4] at this
      exact (Option.some.inj this).symm
    subst hr
    have e2 := laws_eqByteS_eq l (l.length + 450) hb (by omega)
    have e4 := laws_markByteS_eq l 1 (l.length + 450) (by omega) (by omega) (by omega)
    have e5 := laws_markInt64S_eq r2.2 1 (l.length + 449) (by omega) (by omega) (by omega)
    have e6 := laws_heldInt64S_eq r2.2.length 1 (l.length + 449) (by omega) (by omega) (by omega)
    have p0 : ¬ (1 + (l.length : Int) < 0) := by omega
    have e7 : ∀ k, 400 < k → laws_eqCodesResult.f k r2.1 r2.2 r2.1 r2.2 = some true := by
      intro k hk; unfold laws_eqCodesResult.f; rw [if_pos rfl, laws_eqInt64S_eq r2.2 k (by unfold maxLen; omega) (by omega)]; rfl
    have q1 := laws_toByteS_eq l (l.length + 450) hb (by omega) (by omega)
    have q2 := laws_toByteS_eq l (l.length + 449) hb (by omega) (by omega)
    have q6 := e7 (l.length + 450) (by omega)
    have q7 := e7 (l.length + 449) (by omega)
    have p1 : ¬ (1 + (r2.2.length : Int) < 0) := by omega
    simp only [q1, q3, q4, q6, e2, e4, Option.bind_some, if_true, if_neg p0]
    rw [laws_FnExactDecodeText.j0]
    simp only [laws_markCodesResult.f, laws_heldCodesResult.f, q2, q5, q7, e5, e6, Option.bind_some, if_true, if_neg p1, Bool.not_true, Bool.false_eq_true, if_false]

end Go.Proofs.Ytcmndjbokgaihaa.Pure
