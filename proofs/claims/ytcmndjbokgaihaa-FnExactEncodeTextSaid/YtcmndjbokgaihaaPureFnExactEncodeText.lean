/- The plain law: what the walk computes answers as the statement says. -/
import Derived.Test.YtcmndjbokgaihaaPEncodeTextx3
namespace Go.Proofs.Ytcmndjbokgaihaa.Pure
open Go.RowKit Go.Proofs.Ytcmndjbokgaihaa.PEncodeText Go.Proofs.YtcmndjbokgaihaaW.PrintWords Go.Proofs.YtcmndjbokgaihaaW.PrintLast
set_option linter.unusedSimpArgs false
set_option linter.unusedVariables false
theorem rd_at (l : List Int) (i : Nat) (h : i < l.length) : rd l (i : Int) = l[i] := by
  simp [rd, List.getD_eq_getElem?_getD, h]
theorem wrap64_in {n : Int} (h : -9223372036854775808 ≤ n ∧ n ≤ 9223372036854775807) : wrap64 n = n := by
  unfold wrap64; omega
theorem maxLen_le : maxLen ≤ 9223372036854775807 := by unfold maxLen; decide
theorem laws_toInt64S.l0_eq (x0 : List Int) (hb : x0.length ≤ maxLen) : ∀ (n k i : Nat), x0.length = i + n → n < k → laws_toInt64S.l0 k x0 (x0.take i ++ List.replicate n 0) (i : Int) = some x0
  | 0, 0, _, _, h => absurd h (by omega)
  | 0, k + 1, i, hi, _ => by
    have h1 : ¬ ((i : Int) < (x0.length : Int)) := by omega
    simp only [laws_toInt64S.l0, if_neg h1, List.replicate_zero, List.append_nil]
    rw [List.take_of_length_le (by omega)]
  | n + 1, 0, _, _, h => absurd h (by omega)
  | n + 1, k + 1, i, hi, h => by
    have hm := maxLen_le
    have h1 : (i : Int) < (x0.length : Int) := by omega
    have h2 : (0 : Int) ≤ (i : Int) := by omega
    have h3 : (i : Int) < ((x0.take i ++ List.replicate (n + 1) (0 : Int)).length : Int) := by simp; omega
    have h4 : wrap64 ((i : Int) + 1) = ((i + 1 : Nat) : Int) := by rw [wrap64_in (by omega)]; omega
    simp only [laws_toInt64S.l0]
    rw [if_pos h1, if_pos h2, if_pos h3, h4]
    rw [← laws_toInt64S.l0_eq x0 hb n k (i + 1) (by omega) (by omega)]
    congr 1
    rw [rd_at x0 i (by omega), Int.toNat_natCast, List.set_append_right _ _ (by simp; omega)]
    have h5 : i - (x0.take i).length = 0 := by simp; omega
    rw [h5, List.take_succ_eq_append_getElem (by omega), List.append_assoc, List.replicate_succ, List.set_cons_zero]
    rfl
theorem laws_toInt64S_eq (l : List Int) (k : Nat) (hb : l.length ≤ maxLen) (hb2 : l.length ≤ 1048576) (hk : l.length < k) : laws_toInt64S.f k l = some l := by
  unfold laws_toInt64S.f
  have h1 : (0 : Int) ≤ (l.length : Int) := by omega
  rw [if_pos h1, Int.toNat_natCast, if_pos (by omega)]
  exact laws_toInt64S.l0_eq l hb l.length k 0 (by omega) hk
theorem laws_eqInt64S.l0_eq (x0 : List Int) (hb : x0.length ≤ maxLen) : ∀ (n k i : Nat), x0.length = i + n → n < k → laws_eqInt64S.l0 k x0 x0 (i : Int) = some true
  | 0, 0, _, _, h => absurd h (by omega)
  | 0, k + 1, i, hi, _ => by
    have h1 : ¬ ((i : Int) < (x0.length : Int)) := by omega
    simp only [laws_eqInt64S.l0, if_neg h1]
  | n + 1, 0, _, _, h => absurd h (by omega)
  | n + 1, k + 1, i, hi, h => by
    have hm := maxLen_le
    have h1 : (i : Int) < (x0.length : Int) := by omega
    have h2 : (0 : Int) ≤ (i : Int) := by omega
    have h4 : wrap64 ((i : Int) + 1) = ((i + 1 : Nat) : Int) := by rw [wrap64_in (by omega)]; omega
    unfold laws_eqInt64S.l0
    rw [if_pos h1, if_pos h2, if_pos h1]
    rw [if_pos rfl, h4]
    exact laws_eqInt64S.l0_eq x0 hb n k (i + 1) (by omega) (by omega)
theorem laws_eqInt64S_eq (l : List Int) (k : Nat) (hb : l.length ≤ maxLen) (hk : l.length < k) : laws_eqInt64S.f k l l = some true := by
  unfold laws_eqInt64S.f
  rw [if_pos rfl]
  exact laws_eqInt64S.l0_eq l hb l.length k 0 (by omega) hk
theorem laws_eqByteS.l0_eq (x0 : List Int) (hb : x0.length ≤ maxLen) : ∀ (n k i : Nat), x0.length = i + n → n < k → laws_eqByteS.l0 k x0 x0 (i : Int) = some true
  | 0, 0, _, _, h => absurd h (by omega)
  | 0, k + 1, i, hi, _ => by
    have h1 : ¬ ((i : Int) < (x0.length : Int)) := by omega
    simp only [laws_eqByteS.l0, if_neg h1]
  | n + 1, 0, _, _, h => absurd h (by omega)
  | n + 1, k + 1, i, hi, h => by
    have hm := maxLen_le
    have h1 : (i : Int) < (x0.length : Int) := by omega
    have h2 : (0 : Int) ≤ (i : Int) := by omega
    have h4 : wrap64 ((i : Int) + 1) = ((i + 1 : Nat) : Int) := by rw [wrap64_in (by omega)]; omega
    unfold laws_eqByteS.l0
    rw [if_pos h1, if_pos h2, if_pos h1]
    rw [if_pos rfl, h4]
    exact laws_eqByteS.l0_eq x0 hb n k (i + 1) (by omega) (by omega)
theorem laws_eqByteS_eq (l : List Int) (k : Nat) (hb : l.length ≤ maxLen) (hk : l.length < k) : laws_eqByteS.f k l l = some true := by
  unfold laws_eqByteS.f
  rw [if_pos rfl]
  exact laws_eqByteS.l0_eq l hb l.length k 0 (by omega) hk
def mkInt64S (x : Int) : Int := x
def marksInt64S : Int → Nat → List Int
  | _, 0 => []
  | m, n + 1 => mkInt64S m :: marksInt64S (m + 1) n
theorem marksInt64S_len : ∀ n m, (marksInt64S m n).length = n
  | 0, _ => rfl
  | n + 1, m => by simp [marksInt64S, marksInt64S_len n]
theorem laws_markInt64S.l0_eq : ∀ (n k i : Nat) (x0 : List Int) (x1 : Int), x0.length = i + n → n < k → 0 ≤ x1 → x1 + n ≤ 4611686018427387904 → x0.length ≤ 4611686018427387904 → laws_markInt64S.l0 k x0 x1 (i : Int) = some (x1 + n, x0.take i ++ marksInt64S x1 n)
  | 0, 0, _, _, _, _, h, _, _, _ => absurd h (by omega)
  | 0, k + 1, i, x0, x1, hi, _, _, _, _ => by
    have h1 : ¬ ((i : Int) < (x0.length : Int)) := by omega
    unfold laws_markInt64S.l0
    rw [if_neg h1, List.take_of_length_le (by omega)]
    simp [marksInt64S]
  | n + 1, 0, _, _, _, _, h, _, _, _ => absurd h (by omega)
  | n + 1, k + 1, i, x0, x1, hi, h, hx, hx1, hb => by
    have h1 : (i : Int) < (x0.length : Int) := by omega
    have h2 : (0 : Int) ≤ (i : Int) := by omega
    have h4 : wrap64 ((i : Int) + 1) = ((i + 1 : Nat) : Int) := by rw [wrap64_in (by omega)]; omega
    have h5 : wrap64 (x1 + 1) = x1 + 1 := wrap64_in (by omega)
    have hs : (x0.set i (mkInt64S x1)).take (i + 1) = x0.take i ++ [mkInt64S x1] := by
      rw [List.take_succ_eq_append_getElem (by simp; omega), List.getElem_set_self]
      congr 1
      rw [List.take_set, List.set_eq_of_length_le (by simp; omega)]
    unfold laws_markInt64S.l0
    rw [if_pos h1, if_pos h2, Int.toNat_natCast, h4, h5]
    have := laws_markInt64S.l0_eq n k (i + 1) (x0.set i (mkInt64S x1)) (x1 + 1) (by simp; omega) (by omega) (by omega) (by omega) (by simp; omega)
    rw [hs] at this
    unfold mkInt64S at this
    rw [this]
    simp [marksInt64S, mkInt64S]
    omega
theorem laws_markInt64S_eq (l : List Int) (m : Int) (k : Nat) (hk : l.length < k) (hl : l.length ≤ 1048576) (hm : 0 ≤ m ∧ m ≤ 4294967296) : laws_markInt64S.f k l m = some (m + l.length, marksInt64S m l.length) := by
  unfold laws_markInt64S.f
  have := laws_markInt64S.l0_eq l.length k 0 l m (by omega) hk hm.1 (by omega) (by omega)
  simpa using this
def mkByteS (x : Int) : Int := ((x)%256)
def marksByteS : Int → Nat → List Int
  | _, 0 => []
  | m, n + 1 => mkByteS m :: marksByteS (m + 1) n
theorem marksByteS_len : ∀ n m, (marksByteS m n).length = n
  | 0, _ => rfl
  | n + 1, m => by simp [marksByteS, marksByteS_len n]
theorem laws_markByteS.l0_eq : ∀ (n k i : Nat) (x0 : List Int) (x1 : Int), x0.length = i + n → n < k → 0 ≤ x1 → x1 + n ≤ 4611686018427387904 → x0.length ≤ 4611686018427387904 → laws_markByteS.l0 k x0 x1 (i : Int) = some (x1 + n, x0.take i ++ marksByteS x1 n)
  | 0, 0, _, _, _, _, h, _, _, _ => absurd h (by omega)
  | 0, k + 1, i, x0, x1, hi, _, _, _, _ => by
    have h1 : ¬ ((i : Int) < (x0.length : Int)) := by omega
    unfold laws_markByteS.l0
    rw [if_neg h1, List.take_of_length_le (by omega)]
    simp [marksByteS]
  | n + 1, 0, _, _, _, _, h, _, _, _ => absurd h (by omega)
  | n + 1, k + 1, i, x0, x1, hi, h, hx, hx1, hb => by
    have h1 : (i : Int) < (x0.length : Int) := by omega
    have h2 : (0 : Int) ≤ (i : Int) := by omega
    have h4 : wrap64 ((i : Int) + 1) = ((i + 1 : Nat) : Int) := by rw [wrap64_in (by omega)]; omega
    have h5 : wrap64 (x1 + 1) = x1 + 1 := wrap64_in (by omega)
    have hs : (x0.set i (mkByteS x1)).take (i + 1) = x0.take i ++ [mkByteS x1] := by
      rw [List.take_succ_eq_append_getElem (by simp; omega), List.getElem_set_self]
      congr 1
      rw [List.take_set, List.set_eq_of_length_le (by simp; omega)]
    unfold laws_markByteS.l0
    rw [if_pos h1, if_pos h2, Int.toNat_natCast, h4, h5]
    have := laws_markByteS.l0_eq n k (i + 1) (x0.set i (mkByteS x1)) (x1 + 1) (by simp; omega) (by omega) (by omega) (by omega) (by simp; omega)
    rw [hs] at this
    unfold mkByteS at this
    rw [this]
    simp [marksByteS, mkByteS]
    omega
theorem laws_markByteS_eq (l : List Int) (m : Int) (k : Nat) (hk : l.length < k) (hl : l.length ≤ 1048576) (hm : 0 ≤ m ∧ m ≤ 4294967296) : laws_markByteS.f k l m = some (m + l.length, marksByteS m l.length) := by
  unfold laws_markByteS.f
  have := laws_markByteS.l0_eq l.length k 0 l m (by omega) hk hm.1 (by omega) (by omega)
  simpa using this
theorem laws_heldByteS.l0_eq : ∀ (n k i : Nat) (x0 : List Int) (x1 : Int), x0.length = i + n → n < k → 0 ≤ x1 → x1 + n ≤ 4611686018427387904 → x0.length ≤ 4611686018427387904 → x0.drop i = marksByteS x1 n → laws_heldByteS.l0 k x0 x1 (i : Int) = some (x1 + n)
  | 0, 0, _, _, _, _, h, _, _, _, _ => absurd h (by omega)
  | 0, k + 1, i, x0, x1, hi, _, _, _, _, _ => by
    have h1 : ¬ ((i : Int) < (x0.length : Int)) := by omega
    unfold laws_heldByteS.l0
    rw [if_neg h1]
    simp
  | n + 1, 0, _, _, _, _, h, _, _, _, _ => absurd h (by omega)
  | n + 1, k + 1, i, x0, x1, hi, h, hx, hx1, hb, hd => by
    have h1 : (i : Int) < (x0.length : Int) := by omega
    have h2 : (0 : Int) ≤ (i : Int) := by omega
    have h4 : wrap64 ((i : Int) + 1) = ((i + 1 : Nat) : Int) := by rw [wrap64_in (by omega)]; omega
    have h5 : wrap64 (x1 + 1) = x1 + 1 := wrap64_in (by omega)
    have hlt : i < x0.length := by omega
    rw [List.drop_eq_getElem_cons hlt] at hd
    unfold marksByteS at hd
    have h6 : x0[i] = mkByteS x1 := (List.cons.inj hd).1
    have h7 : x0.drop (i + 1) = marksByteS (x1 + 1) n := (List.cons.inj hd).2
    unfold laws_heldByteS.l0
    rw [if_pos h1, if_pos h2, rd_at x0 i hlt, h6, if_pos (by unfold mkByteS; rfl), h4, h5, laws_heldByteS.l0_eq n k (i + 1) x0 (x1 + 1) (by omega) (by omega) (by omega) (by omega) hb h7]
    congr 1
    omega
theorem laws_heldByteS_eq (n : Nat) (m : Int) (k : Nat) (hk : n < k) (hl : n ≤ 1048576) (hm : 0 ≤ m ∧ m ≤ 4294967296) : laws_heldByteS.f k (marksByteS m n) m = some (m + n) := by
  have hml := marksByteS_len n m
  unfold laws_heldByteS.f
  exact laws_heldByteS.l0_eq n k 0 (marksByteS m n) m (by omega) hk hm.1 (by omega) (by omega) (by simp)
theorem in_eq (a b c : Int) : spec_l1In.f a b c = some (decide (b ≤ a ∧ a ≤ c)) := by
  unfold spec_l1In.f; by_cases h : a ≥ b <;> simp [h] <;> omega
def Cyr (c : Int) : Prop := (0 ≤ c ∧ c ≤ 160) ∨ c = 173 ∨ c = 167 ∨ c = 8470 ∨ ((1025 ≤ c ∧ c ≤ 1119) ∧ c ≠ 1037 ∧ c ≠ 1104 ∧ c ≠ 1117)
instance (c : Int) : Decidable (Cyr c) := by unfold Cyr; infer_instance
def cyrV (c : Int) : Int := if (0 ≤ c ∧ c ≤ 160) ∨ c = 173 then c else if c = 167 then 253 else if c = 8470 then 240 else c - 864
theorem cyr (k : Nat) (c : Int) : ∃ v, spec_l2Cyrillic.f (k + 1) c = some v ∧ (v ≥ 0 ↔ Cyr c) ∧ (Cyr c → v = cyrV c) := by
  simp only [spec_l2Cyrillic.f, spec_l2Cyrillic.j0, in_eq, Option.bind_some, decide_eq_true_eq, beq_iff_eq, if_true]
  unfold wrap64 Cyr cyrV
  by_cases h1 : 0 ≤ c ∧ c ≤ 160
  · rw [if_pos h1, if_pos (Or.inl h1)]; refine ⟨c, rfl, ?_, fun _ => rfl⟩; omega
  · rw [if_neg h1]
    by_cases h2 : c = 173
    · rw [if_pos h2, if_pos (Or.inr h2)]; refine ⟨c, rfl, ?_, fun _ => rfl⟩; omega
    · rw [if_neg h2, if_neg (show ¬ ((0 ≤ c ∧ c ≤ 160) ∨ c = 173) by omega)]
      repeat' split
      all_goals refine ⟨_, rfl, ?_, ?_⟩
      all_goals omega
def hasB (a c : Int) : Bool := if a = 1 then decide (0 ≤ c ∧ c ≤ 127) else if a = 2 then decide (0 ≤ c ∧ c ≤ 255) else if a = 3 then decide (Cyr c) else true
theorem spec_l2Has_eq (k : Nat) (a c : Int) : spec_l2Has.f (k + 1) a c = some (hasB a c) := by
  obtain ⟨v, hv, hp, _⟩ := cyr k c
  simp only [spec_l2Has.f, in_eq, hv, Option.bind_some, hasB]
  repeat' split
  all_goals simp [hp]
/-- The bytes of a char in a charset, as a plain law. -/
def encB (a c : Int) : List Int :=
  if a = 1 ∨ a = 2 then [c % 256] else if a = 3 then [cyrV c % 256] else if a = 5 then [(wrap64 (Int.tdiv c 256)) % 256, (Int.tmod c 256) % 256]
  else if c < 128 then [c % 256] else if c < 2048 then [(wrap64 (192 + (wrap64 (Int.tdiv c 64)))) % 256, (wrap64 (128 + (Int.tmod c 64))) % 256]
  else [(wrap64 (224 + (wrap64 (Int.tdiv c 4096)))) % 256, (wrap64 (128 + (Int.tmod (wrap64 (Int.tdiv c 64)) 64))) % 256, (wrap64 (128 + (Int.tmod c 64))) % 256]
theorem encB_len (a c : Int) : (encB a c).length ≤ 3 := by
  unfold encB
  repeat' split
  all_goals simp
theorem flat_len (a : Int) : ∀ l : List Int, (l.flatMap (encB a)).length ≤ 3 * l.length
  | [] => by simp
  | x :: xs => by
    have h1 := flat_len a xs
    have h2 := encB_len a x
    rw [List.flatMap_cons, List.length_append, List.length_cons]
    omega
theorem spec_l2Bytes_eq (k : Nat) (a c : Int) (ha : 1 ≤ a ∧ a ≤ 5) (hh : hasB a c = true) : spec_l2Bytes.f (k + 2) a c = some (encB a c) := by
  obtain ⟨v, hv, _, hp⟩ := cyr k c
  unfold spec_l2Bytes.f encB
  have : a = 1 ∨ a = 2 ∨ a = 3 ∨ a = 4 ∨ a = 5 := by omega
  rcases this with rfl | rfl | rfl | rfl | rfl
  · simp [spec_l2Bytes.j0]
  · simp [spec_l2Bytes.j0]
  · have hc : Cyr c := by unfold hasB at hh; simpa using hh
    simp [spec_l2Bytes.j0, hv, hp hc]
  · simp [spec_l2Bytes.j0]
    repeat' split
    all_goals rfl
  · simp [spec_l2Bytes.j0]
def enco (a : Int) (acc l : List Int) : List Int × Int :=
  if l.all (hasB a) = true then (if 400 < (acc ++ l.flatMap (encB a)).length then ([], 2) else (acc ++ l.flatMap (encB a), 0)) else ([], 8)
theorem spec_l2Encode.l0_eq (a : Int) (ha : 1 ≤ a ∧ a ≤ 5) (L : List Int) (hb : L.length ≤ 1048576) : ∀ (n k i : Nat) (acc : List Int), L.length = i + n → n + 2 < k → acc.length + 3 * n ≤ 4194304 → spec_l2Encode.l0 k a L acc (i : Int) = some (enco a acc (L.drop i))
  | _, 0, _, _, _, h, _ => absurd h (by omega)
  | 0, k + 1, i, acc, hi, _, _ => by
    have h1 : ¬ ((i : Int) < (L.length : Int)) := by omega
    unfold spec_l2Encode.l0 enco
    rw [if_neg h1, List.drop_eq_nil_of_le (by omega)]
    simp only [List.all_nil, if_true, List.flatMap_nil, List.append_nil]
    by_cases h2 : 400 < acc.length
    · rw [if_pos (by omega), if_pos h2]
    · rw [if_neg (by omega), if_neg h2]
  | n + 1, k + 1, i, acc, hi, h, hc => by
    have h1 : (i : Int) < (L.length : Int) := by omega
    have h2 : (0 : Int) ≤ (i : Int) := by omega
    have h4 : wrap64 ((i : Int) + 1) = ((i + 1 : Nat) : Int) := by rw [wrap64_in (by omega)]; omega
    obtain ⟨k2, rfl⟩ : ∃ k2, k = k2 + 2 := ⟨k - 2, by omega⟩
    unfold spec_l2Encode.l0
    rw [if_pos h1, if_pos h2, rd_at L i (by omega), spec_l2Has_eq (k2 + 1), Option.bind_some, List.drop_eq_getElem_cons (by omega : i < L.length), h4]
    have hl := encB_len a L[i]
    cases hh : hasB a L[i] with
    | true =>
      rw [if_pos rfl, spec_l2Bytes_eq k2 a _ ha hh, Option.bind_some, if_pos (by omega), spec_l2Encode.l0_eq a ha L hb n (k2 + 2) (i + 1) _ (by omega) (by omega) (by rw [List.length_append]; omega)]
      unfold enco
      rw [List.all_cons, hh, Bool.true_and, List.flatMap_cons, List.append_assoc]
    | false =>
      rw [if_neg (by decide)]
      unfold enco
      rw [List.all_cons, hh, Bool.false_and, if_neg (by decide)]
theorem impl_encodeChar_eq (k : Nat) (a c : Int) (ha : 1 ≤ a ∧ a ≤ 5) (h0 : 0 ≤ c ∧ c ≤ 65535) : impl_encodeChar.f (k + 3) a c = some (encB a c) := by
  unfold impl_encodeChar.f encB
  have : a = 1 ∨ a = 2 ∨ a = 3 ∨ a = 4 ∨ a = 5 := by omega
  rcases this with rfl | rfl | rfl | rfl | rfl
  · simp [impl_encodeChar.j0, impl_encodeChar.j1, impl_encodeChar.j2]
  · simp [impl_encodeChar.j0, impl_encodeChar.j1, impl_encodeChar.j2]
  · have hw : wrap64 (c - 864) = c - 864 := wrap64_in (by omega)
    have h0' := h0.1
    by_cases h1 : c ≤ 160
    · simp [impl_encodeChar.j0, impl_encodeChar.j1, impl_encodeChar.j2, cyrV, h1, h0']
    · by_cases h2 : c = 173
      · simp [impl_encodeChar.j0, impl_encodeChar.j1, impl_encodeChar.j2, cyrV, h2]
      · by_cases h3 : c = 167
        · simp [impl_encodeChar.j0, impl_encodeChar.j1, impl_encodeChar.j2, cyrV, h3]
        · by_cases h4 : c = 8470
          · simp [impl_encodeChar.j0, impl_encodeChar.j1, impl_encodeChar.j2, cyrV, h4]
          · simp [impl_encodeChar.j0, impl_encodeChar.j1, impl_encodeChar.j2, cyrV, h1, h2, h3, h4, hw]
  · by_cases h1 : c < 128
    · have h2 : ¬ (128 ≤ c) := by omega
      have h3 : ¬ (2048 ≤ c) := by omega
      simp [impl_encodeChar.j0, impl_encodeChar.j1, impl_encodeChar.j2, impl_encodeChar_1.f, h1, h2, h3]
    · have h2 : 128 ≤ c := by omega
      by_cases h4 : c < 2048
      · have h3 : ¬ (2048 ≤ c) := by omega
        simp [impl_encodeChar.j0, impl_encodeChar.j1, impl_encodeChar.j2, impl_encodeChar_1.f, h1, h2, h3, h4]
      · have h3 : 2048 ≤ c := by omega
        simp [impl_encodeChar.j0, impl_encodeChar.j1, impl_encodeChar.j2, impl_encodeChar_1.f, h1, h2, h3, h4]
  · simp
theorem impl_encodeChars.l0_eq (a : Int) (ha : 1 ≤ a ∧ a ≤ 5) (L : List Int) (hL : ∀ x ∈ L, 0 ≤ x ∧ x ≤ 65535) (hb : L.length ≤ 1048576) : ∀ (n k i : Nat) (acc : List Int), L.length = i + n → n + 3 < k → acc.length + 3 * n ≤ 4194304 → impl_encodeChars.l0 k a acc L (L.length : Int) (i : Int) = some (acc ++ (L.drop i).flatMap (encB a))
  | _, 0, _, _, _, h, _ => absurd h (by omega)
  | 0, k + 1, i, acc, hi, _, _ => by
    have h1 : ¬ ((i : Int) < (L.length : Int)) := by omega
    unfold impl_encodeChars.l0
    rw [if_neg h1, List.drop_eq_nil_of_le (by omega)]
    simp
  | n + 1, k + 1, i, acc, hi, h, hc => by
    have h1 : (i : Int) < (L.length : Int) := by omega
    have h2 : (0 : Int) ≤ (i : Int) := by omega
    have h4 : wrap64 ((i : Int) + 1) = ((i + 1 : Nat) : Int) := by rw [wrap64_in (by omega)]; omega
    have hl := encB_len a L[i]
    obtain ⟨k2, rfl⟩ : ∃ k2, k = k2 + 3 := ⟨k - 3, by omega⟩
    unfold impl_encodeChars.l0
    rw [if_pos h1, if_pos h2, if_pos h1, rd_at L i (by omega), impl_encodeChar_eq k2 a _ ha (hL _ (List.getElem_mem _)), Option.bind_some, if_pos (by omega), h4, impl_encodeChars.l0_eq a ha L hL hb n (k2 + 3) (i + 1) _ (by omega) (by omega) (by rw [List.length_append]; omega), List.drop_eq_getElem_cons (by omega : i < L.length), List.flatMap_cons, List.append_assoc]
theorem impl_encodeChars_eq (a : Int) (ha : 1 ≤ a ∧ a ≤ 5) (L : List Int) (hL : ∀ x ∈ L, 0 ≤ x ∧ x ≤ 65535) (k : Nat) (hb : L.length ≤ 1048576) (hk : L.length + 3 < k) : impl_encodeChars.f k a L = some (L.flatMap (encB a)) := by
  unfold impl_encodeChars.f
  have := impl_encodeChars.l0_eq a ha L hL hb L.length k 0 [] (by omega) hk (by simp; omega)
  simpa using this
theorem within_eq (a b c : Int) : impl_within.f a b c = some (decide (b ≤ a ∧ a ≤ c)) := by
  unfold impl_within.f; by_cases h : a ≥ b <;> simp [h] <;> omega
def charB (c : Int) : Bool := decide (0 ≤ c ∧ c ≤ 55295) || decide (57344 ≤ c ∧ c ≤ 65535)
theorem charB_iff (c : Int) : charB c = true ↔ (0 ≤ c ∧ c ≤ 55295) ∨ (57344 ≤ c ∧ c ≤ 65535) := by
  simp [charB]
theorem impl_isChar_eq (c : Int) : impl_isChar.f c = some (charB c) := by
  simp only [impl_isChar.f, within_eq, Option.bind_some]
  have hr : charB c = (decide (0 ≤ c ∧ c ≤ 65535) && !decide (55296 ≤ c ∧ c ≤ 57343)) := by
    rw [Bool.eq_iff_iff]; simp only [charB, Bool.and_eq_true, Bool.or_eq_true, Bool.not_eq_true', decide_eq_true_eq, decide_eq_false_iff_not]; omega
  rw [hr]
  generalize decide (0 ≤ c ∧ c ≤ 65535) = x
  cases x <;> simp
theorem impl_HasChar.j0_eq (k : Nat) (a c : Int) (h0 : 0 ≤ c) : impl_HasChar.j0 (k + 1) a c false = some (hasB a c) := by
  simp only [impl_HasChar.j0, within_eq, Option.bind_some, decide_eq_true_eq, Bool.false_eq_true, if_false, hasB]
  by_cases h1 : a = 1
  · simp [h1, h0]
  by_cases h2 : a = 2
  · simp [h2, h0]
  by_cases h3 : a = 3
  · simp only [h1, h2, h3, if_true, if_false]
    simp only [show ¬ ((3 : Int) = 1) by decide, show ¬ ((3 : Int) = 2) by decide, if_false]
    repeat' split
    all_goals (refine congrArg some ?_; rw [Bool.eq_iff_iff]; simp only [decide_eq_true_eq, beq_iff_eq, true_iff]; unfold Cyr; omega)
  · simp [h1, h2, h3]
theorem impl_isCharset_eq (a : Int) : impl_isCharset.f a = some (decide (1 ≤ a ∧ a ≤ 5)) := by
  simp only [impl_isCharset.f, within_eq, Option.bind_some]
theorem impl_HasChar_eq (k : Nat) (a c : Int) : impl_HasChar.f (k + 1) a c = some (charB c && (decide (1 ≤ a ∧ a ≤ 5) && hasB a c)) := by
  simp only [impl_HasChar.f, impl_isChar_eq, impl_isCharset_eq, Option.bind_some]
  cases hc : charB c with
  | false => simp [impl_HasChar.j0]
  | true =>
    have h0 : 0 ≤ c := by have := (charB_iff c).1 hc; omega
    rw [if_pos rfl]
    cases hd : decide (1 ≤ a ∧ a ≤ 5) with
    | false => simp [impl_HasChar.j0]
    | true => rw [Bool.not_true, impl_HasChar.j0_eq k a c h0]; rfl
theorem spec_l2Char_eq (c : Int) : spec_l2Char.f c = some (charB c) := by
  simp only [spec_l2Char.f, in_eq, Option.bind_some, charB]
  generalize decide (0 ≤ c ∧ c ≤ 55295) = x
  cases x <;> simp
theorem spec_l2Fault.l0_eq (x0 : List Int) (hb : x0.length ≤ maxLen) : ∀ (n k i : Nat), x0.length = i + n → n < k → spec_l2Fault.l0 k x0 (i : Int) = some (if (x0.drop i).all charB = true then 0 else 3)
  | 0, 0, _, _, h => absurd h (by omega)
  | 0, k + 1, i, hi, _ => by
    have h1 : ¬ ((i : Int) < (x0.length : Int)) := by omega
    unfold spec_l2Fault.l0
    rw [if_neg h1, List.drop_eq_nil_of_le (by omega)]
    rfl
  | n + 1, 0, _, _, h => absurd h (by omega)
  | n + 1, k + 1, i, hi, h => by
    have hm := maxLen_le
    have h1 : (i : Int) < (x0.length : Int) := by omega
    have h2 : (0 : Int) ≤ (i : Int) := by omega
    have h4 : wrap64 ((i : Int) + 1) = ((i + 1 : Nat) : Int) := by rw [wrap64_in (by omega)]; omega
    unfold spec_l2Fault.l0
    rw [if_pos h1, if_pos h2, h4, rd_at x0 i (by omega), List.drop_eq_getElem_cons (by omega), List.all_cons, spec_l2Fault.l0_eq x0 hb n k (i + 1) (by omega) (by omega), spec_l2Char_eq, Option.bind_some]
    cases charB x0[i] <;> rfl
theorem spec_l2Fault_eq (l : List Int) (k : Nat) (hb : l.length ≤ maxLen) (hk : l.length < k) : spec_l2Fault.f k l = some (if 400 < l.length then 2 else if l.all charB = true then 0 else 3) := by
  unfold spec_l2Fault.f
  by_cases h : 400 < l.length
  · rw [if_pos (by omega), if_pos h]
  · rw [if_neg (by omega), if_neg h]
    have := spec_l2Fault.l0_eq l hb l.length k 0 (by omega) hk
    simpa using this
theorem CodesFault_p_eq (c : Int) : impl_CodesFault.p c = !charB c := by
  unfold impl_CodesFault.p charB
  rw [Bool.eq_iff_iff]; simp only [Bool.and_eq_true, Bool.or_eq_true, Bool.not_eq_true', decide_eq_true_eq, decide_eq_false_iff_not, Bool.and_eq_false_iff, Bool.not_eq_false', Bool.or_eq_false_iff]; omega
theorem CodesFault_any (l : List Int) : l.any impl_CodesFault.p = !(l.all charB) := by
  induction l with
  | nil => rfl
  | cons x xs ih => rw [List.any_cons, List.all_cons, ih, CodesFault_p_eq, Bool.not_and]
theorem impl_CodesFault_eq (l : List Int) : impl_CodesFault.f l = some (if 400 < l.length then 2 else if l.all charB = true then 0 else 3) := by
  unfold impl_CodesFault.f
  rw [CodesFault_any]
  by_cases h : 400 < l.length
  · rw [if_pos h, if_pos h]
  · rw [if_neg h, if_neg h]
    cases l.all charB <;> rfl
def fault (l : List Int) : Int := if 400 < l.length then 2 else if l.all charB = true then 0 else 3
theorem fault_zero {l : List Int} (h : fault l = 0) : l.length ≤ 400 ∧ ∀ x ∈ l, charB x = true := by
  unfold fault at h
  by_cases h1 : 400 < l.length
  · rw [if_pos h1] at h; omega
  · rw [if_neg h1] at h
    by_cases h2 : l.all charB = true
    · exact ⟨by omega, List.all_eq_true.mp h2⟩
    · rw [if_neg h2] at h; omega
def eto (a : Int) (l : List Int) : Int × List Int :=
  if 1 ≤ a ∧ a ≤ 5 then (if fault l = 0 then ((enco a [] l).2, (enco a [] l).1) else (fault l, [])) else (4, [])
theorem eto_len (a : Int) (l : List Int) : (eto a l).2.length ≤ 400 := by
  unfold eto enco
  repeat' split
  all_goals simp
  all_goals (rename_i h; simp at h; omega)
theorem spec_EncodeText_eq (a : Int) (l : List Int) (k : Nat) (hb : l.length ≤ 1048576) (hk : l.length + 8 < k) : spec_EncodeText.f k a l = some (eto a l) := by
  unfold spec_EncodeText.f eto
  simp only [spec_l2Set.f, in_eq, Option.bind_some]
  by_cases ha : 1 ≤ a ∧ a ≤ 5
  · rw [decide_eq_true ha, if_pos rfl, if_pos ha, spec_l2Fault_eq l k (by unfold maxLen; omega) (by omega), Option.bind_some]
    change (if fault l = 0 then _ else some (fault l, [])) = _
    by_cases hf : fault l = 0
    · rw [if_pos hf, if_pos hf]
      have := spec_l2Encode.l0_eq a ha l hb l.length k 0 [] (by omega) (by omega) (by simp; omega)
      unfold spec_l2Encode.f
      rw [show ((0 : Nat) : Int) = 0 from rfl, List.drop_zero] at this
      rw [this]
      rfl
    · rw [if_neg hf, if_neg hf]
  · rw [decide_eq_false ha, if_neg ha]; rfl
theorem impl_EncodeText_eq (a : Int) (l : List Int) (k : Nat) (hb : l.length ≤ 1048576) (hk : l.length + 8 < k) : impl_EncodeText.f k a l = some (eto a l) := by
  unfold impl_EncodeText.f eto
  rw [impl_isCharset_eq, Option.bind_some]
  by_cases ha : 1 ≤ a ∧ a ≤ 5
  · rw [decide_eq_true ha, if_neg (by decide), if_pos ha, impl_CodesFault_eq, Option.bind_some]
    change (if fault l ≠ 0 then some (fault l, []) else _) = _
    by_cases hf : fault l = 0
    · rw [if_neg (by rw [hf]; decide), if_pos hf]
      obtain ⟨hl, hch⟩ := fault_zero hf
      have hL : ∀ x ∈ l, 0 ≤ x ∧ x ≤ 65535 := fun x hx => by have := (charB_iff x).1 (hch x hx); omega
      have hany : ∀ m : List Int, (∀ x ∈ m, charB x = true) → m.any (impl_EncodeText.p a) = !(m.all (hasB a)) := by
        intro m
        induction m with
        | nil => intro _; rfl
        | cons x xs ih =>
          intro h
          rw [List.any_cons, List.all_cons, ih (fun y hy => h y (by simp [hy])), Bool.not_and]
          congr 1
          unfold impl_EncodeText.p
          rw [impl_HasChar_eq 0, h x (by simp), decide_eq_true ha]
          rfl
      rw [hany l hch, impl_encodeChars_eq a ha l hL k hb (by omega)]
      unfold enco
      cases l.all (hasB a) with
      | false => rfl
      | true =>
        simp only [Bool.not_true, Bool.false_eq_true, if_false, if_true, Option.bind_some, List.nil_append]
        split <;> rfl
    · rw [if_pos hf, if_neg hf]
  · rw [decide_eq_false ha, if_neg ha]; rfl
theorem FnExactEncodeText : laws_FnExactEncodeText.Pure := by
  intro a l _ hb hb2 hw
  refine ⟨l.length + 406, ?_⟩
  unfold laws_FnExactEncodeText.f
  by_cases hl : (l.length : Int) > 1048576
  · rw [if_pos hl]
  · rw [if_neg hl]
    have hlen := eto_len a l
    have e2 := laws_eqInt64S_eq l (l.length + 406) hb (by omega)
    have e4 := laws_markInt64S_eq l 1 (l.length + 406) (by omega) (by omega) (by omega)
    have e5 := laws_markByteS_eq (eto a l).2 1 (l.length + 405) (by omega) (by omega) (by omega)
    have e6 := laws_heldByteS_eq (eto a l).2.length 1 (l.length + 405) (by omega) (by omega) (by omega)
    have p0 : ¬ (1 + (l.length : Int) < 0) := by omega
    have e7 : ∀ k, 400 < k → laws_eqBytesResult.f k (eto a l).1 (eto a l).2 (eto a l).1 (eto a l).2 = some true := by
      intro k hk; unfold laws_eqBytesResult.f; rw [if_pos rfl, laws_eqByteS_eq (eto a l).2 k (by unfold maxLen; omega) (by omega)]; rfl
    have q1 := laws_toInt64S_eq l (l.length + 406) hb (by omega) (by omega)
    have q2 := laws_toInt64S_eq l (l.length + 405) hb (by omega) (by omega)
    have q3 := spec_EncodeText_eq a l (l.length + 406) (by omega) (by omega)
    have q4 := impl_EncodeText_eq a l (l.length + 406) (by omega) (by omega)
    have q5 := impl_EncodeText_eq a l (l.length + 405) (by omega) (by omega)
    have q6 := e7 (l.length + 406) (by omega)
    have q7 := e7 (l.length + 405) (by omega)
    have p1 : ¬ (1 + ((eto a l).2.length : Int) < 0) := by omega
    simp only [q1, q3, q4, q6, e2, e4, Option.bind_some, if_true, if_neg p0]
    rw [laws_FnExactEncodeText.j0]
    simp only [laws_markBytesResult.f, laws_heldBytesResult.f, q2, q5, q7, e5, e6, Option.bind_some, if_true, if_neg p1, Bool.not_true, Bool.false_eq_true, if_false]

end Go.Proofs.Ytcmndjbokgaihaa.Pure
