/- The plain law: what the walk computes answers as the statement says. -/
import Derived.Test.YtjopgmjmjnfcjaaPEncodeWordsx3
namespace Go.Proofs.Ytjopgmjmjnfcjaa.Pure
open Go.RowKit Go.Proofs.Ytjopgmjmjnfcjaa.PEncodeWords Go.Proofs.YtjopgmjmjnfcjaaW.PrintWords Go.Proofs.YtjopgmjmjnfcjaaW.PrintLast
set_option linter.unusedSimpArgs false
set_option linter.unusedVariables false
theorem rd_at (l : List Int) (i : Nat) (h : i < l.length) : rd l (i : Int) = l[i] := by
  simp [rd, List.getD_eq_getElem?_getD, h]
theorem wrap64_in {n : Int} (h : -9223372036854775808 ≤ n ∧ n ≤ 9223372036854775807) : wrap64 n = n := by
  unfold wrap64; omega
theorem maxLen_le : maxLen ≤ 9223372036854775807 := by unfold maxLen; decide
theorem laws_toInt64S.l0_eq (x0 : List Int) (hb : x0.length ≤ maxLen) : ∀ (n k i : Nat), x0.length = i + n → n < k → laws_toInt64S.l0 k x0 (x0.take i ++ List.replicate n 0) (i : Int) = some x0
  | 0, 0, _, _, h => absurd h (by omega)
  | 0, k + 1, i, hi, _ => by
    have h1 : ¬ ((i : Int) < (x0.length : Int)) := by omega
    simp only [laws_toInt64S.l0, if_neg h1, List.replicate_zero, List.append_nil]
    rw [List.take_of_length_le (by omega)]
  | n + 1, 0, _, _, h => absurd h (by omega)
  | n + 1, k + 1, i, hi, h => by
    have hm := maxLen_le
    have h1 : (i : Int) < (x0.length : Int) := by omega
    have h2 : (0 : Int) ≤ (i : Int) := by omega
    have h3 : (i : Int) < ((x0.take i ++ List.replicate (n + 1) (0 : Int)).length : Int) := by simp; omega
    have h4 : wrap64 ((i : Int) + 1) = ((i + 1 : Nat) : Int) := by rw [wrap64_in (by omega)]; omega
    simp only [laws_toInt64S.l0]
    rw [if_pos h1, if_pos h2, if_pos h3, h4]
    rw [← laws_toInt64S.l0_eq x0 hb n k (i + 1) (by omega) (by omega)]
    congr 1
    rw [rd_at x0 i (by omega), Int.toNat_natCast, List.set_append_right _ _ (by simp; omega)]
    have h5 : i - (x0.take i).length = 0 := by simp; omega
    rw [h5, List.take_succ_eq_append_getElem (by omega), List.append_assoc, List.replicate_succ, List.set_cons_zero]
    rfl
theorem laws_toInt64S_eq (l : List Int) (k : Nat) (hb : l.length ≤ maxLen) (hb2 : l.length ≤ 1048576) (hk : l.length < k) : laws_toInt64S.f k l = some l := by
  unfold laws_toInt64S.f
  have h1 : (0 : Int) ≤ (l.length : Int) := by omega
  rw [if_pos h1, Int.toNat_natCast, if_pos (by omega)]
  exact laws_toInt64S.l0_eq l hb l.length k 0 (by omega) hk
theorem laws_eqInt64S.l0_eq (x0 : List Int) (hb : x0.length ≤ maxLen) : ∀ (n k i : Nat), x0.length = i + n → n < k → laws_eqInt64S.l0 k x0 x0 (i : Int) = some true
  | 0, 0, _, _, h => absurd h (by omega)
  | 0, k + 1, i, hi, _ => by
    have h1 : ¬ ((i : Int) < (x0.length : Int)) := by omega
    simp only [laws_eqInt64S.l0, if_neg h1]
  | n + 1, 0, _, _, h => absurd h (by omega)
  | n + 1, k + 1, i, hi, h => by
    have hm := maxLen_le
    have h1 : (i : Int) < (x0.length : Int) := by omega
    have h2 : (0 : Int) ≤ (i : Int) := by omega
    have h4 : wrap64 ((i : Int) + 1) = ((i + 1 : Nat) : Int) := by rw [wrap64_in (by omega)]; omega
    unfold laws_eqInt64S.l0
    rw [if_pos h1, if_pos h2, if_pos h1]
    rw [if_pos rfl, h4]
    exact laws_eqInt64S.l0_eq x0 hb n k (i + 1) (by omega) (by omega)
theorem laws_eqInt64S_eq (l : List Int) (k : Nat) (hb : l.length ≤ maxLen) (hk : l.length < k) : laws_eqInt64S.f k l l = some true := by
  unfold laws_eqInt64S.f
  rw [if_pos rfl]
  exact laws_eqInt64S.l0_eq l hb l.length k 0 (by omega) hk
theorem bt_range (s : ByteArray) (i : Int) : 0 ≤ bt s i ∧ bt s i ≤ 255 := by
  unfold bt
  split
  · rename_i h
    have := UInt8.toNat_lt (s[i.toNat]'h)
    omega
  · omega
theorem strOfNums_size (l : List Int) : (strOfNums l).size = l.length := by
  show (strOfNums l).data.size = _
  simp [strOfNums]
theorem bytesOf_strOfNums (l : List Int) (h : ∀ x ∈ l, 0 ≤ x ∧ x ≤ 255) : bytesOf (strOfNums l) = l := by
  unfold bytesOf strOfNums
  simp only [List.map_map]
  conv => rhs; rw [← List.map_id l]
  apply List.map_congr_left
  intro x hx
  have := h x hx
  simp only [Function.comp, id]
  rw [UInt8.toNat_ofNat_of_lt' (by show x.toNat < 256; omega)]
  omega
theorem strOfNums_bytesOf (s : ByteArray) : strOfNums (bytesOf s) = s := by
  unfold bytesOf strOfNums
  rw [List.map_map]
  have h : (s.data.toList.map ((fun n : Int => UInt8.ofNat n.toNat) ∘ fun b : UInt8 => (b.toNat : Int))) = s.data.toList := by
    conv => rhs; rw [← List.map_id s.data.toList]
    apply List.map_congr_left
    intro x _
    simp
  rw [h]
theorem bytesOf_in (s : ByteArray) : ∀ x ∈ bytesOf s, 0 ≤ x ∧ x ≤ 255 := by
  intro x hx
  obtain ⟨b, _, rfl⟩ := List.mem_map.1 hx
  have := UInt8.toNat_lt b
  omega
theorem bt_strOfNums (l : List Int) (h : ∀ x ∈ l, 0 ≤ x ∧ x ≤ 255) (i : Nat) (hi : i < l.length) : bt (strOfNums l) (i : Int) = l[i] := by
  rw [← rd_bytesOf, bytesOf_strOfNums l h, rd_at l i hi]
theorem in_eq (a b c : Int) : spec_l1In.f a b c = some (decide (b ≤ a ∧ a ≤ c)) := by
  unfold spec_l1In.f; by_cases h : a ≥ b <;> simp [h] <;> omega
def Cyr (c : Int) : Prop := (0 ≤ c ∧ c ≤ 160) ∨ c = 173 ∨ c = 167 ∨ c = 8470 ∨ ((1025 ≤ c ∧ c ≤ 1119) ∧ c ≠ 1037 ∧ c ≠ 1104 ∧ c ≠ 1117)
instance (c : Int) : Decidable (Cyr c) := by unfold Cyr; infer_instance
def cyrV (c : Int) : Int := if (0 ≤ c ∧ c ≤ 160) ∨ c = 173 then c else if c = 167 then 253 else if c = 8470 then 240 else c - 864
theorem cyr (k : Nat) (c : Int) : ∃ v, spec_l2Cyrillic.f (k + 1) c = some v ∧ (v ≥ 0 ↔ Cyr c) ∧ (Cyr c → v = cyrV c) := by
  simp only [spec_l2Cyrillic.f, spec_l2Cyrillic.j0, in_eq, Option.bind_some, decide_eq_true_eq, beq_iff_eq, if_true]
  unfold wrap64 Cyr cyrV
  by_cases h1 : 0 ≤ c ∧ c ≤ 160
  · rw [if_pos h1, if_pos (Or.inl h1)]; refine ⟨c, rfl, ?_, fun _ => rfl⟩; omega
  · rw [if_neg h1]
    by_cases h2 : c = 173
    · rw [if_pos h2, if_pos (Or.inr h2)]; refine ⟨c, rfl, ?_, fun _ => rfl⟩; omega
    · rw [if_neg h2, if_neg (show ¬ ((0 ≤ c ∧ c ≤ 160) ∨ c = 173) by omega)]
      repeat' split
      all_goals refine ⟨_, rfl, ?_, ?_⟩
      all_goals omega
def hasB (a c : Int) : Bool := if a = 1 then decide (0 ≤ c ∧ c ≤ 127) else if a = 2 then decide (0 ≤ c ∧ c ≤ 255) else if a = 3 then decide (Cyr c) else true
theorem spec_l2Has_eq (k : Nat) (a c : Int) : spec_l2Has.f (k + 1) a c = some (hasB a c) := by
  obtain ⟨v, hv, hp, _⟩ := cyr k c
  simp only [spec_l2Has.f, in_eq, hv, Option.bind_some, hasB]
  repeat' split
  all_goals simp [hp]
/-- The bytes of a char in a charset, as a plain law. -/
def encB (a c : Int) : List Int :=
  if a = 1 ∨ a = 2 then [c % 256] else if a = 3 then [cyrV c % 256] else if a = 5 then [(wrap64 (Int.tdiv c 256)) % 256, (Int.tmod c 256) % 256]
  else if c < 128 then [c % 256] else if c < 2048 then [(wrap64 (192 + (wrap64 (Int.tdiv c 64)))) % 256, (wrap64 (128 + (Int.tmod c 64))) % 256]
  else [(wrap64 (224 + (wrap64 (Int.tdiv c 4096)))) % 256, (wrap64 (128 + (Int.tmod (wrap64 (Int.tdiv c 64)) 64))) % 256, (wrap64 (128 + (Int.tmod c 64))) % 256]
theorem encB_len (a c : Int) : (encB a c).length ≤ 3 := by
  unfold encB
  repeat' split
  all_goals simp
theorem flat_len (a : Int) : ∀ l : List Int, (l.flatMap (encB a)).length ≤ 3 * l.length
  | [] => by simp
  | x :: xs => by
    have h1 := flat_len a xs
    have h2 := encB_len a x
    rw [List.flatMap_cons, List.length_append, List.length_cons]
    omega
theorem spec_l2Bytes_eq (k : Nat) (a c : Int) (ha : 1 ≤ a ∧ a ≤ 5) (hh : hasB a c = true) : spec_l2Bytes.f (k + 2) a c = some (encB a c) := by
  obtain ⟨v, hv, _, hp⟩ := cyr k c
  unfold spec_l2Bytes.f encB
  have : a = 1 ∨ a = 2 ∨ a = 3 ∨ a = 4 ∨ a = 5 := by omega
  rcases this with rfl | rfl | rfl | rfl | rfl
  · simp [spec_l2Bytes.j0]
  · simp [spec_l2Bytes.j0]
  · have hc : Cyr c := by unfold hasB at hh; simpa using hh
    simp [spec_l2Bytes.j0, hv, hp hc]
  · simp [spec_l2Bytes.j0]
    repeat' split
    all_goals rfl
  · simp [spec_l2Bytes.j0]
def enco (a : Int) (acc l : List Int) : List Int × Int :=
  if l.all (hasB a) = true then (if 400 < (acc ++ l.flatMap (encB a)).length then ([], 2) else (acc ++ l.flatMap (encB a), 0)) else ([], 8)
theorem spec_l2Encode.l0_eq (a : Int) (ha : 1 ≤ a ∧ a ≤ 5) (L : List Int) (hb : L.length ≤ 1048576) : ∀ (n k i : Nat) (acc : List Int), L.length = i + n → n + 2 < k → acc.length + 3 * n ≤ 4194304 → spec_l2Encode.l0 k a L acc (i : Int) = some (enco a acc (L.drop i))
  | _, 0, _, _, _, h, _ => absurd h (by omega)
  | 0, k + 1, i, acc, hi, _, _ => by
    have h1 : ¬ ((i : Int) < (L.length : Int)) := by omega
    unfold spec_l2Encode.l0 enco
    rw [if_neg h1, List.drop_eq_nil_of_le (by omega)]
    simp only [List.all_nil, if_true, List.flatMap_nil, List.append_nil]
    by_cases h2 : 400 < acc.length
    · rw [if_pos (by omega), if_pos h2]
    · rw [if_neg (by omega), if_neg h2]
  | n + 1, k + 1, i, acc, hi, h, hc => by
    have h1 : (i : Int) < (L.length : Int) := by omega
    have h2 : (0 : Int) ≤ (i : Int) := by omega
    have h4 : wrap64 ((i : Int) + 1) = ((i + 1 : Nat) : Int) := by rw [wrap64_in (by omega)]; omega
    obtain ⟨k2, rfl⟩ : ∃ k2, k = k2 + 2 := ⟨k - 2, by omega⟩
    unfold spec_l2Encode.l0
    rw [if_pos h1, if_pos h2, rd_at L i (by omega), spec_l2Has_eq (k2 + 1), Option.bind_some, List.drop_eq_getElem_cons (by omega : i < L.length), h4]
    have hl := encB_len a L[i]
    cases hh : hasB a L[i] with
    | true =>
      rw [if_pos rfl, spec_l2Bytes_eq k2 a _ ha hh, Option.bind_some, if_pos (by omega), spec_l2Encode.l0_eq a ha L hb n (k2 + 2) (i + 1) _ (by omega) (by omega) (by rw [List.length_append]; omega)]
      unfold enco
      rw [List.all_cons, hh, Bool.true_and, List.flatMap_cons, List.append_assoc]
    | false =>
      rw [if_neg (by decide)]
      unfold enco
      rw [List.all_cons, hh, Bool.false_and, if_neg (by decide)]
theorem impl_encodeChar_eq (k : Nat) (a c : Int) (ha : 1 ≤ a ∧ a ≤ 5) (h0 : 0 ≤ c ∧ c ≤ 65535) : impl_encodeChar.f (k + 3) a c = some (encB a c) := by
  unfold impl_encodeChar.f encB
  have : a = 1 ∨ a = 2 ∨ a = 3 ∨ a = 4 ∨ a = 5 := by omega
  rcases this with rfl | rfl | rfl | rfl | rfl
  · simp [impl_encodeChar.j0, impl_encodeChar.j1, impl_encodeChar.j2]
  · simp [impl_encodeChar.j0, impl_encodeChar.j1, impl_encodeChar.j2]
  · have hw : wrap64 (c - 864) = c - 864 := wrap64_in (by omega)
    have h0' := h0.1
    by_cases h1 : c ≤ 160
    · simp [impl_encodeChar.j0, impl_encodeChar.j1, impl_encodeChar.j2, cyrV, h1, h0']
    · by_cases h2 : c = 173
      · simp [impl_encodeChar.j0, impl_encodeChar.j1, impl_encodeChar.j2, cyrV, h2]
      · by_cases h3 : c = 167
        · simp [impl_encodeChar.j0, impl_encodeChar.j1, impl_encodeChar.j2, cyrV, h3]
        · by_cases h4 : c = 8470
          · simp [impl_encodeChar.j0, impl_encodeChar.j1, impl_encodeChar.j2, cyrV, h4]
          · simp [impl_encodeChar.j0, impl_encodeChar.j1, impl_encodeChar.j2, cyrV, h1, h2, h3, h4, hw]
  · by_cases h1 : c < 128
    · have h2 : ¬ (128 ≤ c) := by omega
      have h3 : ¬ (2048 ≤ c) := by omega
      simp [impl_encodeChar.j0, impl_encodeChar.j1, impl_encodeChar.j2, impl_encodeChar_1.f, h1, h2, h3]
    · have h2 : 128 ≤ c := by omega
      by_cases h4 : c < 2048
      · have h3 : ¬ (2048 ≤ c) := by omega
        simp [impl_encodeChar.j0, impl_encodeChar.j1, impl_encodeChar.j2, impl_encodeChar_1.f, h1, h2, h3, h4]
      · have h3 : 2048 ≤ c := by omega
        simp [impl_encodeChar.j0, impl_encodeChar.j1, impl_encodeChar.j2, impl_encodeChar_1.f, h1, h2, h3, h4]
  · simp
theorem impl_encodeChars.l0_eq (a : Int) (ha : 1 ≤ a ∧ a ≤ 5) (L : List Int) (hL : ∀ x ∈ L, 0 ≤ x ∧ x ≤ 65535) (hb : L.length ≤ 1048576) : ∀ (n k i : Nat) (acc : List Int), L.length = i + n → n + 3 < k → acc.length + 3 * n ≤ 4194304 → impl_encodeChars.l0 k a acc L (L.length : Int) (i : Int) = some (acc ++ (L.drop i).flatMap (encB a))
  | _, 0, _, _, _, h, _ => absurd h (by omega)
  | 0, k + 1, i, acc, hi, _, _ => by
    have h1 : ¬ ((i : Int) < (L.length : Int)) := by omega
    unfold impl_encodeChars.l0
    rw [if_neg h1, List.drop_eq_nil_of_le (by omega)]
    simp
  | n + 1, k + 1, i, acc, hi, h, hc => by
    have h1 : (i : Int) < (L.length : Int) := by omega
    have h2 : (0 : Int) ≤ (i : Int) := by omega
    have h4 : wrap64 ((i : Int) + 1) = ((i + 1 : Nat) : Int) := by rw [wrap64_in (by omega)]; omega
    have hl := encB_len a L[i]
    obtain ⟨k2, rfl⟩ : ∃ k2, k = k2 + 3 := ⟨k - 3, by omega⟩
    unfold impl_encodeChars.l0
    rw [if_pos h1, if_pos h2, if_pos h1, rd_at L i (by omega), impl_encodeChar_eq k2 a _ ha (hL _ (List.getElem_mem _)), Option.bind_some, if_pos (by omega), h4, impl_encodeChars.l0_eq a ha L hL hb n (k2 + 3) (i + 1) _ (by omega) (by omega) (by rw [List.length_append]; omega), List.drop_eq_getElem_cons (by omega : i < L.length), List.flatMap_cons, List.append_assoc]
theorem impl_encodeChars_eq (a : Int) (ha : 1 ≤ a ∧ a ≤ 5) (L : List Int) (hL : ∀ x ∈ L, 0 ≤ x ∧ x ≤ 65535) (k : Nat) (hb : L.length ≤ 1048576) (hk : L.length + 3 < k) : impl_encodeChars.f k a L = some (L.flatMap (encB a)) := by
  unfold impl_encodeChars.f
  have := impl_encodeChars.l0_eq a ha L hL hb L.length k 0 [] (by omega) hk (by simp; omega)
  simpa using this
def charB (c : Int) : Bool := decide (0 ≤ c ∧ c ≤ 55295) || decide (57344 ≤ c ∧ c ≤ 65535)
theorem charB_iff (c : Int) : charB c = true ↔ (0 ≤ c ∧ c ≤ 55295) ∨ (57344 ≤ c ∧ c ≤ 65535) := by
  simp [charB]
theorem spec_l2Char_eq (c : Int) : spec_l2Char.f c = some (charB c) := by
  simp only [spec_l2Char.f, in_eq, Option.bind_some, charB]
  generalize decide (0 ≤ c ∧ c ≤ 55295) = x
  cases x <;> simp
theorem spec_l2Fault.l0_eq (x0 : List Int) (hb : x0.length ≤ maxLen) : ∀ (n k i : Nat), x0.length = i + n → n < k → spec_l2Fault.l0 k x0 (i : Int) = some (if (x0.drop i).all charB = true then 0 else 3)
  | 0, 0, _, _, h => absurd h (by omega)
  | 0, k + 1, i, hi, _ => by
    have h1 : ¬ ((i : Int) < (x0.length : Int)) := by omega
    unfold spec_l2Fault.l0
    rw [if_neg h1, List.drop_eq_nil_of_le (by omega)]
    rfl
  | n + 1, 0, _, _, h => absurd h (by omega)
  | n + 1, k + 1, i, hi, h => by
    have hm := maxLen_le
    have h1 : (i : Int) < (x0.length : Int) := by omega
    have h2 : (0 : Int) ≤ (i : Int) := by omega
    have h4 : wrap64 ((i : Int) + 1) = ((i + 1 : Nat) : Int) := by rw [wrap64_in (by omega)]; omega
    unfold spec_l2Fault.l0
    rw [if_pos h1, if_pos h2, h4, rd_at x0 i (by omega), List.drop_eq_getElem_cons (by omega), List.all_cons, spec_l2Fault.l0_eq x0 hb n k (i + 1) (by omega) (by omega), spec_l2Char_eq, Option.bind_some]
    cases charB x0[i] <;> rfl
theorem spec_l2Fault_eq (l : List Int) (k : Nat) (hb : l.length ≤ maxLen) (hk : l.length < k) : spec_l2Fault.f k l = some (if 400 < l.length then 2 else if l.all charB = true then 0 else 3) := by
  unfold spec_l2Fault.f
  by_cases h : 400 < l.length
  · rw [if_pos (by omega), if_pos h]
  · rw [if_neg (by omega), if_neg h]
    have := spec_l2Fault.l0_eq l hb l.length k 0 (by omega) hk
    simpa using this
theorem CodesFault_p_eq (c : Int) : impl_CodesFault.p c = !charB c := by
  unfold impl_CodesFault.p charB
  rw [Bool.eq_iff_iff]; simp only [Bool.and_eq_true, Bool.or_eq_true, Bool.not_eq_true', decide_eq_true_eq, decide_eq_false_iff_not, Bool.and_eq_false_iff, Bool.not_eq_false', Bool.or_eq_false_iff]; omega
theorem CodesFault_any (l : List Int) : l.any impl_CodesFault.p = !(l.all charB) := by
  induction l with
  | nil => rfl
  | cons x xs ih => rw [List.any_cons, List.all_cons, ih, CodesFault_p_eq, Bool.not_and]
theorem impl_CodesFault_eq (l : List Int) : impl_CodesFault.f l = some (if 400 < l.length then 2 else if l.all charB = true then 0 else 3) := by
  unfold impl_CodesFault.f
  rw [CodesFault_any]
  by_cases h : 400 < l.length
  · rw [if_pos h, if_pos h]
  · rw [if_neg h, if_neg h]
    cases l.all charB <;> rfl
def fault (l : List Int) : Int := if 400 < l.length then 2 else if l.all charB = true then 0 else 3
theorem fault_zero {l : List Int} (h : fault l = 0) : l.length ≤ 400 ∧ ∀ x ∈ l, charB x = true := by
  unfold fault at h
  by_cases h1 : 400 < l.length
  · rw [if_pos h1] at h; omega
  · rw [if_neg h1] at h
    by_cases h2 : l.all charB = true
    · exact ⟨by omega, List.all_eq_true.mp h2⟩
    · rw [if_neg h2] at h; omega
theorem spec_l1Base_eq (n : Int) (h : 0 ≤ n ∧ n < 64) : spec_l1Base.f n = some (impl_baseText.dg n) := by
  unfold spec_l1Base.f impl_baseText.dg
  rw [if_pos h.1, if_pos h.2]
theorem tdw (V d : Int) (hV : 0 ≤ V ∧ V ≤ 16777215) (hd : 0 < d) : wrap64 (Int.tdiv V d) = V / d := by
  rw [Int.tdiv_eq_ediv_of_nonneg hV.1, wrap64_in]
  have h1 := Int.ediv_nonneg hV.1 (by omega : 0 ≤ d)
  have h2 := Int.ediv_le_self d hV.1
  omega
theorem tdwm (V d : Int) (hV : 0 ≤ V ∧ V ≤ 16777215) (hd : 0 < d) : Int.tmod (wrap64 (Int.tdiv V d)) 64 = V / d % 64 := by
  rw [tdw V d hV hd, Int.tmod_eq_emod_of_nonneg (Int.ediv_nonneg hV.1 (by omega))]
theorem tm64 (V : Int) (hV : 0 ≤ V ∧ V ≤ 16777215) : Int.tmod V 64 = V % 64 := Int.tmod_eq_emod_of_nonneg hV.1
theorem mod64 (x : Int) : 0 ≤ x % 64 ∧ x % 64 < 64 := by omega
theorem w123 (i : Nat) (h : i ≤ 1048576) : wrap64 ((i : Int) + 1) = (i : Int) + 1 ∧ wrap64 ((i : Int) + 2) = (i : Int) + 2 ∧ wrap64 ((i : Int) + 3) = ((i + 3 : Nat) : Int) := by
  refine ⟨wrap64_in (by omega), wrap64_in (by omega), ?_⟩
  rw [wrap64_in (by omega)]
  omega
theorem w12 (i : Nat) (h : i ≤ 1048576) : wrap64 ((i : Int) + 1) = ((i + 1 : Nat) : Int) ∧ wrap64 ((i : Int) + 2) = ((i + 2 : Nat) : Int) := by
  obtain ⟨h1, h2, _⟩ := w123 i h
  rw [h1, h2]
  omega
theorem spec_l1Encode.j2_eq (k : Nat) (L x3 : List Int) (i n : Nat) (V : Int) (hb : L.length ≤ 1048576) (hi : i < L.length) (hn : n = min (L.length - i) 3) (hV : 0 ≤ V ∧ V ≤ 16777215) (hx : x3.length + 4 < 140737488355328) :
    spec_l1Encode.j2 (k + 1) L x3 i V = spec_l1Encode.l0 k L (x3 ++ impl_baseText.four n V) ((i + 3 : Nat) : Int) := by
  have e1 := tdw V 262144 hV (by decide)
  have e2 := tdwm V 4096 hV (by decide)
  have e3 := tdwm V 64 hV (by decide)
  have e4 := tm64 V hV
  have v0 : 0 ≤ V / 262144 ∧ V / 262144 < 64 := by clear e1 e2 e3 e4 hx hn; omega
  have v1 := mod64 (V / 4096)
  have v2 := mod64 (V / 64)
  have v3 := mod64 V
  obtain ⟨w1, w2, w3⟩ := w123 i (by omega)
  have p0 : (2 : Int) ^ (18 - 6 * 0) = 262144 := by decide
  have p1 : (2 : Int) ^ (18 - 6 * 1) = 4096 := by decide
  have p2 : (2 : Int) ^ (18 - 6 * 2) = 64 := by decide
  have p3 : (2 : Int) ^ (18 - 6 * 3) = 1 := by decide
  have d0 : V / 262144 % 64 = V / 262144 := Int.emod_eq_of_lt v0.1 v0.2
  have d3 : V / 1 % 64 = V % 64 := by rw [Int.ediv_one]
  unfold spec_l1Encode.j2
  rw [e1, e2, e3, e4, w2, w1, w3, spec_l1Base_eq _ v0, spec_l1Base_eq _ v1, spec_l1Base_eq _ v2, spec_l1Base_eq _ v3]
  simp only [Option.bind_some]
  unfold impl_baseText.four impl_baseText.dk
  rw [p0, p1, p2, p3, d0, d3]
  clear e1 e2 e3 e4 w1 w2 w3 p0 p1 p2 p3 d0 d3 v0 v1 v2 v3 hV
  by_cases h2 : i + 2 < L.length
  · obtain rfl : n = 3 := by omega
    rw [if_neg (by omega), if_neg (by omega), if_pos (by simp; omega)]
    simp
  · by_cases h1 : i + 1 < L.length
    · obtain rfl : n = 2 := by omega
      rw [if_pos (by omega), if_pos (by simp), if_neg (by omega), if_pos (by simp; omega)]
      simp
    · obtain rfl : n = 1 := by omega
      rw [if_pos (by omega), if_pos (by simp), if_pos (by omega), if_pos (by simp), if_pos (by simp; omega)]
      simp
theorem spec_l1Encode.one (k : Nat) (L x3 : List Int) (i : Nat) (hb : L.length ≤ 1048576) (hB : ∀ x ∈ L, 0 ≤ x ∧ x ≤ 255) (hi : i < L.length) (hx : x3.length + 4 < 140737488355328) :
    ∃ four : List Int, impl_baseText.q (L.drop i) = four ++ impl_baseText.q (L.drop (i + 3)) ∧ four.length = 4 ∧ spec_l1Encode.l0 (k + 3) L x3 i = spec_l1Encode.l0 k L (x3 ++ four) ((i + 3 : Nat) : Int) := by
  have hall : L.all (fun x => decide (0 ≤ x ∧ x ≤ 255)) = true := by
    rw [List.all_eq_true]; intro x hx; exact decide_eq_true (hB x hx)
  have h1 : (i : Int) < (L.length : Int) := by omega
  have h2 : (0 : Int) ≤ (i : Int) := by omega
  have w2 : wrap64 ((i : Int) + 2) = ((i + 2 : Nat) : Int) := by rw [wrap64_in (by omega)]; omega
  have w1 : wrap64 ((i : Int) + 1) = ((i + 1 : Nat) : Int) := by rw [wrap64_in (by omega)]; omega
  have ha := hB L[i] (List.getElem_mem hi)
  have ra := rd_at L i hi
  have hd : L.drop i = L[i] :: L.drop (i + 1) := List.drop_eq_getElem_cons hi
  generalize L[i] = a at ha ra hd
  have wa : wrap64 a = a := wrap64_in (by omega)
  have wa2 : wrap64 (a * 65536) = a * 65536 := wrap64_in (by omega)
  by_cases h3 : i + 1 < L.length
  · have hb1 := hB L[i + 1] (List.getElem_mem h3)
    have rb := rd_at L (i + 1) h3
    have hd2 : L.drop (i + 1) = L[i + 1] :: L.drop (i + 2) := List.drop_eq_getElem_cons h3
    generalize L[i + 1] = b at hb1 rb hd2
    have wb : wrap64 b = b := wrap64_in (by omega)
    have wb2 : wrap64 (b * 256) = b * 256 := wrap64_in (by omega)
    have wab : wrap64 (a * 65536 + b * 256) = a * 65536 + b * 256 := wrap64_in (by omega)
    by_cases h4 : i + 2 < L.length
    · have hc1 := hB L[i + 2] (List.getElem_mem h4)
      have rc := rd_at L (i + 2) h4
      have hd3 : L.drop (i + 2) = L[i + 2] :: L.drop (i + 3) := List.drop_eq_getElem_cons h4
      generalize L[i + 2] = c at hc1 rc hd3
      have wc : wrap64 c = c := wrap64_in (by omega)
      have wabc : wrap64 (a * 65536 + b * 256 + c) = a * 65536 + b * 256 + c := wrap64_in (by omega)
      refine ⟨impl_baseText.four 3 (a * 65536 + b * 256 + c), ?_, rfl, ?_⟩
      · have := impl_baseText.q_step L [a, b, c] i a b c hall (by rw [hd, hd2, hd3]; rfl) (.inr (.inr rfl))
        simpa using this
      · conv => lhs; unfold spec_l1Encode.l0
        rw [if_pos h1, if_pos h2, w1, if_pos (by omega), if_pos (by omega), ra, rb, wa, wb, wa2, wb2, wab]
        unfold spec_l1Encode.j1
        rw [w2, if_pos (by omega), if_pos (by omega), rc, wc, wabc]
        exact spec_l1Encode.j2_eq k L x3 i 3 (a * 65536 + b * 256 + c) hb hi (by omega) (by omega) hx
    · refine ⟨impl_baseText.four 2 (a * 65536 + b * 256 + 0), ?_, rfl, ?_⟩
      · have hd3 : L.drop (i + 2) = [] := List.drop_eq_nil_of_le (by omega)
        have := impl_baseText.q_step L [a, b] i a b 0 hall (by rw [hd, hd2, hd3]; rfl) (.inr (.inl ⟨rfl, rfl⟩))
        simpa using this
      · conv => lhs; unfold spec_l1Encode.l0
        rw [if_pos h1, if_pos h2, w1, if_pos (by omega), if_pos (by omega), ra, rb, wa, wb, wa2, wb2, wab]
        unfold spec_l1Encode.j1
        rw [w2, if_neg (by omega), Int.add_zero]
        exact spec_l1Encode.j2_eq k L x3 i 2 (a * 65536 + b * 256) hb hi (by omega) (by omega) hx
  · refine ⟨impl_baseText.four 1 (a * 65536 + 0 * 256 + 0), ?_, rfl, ?_⟩
    · have hd3 : L.drop (i + 1) = [] := List.drop_eq_nil_of_le (by omega)
      have := impl_baseText.q_step L [a] i a 0 0 hall (by rw [hd, hd3]; rfl) (.inl ⟨rfl, rfl, rfl⟩)
      simpa using this
    · conv => lhs; unfold spec_l1Encode.l0
      rw [if_pos h1, if_pos h2, w1, if_neg (by omega), ra, wa, wa2]
      unfold spec_l1Encode.j1
      rw [w2, if_neg (by omega), show a * 65536 + 0 * 256 + 0 = a * 65536 by omega]
      exact spec_l1Encode.j2_eq k L x3 i 1 (a * 65536) hb hi (by omega) (by omega) hx
theorem spec_l1Encode.l0_eq (L : List Int) (hb : L.length ≤ 1048576) (hB : ∀ x ∈ L, 0 ≤ x ∧ x ≤ 255) : ∀ (n k i : Nat) (x3 : List Int), L.length ≤ i + n → L.length + 3 ≤ k + i → i ≤ L.length + 2 → x3.length ≤ 2 * i → spec_l1Encode.l0 k L x3 (i : Int) = some (strOfNums (x3 ++ impl_baseText.q (L.drop i))) := by
  intro n
  induction n using Nat.strongRecOn with
  | _ n ih =>
    intro k i x3 hn hk hi hx
    by_cases h : i < L.length
    · obtain ⟨k, rfl⟩ : ∃ m, k = m + 3 := ⟨k - 3, by omega⟩
      obtain ⟨four, h1, h2, h3⟩ := spec_l1Encode.one k L x3 i hb hB h (by omega)
      rw [h3, h1]
      rw [ih (n - 1) (by omega) k (i + 3) (x3 ++ four) (by omega) (by omega) (by omega) (by simp; omega), List.append_assoc]
    · obtain ⟨k, rfl⟩ : ∃ m, k = m + 1 := ⟨k - 1, by omega⟩
      have h1 : ¬ ((i : Int) < (L.length : Int)) := by omega
      unfold spec_l1Encode.l0
      rw [if_neg h1, List.drop_eq_nil_of_le (by omega)]
      simp [impl_baseText.q]
theorem spec_l1Encode_eq (L : List Int) (k : Nat) (hb : L.length ≤ 1048576) (hB : ∀ x ∈ L, 0 ≤ x ∧ x ≤ 255) (hk : L.length + 3 ≤ k) : spec_l1Encode.f k L = some (strOfNums (impl_baseText.q L)) := by
  unfold spec_l1Encode.f
  have := spec_l1Encode.l0_eq L hb hB L.length k 0 [] (by omega) (by omega) (by omega) (by simp)
  simpa using this
theorem impl_baseText_eq (L : List Int) (hb : L.length ≤ 1000000) (hB : ∀ x ∈ L, 0 ≤ x ∧ x ≤ 255) : impl_baseText.f L = some (strOfNums (impl_baseText.q L)) := by
  have hall : L.all (fun x => decide (0 ≤ x ∧ x ≤ 255)) = true := by
    rw [List.all_eq_true]; intro x hx; exact decide_eq_true (hB x hx)
  unfold impl_baseText.f
  rw [if_pos ⟨hb, hall⟩]
theorem encB_bytes (a c : Int) : ∀ x ∈ encB a c, 0 ≤ x ∧ x ≤ 255 := by
  intro x hx
  unfold encB at hx
  repeat' split at hx
  all_goals simp only [List.mem_cons, List.mem_nil_iff, or_false] at hx
  all_goals omega
theorem u8_eq (x c : Int) (hx : 0 ≤ x ∧ x ≤ 255) (hc : 0 ≤ c ∧ c ≤ 255) : (UInt8.ofNat x.toNat == c.toNat.toUInt8) = decide (x = c) := by
  rw [Bool.eq_iff_iff, beq_iff_eq, decide_eq_true_eq]
  constructor
  · intro h
    have h2 := congrArg UInt8.toNat h
    rw [UInt8.toNat_ofNat_of_lt' (by show x.toNat < 256; omega)] at h2
    rw [show c.toNat.toUInt8.toNat = c.toNat from UInt8.toNat_ofNat_of_lt' (by show c.toNat < 256; omega)] at h2
    omega
  · intro h
    subst h
    rfl
theorem within_eq (a b c : Int) : impl_within.f a b c = some (decide (b ≤ a ∧ a ≤ c)) := by
  unfold impl_within.f; by_cases h : a ≥ b <;> simp [h] <;> omega
def plW (x : Int) : Bool := decide (32 ≤ x ∧ x ≤ 126)
def pairB : Int → List Int → Bool
  | _, [] => true
  | p, x :: r => plW x && !(decide (p = 61) && decide (x = 63)) && pairB x r
def has2 : List Int → Bool
  | [] => false
  | x :: r => (decide (x = 61) && decide (r.head? = some 63)) || has2 r
theorem pairB_eq : ∀ (l : List Int) (p : Int), pairB p l = (l.all plW && !(has2 (p :: l)))
  | [], p => by simp [pairB, has2]
  | x :: r, p => by
    rw [pairB, pairB_eq r x, List.all_cons]
    have h : has2 (p :: x :: r) = ((decide (p = 61) && decide (x = 63)) || has2 (x :: r)) := by
      conv => lhs; rw [has2]
      simp
    rw [h]
    cases plW x <;> cases (decide (p = 61) && decide (x = 63)) <;> cases r.all plW <;> cases has2 (x :: r) <;> rfl
def u8s (L : List Int) : List UInt8 := L.map fun n => UInt8.ofNat n.toNat
theorem data_strOfNums (L : List Int) : (strOfNums L).data.toList = u8s L := by simp [strOfNums, u8s]
theorem contains_has2 : ∀ (L : List Int), (∀ x ∈ L, 0 ≤ x ∧ x ≤ 255) → Lib.contains (u8s L) [61, 63] = has2 L
  | [], _ => rfl
  | x :: r, h => by
    have ih := contains_has2 r (fun y hy => h y (List.mem_cons_of_mem _ hy))
    have hx := u8_eq x 61 (h x (List.mem_cons_self ..)) (by omega)
    have hb : u8s (x :: r) = UInt8.ofNat x.toNat :: u8s r := rfl
    have hp : ([61, 63] : List UInt8).isPrefixOf (UInt8.ofNat x.toNat :: u8s r) = (decide (x = 61) && decide (r.head? = some 63)) := by
      rw [List.isPrefixOf]
      have h1 : ((61 : UInt8) == UInt8.ofNat x.toNat) = decide (x = 61) := by
        rw [← hx, Bool.eq_iff_iff, beq_iff_eq, beq_iff_eq]
        exact ⟨fun e => e.symm, fun e => e.symm⟩
      rw [h1]
      congr 1
      cases r with
      | nil => rfl
      | cons y t =>
        have hy := u8_eq y 63 (h y (by simp)) (by omega)
        show ((63 : UInt8) == UInt8.ofNat y.toNat && true) = _
        have h2 : ((63 : UInt8) == UInt8.ofNat y.toNat) = decide (y = 63) := by
          rw [← hy, Bool.eq_iff_iff, beq_iff_eq, beq_iff_eq]
          exact ⟨fun e => e.symm, fun e => e.symm⟩
        rw [h2, Bool.and_true]
        simp
    unfold Lib.contains at ih ⊢
    have hge := Lib.index_ge (u8s r) [61, 63]
    rw [hb, Lib.index, hp, has2, ← ih]
    cases (decide (x = 61) && decide (r.head? = some 63)) with
    | true => rfl
    | false =>
      rw [if_neg (by simp), Bool.false_or]
      by_cases c : Lib.index (u8s r) [61, 63] = -1
      · rw [if_pos (by rw [c]; rfl), c]
      · rw [if_neg (by simpa using c)]
        congr 1
        apply propext
        constructor <;> intro _ <;> omega
theorem spec_l4Self.l0_eq (L : List Int) (hb : L.length ≤ 1048576) : ∀ (n k i : Nat), L.length = i + n → n < k → spec_l4Self.l0 k L (i : Int) = some (pairB (if i = 0 then 0 else rd L ((i - 1 : Nat) : Int)) (L.drop i))
  | _, 0, _, _, h => absurd h (by omega)
  | 0, k + 1, i, hi, _ => by
    have h1 : ¬ ((i : Int) < (L.length : Int)) := by omega
    rw [spec_l4Self.l0, if_neg h1, List.drop_eq_nil_of_le (by omega)]
    rfl
  | n + 1, k + 1, i, hi, h => by
    have hlt : i < L.length := by omega
    have h1 : (i : Int) < (L.length : Int) := by omega
    have h2 : (0 : Int) ≤ (i : Int) := by omega
    have ih := spec_l4Self.l0_eq L hb n k (i + 1) (by omega) (by omega)
    rw [if_neg (by omega), Nat.add_sub_cancel] at ih
    rw [spec_l4Self.l0, if_pos h1, if_pos h2, in_eq, Option.bind_some, List.drop_eq_getElem_cons hlt, pairB, ← rd_at L i hlt]
    have w1 : wrap64 ((i : Int) + 1) = ((i + 1 : Nat) : Int) := by rw [wrap64_in (by omega)]; omega
    rw [w1, ih]
    unfold plW
    by_cases c : 32 ≤ rd L (i : Int) ∧ rd L (i : Int) ≤ 126
    · rw [decide_eq_true c, if_pos rfl, Bool.true_and]
      by_cases g : i = 0
      · rw [if_neg (by omega), if_pos g]; rfl
      · have w2 : wrap64 ((i : Int) - 1) = ((i - 1 : Nat) : Int) := by rw [wrap64_in (by omega)]; omega
        have g1 : (i : Int) > 0 := by omega
        have g2 : (0 : Int) ≤ ((i - 1 : Nat) : Int) := by omega
        have g3 : ((i - 1 : Nat) : Int) < (L.length : Int) := by omega
        rw [w2, if_pos g1, if_pos g2, if_pos g3, if_neg g]
        by_cases e1 : rd L ((i - 1 : Nat) : Int) = 61 <;> by_cases e2 : rd L (i : Int) = 63 <;> simp [e1, e2]
    · rw [decide_eq_false c]; rfl
theorem spec_l4Self_eq (L : List Int) (hb : L.length ≤ 1048576) (k : Nat) (hk : L.length < k) : spec_l4Self.f k L = some (L.all plW && !(has2 L)) := by
  unfold spec_l4Self.f
  have := spec_l4Self.l0_eq L hb L.length k 0 (by omega) hk
  rw [show ((0 : Nat) : Int) = 0 from rfl, if_pos rfl, List.drop_zero, pairB_eq] at this
  rw [this]
  congr 3
def wrapW (F : List Int) : ByteArray := ((⟨#[61, 63, 117, 116, 102, 45, 56, 63, 66, 63]⟩ : ByteArray) ++ strOfNums (impl_baseText.q F)) ++ (⟨#[63, 61]⟩ : ByteArray)
def outW (F : List Int) (b : Bool) : Int × ByteArray := if b = true then (0, strOfNums F) else if ((strOfNums F).size : Int) > 400 then (2, (⟨#[]⟩ : ByteArray)) else if ((wrapW F).size : Int) > 400 then (2, (⟨#[]⟩ : ByteArray)) else (0, wrapW F)
theorem q_len : ∀ (n : Nat) (L : List Int), L.length ≤ n → (impl_baseText.q L).length ≤ 4 * L.length + 4 := by
  intro n
  induction n using Nat.strongRecOn with
  | _ n ih =>
    intro L h
    match L, h with
    | [], _ => simp [impl_baseText.q]
    | [a], _ => simp [impl_baseText.q]
    | [a, b], _ => simp [impl_baseText.q]
    | a :: b :: c :: r, h =>
      simp only [List.length_cons] at h
      have := ih r.length (by omega) r (Nat.le_refl _)
      simp only [impl_baseText.q, List.length_cons]
      omega
theorem flat_bytes (a : Int) (l : List Int) : ∀ x ∈ l.flatMap (encB a), 0 ≤ x ∧ x ≤ 255 := by
  intro x hx
  obtain ⟨c, _, hc⟩ := List.mem_flatMap.1 hx
  exact encB_bytes a c x hc
theorem wrap_sz (F : List Int) (hF : F.length ≤ 1000000) : 10 + (strOfNums (impl_baseText.q F)).size ≤ 9223372036854775807 ∧ ((⟨#[61, 63, 117, 116, 102, 45, 56, 63, 66, 63]⟩ : ByteArray) ++ strOfNums (impl_baseText.q F)).size + 2 ≤ 9223372036854775807 := by
  have hq := q_len F.length F (Nat.le_refl _)
  have h1 : (⟨#[61, 63, 117, 116, 102, 45, 56, 63, 66, 63]⟩ : ByteArray).size = 10 := rfl
  rw [ByteArray.size_append, h1, strOfNums_size]
  omega
theorem impl_EncodeWords.j1_eq (F : List Int) (hF : F.length ≤ 1000000) (hB : ∀ x ∈ F, 0 ≤ x ∧ x ≤ 255) (k : Nat) (b : Bool) : impl_EncodeWords.j1 (k + 1) (strOfNums F) b = some (outW F b) := by
  obtain ⟨z1, z2⟩ := wrap_sz F hF
  rw [impl_EncodeWords.j1]
  unfold outW
  by_cases hb : b = true
  · rw [if_pos hb, if_pos hb]
  · rw [if_neg hb, if_neg hb]
    by_cases c : ((strOfNums F).size : Int) > 400
    · rw [if_pos c, if_pos c]
    · rw [if_neg c, if_neg c, if_pos (by rw [strOfNums_size]; omega), bytesOf_strOfNums F hB, impl_baseText_eq F hF hB, Option.bind_some, if_pos z1, if_pos z2]
      show (if ((wrapW F).size : Int) > 400 then some ((2 : Int), (⟨#[]⟩ : ByteArray)) else some (0, wrapW F)) = _
      split <;> rfl
theorem impl_EncodeWords.l0_eq (F : List Int) (hF : F.length ≤ 1000000) (hB : ∀ x ∈ F, 0 ≤ x ∧ x ≤ 255) (L : List Int) (hb : L.length ≤ 1048576) : ∀ (n k i : Nat) (b : Bool), L.length = i + n → n + 1 < k → impl_EncodeWords.l0 k b (strOfNums F) L (L.length : Int) (i : Int) = some (outW F (b && (L.drop i).all plW && !(has2 F)))
  | _, 0, _, _, _, h => absurd h (by omega)
  | 0, k + 1, i, b, hi, h => by
    have h1 : ¬ ((i : Int) < (L.length : Int)) := by omega
    obtain ⟨k, rfl⟩ : ∃ m, k = m + 1 := ⟨k - 1, by omega⟩
    rw [impl_EncodeWords.l0, if_neg h1, List.drop_eq_nil_of_le (by omega)]
    have hs : (strOfNums F).size < 4294967281 := by rw [strOfNums_size]; omega
    have hc : strings_Contains.f (strOfNums F) (⟨#[61, 63]⟩ : ByteArray) = some (has2 F) := by
      unfold strings_Contains.f
      rw [if_pos hs, ← contains_has2 F hB, data_strOfNums]
    cases b with
    | true => rw [if_pos rfl, hc, Option.bind_some, impl_EncodeWords.j1_eq F hF hB]; simp
    | false => rw [if_neg (by decide), impl_EncodeWords.j1_eq F hF hB]; simp
  | n + 1, k + 1, i, b, hi, h => by
    have hlt : i < L.length := by omega
    have h1 : (i : Int) < (L.length : Int) := by omega
    have h2 : (0 : Int) ≤ (i : Int) := by omega
    have w1 : wrap64 ((i : Int) + 1) = ((i + 1 : Nat) : Int) := by rw [wrap64_in (by omega)]; omega
    have ih := impl_EncodeWords.l0_eq F hF hB L hb n k (i + 1)
    rw [impl_EncodeWords.l0, if_pos h1, if_pos h2, if_pos h1, w1, within_eq, Option.bind_some, List.drop_eq_getElem_cons hlt, List.all_cons, ← rd_at L i hlt]
    cases b with
    | true => rw [if_pos rfl, ih _ (by omega) (by omega)]; rfl
    | false => rw [if_neg (by decide), ih _ (by omega) (by omega)]; simp
theorem flat_plain : ∀ (l : List Int), l.all plW = true → l.flatMap (encB 4) = l
  | [], _ => rfl
  | x :: r, h => by
    rw [List.all_cons, Bool.and_eq_true] at h
    have hx : 32 ≤ x ∧ x ≤ 126 := of_decide_eq_true h.1
    rw [List.flatMap_cons, flat_plain r h.2]
    have : encB 4 x = [x] := by
      unfold encB
      rw [if_neg (by decide), if_neg (by decide), if_neg (by decide), if_pos (by omega), show x % 256 = x by omega]
    rw [this]
    rfl
theorem out_short (F : List Int) (b : Bool) (hb : b = true → F.length ≤ 400) : outW F b = if 400 < F.length then (2, (⟨#[]⟩ : ByteArray)) else if b = true then (0, strOfNums F) else if ((wrapW F).size : Int) > 400 then (2, (⟨#[]⟩ : ByteArray)) else (0, wrapW F) := by
  unfold outW
  rw [strOfNums_size]
  by_cases c : 400 < F.length
  · rw [if_neg (fun e => by have := hb e; omega), if_pos (by omega), if_pos c]
  · rw [if_neg c]
    by_cases e : b = true
    · rw [if_pos e, if_pos e]
    · rw [if_neg e, if_neg e, if_neg (by omega)]
def ewo (l : List Int) : Int × ByteArray := if fault l = 0 then outW (l.flatMap (encB 4)) (l.all plW && !(has2 (l.flatMap (encB 4)))) else (fault l, (⟨#[]⟩ : ByteArray))
theorem impl_EncodeWords_eq (l : List Int) (k : Nat) (hb : l.length ≤ 1048576) (hk : l.length + 8 < k) : impl_EncodeWords.f k l = some (ewo l) := by
  unfold impl_EncodeWords.f ewo
  rw [impl_CodesFault_eq, Option.bind_some]
  change (if fault l = 0 then _ else some (fault l, _)) = _
  by_cases hf : fault l = 0
  · rw [if_pos hf, if_pos hf]
    obtain ⟨hl, hch⟩ := fault_zero hf
    have hL : ∀ x ∈ l, 0 ≤ x ∧ x ≤ 65535 := fun x hx => by have := (charB_iff x).1 (hch x hx); omega
    have hfl := flat_len 4 l
    rw [impl_encodeChars_eq 4 (by decide) l hL k hb (by omega), Option.bind_some]
    have := impl_EncodeWords.l0_eq (l.flatMap (encB 4)) (by omega) (flat_bytes 4 l) l hb l.length k 0 true (by omega) (by omega)
    rw [List.drop_zero, Bool.true_and] at this
    exact this
  · rw [if_neg hf, if_neg hf]
theorem spec_EncodeWords_eq (l : List Int) (k : Nat) (hb : l.length ≤ 1048576) (hk : 4 * l.length + 12 < k) : spec_EncodeWords.f k l = some (ewo l) := by
  unfold spec_EncodeWords.f ewo
  rw [spec_l2Fault_eq l k (by unfold maxLen; omega) (by omega), Option.bind_some]
  change (if fault l = 0 then _ else some (fault l, _)) = _
  by_cases hf : fault l = 0
  · rw [if_pos hf, if_pos hf]
    obtain ⟨hl, hch⟩ := fault_zero hf
    have hfl := flat_len 4 l
    have hsh : (l.all plW && !(has2 (l.flatMap (encB 4)))) = true → (l.flatMap (encB 4)).length ≤ 400 := by
      intro e
      rw [Bool.and_eq_true] at e
      rw [flat_plain l e.1]
      exact hl
    have hself : (l.all plW && !(has2 l)) = (l.all plW && !(has2 (l.flatMap (encB 4)))) := by
      cases e : l.all plW with
      | false => rfl
      | true => rw [flat_plain l e]
    have he := spec_l2Encode.l0_eq 4 (by decide) l hb l.length k 0 [] (by omega) (by omega) (by simp; omega)
    rw [show ((0 : Nat) : Int) = 0 from rfl, List.drop_zero] at he
    have hall : l.all (hasB 4) = true := by rw [List.all_eq_true]; intro x _; rfl
    have hec : spec_l2Encode.f k 4 l = some (if 400 < (l.flatMap (encB 4)).length then ([], 2) else (l.flatMap (encB 4), 0)) := by
      unfold spec_l2Encode.f
      rw [he]
      unfold enco
      rw [if_pos hall, List.nil_append]
    rw [out_short _ _ hsh]
    unfold spec_l4Encode.f
    rw [hec, Option.bind_some]
    have hB := flat_bytes 4 l
    generalize l.flatMap (encB 4) = F at *
    by_cases c : 400 < F.length
    · rw [if_pos c, if_pos c]; rfl
    · obtain ⟨z1, z2⟩ := wrap_sz F (by omega)
      rw [if_neg c, if_neg c, spec_l4Self_eq l hb k (by omega), hself]
      show ((if (0 : Int) = 0 then _ else _) : Option (ByteArray × Int)).bind _ = _
      rw [if_pos rfl, Option.bind_some]
      cases (l.all plW && !(has2 F)) with
      | true => rw [if_pos rfl, if_pos rfl]; rfl
      | false =>
        rw [if_neg (by decide), if_neg (by decide)]
        show ((spec_l1Encode.f k F).bind _).bind _ = _
        rw [spec_l1Encode_eq F k (by omega) hB (by omega), Option.bind_some, if_pos z1, if_pos z2]
        show (if ((wrapW F).size : Int) > 400 then some ((⟨#[]⟩ : ByteArray), (2 : Int)) else some (wrapW F, 0)).bind _ = _
        split <;> rfl
  · rw [if_neg hf, if_neg hf]
theorem FnExactEncodeWords : laws_FnExactEncodeWords.Pure := by
  intro l hb hb2 hw
  obtain ⟨k, hk⟩ : ∃ k, 4 * l.length + 12 < k := ⟨_, Nat.lt_succ_self _⟩
  refine ⟨k, ?_⟩
  unfold laws_FnExactEncodeWords.f
  by_cases hl : (l.length : Int) > 1048576
  · rw [if_pos hl]
  · rw [if_neg hl]
    have e1 := laws_toInt64S_eq l k hb (by omega) (by omega)
    have e2 := laws_eqInt64S_eq l k hb (by omega)
    have e3 := spec_EncodeWords_eq l k (by omega) (by omega)
    have e4 := impl_EncodeWords_eq l k (by omega) (by omega)
    simp [e1, e2, e3, e4, laws_eqTextResult.f]

end Go.Proofs.Ytjopgmjmjnfcjaa.Pure
