/- The plain law: what the walk computes answers as the statement says. -/
import Derived.Test.YtjopgmjmjnfcjaaPFnCharsetsx6
namespace Go.Proofs.Ytjopgmjmjnfcjaa.Pure
open Go.RowKit Go.Proofs.Ytjopgmjmjnfcjaa.PFnCharsets Go.Proofs.YtjopgmjmjnfcjaaW.PrintWords Go.Proofs.YtjopgmjmjnfcjaaW.PrintLast
set_option linter.unusedSimpArgs false
set_option linter.unusedVariables false
theorem in_eq (a b c : Int) : spec_l1In.f a b c = some (decide (b ≤ a ∧ a ≤ c)) := by
  unfold spec_l1In.f; by_cases h : a ≥ b <;> simp [h] <;> omega
theorem rd_at (l : List Int) (i : Nat) (h : i < l.length) : rd l (i : Int) = l[i] := by
  simp [rd, List.getD_eq_getElem?_getD, h]
theorem wrap64_in {n : Int} (h : -9223372036854775808 ≤ n ∧ n ≤ 9223372036854775807) : wrap64 n = n := by
  unfold wrap64; omega
theorem maxLen_le : maxLen ≤ 9223372036854775807 := by unfold maxLen; decide
def Cyr (c : Int) : Prop := (0 ≤ c ∧ c ≤ 160) ∨ c = 173 ∨ c = 167 ∨ c = 8470 ∨ ((1025 ≤ c ∧ c ≤ 1119) ∧ c ≠ 1037 ∧ c ≠ 1104 ∧ c ≠ 1117)
instance (c : Int) : Decidable (Cyr c) := by unfold Cyr; infer_instance
def cyrV (c : Int) : Int := if (0 ≤ c ∧ c ≤ 160) ∨ c = 173 then c else if c = 167 then 253 else if c = 8470 then 240 else c - 864
theorem cyr (k : Nat) (c : Int) : ∃ v, spec_l2Cyrillic.f (k + 1) c = some v ∧ (v ≥ 0 ↔ Cyr c) ∧ (Cyr c → v = cyrV c) := by
  simp only [spec_l2Cyrillic.f, spec_l2Cyrillic.j0, in_eq, Option.bind_some, decide_eq_true_eq, beq_iff_eq, if_true]
  unfold wrap64 Cyr cyrV
  by_cases h1 : 0 ≤ c ∧ c ≤ 160
  · rw [if_pos h1, if_pos (Or.inl h1)]; refine ⟨c, rfl, ?_, fun _ => rfl⟩; omega
  · rw [if_neg h1]
    by_cases h2 : c = 173
    · rw [if_pos h2, if_pos (Or.inr h2)]; refine ⟨c, rfl, ?_, fun _ => rfl⟩; omega
    · rw [if_neg h2, if_neg (show ¬ ((0 ≤ c ∧ c ≤ 160) ∨ c = 173) by omega)]
      repeat' split
      all_goals refine ⟨_, rfl, ?_, ?_⟩
      all_goals omega
def hasB (a c : Int) : Bool := if a = 1 then decide (0 ≤ c ∧ c ≤ 127) else if a = 2 then decide (0 ≤ c ∧ c ≤ 255) else if a = 3 then decide (Cyr c) else true
theorem spec_l2Has_eq (k : Nat) (a c : Int) : spec_l2Has.f (k + 1) a c = some (hasB a c) := by
  obtain ⟨v, hv, hp, _⟩ := cyr k c
  simp only [spec_l2Has.f, in_eq, hv, Option.bind_some, hasB]
  repeat' split
  all_goals simp [hp]
theorem within_eq (a b c : Int) : impl_within.f a b c = some (decide (b ≤ a ∧ a ≤ c)) := by
  unfold impl_within.f; by_cases h : a ≥ b <;> simp [h] <;> omega
def charB (c : Int) : Bool := decide (0 ≤ c ∧ c ≤ 55295) || decide (57344 ≤ c ∧ c ≤ 65535)
theorem charB_iff (c : Int) : charB c = true ↔ (0 ≤ c ∧ c ≤ 55295) ∨ (57344 ≤ c ∧ c ≤ 65535) := by
  simp [charB]
theorem impl_isChar_eq (c : Int) : impl_isChar.f c = some (charB c) := by
  simp only [impl_isChar.f, within_eq, Option.bind_some]
  have hr : charB c = (decide (0 ≤ c ∧ c ≤ 65535) && !decide (55296 ≤ c ∧ c ≤ 57343)) := by
    rw [Bool.eq_iff_iff]; simp only [charB, Bool.and_eq_true, Bool.or_eq_true, Bool.not_eq_true', decide_eq_true_eq, decide_eq_false_iff_not]; omega
  rw [hr]
  generalize decide (0 ≤ c ∧ c ≤ 65535) = x
  cases x <;> simp
theorem impl_HasChar.j0_eq (k : Nat) (a c : Int) (h0 : 0 ≤ c) : impl_HasChar.j0 (k + 1) a c false = some (hasB a c) := by
  simp only [impl_HasChar.j0, within_eq, Option.bind_some, decide_eq_true_eq, Bool.false_eq_true, if_false, hasB]
  by_cases h1 : a = 1
  · simp [h1, h0]
  by_cases h2 : a = 2
  · simp [h2, h0]
  by_cases h3 : a = 3
  · simp only [h1, h2, h3, if_true, if_false]
    simp only [show ¬ ((3 : Int) = 1) by decide, show ¬ ((3 : Int) = 2) by decide, if_false]
    repeat' split
    all_goals (refine congrArg some ?_; rw [Bool.eq_iff_iff]; simp only [decide_eq_true_eq, beq_iff_eq, true_iff]; unfold Cyr; omega)
  · simp [h1, h2, h3]
theorem impl_isCharset_eq (a : Int) : impl_isCharset.f a = some (decide (1 ≤ a ∧ a ≤ 5)) := by
  simp only [impl_isCharset.f, within_eq, Option.bind_some]
theorem impl_HasChar_eq (k : Nat) (a c : Int) : impl_HasChar.f (k + 1) a c = some (charB c && (decide (1 ≤ a ∧ a ≤ 5) && hasB a c)) := by
  simp only [impl_HasChar.f, impl_isChar_eq, impl_isCharset_eq, Option.bind_some]
  cases hc : charB c with
  | false => simp [impl_HasChar.j0]
  | true =>
    have h0 : 0 ≤ c := by have := (charB_iff c).1 hc; omega
    rw [if_pos rfl]
    cases hd : decide (1 ≤ a ∧ a ≤ 5) with
    | false => simp [impl_HasChar.j0]
    | true => rw [Bool.not_true, impl_HasChar.j0_eq k a c h0]; rfl
/-- The bytes of a char in a charset, as a plain law. -/
def encB (a c : Int) : List Int :=
  if a = 1 ∨ a = 2 then [c % 256] else if a = 3 then [cyrV c % 256] else if a = 5 then [(wrap64 (Int.tdiv c 256)) % 256, (Int.tmod c 256) % 256]
  else if c < 128 then [c % 256] else if c < 2048 then [(wrap64 (192 + (wrap64 (Int.tdiv c 64)))) % 256, (wrap64 (128 + (Int.tmod c 64))) % 256]
  else [(wrap64 (224 + (wrap64 (Int.tdiv c 4096)))) % 256, (wrap64 (128 + (Int.tmod (wrap64 (Int.tdiv c 64)) 64))) % 256, (wrap64 (128 + (Int.tmod c 64))) % 256]
theorem encB_len (a c : Int) : (encB a c).length ≤ 3 := by
  unfold encB
  repeat' split
  all_goals simp
theorem flat_len (a : Int) : ∀ l : List Int, (l.flatMap (encB a)).length ≤ 3 * l.length
  | [] => by simp
  | x :: xs => by
    have h1 := flat_len a xs
    have h2 := encB_len a x
    rw [List.flatMap_cons, List.length_append, List.length_cons]
    omega
theorem impl_encodeChar_eq (k : Nat) (a c : Int) (ha : 1 ≤ a ∧ a ≤ 5) (h0 : 0 ≤ c ∧ c ≤ 65535) : impl_encodeChar.f (k + 3) a c = some (encB a c) := by
  unfold impl_encodeChar.f encB
  have : a = 1 ∨ a = 2 ∨ a = 3 ∨ a = 4 ∨ a = 5 := by omega
  rcases this with rfl | rfl | rfl | rfl | rfl
  · simp [impl_encodeChar.j0, impl_encodeChar.j1, impl_encodeChar.j2]
  · simp [impl_encodeChar.j0, impl_encodeChar.j1, impl_encodeChar.j2]
  · have hw : wrap64 (c - 864) = c - 864 := wrap64_in (by omega)
    have h0' := h0.1
    by_cases h1 : c ≤ 160
    · simp [impl_encodeChar.j0, impl_encodeChar.j1, impl_encodeChar.j2, cyrV, h1, h0']
    · by_cases h2 : c = 173
      · simp [impl_encodeChar.j0, impl_encodeChar.j1, impl_encodeChar.j2, cyrV, h2]
      · by_cases h3 : c = 167
        · simp [impl_encodeChar.j0, impl_encodeChar.j1, impl_encodeChar.j2, cyrV, h3]
        · by_cases h4 : c = 8470
          · simp [impl_encodeChar.j0, impl_encodeChar.j1, impl_encodeChar.j2, cyrV, h4]
          · simp [impl_encodeChar.j0, impl_encodeChar.j1, impl_encodeChar.j2, cyrV, h1, h2, h3, h4, hw]
  · by_cases h1 : c < 128
    · have h2 : ¬ (128 ≤ c) := by omega
      have h3 : ¬ (2048 ≤ c) := by omega
      simp [impl_encodeChar.j0, impl_encodeChar.j1, impl_encodeChar.j2, impl_encodeChar_1.f, h1, h2, h3]
    · have h2 : 128 ≤ c := by omega
      by_cases h4 : c < 2048
      · have h3 : ¬ (2048 ≤ c) := by omega
        simp [impl_encodeChar.j0, impl_encodeChar.j1, impl_encodeChar.j2, impl_encodeChar_1.f, h1, h2, h3, h4]
      · have h3 : 2048 ≤ c := by omega
        simp [impl_encodeChar.j0, impl_encodeChar.j1, impl_encodeChar.j2, impl_encodeChar_1.f, h1, h2, h3, h4]
  · simp
theorem encB_bytes (a c : Int) : ∀ x ∈ encB a c, 0 ≤ x ∧ x ≤ 255 := by
  intro x hx
  unfold encB at hx
  repeat' split at hx
  all_goals simp only [List.mem_cons, List.mem_nil_iff, or_false] at hx
  all_goals omega
theorem byte_inj : ∀ (t u : List Int), (∀ x ∈ t, 0 ≤ x ∧ x ≤ 255) → (∀ x ∈ u, 0 ≤ x ∧ x ≤ 255) → (t.map (fun n => UInt8.ofNat n.toNat) = u.map (fun n => UInt8.ofNat n.toNat) ↔ t = u)
  | [], [], _, _ => by simp
  | [], _ :: _, _, _ => by simp
  | _ :: _, [], _, _ => by simp
  | x :: xs, y :: ys, ht, hu => by
    have h1 := ht x (by simp)
    have h2 := hu y (by simp)
    have ih := byte_inj xs ys (fun z hz => ht z (by simp [hz])) (fun z hz => hu z (by simp [hz]))
    rw [List.map_cons, List.map_cons, List.cons.injEq, List.cons.injEq, ih]
    have e : UInt8.ofNat x.toNat = UInt8.ofNat y.toNat ↔ x = y := by
      constructor
      · intro h
        have := congrArg UInt8.toNat h
        rw [UInt8.toNat_ofNat', UInt8.toNat_ofNat'] at this
        omega
      · rintro rfl; rfl
    rw [e]
theorem bytes_Equal_eq (t u : List Int) (ht : ∀ x ∈ t, 0 ≤ x ∧ x ≤ 255) (hu : ∀ x ∈ u, 0 ≤ x ∧ x ≤ 255) : bytes_Equal.f t u = some (decide (t = u)) := by
  unfold bytes_Equal.f
  rw [Go.ByteArray.toList_eq, Go.ByteArray.toList_eq]
  congr 1
  rw [Bool.eq_iff_iff, beq_iff_eq, decide_eq_true_eq]
  exact byte_inj t u ht hu
def cy (cs b : Int) : Int := if cs = 3 then (if b = 253 then 167 else if b = 240 then 8470 else if b > 160 ∧ b ≠ 173 then b + 864 else b) else b
def moreD : List Int → Int
  | [] => -1
  | y :: _ => if 128 ≤ y ∧ y ≤ 191 then y - 128 else -1
/-- The first character of bytes, as a plain law. -/
def oneF (cs b : Int) (r : List Int) : Int × Int :=
  if cs = 4 then (if b < 128 then (b, 1) else if 194 ≤ b ∧ b < 224 ∧ 0 ≤ moreD r then ((b - 192) * 64 + moreD r, 2)
    else if 224 ≤ b ∧ b < 240 ∧ 0 ≤ moreD r ∧ 0 ≤ moreD r.tail ∧ 2048 ≤ (b - 224) * 4096 + moreD r * 64 + moreD r.tail ∧ charB ((b - 224) * 4096 + moreD r * 64 + moreD r.tail) = true then ((b - 224) * 4096 + moreD r * 64 + moreD r.tail, 3) else (0, 0))
  else if cs = 5 then (match r with | [] => (0, 0) | b1 :: _ => if charB (b * 256 + b1) = true then (b * 256 + b1, 2) else (0, 0))
  else if hasB cs (cy cs b) = true then (cy cs b, 1) else (0, 0)
theorem j6_eq (k : Nat) (a : Int) (x1 : List Int) (n : Nat) (c : Int) (ha : 1 ≤ a ∧ a ≤ 5) (hx : ∀ x ∈ x1, 0 ≤ x ∧ x ≤ 255) (hn : n ≤ x1.length) (h0 : 0 ≤ c ∧ c ≤ 65535) : impl_firstChar.j6 (k + 4) a x1 (n : Int) c = some (if (charB c && hasB a c && decide (encB a c = x1.take n)) = true then (c, (n : Int)) else (0, 0)) := by
  rw [impl_firstChar.j6, impl_HasChar_eq (k + 2), Option.bind_some, impl_encodeChar_eq k a c ha h0, Option.bind_some, if_pos (show (0 : Int) ≤ (n : Int) by omega), if_pos (show (n : Int) ≤ (x1.length : Int) by omega), Int.toNat_natCast, bytes_Equal_eq _ _ (encB_bytes a c) (fun x h => hx x (List.mem_of_mem_take h)), Option.bind_some, decide_eq_true ha, Bool.true_and]
  cases charB c <;> cases hasB a c <;> simp
  split <;> rfl
theorem single_ok : ∀ cs : Fin 3, ∀ b : Fin 256, (charB (cy ((cs.val : Int) + 1) (b.val : Int)) && hasB ((cs.val : Int) + 1) (cy ((cs.val : Int) + 1) (b.val : Int)) && decide (encB ((cs.val : Int) + 1) (cy ((cs.val : Int) + 1) (b.val : Int)) = [(b.val : Int)])) = hasB ((cs.val : Int) + 1) (cy ((cs.val : Int) + 1) (b.val : Int)) := by decide +kernel
theorem single_eq (cs b : Int) (hc : 1 ≤ cs ∧ cs ≤ 3) (hb : 0 ≤ b ∧ b ≤ 255) : (charB (cy cs b) && hasB cs (cy cs b) && decide (encB cs (cy cs b) = [b])) = hasB cs (cy cs b) := by
  have := single_ok ⟨(cs - 1).toNat, by omega⟩ ⟨b.toNat, by omega⟩
  have e : (((cs - 1).toNat : Nat) : Int) + 1 = cs := by omega
  simpa only [e, Int.toNat_of_nonneg hb.1] using this
theorem cy_in (cs b : Int) (hb : 0 ≤ b ∧ b ≤ 255) : 0 ≤ cy cs b ∧ cy cs b ≤ 65535 := by
  unfold cy
  repeat' split
  all_goals omega
theorem firstChar_low (k : Nat) (cs b : Int) (r : List Int) (hc : 1 ≤ cs ∧ cs ≤ 3) (hb : ∀ x ∈ b :: r, 0 ≤ x ∧ x ≤ 255) : impl_firstChar.f (k + 12) cs (b :: r) = some (oneF cs b r) := by
  have hb0 := hb b (by simp)
  have w0 : wrap64 b = b := wrap64_in (by omega)
  have w8 : wrap64 (b + 864) = b + 864 := wrap64_in (by omega)
  have n4 : ¬ cs = 4 := by omega
  have n5 : ¬ cs = 5 := by omega
  have hl : ¬ ((1 : Int) > ((b :: r).length : Int)) := by rw [List.length_cons]; omega
  have hl0 : (0 : Int) < ((b :: r).length : Int) := by rw [List.length_cons]; omega
  have e6 : ∀ m, impl_firstChar.j6 (m + 4) cs (b :: r) 1 (cy cs b) = some (oneF cs b r) := by
    intro m
    have h := j6_eq m cs (b :: r) 1 (cy cs b) (by omega) hb (by simp) (cy_in cs b hb0)
    rw [show (b :: r).take 1 = [b] from rfl, single_eq cs b hc hb0] at h
    unfold oneF
    rw [if_neg n4, if_neg n5]
    exact h
  unfold impl_firstChar.f
  rw [if_pos hl0, if_neg n5, if_neg n4, show rd (b :: r) 0 = b from rfl, w0, impl_firstChar.j0]
  simp only [Bool.false_eq_true, if_false, if_neg n4]
  rw [impl_firstChar.j1, if_neg hl, if_neg n5, if_neg n4, impl_firstChar.j2]
  simp only [Bool.false_eq_true, if_false, if_neg n4]
  rw [impl_firstChar.j3]
  simp only [Bool.false_eq_true, if_false]
  by_cases h3 : cs = 3
  · subst h3
    rw [if_pos rfl, impl_firstChar.j4]
    by_cases b1 : b = 253
    · have := e6 (k + 3); rw [show cy 3 b = 167 by unfold cy; rw [if_pos rfl, if_pos b1]] at this
      rw [if_pos (by simpa using b1)]; exact this
    · have f1 : (b == 253) = false := by simpa using b1
      rw [f1]
      simp only [Bool.false_eq_true, if_false, if_true]
      rw [impl_firstChar.j5]
      by_cases b2 : b = 240
      · have := e6 (k + 2); rw [show cy 3 b = 8470 by unfold cy; rw [if_pos rfl, if_neg b1, if_pos b2]] at this
        rw [if_pos (by simpa using b2)]; exact this
      · have f2 : (b == 240) = false := by simpa using b2
        rw [f2]
        simp only [Bool.false_eq_true, if_false, if_true]
        have h6 := e6 (k + 2)
        by_cases b3 : b > 160
        · rw [if_pos b3]
          by_cases b4 : b = 173
          · rw [if_pos b4]
            rw [show cy 3 b = b by unfold cy; rw [if_pos rfl, if_neg b1, if_neg b2, if_neg (by omega)]] at h6
            exact h6
          · rw [if_neg b4, w8]
            rw [show cy 3 b = b + 864 by unfold cy; rw [if_pos rfl, if_neg b1, if_neg b2, if_pos ⟨b3, b4⟩]] at h6
            exact h6
        · rw [if_neg b3]
          rw [show cy 3 b = b by unfold cy; rw [if_pos rfl, if_neg b1, if_neg b2, if_neg (by omega)]] at h6
          exact h6
  · rw [if_neg h3, impl_firstChar.j4]
    simp only [Bool.false_eq_true, if_false, if_neg h3]
    rw [impl_firstChar.j5]
    simp only [Bool.false_eq_true, if_false, if_neg h3]
    have h6 := e6 (k + 2)
    rw [show cy cs b = b by unfold cy; rw [if_neg h3]] at h6
    exact h6
theorem firstChar_16 (k : Nat) (b : Int) (r : List Int) (hb : ∀ x ∈ b :: r, 0 ≤ x ∧ x ≤ 255) : impl_firstChar.f (k + 12) 5 (b :: r) = some (oneF 5 b r) := by
  have hb0 := hb b (by simp)
  have w0 : wrap64 b = b := wrap64_in (by omega)
  have hl0 : (0 : Int) < ((b :: r).length : Int) := by rw [List.length_cons]; omega
  unfold impl_firstChar.f oneF
  rw [if_pos hl0, if_pos rfl, show rd (b :: r) 0 = b from rfl, w0, impl_firstChar.j0, if_pos rfl, impl_firstChar.j1, if_neg (by decide : ¬ (5 : Int) = 4), if_pos (rfl : (5 : Int) = 5), if_pos (rfl : (5 : Int) = 5)]
  cases r with
  | nil => rw [if_pos (by simp), if_neg (by decide : ¬ (5 : Int) = 4)]
  | cons b1 r =>
    have hb1 := hb b1 (by simp)
    have w1 : wrap64 b1 = b1 := wrap64_in (by omega)
    have w2 : wrap64 (b * 256) = b * 256 := wrap64_in (by omega)
    have w3 : wrap64 (b * 256 + b1) = b * 256 + b1 := wrap64_in (by omega)
    have hl : ¬ ((2 : Int) > ((b :: b1 :: r).length : Int)) := by rw [List.length_cons, List.length_cons]; omega
    have hl1 : (1 : Int) < ((b :: b1 :: r).length : Int) := by rw [List.length_cons, List.length_cons]; omega
    rw [if_neg hl, if_pos hl1, show rd (b :: b1 :: r) 1 = b1 from rfl, w1, w2, w3]
    have h := j6_eq (k + 6) 5 (b :: b1 :: r) 2 (b * 256 + b1) (by omega) hb (by simp) (by omega)
    have he : encB 5 (b * 256 + b1) = (b :: b1 :: r).take 2 := by
      have d1 : Int.tdiv (b * 256 + b1) 256 = b := by rw [Int.tdiv_eq_ediv_of_nonneg (by omega)]; omega
      have d2 : Int.tmod (b * 256 + b1) 256 = b1 := by rw [Int.tmod_eq_emod_of_nonneg (by omega)]; omega
      unfold encB
      rw [if_neg (by omega), if_neg (by decide), if_pos rfl, d1, d2, w0, show b % 256 = b by omega, show b1 % 256 = b1 by omega]
      rfl
    have hh : hasB 5 (b * 256 + b1) = true := by unfold hasB; rfl
    rw [he, hh, decide_eq_true rfl, Bool.and_true, Bool.and_true] at h
    exact h
theorem utf2 (b b1 : Int) (h1 : 192 ≤ b ∧ b ≤ 223) (h2 : 0 ≤ b1 ∧ b1 ≤ 255) : encB 4 (b % 32 * 64 + b1 % 64) = [b, b1] ↔ 194 ≤ b ∧ 128 ≤ b1 ∧ b1 ≤ 191 := by
  unfold encB
  rw [if_neg (by decide), if_neg (by decide), if_neg (by decide)]
  have t1 : Int.tdiv (b % 32 * 64 + b1 % 64) 64 = b % 32 := by rw [Int.tdiv_eq_ediv_of_nonneg (by omega)]; omega
  have t2 : Int.tmod (b % 32 * 64 + b1 % 64) 64 = b1 % 64 := by rw [Int.tmod_eq_emod_of_nonneg (by omega)]; omega
  by_cases hc : b % 32 * 64 + b1 % 64 < 128
  · rw [if_pos hc]
    simp only [List.cons.injEq, reduceCtorEq, and_false, false_iff]
    omega
  · rw [if_neg hc, if_pos (by omega), t1, t2]
    have w1 : wrap64 (b % 32) = b % 32 := wrap64_in (by omega)
    have w2 : wrap64 (192 + b % 32) = 192 + b % 32 := wrap64_in (by omega)
    have w3 : wrap64 (128 + b1 % 64) = 128 + b1 % 64 := wrap64_in (by omega)
    rw [w1, w2, w3]
    simp only [List.cons.injEq, and_true]
    omega
theorem utf3 (b b1 b2 : Int) (h1 : 224 ≤ b ∧ b ≤ 255) (h2 : 0 ≤ b1 ∧ b1 ≤ 255) (h3 : 0 ≤ b2 ∧ b2 ≤ 255) : encB 4 (b % 16 * 4096 + b1 % 64 * 64 + b2 % 64) = [b, b1, b2] ↔ b ≤ 239 ∧ (128 ≤ b1 ∧ b1 ≤ 191) ∧ (128 ≤ b2 ∧ b2 ≤ 191) ∧ 2048 ≤ b % 16 * 4096 + b1 % 64 * 64 + b2 % 64 := by
  unfold encB
  rw [if_neg (by decide), if_neg (by decide), if_neg (by decide)]
  have t1 : Int.tdiv (b % 16 * 4096 + b1 % 64 * 64 + b2 % 64) 64 = b % 16 * 64 + b1 % 64 := by rw [Int.tdiv_eq_ediv_of_nonneg (by omega)]; omega
  have t2 : Int.tmod (b % 16 * 4096 + b1 % 64 * 64 + b2 % 64) 64 = b2 % 64 := by rw [Int.tmod_eq_emod_of_nonneg (by omega)]; omega
  have t3 : Int.tdiv (b % 16 * 4096 + b1 % 64 * 64 + b2 % 64) 4096 = b % 16 := by rw [Int.tdiv_eq_ediv_of_nonneg (by omega)]; omega
  have t4 : Int.tmod (b % 16 * 64 + b1 % 64) 64 = b1 % 64 := by rw [Int.tmod_eq_emod_of_nonneg (by omega)]; omega
  by_cases hc : b % 16 * 4096 + b1 % 64 * 64 + b2 % 64 < 128
  · rw [if_pos hc]
    simp only [List.cons.injEq, reduceCtorEq, and_false, false_iff]
    omega
  · rw [if_neg hc]
    by_cases hc2 : b % 16 * 4096 + b1 % 64 * 64 + b2 % 64 < 2048
    · rw [if_pos hc2]
      simp only [List.cons.injEq, reduceCtorEq, and_false, false_iff]
      omega
    · rw [if_neg hc2, t1, t2, t3]
      have w0 : wrap64 (b % 16 * 64 + b1 % 64) = b % 16 * 64 + b1 % 64 := wrap64_in (by omega)
      have w1 : wrap64 (b % 16) = b % 16 := wrap64_in (by omega)
      have w2 : wrap64 (224 + b % 16) = 224 + b % 16 := wrap64_in (by omega)
      have w3 : wrap64 (128 + b1 % 64) = 128 + b1 % 64 := wrap64_in (by omega)
      have w4 : wrap64 (128 + b2 % 64) = 128 + b2 % 64 := wrap64_in (by omega)
      rw [w0, t4, w1, w2, w3, w4]
      simp only [List.cons.injEq, and_true]
      omega
theorem utf1 (b : Int) (h1 : 0 ≤ b ∧ b ≤ 255) : encB 4 b = [b] ↔ b < 128 := by
  unfold encB
  rw [if_neg (by decide), if_neg (by decide), if_neg (by decide)]
  by_cases hc : b < 128
  · rw [if_pos hc, show b % 256 = b by omega]; simp [hc]
  · rw [if_neg hc, if_pos (by omega)]; simp [hc]
theorem moreD_eq (y : Int) (r : List Int) : 0 ≤ moreD (y :: r) ↔ 128 ≤ y ∧ y ≤ 191 := by
  show 0 ≤ (if 128 ≤ y ∧ y ≤ 191 then y - 128 else -1) ↔ _
  split <;> omega
theorem moreD_val (y : Int) (r : List Int) (h : 128 ≤ y ∧ y ≤ 191) : moreD (y :: r) = y - 128 := by
  show (if 128 ≤ y ∧ y ≤ 191 then y - 128 else -1) = _
  rw [if_pos h]
theorem moreD_nil : ¬ 0 ≤ moreD [] := by decide
theorem firstChar_8 (k : Nat) (b : Int) (r : List Int) (hb : ∀ x ∈ b :: r, 0 ≤ x ∧ x ≤ 255) : impl_firstChar.f (k + 12) 4 (b :: r) = some (oneF 4 b r) := by
  have hb0 := hb b (by simp)
  have w0 : wrap64 b = b := wrap64_in (by omega)
  have hl0 : (0 : Int) < ((b :: r).length : Int) := by rw [List.length_cons]; omega
  have hh : ∀ c, hasB 4 c = true := fun c => by unfold hasB; rfl
  unfold impl_firstChar.f oneF
  rw [if_pos hl0, if_neg (by decide : ¬ (4 : Int) = 5), if_pos (rfl : (4 : Int) = 4), if_pos (rfl : (4 : Int) = 4), show rd (b :: r) 0 = b from rfl, w0, within_eq, Option.bind_some]
  by_cases c2 : 192 ≤ b ∧ b ≤ 223
  · rw [decide_eq_true c2, impl_firstChar.j0, if_pos rfl, impl_firstChar.j1, if_neg (by omega : ¬ b < 128), if_neg (by decide : ¬ (4 : Int) = 5), if_pos (rfl : (4 : Int) = 4)]
    cases r with
    | nil =>
      rw [if_pos (by simp), if_neg (fun h => moreD_nil h.2.2), if_neg (fun h => moreD_nil h.2.2.1)]
    | cons b1 r =>
      have hb1 := hb b1 (by simp)
      have hl : ¬ ((2 : Int) > ((b :: b1 :: r).length : Int)) := by rw [List.length_cons, List.length_cons]; omega
      have hl1 : (1 : Int) < ((b :: b1 :: r).length : Int) := by rw [List.length_cons, List.length_cons]; omega
      have t1 : Int.tmod b 32 = b % 32 := Int.tmod_eq_emod_of_nonneg hb0.1
      have t2 : Int.tmod b1 64 = b1 % 64 := Int.tmod_eq_emod_of_nonneg hb1.1
      have w1 : wrap64 b1 = b1 := wrap64_in (by omega)
      have w2 : wrap64 (b % 32 * 64) = b % 32 * 64 := wrap64_in (by omega)
      have w3 : wrap64 (b % 32 * 64 + b1 % 64) = b % 32 * 64 + b1 % 64 := wrap64_in (by omega)
      have h := j6_eq (k + 5) 4 (b :: b1 :: r) 2 (b % 32 * 64 + b1 % 64) (by omega) hb (by simp) (by omega)
      rw [show (b :: b1 :: r).take 2 = [b, b1] from rfl, hh, Bool.and_true, (charB_iff _).2 (by omega), Bool.true_and] at h
      rw [if_neg hl, impl_firstChar.j2, if_pos rfl, if_pos hl1, show rd (b :: b1 :: r) 1 = b1 from rfl, w1, t1, t2, w2, w3]
      refine Eq.trans h ?_
      congr 1
      by_cases g : 194 ≤ b ∧ 128 ≤ b1 ∧ b1 ≤ 191
      · rw [if_pos (decide_eq_true ((utf2 b b1 c2 hb1).2 g)), if_pos ⟨g.1, by omega, (moreD_eq b1 r).2 g.2⟩, moreD_val b1 r g.2]
        congr 1
        omega
      · rw [if_neg (fun e => g ((utf2 b b1 c2 hb1).1 (of_decide_eq_true e))), if_neg (fun e => g ⟨e.1, (moreD_eq b1 r).1 e.2.2⟩), if_neg (fun e => absurd e.1 (by omega))]
  · rw [decide_eq_false c2, impl_firstChar.j0]
    simp only [Bool.false_eq_true, if_false, if_true]
    by_cases c3 : b ≥ 224
    · rw [if_pos c3, impl_firstChar.j1, if_neg (by omega : ¬ b < 128), if_neg (fun h => absurd h.2.1 (by omega) : ¬ (194 ≤ b ∧ b < 224 ∧ 0 ≤ moreD r)), if_neg (by decide : ¬ (4 : Int) = 5), if_pos (rfl : (4 : Int) = 4)]
      cases r with
      | nil => rw [if_pos (by simp), if_neg (fun h => moreD_nil h.2.2.1)]
      | cons b1 r =>
        cases r with
        | nil => rw [if_pos (by simp), if_neg (fun h => moreD_nil h.2.2.2.1)]
        | cons b2 r =>
          have hb1 := hb b1 (by simp)
          have hb2 := hb b2 (by simp)
          have hl : ¬ ((3 : Int) > ((b :: b1 :: b2 :: r).length : Int)) := by rw [List.length_cons, List.length_cons, List.length_cons]; omega
          have hl1 : (1 : Int) < ((b :: b1 :: b2 :: r).length : Int) := by rw [List.length_cons, List.length_cons]; omega
          have hl2 : (2 : Int) < ((b :: b1 :: b2 :: r).length : Int) := by rw [List.length_cons, List.length_cons, List.length_cons]; omega
          have t1 : Int.tmod b 16 = b % 16 := Int.tmod_eq_emod_of_nonneg hb0.1
          have t2 : Int.tmod b1 64 = b1 % 64 := Int.tmod_eq_emod_of_nonneg hb1.1
          have t3 : Int.tmod b2 64 = b2 % 64 := Int.tmod_eq_emod_of_nonneg hb2.1
          have w1 : wrap64 b1 = b1 := wrap64_in (by omega)
          have w1' : wrap64 b2 = b2 := wrap64_in (by omega)
          have w2 : wrap64 (b % 16 * 4096) = b % 16 * 4096 := wrap64_in (by omega)
          have w2' : wrap64 (b1 % 64 * 64) = b1 % 64 * 64 := wrap64_in (by omega)
          have w3 : wrap64 (b % 16 * 4096 + b1 % 64 * 64) = b % 16 * 4096 + b1 % 64 * 64 := wrap64_in (by omega)
          have w4 : wrap64 (b % 16 * 4096 + b1 % 64 * 64 + b2 % 64) = b % 16 * 4096 + b1 % 64 * 64 + b2 % 64 := wrap64_in (by omega)
          have h := j6_eq (k + 4) 4 (b :: b1 :: b2 :: r) 3 (b % 16 * 4096 + b1 % 64 * 64 + b2 % 64) (by omega) hb (by simp) (by omega)
          rw [show (b :: b1 :: b2 :: r).take 3 = [b, b1, b2] from rfl, hh, Bool.and_true] at h
          rw [if_neg hl, show ((3 : Int) == 2) = false from rfl, impl_firstChar.j2]
          simp only [Bool.false_eq_true, if_false, if_true]
          rw [show ((3 : Int) == 3) = true from rfl, impl_firstChar.j3, if_pos rfl, if_pos hl1, if_pos hl2, show rd (b :: b1 :: b2 :: r) 1 = b1 from rfl, show rd (b :: b1 :: b2 :: r) 2 = b2 from rfl, w1, w1', t1, t2, t3, w2, w2', w3, w4]
          refine Eq.trans h ?_
          congr 1
          have hu := utf3 b b1 b2 (by omega) hb1 hb2
          by_cases g : b ≤ 239 ∧ (128 ≤ b1 ∧ b1 ≤ 191) ∧ (128 ≤ b2 ∧ b2 ≤ 191)
          · have v : (b - 224) * 4096 + moreD (b1 :: b2 :: r) * 64 + moreD (b2 :: r) = b % 16 * 4096 + b1 % 64 * 64 + b2 % 64 := by rw [moreD_val b1 _ g.2.1, moreD_val b2 _ g.2.2]; omega
            rw [show (b1 :: b2 :: r).tail = b2 :: r from rfl, v]
            by_cases g2 : 2048 ≤ b % 16 * 4096 + b1 % 64 * 64 + b2 % 64
            · rw [decide_eq_true (hu.2 ⟨g.1, g.2.1, g.2.2, g2⟩), Bool.and_true]
              cases hc : charB (b % 16 * 4096 + b1 % 64 * 64 + b2 % 64) with
              | true => rw [if_pos rfl, if_pos ⟨c3, by omega, (moreD_eq b1 _).2 g.2.1, (moreD_eq b2 _).2 g.2.2, g2, rfl⟩]; rfl
              | false => rw [if_neg (by decide), if_neg (fun e => absurd e.2.2.2.2.2 (by decide))]
            · rw [decide_eq_false (fun e => g2 (hu.1 e).2.2.2), Bool.and_false, if_neg (by decide), if_neg (fun e => g2 e.2.2.2.2.1)]
          · rw [decide_eq_false (fun e => g ⟨(hu.1 e).1, (hu.1 e).2.1, (hu.1 e).2.2.1⟩), Bool.and_false, if_neg (by decide), if_neg (fun e => g ⟨by have := e.2.1; omega, (moreD_eq b1 _).1 e.2.2.1, (moreD_eq b2 r).1 e.2.2.2.1⟩)]
    · have hl : ¬ ((1 : Int) > ((b :: r).length : Int)) := by rw [List.length_cons]; omega
      have h := j6_eq (k + 2) 4 (b :: r) 1 b (by omega) hb (by simp) (by omega)
      rw [show (b :: r).take 1 = [b] from rfl, hh, Bool.and_true, (charB_iff _).2 (by omega), Bool.true_and] at h
      rw [if_neg c3, impl_firstChar.j1, if_neg hl, if_neg (by decide : ¬ (4 : Int) = 5), if_pos (rfl : (4 : Int) = 4), show ((1 : Int) == 2) = false from rfl, impl_firstChar.j2]
      simp only [Bool.false_eq_true, if_false, if_true]
      rw [show ((1 : Int) == 3) = false from rfl, impl_firstChar.j3]
      simp only [Bool.false_eq_true, if_false, if_neg (by decide : ¬ (4 : Int) = 3)]
      rw [impl_firstChar.j4]
      simp only [Bool.false_eq_true, if_false, if_neg (by decide : ¬ (4 : Int) = 3)]
      rw [impl_firstChar.j5]
      simp only [Bool.false_eq_true, if_false, if_neg (by decide : ¬ (4 : Int) = 3)]
      refine Eq.trans h ?_
      congr 1
      by_cases g : b < 128
      · rw [if_pos (decide_eq_true ((utf1 b hb0).2 g)), if_pos g]; rfl
      · rw [if_neg (fun e => g ((utf1 b hb0).1 (of_decide_eq_true e))), if_neg g, if_neg (fun e => absurd e.1 (by have := e.2.1; omega)), if_neg (fun e => absurd e.1 (by omega))]
theorem impl_firstChar_eq (k : Nat) (cs b : Int) (r : List Int) (hc : 1 ≤ cs ∧ cs ≤ 5) (hb : ∀ x ∈ b :: r, 0 ≤ x ∧ x ≤ 255) : impl_firstChar.f (k + 12) cs (b :: r) = some (oneF cs b r) := by
  by_cases h4 : cs = 4
  · subst h4; exact firstChar_8 k b r hb
  · by_cases h5 : cs = 5
    · subst h5; exact firstChar_16 k b r hb
    · exact firstChar_low k cs b r (by omega) hb
theorem spec_l2Char_eq (c : Int) : spec_l2Char.f c = some (charB c) := by
  simp only [spec_l2Char.f, in_eq, Option.bind_some, charB]
  generalize decide (0 ≤ c ∧ c ≤ 55295) = x
  cases x <;> simp
theorem spec_l2Single_eq (k : Nat) (cs b : Int) (hc : 1 ≤ cs ∧ cs ≤ 3) (hb : 0 ≤ b ∧ b ≤ 255) : spec_l2Single.f (k + 4) cs b = some (if hasB cs (cy cs b) = true then cy cs b else -1) := by
  have w8 : wrap64 (b + 864) = b + 864 := wrap64_in (by omega)
  have fin : ∀ m c, (spec_l2Has.f (m + 1) cs c).bind (fun t => if t = true then some c else some (-1)) = some (if hasB cs c = true then c else -1) := by
    intro m c
    rw [spec_l2Has_eq, Option.bind_some]
    split <;> rfl
  unfold spec_l2Single.f
  by_cases h3 : cs = 3
  · subst h3
    have h167 : hasB 3 167 = true := by decide
    have h8470 : hasB 3 8470 = true := by decide
    rw [if_pos rfl, spec_l2Single.j0]
    by_cases b1 : b = 253
    · have e : cy 3 b = 167 := by unfold cy; rw [if_pos rfl, if_pos b1]
      rw [e, if_pos h167, if_pos (by simpa using b1)]
    · have f1 : (b == 253) = false := by simpa using b1
      simp only [f1, Bool.false_eq_true, if_false, if_true]
      rw [spec_l2Single.j1]
      by_cases b2 : b = 240
      · have e : cy 3 b = 8470 := by unfold cy; rw [if_pos rfl, if_neg b1, if_pos b2]
        rw [e, if_pos h8470, if_pos (by simpa using b2)]
      · have f2 : (b == 240) = false := by simpa using b2
        simp only [f2, Bool.false_eq_true, if_false, if_true]
        by_cases b3 : b > 160
        · rw [if_pos b3, spec_l2Single.j2, w8]
          by_cases b4 : b = 173
          · have f4 : (b != 173) = false := by simpa using b4
            have e : cy 3 b = b := by unfold cy; rw [if_pos rfl, if_neg b1, if_neg b2, if_neg (by omega)]
            rw [e]
            simp only [f4, Bool.false_eq_true, if_false]
            exact fin _ b
          · have f4 : (b != 173) = true := by simpa using b4
            have e : cy 3 b = b + 864 := by unfold cy; rw [if_pos rfl, if_neg b1, if_neg b2, if_pos ⟨b3, b4⟩]
            rw [e]
            simp only [f4, if_true]
            exact fin _ (b + 864)
        · have e : cy 3 b = b := by unfold cy; rw [if_pos rfl, if_neg b1, if_neg b2, if_neg (by omega)]
          rw [if_neg b3, spec_l2Single.j2, e]
          simp only [Bool.false_eq_true, if_false]
          exact fin _ b
  · rw [if_neg h3, spec_l2Single.j0]
    simp only [Bool.false_eq_true, if_false, if_neg h3]
    rw [spec_l2Single.j1]
    simp only [Bool.false_eq_true, if_false, if_neg h3]
    rw [spec_l2Single.j2]
    simp only [Bool.false_eq_true, if_false]
    rw [show cy cs b = b by unfold cy; rw [if_neg h3]]
    exact fin _ b
theorem spec_l2More_eq (L : List Int) (i : Nat) (hb : ∀ x ∈ L, 0 ≤ x ∧ x ≤ 255) : spec_l2More.f L (i : Int) = some (moreD (L.drop i)) := by
  unfold spec_l2More.f
  by_cases h : i < L.length
  · have hbi := hb L[i] (List.getElem_mem h)
    rw [if_neg (by omega), if_pos (by omega), if_pos (by omega), rd_at L i h, List.drop_eq_getElem_cons h]
    generalize L[i] = y at hbi
    have w : wrap64 (wrap64 y - 128) = y - 128 := by rw [wrap64_in (n := y) (by omega)]; exact wrap64_in (by omega)
    rw [w]
    show _ = some (if 128 ≤ y ∧ y ≤ 191 then y - 128 else -1)
    by_cases h1 : y < 128
    · rw [if_pos h1, if_neg (by omega)]
    · rw [if_neg h1]
      by_cases h2 : y > 191
      · rw [if_pos h2, if_neg (by omega)]
      · rw [if_neg h2, if_pos (by omega)]
  · rw [if_pos (by omega), List.drop_eq_nil_of_le (by omega)]
    rfl
theorem moreD_range (r : List Int) : -1 ≤ moreD r ∧ moreD r ≤ 63 := by
  cases r with
  | nil => decide
  | cons y r =>
    show -1 ≤ (if 128 ≤ y ∧ y ≤ 191 then y - 128 else -1) ∧ (if 128 ≤ y ∧ y ≤ 191 then y - 128 else -1) ≤ 63
    split <;> omega
theorem spec_l2One_eq (k : Nat) (cs : Int) (L : List Int) (i : Nat) (hc : 1 ≤ cs ∧ cs ≤ 5) (hL : L.length ≤ 1048576) (hb : ∀ x ∈ L, 0 ≤ x ∧ x ≤ 255) (hi : i < L.length) : spec_l2One.f (k + 4) cs L (i : Int) = some (oneF cs L[i] (L.drop (i + 1))) := by
  have hbi := hb L[i] (List.getElem_mem hi)
  have a0 : (0 : Int) ≤ (i : Int) := by omega
  have a1 : (i : Int) < (L.length : Int) := by omega
  have hrd := rd_at L i hi
  have w1 : wrap64 ((i : Int) + 1) = ((i + 1 : Nat) : Int) := by rw [wrap64_in (by omega)]; omega
  have w2 : wrap64 ((i : Int) + 2) = ((i + 2 : Nat) : Int) := by rw [wrap64_in (by omega)]; omega
  have hm1 := spec_l2More_eq L (i + 1) hb
  have hm2 := spec_l2More_eq L (i + 2) hb
  have ht : (L.drop (i + 1)).tail = L.drop (i + 2) := by rw [List.tail_drop]
  unfold spec_l2One.f oneF
  by_cases h4 : cs = 4
  · rw [if_pos h4, if_pos h4, ht]
    unfold spec_l2Utf8.f
    rw [if_pos a0, if_pos a1, hrd]
    have r1 := moreD_range (L.drop (i + 1))
    have r2 := moreD_range (L.drop (i + 2))
    generalize moreD (L.drop (i + 1)) = x at hm1 r1
    generalize moreD (L.drop (i + 2)) = y at hm2 r2
    generalize L[i] = b at hbi
    have w0 : wrap64 b = b := wrap64_in (by omega)
    rw [w0, w1, hm1, Option.bind_some]
    by_cases c1 : b < 128
    · rw [if_pos c1, if_pos c1]; rfl
    · rw [if_neg c1, if_neg c1]
      have v1 : wrap64 (b - 192) = b - 192 := wrap64_in (by omega)
      have v2 : wrap64 ((b - 192) * 64) = (b - 192) * 64 := wrap64_in (by omega)
      have v3 : wrap64 ((b - 192) * 64 + x) = (b - 192) * 64 + x := wrap64_in (by omega)
      have v4 : wrap64 (b - 224) = b - 224 := wrap64_in (by omega)
      have v5 : wrap64 ((b - 224) * 4096) = (b - 224) * 4096 := wrap64_in (by omega)
      have v6 : wrap64 (x * 64) = x * 64 := wrap64_in (by omega)
      have v7 : wrap64 ((b - 224) * 4096 + x * 64) = (b - 224) * 4096 + x * 64 := wrap64_in (by omega)
      have v8 : wrap64 ((b - 224) * 4096 + x * 64 + y) = (b - 224) * 4096 + x * 64 + y := wrap64_in (by omega)
      have J1f : ∀ m, spec_l2Utf8.j1 (m + 1) b x y false = some (0, 0) := fun m => by rw [spec_l2Utf8.j1, if_neg (by decide)]
      have J1t : ∀ m, spec_l2Utf8.j1 (m + 1) b x y true = some (if 2048 ≤ (b - 224) * 4096 + x * 64 + y ∧ charB ((b - 224) * 4096 + x * 64 + y) = true then ((b - 224) * 4096 + x * 64 + y, 3) else (0, 0)) := by
        intro m
        rw [spec_l2Utf8.j1, if_pos rfl, v4, v5, v6, v7, v8, spec_l2Char_eq, Option.bind_some]
        by_cases d1 : (b - 224) * 4096 + x * 64 + y ≥ 2048
        · rw [if_pos d1]
          by_cases d2 : charB ((b - 224) * 4096 + x * 64 + y) = true
          · rw [if_pos d2, if_pos ⟨d1, d2⟩]
          · rw [if_neg d2, if_neg (fun e => d2 e.2)]
        · rw [if_neg d1, if_neg (fun e => d1 e.1)]
      have J0f : ∀ m, spec_l2Utf8.j0 (m + 2) L (i : Int) b x false = some (if 224 ≤ b ∧ b < 240 ∧ 0 ≤ x ∧ 0 ≤ y ∧ 2048 ≤ (b - 224) * 4096 + x * 64 + y ∧ charB ((b - 224) * 4096 + x * 64 + y) = true then ((b - 224) * 4096 + x * 64 + y, 3) else (0, 0)) := by
        intro m
        rw [spec_l2Utf8.j0, if_neg (by decide), w2, hm2, Option.bind_some]
        by_cases d1 : b ≥ 224
        · rw [if_pos d1]
          by_cases d2 : b < 240
          · rw [if_pos d2]
            by_cases d3 : x ≥ 0
            · rw [if_pos d3]
              by_cases d4 : y ≥ 0
              · rw [decide_eq_true d4, J1t]
                congr 1
                by_cases d5 : 2048 ≤ (b - 224) * 4096 + x * 64 + y ∧ charB ((b - 224) * 4096 + x * 64 + y) = true
                · rw [if_pos d5, if_pos ⟨d1, d2, d3, d4, d5⟩]
                · rw [if_neg d5, if_neg (fun e => d5 e.2.2.2.2)]
              · rw [decide_eq_false d4, J1f, if_neg (fun e => d4 e.2.2.2.1)]
            · rw [if_neg d3, J1f, if_neg (fun e => d3 e.2.2.1)]
          · rw [if_neg d2, J1f, if_neg (fun e => d2 e.2.1)]
        · rw [if_neg d1, J1f, if_neg (fun e => d1 e.1)]
      by_cases e1 : b ≥ 194
      · rw [if_pos e1]
        by_cases e2 : b < 224
        · rw [if_pos e2]
          by_cases e3 : x ≥ 0
          · rw [decide_eq_true e3, spec_l2Utf8.j0, if_pos rfl, v1, v2, v3, if_pos ⟨e1, e2, e3⟩]; rfl
          · rw [decide_eq_false e3, J0f (k + 2), if_neg (show ¬ (194 ≤ b ∧ b < 224 ∧ 0 ≤ x) from fun e => e3 e.2.2)]; rfl
        · rw [if_neg e2, J0f (k + 2), if_neg (show ¬ (194 ≤ b ∧ b < 224 ∧ 0 ≤ x) from fun e => e2 e.2.1)]; rfl
      · rw [if_neg e1, J0f (k + 2), if_neg (show ¬ (194 ≤ b ∧ b < 224 ∧ 0 ≤ x) from fun e => e1 e.1)]; rfl
  · rw [if_neg h4, if_neg h4]
    by_cases h5 : cs = 5
    · rw [if_pos h5, if_pos h5, w1]
      by_cases hn : i + 1 < L.length
      · have hb1 := hb L[i + 1] (List.getElem_mem hn)
        rw [if_neg (by omega), if_pos a0, if_pos a1, if_pos (by omega), if_pos (by omega), hrd, rd_at L (i + 1) hn, List.drop_eq_getElem_cons hn]
        generalize L[i] = b at hbi
        generalize L[i + 1] = b1 at hb1
        have v0 : wrap64 b = b := wrap64_in (by omega)
        have v1 : wrap64 b1 = b1 := wrap64_in (by omega)
        have v2 : wrap64 (b * 256) = b * 256 := wrap64_in (by omega)
        have v3 : wrap64 (b * 256 + b1) = b * 256 + b1 := wrap64_in (by omega)
        rw [v0, v1, v2, v3, spec_l2Char_eq, Option.bind_some]
        show (if charB (b * 256 + b1) = true then some (b * 256 + b1, (2 : Int)) else some (0, 0)) = some (if charB (b * 256 + b1) = true then (b * 256 + b1, 2) else (0, 0))
        split <;> rfl
      · rw [if_pos (by omega), List.drop_eq_nil_of_le (by omega)]
    · rw [if_neg h5, if_neg h5, if_pos a0, if_pos a1, hrd, show wrap64 L[i] = L[i] from wrap64_in (by omega), spec_l2Single_eq k cs _ (by omega) hbi, Option.bind_some]
      have hcy := cy_in cs L[i] hbi
      by_cases hh : hasB cs (cy cs L[i]) = true
      · rw [if_pos hh, if_pos hh, if_neg (by omega)]
      · rw [if_neg hh, if_neg hh, if_pos (by decide)]
theorem oneF_snd (cs b : Int) (r : List Int) : (oneF cs b r).2 = 0 ∨ ((oneF cs b r).2 = 1) ∨ ((oneF cs b r).2 = 2 ∧ 1 ≤ r.length) ∨ ((oneF cs b r).2 = 3 ∧ 2 ≤ r.length) := by
  unfold oneF
  by_cases h4 : cs = 4
  · rw [if_pos h4]
    by_cases c1 : b < 128
    · rw [if_pos c1]; exact Or.inr (Or.inl rfl)
    · rw [if_neg c1]
      by_cases c2 : 194 ≤ b ∧ b < 224 ∧ 0 ≤ moreD r
      · rw [if_pos c2]
        refine Or.inr (Or.inr (Or.inl ⟨rfl, ?_⟩))
        cases r with
        | nil => exact absurd c2.2.2 moreD_nil
        | cons _ _ => simp
      · rw [if_neg c2]
        split
        · rename_i c3
          refine Or.inr (Or.inr (Or.inr ⟨rfl, ?_⟩))
          cases r with
          | nil => exact absurd c3.2.2.1 moreD_nil
          | cons _ r =>
            cases r with
            | nil => exact absurd c3.2.2.2.1 moreD_nil
            | cons _ _ => simp
        · exact Or.inl rfl
  · rw [if_neg h4]
    by_cases h5 : cs = 5
    · rw [if_pos h5]
      cases r with
      | nil => exact Or.inl rfl
      | cons b1 r =>
        have key : ∀ q : Int × Int, q = (if charB (b * 256 + b1) = true then (b * 256 + b1, 2) else (0, 0)) → q.2 = 0 ∨ q.2 = 1 ∨ (q.2 = 2 ∧ 1 ≤ (b1 :: r).length) ∨ (q.2 = 3 ∧ 2 ≤ (b1 :: r).length) := by
          intro q hq
          by_cases hc : charB (b * 256 + b1) = true
          · rw [if_pos hc] at hq; subst hq; exact Or.inr (Or.inr (Or.inl ⟨rfl, by simp⟩))
          · rw [if_neg hc] at hq; subst hq; exact Or.inl rfl
        exact key _ rfl
    · rw [if_neg h5]
      split
      · exact Or.inr (Or.inl rfl)
      · exact Or.inl rfl
theorem decode_end (cs : Int) (L : List Int) (k k2 i : Nat) (acc : List Int) (h : ¬ i < L.length) : spec_l2Decode.l0 (k + 1) cs L acc (i : Int) = some (acc, true) ∧ impl_decodeChars.l0 (k2 + 1) cs (L.drop i) acc = some (acc, true) := by
  constructor
  · unfold spec_l2Decode.l0
    rw [if_neg (by omega)]
  · unfold impl_decodeChars.l0
    rw [if_neg (by rw [List.length_drop]; omega)]
theorem decode_step (cs : Int) (hc : 1 ≤ cs ∧ cs ≤ 5) (L : List Int) (hL : L.length ≤ 1048576) (hb : ∀ x ∈ L, 0 ≤ x ∧ x ≤ 255) (k k2 i : Nat) (acc : List Int) (hi : i < L.length) (ha : acc.length < 17592186044416) :
    (spec_l2Decode.l0 (k + 13) cs L acc (i : Int) = some ([], false) ∧ impl_decodeChars.l0 (k2 + 13) cs (L.drop i) acc = some ([], false)) ∨
    ∃ (m : Nat) (c : Int), 1 ≤ m ∧ i + m ≤ L.length ∧ spec_l2Decode.l0 (k + 13) cs L acc (i : Int) = spec_l2Decode.l0 (k + 12) cs L (acc ++ [c]) ((i + m : Nat) : Int) ∧ impl_decodeChars.l0 (k2 + 13) cs (L.drop i) acc = impl_decodeChars.l0 (k2 + 12) cs (L.drop (i + m)) (acc ++ [c]) := by
  have hd : L.drop i = L[i] :: L.drop (i + 1) := List.drop_eq_getElem_cons hi
  have hlen : (L.drop i).length = L.length - i := List.length_drop
  have hs := spec_l2One_eq (k + 8) cs L i hc hL hb hi
  have hf := impl_firstChar_eq k2 cs L[i] (L.drop (i + 1)) hc (fun x hx => hb x (List.mem_of_mem_drop (by rw [hd]; exact hx)))
  have hn := oneF_snd cs L[i] (L.drop (i + 1))
  rw [List.length_drop] at hn
  rw [← hd] at hf
  have a1 : (i : Int) < (L.length : Int) := by omega
  have a2 : ((L.drop i).length : Int) > 0 := by rw [hlen]; omega
  have u1 : spec_l2Decode.l0 (k + 13) cs L acc (i : Int) = (if (oneF cs L[i] (L.drop (i + 1))).2 = 0 then some ([], false) else if acc.length < 17592186044416 then spec_l2Decode.l0 (k + 12) cs L (acc ++ [(oneF cs L[i] (L.drop (i + 1))).1]) (wrap64 ((i : Int) + (oneF cs L[i] (L.drop (i + 1))).2)) else none) := by
    conv => lhs; unfold spec_l2Decode.l0
    rw [if_pos a1, hs]
    rfl
  have u2 : impl_decodeChars.l0 (k2 + 13) cs (L.drop i) acc = (if (oneF cs L[i] (L.drop (i + 1))).2 = 0 then some ([], false) else if acc.length < 17592186044416 then (if 0 ≤ (oneF cs L[i] (L.drop (i + 1))).2 then (if (oneF cs L[i] (L.drop (i + 1))).2 ≤ ((L.drop i).length : Int) then impl_decodeChars.l0 (k2 + 12) cs ((L.drop i).drop ((oneF cs L[i] (L.drop (i + 1))).2).toNat) (acc ++ [(oneF cs L[i] (L.drop (i + 1))).1]) else none) else none) else none) := by
    conv => lhs; unfold impl_decodeChars.l0
    rw [if_pos a2, hf]
    rfl
  rw [u1, u2]
  clear u1 u2 hs hf
  generalize oneF cs L[i] (L.drop (i + 1)) = q at hn
  by_cases hz : q.2 = 0
  · rw [if_pos hz, if_pos hz]
    exact Or.inl ⟨rfl, rfl⟩
  · obtain ⟨m, hm, hm1, hm2⟩ : ∃ m : Nat, q.2 = (m : Int) ∧ 1 ≤ m ∧ i + m ≤ L.length := ⟨q.2.toNat, by omega, by omega, by omega⟩
    have w : wrap64 ((i : Int) + (m : Int)) = ((i + m : Nat) : Int) := by rw [wrap64_in (by omega)]; omega
    have ho : (0 : Int) ≤ (m : Int) := by omega
    have hle : (m : Int) ≤ ((L.drop i).length : Int) := by rw [hlen]; omega
    refine Or.inr ⟨m, q.1, hm1, hm2, ?_, ?_⟩
    · rw [if_neg hz, hm, if_pos ha, w]
    · rw [if_neg hz, hm, if_pos ha, if_pos ho, if_pos hle, Int.toNat_natCast, List.drop_drop]
theorem decode_both (cs : Int) (hc : 1 ≤ cs ∧ cs ≤ 5) (L : List Int) (hL : L.length ≤ 1048576) (hb : ∀ x ∈ L, 0 ≤ x ∧ x ≤ 255) : ∀ (n k k2 i : Nat) (acc : List Int), L.length ≤ i + n → i ≤ L.length → acc.length + n ≤ 4194304 → ∃ r, spec_l2Decode.l0 (k + n + 13) cs L acc (i : Int) = some r ∧ impl_decodeChars.l0 (k2 + n + 13) cs (L.drop i) acc = some r ∧ r.1.length ≤ acc.length + n
  | 0, k, k2, i, acc, h1, h2, h5 => by
    obtain ⟨e1, e2⟩ := decode_end cs L (k + 12) (k2 + 12) i acc (by omega)
    exact ⟨(acc, true), e1, e2, Nat.le_refl _⟩
  | n + 1, k, k2, i, acc, h1, h2, h5 => by
    by_cases hi : i < L.length
    · rcases decode_step cs hc L hL hb (k + n + 1) (k2 + n + 1) i acc hi (by omega) with ⟨e1, e2⟩ | ⟨m, c, m1, m2, e1, e2⟩
      · exact ⟨([], false), e1, e2, Nat.zero_le _⟩
      · obtain ⟨r, r1, r2, r3⟩ := decode_both cs hc L hL hb n k k2 (i + m) (acc ++ [c]) (by omega) m2 (by rw [List.length_append, List.length_singleton]; omega)
        refine ⟨r, e1.trans r1, e2.trans r2, ?_⟩
        rw [List.length_append, List.length_singleton] at r3
        omega
    · obtain ⟨e1, e2⟩ := decode_end cs L (k + (n + 1) + 12) (k2 + (n + 1) + 12) i acc hi
      exact ⟨(acc, true), e1, e2, Nat.le_add_right _ _⟩
theorem DecodeText_both (cs : Int) (L : List Int) (hL : L.length ≤ 1048576) (hb : ∀ x ∈ L, 0 ≤ x ∧ x ≤ 255) (k : Nat) (hk : L.length + 13 < k) : ∃ r : Int × List Int, r.2.length ≤ 400 ∧ spec_DecodeText.f k cs L = some r ∧ impl_DecodeText.f k cs L = some r := by
  obtain ⟨kk, rfl⟩ : ∃ m, k = m + L.length + 13 := ⟨k - L.length - 13, by omega⟩
  unfold spec_DecodeText.f impl_DecodeText.f
  simp only [spec_l2Set.f, in_eq, impl_isCharset_eq, Option.bind_some]
  by_cases hc : 1 ≤ cs ∧ cs ≤ 5
  · rw [decide_eq_true hc, if_pos rfl, if_pos rfl]
    by_cases h4 : (L.length : Int) > 400
    · exact ⟨(2, []), by simp, by rw [if_pos h4], by rw [if_pos h4]⟩
    · obtain ⟨r, r1, r2, r3⟩ := decode_both cs hc L hL hb L.length kk kk 0 [] (by omega) (by omega) (by simp; omega)
      have r1' : spec_l2Decode.l0 (kk + L.length + 13) cs L [] 0 = some r := r1
      rw [List.drop_zero] at r2
      rw [if_neg h4, if_neg h4]
      unfold spec_l2Decode.f impl_decodeChars.f
      rw [r1', r2]
      simp only [Option.bind_some]
      cases hr : r.2 with
      | true => exact ⟨(0, r.1), by simp at r3; show r.1.length ≤ 400; omega, by rw [if_pos rfl], by rw [if_pos rfl]⟩
      | false => exact ⟨(8, []), by simp, by rw [if_neg (by decide)], by rw [if_neg (by decide)]⟩
  · rw [decide_eq_false hc]
    exact ⟨(4, []), by simp, by rw [if_neg (by decide)], by rw [if_neg (by decide)]⟩
theorem impl_encodeChars.l0_eq (a : Int) (ha : 1 ≤ a ∧ a ≤ 5) (L : List Int) (hL : ∀ x ∈ L, 0 ≤ x ∧ x ≤ 65535) (hb : L.length ≤ 1048576) : ∀ (n k i : Nat) (acc : List Int), L.length = i + n → n + 3 < k → acc.length + 3 * n ≤ 4194304 → impl_encodeChars.l0 k a acc L (L.length : Int) (i : Int) = some (acc ++ (L.drop i).flatMap (encB a))
  | _, 0, _, _, _, h, _ => absurd h (by omega)
  | 0, k + 1, i, acc, hi, _, _ => by
    have h1 : ¬ ((i : Int) < (L.length : Int)) := by omega
    unfold impl_encodeChars.l0
    rw [if_neg h1, List.drop_eq_nil_of_le (by omega)]
    simp
  | n + 1, k + 1, i, acc, hi, h, hc => by
    have h1 : (i : Int) < (L.length : Int) := by omega
    have h2 : (0 : Int) ≤ (i : Int) := by omega
    have h4 : wrap64 ((i : Int) + 1) = ((i + 1 : Nat) : Int) := by rw [wrap64_in (by omega)]; omega
    have hl := encB_len a L[i]
    obtain ⟨k2, rfl⟩ : ∃ k2, k = k2 + 3 := ⟨k - 3, by omega⟩
    unfold impl_encodeChars.l0
    rw [if_pos h1, if_pos h2, if_pos h1, rd_at L i (by omega), impl_encodeChar_eq k2 a _ ha (hL _ (List.getElem_mem _)), Option.bind_some, if_pos (by omega), h4, impl_encodeChars.l0_eq a ha L hL hb n (k2 + 3) (i + 1) _ (by omega) (by omega) (by rw [List.length_append]; omega), List.drop_eq_getElem_cons (by omega : i < L.length), List.flatMap_cons, List.append_assoc]
theorem impl_encodeChars_eq (a : Int) (ha : 1 ≤ a ∧ a ≤ 5) (L : List Int) (hL : ∀ x ∈ L, 0 ≤ x ∧ x ≤ 65535) (k : Nat) (hb : L.length ≤ 1048576) (hk : L.length + 3 < k) : impl_encodeChars.f k a L = some (L.flatMap (encB a)) := by
  unfold impl_encodeChars.f
  have := impl_encodeChars.l0_eq a ha L hL hb L.length k 0 [] (by omega) hk (by simp; omega)
  simpa using this
theorem oneF_enc (cs b : Int) (r : List Int) (hc : 1 ≤ cs ∧ cs ≤ 5) (hb : ∀ x ∈ b :: r, 0 ≤ x ∧ x ≤ 255) : (oneF cs b r).2 ≠ 0 → charB (oneF cs b r).1 = true ∧ hasB cs (oneF cs b r).1 = true ∧ encB cs (oneF cs b r).1 = (b :: r).take (oneF cs b r).2.toNat := by
  have hb0 := hb b (by simp)
  have key : ∀ q : Int × Int, q = oneF cs b r → q.2 ≠ 0 → charB q.1 = true ∧ hasB cs q.1 = true ∧ encB cs q.1 = (b :: r).take q.2.toNat := by
    intro q hq hn
    unfold oneF at hq
    by_cases h4 : cs = 4
    · subst h4
      have hh : ∀ c, hasB 4 c = true := fun c => by unfold hasB; rfl
      rw [if_pos rfl] at hq
      by_cases c1 : b < 128
      · rw [if_pos c1] at hq
        subst hq
        exact ⟨(charB_iff _).2 (by simp only; omega), hh _, (utf1 b hb0).2 c1⟩
      · rw [if_neg c1] at hq
        by_cases c2 : 194 ≤ b ∧ b < 224 ∧ 0 ≤ moreD r
        · rw [if_pos c2] at hq
          cases r with
          | nil => exact absurd c2.2.2 moreD_nil
          | cons b1 r =>
            have hb1 := hb b1 (by simp)
            have hm := (moreD_eq b1 r).1 c2.2.2
            have hv := moreD_val b1 r hm
            rw [hv] at hq
            have e : (b - 192) * 64 + (b1 - 128) = b % 32 * 64 + b1 % 64 := by omega
            rw [e] at hq
            subst hq
            exact ⟨(charB_iff _).2 (by simp only; omega), hh _, (utf2 b b1 (by omega) hb1).2 ⟨c2.1, hm⟩⟩
        · rw [if_neg c2] at hq
          by_cases c3 : 224 ≤ b ∧ b < 240 ∧ 0 ≤ moreD r ∧ 0 ≤ moreD r.tail ∧ 2048 ≤ (b - 224) * 4096 + moreD r * 64 + moreD r.tail ∧ charB ((b - 224) * 4096 + moreD r * 64 + moreD r.tail) = true
          · rw [if_pos c3] at hq
            cases r with
            | nil => exact absurd c3.2.2.1 moreD_nil
            | cons b1 r =>
              cases r with
              | nil => exact absurd c3.2.2.2.1 moreD_nil
              | cons b2 r =>
                have hb1 := hb b1 (by simp)
                have hb2 := hb b2 (by simp)
                have hm1 := (moreD_eq b1 (b2 :: r)).1 c3.2.2.1
                have hm2 := (moreD_eq b2 r).1 c3.2.2.2.1
                have hv1 := moreD_val b1 (b2 :: r) hm1
                have hv2 := moreD_val b2 r hm2
                have e : (b - 224) * 4096 + moreD (b1 :: b2 :: r) * 64 + moreD (b1 :: b2 :: r).tail = b % 16 * 4096 + b1 % 64 * 64 + b2 % 64 := by
                  rw [show (b1 :: b2 :: r).tail = b2 :: r from rfl, hv1, hv2]
                  have := c3.1
                  have := c3.2.1
                  clear c3 hq hv1 hv2
                  omega
                rw [e] at hq c3
                subst hq
                exact ⟨c3.2.2.2.2.2, hh _, (utf3 b b1 b2 ⟨c3.1, hb0.2⟩ hb1 hb2).2 ⟨by have := c3.2.1; omega, hm1, hm2, c3.2.2.2.2.1⟩⟩
          · rw [if_neg c3] at hq
            subst hq
            exact absurd rfl hn
    · rw [if_neg h4] at hq
      by_cases h5 : cs = 5
      · subst h5
        rw [if_pos rfl] at hq
        cases r with
        | nil => subst hq; exact absurd rfl hn
        | cons b1 r =>
          have hb1 := hb b1 (by simp)
          replace hq : q = (if charB (b * 256 + b1) = true then (b * 256 + b1, 2) else (0, 0)) := hq
          by_cases hcc : charB (b * 256 + b1) = true
          · rw [if_pos hcc] at hq
            subst hq
            refine ⟨hcc, by unfold hasB; rfl, ?_⟩
            have d1 : Int.tdiv (b * 256 + b1) 256 = b := by rw [Int.tdiv_eq_ediv_of_nonneg (by omega)]; omega
            have d2 : Int.tmod (b * 256 + b1) 256 = b1 := by rw [Int.tmod_eq_emod_of_nonneg (by omega)]; omega
            have w0 : wrap64 b = b := wrap64_in (by omega)
            unfold encB
            rw [if_neg (by decide), if_neg (by decide), if_pos rfl, d1, d2, w0, show b % 256 = b by omega, show b1 % 256 = b1 by omega]
            rfl
          · rw [if_neg hcc] at hq
            subst hq
            exact absurd rfl hn
      · rw [if_neg h5] at hq
        have hs := single_eq cs b (by omega) hb0
        by_cases hh : hasB cs (cy cs b) = true
        · rw [if_pos hh] at hq
          subst hq
          rw [hh, Bool.and_true, Bool.and_eq_true, decide_eq_true_eq] at hs
          exact ⟨hs.1, hh, hs.2⟩
        · rw [if_neg hh] at hq
          subst hq
          exact absurd rfl hn
  exact key _ rfl
theorem cy_cyrV (c : Int) (h : Cyr c) : cy 3 (cyrV c % 256) = c := by
  unfold Cyr at h
  unfold cy cyrV
  rw [if_pos rfl]
  repeat' split
  all_goals omega
theorem enc_oneF (cs c : Int) (rest : List Int) (hc : 1 ≤ cs ∧ cs ≤ 5) (h1 : charB c = true) (h2 : hasB cs c = true) : ∃ b r, encB cs c = b :: r ∧ oneF cs b (r ++ rest) = (c, ((encB cs c).length : Int)) := by
  have hr := (charB_iff c).1 h1
  have h0 : 0 ≤ c ∧ c ≤ 65535 := by omega
  clear hr
  by_cases h4 : cs = 4
  · subst h4
    unfold encB
    rw [if_neg (by decide), if_neg (by decide), if_neg (by decide)]
    by_cases c1 : c < 128
    · rw [if_pos c1]
      refine ⟨_, _, rfl, ?_⟩
      unfold oneF
      rw [if_pos rfl, if_pos (by omega), show c % 256 = c by omega]
      rfl
    · rw [if_neg c1]
      have t1 : Int.tdiv c 64 = c / 64 := Int.tdiv_eq_ediv_of_nonneg h0.1
      have t2 : Int.tmod c 64 = c % 64 := Int.tmod_eq_emod_of_nonneg h0.1
      have w3 : wrap64 (128 + c % 64) = 128 + c % 64 := wrap64_in (by omega)
      by_cases c2 : c < 2048
      · rw [if_pos c2, t1, t2]
        have w1 : wrap64 (c / 64) = c / 64 := wrap64_in (by omega)
        have w2 : wrap64 (192 + c / 64) = 192 + c / 64 := wrap64_in (by omega)
        rw [w1, w2, w3, show (192 + c / 64) % 256 = 192 + c / 64 by omega, show (128 + c % 64) % 256 = 128 + c % 64 by omega]
        refine ⟨_, _, rfl, ?_⟩
        have hm : moreD ([128 + c % 64] ++ rest) = c % 64 := by
          show moreD ((128 + c % 64) :: rest) = _
          rw [moreD_val _ _ (by omega)]; omega
        unfold oneF
        rw [hm, if_pos rfl, if_neg (by omega), if_pos (by omega), show (192 + c / 64 - 192) * 64 + c % 64 = c by omega]
        rfl
      · have t3 : Int.tdiv c 4096 = c / 4096 := Int.tdiv_eq_ediv_of_nonneg h0.1
        have w1 : wrap64 (c / 4096) = c / 4096 := wrap64_in (by omega)
        have w2 : wrap64 (224 + c / 4096) = 224 + c / 4096 := wrap64_in (by omega)
        have w4 : wrap64 (c / 64) = c / 64 := wrap64_in (by omega)
        have t4 : Int.tmod (c / 64) 64 = c / 64 % 64 := Int.tmod_eq_emod_of_nonneg (by omega)
        have w5 : wrap64 (128 + c / 64 % 64) = 128 + c / 64 % 64 := wrap64_in (by omega)
        rw [if_neg c2, t1, t2, t3, w1, w2, w3, w4, t4, w5, show (224 + c / 4096) % 256 = 224 + c / 4096 by omega, show (128 + c % 64) % 256 = 128 + c % 64 by omega, show (128 + c / 64 % 64) % 256 = 128 + c / 64 % 64 by omega]
        refine ⟨_, _, rfl, ?_⟩
        have hm : moreD ([128 + c / 64 % 64, 128 + c % 64] ++ rest) = c / 64 % 64 := by
          show moreD ((128 + c / 64 % 64) :: (128 + c % 64) :: rest) = _
          rw [moreD_val _ _ (by omega)]; omega
        have hm2 : moreD ([128 + c / 64 % 64, 128 + c % 64] ++ rest).tail = c % 64 := by
          show moreD ((128 + c % 64) :: rest) = _
          rw [moreD_val _ _ (by omega)]; omega
        have e : (224 + c / 4096 - 224) * 4096 + c / 64 % 64 * 64 + c % 64 = c := by omega
        unfold oneF
        rw [hm, hm2, e, if_pos rfl, if_neg (by omega), if_neg (by omega), if_pos ⟨by omega, by omega, by omega, by omega, by omega, h1⟩]
        rfl
  · by_cases h5 : cs = 5
    · subst h5
      have d1 : Int.tdiv c 256 = c / 256 := Int.tdiv_eq_ediv_of_nonneg h0.1
      have d2 : Int.tmod c 256 = c % 256 := Int.tmod_eq_emod_of_nonneg h0.1
      have w0 : wrap64 (c / 256) = c / 256 := wrap64_in (by omega)
      unfold encB
      rw [if_neg (by decide), if_neg (by decide), if_pos rfl, d1, d2, w0, show c / 256 % 256 = c / 256 by omega, show c % 256 % 256 = c % 256 by omega]
      refine ⟨_, _, rfl, ?_⟩
      have e : c / 256 * 256 + c % 256 = c := by omega
      unfold oneF
      rw [if_neg (by decide), if_pos rfl]
      show (if charB (c / 256 * 256 + c % 256) = true then (c / 256 * 256 + c % 256, (2 : Int)) else (0, 0)) = _
      rw [e, if_pos h1]
      rfl
    · have n : ∀ b r, oneF cs b r = (if hasB cs (cy cs b) = true then (cy cs b, 1) else (0, 0)) := by
        intro b r
        unfold oneF
        rw [if_neg h4, if_neg h5]
      unfold encB
      by_cases h3 : cs = 3
      · subst h3
        have hcy : Cyr c := by
          unfold hasB at h2
          rw [if_neg (by decide), if_neg (by decide), if_pos rfl] at h2
          exact of_decide_eq_true h2
        rw [if_neg (by decide), if_pos rfl]
        refine ⟨_, _, rfl, ?_⟩
        rw [n, cy_cyrV c hcy, if_pos h2]
        rfl
      · have h12 : cs = 1 ∨ cs = 2 := by omega
        have hlt : 0 ≤ c ∧ c ≤ 255 := by
          unfold hasB at h2
          rcases h12 with rfl | rfl
          · rw [if_pos rfl] at h2
            have := of_decide_eq_true h2
            omega
          · rw [if_neg (by decide), if_pos rfl] at h2
            exact of_decide_eq_true h2
        rw [if_pos h12, show c % 256 = c by omega]
        refine ⟨_, _, rfl, ?_⟩
        have e : cy cs c = c := by unfold cy; rw [if_neg h3]
        rw [n, e, if_pos h2]
        rfl
theorem dec_step (cs : Int) (hc : 1 ≤ cs ∧ cs ≤ 5) (b : Int) (r : List Int) (hb : ∀ x ∈ b :: r, 0 ≤ x ∧ x ≤ 255) (k : Nat) (acc : List Int) (ha : acc.length < 17592186044416) :
    impl_decodeChars.l0 (k + 13) cs (b :: r) acc = (if (oneF cs b r).2 = 0 then some ([], false) else impl_decodeChars.l0 (k + 12) cs ((b :: r).drop ((oneF cs b r).2).toNat) (acc ++ [(oneF cs b r).1])) := by
  have hf := impl_firstChar_eq k cs b r hc hb
  have hn := oneF_snd cs b r
  have a2 : ((b :: r).length : Int) > 0 := by rw [List.length_cons]; omega
  conv => lhs; unfold impl_decodeChars.l0
  rw [if_pos a2, hf]
  show (if (oneF cs b r).2 = 0 then some ([], false) else if acc.length < 17592186044416 then (if 0 ≤ (oneF cs b r).2 then (if (oneF cs b r).2 ≤ ((b :: r).length : Int) then impl_decodeChars.l0 (k + 12) cs ((b :: r).drop ((oneF cs b r).2).toNat) (acc ++ [(oneF cs b r).1]) else none) else none) else none) = _
  clear hf
  generalize oneF cs b r = q at hn
  by_cases hz : q.2 = 0
  · rw [if_pos hz, if_pos hz]
  · rw [if_neg hz, if_neg hz, if_pos ha, if_pos (by omega), if_pos (by rw [List.length_cons]; omega)]
theorem dec_enc (cs : Int) (hc : 1 ≤ cs ∧ cs ≤ 5) : ∀ (codes : List Int) (k : Nat) (acc : List Int), (∀ x ∈ codes, charB x = true ∧ hasB cs x = true) → codes.length + 13 ≤ k → acc.length + codes.length ≤ 4194304 → impl_decodeChars.l0 k cs (codes.flatMap (encB cs)) acc = some (acc ++ codes, true)
  | [], k, acc, _, hk, _ => by
    obtain ⟨k, rfl⟩ : ∃ m, k = m + 1 := ⟨k - 1, by omega⟩
    unfold impl_decodeChars.l0
    rw [if_neg (by simp)]
    simp
  | c :: cd, k, acc, h, hk, ha => by
    simp only [List.length_cons] at hk ha
    obtain ⟨k, rfl⟩ : ∃ m, k = m + 13 := ⟨k - 13, by omega⟩
    obtain ⟨g1, g2⟩ := h c (by simp)
    obtain ⟨b, r, e1, e2⟩ := enc_oneF cs c (cd.flatMap (encB cs)) hc g1 g2
    have hby : ∀ x ∈ b :: (r ++ cd.flatMap (encB cs)), 0 ≤ x ∧ x ≤ 255 := by
      intro x hx
      rw [← List.cons_append, ← e1, List.mem_append, List.mem_flatMap] at hx
      rcases hx with hx | ⟨y, _, hx⟩
      · exact encB_bytes cs c x hx
      · exact encB_bytes cs y x hx
    have hl : (encB cs c).length = r.length + 1 := by rw [e1, List.length_cons]
    rw [List.flatMap_cons, e1, List.cons_append, dec_step cs hc b _ hby k acc (by omega), e2]
    simp only
    rw [if_neg (by omega), Int.toNat_natCast, hl, List.drop_succ_cons, List.drop_left, dec_enc cs hc cd (k + 12) (acc ++ [c]) (fun x hx => h x (by simp [hx])) (by omega) (by rw [List.length_append, List.length_singleton]; omega), List.append_assoc]
    rfl
theorem enc_dec (cs : Int) (hc : 1 ≤ cs ∧ cs ≤ 5) : ∀ (n : Nat) (L acc out : List Int) (k : Nat), L.length ≤ n → (∀ x ∈ L, 0 ≤ x ∧ x ≤ 255) → acc.length + n ≤ 4194304 → impl_decodeChars.l0 (k + n + 13) cs L acc = some (out, true) → ∃ codes, out = acc ++ codes ∧ codes.flatMap (encB cs) = L ∧ (∀ x ∈ codes, charB x = true ∧ hasB cs x = true) ∧ codes.length ≤ L.length
  | n, [], acc, out, k, _, _, _, h => by
    unfold impl_decodeChars.l0 at h
    rw [if_neg (by simp)] at h
    injection h with h
    injection h with h _
    exact ⟨[], by simp [h], rfl, by simp, Nat.le_refl _⟩
  | 0, b :: r, acc, out, k, hl, _, _, _ => absurd hl (by simp)
  | n + 1, b :: r, acc, out, k, hl, hb, ha, h => by
    rw [show k + (n + 1) + 13 = (k + n + 1) + 13 by omega, dec_step cs hc b r hb (k + n + 1) acc (by omega)] at h
    have hn := oneF_snd cs b r
    have he := oneF_enc cs b r hc hb
    generalize oneF cs b r = q at hn he h
    by_cases hz : q.2 = 0
    · rw [if_pos hz] at h
      injection h with h
      injection h with _ h
      cases h
    · obtain ⟨e1, e2, e3⟩ := he hz
      rw [if_neg hz] at h
      simp only [List.length_cons] at hl
      obtain ⟨codes, c1, c2, c3, c4⟩ := enc_dec cs hc n ((b :: r).drop q.2.toNat) (acc ++ [q.1]) out k (by rw [List.length_drop, List.length_cons]; omega) (fun x hx => hb x (List.mem_of_mem_drop hx)) (by rw [List.length_append, List.length_singleton]; omega) h
      refine ⟨q.1 :: codes, by rw [c1, List.append_assoc]; rfl, ?_, ?_, ?_⟩
      · rw [List.flatMap_cons, c2, e3, List.take_append_drop]
      · intro x hx
        rcases List.mem_cons.1 hx with rfl | hx
        · exact ⟨e1, e2⟩
        · exact c3 x hx
      · rw [List.length_drop, List.length_cons] at c4
        rw [List.length_cons, List.length_cons]
        omega
/-- The mapping of a char under a comparator, as a plain law. -/
def mc (a c : Int) : Int :=
  if a = 1 then c else if decide (97 ≤ c ∧ c ≤ 122) = true then wrap64 (c - 32) else if a = 2 then c else
    if ((decide (224 ≤ c ∧ c ≤ 254) && c != 247) || (decide (945 ≤ c ∧ c ≤ 969) && c != 962) || decide (1072 ≤ c ∧ c ≤ 1103)) = true then wrap64 (c - 32) else if decide (1104 ≤ c ∧ c ≤ 1119) = true then wrap64 (c - 80) else c
def mapo (a : Int) (l : List Int) : Int × List Int :=
  if 1 ≤ a ∧ a ≤ 3 then (if 400 < l.length then (2, []) else if l.all charB = true then (0, l.map (mc a)) else (3, [])) else (4, [])
theorem mapo_len (a : Int) (l : List Int) : (mapo a l).2.length ≤ 400 := by
  unfold mapo
  repeat' split
  all_goals simp
  omega
def fault (l : List Int) : Int := if 400 < l.length then 2 else if l.all charB = true then 0 else 3
theorem fault_zero {l : List Int} (h : fault l = 0) : l.length ≤ 400 ∧ ∀ x ∈ l, charB x = true := by
  unfold fault at h
  by_cases h1 : 400 < l.length
  · rw [if_pos h1] at h; omega
  · rw [if_neg h1] at h
    by_cases h2 : l.all charB = true
    · exact ⟨by omega, List.all_eq_true.mp h2⟩
    · rw [if_neg h2] at h; omega
theorem mapo_code (a : Int) (l : List Int) : (mapo a l).1 = 0 ↔ (1 ≤ a ∧ a ≤ 3) ∧ fault l = 0 := by
  unfold mapo fault
  by_cases h1 : 1 ≤ a ∧ a ≤ 3
  · rw [if_pos h1]
    by_cases h2 : 400 < l.length
    · rw [if_pos h2, if_pos h2]; simp
    · rw [if_neg h2, if_neg h2]
      cases l.all charB <;> simp [h1]
  · rw [if_neg h1]; simp [h1]
theorem fault_of (l : List Int) (h1 : l.length ≤ 400) (h2 : ∀ x ∈ l, charB x = true) : fault l = 0 := by
  unfold fault
  rw [if_neg (by omega), if_pos (List.all_eq_true.mpr h2)]
theorem spec_l2Bytes_eq (k : Nat) (a c : Int) (ha : 1 ≤ a ∧ a ≤ 5) (hh : hasB a c = true) : spec_l2Bytes.f (k + 2) a c = some (encB a c) := by
  obtain ⟨v, hv, _, hp⟩ := cyr k c
  unfold spec_l2Bytes.f encB
  have : a = 1 ∨ a = 2 ∨ a = 3 ∨ a = 4 ∨ a = 5 := by omega
  rcases this with rfl | rfl | rfl | rfl | rfl
  · simp [spec_l2Bytes.j0]
  · simp [spec_l2Bytes.j0]
  · have hc : Cyr c := by unfold hasB at hh; simpa using hh
    simp [spec_l2Bytes.j0, hv, hp hc]
  · simp [spec_l2Bytes.j0]
    repeat' split
    all_goals rfl
  · simp [spec_l2Bytes.j0]
def enco (a : Int) (acc l : List Int) : List Int × Int :=
  if l.all (hasB a) = true then (if 400 < (acc ++ l.flatMap (encB a)).length then ([], 2) else (acc ++ l.flatMap (encB a), 0)) else ([], 8)
theorem spec_l2Encode.l0_eq (a : Int) (ha : 1 ≤ a ∧ a ≤ 5) (L : List Int) (hb : L.length ≤ 1048576) : ∀ (n k i : Nat) (acc : List Int), L.length = i + n → n + 2 < k → acc.length + 3 * n ≤ 4194304 → spec_l2Encode.l0 k a L acc (i : Int) = some (enco a acc (L.drop i))
  | _, 0, _, _, _, h, _ => absurd h (by omega)
  | 0, k + 1, i, acc, hi, _, _ => by
    have h1 : ¬ ((i : Int) < (L.length : Int)) := by omega
    unfold spec_l2Encode.l0 enco
    rw [if_neg h1, List.drop_eq_nil_of_le (by omega)]
    simp only [List.all_nil, if_true, List.flatMap_nil, List.append_nil]
    by_cases h2 : 400 < acc.length
    · rw [if_pos (by omega), if_pos h2]
    · rw [if_neg (by omega), if_neg h2]
  | n + 1, k + 1, i, acc, hi, h, hc => by
    have h1 : (i : Int) < (L.length : Int) := by omega
    have h2 : (0 : Int) ≤ (i : Int) := by omega
    have h4 : wrap64 ((i : Int) + 1) = ((i + 1 : Nat) : Int) := by rw [wrap64_in (by omega)]; omega
    obtain ⟨k2, rfl⟩ : ∃ k2, k = k2 + 2 := ⟨k - 2, by omega⟩
    unfold spec_l2Encode.l0
    rw [if_pos h1, if_pos h2, rd_at L i (by omega), spec_l2Has_eq (k2 + 1), Option.bind_some, List.drop_eq_getElem_cons (by omega : i < L.length), h4]
    have hl := encB_len a L[i]
    cases hh : hasB a L[i] with
    | true =>
      rw [if_pos rfl, spec_l2Bytes_eq k2 a _ ha hh, Option.bind_some, if_pos (by omega), spec_l2Encode.l0_eq a ha L hb n (k2 + 2) (i + 1) _ (by omega) (by omega) (by rw [List.length_append]; omega)]
      unfold enco
      rw [List.all_cons, hh, Bool.true_and, List.flatMap_cons, List.append_assoc]
    | false =>
      rw [if_neg (by decide)]
      unfold enco
      rw [List.all_cons, hh, Bool.false_and, if_neg (by decide)]
theorem spec_l2Fault.l0_eq (x0 : List Int) (hb : x0.length ≤ maxLen) : ∀ (n k i : Nat), x0.length = i + n → n < k → spec_l2Fault.l0 k x0 (i : Int) = some (if (x0.drop i).all charB = true then 0 else 3)
  | 0, 0, _, _, h => absurd h (by omega)
  | 0, k + 1, i, hi, _ => by
    have h1 : ¬ ((i : Int) < (x0.length : Int)) := by omega
    unfold spec_l2Fault.l0
    rw [if_neg h1, List.drop_eq_nil_of_le (by omega)]
    rfl
  | n + 1, 0, _, _, h => absurd h (by omega)
  | n + 1, k + 1, i, hi, h => by
    have hm := maxLen_le
    have h1 : (i : Int) < (x0.length : Int) := by omega
    have h2 : (0 : Int) ≤ (i : Int) := by omega
    have h4 : wrap64 ((i : Int) + 1) = ((i + 1 : Nat) : Int) := by rw [wrap64_in (by omega)]; omega
    unfold spec_l2Fault.l0
    rw [if_pos h1, if_pos h2, h4, rd_at x0 i (by omega), List.drop_eq_getElem_cons (by omega), List.all_cons, spec_l2Fault.l0_eq x0 hb n k (i + 1) (by omega) (by omega), spec_l2Char_eq, Option.bind_some]
    cases charB x0[i] <;> rfl
theorem spec_l2Fault_eq (l : List Int) (k : Nat) (hb : l.length ≤ maxLen) (hk : l.length < k) : spec_l2Fault.f k l = some (if 400 < l.length then 2 else if l.all charB = true then 0 else 3) := by
  unfold spec_l2Fault.f
  by_cases h : 400 < l.length
  · rw [if_pos (by omega), if_pos h]
  · rw [if_neg (by omega), if_neg h]
    have := spec_l2Fault.l0_eq l hb l.length k 0 (by omega) hk
    simpa using this
theorem CodesFault_p_eq (c : Int) : impl_CodesFault.p c = !charB c := by
  unfold impl_CodesFault.p charB
  rw [Bool.eq_iff_iff]; simp only [Bool.and_eq_true, Bool.or_eq_true, Bool.not_eq_true', decide_eq_true_eq, decide_eq_false_iff_not, Bool.and_eq_false_iff, Bool.not_eq_false', Bool.or_eq_false_iff]; omega
theorem CodesFault_any (l : List Int) : l.any impl_CodesFault.p = !(l.all charB) := by
  induction l with
  | nil => rfl
  | cons x xs ih => rw [List.any_cons, List.all_cons, ih, CodesFault_p_eq, Bool.not_and]
theorem impl_CodesFault_eq (l : List Int) : impl_CodesFault.f l = some (if 400 < l.length then 2 else if l.all charB = true then 0 else 3) := by
  unfold impl_CodesFault.f
  rw [CodesFault_any]
  by_cases h : 400 < l.length
  · rw [if_pos h, if_pos h]
  · rw [if_neg h, if_neg h]
    cases l.all charB <;> rfl
def eto (a : Int) (l : List Int) : Int × List Int :=
  if 1 ≤ a ∧ a ≤ 5 then (if fault l = 0 then ((enco a [] l).2, (enco a [] l).1) else (fault l, [])) else (4, [])
theorem eto_len (a : Int) (l : List Int) : (eto a l).2.length ≤ 400 := by
  unfold eto enco
  repeat' split
  all_goals simp
  all_goals (rename_i h; simp at h; omega)
theorem spec_EncodeText_eq (a : Int) (l : List Int) (k : Nat) (hb : l.length ≤ 1048576) (hk : l.length + 8 < k) : spec_EncodeText.f k a l = some (eto a l) := by
  unfold spec_EncodeText.f eto
  simp only [spec_l2Set.f, in_eq, Option.bind_some]
  by_cases ha : 1 ≤ a ∧ a ≤ 5
  · rw [decide_eq_true ha, if_pos rfl, if_pos ha, spec_l2Fault_eq l k (by unfold maxLen; omega) (by omega), Option.bind_some]
    change (if fault l = 0 then _ else some (fault l, [])) = _
    by_cases hf : fault l = 0
    · rw [if_pos hf, if_pos hf]
      have := spec_l2Encode.l0_eq a ha l hb l.length k 0 [] (by omega) (by omega) (by simp; omega)
      unfold spec_l2Encode.f
      rw [show ((0 : Nat) : Int) = 0 from rfl, List.drop_zero] at this
      rw [this]
      rfl
    · rw [if_neg hf, if_neg hf]
  · rw [decide_eq_false ha, if_neg ha]; rfl
theorem impl_EncodeText_eq (a : Int) (l : List Int) (k : Nat) (hb : l.length ≤ 1048576) (hk : l.length + 8 < k) : impl_EncodeText.f k a l = some (eto a l) := by
  unfold impl_EncodeText.f eto
  rw [impl_isCharset_eq, Option.bind_some]
  by_cases ha : 1 ≤ a ∧ a ≤ 5
  · rw [decide_eq_true ha, if_neg (by decide), if_pos ha, impl_CodesFault_eq, Option.bind_some]
    change (if fault l ≠ 0 then some (fault l, []) else _) = _
    by_cases hf : fault l = 0
    · rw [if_neg (by rw [hf]; decide), if_pos hf]
      obtain ⟨hl, hch⟩ := fault_zero hf
      have hL : ∀ x ∈ l, 0 ≤ x ∧ x ≤ 65535 := fun x hx => by have := (charB_iff x).1 (hch x hx); omega
      have hany : ∀ m : List Int, (∀ x ∈ m, charB x = true) → m.any (impl_EncodeText.p a) = !(m.all (hasB a)) := by
        intro m
        induction m with
        | nil => intro _; rfl
        | cons x xs ih =>
          intro h
          rw [List.any_cons, List.all_cons, ih (fun y hy => h y (by simp [hy])), Bool.not_and]
          congr 1
          unfold impl_EncodeText.p
          rw [impl_HasChar_eq 0, h x (by simp), decide_eq_true ha]
          rfl
      rw [hany l hch, impl_encodeChars_eq a ha l hL k hb (by omega)]
      unfold enco
      cases l.all (hasB a) with
      | false => rfl
      | true =>
        simp only [Bool.not_true, Bool.false_eq_true, if_false, if_true, Option.bind_some, List.nil_append]
        split <;> rfl
    · rw [if_pos hf, if_neg hf]
  · rw [decide_eq_false ha, if_neg ha]; rfl
theorem laws_lwNums.l0_eq (X Y : List Int) (hx : X.length ≤ 1048576) (hxy : X.length = Y.length) : ∀ (n k i : Nat), X.length = i + n → n < k → laws_lwNums.l0 k X Y (i : Int) = some (decide (X.drop i = Y.drop i))
  | _, 0, _, _, h => absurd h (by omega)
  | 0, k + 1, i, hi, _ => by
    have h1 : ¬ ((i : Int) < (X.length : Int)) := by omega
    unfold laws_lwNums.l0
    rw [if_neg h1, List.drop_eq_nil_of_le (by omega : X.length ≤ i), List.drop_eq_nil_of_le (by omega : Y.length ≤ i)]
    rfl
  | n + 1, k + 1, i, hi, h => by
    have h1 : (i : Int) < (X.length : Int) := by omega
    have h1y : (i : Int) < (Y.length : Int) := by omega
    have h2 : (0 : Int) ≤ (i : Int) := by omega
    have h4 : wrap64 ((i : Int) + 1) = ((i + 1 : Nat) : Int) := by rw [wrap64_in (by omega)]; omega
    unfold laws_lwNums.l0
    rw [if_pos h1, if_pos h2, if_pos h1y, rd_at X i (by omega), rd_at Y i (by omega), h4, laws_lwNums.l0_eq X Y hx hxy n k (i + 1) (by omega) (by omega), List.drop_eq_getElem_cons (by omega : i < X.length), List.drop_eq_getElem_cons (by omega : i < Y.length)]
    by_cases h5 : X[i] = Y[i]
    · rw [if_pos h5, h5]
      congr 1
      rw [decide_eq_decide]
      exact ⟨fun e => by rw [e], fun e => (List.cons.inj e).2⟩
    · rw [if_neg h5, decide_eq_false (fun e => h5 (List.cons.inj e).1)]
theorem laws_lwNums_eq (X Y : List Int) (k : Nat) (hx : X.length ≤ 1048576) (hk : X.length < k) : laws_lwNums.f k X Y = some (decide (X = Y)) := by
  unfold laws_lwNums.f
  by_cases h : X.length = Y.length
  · rw [if_pos (by omega)]
    have := laws_lwNums.l0_eq X Y hx h X.length k 0 (by omega) hk
    simpa using this
  · rw [if_neg (by omega), decide_eq_false (fun e => h (by rw [e]))]
theorem byte_wf {l : List Int} (h : ∀ x ∈ l, (Lit.int .u8 x).wf = true) : ∀ x ∈ l, 0 ≤ x ∧ x ≤ 255 := by
  intro x hx
  have h1 := h x hx
  unfold Lit.wf at h1
  rw [Bool.and_eq_true, decide_eq_true_eq, decide_eq_true_eq, show IntKind.u8.min = 0 from by decide, show IntKind.u8.max = 255 from by decide] at h1
  exact h1
theorem rd_byte {l : List Int} (h : ∀ x ∈ l, 0 ≤ x ∧ x ≤ 255) (j : Int) : 0 ≤ rd l j ∧ rd l j ≤ 255 := by
  unfold rd
  rw [List.getD_eq_getElem?_getD]
  cases hg : l[j.toNat]? with
  | none => simp
  | some v =>
    have := h v (List.mem_of_getElem? hg)
    simpa using this
theorem tmod_in (x n : Int) (hx : 0 ≤ x) (hn : 1 ≤ n) : 0 ≤ Int.tmod x n ∧ Int.tmod x n < n :=
  ⟨Int.tmod_nonneg _ hx, Int.tmod_lt_of_pos _ (by omega)⟩
/-- A draw tells a number below its bound. -/
theorem spec_l1Next_eq (l : List Int) (hB : ∀ x ∈ l, 0 ≤ x ∧ x ≤ 255) (hl : l.length ≤ 1048576) (i n : Int) (hi : 0 ≤ i ∧ i ≤ 4294967296) (hn : 1 ≤ n) : ∃ v, spec_l1Next.f l i n = some (v, i + 1) ∧ 0 ≤ v ∧ v < n := by
  unfold spec_l1Next.f
  have a1 : wrap64 (i + 1) = i + 1 := wrap64_in (by omega)
  have a2 : wrap64 (i + 1 - 1) = i := by rw [show i + 1 - 1 = i by omega]; exact wrap64_in (by omega)
  rw [a1, a2, if_neg (by omega)]
  by_cases h0 : (l.length : Int) = 0
  · have a3 : wrap64 (i * 7) = i * 7 := wrap64_in (by omega)
    rw [if_pos h0, if_neg (by omega), a3]
    exact ⟨_, rfl, tmod_in _ _ (by omega) hn⟩
  · rw [if_neg h0]
    have h1 := tmod_in i (l.length : Int) hi.1 (by omega)
    rw [if_pos h1.1, if_pos h1.2]
    have hd : 0 ≤ Int.tdiv i (l.length : Int) ∧ Int.tdiv i (l.length : Int) ≤ i := by
      rw [Int.tdiv_eq_ediv_of_nonneg hi.1]
      exact ⟨Int.ediv_nonneg hi.1 (by omega), Int.ediv_le_self _ hi.1⟩
    have hr1 := rd_byte hB (Int.tmod i (l.length : Int))
    generalize rd l (Int.tmod i (l.length : Int)) = r1 at hr1
    generalize Int.tdiv i (l.length : Int) = q at hd
    have b0 : wrap64 r1 = r1 := wrap64_in (by omega)
    have b1 : wrap64 q = q := wrap64_in (by omega)
    have b2 : wrap64 (q * 37) = q * 37 := wrap64_in (by omega)
    have b3 : wrap64 (r1 + q * 37) = r1 + q * 37 := wrap64_in (by omega)
    rw [b0, b1, b2, b3]
    by_cases h2 : n > 200
    · rw [if_pos h2, a1]
      have h3 := tmod_in (i + 1) (l.length : Int) (by omega) (by omega)
      rw [if_pos h3.1, if_pos h3.2, if_neg (by omega)]
      have hr2 := rd_byte hB (Int.tmod (i + 1) (l.length : Int))
      generalize rd l (Int.tmod (i + 1) (l.length : Int)) = r2 at hr2
      have c0 : wrap64 r2 = r2 := wrap64_in (by omega)
      have c1 : wrap64 ((r1 + q * 37) * 251) = (r1 + q * 37) * 251 := wrap64_in (by omega)
      have c2 : wrap64 (r2 * 13) = r2 * 13 := wrap64_in (by omega)
      have c3 : wrap64 ((r1 + q * 37) * 251 + r2 * 13) = (r1 + q * 37) * 251 + r2 * 13 := wrap64_in (by omega)
      have c4 : wrap64 ((r1 + q * 37) * 251 + r2 * 13 + i) = (r1 + q * 37) * 251 + r2 * 13 + i := wrap64_in (by omega)
      rw [c0, c1, c2, c3, c4]
      exact ⟨_, rfl, tmod_in _ _ (by omega) hn⟩
    · rw [if_neg h2, if_neg (by omega)]
      exact ⟨_, rfl, tmod_in _ _ (by omega) hn⟩
theorem spec_l1Pick_eq (l : List Int) (hB : ∀ x ∈ l, 0 ≤ x ∧ x ≤ 255) (hl : l.length ≤ 1048576) (i : Int) (hi : 0 ≤ i ∧ i ≤ 4294967296) (L : List Int) (hL : 1 ≤ L.length) : ∃ j : Nat, j < L.length ∧ spec_l1Pick.f l i L = some (rd L (j : Int), i + 1) := by
  obtain ⟨v, hv, h0, h1⟩ := spec_l1Next_eq l hB hl i (L.length : Int) hi (by omega)
  unfold spec_l1Pick.f
  rw [hv, Option.bind_some]
  refine ⟨v.toNat, by omega, ?_⟩
  rw [Int.toNat_of_nonneg h0]
  simp only
  rw [if_pos h0, if_pos h1]
theorem spec_l2Codes.l0_eq (l : List Int) (hB : ∀ x ∈ l, 0 ≤ x ∧ x ≤ 255) (hl : l.length ≤ 1048576) : ∀ (n k : Nat) (acc : List Int) (i : Int), n < k → (0 ≤ i ∧ i + n ≤ 4294967296) → acc.length + n ≤ 1000 → (∀ x ∈ acc, x ∈ ([97, 66, 32, 228, 1078, 1046, 8470, 167, 8364, 127, 160, 1037] : List Int)) → ∃ out, spec_l2Codes.l0 k acc (n : Int) l i = some (out, i + n) ∧ out.length = acc.length + n ∧ ∀ x ∈ out, x ∈ ([97, 66, 32, 228, 1078, 1046, 8470, 167, 8364, 127, 160, 1037] : List Int)
  | _, 0, _, _, h, _, _, _ => absurd h (by omega)
  | 0, k + 1, acc, i, _, hi, ha, hx => by
    unfold spec_l2Codes.l0
    rw [if_neg (by omega)]
    exact ⟨acc, by simp, by simp, hx⟩
  | n + 1, k + 1, acc, i, h, hi, ha, hx => by
    obtain ⟨j, hj, hp⟩ := spec_l1Pick_eq l hB hl i (by omega) ([97, 66, 32, 228, 1078, 1046, 8470, 167, 8364, 127, 160, 1037] : List Int) (by decide)
    have hw : wrap64 (((n + 1 : Nat) : Int) - 1) = (n : Int) := by rw [wrap64_in (by omega)]; omega
    have hm : rd [97, 66, 32, 228, 1078, 1046, 8470, 167, 8364, 127, 160, 1037] (j : Int) ∈ ([97, 66, 32, 228, 1078, 1046, 8470, 167, 8364, 127, 160, 1037] : List Int) := by
      rw [rd_at _ j hj]
      exact List.getElem_mem hj
    unfold spec_l2Codes.l0
    rw [if_pos (by omega), hp, Option.bind_some, if_pos (by omega), hw]
    simp only
    generalize rd [97, 66, 32, 228, 1078, 1046, 8470, 167, 8364, 127, 160, 1037] (j : Int) = y at hm
    obtain ⟨out, ho, hlen, hb⟩ := spec_l2Codes.l0_eq l hB hl n k (acc ++ [y]) (i + 1) (by omega) (by omega) (by simp; omega) (by
      intro x hx'
      rcases List.mem_append.1 hx' with h' | h'
      · exact hx x h'
      · rw [List.mem_singleton.1 h']; exact hm)
    refine ⟨out, ?_, by simp at hlen; omega, hb⟩
    rw [ho]
    congr 2
    omega
theorem spec_l2Codes_eq (l : List Int) (hB : ∀ x ∈ l, 0 ≤ x ∧ x ≤ 255) (hl : l.length ≤ 1048576) (k : Nat) (i : Int) (hk : 8 ≤ k) (hi : 0 ≤ i ∧ i ≤ 1000000) : ∃ out j, spec_l2Codes.f k l i = some (out, j) ∧ out.length ≤ 5 ∧ (∀ x ∈ out, x ∈ ([97, 66, 32, 228, 1078, 1046, 8470, 167, 8364, 127, 160, 1037] : List Int)) ∧ i ≤ j ∧ j ≤ i + 6 := by
  obtain ⟨v, hv, h0, h1⟩ := spec_l1Next_eq l hB hl i 6 (by omega) (by omega)
  obtain ⟨n, rfl⟩ := Int.eq_ofNat_of_zero_le h0
  obtain ⟨out, ho, hlen, hm⟩ := spec_l2Codes.l0_eq l hB hl n k [] (i + 1) (by omega) (by omega) (by simp; omega) (by simp)
  unfold spec_l2Codes.f
  rw [hv, Option.bind_some]
  exact ⟨out, _, ho, by simp at hlen; omega, hm, by omega, by omega⟩
theorem spec_l2Bent_eq (l : List Int) (hB : ∀ x ∈ l, 0 ≤ x ∧ x ≤ 255) (hl : l.length ≤ 1048576) (k : Nat) (i : Int) (hk : 8 ≤ k) (hi : 0 ≤ i ∧ i ≤ 1000) : ∃ out j, spec_l2Bent.f k l i = some (out, j) ∧ out.length ≤ 401 ∧ i ≤ j ∧ j ≤ i + 10 := by
  obtain ⟨c, j, h1, h2, _, h3, h4⟩ := spec_l2Codes_eq l hB hl k i hk (by omega)
  obtain ⟨v, hv, v0, v1⟩ := spec_l1Next_eq l hB hl j 10 (by omega) (by omega)
  unfold spec_l2Bent.f
  rw [h1, Option.bind_some]
  simp only
  rw [hv, Option.bind_some]
  simp only
  by_cases c0 : v = 0
  · obtain ⟨q, hq, hp⟩ := spec_l1Pick_eq l hB hl (j + 1) (by omega) ([-1, 55296, 57343, 65535, 65536] : List Int) (by decide)
    rw [if_pos c0, hp, Option.bind_some, if_pos (by omega)]
    exact ⟨_, _, rfl, by simp; omega, by omega, by omega⟩
  · rw [if_neg c0]
    by_cases c1 : v = 1
    · obtain ⟨q, hq, hp⟩ := spec_l1Pick_eq l hB hl (j + 1) (by omega) ([400, 401, 300] : List Int) (by decide)
      have h5 : 300 ≤ rd [400, 401, 300] (q : Int) ∧ rd [400, 401, 300] (q : Int) ≤ 401 := by
        have hq2 : q < 3 := hq
        rcases (by omega : q = 0 ∨ q = 1 ∨ q = 2) with rfl | rfl | rfl <;> decide
      rw [if_pos c1, hp, Option.bind_some]
      simp only
      generalize rd [400, 401, 300] (q : Int) = y at h5
      rw [if_pos (by omega), if_pos (by omega)]
      exact ⟨_, _, rfl, by simp; omega, by omega, by omega⟩
    · rw [if_neg c1]
      exact ⟨_, _, rfl, by omega, by omega, by omega⟩
theorem spec_l2Draw_eq (l : List Int) (hB : ∀ x ∈ l, 0 ≤ x ∧ x ≤ 255) (hl : l.length ≤ 1048576) (i : Int) (hi : 0 ≤ i ∧ i ≤ 1000) : ∃ a, spec_l2Draw.f l i = some (a, i + 1) := by
  obtain ⟨j, hj, hp⟩ := spec_l1Pick_eq l hB hl i (by omega) ([1, 2, 3, 4, 5, 4, 3, 0, 6] : List Int) (by decide)
  unfold spec_l2Draw.f
  rw [hp]
  exact ⟨_, rfl⟩
theorem spec_l1Chance_eq (l : List Int) (hB : ∀ x ∈ l, 0 ≤ x ∧ x ≤ 255) (hl : l.length ≤ 1048576) (i n : Int) (hi : 0 ≤ i ∧ i ≤ 4294967296) (hn : 1 ≤ n) : ∃ b, spec_l1Chance.f l i n = some (b, i + 1) := by
  obtain ⟨v, hv, _, _⟩ := spec_l1Next_eq l hB hl i n hi hn
  unfold spec_l1Chance.f
  rw [hv]
  exact ⟨_, rfl⟩
theorem bt_range (s : ByteArray) (i : Int) : 0 ≤ bt s i ∧ bt s i ≤ 255 := by
  unfold bt
  split
  · rename_i h
    have := UInt8.toNat_lt (s[i.toNat]'h)
    omega
  · omega
theorem strOfNums_size (l : List Int) : (strOfNums l).size = l.length := by
  show (strOfNums l).data.size = _
  simp [strOfNums]
theorem bytesOf_strOfNums (l : List Int) (h : ∀ x ∈ l, 0 ≤ x ∧ x ≤ 255) : bytesOf (strOfNums l) = l := by
  unfold bytesOf strOfNums
  simp only [List.map_map]
  conv => rhs; rw [← List.map_id l]
  apply List.map_congr_left
  intro x hx
  have := h x hx
  simp only [Function.comp, id]
  rw [UInt8.toNat_ofNat_of_lt' (by show x.toNat < 256; omega)]
  omega
theorem strOfNums_bytesOf (s : ByteArray) : strOfNums (bytesOf s) = s := by
  unfold bytesOf strOfNums
  rw [List.map_map]
  have h : (s.data.toList.map ((fun n : Int => UInt8.ofNat n.toNat) ∘ fun b : UInt8 => (b.toNat : Int))) = s.data.toList := by
    conv => rhs; rw [← List.map_id s.data.toList]
    apply List.map_congr_left
    intro x _
    simp
  rw [h]
theorem bytesOf_in (s : ByteArray) : ∀ x ∈ bytesOf s, 0 ≤ x ∧ x ≤ 255 := by
  intro x hx
  obtain ⟨b, _, rfl⟩ := List.mem_map.1 hx
  have := UInt8.toNat_lt b
  omega
theorem bt_strOfNums (l : List Int) (h : ∀ x ∈ l, 0 ≤ x ∧ x ≤ 255) (i : Nat) (hi : i < l.length) : bt (strOfNums l) (i : Int) = l[i] := by
  rw [← rd_bytesOf, bytesOf_strOfNums l h, rd_at l i hi]
theorem spec_l1Some.l0_eq (l : List Int) (hB : ∀ x ∈ l, 0 ≤ x ∧ x ≤ 255) (hl : l.length ≤ 1048576) : ∀ (n k : Nat) (acc : List Int) (i : Int), n < k → (0 ≤ i ∧ i + 2 * n ≤ 4294967296) → acc.length + n ≤ 1000 → (∀ x ∈ acc, 0 ≤ x ∧ x ≤ 255) → ∃ out, spec_l1Some.l0 k (n : Int) acc l i = some (out, i + 2 * n) ∧ out.length = acc.length + n ∧ ∀ x ∈ out, 0 ≤ x ∧ x ≤ 255
  | _, 0, _, _, h, _, _, _ => absurd h (by omega)
  | 0, k + 1, acc, i, _, hi, ha, hx => by
    unfold spec_l1Some.l0
    rw [if_neg (by omega)]
    exact ⟨acc, by simp, by simp, hx⟩
  | n + 1, k + 1, acc, i, h, hi, ha, hx => by
    obtain ⟨v, hv, h0, h1⟩ := spec_l1Next_eq l hB hl i 256 (by omega) (by omega)
    obtain ⟨j, hj, hp⟩ := spec_l1Pick_eq l hB hl (i + 1) (by omega) ([v, 97, 32, 10, 61, 122] : List Int) (by simp)
    have hw : wrap64 (((n + 1 : Nat) : Int) - 1) = (n : Int) := by rw [wrap64_in (by omega)]; omega
    unfold spec_l1Some.l0
    rw [if_pos (by omega), hv, Option.bind_some, hp, Option.bind_some, if_pos (by omega), hw]
    generalize rd [v, 97, 32, 10, 61, 122] (j : Int) = y
    obtain ⟨out, ho, hlen, hb⟩ := spec_l1Some.l0_eq l hB hl n k (acc ++ [y % 256]) (i + 1 + 1) (by omega) (by omega) (by simp; omega) (by
      intro x hx'
      rcases List.mem_append.1 hx' with h' | h'
      · exact hx x h'
      · rw [List.mem_singleton.1 h']; omega)
    refine ⟨out, ?_, by simp at hlen; omega, hb⟩
    rw [ho]
    congr 2
    omega
theorem spec_l1Some_eq (l : List Int) (hB : ∀ x ∈ l, 0 ≤ x ∧ x ≤ 255) (hl : l.length ≤ 1048576) (n k : Nat) (i : Int) (hk : n < k) (hi : 0 ≤ i ∧ i + 2 * n ≤ 4294967296) (hn : n ≤ 1000) : ∃ out, spec_l1Some.f k l i (n : Int) = some (out, i + 2 * n) ∧ out.length = n ∧ ∀ x ∈ out, 0 ≤ x ∧ x ≤ 255 := by
  obtain ⟨out, h1, h2, h3⟩ := spec_l1Some.l0_eq l hB hl n k [] i hk hi (by simpa using hn) (by simp)
  exact ⟨out, h1, by simpa using h2, h3⟩
theorem spec_l1Long_eq (l : List Int) (hB : ∀ x ∈ l, 0 ≤ x ∧ x ≤ 255) (hl : l.length ≤ 1048576) (k : Nat) (i : Int) (hk : 16 ≤ k) (hi : 0 ≤ i ∧ i ≤ 1000000) : ∃ out j, spec_l1Long.f k l i = some (out, j) ∧ out.length ≤ 401 ∧ (∀ x ∈ out, 0 ≤ x ∧ x ≤ 255) ∧ i ≤ j ∧ j ≤ i + 40 := by
  obtain ⟨b, hb⟩ := spec_l1Chance_eq l hB hl i 30 (by omega) (by omega)
  unfold spec_l1Long.f
  rw [hb, Option.bind_some]
  cases b with
  | true =>
    obtain ⟨j, hj, hp⟩ := spec_l1Pick_eq l hB hl (i + 1) (by omega) ([400, 401] : List Int) (by decide)
    simp only [if_true]
    rw [hp, Option.bind_some]
    have h4 : rd [400, 401] (j : Int) = 400 ∨ rd [400, 401] (j : Int) = 401 := by
      have hj2 : j < 2 := hj
      rcases (by omega : j = 0 ∨ j = 1) with rfl | rfl
      · exact .inl rfl
      · exact .inr rfl
    simp only
    rw [if_pos (by omega), if_pos (by omega)]
    refine ⟨_, _, rfl, by simp; omega, ?_, by omega, by omega⟩
    intro x hx
    rw [(List.mem_replicate.1 hx).2]
    omega
  | false =>
    simp only [Bool.false_eq_true, if_false]
    obtain ⟨v, hv, h0, h1⟩ := spec_l1Next_eq l hB hl (i + 1) 14 (by omega) (by omega)
    obtain ⟨n, rfl⟩ := Int.eq_ofNat_of_zero_le h0
    obtain ⟨out, h2, h3, h4⟩ := spec_l1Some_eq l hB hl n k (i + 1 + 1) (by omega) (by omega) (by omega)
    rw [hv, Option.bind_some]
    simp only
    rw [h2]
    exact ⟨out, _, rfl, by omega, h4, by simp only; omega, by simp only; omega⟩
theorem decode_codes (cs : Int) (data : List Int) (hb : ∀ x ∈ data, 0 ≤ x ∧ x ≤ 255) (k : Nat) (hk : data.length + 13 ≤ k) (r : Int × List Int) (h : impl_DecodeText.f k cs data = some r) (h0 : r.1 = 0) : eto cs r.2 = (0, data) ∧ r.2.length ≤ 400 := by
  unfold impl_DecodeText.f at h
  rw [impl_isCharset_eq, Option.bind_some] at h
  by_cases hc : 1 ≤ cs ∧ cs ≤ 5
  · rw [decide_eq_true hc, if_pos rfl] at h
    by_cases h4 : (data.length : Int) > 400
    · rw [if_pos h4] at h
      injection h with h
      subst h
      exact absurd h0 (by decide)
    · rw [if_neg h4] at h
      obtain ⟨q, hq, h⟩ := Option.bind_eq_some_iff.mp h
      unfold impl_decodeChars.f at hq
      by_cases hq2 : q.2 = true
      · rw [if_pos hq2] at h
        injection h with h
        subst h
        obtain ⟨kk, rfl⟩ : ∃ m, k = m + data.length + 13 := ⟨k - data.length - 13, by omega⟩
        obtain ⟨codes, c1, c2, c3, c4⟩ := enc_dec cs hc data.length data [] q.1 kk (Nat.le_refl _) hb (by simp; omega) (by rw [hq, ← hq2])
        rw [List.nil_append] at c1
        have hl : codes.length ≤ 400 := by omega
        refine ⟨?_, by simp only; rw [c1]; exact hl⟩
        simp only
        rw [c1]
        have hf := fault_of codes hl (fun x hx => (c3 x hx).1)
        unfold eto enco
        rw [if_pos hc, if_pos hf, if_pos (List.all_eq_true.mpr (fun x hx => (c3 x hx).2)), List.nil_append, c2, if_neg (by omega)]
      · rw [if_neg hq2] at h
        injection h with h
        subst h
        exact absurd h0 (by decide)
  · rw [decide_eq_false hc] at h
    injection h with h
    subst h
    exact absurd h0 (by decide)
theorem eto_zero (cs : Int) (codes : List Int) (h : (eto cs codes).1 = 0) : (1 ≤ cs ∧ cs ≤ 5) ∧ fault codes = 0 ∧ (∀ x ∈ codes, charB x = true ∧ hasB cs x = true) ∧ (eto cs codes).2 = codes.flatMap (encB cs) ∧ (codes.flatMap (encB cs)).length ≤ 400 := by
  unfold eto at h ⊢
  by_cases hc : 1 ≤ cs ∧ cs ≤ 5
  · rw [if_pos hc] at h ⊢
    by_cases hf : fault codes = 0
    · rw [if_pos hf] at h ⊢
      unfold enco at h ⊢
      by_cases ha : codes.all (hasB cs) = true
      · rw [if_pos ha] at h ⊢
        rw [List.nil_append] at h ⊢
        by_cases h4 : 400 < (codes.flatMap (encB cs)).length
        · rw [if_pos h4] at h; exact absurd h (by decide)
        · rw [if_neg h4]
          exact ⟨hc, hf, fun x hx => ⟨(fault_zero hf).2 x hx, List.all_eq_true.mp ha x hx⟩, rfl, by omega⟩
      · rw [if_neg ha] at h; exact absurd h (by decide)
    · rw [if_neg hf] at h; exact absurd h hf
  · rw [if_neg hc] at h; exact absurd h (by decide)
theorem eto_eight (cs : Int) (codes : List Int) (h : (eto cs codes).1 = 8) : ¬ (∀ x ∈ codes, hasB cs x = true) := by
  unfold eto at h
  by_cases hc : 1 ≤ cs ∧ cs ≤ 5
  · rw [if_pos hc] at h
    by_cases hf : fault codes = 0
    · rw [if_pos hf] at h
      unfold enco at h
      by_cases ha : codes.all (hasB cs) = true
      · rw [if_pos ha] at h
        split at h <;> simp at h
      · intro hx
        exact ha (List.all_eq_true.mpr hx)
    · rw [if_neg hf] at h
      unfold fault at h
      repeat' split at h
      all_goals exact absurd h (by decide)
  · rw [if_neg hc] at h; exact absurd h (by decide)
theorem back_codes (cs : Int) (codes : List Int) (h : (eto cs codes).1 = 0) (k : Nat) (hk : codes.length + 13 ≤ k) : impl_DecodeText.f k cs (eto cs codes).2 = some (0, codes) := by
  obtain ⟨hc, hf, h1, h2, h3⟩ := eto_zero cs codes h
  have hl := (fault_zero hf).1
  unfold impl_DecodeText.f
  rw [impl_isCharset_eq, Option.bind_some, decide_eq_true hc, if_pos rfl, h2, if_neg (by omega)]
  unfold impl_decodeChars.f
  rw [dec_enc cs hc codes k [] h1 hk (by simp; omega)]
  rfl
theorem draw_dec (l : List Int) (hB : ∀ x ∈ l, 0 ≤ x ∧ x ≤ 255) (hl : l.length ≤ 1048576) (k : Nat) (hk : 30 ≤ k) : ∃ cs data, spec_DrawDecodeText.f k l = some (cs, data) ∧ data.length ≤ 401 ∧ ∀ x ∈ data, 0 ≤ x ∧ x ≤ 255 := by
  obtain ⟨cs, hcs⟩ := spec_l2Draw_eq l hB hl 0 (by omega)
  unfold spec_DrawDecodeText.f spec_l1Source.f
  simp only [Option.bind_some, hcs, spec_l2Set.f, in_eq]
  by_cases hc : 1 ≤ cs ∧ cs ≤ 5
  · obtain ⟨codes, j, h1, h2, _, h3, h4⟩ := spec_l2Codes_eq l hB hl k (0 + 1) (by omega) (by omega)
    have he := spec_l2Encode.l0_eq cs hc codes (by omega) codes.length k 0 [] (by omega) (by omega) (by simp; omega)
    have he2 : spec_l2Encode.f k cs codes = some (enco cs [] codes) := by
      unfold spec_l2Encode.f
      rw [show ((0 : Nat) : Int) = 0 from rfl, List.drop_zero] at he
      exact he
    have hb : ∀ x ∈ (enco cs [] codes).1, 0 ≤ x ∧ x ≤ 255 := by
      intro x hx
      unfold enco at hx
      rw [List.nil_append] at hx
      split at hx
      · split at hx
        · cases hx
        · obtain ⟨y, _, hy⟩ := List.mem_flatMap.1 hx
          exact encB_bytes cs y x hy
      · cases hx
    have hlen : (enco cs [] codes).1.length ≤ 401 := by
      have := flat_len cs codes
      unfold enco
      rw [List.nil_append]
      split
      · split
        · simp
        · simp only; omega
      · simp
    rw [decide_eq_true hc, if_pos rfl, h1, Option.bind_some]
    simp only
    rw [he2, Option.bind_some]
    by_cases h0 : (enco cs [] codes).2 = 0
    · obtain ⟨b, hb4⟩ := spec_l1Chance_eq l hB hl j 4 (by omega) (by omega)
      rw [if_pos h0, hb4, Option.bind_some]
      cases b with
      | true =>
        obtain ⟨out, q, g1, g2, g3, _⟩ := spec_l1Long_eq l hB hl k (j + 1) (by omega) (by omega)
        simp only [if_true]
        rw [g1]
        exact ⟨_, _, rfl, g2, g3⟩
      | false => exact ⟨_, _, rfl, hlen, hb⟩
    · obtain ⟨out, q, g1, g2, g3, _⟩ := spec_l1Long_eq l hB hl k j (by omega) (by omega)
      rw [if_neg h0, g1]
      exact ⟨_, _, rfl, g2, g3⟩
  · obtain ⟨out, q, g1, g2, g3, _⟩ := spec_l1Long_eq l hB hl k (0 + 1) (by omega) (by omega)
    rw [decide_eq_false hc, if_neg (by decide), g1]
    exact ⟨_, _, rfl, g2, g3⟩
theorem draw_enc (l : List Int) (hB : ∀ x ∈ l, 0 ≤ x ∧ x ≤ 255) (hl : l.length ≤ 1048576) (k : Nat) (hk : 30 ≤ k) : ∃ cs codes x y, spec_DrawEncodeText.f k l = some (cs, codes) ∧ codes.length ≤ 401 ∧ spec_DrawHasChar.f l = some (x, y) := by
  obtain ⟨cs, hcs⟩ := spec_l2Draw_eq l hB hl 0 (by omega)
  obtain ⟨codes, j, h1, h2, _⟩ := spec_l2Bent_eq l hB hl k (0 + 1) (by omega) (by omega)
  obtain ⟨q, hq, hp⟩ := spec_l1Pick_eq l hB hl (0 + 1) (by omega) ([127, 128, 160, 161, 167, 173, 1024, 1025, 1037, 1104, 1117, 1119, 8470, 55296, 65535, -1] : List Int) (by decide)
  refine ⟨cs, codes, cs, rd [127, 128, 160, 161, 167, 173, 1024, 1025, 1037, 1104, 1117, 1119, 8470, 55296, 65535, -1] (q : Int), ?_, h2, ?_⟩
  · unfold spec_DrawEncodeText.f spec_l1Source.f
    simp only [Option.bind_some, hcs, h1]
  · unfold spec_DrawHasChar.f spec_l1Source.f
    simp only [Option.bind_some, hcs, hp]
def hcB (a c : Int) : Bool := charB c && (decide (1 ≤ a ∧ a ≤ 5) && hasB a c)
theorem spec_HasChar_eq (k : Nat) (a c : Int) : spec_HasChar.f (k + 1) a c = some (hcB a c) := by
  unfold spec_HasChar.f hcB
  simp only [spec_l2Set.f, in_eq, Option.bind_some, spec_l2Char_eq, spec_l2Has_eq]
  cases decide (1 ≤ a ∧ a ≤ 5) <;> cases charB c <;> simp
theorem charsets_end (k : Nat) (x0 : List Int) (cs : Int) (codes : List Int) (hl : codes.length ≤ 401) (x y : Int) (hd : spec_DrawHasChar.f x0 = some (x, y)) (hk : 600 ≤ k) (i : Nat) (hi : codes.length ≤ i) (hi2 : i ≤ 1000) : laws_FnCharsets.l0 (k + 1) x0 cs codes (codes.all (hcB cs)) (i : Int) (eto cs codes).1 (eto cs codes).2 = some true := by
  obtain ⟨k2, rfl⟩ : ∃ k2, k = k2 + 1 := ⟨k - 1, by omega⟩
  have h1 : ¬ ((i : Int) < (codes.length : Int)) := by omega
  have hsp := spec_EncodeText_eq cs codes (k2 + 1) (by omega) (by omega)
  rw [laws_FnCharsets.l0, if_neg h1, hsp]
  simp only [Option.bind_some]
  by_cases h0 : (eto cs codes).1 = 0
  · obtain ⟨hc, hf, g1, _, _⟩ := eto_zero cs codes h0
    have hb := back_codes cs codes h0 (k2 + 1) (by omega)
    have hall : codes.all (hcB cs) = true := by
      rw [List.all_eq_true]
      intro z hz
      unfold hcB
      rw [(g1 z hz).1, (g1 z hz).2, decide_eq_true hc]
      rfl
    have hcf : impl_CodesFault.f codes = some 0 := by
      rw [impl_CodesFault_eq]
      exact congrArg some hf
    rw [if_pos h0, hb, Option.bind_some, hd, Option.bind_some, if_pos hall, if_pos rfl, laws_lwNums_eq codes codes (k2 + 1) (by omega) (by omega), decide_eq_true rfl, Option.bind_some, if_pos rfl, hcf, Option.bind_some, if_pos rfl, impl_HasChar_eq, Option.bind_some, spec_HasChar_eq, Option.bind_some]
    unfold hcB laws_lwSame.f
    rw [beq_self_eq_true, if_pos rfl, beq_self_eq_true]
    rfl
  · rw [if_neg h0]
    simp only [if_true]
    by_cases h8 : (eto cs codes).1 = 8
    · rw [if_pos h8]
      have hn := eto_eight cs codes h8
      have hall : codes.all (hcB cs) = false := by
        rw [Bool.eq_false_iff]
        intro h
        apply hn
        intro z hz
        have := List.all_eq_true.mp h z hz
        unfold hcB at this
        rw [Bool.and_eq_true, Bool.and_eq_true] at this
        exact this.2.2
      rw [hall]
      rfl
    · rw [if_neg h8]
theorem charsets_loop (x0 : List Int) (cs : Int) (codes : List Int) (hl : codes.length ≤ 401) (x y : Int) (hd : spec_DrawHasChar.f x0 = some (x, y)) : ∀ (n k i : Nat), codes.length = i + n → 602 + n ≤ k → laws_FnCharsets.l0 k x0 cs codes ((codes.take i).all (hcB cs)) (i : Int) (eto cs codes).1 (eto cs codes).2 = some true
  | 0, k, i, hi, hk => by
    obtain ⟨k, rfl⟩ : ∃ m, k = m + 1 := ⟨k - 1, by omega⟩
    rw [List.take_of_length_le (by omega)]
    exact charsets_end k x0 cs codes hl x y hd (by omega) i (by omega) (by omega)
  | n + 1, k, i, hi, hk => by
    obtain ⟨k, rfl⟩ : ∃ m, k = m + 2 := ⟨k - 2, by omega⟩
    have h1 : (i : Int) < (codes.length : Int) := by omega
    have h2 : (0 : Int) ≤ (i : Int) := by omega
    have ih := charsets_loop x0 cs codes hl x y hd n (k + 1) (i + 1) (by omega) (by omega)
    have h4 : wrap64 ((i : Int) + 1) = ((i + 1 : Nat) : Int) := by rw [wrap64_in (by omega)]; omega
    have ht : (codes.take (i + 1)).all (hcB cs) = ((codes.take i).all (hcB cs) && hcB cs codes[i]) := by
      rw [List.take_succ_eq_append_getElem (by omega), List.all_append]
      simp
    rw [ht] at ih
    conv => lhs; unfold laws_FnCharsets.l0
    rw [if_pos h1, h4]
    cases hb : (codes.take i).all (hcB cs) with
    | true =>
      rw [hb, Bool.true_and] at ih
      rw [if_pos rfl, if_pos h2, rd_at codes i (by omega), impl_HasChar_eq, Option.bind_some]
      exact ih
    | false =>
      rw [hb, Bool.false_and] at ih
      rw [if_neg (by decide)]
      exact ih
theorem FnCharsets : laws_FnCharsets.Pure := by
  intro l hb _ hw
  have hB := byte_wf hw
  refine ⟨2000 + 1, ?_⟩
  generalize hk : 2000 = k
  unfold laws_FnCharsets.f laws_lwBig.f
  rw [Option.bind_some]
  by_cases hl : (l.length : Int) > 1048576
  · rw [decide_eq_true hl, if_pos rfl]
  · rw [decide_eq_false hl, if_neg (by decide)]
    obtain ⟨cs, data, d1, d2, d3⟩ := draw_dec l hB (by omega) (k + 1) (by omega)
    obtain ⟨r, _, e1, e2⟩ := DecodeText_both cs data (by omega) d3 (k + 1) (by omega)
    have hj : laws_FnCharsets.j0 (k + 1) l false = some true := by
      obtain ⟨c, codes, x, y, f1, f2, f3⟩ := draw_enc l hB (by omega) k (by omega)
      rw [laws_FnCharsets.j0, if_neg (by decide), f1, Option.bind_some, impl_EncodeText_eq c codes k (by omega) (by omega), Option.bind_some]
      have := charsets_loop l c codes f2 x y f3 codes.length k 0 (by omega) (by omega)
      simpa using this
    rw [d1, Option.bind_some, e2, Option.bind_some, e1, Option.bind_some, if_pos rfl]
    by_cases h0 : r.1 = 0
    · obtain ⟨g1, g2⟩ := decode_codes cs data d3 (k + 1) (by omega) r e2 h0
      rw [if_pos h0]
      simp only
      rw [impl_EncodeText_eq cs r.2 (k + 1) (by omega) (by omega), Option.bind_some, g1]
      unfold laws_lwSame.f
      rw [beq_self_eq_true, Option.bind_some]
      exact hj
    · rw [if_neg h0]
      exact hj

end Go.Proofs.Ytjopgmjmjnfcjaa.Pure
