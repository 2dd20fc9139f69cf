/- The plain law: what the walk computes answers as the statement says. -/
import Derived.Test.YtjopgmjmjnfcjaaPParseHeaderx5
namespace Go.Proofs.Ytjopgmjmjnfcjaa.Pure
open Go.RowKit Go.Proofs.Ytjopgmjmjnfcjaa.PParseHeader Go.Proofs.YtjopgmjmjnfcjaaW.PrintWords Go.Proofs.YtjopgmjmjnfcjaaW.PrintLast
set_option linter.unusedSimpArgs false
set_option linter.unusedVariables false
theorem rd_at (l : List Int) (i : Nat) (h : i < l.length) : rd l (i : Int) = l[i] := by
  simp [rd, List.getD_eq_getElem?_getD, h]
theorem wrap64_in {n : Int} (h : -9223372036854775808 ≤ n ∧ n ≤ 9223372036854775807) : wrap64 n = n := by
  unfold wrap64; omega
theorem maxLen_le : maxLen ≤ 9223372036854775807 := by unfold maxLen; decide
theorem bt_range (s : ByteArray) (i : Int) : 0 ≤ bt s i ∧ bt s i ≤ 255 := by
  unfold bt
  split
  · rename_i h
    have := UInt8.toNat_lt (s[i.toNat]'h)
    omega
  · omega
theorem strOfNums_size (l : List Int) : (strOfNums l).size = l.length := by
  show (strOfNums l).data.size = _
  simp [strOfNums]
theorem bytesOf_strOfNums (l : List Int) (h : ∀ x ∈ l, 0 ≤ x ∧ x ≤ 255) : bytesOf (strOfNums l) = l := by
  unfold bytesOf strOfNums
  simp only [List.map_map]
  conv => rhs; rw [← List.map_id l]
  apply List.map_congr_left
  intro x hx
  have := h x hx
  simp only [Function.comp, id]
  rw [UInt8.toNat_ofNat_of_lt' (by show x.toNat < 256; omega)]
  omega
theorem strOfNums_bytesOf (s : ByteArray) : strOfNums (bytesOf s) = s := by
  unfold bytesOf strOfNums
  rw [List.map_map]
  have h : (s.data.toList.map ((fun n : Int => UInt8.ofNat n.toNat) ∘ fun b : UInt8 => (b.toNat : Int))) = s.data.toList := by
    conv => rhs; rw [← List.map_id s.data.toList]
    apply List.map_congr_left
    intro x _
    simp
  rw [h]
theorem bytesOf_in (s : ByteArray) : ∀ x ∈ bytesOf s, 0 ≤ x ∧ x ≤ 255 := by
  intro x hx
  obtain ⟨b, _, rfl⟩ := List.mem_map.1 hx
  have := UInt8.toNat_lt b
  omega
theorem bt_strOfNums (l : List Int) (h : ∀ x ∈ l, 0 ≤ x ∧ x ≤ 255) (i : Nat) (hi : i < l.length) : bt (strOfNums l) (i : Int) = l[i] := by
  rw [← rd_bytesOf, bytesOf_strOfNums l h, rd_at l i hi]
/-- The first place of a byte. -/
def fst (c : Int) : List Int → Option Nat
  | [] => none
  | x :: xs => if x = c then some 0 else (fst c xs).map (· + 1)
theorem fst_lt (c : Int) : ∀ (l : List Int) (i : Nat), fst c l = some i → i < l.length
  | [], i, h => by cases h
  | x :: xs, i, h => by
    unfold fst at h
    by_cases hx : x = c
    · rw [if_pos hx] at h; cases h; simp
    · rw [if_neg hx] at h
      obtain ⟨j, hj, rfl⟩ := Option.map_eq_some_iff.1 h
      have := fst_lt c xs j hj
      simp only [List.length_cons]
      omega
theorem u8_eq (x c : Int) (hx : 0 ≤ x ∧ x ≤ 255) (hc : 0 ≤ c ∧ c ≤ 255) : (UInt8.ofNat x.toNat == c.toNat.toUInt8) = decide (x = c) := by
  rw [Bool.eq_iff_iff, beq_iff_eq, decide_eq_true_eq]
  constructor
  · intro h
    have h2 := congrArg UInt8.toNat h
    rw [UInt8.toNat_ofNat_of_lt' (by show x.toNat < 256; omega)] at h2
    rw [show c.toNat.toUInt8.toNat = c.toNat from UInt8.toNat_ofNat_of_lt' (by show c.toNat < 256; omega)] at h2
    omega
  · intro h
    subst h
    rfl
theorem indexByte_fst (c : Int) (hc : 0 ≤ c ∧ c ≤ 255) : ∀ l : List Int, (∀ x ∈ l, 0 ≤ x ∧ x ≤ 255) → Lib.indexByte (Lib.bytesOf l) c.toNat.toUInt8 = match fst c l with | none => -1 | some i => (i : Int)
  | [], _ => rfl
  | x :: xs, h => by
    have ih := indexByte_fst c hc xs (fun y hy => h y (by simp [hy]))
    show (if UInt8.ofNat x.toNat == c.toNat.toUInt8 then 0 else if Lib.indexByte (Lib.bytesOf xs) c.toNat.toUInt8 == -1 then -1 else Lib.indexByte (Lib.bytesOf xs) c.toNat.toUInt8 + 1) = _
    rw [u8_eq x c (h x (by simp)) hc, ih, show fst c (x :: xs) = if x = c then some 0 else (fst c xs).map (· + 1) from rfl]
    by_cases hx : x = c
    · rw [decide_eq_true hx, if_pos rfl, if_pos hx]; rfl
    · rw [decide_eq_false hx, if_neg (by decide), if_neg hx]
      cases fst c xs with
      | none => rfl
      | some i =>
        show (if (((i : Int) == -1) = true) then -1 else (i : Int) + 1) = ((i + 1 : Nat) : Int)
        have : ((i : Int) == -1) = false := by rw [beq_eq_false_iff_ne]; omega
        rw [this, if_neg (by decide)]
        omega
theorem data_bytesOf (s : ByteArray) : s.data.toList = Lib.bytesOf (bytesOf s) := by
  unfold Lib.bytesOf bytesOf
  rw [List.map_map]
  conv => lhs; rw [← List.map_id s.data.toList]
  apply List.map_congr_left
  intro x _
  simp
theorem toList_nil (s : ByteArray) : s.toList = [] ↔ s.size = 0 := by
  rw [Go.ByteArray.toList_eq]
  constructor
  · intro h
    have := congrArg List.length h
    rw [Array.length_toList] at this
    exact this
  · intro h
    apply List.eq_nil_of_length_eq_zero
    rw [Array.length_toList]
    exact h
theorem bytesOf_extract (s : ByteArray) (i j : Nat) : bytesOf (s.extract i j) = ((bytesOf s).take j).drop i := by
  unfold bytesOf
  rw [ByteArray.data_extract, Array.toList_extract]
  unfold List.extract
  rw [List.map_take, List.map_drop, List.drop_take]
theorem in_eq (a b c : Int) : spec_l1In.f a b c = some (decide (b ≤ a ∧ a ≤ c)) := by
  unfold spec_l1In.f; by_cases h : a ≥ b <;> simp [h] <;> omega
/-- Fields, as a plain law. -/
def nbB (c : Int) : Bool := decide (97 ≤ c ∧ c ≤ 122) || decide (65 ≤ c ∧ c ≤ 90) || decide (48 ≤ c ∧ c ≤ 57) || c == 45
def vbB (c : Int) : Bool := decide (32 ≤ c) && c != 127
def nameB (s : ByteArray) : Bool := (bytesOf s).all nbB && decide (1 ≤ s.size ∧ s.size ≤ 30)
def valB (s : ByteArray) : Bool := (bytesOf s).all vbB && decide (s.size ≤ 120)
theorem vb_lt (c : Int) (h : c < 32) : vbB c = false := by unfold vbB; rw [decide_eq_false (show ¬ 32 ≤ c by omega), Bool.false_and]
theorem vb_127 : vbB 127 = false := rfl
theorem vb_ok (c : Int) (h : ¬ c < 32) (h2 : ¬ c = 127) : vbB c = true := by unfold vbB; rw [decide_eq_true (show 32 ≤ c by omega), bne_iff_ne.mpr h2]; rfl
theorem spec_l4NameByte_eq (c : Int) : spec_l4NameByte.f c = some (nbB c) := by
  unfold spec_l4NameByte.f nbB
  by_cases h1 : c ≥ 97 <;> by_cases h2 : c ≤ 122 <;> by_cases h3 : c ≥ 65 <;> by_cases h4 : c ≤ 90 <;> by_cases h5 : c ≥ 48 <;> by_cases h6 : c ≤ 57 <;> simp [h1, h2, h3, h4, h5, h6]
theorem drop_bt (s : ByteArray) (i : Nat) (h : i < s.size) : (bytesOf s).drop i = bt s (i : Int) :: (bytesOf s).drop (i + 1) := by
  have hl : i < (bytesOf s).length := by rw [bytesOf_length]; exact h
  rw [List.drop_eq_getElem_cons hl, ← rd_bytesOf, rd_at _ i hl]
theorem drop_end (s : ByteArray) (i : Nat) (h : ¬ i < s.size) : (bytesOf s).drop i = [] := List.drop_eq_nil_of_le (by rw [bytesOf_length]; omega)
theorem wrap_succ (i : Nat) (h : i ≤ 4611686018427387904) : wrap64 ((i : Int) + 1) = ((i + 1 : Nat) : Int) := by rw [wrap64_in (by omega)]; omega
theorem spec_l4Name.l0_eq (s : ByteArray) (hs : s.size ≤ 1048576) : ∀ (n k i : Nat), s.size = i + n → n < k → spec_l4Name.l0 k s (i : Int) = some (((bytesOf s).drop i).all nbB && decide (1 ≤ s.size ∧ s.size ≤ 30))
  | _, 0, _, _, h => absurd h (by omega)
  | 0, k + 1, i, hi, _ => by
    have h1 : ¬ ((i : Int) < (s.size : Int)) := by omega
    rw [spec_l4Name.l0, if_neg h1, in_eq, drop_end s i (by omega)]
    simp only [Option.bind_some, List.all_nil, Bool.true_and]
    congr 1
    rw [decide_eq_decide]
    omega
  | n + 1, k + 1, i, hi, h => by
    have h1 : (i : Int) < (s.size : Int) := by omega
    have h2 : (0 : Int) ≤ (i : Int) := by omega
    rw [spec_l4Name.l0, if_pos h1, if_pos h2, spec_l4NameByte_eq, Option.bind_some, wrap_succ i (by omega), spec_l4Name.l0_eq s hs n k (i + 1) (by omega) (by omega), drop_bt s i (by omega), List.all_cons]
    cases nbB (bt s (i : Int)) with
    | true => rw [if_pos rfl, Bool.true_and]
    | false => rw [if_neg (by decide), Bool.false_and, Bool.false_and]
theorem spec_l4Name_eq (s : ByteArray) (k : Nat) (hs : s.size ≤ 1048576) (hk : s.size < k) : spec_l4Name.f k s = some (nameB s) := by
  have := spec_l4Name.l0_eq s hs s.size k 0 (by omega) hk
  unfold spec_l4Name.f nameB
  simpa using this
theorem spec_l4Value.l0_eq (s : ByteArray) (hs : s.size ≤ 1048576) : ∀ (n k i : Nat), s.size = i + n → n < k → spec_l4Value.l0 k s (i : Int) = some (((bytesOf s).drop i).all vbB && decide (s.size ≤ 120))
  | _, 0, _, _, h => absurd h (by omega)
  | 0, k + 1, i, hi, _ => by
    have h1 : ¬ ((i : Int) < (s.size : Int)) := by omega
    rw [spec_l4Value.l0, if_neg h1, drop_end s i (by omega)]
    simp only [List.all_nil, Bool.true_and]
    congr 1
    rw [decide_eq_decide]
    omega
  | n + 1, k + 1, i, hi, h => by
    have h1 : (i : Int) < (s.size : Int) := by omega
    have h2 : (0 : Int) ≤ (i : Int) := by omega
    rw [spec_l4Value.l0, if_pos h1, if_pos h2, wrap_succ i (by omega), spec_l4Value.l0_eq s hs n k (i + 1) (by omega) (by omega), drop_bt s i (by omega), List.all_cons]
    generalize bt s (i : Int) = c
    by_cases g1 : c < 32
    · rw [if_pos g1, vb_lt c g1, Bool.false_and, Bool.false_and]
    · rw [if_neg g1]
      by_cases g2 : c = 127
      · rw [if_pos g2, g2, vb_127, Bool.false_and, Bool.false_and]
      · rw [if_neg g2, vb_ok c g1 g2, Bool.true_and]
theorem spec_l4Value_eq (s : ByteArray) (k : Nat) (hs : s.size ≤ 1048576) (hk : s.size < k) : spec_l4Value.f k s = some (valB s) := by
  have := spec_l4Value.l0_eq s hs s.size k 0 (by omega) hk
  unfold spec_l4Value.f valB
  simpa using this
theorem impl_letter_eq (c : Int) : impl_isLetter.f c = some (decide (97 ≤ c ∧ c ≤ 122) || decide (65 ≤ c ∧ c ≤ 90)) := by
  unfold impl_isLetter.f
  by_cases h1 : c ≥ 97 <;> by_cases h2 : c ≤ 122 <;> by_cases h3 : c ≥ 65 <;> by_cases h4 : c ≤ 90 <;> simp [h1, h2, h3, h4]
theorem impl_digit_eq (c : Int) : impl_isDigit.f c = some (decide (48 ≤ c ∧ c ≤ 57)) := by
  unfold impl_isDigit.f
  by_cases h1 : c ≥ 48 <;> by_cases h2 : c ≤ 57 <;> simp [h1, h2]
theorem impl_isField.l1_eq (a s : ByteArray) (hs : s.size ≤ 1048576) : ∀ (n k i : Nat), s.size = i + n → n < k → impl_isField.l1 k (s.size : Int) (i : Int) a s = some (((bytesOf s).drop i).all vbB && (decide (1 ≤ a.size ∧ a.size ≤ 30) && decide (s.size ≤ 120)))
  | _, 0, _, _, h => absurd h (by omega)
  | 0, k + 1, i, hi, _ => by
    have h1 : ¬ ((i : Int) < (s.size : Int)) := by omega
    rw [impl_isField.l1, if_neg h1, drop_end s i (by omega)]
    simp only [List.all_nil, Bool.true_and]
    by_cases g1 : (a.size : Int) ≥ 1
    · rw [if_pos g1]
      by_cases g2 : (a.size : Int) ≤ 30
      · rw [if_pos g2, decide_eq_true (show 1 ≤ a.size ∧ a.size ≤ 30 by omega), Bool.true_and]
        congr 1
        rw [decide_eq_decide]
        omega
      · rw [if_neg g2, decide_eq_false (show ¬ (1 ≤ a.size ∧ a.size ≤ 30) by omega), Bool.false_and]
    · rw [if_neg g1, decide_eq_false (show ¬ (1 ≤ a.size ∧ a.size ≤ 30) by omega), Bool.false_and]
  | n + 1, k + 1, i, hi, h => by
    have h1 : (i : Int) < (s.size : Int) := by omega
    have h2 : (0 : Int) ≤ (i : Int) := by omega
    rw [impl_isField.l1, if_pos h1, if_pos h2, if_pos h1, wrap_succ i (by omega), impl_isField.l1_eq a s hs n k (i + 1) (by omega) (by omega), drop_bt s i (by omega), List.all_cons]
    generalize bt s (i : Int) = c
    by_cases g1 : c < 32
    · rw [if_pos g1, vb_lt c g1, Bool.false_and, Bool.false_and]
    · rw [if_neg g1]
      by_cases g2 : c = 127
      · rw [if_pos g2, g2, vb_127, Bool.false_and, Bool.false_and]
      · rw [if_neg g2, vb_ok c g1 g2, Bool.true_and]
theorem impl_isField.l0_eq (a s : ByteArray) (ha : a.size ≤ 1048576) (hs : s.size ≤ 1048576) : ∀ (n k i : Nat), a.size = i + n → n + s.size + 1 < k → impl_isField.l0 k (a.size : Int) (i : Int) a s = some (((bytesOf a).drop i).all nbB && ((bytesOf s).all vbB && (decide (1 ≤ a.size ∧ a.size ≤ 30) && decide (s.size ≤ 120))))
  | _, 0, _, _, h => absurd h (by omega)
  | 0, k + 1, i, hi, h => by
    have h1 : ¬ ((i : Int) < (a.size : Int)) := by omega
    have := impl_isField.l1_eq a s hs s.size k 0 (by omega) (by omega)
    rw [List.drop_zero] at this
    rw [impl_isField.l0, if_neg h1, drop_end a i (by omega)]
    simp only [List.all_nil, Bool.true_and]
    exact this
  | n + 1, k + 1, i, hi, h => by
    have h1 : (i : Int) < (a.size : Int) := by omega
    have h2 : (0 : Int) ≤ (i : Int) := by omega
    rw [impl_isField.l0, if_pos h1, if_pos h2, if_pos h1, wrap_succ i (by omega), impl_isField.l0_eq a s ha hs n k (i + 1) (by omega) (by omega), drop_bt a i (by omega), List.all_cons, impl_letter_eq, Option.bind_some, impl_digit_eq, Option.bind_some]
    generalize bt a (i : Int) = c
    unfold nbB
    cases (decide (97 ≤ c ∧ c ≤ 122) || decide (65 ≤ c ∧ c ≤ 90)) with
    | true => rw [if_pos rfl, Bool.true_or, Bool.true_or, Bool.true_and]
    | false =>
      rw [if_neg (by decide), Bool.false_or]
      cases decide (48 ≤ c ∧ c ≤ 57) with
      | true => rw [if_pos rfl, Bool.true_or, Bool.true_and]
      | false =>
        rw [if_neg (by decide), Bool.false_or]
        by_cases g : c = 45
        · rw [if_pos g, g, beq_self_eq_true, Bool.true_and]
        · rw [if_neg g, beq_eq_false_iff_ne.mpr g, Bool.false_and, Bool.false_and]
theorem impl_isField_eq (a s : ByteArray) (k : Nat) (ha : a.size ≤ 1048576) (hs : s.size ≤ 1048576) (hk : a.size + s.size + 1 < k) : impl_isField.f k a s = some (nameB a && valB s) := by
  have := impl_isField.l0_eq a s ha hs a.size k 0 (by omega) hk
  unfold impl_isField.f nameB valB
  rw [List.drop_zero] at this
  rw [show (0 : Int) = ((0 : Nat) : Int) from rfl, this]
  cases (bytesOf a).all nbB <;> cases (bytesOf s).all vbB <;> cases decide (1 ≤ a.size ∧ a.size ≤ 30) <;> rfl
def fldB (x : S69) : Bool := nameB x.f0 && valB x.f1
def faultF (l : List S69) : Int := if 8 < l.length then 2 else if l.all fldB = true then 0 else 5
theorem rd_fld (l : List S69) (i : Nat) (h : i < l.length) : rd_T69 l (i : Int) = l[i] := by
  unfold rd_T69
  rw [Int.toNat_natCast, List.getD_eq_getElem?_getD, List.getElem?_eq_getElem h]
  rfl
def smallF (l : List S69) : Prop := l.length ≤ 1048576 ∧ ∀ x ∈ l, x.f0.size ≤ 1048576 ∧ x.f1.size ≤ 1048576
theorem spec_l4Fault.l0_eq (l : List S69) (hl : smallF l) : ∀ (n k i : Nat), l.length = i + n → n + 2097155 < k → spec_l4Fault.l0 k l (i : Int) = some (if (l.drop i).all fldB = true then 0 else 5)
  | _, 0, _, _, h => absurd h (by omega)
  | 0, k + 1, i, hi, _ => by
    have h1 : ¬ ((i : Int) < (l.length : Int)) := by omega
    rw [spec_l4Fault.l0, if_neg h1, List.drop_eq_nil_of_le (by omega)]
    rfl
  | n + 1, k + 1, i, hi, h => by
    have hlt : i < l.length := by omega
    have hb := hl.1
    have h1 : (i : Int) < (l.length : Int) := by omega
    have h2 : (0 : Int) ≤ (i : Int) := by omega
    obtain ⟨z0, z1⟩ := hl.2 l[i] (List.getElem_mem hlt)
    rw [spec_l4Fault.l0, if_pos h1, if_pos h2, wrap_succ i (by omega), spec_l4Fault.l0_eq l hl n k (i + 1) (by omega) (by omega), rd_fld l i hlt, spec_l4Name_eq _ k z0 (by omega), Option.bind_some, spec_l4Value_eq _ k z1 (by omega), Option.bind_some, List.drop_eq_getElem_cons hlt, List.all_cons]
    unfold fldB
    cases nameB l[i].f0 with
    | true =>
      rw [if_pos rfl, Bool.true_and]
      cases valB l[i].f1 with
      | true => rw [if_pos rfl, Bool.true_and]
      | false => rw [if_neg (by decide), Bool.false_and]; rfl
    | false => rw [if_neg (by decide), Bool.false_and, Bool.false_and]; rfl
theorem spec_l4Fault_eq (l : List S69) (hl : smallF l) (k : Nat) (hk : l.length + 2097155 < k) : spec_l4Fault.f k l = some (faultF l) := by
  unfold spec_l4Fault.f faultF
  by_cases h : 8 < l.length
  · rw [if_pos (by omega), if_pos h]
  · have := spec_l4Fault.l0_eq l hl l.length k 0 (by omega) hk
    rw [List.drop_zero] at this
    rw [if_neg (by omega), if_neg h]
    exact this
theorem impl_FieldsFault.l0_eq (l : List S69) (hl : smallF l) : ∀ (n k i : Nat), l.length = i + n → n + 2097155 < k → impl_FieldsFault.l0 k l (l.length : Int) (i : Int) = some (if (l.drop i).all fldB = true then 0 else 5)
  | _, 0, _, _, h => absurd h (by omega)
  | 0, k + 1, i, hi, _ => by
    have h1 : ¬ ((i : Int) < (l.length : Int)) := by omega
    rw [impl_FieldsFault.l0, if_neg h1, List.drop_eq_nil_of_le (by omega)]
    rfl
  | n + 1, k + 1, i, hi, h => by
    have hlt : i < l.length := by omega
    have hb := hl.1
    have h1 : (i : Int) < (l.length : Int) := by omega
    have h2 : (0 : Int) ≤ (i : Int) := by omega
    obtain ⟨z0, z1⟩ := hl.2 l[i] (List.getElem_mem hlt)
    rw [impl_FieldsFault.l0, if_pos h1, if_pos h2, if_pos h1, wrap_succ i (by omega), impl_FieldsFault.l0_eq l hl n k (i + 1) (by omega) (by omega), rd_fld l i hlt, impl_isField_eq _ _ k z0 z1 (by omega), Option.bind_some, List.drop_eq_getElem_cons hlt, List.all_cons]
    show (if fldB l[i] = true then _ else _) = _
    cases fldB l[i] with
    | true => rw [if_pos rfl, Bool.true_and]
    | false => rw [if_neg (by decide), Bool.false_and]; rfl
theorem impl_FieldsFault_eq (l : List S69) (hl : smallF l) (k : Nat) (hk : l.length + 2097155 < k) : impl_FieldsFault.f k l = some (faultF l) := by
  unfold impl_FieldsFault.f faultF
  by_cases h : 8 < l.length
  · rw [if_pos (by omega), if_pos h]
  · have := impl_FieldsFault.l0_eq l hl l.length k 0 (by omega) hk
    rw [List.drop_zero] at this
    rw [if_neg (by omega), if_neg h]
    exact this
def lineLen (l : List Int) : Nat := (fst 10 l).getD l.length
theorem lineLen_le (l : List Int) : lineLen l ≤ l.length := by
  unfold lineLen
  cases h : fst 10 l with
  | none => exact Nat.le_refl _
  | some i => exact Nat.le_of_lt (fst_lt 10 l i h)
theorem lineLen_cons (x : Int) (xs : List Int) : lineLen (x :: xs) = if x = 10 then 0 else lineLen xs + 1 := by
  unfold lineLen
  rw [show fst 10 (x :: xs) = if x = 10 then some 0 else (fst 10 xs).map (· + 1) from rfl]
  by_cases h : x = 10
  · rw [if_pos h, if_pos h]; rfl
  · rw [if_neg h, if_neg h]
    cases fst 10 xs <;> rfl
theorem spec_l4End.l0_eq (data : List Int) (hd : data.length ≤ 1048576) : ∀ (n k i : Nat), data.length = i + n → n < k → spec_l4End.l0 k data (i : Int) = some ((i + lineLen (data.drop i) : Nat) : Int)
  | _, 0, _, _, h => absurd h (by omega)
  | 0, k + 1, i, hi, _ => by
    have h1 : ¬ ((i : Int) < (data.length : Int)) := by omega
    rw [spec_l4End.l0, if_neg h1, List.drop_eq_nil_of_le (by omega)]
    rfl
  | n + 1, k + 1, i, hi, h => by
    have hlt : i < data.length := by omega
    have h1 : (i : Int) < (data.length : Int) := by omega
    have h2 : (0 : Int) ≤ (i : Int) := by omega
    rw [spec_l4End.l0, if_pos h1, if_pos h2, rd_at data i hlt, wrap_succ i (by omega), spec_l4End.l0_eq data hd n k (i + 1) (by omega) (by omega), List.drop_eq_getElem_cons hlt, lineLen_cons]
    by_cases c : data[i] = 10
    · rw [if_pos c, if_pos c]; rfl
    · rw [if_neg c, if_neg c]
      congr 2
      omega
theorem spec_l4End_eq (data : List Int) (hd : data.length ≤ 1048576) (k i : Nat) (hi : i ≤ data.length) (hk : data.length < k) : spec_l4End.f k data (i : Int) = some ((i + lineLen (data.drop i) : Nat) : Int) := by
  unfold spec_l4End.f
  exact spec_l4End.l0_eq data hd (data.length - i) k i (by omega) (by omega)
def trimV (v : ByteArray) : ByteArray := if 0 < v.size ∧ bt v 0 = 32 then v.extract 1 v.size else v
def newF (s : ByteArray) (c : Nat) : S69 := ⟨s.extract 0 c, trimV (s.extract (c + 1) s.size)⟩
def lastF (fs : List S69) (s : ByteArray) : List S69 := fs.set (fs.length - 1) ⟨(fs.getD (fs.length - 1) z69).f0, (fs.getD (fs.length - 1) z69).f1 ++ s⟩
def lineF (fs : List S69) (s : ByteArray) : Option (List S69) :=
  if bt s 0 = 32 ∨ bt s 0 = 9 then (if fs.length = 0 then none else some (lastF fs s)) else match fst 58 (bytesOf s) with | none => none | some c => some (fs ++ [newF s c])
theorem app_one (fs : List S69) (w : S69) (hf : fs.length ≤ 1048576) (a b : Int) (hab : a ≤ b) : ((some (([] : List (S69)) : List (S69))).bind fun y116 => (if y116.length + fs.length < 4398046511104 then ((some (y116 ++ fs : List (S69))).bind fun y119 => (if a ≤ b then ((some (([w] : List (S69)) : List (S69))).bind fun y122 => (if y119.length + y122.length < 4398046511104 then (some ((y119 ++ y122), true)) else (none))) else (none))) else (none))) = some (fs ++ [w], true) := by
  rw [Option.bind_some, if_pos (by simp; omega), Option.bind_some, if_pos hab, Option.bind_some, if_pos (by simp; omega)]
  rfl
theorem spec_l4Line.l0_eq (fs : List S69) (s : ByteArray) (hs : s.size ≤ 1048576) (hf : fs.length ≤ 1048576) : ∀ (n k i : Nat), s.size = i + n → n < k → spec_l4Line.l0 k fs s (i : Int) = some (match fst 58 ((bytesOf s).drop i) with | none => ([], false) | some c => (fs ++ [newF s (i + c)], true))
  | _, 0, _, _, h => absurd h (by omega)
  | 0, k + 1, i, hi, _ => by
    have h1 : ¬ ((i : Int) < (s.size : Int)) := by omega
    rw [spec_l4Line.l0, if_neg h1, drop_end s i (by omega)]
    rfl
  | n + 1, k + 1, i, hi, h => by
    have hlt : i < s.size := by omega
    have h1 : (i : Int) < (s.size : Int) := by omega
    have h2 : (0 : Int) ≤ (i : Int) := by omega
    have h3 : (0 : Int) ≤ ((i + 1 : Nat) : Int) := by omega
    have h4 : ((i + 1 : Nat) : Int) ≤ (s.size : Int) := by omega
    rw [spec_l4Line.l0, if_pos h1, if_pos h2, wrap_succ i (by omega), drop_bt s i hlt, show fst 58 (bt s (i : Int) :: (bytesOf s).drop (i + 1)) = if bt s (i : Int) = 58 then some 0 else (fst 58 ((bytesOf s).drop (i + 1))).map (· + 1) from rfl]
    by_cases c : bt s (i : Int) = 58
    · rw [if_pos c, if_pos c, if_pos h3, if_pos h4, Int.toNat_natCast, Int.toNat_natCast]
      show _ = some (fs ++ [newF s i], true)
      unfold newF
      have hz := toList_nil (s.extract (i + 1) s.size)
      generalize s.extract (i + 1) s.size = v at hz
      by_cases g1 : v.toList = []
      · rw [if_pos g1, app_one fs _ hf _ _ (by omega)]
        have : trimV v = v := by unfold trimV; rw [if_neg (by have := hz.1 g1; omega)]
        rw [this]
      · have hp : 0 < v.size := by
          rcases Nat.eq_zero_or_pos v.size with h0 | h0
          · exact absurd (hz.2 h0) g1
          · exact h0
        rw [if_neg g1, if_pos (by omega)]
        by_cases g2 : bt v 0 = 32
        · rw [if_pos g2, if_pos (by omega), app_one fs _ hf _ _ (by omega)]
          have : trimV v = v.extract 1 v.size := by unfold trimV; rw [if_pos ⟨hp, g2⟩]
          rw [this]
        · rw [if_neg g2, app_one fs _ hf _ _ (by omega)]
          have : trimV v = v := by unfold trimV; rw [if_neg (fun e => g2 e.2)]
          rw [this]
    · rw [if_neg c, if_neg c, spec_l4Line.l0_eq fs s hs hf n k (i + 1) (by omega) (by omega)]
      cases fst 58 ((bytesOf s).drop (i + 1)) with
      | none => rfl
      | some q =>
        show some (fs ++ [newF s (i + 1 + q)], true) = some (fs ++ [newF s (i + (q + 1))], true)
        rw [show i + 1 + q = i + (q + 1) by omega]
theorem spec_l4Line_eq (fs : List S69) (s : ByteArray) (hs : s.size ≤ 1048576) (hp : 0 < s.size) (hf : fs.length ≤ 1048576) (hv : ∀ x ∈ fs, x.f1.size ≤ 1048576) (k : Nat) (hk : s.size + 1 < k) : spec_l4Line.f k fs s = some (match lineF fs s with | none => ([], false) | some f => (f, true)) := by
  obtain ⟨k, rfl⟩ : ∃ m, k = m + 1 := ⟨k - 1, by omega⟩
  have key : ∀ b : Bool, spec_l4Line.j0 (k + 1) fs s (fs.length : Int) b = some (match (if b = true then (if fs.length = 0 then none else some (lastF fs s)) else match fst 58 (bytesOf s) with | none => none | some c => some (fs ++ [newF s c])) with | none => ([], false) | some f => (f, true)) := by
    intro b
    cases b with
    | true =>
      rw [spec_l4Line.j0, if_pos rfl, if_pos rfl]
      by_cases h0 : fs.length = 0
      · rw [if_pos (by omega), if_pos h0]
      · have w1 : wrap64 ((fs.length : Int) - 1) = ((fs.length - 1 : Nat) : Int) := by rw [wrap64_in (by omega)]; omega
        have hm : (fs.getD (fs.length - 1) z69).f1.size ≤ 1048576 := by
          rw [List.getD_eq_getElem?_getD, List.getElem?_eq_getElem (by omega)]
          exact hv _ (List.getElem_mem _)
        rw [if_neg (by omega), if_neg h0, Option.bind_some, if_pos (by simp; omega), Option.bind_some, w1, List.nil_append, if_pos (by omega), if_pos (by omega)]
        unfold rd_T69
        rw [Int.toNat_natCast, if_pos (by omega)]
        rfl
    | false =>
      have := spec_l4Line.l0_eq fs s hs hf s.size k 0 (by omega) (by omega)
      rw [List.drop_zero] at this
      rw [spec_l4Line.j0, if_neg (by decide), if_neg (by decide)]
      refine Eq.trans this ?_
      cases fst 58 (bytesOf s) with
      | none => rfl
      | some c =>
        show some (fs ++ [newF s (0 + c)], true) = _
        rw [Nat.zero_add]
  unfold spec_l4Line.f lineF
  rw [if_pos (by omega)]
  by_cases c1 : bt s 0 = 32
  · rw [if_pos c1, if_pos (Or.inl c1), key true, if_pos rfl]
  · rw [if_neg c1]
    by_cases c2 : bt s 0 = 9
    · rw [if_pos (Or.inr c2), c2, beq_self_eq_true, key true, if_pos rfl]
    · rw [if_neg (by omega : ¬ (bt s 0 = 32 ∨ bt s 0 = 9)), beq_eq_false_iff_ne.mpr c2, key false, if_neg (by decide)]
def fldsOk (fs : List S69) (n : Nat) : Prop := fs.length ≤ n ∧ ∀ x ∈ fs, x.f0.size ≤ n ∧ x.f1.size ≤ n
theorem fldsOk_small (fs : List S69) (n : Nat) (h : fldsOk fs n) (hn : n ≤ 1048576) : smallF fs :=
  ⟨Nat.le_trans h.1 hn, fun x hx => ⟨Nat.le_trans (h.2 x hx).1 hn, Nat.le_trans (h.2 x hx).2 hn⟩⟩
theorem fldsOk_mono (fs : List S69) (n m : Nat) (h : fldsOk fs n) (hn : n ≤ m) : fldsOk fs m :=
  ⟨Nat.le_trans h.1 hn, fun x hx => ⟨Nat.le_trans (h.2 x hx).1 hn, Nat.le_trans (h.2 x hx).2 hn⟩⟩
theorem trimV_size (v : ByteArray) : (trimV v).size ≤ v.size := by
  unfold trimV
  split
  · rw [ByteArray.size_extract]; omega
  · exact Nat.le_refl _
theorem lineF_ok (fs f : List S69) (s : ByteArray) (n : Nat) (h : fldsOk fs n) (hp : 0 < s.size) (he : lineF fs s = some f) : fldsOk f (n + s.size) := by
  unfold lineF at he
  by_cases c : bt s 0 = 32 ∨ bt s 0 = 9
  · rw [if_pos c] at he
    by_cases h0 : fs.length = 0
    · rw [if_pos h0] at he; cases he
    · rw [if_neg h0] at he
      cases he
      have hm := h.2 (fs.getD (fs.length - 1) z69) (by rw [List.getD_eq_getElem?_getD, List.getElem?_eq_getElem (by omega)]; exact List.getElem_mem _)
      unfold lastF
      refine ⟨by rw [List.length_set]; have := h.1; omega, fun x hx => ?_⟩
      rcases List.mem_or_eq_of_mem_set hx with hx | rfl
      · have := h.2 x hx; omega
      · refine ⟨by simp only; omega, ?_⟩
        simp only
        rw [ByteArray.size_append]
        omega
  · rw [if_neg c] at he
    cases hf : fst 58 (bytesOf s) with
    | none => rw [hf] at he; cases he
    | some q =>
      rw [hf] at he
      cases he
      refine ⟨by rw [List.length_append, List.length_singleton]; have := h.1; omega, fun x hx => ?_⟩
      rcases List.mem_append.1 hx with hx | hx
      · have := h.2 x hx; omega
      · rw [List.mem_singleton.1 hx]
        unfold newF
        have h1 := trimV_size (s.extract (q + 1) s.size)
        have h2 : (s.extract 0 q).size ≤ s.size := by rw [ByteArray.size_extract]; omega
        have h3 : (s.extract (q + 1) s.size).size ≤ s.size := by rw [ByteArray.size_extract]; omega
        exact ⟨by simp only; omega, by simp only; omega⟩
def parseF : Nat → List Int → Nat → List S69 → List S69 × Int × Bool
  | 0, _, _, _ => ([], 0, false)
  | n + 1, data, i, fs => if i < data.length then (if lineLen (data.drop i) = 0 then (fs, ((i + 1 : Nat) : Int), faultF fs == 0) else match lineF fs (strOfNums ((data.drop i).take (lineLen (data.drop i)))) with
      | none => ([], 0, false)
      | some f => parseF n data (min (i + lineLen (data.drop i) + 1) data.length) f)
    else (fs, (i : Int), faultF fs == 0)
theorem cut_eq (s : ByteArray) (hs : s.size ≤ 1048576) : strings_Cut.f s (⟨#[58]⟩ : ByteArray) = some (match fst 58 (bytesOf s) with | none => (s, (⟨#[]⟩ : ByteArray), false) | some c => (s.extract 0 c, s.extract (c + 1) s.size, true)) := by
  have hi : stringslite_Index.f s (⟨#[58]⟩ : ByteArray) = some (match fst 58 (bytesOf s) with | none => -1 | some i => (i : Int)) := by
    unfold stringslite_Index.f
    rw [if_pos (show (⟨#[58]⟩ : ByteArray).size = 1 from rfl), data_bytesOf, ← indexByte_fst 58 (by omega) (bytesOf s) (bytesOf_in s)]
    rfl
  unfold strings_Cut.f stringslite_Cut.f
  rw [hi]
  cases hf : fst 58 (bytesOf s) with
  | none => rfl
  | some c =>
    have hlt := fst_lt 58 _ c hf
    rw [bytesOf_length] at hlt
    have w1 : wrap64 ((c : Int) + ((⟨#[58]⟩ : ByteArray).size : Int)) = ((c + 1 : Nat) : Int) := wrap_succ c (by omega)
    simp only [Option.bind_some, w1]
    rw [if_pos (by omega), if_pos (by omega), if_pos (by omega), if_pos (by omega), if_pos (by omega)]
    rfl
theorem trim_eq (v : ByteArray) (hv : v.size ≤ 1048576) : strings_TrimPrefix.f v (⟨#[32]⟩ : ByteArray) = some (trimV v) := by
  have h1 : ((⟨#[32]⟩ : ByteArray).size : Int) = 1 := rfl
  unfold strings_TrimPrefix.f stringslite_TrimPrefix.f stringslite_HasPrefix.f trimV
  rw [h1]
  by_cases c : 0 < v.size
  · have hh : ((v.extract 0 ((1 : Int) : Int).toNat).toList == (⟨#[32]⟩ : ByteArray).toList) = decide (bt v 0 = 32) := by
      rw [Go.ByteArray.toList_eq, Go.ByteArray.toList_eq, Bool.eq_iff_iff, beq_iff_eq, decide_eq_true_eq]
      have hb := bytesOf_extract v 0 1
      have hd := drop_bt v 0 c
      rw [List.drop_zero] at hd
      rw [hd] at hb
      have he : bytesOf (v.extract 0 1) = [bt v ((0 : Nat) : Int)] := hb
      rw [show ((1 : Int)).toNat = 1 from rfl, data_bytesOf, he]
      show [UInt8.ofNat (bt v 0).toNat] = [32] ↔ _
      have hr := bt_range v 0
      constructor
      · intro h
        injection h with h
        have := u8_eq (bt v 0) 32 hr (by omega)
        rw [show (32 : Int).toNat.toUInt8 = (32 : UInt8) from rfl, h] at this
        exact of_decide_eq_true this.symm
      · intro h
        rw [h]
        rfl
    rw [if_pos (show (v.size : Int) ≥ 1 by omega), if_pos (show (0 : Int) ≤ 1 by omega), if_pos (show (1 : Int) ≤ (v.size : Int) by omega), hh, Option.bind_some]
    by_cases g : bt v 0 = 32
    · rw [if_pos (decide_eq_true g), if_pos (show (0 : Int) ≤ 1 by omega), if_pos (show (1 : Int) ≤ (v.size : Int) by omega), if_pos (show 0 < v.size ∧ bt v 0 = 32 from ⟨c, g⟩)]
      rfl
    · rw [if_neg (show ¬ (decide (bt v 0 = 32) = true) by simpa using g), if_neg (show ¬ (0 < v.size ∧ bt v 0 = 32) from fun e => g e.2)]
      rfl
  · rw [if_neg (show ¬ ((v.size : Int) ≥ 1) by omega), if_neg (show ¬ (0 < v.size ∧ bt v 0 = 32) from fun e => c e.1)]
    rfl
theorem blank_eq (b : Int) : impl_isBlank.f b = some (b == 32 || b == 9) := by
  unfold impl_isBlank.f
  by_cases h1 : b = 32 <;> by_cases h2 : b = 9 <;> simp_all
theorem impl_parseHeader.j1_eq (data : List Int) (hd : data.length ≤ 1048576) (fs : List S69) (i m : Nat) (x8 : Int) (him : i + m ≤ data.length) (hf : fldsOk fs 1048576) (k : Nat) (hk : fs.length + 2097155 < k) :
    impl_parseHeader.j1 (k + 1) data fs (i : Int) (m : Int) x8 = if m = 0 then some (fs, x8, faultF fs == 0) else match lineF fs (strOfNums ((data.drop i).take m)) with | none => some ([], 0, false) | some f => impl_parseHeader.l0 k data f x8 := by
  have w1 : wrap64 ((i : Int) + (m : Int)) = ((i + m : Nat) : Int) := by rw [wrap64_in (by omega)]; omega
  have hcut : (data.take (i + m)).drop i = (data.drop i).take m := by rw [List.drop_take, Nat.add_sub_cancel_left]
  have hlen : ((data.drop i).take m).length = m := by rw [List.length_take, List.length_drop]; omega
  rw [impl_parseHeader.j1, w1, Int.toNat_natCast, Int.toNat_natCast, hcut, if_pos (by omega), if_pos (by omega), if_pos (by omega)]
  have hsz := strOfNums_size ((data.drop i).take m)
  have hz := toList_nil (strOfNums ((data.drop i).take m))
  rw [hlen] at hsz
  generalize strOfNums ((data.drop i).take m) = s at hsz hz
  by_cases h0 : m = 0
  · rw [if_pos (hz.2 (by omega)), if_pos h0, impl_FieldsFault_eq fs (fldsOk_small fs _ hf (Nat.le_refl _)) k hk]
    rfl
  · have hne : ¬ s.toList = [] := fun e => h0 (by have := hz.1 e; omega)
    rw [if_neg hne, if_neg h0, if_pos (by omega), blank_eq, Option.bind_some]
    unfold lineF
    by_cases c : bt s 0 = 32 ∨ bt s 0 = 9
    · have hb : (bt s 0 == 32 || bt s 0 == 9) = true := by simpa using c
      rw [if_pos c, if_pos hb]
      by_cases g : fs.length = 0
      · rw [if_pos (by omega), if_pos g]
      · have w2 : wrap64 ((fs.length : Int) - 1) = ((fs.length - 1 : Nat) : Int) := by have := hf.1; rw [wrap64_in (by omega)]; omega
        have hm : (fs.getD (fs.length - 1) z69).f1.size ≤ 1048576 := by
          rw [List.getD_eq_getElem?_getD, List.getElem?_eq_getElem (by omega)]
          exact (hf.2 _ (List.getElem_mem _)).2
        rw [if_neg (by omega), if_neg g, w2, if_pos (by omega), if_pos (by omega)]
        unfold rd_T69
        rw [Int.toNat_natCast, if_pos (by omega)]
        rfl
    · have hb : ¬ (bt s 0 == 32 || bt s 0 == 9) = true := by simpa using c
      rw [if_neg c, if_neg hb, cut_eq s (by omega), Option.bind_some]
      cases fst 58 (bytesOf s) with
      | none => rfl
      | some q =>
        have hv : (s.extract (q + 1) s.size).size ≤ 1048576 := by rw [ByteArray.size_extract]; omega
        show (if true = true then ((strings_TrimPrefix.f (s.extract (q + 1) s.size) (⟨#[32]⟩ : ByteArray)).bind fun t200 => (if fs.length < 4398046511104 then (impl_parseHeader.l0 k data (fs ++ [(⟨s.extract 0 q, t200⟩ : S69)]) x8) else (none))) else _) = impl_parseHeader.l0 k data (fs ++ [newF s q]) x8
        rw [if_pos rfl, trim_eq _ hv, Option.bind_some, if_pos (by have := hf.1; omega)]
        rfl
theorem spec_l4Parse.step (data : List Int) (hd : data.length ≤ 1048576) (fs : List S69) (i : Nat) (hi : i < data.length) (hf : fldsOk fs 1048576) (k : Nat) (hk : fs.length + 2097155 + data.length < k) :
    spec_l4Parse.l0 (k + 1) data fs (i : Int) = if lineLen (data.drop i) = 0 then some (fs, ((i + 1 : Nat) : Int), faultF fs == 0) else match lineF fs (strOfNums ((data.drop i).take (lineLen (data.drop i)))) with | none => some ([], 0, false) | some f => spec_l4Parse.l0 k data f ((min (i + lineLen (data.drop i) + 1) data.length : Nat) : Int) := by
  have hle := lineLen_le (data.drop i)
  rw [List.length_drop] at hle
  have hcut : (data.take (i + lineLen (data.drop i))).drop i = (data.drop i).take (lineLen (data.drop i)) := by rw [List.drop_take, Nat.add_sub_cancel_left]
  have hlen : ((data.drop i).take (lineLen (data.drop i))).length = lineLen (data.drop i) := by rw [List.length_take, List.length_drop]; omega
  conv => lhs; unfold spec_l4Parse.l0
  rw [if_pos (by omega), spec_l4End_eq data hd k i (by omega) (by omega), Option.bind_some]
  generalize lineLen (data.drop i) = m at hle hcut hlen
  by_cases h0 : m = 0
  · subst h0
    rw [if_pos (show ((i + 0 : Nat) : Int) = (i : Int) by omega), if_pos rfl, spec_l4Fault_eq fs (fldsOk_small fs _ hf (Nat.le_refl _)) k (by omega), Option.bind_some, wrap_succ i (by omega)]
  · rw [if_neg (by omega), if_neg h0, if_pos (by omega), if_pos (by omega), if_pos (by omega), Int.toNat_natCast, Int.toNat_natCast, hcut]
    have hsz := strOfNums_size ((data.drop i).take m)
    rw [hlen] at hsz
    generalize strOfNums ((data.drop i).take m) = s at hsz
    rw [spec_l4Line_eq fs s (by omega) (by omega) hf.1 (fun x hx => (hf.2 x hx).2) k (by omega), Option.bind_some]
    cases lineF fs s with
    | none => rfl
    | some f =>
      show (if true = true then _ else _) = _
      rw [if_pos rfl]
      by_cases g : i + m < data.length
      · rw [if_pos (by omega), wrap_succ (i + m) (by omega), show min (i + m + 1) data.length = i + m + 1 by omega]
      · rw [if_neg (by omega), show min (i + m + 1) data.length = i + m by omega]
theorem impl_parseHeader.step (data : List Int) (hd : data.length ≤ 1048576) (hB : ∀ x ∈ data, 0 ≤ x ∧ x ≤ 255) (fs : List S69) (i : Nat) (hi : i < data.length) (hf : fldsOk fs 1048576) (k : Nat) (hk : fs.length + 2097155 < k) :
    impl_parseHeader.l0 (k + 2) data fs (i : Int) = if lineLen (data.drop i) = 0 then some (fs, ((i + 1 : Nat) : Int), faultF fs == 0) else match lineF fs (strOfNums ((data.drop i).take (lineLen (data.drop i)))) with | none => some ([], 0, false) | some f => impl_parseHeader.l0 k data f ((min (i + lineLen (data.drop i) + 1) data.length : Nat) : Int) := by
  have hdB : ∀ x ∈ data.drop i, 0 ≤ x ∧ x ≤ 255 := fun x hx => hB x (List.mem_of_mem_drop hx)
  have hdl : (data.drop i).length = data.length - i := List.length_drop
  have hx : bytes_IndexByte.f (data.drop i) 10 = some (match fst 10 (data.drop i) with | none => -1 | some j => (j : Int)) := by
    unfold bytes_IndexByte.f
    rw [if_pos (by omega), indexByte_fst 10 (by omega) _ hdB]
  conv => lhs; unfold impl_parseHeader.l0
  rw [if_pos (by omega), if_pos (by omega), if_pos (by omega), Int.toNat_natCast, hx, Option.bind_some]
  cases hf10 : fst 10 (data.drop i) with
  | none =>
    have hm : lineLen (data.drop i) = data.length - i := by unfold lineLen; rw [hf10]; exact hdl
    have w1 : wrap64 ((data.length : Int) - (i : Int)) = ((data.length - i : Nat) : Int) := by rw [wrap64_in (by omega)]; omega
    show (if (-1 : Int) < 0 then _ else _) = _
    rw [if_pos (by decide), w1, impl_parseHeader.j1_eq data hd fs i (data.length - i) _ (by omega) hf k hk, hm, if_neg (by omega), if_neg (by omega), show min (i + (data.length - i) + 1) data.length = data.length by omega]
  | some m =>
    have hlt := fst_lt 10 _ m hf10
    have hm : lineLen (data.drop i) = m := by unfold lineLen; rw [hf10]; rfl
    have w1 : wrap64 ((i : Int) + (m : Int)) = ((i + m : Nat) : Int) := by rw [wrap64_in (by omega)]; omega
    show (if (m : Int) < 0 then _ else _) = _
    rw [if_neg (by omega), w1, wrap_succ (i + m) (by omega), impl_parseHeader.j1_eq data hd fs i m _ (by omega) hf k hk, hm, show min (i + m + 1) data.length = i + m + 1 by omega]
    by_cases h0 : m = 0
    · simp only [if_pos h0]; rw [h0]
    · simp only [if_neg h0]
theorem parse_both (data : List Int) (hd : data.length ≤ 1048576) (hB : ∀ x ∈ data, 0 ≤ x ∧ x ≤ 255) : ∀ (n k k2 i : Nat) (fs : List S69), data.length < i + n → i ≤ data.length → fldsOk fs i → 4194400 + n < k → 4194400 + 2 * n < k2 → spec_l4Parse.l0 k data fs (i : Int) = some (parseF n data i fs) ∧ impl_parseHeader.l0 k2 data fs (i : Int) = some (parseF n data i fs)
  | 0, _, _, _, _, h, h2, _, _, _ => absurd h (by omega)
  | n + 1, k, k2, i, fs, h, h2, hf, hk, hk2 => by
    obtain ⟨k, rfl⟩ : ∃ m, k = m + 1 := ⟨k - 1, by omega⟩
    obtain ⟨k2, rfl⟩ : ∃ m, k2 = m + 2 := ⟨k2 - 2, by omega⟩
    have hf2 := fldsOk_mono fs i 1048576 hf (by omega)
    have hfl := hf.1
    unfold parseF
    by_cases hi : i < data.length
    · rw [spec_l4Parse.step data hd fs i hi hf2 k (by omega), impl_parseHeader.step data hd hB fs i hi hf2 k2 (by omega), if_pos hi]
      have hle := lineLen_le (data.drop i)
      rw [List.length_drop] at hle
      have hlen : ((data.drop i).take (lineLen (data.drop i))).length = lineLen (data.drop i) := by rw [List.length_take, List.length_drop]; omega
      have hsz := strOfNums_size ((data.drop i).take (lineLen (data.drop i)))
      rw [hlen] at hsz
      generalize lineLen (data.drop i) = m at hle hlen hsz
      by_cases h0 : m = 0
      · simp only [if_pos h0]; exact ⟨trivial, trivial⟩
      · simp only [if_neg h0]
        generalize strOfNums ((data.drop i).take m) = s at hsz
        cases hl : lineF fs s with
        | none => exact ⟨rfl, rfl⟩
        | some f =>
          have hok := lineF_ok fs f s i hf (by omega) hl
          exact parse_both data hd hB n k k2 (min (i + m + 1) data.length) f (by omega) (by omega) (fldsOk_mono f _ _ hok (by omega)) (by omega) (by omega)
    · obtain ⟨k2, rfl⟩ : ∃ m, k2 = m + 1 := ⟨k2 - 1, by omega⟩
      have hI : ¬ ((i : Int) < (data.length : Int)) := by omega
      rw [spec_l4Parse.l0, impl_parseHeader.l0, if_neg hI, if_neg hI, if_neg hi, spec_l4Fault_eq fs (fldsOk_small fs _ hf2 (Nat.le_refl _)) k (by omega), impl_FieldsFault_eq fs (fldsOk_small fs _ hf2 (Nat.le_refl _)) (k2 + 1 + 1) (by omega)]
      exact ⟨rfl, rfl⟩
theorem parse_both0 (data : List Int) (hd : data.length ≤ 1048576) (hB : ∀ x ∈ data, 0 ≤ x ∧ x ≤ 255) (k : Nat) (hk : 8388800 < k) : spec_l4Parse.f k data = some (parseF (data.length + 1) data 0 []) ∧ impl_parseHeader.f k data = some (parseF (data.length + 1) data 0 []) := by
  unfold spec_l4Parse.f impl_parseHeader.f
  exact parse_both data hd hB (data.length + 1) k k 0 [] (by omega) (by omega) ⟨Nat.zero_le _, by simp⟩ (by omega) (by omega)
theorem parseF_ok (data : List Int) (hd : data.length ≤ 1048576) : ∀ (n i : Nat) (fs : List S69), i ≤ data.length → fldsOk fs i → fldsOk (parseF n data i fs).1 1048576
  | 0, _, _, _, _ => ⟨Nat.zero_le _, by simp [parseF]⟩
  | n + 1, i, fs, hi, hf => by
    have hf2 := fldsOk_mono fs i 1048576 hf (by omega)
    unfold parseF
    by_cases c : i < data.length
    · rw [if_pos c]
      have hle := lineLen_le (data.drop i)
      rw [List.length_drop] at hle
      have hlen : ((data.drop i).take (lineLen (data.drop i))).length = lineLen (data.drop i) := by rw [List.length_take, List.length_drop]; omega
      have hsz := strOfNums_size ((data.drop i).take (lineLen (data.drop i)))
      rw [hlen] at hsz
      generalize lineLen (data.drop i) = m at hle hlen hsz
      by_cases h0 : m = 0
      · rw [if_pos h0]; exact hf2
      · rw [if_neg h0]
        generalize strOfNums ((data.drop i).take m) = s at hsz
        cases hl : lineF fs s with
        | none => exact ⟨Nat.zero_le _, by simp⟩
        | some f =>
          have hok := lineF_ok fs f s i hf (by omega) hl
          exact parseF_ok data hd n (min (i + m + 1) data.length) f (by omega) (fldsOk_mono f _ _ hok (by omega))
    · rw [if_neg c]; exact hf2
theorem laws_eqFieldS.l0_eq (l : List S69) (hl : l.length ≤ 1048576) : ∀ (n k i : Nat), l.length = i + n → n < k → laws_eqFieldS.l0 k l l (i : Int) = some true
  | _, 0, _, _, h => absurd h (by omega)
  | 0, k + 1, i, hi, _ => by
    have h1 : ¬ ((i : Int) < (l.length : Int)) := by omega
    rw [laws_eqFieldS.l0, if_neg h1]
  | n + 1, k + 1, i, hi, h => by
    have h1 : (i : Int) < (l.length : Int) := by omega
    have h2 : (0 : Int) ≤ (i : Int) := by omega
    rw [laws_eqFieldS.l0, if_pos h1, if_pos h2, if_pos h1, wrap_succ i (by omega)]
    unfold laws_eqField.f
    rw [if_pos rfl, if_pos rfl, Option.bind_some, if_pos rfl]
    exact laws_eqFieldS.l0_eq l hl n k (i + 1) (by omega) (by omega)
theorem laws_eqFieldS_eq (l : List S69) (k : Nat) (hl : l.length ≤ 1048576) (hk : l.length < k) : laws_eqFieldS.f k l l = some true := by
  unfold laws_eqFieldS.f
  rw [if_pos rfl]
  exact laws_eqFieldS.l0_eq l hl l.length k 0 (by omega) hk
theorem div10 (x p : Int) (h0 : 0 ≤ x) (hx : x ≤ 4611686018427387904) (h1 : x < p * 10) : 0 ≤ x / 10 ∧ x / 10 ≤ 4611686018427387904 ∧ x / 10 < p := by omega
theorem laws_markText.l0_some : ∀ (n k : Nat) (x : Int) (acc : ByteArray), 0 ≤ x → x ≤ 4611686018427387904 → x < 10 ^ n → n < k → acc.size + n ≤ 1000 → ∃ s, laws_markText.l0 k x acc = some s
  | _, 0, _, _, _, _, _, h, _ => absurd h (by omega)
  | 0, k + 1, x, acc, h0, _, h1, _, ha => by
    have hx : ¬ x > 0 := by
      have : (10 : Int) ^ 0 = 1 := rfl
      omega
    rw [laws_markText.l0, if_neg hx, if_pos (by omega)]
    exact ⟨_, rfl⟩
  | n + 1, k + 1, x, acc, h0, hm, h1, hk, ha => by
    by_cases hx : x > 0
    · have hd : Int.tdiv x 10 = x / 10 := Int.tdiv_eq_ediv_of_nonneg h0
      have hp : (10 : Int) ^ (n + 1) = 10 ^ n * 10 := by rw [Int.pow_succ]
      have hsz : (strOfNums [(wrap64 (48 + (Int.tmod x 10))) % 256]).size = 1 := by rw [strOfNums_size]; rfl
      rw [hp] at h1
      obtain ⟨q0, q1, q2⟩ := div10 x _ h0 hm h1
      have hw : wrap64 (x / 10) = x / 10 := wrap64_in ⟨Int.le_trans (by decide) q0, Int.le_trans q1 (by decide)⟩
      have hsz2 : ((strOfNums [(wrap64 (48 + (Int.tmod x 10))) % 256]) ++ acc).size = 1 + acc.size := by rw [ByteArray.size_append, hsz]
      rw [laws_markText.l0, if_pos hx, Option.bind_some, if_pos (by rw [hsz]; omega), hd, hw]
      exact laws_markText.l0_some n k (x / 10) _ q0 q1 q2 (by omega) (by rw [hsz2]; omega)
    · rw [laws_markText.l0, if_neg hx, if_pos (by omega)]
      exact ⟨_, rfl⟩
theorem laws_markText_some (k : Nat) (x : Int) (hk : 30 ≤ k) (hx : x ≤ 1000000000) : ∃ s, laws_markText.f k x = some s := by
  unfold laws_markText.f
  by_cases h : x ≤ 0
  · rw [if_pos h]; exact ⟨_, rfl⟩
  · rw [if_neg h]
    have hp : (10 : Int) ^ 10 = 10000000000 := by decide
    exact laws_markText.l0_some 10 k x _ (by omega) (by omega) (by rw [hp]; omega) (by omega) (by decide)
theorem laws_markText.l0_all : ∀ (n : Nat) (x : Int) (acc : ByteArray), 0 ≤ x → x ≤ 4611686018427387904 → x < 10 ^ n → acc.size + n ≤ 1000 → ∃ s, ∀ k, n < k → laws_markText.l0 k x acc = some s
  | 0, x, acc, h0, _, h1, ha => by
    have hx : ¬ x > 0 := by
      have : (10 : Int) ^ 0 = 1 := rfl
      omega
    refine ⟨(⟨#[109]⟩ : ByteArray) ++ acc, fun k hk => ?_⟩
    obtain ⟨k, rfl⟩ : ∃ m, k = m + 1 := ⟨k - 1, by omega⟩
    rw [laws_markText.l0, if_neg hx, if_pos (by omega)]
  | n + 1, x, acc, h0, hm, h1, ha => by
    by_cases hx : x > 0
    · have hd : Int.tdiv x 10 = x / 10 := Int.tdiv_eq_ediv_of_nonneg h0
      have hp : (10 : Int) ^ (n + 1) = 10 ^ n * 10 := by rw [Int.pow_succ]
      have hsz : (strOfNums [(wrap64 (48 + (Int.tmod x 10))) % 256]).size = 1 := by rw [strOfNums_size]; rfl
      rw [hp] at h1
      obtain ⟨q0, q1, q2⟩ := div10 x _ h0 hm h1
      have hw : wrap64 (x / 10) = x / 10 := wrap64_in ⟨Int.le_trans (by decide) q0, Int.le_trans q1 (by decide)⟩
      have hsz2 : ((strOfNums [(wrap64 (48 + (Int.tmod x 10))) % 256]) ++ acc).size = 1 + acc.size := by rw [ByteArray.size_append, hsz]
      obtain ⟨s, hs⟩ := laws_markText.l0_all n (x / 10) ((strOfNums [(wrap64 (48 + (Int.tmod x 10))) % 256]) ++ acc) q0 q1 q2 (by rw [hsz2]; omega)
      refine ⟨s, fun k hk => ?_⟩
      obtain ⟨k, rfl⟩ : ∃ m, k = m + 1 := ⟨k - 1, by omega⟩
      rw [laws_markText.l0, if_pos hx, Option.bind_some, if_pos (by rw [hsz]; omega), hd, hw]
      exact hs k (by omega)
    · refine ⟨(⟨#[109]⟩ : ByteArray) ++ acc, fun k hk => ?_⟩
      obtain ⟨k, rfl⟩ : ∃ m, k = m + 1 := ⟨k - 1, by omega⟩
      rw [laws_markText.l0, if_neg hx, if_pos (by omega)]
def markT (x : Int) : ByteArray := (laws_markText.f 30 x).getD (⟨#[]⟩ : ByteArray)
theorem laws_markText_eq (k : Nat) (x : Int) (hk : 30 ≤ k) (hx : x ≤ 1000000000) : laws_markText.f k x = some (markT x) := by
  unfold markT laws_markText.f
  by_cases h : x ≤ 0
  · rw [if_pos h, if_pos h]; rfl
  · rw [if_neg h]
    have hp : (10 : Int) ^ 10 = 10000000000 := by decide
    obtain ⟨s, hs⟩ := laws_markText.l0_all 10 x (⟨#[]⟩ : ByteArray) (by omega) (by omega) (by rw [hp]; omega) (by decide)
    exact (hs k (by omega)).trans (by rw [if_neg h]; exact (congrArg (fun o => some (Option.getD o (⟨#[]⟩ : ByteArray))) (hs 30 (by omega))).symm)
def markedF : Nat → Int → List S69
  | 0, _ => []
  | n + 1, q => (⟨markT q, markT (q + 1)⟩ : S69) :: markedF n (q + 1 + 1)
theorem markedF_len : ∀ n q, (markedF n q).length = n
  | 0, _ => rfl
  | n + 1, q => by simp [markedF, markedF_len n]
theorem rd_mid (p r : List S69) (a : S69) : rd_T69 (p ++ a :: r) (p.length : Int) = a := by
  unfold rd_T69
  rw [Int.toNat_natCast, List.getD_eq_getElem?_getD, List.getElem?_append_right (by omega), Nat.sub_self]
  rfl
theorem set_mid (p r : List S69) (a b : S69) : (p ++ a :: r).set (p.length : Int).toNat b = p ++ b :: r := by
  rw [Int.toNat_natCast, List.set_append_right _ _ (by omega), Nat.sub_self]
  rfl
theorem laws_markFieldS.l0_ex : ∀ (r p : List S69) (k : Nat) (q : Int), r.length + 40 < k → 0 ≤ q → q + 2 * r.length ≤ 900000000 → p.length + r.length ≤ 1048576 → laws_markFieldS.l0 k (p ++ r) q (p.length : Int) = some (q + 2 * r.length, p ++ markedF r.length q)
  | _, _, 0, _, h, _, _, _ => absurd h (by omega)
  | [], p, k + 1, q, _, _, _, _ => by
    have h1 : ¬ ((p.length : Int) < ((p ++ ([] : List S69)).length : Int)) := by simp
    rw [laws_markFieldS.l0, if_neg h1]
    simp [markedF]
  | a :: r, p, k + 1, q, h, h0, hq, hl => by
    rw [List.length_cons] at h hq hl
    have h1 : (p.length : Int) < ((p ++ a :: r).length : Int) := by rw [List.length_append, List.length_cons]; omega
    have h2 : (0 : Int) ≤ (p.length : Int) := by omega
    have w1 : wrap64 (q + 1) = q + 1 := wrap64_in (by omega)
    have w2 : wrap64 (q + 1 + 1) = q + 1 + 1 := wrap64_in (by omega)
    rw [laws_markFieldS.l0, if_pos h1, laws_markText_eq k q (by omega) (by omega), Option.bind_some, if_pos h2, Option.bind_some, w1, laws_markText_eq k (q + 1) (by omega) (by omega), Option.bind_some, w2, wrap_succ p.length (by omega), rd_mid, set_mid, rd_mid, set_mid]
    have ih := laws_markFieldS.l0_ex r (p ++ [(⟨markT q, markT (q + 1)⟩ : S69)]) k (q + 1 + 1) (by omega) (by omega) (by omega) (by rw [List.length_append, List.length_cons, List.length_nil]; omega)
    rw [List.append_assoc, List.length_append, List.length_cons, List.length_nil] at ih
    refine ih.trans ?_
    rw [List.append_assoc, List.length_cons]
    show some _ = some (_, p ++ (⟨markT q, markT (q + 1)⟩ : S69) :: markedF r.length (q + 1 + 1))
    congr 2
    omega
theorem laws_markFieldS_ex (l : List S69) (k : Nat) (hk : l.length + 40 < k) (hl : l.length ≤ 1048576) : laws_markFieldS.f k l 1 = some (1 + 2 * (l.length : Int), markedF l.length 1) := by
  unfold laws_markFieldS.f
  exact laws_markFieldS.l0_ex l [] k 1 hk (by omega) (by omega) (by rw [List.length_nil]; omega)
theorem laws_heldFieldS.l0_ex : ∀ (n : Nat) (p : List S69) (k : Nat) (q : Int), n + 40 < k → 0 ≤ q → q + 2 * n ≤ 900000000 → p.length + n ≤ 1048576 → laws_heldFieldS.l0 k (p ++ markedF n q) q (p.length : Int) = some (q + 2 * n)
  | _, _, 0, _, h, _, _, _ => absurd h (by omega)
  | 0, p, k + 1, q, _, _, _, _ => by
    have h1 : ¬ ((p.length : Int) < ((p ++ markedF 0 q).length : Int)) := by simp [markedF]
    rw [laws_heldFieldS.l0, if_neg h1]
    simp
  | n + 1, p, k + 1, q, h, h0, hq, hl => by
    have h1 : (p.length : Int) < ((p ++ markedF (n + 1) q).length : Int) := by rw [List.length_append, markedF_len]; omega
    have h2 : (0 : Int) ≤ (p.length : Int) := by omega
    have w1 : wrap64 (q + 1) = q + 1 := wrap64_in (by omega)
    have w2 : wrap64 (q + 1 + 1) = q + 1 + 1 := wrap64_in (by omega)
    rw [laws_heldFieldS.l0, if_pos h1, if_pos h2, laws_markText_eq k q (by omega) (by omega), Option.bind_some, w1, laws_markText_eq k (q + 1) (by omega) (by omega), Option.bind_some, w2, wrap_succ p.length (by omega)]
    unfold markedF
    rw [rd_mid, if_pos rfl, if_pos rfl]
    have ih := laws_heldFieldS.l0_ex n (p ++ [(⟨markT q, markT (q + 1)⟩ : S69)]) k (q + 1 + 1) (by omega) (by omega) (by omega) (by rw [List.length_append, List.length_cons, List.length_nil]; omega)
    rw [List.append_assoc, List.length_append, List.length_cons, List.length_nil] at ih
    refine ih.trans ?_
    congr 1
    omega
theorem laws_heldFieldS_ex (n k : Nat) (hk : n + 40 < k) (hl : n ≤ 1048576) : laws_heldFieldS.f k (markedF n 1) 1 = some (1 + 2 * (n : Int)) := by
  unfold laws_heldFieldS.f
  exact laws_heldFieldS.l0_ex n [] k 1 hk (by omega) (by omega) (by rw [List.length_nil]; omega)
theorem laws_toByteS.l0_eq (x0 : List Int) (hb : x0.length ≤ maxLen) : ∀ (n k i : Nat), x0.length = i + n → n < k → laws_toByteS.l0 k x0 (x0.take i ++ List.replicate n 0) (i : Int) = some x0
  | 0, 0, _, _, h => absurd h (by omega)
  | 0, k + 1, i, hi, _ => by
    have h1 : ¬ ((i : Int) < (x0.length : Int)) := by omega
    simp only [laws_toByteS.l0, if_neg h1, List.replicate_zero, List.append_nil]
    rw [List.take_of_length_le (by omega)]
  | n + 1, 0, _, _, h => absurd h (by omega)
  | n + 1, k + 1, i, hi, h => by
    have hm := maxLen_le
    have h1 : (i : Int) < (x0.length : Int) := by omega
    have h2 : (0 : Int) ≤ (i : Int) := by omega
    have h3 : (i : Int) < ((x0.take i ++ List.replicate (n + 1) (0 : Int)).length : Int) := by simp; omega
    have h4 : wrap64 ((i : Int) + 1) = ((i + 1 : Nat) : Int) := by rw [wrap64_in (by omega)]; omega
    simp only [laws_toByteS.l0]
    rw [if_pos h1, if_pos h2, if_pos h3, h4]
    rw [← laws_toByteS.l0_eq x0 hb n k (i + 1) (by omega) (by omega)]
    congr 1
    rw [rd_at x0 i (by omega), Int.toNat_natCast, List.set_append_right _ _ (by simp; omega)]
    have h5 : i - (x0.take i).length = 0 := by simp; omega
    rw [h5, List.take_succ_eq_append_getElem (by omega), List.append_assoc, List.replicate_succ, List.set_cons_zero]
    rfl
theorem laws_toByteS_eq (l : List Int) (k : Nat) (hb : l.length ≤ maxLen) (hb2 : l.length ≤ 1048576) (hk : l.length < k) : laws_toByteS.f k l = some l := by
  unfold laws_toByteS.f
  have h1 : (0 : Int) ≤ (l.length : Int) := by omega
  rw [if_pos h1, Int.toNat_natCast, if_pos (by omega)]
  exact laws_toByteS.l0_eq l hb l.length k 0 (by omega) hk
theorem laws_eqByteS.l0_eq (x0 : List Int) (hb : x0.length ≤ maxLen) : ∀ (n k i : Nat), x0.length = i + n → n < k → laws_eqByteS.l0 k x0 x0 (i : Int) = some true
  | 0, 0, _, _, h => absurd h (by omega)
  | 0, k + 1, i, hi, _ => by
    have h1 : ¬ ((i : Int) < (x0.length : Int)) := by omega
    simp only [laws_eqByteS.l0, if_neg h1]
  | n + 1, 0, _, _, h => absurd h (by omega)
  | n + 1, k + 1, i, hi, h => by
    have hm := maxLen_le
    have h1 : (i : Int) < (x0.length : Int) := by omega
    have h2 : (0 : Int) ≤ (i : Int) := by omega
    have h4 : wrap64 ((i : Int) + 1) = ((i + 1 : Nat) : Int) := by rw [wrap64_in (by omega)]; omega
    unfold laws_eqByteS.l0
    rw [if_pos h1, if_pos h2, if_pos h1]
    rw [if_pos rfl, h4]
    exact laws_eqByteS.l0_eq x0 hb n k (i + 1) (by omega) (by omega)
theorem laws_eqByteS_eq (l : List Int) (k : Nat) (hb : l.length ≤ maxLen) (hk : l.length < k) : laws_eqByteS.f k l l = some true := by
  unfold laws_eqByteS.f
  rw [if_pos rfl]
  exact laws_eqByteS.l0_eq l hb l.length k 0 (by omega) hk
def mkByteS (x : Int) : Int := ((x)%256)
def marksByteS : Int → Nat → List Int
  | _, 0 => []
  | m, n + 1 => mkByteS m :: marksByteS (m + 1) n
theorem marksByteS_len : ∀ n m, (marksByteS m n).length = n
  | 0, _ => rfl
  | n + 1, m => by simp [marksByteS, marksByteS_len n]
theorem laws_markByteS.l0_eq : ∀ (n k i : Nat) (x0 : List Int) (x1 : Int), x0.length = i + n → n < k → 0 ≤ x1 → x1 + n ≤ 4611686018427387904 → x0.length ≤ 4611686018427387904 → laws_markByteS.l0 k x0 x1 (i : Int) = some (x1 + n, x0.take i ++ marksByteS x1 n)
  | 0, 0, _, _, _, _, h, _, _, _ => absurd h (by omega)
  | 0, k + 1, i, x0, x1, hi, _, _, _, _ => by
    have h1 : ¬ ((i : Int) < (x0.length : Int)) := by omega
    unfold laws_markByteS.l0
    rw [if_neg h1, List.take_of_length_le (by omega)]
    simp [marksByteS]
  | n + 1, 0, _, _, _, _, h, _, _, _ => absurd h (by omega)
  | n + 1, k + 1, i, x0, x1, hi, h, hx, hx1, hb => by
    have h1 : (i : Int) < (x0.length : Int) := by omega
    have h2 : (0 : Int) ≤ (i : Int) := by omega
    have h4 : wrap64 ((i : Int) + 1) = ((i + 1 : Nat) : Int) := by rw [wrap64_in (by omega)]; omega
    have h5 : wrap64 (x1 + 1) = x1 + 1 := wrap64_in (by omega)
    have hs : (x0.set i (mkByteS x1)).take (i + 1) = x0.take i ++ [mkByteS x1] := by
      rw [List.take_succ_eq_append_getElem (by simp; omega), List.getElem_set_self]
      congr 1
      rw [List.take_set, List.set_eq_of_length_le (by simp; omega)]
    unfold laws_markByteS.l0
    rw [if_pos h1, if_pos h2, Int.toNat_natCast, h4, h5]
    have := laws_markByteS.l0_eq n k (i + 1) (x0.set i (mkByteS x1)) (x1 + 1) (by simp; omega) (by omega) (by omega) (by omega) (by simp; omega)
    rw [hs] at this
    unfold mkByteS at this
    rw [this]
    simp [marksByteS, mkByteS]
    omega
theorem laws_markByteS_eq (l : List Int) (m : Int) (k : Nat) (hk : l.length < k) (hl : l.length ≤ 1048576) (hm : 0 ≤ m ∧ m ≤ 4294967296) : laws_markByteS.f k l m = some (m + l.length, marksByteS m l.length) := by
  unfold laws_markByteS.f
  have := laws_markByteS.l0_eq l.length k 0 l m (by omega) hk hm.1 (by omega) (by omega)
  simpa using this
theorem byte_wf {l : List Int} (h : ∀ x ∈ l, (Lit.int .u8 x).wf = true) : ∀ x ∈ l, 0 ≤ x ∧ x ≤ 255 := by
  intro x hx
  have h1 := h x hx
  unfold Lit.wf at h1
  rw [Bool.and_eq_true, decide_eq_true_eq, decide_eq_true_eq, show IntKind.u8.min = 0 from by decide, show IntKind.u8.max = 255 from by decide] at h1
  exact h1
theorem ParseHeader_both (l : List Int) (hl : l.length ≤ 1048576) (hB : ∀ x ∈ l, 0 ≤ x ∧ x ≤ 255) : ∃ r : Int × Int × List S69, r.2.2.length ≤ 1048576 ∧ ∀ k, 8388800 < k → spec_ParseHeader.f k l = some r ∧ impl_ParseHeader.f k l = some r := by
  unfold spec_ParseHeader.f impl_ParseHeader.f
  by_cases c : (l.length : Int) > 400
  · exact ⟨(2, 0, []), Nat.zero_le _, fun k _ => by rw [if_pos c, if_pos c]; exact ⟨rfl, rfl⟩⟩
  · have hok := parseF_ok l hl (l.length + 1) 0 [] (Nat.zero_le _) ⟨Nat.zero_le _, by simp⟩
    have hb := parse_both0 l hl hB
    generalize parseF (l.length + 1) l 0 [] = o at hok hb
    by_cases h : o.2.2 = true
    · refine ⟨(0, o.2.1, o.1), hok.1, fun k hk => ?_⟩
      obtain ⟨h1, h2⟩ := hb k hk
      rw [if_neg c, if_neg c, h1, h2, Option.bind_some, if_pos h]
      exact ⟨rfl, rfl⟩
    · refine ⟨(1, 0, []), Nat.zero_le _, fun k hk => ?_⟩
      obtain ⟨h1, h2⟩ := hb k hk
      rw [if_neg c, if_neg c, h1, h2, Option.bind_some, if_neg h]
      exact ⟨rfl, rfl⟩
theorem FnExactParseHeader : laws_FnExactParseHeader.Pure := by
  intro l hb _ hw
  obtain ⟨k, hk⟩ : ∃ k, l.length + 8388800 + 1048576 + 40 < k := ⟨_, Nat.lt_succ_self _⟩
  refine ⟨k + 1, ?_⟩
  unfold laws_FnExactParseHeader.f
  by_cases hl : (l.length : Int) > 1048576
  · rw [if_pos hl]
  · rw [if_neg hl]
    have hB := byte_wf hw
    obtain ⟨r, hlen, hr⟩ := ParseHeader_both l (by omega) hB
    obtain ⟨a1, a2⟩ := hr (k + 1) (by omega)
    obtain ⟨_, a3⟩ := hr k (by omega)
    have e2 := laws_eqByteS_eq l (k + 1) hb (by omega)
    have e4 := laws_markByteS_eq l 1 (k + 1) (by omega) (by omega) (by omega)
    have e5 := laws_markFieldS_ex r.2.2 k (by omega) (by omega)
    have e6 := laws_heldFieldS_ex r.2.2.length k (by omega) (by omega)
    have p0 : ¬ (1 + (l.length : Int) < 0) := by omega
    have e7 : ∀ k, 1048576 < k → laws_eqHeaderResult.f k r.1 r.2.1 r.2.2 r.1 r.2.1 r.2.2 = some true := by
      intro k hk; unfold laws_eqHeaderResult.f; rw [if_pos rfl, if_pos rfl, laws_eqFieldS_eq r.2.2 k (by omega) (by omega)]; rfl
    have q1 := laws_toByteS_eq l (k + 1) hb (by omega) (by omega)
    have q2 := laws_toByteS_eq l k hb (by omega) (by omega)
    have q6 := e7 (k + 1) (by omega)
    have q7 := e7 k (by omega)
    have p1 : ¬ (1 + 2 * (r.2.2.length : Int) < 0) := by omega
    simp only [q1, a1, a2, q6, e2, e4, Option.bind_some, if_true, if_neg p0]
    rw [laws_FnExactParseHeader.j0]
    simp only [laws_markHeaderResult.f, laws_heldHeaderResult.f, q2, a3, q7, e5, e6, Option.bind_some, if_true, if_neg p1, Bool.not_true, Bool.false_eq_true, if_false]

end Go.Proofs.Ytjopgmjmjnfcjaa.Pure
