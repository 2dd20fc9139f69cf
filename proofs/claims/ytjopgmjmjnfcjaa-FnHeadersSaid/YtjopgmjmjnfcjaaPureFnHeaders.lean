/- Part of the proof: what its walks use. -/
import Derived.Test.YtjopgmjmjnfcjaaPHeadersx10
namespace Go.Proofs.Ytjopgmjmjnfcjaa.Pure
open Go.RowKit Go.Proofs.Ytjopgmjmjnfcjaa.PHeaders Go.Proofs.YtjopgmjmjnfcjaaW.PrintWords Go.Proofs.YtjopgmjmjnfcjaaW.PrintLast
set_option linter.unusedSimpArgs false
set_option linter.unusedVariables false
theorem rd_at (l : List Int) (i : Nat) (h : i < l.length) : rd l (i : Int) = l[i] := by
  simp [rd, List.getD_eq_getElem?_getD, h]
theorem wrap64_in {n : Int} (h : -9223372036854775808 ≤ n ∧ n ≤ 9223372036854775807) : wrap64 n = n := by
  unfold wrap64; omega
theorem maxLen_le : maxLen ≤ 9223372036854775807 := by unfold maxLen; decide
theorem bt_range (s : ByteArray) (i : Int) : 0 ≤ bt s i ∧ bt s i ≤ 255 := by
  unfold bt
  split
  · rename_i h
    have := UInt8.toNat_lt (s[i.toNat]'h)
    omega
  · omega
theorem strOfNums_size (l : List Int) : (strOfNums l).size = l.length := by
  show (strOfNums l).data.size = _
  simp [strOfNums]
theorem bytesOf_strOfNums (l : List Int) (h : ∀ x ∈ l, 0 ≤ x ∧ x ≤ 255) : bytesOf (strOfNums l) = l := by
  unfold bytesOf strOfNums
  simp only [List.map_map]
  conv => rhs; rw [← List.map_id l]
  apply List.map_congr_left
  intro x hx
  have := h x hx
  simp only [Function.comp, id]
  rw [UInt8.toNat_ofNat_of_lt' (by show x.toNat < 256; omega)]
  omega
theorem strOfNums_bytesOf (s : ByteArray) : strOfNums (bytesOf s) = s := by
  unfold bytesOf strOfNums
  rw [List.map_map]
  have h : (s.data.toList.map ((fun n : Int => UInt8.ofNat n.toNat) ∘ fun b : UInt8 => (b.toNat : Int))) = s.data.toList := by
    conv => rhs; rw [← List.map_id s.data.toList]
    apply List.map_congr_left
    intro x _
    simp
  rw [h]
theorem bytesOf_in (s : ByteArray) : ∀ x ∈ bytesOf s, 0 ≤ x ∧ x ≤ 255 := by
  intro x hx
  obtain ⟨b, _, rfl⟩ := List.mem_map.1 hx
  have := UInt8.toNat_lt b
  omega
theorem bt_strOfNums (l : List Int) (h : ∀ x ∈ l, 0 ≤ x ∧ x ≤ 255) (i : Nat) (hi : i < l.length) : bt (strOfNums l) (i : Int) = l[i] := by
  rw [← rd_bytesOf, bytesOf_strOfNums l h, rd_at l i hi]
def fst (c : Int) : List Int → Option Nat
  | [] => none
  | x :: xs => if x = c then some 0 else (fst c xs).map (· + 1)
theorem fst_lt (c : Int) : ∀ (l : List Int) (i : Nat), fst c l = some i → i < l.length
  | [], i, h => by cases h
  | x :: xs, i, h => by
    unfold fst at h
    by_cases hx : x = c
    · rw [if_pos hx] at h; cases h; simp
    · rw [if_neg hx] at h
      obtain ⟨j, hj, rfl⟩ := Option.map_eq_some_iff.1 h
      have := fst_lt c xs j hj
      simp only [List.length_cons]
      omega
theorem u8_eq (x c : Int) (hx : 0 ≤ x ∧ x ≤ 255) (hc : 0 ≤ c ∧ c ≤ 255) : (UInt8.ofNat x.toNat == c.toNat.toUInt8) = decide (x = c) := by
  rw [Bool.eq_iff_iff, beq_iff_eq, decide_eq_true_eq]
  constructor
  · intro h
    have h2 := congrArg UInt8.toNat h
    rw [UInt8.toNat_ofNat_of_lt' (by show x.toNat < 256; omega)] at h2
    rw [show c.toNat.toUInt8.toNat = c.toNat from UInt8.toNat_ofNat_of_lt' (by show c.toNat < 256; omega)] at h2
    omega
  · intro h
    subst h
    rfl
theorem indexByte_fst (c : Int) (hc : 0 ≤ c ∧ c ≤ 255) : ∀ l : List Int, (∀ x ∈ l, 0 ≤ x ∧ x ≤ 255) → Lib.indexByte (Lib.bytesOf l) c.toNat.toUInt8 = match fst c l with | none => -1 | some i => (i : Int)
  | [], _ => rfl
  | x :: xs, h => by
    have ih := indexByte_fst c hc xs (fun y hy => h y (by simp [hy]))
    show (if UInt8.ofNat x.toNat == c.toNat.toUInt8 then 0 else if Lib.indexByte (Lib.bytesOf xs) c.toNat.toUInt8 == -1 then -1 else Lib.indexByte (Lib.bytesOf xs) c.toNat.toUInt8 + 1) = _
    rw [u8_eq x c (h x (by simp)) hc, ih, show fst c (x :: xs) = if x = c then some 0 else (fst c xs).map (· + 1) from rfl]
    by_cases hx : x = c
    · rw [decide_eq_true hx, if_pos rfl, if_pos hx]; rfl
    · rw [decide_eq_false hx, if_neg (by decide), if_neg hx]
      cases fst c xs with
      | none => rfl
      | some i =>
        show (if (((i : Int) == -1) = true) then -1 else (i : Int) + 1) = ((i + 1 : Nat) : Int)
        have : ((i : Int) == -1) = false := by rw [beq_eq_false_iff_ne]; omega
        rw [this, if_neg (by decide)]
        omega
theorem data_bytesOf (s : ByteArray) : s.data.toList = Lib.bytesOf (bytesOf s) := by
  unfold Lib.bytesOf bytesOf
  rw [List.map_map]
  conv => lhs; rw [← List.map_id s.data.toList]
  apply List.map_congr_left
  intro x _
  simp
theorem toList_nil (s : ByteArray) : s.toList = [] ↔ s.size = 0 := by
  rw [Go.ByteArray.toList_eq]
  constructor
  · intro h
    have := congrArg List.length h
    rw [Array.length_toList] at this
    exact this
  · intro h
    apply List.eq_nil_of_length_eq_zero
    rw [Array.length_toList]
    exact h
theorem bytesOf_extract (s : ByteArray) (i j : Nat) : bytesOf (s.extract i j) = ((bytesOf s).take j).drop i := by
  unfold bytesOf
  rw [ByteArray.data_extract, Array.toList_extract]
  unfold List.extract
  rw [List.map_take, List.map_drop, List.drop_take]
theorem in_eq (a b c : Int) : spec_l1In.f a b c = some (decide (b ≤ a ∧ a ≤ c)) := by
  unfold spec_l1In.f; by_cases h : a ≥ b <;> simp [h] <;> omega
def nbB (c : Int) : Bool := decide (97 ≤ c ∧ c ≤ 122) || decide (65 ≤ c ∧ c ≤ 90) || decide (48 ≤ c ∧ c ≤ 57) || c == 45
def vbB (c : Int) : Bool := decide (32 ≤ c) && c != 127
def nameB (s : ByteArray) : Bool := (bytesOf s).all nbB && decide (1 ≤ s.size ∧ s.size ≤ 30)
def valB (s : ByteArray) : Bool := (bytesOf s).all vbB && decide (s.size ≤ 120)
theorem vb_lt (c : Int) (h : c < 32) : vbB c = false := by unfold vbB; rw [decide_eq_false (show ¬ 32 ≤ c by omega), Bool.false_and]
theorem vb_127 : vbB 127 = false := rfl
theorem vb_ok (c : Int) (h : ¬ c < 32) (h2 : ¬ c = 127) : vbB c = true := by unfold vbB; rw [decide_eq_true (show 32 ≤ c by omega), bne_iff_ne.mpr h2]; rfl
theorem spec_l4NameByte_eq (c : Int) : spec_l4NameByte.f c = some (nbB c) := by
  unfold spec_l4NameByte.f nbB
  by_cases h1 : c ≥ 97 <;> by_cases h2 : c ≤ 122 <;> by_cases h3 : c ≥ 65 <;> by_cases h4 : c ≤ 90 <;> by_cases h5 : c ≥ 48 <;> by_cases h6 : c ≤ 57 <;> simp [h1, h2, h3, h4, h5, h6]
theorem drop_bt (s : ByteArray) (i : Nat) (h : i < s.size) : (bytesOf s).drop i = bt s (i : Int) :: (bytesOf s).drop (i + 1) := by
  have hl : i < (bytesOf s).length := by rw [bytesOf_length]; exact h
  rw [List.drop_eq_getElem_cons hl, ← rd_bytesOf, rd_at _ i hl]
theorem drop_end (s : ByteArray) (i : Nat) (h : ¬ i < s.size) : (bytesOf s).drop i = [] := List.drop_eq_nil_of_le (by rw [bytesOf_length]; omega)
theorem wrap_succ (i : Nat) (h : i ≤ 4611686018427387904) : wrap64 ((i : Int) + 1) = ((i + 1 : Nat) : Int) := by rw [wrap64_in (by omega)]; omega
theorem spec_l4Name.l0_eq (s : ByteArray) (hs : s.size ≤ 1048576) : ∀ (n k i : Nat), s.size = i + n → n < k → spec_l4Name.l0 k s (i : Int) = some (((bytesOf s).drop i).all nbB && decide (1 ≤ s.size ∧ s.size ≤ 30))
  | _, 0, _, _, h => absurd h (by omega)
  | 0, k + 1, i, hi, _ => by
    have h1 : ¬ ((i : Int) < (s.size : Int)) := by omega
    rw [spec_l4Name.l0, if_neg h1, in_eq, drop_end s i (by omega)]
    simp only [Option.bind_some, List.all_nil, Bool.true_and]
    congr 1
    rw [decide_eq_decide]
    omega
  | n + 1, k + 1, i, hi, h => by
    have h1 : (i : Int) < (s.size : Int) := by omega
    have h2 : (0 : Int) ≤ (i : Int) := by omega
    rw [spec_l4Name.l0, if_pos h1, if_pos h2, spec_l4NameByte_eq, Option.bind_some, wrap_succ i (by omega), spec_l4Name.l0_eq s hs n k (i + 1) (by omega) (by omega), drop_bt s i (by omega), List.all_cons]
    cases nbB (bt s (i : Int)) with
    | true => rw [if_pos rfl, Bool.true_and]
    | false => rw [if_neg (by decide), Bool.false_and, Bool.false_and]
theorem spec_l4Name_eq (s : ByteArray) (k : Nat) (hs : s.size ≤ 1048576) (hk : s.size < k) : spec_l4Name.f k s = some (nameB s) := by
  have := spec_l4Name.l0_eq s hs s.size k 0 (by omega) hk
  unfold spec_l4Name.f nameB
  simpa using this
theorem spec_l4Value.l0_eq (s : ByteArray) (hs : s.size ≤ 1048576) : ∀ (n k i : Nat), s.size = i + n → n < k → spec_l4Value.l0 k s (i : Int) = some (((bytesOf s).drop i).all vbB && decide (s.size ≤ 120))
  | _, 0, _, _, h => absurd h (by omega)
  | 0, k + 1, i, hi, _ => by
    have h1 : ¬ ((i : Int) < (s.size : Int)) := by omega
    rw [spec_l4Value.l0, if_neg h1, drop_end s i (by omega)]
    simp only [List.all_nil, Bool.true_and]
    congr 1
    rw [decide_eq_decide]
    omega
  | n + 1, k + 1, i, hi, h => by
    have h1 : (i : Int) < (s.size : Int) := by omega
    have h2 : (0 : Int) ≤ (i : Int) := by omega
    rw [spec_l4Value.l0, if_pos h1, if_pos h2, wrap_succ i (by omega), spec_l4Value.l0_eq s hs n k (i + 1) (by omega) (by omega), drop_bt s i (by omega), List.all_cons]
    generalize bt s (i : Int) = c
    by_cases g1 : c < 32
    · rw [if_pos g1, vb_lt c g1, Bool.false_and, Bool.false_and]
    · rw [if_neg g1]
      by_cases g2 : c = 127
      · rw [if_pos g2, g2, vb_127, Bool.false_and, Bool.false_and]
      · rw [if_neg g2, vb_ok c g1 g2, Bool.true_and]
theorem spec_l4Value_eq (s : ByteArray) (k : Nat) (hs : s.size ≤ 1048576) (hk : s.size < k) : spec_l4Value.f k s = some (valB s) := by
  have := spec_l4Value.l0_eq s hs s.size k 0 (by omega) hk
  unfold spec_l4Value.f valB
  simpa using this
theorem impl_letter_eq (c : Int) : impl_isLetter.f c = some (decide (97 ≤ c ∧ c ≤ 122) || decide (65 ≤ c ∧ c ≤ 90)) := by
  unfold impl_isLetter.f
  by_cases h1 : c ≥ 97 <;> by_cases h2 : c ≤ 122 <;> by_cases h3 : c ≥ 65 <;> by_cases h4 : c ≤ 90 <;> simp [h1, h2, h3, h4]
theorem impl_digit_eq (c : Int) : impl_isDigit.f c = some (decide (48 ≤ c ∧ c ≤ 57)) := by
  unfold impl_isDigit.f
  by_cases h1 : c ≥ 48 <;> by_cases h2 : c ≤ 57 <;> simp [h1, h2]
theorem impl_isField.l1_eq (a s : ByteArray) (hs : s.size ≤ 1048576) : ∀ (n k i : Nat), s.size = i + n → n < k → impl_isField.l1 k (s.size : Int) (i : Int) a s = some (((bytesOf s).drop i).all vbB && (decide (1 ≤ a.size ∧ a.size ≤ 30) && decide (s.size ≤ 120)))
  | _, 0, _, _, h => absurd h (by omega)
  | 0, k + 1, i, hi, _ => by
    have h1 : ¬ ((i : Int) < (s.size : Int)) := by omega
    rw [impl_isField.l1, if_neg h1, drop_end s i (by omega)]
    simp only [List.all_nil, Bool.true_and]
    by_cases g1 : (a.size : Int) ≥ 1
    · rw [if_pos g1]
      by_cases g2 : (a.size : Int) ≤ 30
      · rw [if_pos g2, decide_eq_true (show 1 ≤ a.size ∧ a.size ≤ 30 by omega), Bool.true_and]
        congr 1
        rw [decide_eq_decide]
        omega
      · rw [if_neg g2, decide_eq_false (show ¬ (1 ≤ a.size ∧ a.size ≤ 30) by omega), Bool.false_and]
    · rw [if_neg g1, decide_eq_false (show ¬ (1 ≤ a.size ∧ a.size ≤ 30) by omega), Bool.false_and]
  | n + 1, k + 1, i, hi, h => by
    have h1 : (i : Int) < (s.size : Int) := by omega
    have h2 : (0 : Int) ≤ (i : Int) := by omega
    rw [impl_isField.l1, if_pos h1, if_pos h2, if_pos h1, wrap_succ i (by omega), impl_isField.l1_eq a s hs n k (i + 1) (by omega) (by omega), drop_bt s i (by omega), List.all_cons]
    generalize bt s (i : Int) = c
    by_cases g1 : c < 32
    · rw [if_pos g1, vb_lt c g1, Bool.false_and, Bool.false_and]
    · rw [if_neg g1]
      by_cases g2 : c = 127
      · rw [if_pos g2, g2, vb_127, Bool.false_and, Bool.false_and]
      · rw [if_neg g2, vb_ok c g1 g2, Bool.true_and]
theorem impl_isField.l0_eq (a s : ByteArray) (ha : a.size ≤ 1048576) (hs : s.size ≤ 1048576) : ∀ (n k i : Nat), a.size = i + n → n + s.size + 1 < k → impl_isField.l0 k (a.size : Int) (i : Int) a s = some (((bytesOf a).drop i).all nbB && ((bytesOf s).all vbB && (decide (1 ≤ a.size ∧ a.size ≤ 30) && decide (s.size ≤ 120))))
  | _, 0, _, _, h => absurd h (by omega)
  | 0, k + 1, i, hi, h => by
    have h1 : ¬ ((i : Int) < (a.size : Int)) := by omega
    have := impl_isField.l1_eq a s hs s.size k 0 (by omega) (by omega)
    rw [List.drop_zero] at this
    rw [impl_isField.l0, if_neg h1, drop_end a i (by omega)]
    simp only [List.all_nil, Bool.true_and]
    exact this
  | n + 1, k + 1, i, hi, h => by
    have h1 : (i : Int) < (a.size : Int) := by omega
    have h2 : (0 : Int) ≤ (i : Int) := by omega
    rw [impl_isField.l0, if_pos h1, if_pos h2, if_pos h1, wrap_succ i (by omega), impl_isField.l0_eq a s ha hs n k (i + 1) (by omega) (by omega), drop_bt a i (by omega), List.all_cons, impl_letter_eq, Option.bind_some, impl_digit_eq, Option.bind_some]
    generalize bt a (i : Int) = c
    unfold nbB
    cases (decide (97 ≤ c ∧ c ≤ 122) || decide (65 ≤ c ∧ c ≤ 90)) with
    | true => rw [if_pos rfl, Bool.true_or, Bool.true_or, Bool.true_and]
    | false =>
      rw [if_neg (by decide), Bool.false_or]
      cases decide (48 ≤ c ∧ c ≤ 57) with
      | true => rw [if_pos rfl, Bool.true_or, Bool.true_and]
      | false =>
        rw [if_neg (by decide), Bool.false_or]
        by_cases g : c = 45
        · rw [if_pos g, g, beq_self_eq_true, Bool.true_and]
        · rw [if_neg g, beq_eq_false_iff_ne.mpr g, Bool.false_and, Bool.false_and]
theorem impl_isField_eq (a s : ByteArray) (k : Nat) (ha : a.size ≤ 1048576) (hs : s.size ≤ 1048576) (hk : a.size + s.size + 1 < k) : impl_isField.f k a s = some (nameB a && valB s) := by
  have := impl_isField.l0_eq a s ha hs a.size k 0 (by omega) hk
  unfold impl_isField.f nameB valB
  rw [List.drop_zero] at this
  rw [show (0 : Int) = ((0 : Nat) : Int) from rfl, this]
  cases (bytesOf a).all nbB <;> cases (bytesOf s).all vbB <;> cases decide (1 ≤ a.size ∧ a.size ≤ 30) <;> rfl
def fldB (x : S69) : Bool := nameB x.f0 && valB x.f1
def faultF (l : List S69) : Int := if 8 < l.length then 2 else if l.all fldB = true then 0 else 5
theorem rd_fld (l : List S69) (i : Nat) (h : i < l.length) : rd_T69 l (i : Int) = l[i] := by
  unfold rd_T69
  rw [Int.toNat_natCast, List.getD_eq_getElem?_getD, List.getElem?_eq_getElem h]
  rfl
def smallF (l : List S69) : Prop := l.length ≤ 1048576 ∧ ∀ x ∈ l, x.f0.size ≤ 1048576 ∧ x.f1.size ≤ 1048576
theorem spec_l4Fault.l0_eq (l : List S69) (hl : smallF l) : ∀ (n k i : Nat), l.length = i + n → n + 2097155 < k → spec_l4Fault.l0 k l (i : Int) = some (if (l.drop i).all fldB = true then 0 else 5)
  | _, 0, _, _, h => absurd h (by omega)
  | 0, k + 1, i, hi, _ => by
    have h1 : ¬ ((i : Int) < (l.length : Int)) := by omega
    rw [spec_l4Fault.l0, if_neg h1, List.drop_eq_nil_of_le (by omega)]
    rfl
  | n + 1, k + 1, i, hi, h => by
    have hlt : i < l.length := by omega
    have hb := hl.1
    have h1 : (i : Int) < (l.length : Int) := by omega
    have h2 : (0 : Int) ≤ (i : Int) := by omega
    obtain ⟨z0, z1⟩ := hl.2 l[i] (List.getElem_mem hlt)
    rw [spec_l4Fault.l0, if_pos h1, if_pos h2, wrap_succ i (by omega), spec_l4Fault.l0_eq l hl n k (i + 1) (by omega) (by omega), rd_fld l i hlt, spec_l4Name_eq _ k z0 (by omega), Option.bind_some, spec_l4Value_eq _ k z1 (by omega), Option.bind_some, List.drop_eq_getElem_cons hlt, List.all_cons]
    unfold fldB
    cases nameB l[i].f0 with
    | true =>
      rw [if_pos rfl, Bool.true_and]
      cases valB l[i].f1 with
      | true => rw [if_pos rfl, Bool.true_and]
      | false => rw [if_neg (by decide), Bool.false_and]; rfl
    | false => rw [if_neg (by decide), Bool.false_and, Bool.false_and]; rfl
theorem spec_l4Fault_eq (l : List S69) (hl : smallF l) (k : Nat) (hk : l.length + 2097155 < k) : spec_l4Fault.f k l = some (faultF l) := by
  unfold spec_l4Fault.f faultF
  by_cases h : 8 < l.length
  · rw [if_pos (by omega), if_pos h]
  · have := spec_l4Fault.l0_eq l hl l.length k 0 (by omega) hk
    rw [List.drop_zero] at this
    rw [if_neg (by omega), if_neg h]
    exact this
theorem impl_FieldsFault.l0_eq (l : List S69) (hl : smallF l) : ∀ (n k i : Nat), l.length = i + n → n + 2097155 < k → impl_FieldsFault.l0 k l (l.length : Int) (i : Int) = some (if (l.drop i).all fldB = true then 0 else 5)
  | _, 0, _, _, h => absurd h (by omega)
  | 0, k + 1, i, hi, _ => by
    have h1 : ¬ ((i : Int) < (l.length : Int)) := by omega
    rw [impl_FieldsFault.l0, if_neg h1, List.drop_eq_nil_of_le (by omega)]
    rfl
  | n + 1, k + 1, i, hi, h => by
    have hlt : i < l.length := by omega
    have hb := hl.1
    have h1 : (i : Int) < (l.length : Int) := by omega
    have h2 : (0 : Int) ≤ (i : Int) := by omega
    obtain ⟨z0, z1⟩ := hl.2 l[i] (List.getElem_mem hlt)
    rw [impl_FieldsFault.l0, if_pos h1, if_pos h2, if_pos h1, wrap_succ i (by omega), impl_FieldsFault.l0_eq l hl n k (i + 1) (by omega) (by omega), rd_fld l i hlt, impl_isField_eq _ _ k z0 z1 (by omega), Option.bind_some, List.drop_eq_getElem_cons hlt, List.all_cons]
    show (if fldB l[i] = true then _ else _) = _
    cases fldB l[i] with
    | true => rw [if_pos rfl, Bool.true_and]
    | false => rw [if_neg (by decide), Bool.false_and]; rfl
theorem impl_FieldsFault_eq (l : List S69) (hl : smallF l) (k : Nat) (hk : l.length + 2097155 < k) : impl_FieldsFault.f k l = some (faultF l) := by
  unfold impl_FieldsFault.f faultF
  by_cases h : 8 < l.length
  · rw [if_pos (by omega), if_pos h]
  · have := impl_FieldsFault.l0_eq l hl l.length k 0 (by omega) hk
    rw [List.drop_zero] at this
    rw [if_neg (by omega), if_neg h]
    exact this
def lineLen (l : List Int) : Nat := (fst 10 l).getD l.length
theorem lineLen_le (l : List Int) : lineLen l ≤ l.length := by
  unfold lineLen
  cases h : fst 10 l with
  | none => exact Nat.le_refl _
  | some i => exact Nat.le_of_lt (fst_lt 10 l i h)
theorem lineLen_cons (x : Int) (xs : List Int) : lineLen (x :: xs) = if x = 10 then 0 else lineLen xs + 1 := by
  unfold lineLen
  rw [show fst 10 (x :: xs) = if x = 10 then some 0 else (fst 10 xs).map (· + 1) from rfl]
  by_cases h : x = 10
  · rw [if_pos h, if_pos h]; rfl
  · rw [if_neg h, if_neg h]
    cases fst 10 xs <;> rfl
theorem spec_l4End.l0_eq (data : List Int) (hd : data.length ≤ 1048576) : ∀ (n k i : Nat), data.length = i + n → n < k → spec_l4End.l0 k data (i : Int) = some ((i + lineLen (data.drop i) : Nat) : Int)
  | _, 0, _, _, h => absurd h (by omega)
  | 0, k + 1, i, hi, _ => by
    have h1 : ¬ ((i : Int) < (data.length : Int)) := by omega
    rw [spec_l4End.l0, if_neg h1, List.drop_eq_nil_of_le (by omega)]
    rfl
  | n + 1, k + 1, i, hi, h => by
    have hlt : i < data.length := by omega
    have h1 : (i : Int) < (data.length : Int) := by omega
    have h2 : (0 : Int) ≤ (i : Int) := by omega
    rw [spec_l4End.l0, if_pos h1, if_pos h2, rd_at data i hlt, wrap_succ i (by omega), spec_l4End.l0_eq data hd n k (i + 1) (by omega) (by omega), List.drop_eq_getElem_cons hlt, lineLen_cons]
    by_cases c : data[i] = 10
    · rw [if_pos c, if_pos c]; rfl
    · rw [if_neg c, if_neg c]
      congr 2
      omega
theorem spec_l4End_eq (data : List Int) (hd : data.length ≤ 1048576) (k i : Nat) (hi : i ≤ data.length) (hk : data.length < k) : spec_l4End.f k data (i : Int) = some ((i + lineLen (data.drop i) : Nat) : Int) := by
  unfold spec_l4End.f
  exact spec_l4End.l0_eq data hd (data.length - i) k i (by omega) (by omega)
def trimV (v : ByteArray) : ByteArray := if 0 < v.size ∧ bt v 0 = 32 then v.extract 1 v.size else v
def newF (s : ByteArray) (c : Nat) : S69 := ⟨s.extract 0 c, trimV (s.extract (c + 1) s.size)⟩
def lastF (fs : List S69) (s : ByteArray) : List S69 := fs.set (fs.length - 1) ⟨(fs.getD (fs.length - 1) z69).f0, (fs.getD (fs.length - 1) z69).f1 ++ s⟩
def lineF (fs : List S69) (s : ByteArray) : Option (List S69) :=
  if bt s 0 = 32 ∨ bt s 0 = 9 then (if fs.length = 0 then none else some (lastF fs s)) else match fst 58 (bytesOf s) with | none => none | some c => some (fs ++ [newF s c])
theorem app_one (fs : List S69) (w : S69) (hf : fs.length ≤ 1048576) (a b : Int) (hab : a ≤ b) : ((some (([] : List (S69)) : List (S69))).bind fun y116 => (if y116.length + fs.length < 4398046511104 then ((some (y116 ++ fs : List (S69))).bind fun y119 => (if a ≤ b then ((some (([w] : List (S69)) : List (S69))).bind fun y122 => (if y119.length + y122.length < 4398046511104 then (some ((y119 ++ y122), true)) else (none))) else (none))) else (none))) = some (fs ++ [w], true) := by
  rw [Option.bind_some, if_pos (by simp; omega), Option.bind_some, if_pos hab, Option.bind_some, if_pos (by simp; omega)]
  rfl
theorem spec_l4Line.l0_eq (fs : List S69) (s : ByteArray) (hs : s.size ≤ 1048576) (hf : fs.length ≤ 1048576) : ∀ (n k i : Nat), s.size = i + n → n < k → spec_l4Line.l0 k fs s (i : Int) = some (match fst 58 ((bytesOf s).drop i) with | none => ([], false) | some c => (fs ++ [newF s (i + c)], true))
  | _, 0, _, _, h => absurd h (by omega)
  | 0, k + 1, i, hi, _ => by
    have h1 : ¬ ((i : Int) < (s.size : Int)) := by omega
    rw [spec_l4Line.l0, if_neg h1, drop_end s i (by omega)]
    rfl
  | n + 1, k + 1, i, hi, h => by
    have hlt : i < s.size := by omega
    have h1 : (i : Int) < (s.size : Int) := by omega
    have h2 : (0 : Int) ≤ (i : Int) := by omega
    have h3 : (0 : Int) ≤ ((i + 1 : Nat) : Int) := by omega
    have h4 : ((i + 1 : Nat) : Int) ≤ (s.size : Int) := by omega
    rw [spec_l4Line.l0, if_pos h1, if_pos h2, wrap_succ i (by omega), drop_bt s i hlt, show fst 58 (bt s (i : Int) :: (bytesOf s).drop (i + 1)) = if bt s (i : Int) = 58 then some 0 else (fst 58 ((bytesOf s).drop (i + 1))).map (· + 1) from rfl]
    by_cases c : bt s (i : Int) = 58
    · rw [if_pos c, if_pos c, if_pos h3, if_pos h4, Int.toNat_natCast, Int.toNat_natCast]
      show _ = some (fs ++ [newF s i], true)
      unfold newF
      have hz := toList_nil (s.extract (i + 1) s.size)
      generalize s.extract (i + 1) s.size = v at hz
      by_cases g1 : v.toList = []
      · rw [if_pos g1, app_one fs _ hf _ _ (by omega)]
        have : trimV v = v := by unfold trimV; rw [if_neg (by have := hz.1 g1; omega)]
        rw [this]
      · have hp : 0 < v.size := by
          rcases Nat.eq_zero_or_pos v.size with h0 | h0
          · exact absurd (hz.2 h0) g1
          · exact h0
        rw [if_neg g1, if_pos (by omega)]
        by_cases g2 : bt v 0 = 32
        · rw [if_pos g2, if_pos (by omega), app_one fs _ hf _ _ (by omega)]
          have : trimV v = v.extract 1 v.size := by unfold trimV; rw [if_pos ⟨hp, g2⟩]
          rw [this]
        · rw [if_neg g2, app_one fs _ hf _ _ (by omega)]
          have : trimV v = v := by unfold trimV; rw [if_neg (fun e => g2 e.2)]
          rw [this]
    · rw [if_neg c, if_neg c, spec_l4Line.l0_eq fs s hs hf n k (i + 1) (by omega) (by omega)]
      cases fst 58 ((bytesOf s).drop (i + 1)) with
      | none => rfl
      | some q =>
        show some (fs ++ [newF s (i + 1 + q)], true) = some (fs ++ [newF s (i + (q + 1))], true)
        rw [show i + 1 + q = i + (q + 1) by omega]
theorem spec_l4Line_eq (fs : List S69) (s : ByteArray) (hs : s.size ≤ 1048576) (hp : 0 < s.size) (hf : fs.length ≤ 1048576) (hv : ∀ x ∈ fs, x.f1.size ≤ 1048576) (k : Nat) (hk : s.size + 1 < k) : spec_l4Line.f k fs s = some (match lineF fs s with | none => ([], false) | some f => (f, true)) := by
  obtain ⟨k, rfl⟩ : ∃ m, k = m + 1 := ⟨k - 1, by omega⟩
  have key : ∀ b : Bool, spec_l4Line.j0 (k + 1) fs s (fs.length : Int) b = some (match (if b = true then (if fs.length = 0 then none else some (lastF fs s)) else match fst 58 (bytesOf s) with | none => none | some c => some (fs ++ [newF s c])) with | none => ([], false) | some f => (f, true)) := by
    intro b
    cases b with
    | true =>
      rw [spec_l4Line.j0, if_pos rfl, if_pos rfl]
      by_cases h0 : fs.length = 0
      · rw [if_pos (by omega), if_pos h0]
      · have w1 : wrap64 ((fs.length : Int) - 1) = ((fs.length - 1 : Nat) : Int) := by rw [wrap64_in (by omega)]; omega
        have hm : (fs.getD (fs.length - 1) z69).f1.size ≤ 1048576 := by
          rw [List.getD_eq_getElem?_getD, List.getElem?_eq_getElem (by omega)]
          exact hv _ (List.getElem_mem _)
        rw [if_neg (by omega), if_neg h0, Option.bind_some, if_pos (by simp; omega), Option.bind_some, w1, List.nil_append, if_pos (by omega), if_pos (by omega)]
        unfold rd_T69
        rw [Int.toNat_natCast, if_pos (by omega)]
        rfl
    | false =>
      have := spec_l4Line.l0_eq fs s hs hf s.size k 0 (by omega) (by omega)
      rw [List.drop_zero] at this
      rw [spec_l4Line.j0, if_neg (by decide), if_neg (by decide)]
      refine Eq.trans this ?_
      cases fst 58 (bytesOf s) with
      | none => rfl
      | some c =>
        show some (fs ++ [newF s (0 + c)], true) = _
        rw [Nat.zero_add]
  unfold spec_l4Line.f lineF
  rw [if_pos (by omega)]
  by_cases c1 : bt s 0 = 32
  · rw [if_pos c1, if_pos (Or.inl c1), key true, if_pos rfl]
  · rw [if_neg c1]
    by_cases c2 : bt s 0 = 9
    · rw [if_pos (Or.inr c2), c2, beq_self_eq_true, key true, if_pos rfl]
    · rw [if_neg (by omega : ¬ (bt s 0 = 32 ∨ bt s 0 = 9)), beq_eq_false_iff_ne.mpr c2, key false, if_neg (by decide)]
def fldsOk (fs : List S69) (n : Nat) : Prop := fs.length ≤ n ∧ ∀ x ∈ fs, x.f0.size ≤ n ∧ x.f1.size ≤ n
theorem fldsOk_small (fs : List S69) (n : Nat) (h : fldsOk fs n) (hn : n ≤ 1048576) : smallF fs :=
  ⟨Nat.le_trans h.1 hn, fun x hx => ⟨Nat.le_trans (h.2 x hx).1 hn, Nat.le_trans (h.2 x hx).2 hn⟩⟩
theorem fldsOk_mono (fs : List S69) (n m : Nat) (h : fldsOk fs n) (hn : n ≤ m) : fldsOk fs m :=
  ⟨Nat.le_trans h.1 hn, fun x hx => ⟨Nat.le_trans (h.2 x hx).1 hn, Nat.le_trans (h.2 x hx).2 hn⟩⟩
theorem trimV_size (v : ByteArray) : (trimV v).size ≤ v.size := by
  unfold trimV
  split
  · rw [ByteArray.size_extract]; omega
  · exact Nat.le_refl _
theorem lineF_ok (fs f : List S69) (s : ByteArray) (n : Nat) (h : fldsOk fs n) (hp : 0 < s.size) (he : lineF fs s = some f) : fldsOk f (n + s.size) := by
  unfold lineF at he
  by_cases c : bt s 0 = 32 ∨ bt s 0 = 9
  · rw [if_pos c] at he
    by_cases h0 : fs.length = 0
    · rw [if_pos h0] at he; cases he
    · rw [if_neg h0] at he
      cases he
      have hm := h.2 (fs.getD (fs.length - 1) z69) (by rw [List.getD_eq_getElem?_getD, List.getElem?_eq_getElem (by omega)]; exact List.getElem_mem _)
      unfold lastF
      refine ⟨by rw [List.length_set]; have := h.1; omega, fun x hx => ?_⟩
      rcases List.mem_or_eq_of_mem_set hx with hx | rfl
      · have := h.2 x hx; omega
      · refine ⟨by simp only; omega, ?_⟩
        simp only
        rw [ByteArray.size_append]
        omega
  · rw [if_neg c] at he
    cases hf : fst 58 (bytesOf s) with
    | none => rw [hf] at he; cases he
    | some q =>
      rw [hf] at he
      cases he
      refine ⟨by rw [List.length_append, List.length_singleton]; have := h.1; omega, fun x hx => ?_⟩
      rcases List.mem_append.1 hx with hx | hx
      · have := h.2 x hx; omega
      · rw [List.mem_singleton.1 hx]
        unfold newF
        have h1 := trimV_size (s.extract (q + 1) s.size)
        have h2 : (s.extract 0 q).size ≤ s.size := by rw [ByteArray.size_extract]; omega
        have h3 : (s.extract (q + 1) s.size).size ≤ s.size := by rw [ByteArray.size_extract]; omega
        exact ⟨by simp only; omega, by simp only; omega⟩
def parseF : Nat → List Int → Nat → List S69 → List S69 × Int × Bool
  | 0, _, _, _ => ([], 0, false)
  | n + 1, data, i, fs => if i < data.length then (if lineLen (data.drop i) = 0 then (fs, ((i + 1 : Nat) : Int), faultF fs == 0) else match lineF fs (strOfNums ((data.drop i).take (lineLen (data.drop i)))) with
      | none => ([], 0, false)
      | some f => parseF n data (min (i + lineLen (data.drop i) + 1) data.length) f)
    else (fs, (i : Int), faultF fs == 0)
theorem cut_eq (s : ByteArray) (hs : s.size ≤ 1048576) : strings_Cut.f s (⟨#[58]⟩ : ByteArray) = some (match fst 58 (bytesOf s) with | none => (s, (⟨#[]⟩ : ByteArray), false) | some c => (s.extract 0 c, s.extract (c + 1) s.size, true)) := by
  have hi : stringslite_Index.f s (⟨#[58]⟩ : ByteArray) = some (match fst 58 (bytesOf s) with | none => -1 | some i => (i : Int)) := by
    unfold stringslite_Index.f
    rw [if_pos (show (⟨#[58]⟩ : ByteArray).size = 1 from rfl), data_bytesOf, ← indexByte_fst 58 (by omega) (bytesOf s) (bytesOf_in s)]
    rfl
  unfold strings_Cut.f stringslite_Cut.f
  rw [hi]
  cases hf : fst 58 (bytesOf s) with
  | none => rfl
  | some c =>
    have hlt := fst_lt 58 _ c hf
    rw [bytesOf_length] at hlt
    have w1 : wrap64 ((c : Int) + ((⟨#[58]⟩ : ByteArray).size : Int)) = ((c + 1 : Nat) : Int) := wrap_succ c (by omega)
    simp only [Option.bind_some, w1]
    rw [if_pos (by omega), if_pos (by omega), if_pos (by omega), if_pos (by omega), if_pos (by omega)]
    rfl
theorem trim_eq (v : ByteArray) (hv : v.size ≤ 1048576) : strings_TrimPrefix.f v (⟨#[32]⟩ : ByteArray) = some (trimV v) := by
  have h1 : ((⟨#[32]⟩ : ByteArray).size : Int) = 1 := rfl
  unfold strings_TrimPrefix.f stringslite_TrimPrefix.f stringslite_HasPrefix.f trimV
  rw [h1]
  by_cases c : 0 < v.size
  · have hh : ((v.extract 0 ((1 : Int) : Int).toNat).toList == (⟨#[32]⟩ : ByteArray).toList) = decide (bt v 0 = 32) := by
      rw [Go.ByteArray.toList_eq, Go.ByteArray.toList_eq, Bool.eq_iff_iff, beq_iff_eq, decide_eq_true_eq]
      have hb := bytesOf_extract v 0 1
      have hd := drop_bt v 0 c
      rw [List.drop_zero] at hd
      rw [hd] at hb
      have he : bytesOf (v.extract 0 1) = [bt v ((0 : Nat) : Int)] := hb
      rw [show ((1 : Int)).toNat = 1 from rfl, data_bytesOf, he]
      show [UInt8.ofNat (bt v 0).toNat] = [32] ↔ _
      have hr := bt_range v 0
      constructor
      · intro h
        injection h with h
        have := u8_eq (bt v 0) 32 hr (by omega)
        rw [show (32 : Int).toNat.toUInt8 = (32 : UInt8) from rfl, h] at this
        exact of_decide_eq_true this.symm
      · intro h
        rw [h]
        rfl
    rw [if_pos (show (v.size : Int) ≥ 1 by omega), if_pos (show (0 : Int) ≤ 1 by omega), if_pos (show (1 : Int) ≤ (v.size : Int) by omega), hh, Option.bind_some]
    by_cases g : bt v 0 = 32
    · rw [if_pos (decide_eq_true g), if_pos (show (0 : Int) ≤ 1 by omega), if_pos (show (1 : Int) ≤ (v.size : Int) by omega), if_pos (show 0 < v.size ∧ bt v 0 = 32 from ⟨c, g⟩)]
      rfl
    · rw [if_neg (show ¬ (decide (bt v 0 = 32) = true) by simpa using g), if_neg (show ¬ (0 < v.size ∧ bt v 0 = 32) from fun e => g e.2)]
      rfl
  · rw [if_neg (show ¬ ((v.size : Int) ≥ 1) by omega), if_neg (show ¬ (0 < v.size ∧ bt v 0 = 32) from fun e => c e.1)]
    rfl
theorem blank_eq (b : Int) : impl_isBlank.f b = some (b == 32 || b == 9) := by
  unfold impl_isBlank.f
  by_cases h1 : b = 32 <;> by_cases h2 : b = 9 <;> simp_all
theorem impl_parseHeader.j1_eq (data : List Int) (hd : data.length ≤ 1048576) (fs : List S69) (i m : Nat) (x8 : Int) (him : i + m ≤ data.length) (hf : fldsOk fs 1048576) (k : Nat) (hk : fs.length + 2097155 < k) :
    impl_parseHeader.j1 (k + 1) data fs (i : Int) (m : Int) x8 = if m = 0 then some (fs, x8, faultF fs == 0) else match lineF fs (strOfNums ((data.drop i).take m)) with | none => some ([], 0, false) | some f => impl_parseHeader.l0 k data f x8 := by
  have w1 : wrap64 ((i : Int) + (m : Int)) = ((i + m : Nat) : Int) := by rw [wrap64_in (by omega)]; omega
  have hcut : (data.take (i + m)).drop i = (data.drop i).take m := by rw [List.drop_take, Nat.add_sub_cancel_left]
  have hlen : ((data.drop i).take m).length = m := by rw [List.length_take, List.length_drop]; omega
  rw [impl_parseHeader.j1, w1, Int.toNat_natCast, Int.toNat_natCast, hcut, if_pos (by omega), if_pos (by omega), if_pos (by omega)]
  have hsz := strOfNums_size ((data.drop i).take m)
  have hz := toList_nil (strOfNums ((data.drop i).take m))
  rw [hlen] at hsz
  generalize strOfNums ((data.drop i).take m) = s at hsz hz
  by_cases h0 : m = 0
  · rw [if_pos (hz.2 (by omega)), if_pos h0, impl_FieldsFault_eq fs (fldsOk_small fs _ hf (Nat.le_refl _)) k hk]
    rfl
  · have hne : ¬ s.toList = [] := fun e => h0 (by have := hz.1 e; omega)
    rw [if_neg hne, if_neg h0, if_pos (by omega), blank_eq, Option.bind_some]
    unfold lineF
    by_cases c : bt s 0 = 32 ∨ bt s 0 = 9
    · have hb : (bt s 0 == 32 || bt s 0 == 9) = true := by simpa using c
      rw [if_pos c, if_pos hb]
      by_cases g : fs.length = 0
      · rw [if_pos (by omega), if_pos g]
      · have w2 : wrap64 ((fs.length : Int) - 1) = ((fs.length - 1 : Nat) : Int) := by have := hf.1; rw [wrap64_in (by omega)]; omega
        have hm : (fs.getD (fs.length - 1) z69).f1.size ≤ 1048576 := by
          rw [List.getD_eq_getElem?_getD, List.getElem?_eq_getElem (by omega)]
          exact (hf.2 _ (List.getElem_mem _)).2
        rw [if_neg (by omega), if_neg g, w2, if_pos (by omega), if_pos (by omega)]
        unfold rd_T69
        rw [Int.toNat_natCast, if_pos (by omega)]
        rfl
    · have hb : ¬ (bt s 0 == 32 || bt s 0 == 9) = true := by simpa using c
      rw [if_neg c, if_neg hb, cut_eq s (by omega), Option.bind_some]
      cases fst 58 (bytesOf s) with
      | none => rfl
      | some q =>
        have hv : (s.extract (q + 1) s.size).size ≤ 1048576 := by rw [ByteArray.size_extract]; omega
        show (if true = true then ((strings_TrimPrefix.f (s.extract (q + 1) s.size) (⟨#[32]⟩ : ByteArray)).bind fun t200 => (if fs.length < 4398046511104 then (impl_parseHeader.l0 k data (fs ++ [(⟨s.extract 0 q, t200⟩ : S69)]) x8) else (none))) else _) = impl_parseHeader.l0 k data (fs ++ [newF s q]) x8
        rw [if_pos rfl, trim_eq _ hv, Option.bind_some, if_pos (by have := hf.1; omega)]
        rfl
theorem spec_l4Parse.step (data : List Int) (hd : data.length ≤ 1048576) (fs : List S69) (i : Nat) (hi : i < data.length) (hf : fldsOk fs 1048576) (k : Nat) (hk : fs.length + 2097155 + data.length < k) :
    spec_l4Parse.l0 (k + 1) data fs (i : Int) = if lineLen (data.drop i) = 0 then some (fs, ((i + 1 : Nat) : Int), faultF fs == 0) else match lineF fs (strOfNums ((data.drop i).take (lineLen (data.drop i)))) with | none => some ([], 0, false) | some f => spec_l4Parse.l0 k data f ((min (i + lineLen (data.drop i) + 1) data.length : Nat) : Int) := by
  have hle := lineLen_le (data.drop i)
  rw [List.length_drop] at hle
  have hcut : (data.take (i + lineLen (data.drop i))).drop i = (data.drop i).take (lineLen (data.drop i)) := by rw [List.drop_take, Nat.add_sub_cancel_left]
  have hlen : ((data.drop i).take (lineLen (data.drop i))).length = lineLen (data.drop i) := by rw [List.length_take, List.length_drop]; omega
  conv => lhs; unfold spec_l4Parse.l0
  rw [if_pos (by omega), spec_l4End_eq data hd k i (by omega) (by omega), Option.bind_some]
  generalize lineLen (data.drop i) = m at hle hcut hlen
  by_cases h0 : m = 0
  · subst h0
    rw [if_pos (show ((i + 0 : Nat) : Int) = (i : Int) by omega), if_pos rfl, spec_l4Fault_eq fs (fldsOk_small fs _ hf (Nat.le_refl _)) k (by omega), Option.bind_some, wrap_succ i (by omega)]
  · rw [if_neg (by omega), if_neg h0, if_pos (by omega), if_pos (by omega), if_pos (by omega), Int.toNat_natCast, Int.toNat_natCast, hcut]
    have hsz := strOfNums_size ((data.drop i).take m)
    rw [hlen] at hsz
    generalize strOfNums ((data.drop i).take m) = s at hsz
    rw [spec_l4Line_eq fs s (by omega) (by omega) hf.1 (fun x hx => (hf.2 x hx).2) k (by omega), Option.bind_some]
    cases lineF fs s with
    | none => rfl
    | some f =>
      show (if true = true then _ else _) = _
      rw [if_pos rfl]
      by_cases g : i + m < data.length
      · rw [if_pos (by omega), wrap_succ (i + m) (by omega), show min (i + m + 1) data.length = i + m + 1 by omega]
      · rw [if_neg (by omega), show min (i + m + 1) data.length = i + m by omega]
theorem impl_parseHeader.step (data : List Int) (hd : data.length ≤ 1048576) (hB : ∀ x ∈ data, 0 ≤ x ∧ x ≤ 255) (fs : List S69) (i : Nat) (hi : i < data.length) (hf : fldsOk fs 1048576) (k : Nat) (hk : fs.length + 2097155 < k) :
    impl_parseHeader.l0 (k + 2) data fs (i : Int) = if lineLen (data.drop i) = 0 then some (fs, ((i + 1 : Nat) : Int), faultF fs == 0) else match lineF fs (strOfNums ((data.drop i).take (lineLen (data.drop i)))) with | none => some ([], 0, false) | some f => impl_parseHeader.l0 k data f ((min (i + lineLen (data.drop i) + 1) data.length : Nat) : Int) := by
  have hdB : ∀ x ∈ data.drop i, 0 ≤ x ∧ x ≤ 255 := fun x hx => hB x (List.mem_of_mem_drop hx)
  have hdl : (data.drop i).length = data.length - i := List.length_drop
  have hx : bytes_IndexByte.f (data.drop i) 10 = some (match fst 10 (data.drop i) with | none => -1 | some j => (j : Int)) := by
    unfold bytes_IndexByte.f
    rw [if_pos (by omega), indexByte_fst 10 (by omega) _ hdB]
  conv => lhs; unfold impl_parseHeader.l0
  rw [if_pos (by omega), if_pos (by omega), if_pos (by omega), Int.toNat_natCast, hx, Option.bind_some]
  cases hf10 : fst 10 (data.drop i) with
  | none =>
    have hm : lineLen (data.drop i) = data.length - i := by unfold lineLen; rw [hf10]; exact hdl
    have w1 : wrap64 ((data.length : Int) - (i : Int)) = ((data.length - i : Nat) : Int) := by rw [wrap64_in (by omega)]; omega
    show (if (-1 : Int) < 0 then _ else _) = _
    rw [if_pos (by decide), w1, impl_parseHeader.j1_eq data hd fs i (data.length - i) _ (by omega) hf k hk, hm, if_neg (by omega), if_neg (by omega), show min (i + (data.length - i) + 1) data.length = data.length by omega]
  | some m =>
    have hlt := fst_lt 10 _ m hf10
    have hm : lineLen (data.drop i) = m := by unfold lineLen; rw [hf10]; rfl
    have w1 : wrap64 ((i : Int) + (m : Int)) = ((i + m : Nat) : Int) := by rw [wrap64_in (by omega)]; omega
    show (if (m : Int) < 0 then _ else _) = _
    rw [if_neg (by omega), w1, wrap_succ (i + m) (by omega), impl_parseHeader.j1_eq data hd fs i m _ (by omega) hf k hk, hm, show min (i + m + 1) data.length = i + m + 1 by omega]
    by_cases h0 : m = 0
    · simp only [if_pos h0]; rw [h0]
    · simp only [if_neg h0]
theorem parse_both (data : List Int) (hd : data.length ≤ 1048576) (hB : ∀ x ∈ data, 0 ≤ x ∧ x ≤ 255) : ∀ (n k k2 i : Nat) (fs : List S69), data.length < i + n → i ≤ data.length → fldsOk fs i → 4194400 + n < k → 4194400 + 2 * n < k2 → spec_l4Parse.l0 k data fs (i : Int) = some (parseF n data i fs) ∧ impl_parseHeader.l0 k2 data fs (i : Int) = some (parseF n data i fs)
  | 0, _, _, _, _, h, h2, _, _, _ => absurd h (by omega)
  | n + 1, k, k2, i, fs, h, h2, hf, hk, hk2 => by
    obtain ⟨k, rfl⟩ : ∃ m, k = m + 1 := ⟨k - 1, by omega⟩
    obtain ⟨k2, rfl⟩ : ∃ m, k2 = m + 2 := ⟨k2 - 2, by omega⟩
    have hf2 := fldsOk_mono fs i 1048576 hf (by omega)
    have hfl := hf.1
    unfold parseF
    by_cases hi : i < data.length
    · rw [spec_l4Parse.step data hd fs i hi hf2 k (by omega), impl_parseHeader.step data hd hB fs i hi hf2 k2 (by omega), if_pos hi]
      have hle := lineLen_le (data.drop i)
      rw [List.length_drop] at hle
      have hlen : ((data.drop i).take (lineLen (data.drop i))).length = lineLen (data.drop i) := by rw [List.length_take, List.length_drop]; omega
      have hsz := strOfNums_size ((data.drop i).take (lineLen (data.drop i)))
      rw [hlen] at hsz
      generalize lineLen (data.drop i) = m at hle hlen hsz
      by_cases h0 : m = 0
      · simp only [if_pos h0]; exact ⟨trivial, trivial⟩
      · simp only [if_neg h0]
        generalize strOfNums ((data.drop i).take m) = s at hsz
        cases hl : lineF fs s with
        | none => exact ⟨rfl, rfl⟩
        | some f =>
          have hok := lineF_ok fs f s i hf (by omega) hl
          exact parse_both data hd hB n k k2 (min (i + m + 1) data.length) f (by omega) (by omega) (fldsOk_mono f _ _ hok (by omega)) (by omega) (by omega)
    · obtain ⟨k2, rfl⟩ : ∃ m, k2 = m + 1 := ⟨k2 - 1, by omega⟩
      have hI : ¬ ((i : Int) < (data.length : Int)) := by omega
      rw [spec_l4Parse.l0, impl_parseHeader.l0, if_neg hI, if_neg hI, if_neg hi, spec_l4Fault_eq fs (fldsOk_small fs _ hf2 (Nat.le_refl _)) k (by omega), impl_FieldsFault_eq fs (fldsOk_small fs _ hf2 (Nat.le_refl _)) (k2 + 1 + 1) (by omega)]
      exact ⟨rfl, rfl⟩
theorem parse_both0 (data : List Int) (hd : data.length ≤ 1048576) (hB : ∀ x ∈ data, 0 ≤ x ∧ x ≤ 255) (k : Nat) (hk : 8388800 < k) : spec_l4Parse.f k data = some (parseF (data.length + 1) data 0 []) ∧ impl_parseHeader.f k data = some (parseF (data.length + 1) data 0 []) := by
  unfold spec_l4Parse.f impl_parseHeader.f
  exact parse_both data hd hB (data.length + 1) k k 0 [] (by omega) (by omega) ⟨Nat.zero_le _, by simp⟩ (by omega) (by omega)
theorem parseF_ok (data : List Int) (hd : data.length ≤ 1048576) : ∀ (n i : Nat) (fs : List S69), i ≤ data.length → fldsOk fs i → fldsOk (parseF n data i fs).1 1048576
  | 0, _, _, _, _ => ⟨Nat.zero_le _, by simp [parseF]⟩
  | n + 1, i, fs, hi, hf => by
    have hf2 := fldsOk_mono fs i 1048576 hf (by omega)
    unfold parseF
    by_cases c : i < data.length
    · rw [if_pos c]
      have hle := lineLen_le (data.drop i)
      rw [List.length_drop] at hle
      have hlen : ((data.drop i).take (lineLen (data.drop i))).length = lineLen (data.drop i) := by rw [List.length_take, List.length_drop]; omega
      have hsz := strOfNums_size ((data.drop i).take (lineLen (data.drop i)))
      rw [hlen] at hsz
      generalize lineLen (data.drop i) = m at hle hlen hsz
      by_cases h0 : m = 0
      · rw [if_pos h0]; exact hf2
      · rw [if_neg h0]
        generalize strOfNums ((data.drop i).take m) = s at hsz
        cases hl : lineF fs s with
        | none => exact ⟨Nat.zero_le _, by simp⟩
        | some f =>
          have hok := lineF_ok fs f s i hf (by omega) hl
          exact parseF_ok data hd n (min (i + m + 1) data.length) f (by omega) (fldsOk_mono f _ _ hok (by omega))
    · rw [if_neg c]; exact hf2
theorem bytesOf_append (a b : ByteArray) : bytesOf (a ++ b) = bytesOf a ++ bytesOf b := by
  unfold bytesOf
  rw [ByteArray.data_append, Array.toList_append, List.map_append]
def pkS (x : S69) : ByteArray := ((x.f0 ++ (⟨#[58, 32]⟩ : ByteArray)) ++ x.f1) ++ (⟨#[10]⟩ : ByteArray)
def pk (x : S69) : List Int := bytesOf (pkS x)
theorem pkS_size (x : S69) : (x.f0 ++ (⟨#[58, 32]⟩ : ByteArray)).size = x.f0.size + 2 ∧ ((x.f0 ++ (⟨#[58, 32]⟩ : ByteArray)) ++ x.f1).size = x.f0.size + 2 + x.f1.size ∧ (pkS x).size = x.f0.size + 2 + x.f1.size + 1 := by
  have h1 : (x.f0 ++ (⟨#[58, 32]⟩ : ByteArray)).size = x.f0.size + 2 := by rw [ByteArray.size_append]; rfl
  have h2 : ((x.f0 ++ (⟨#[58, 32]⟩ : ByteArray)) ++ x.f1).size = x.f0.size + 2 + x.f1.size := by rw [ByteArray.size_append, h1]
  refine ⟨h1, h2, ?_⟩
  unfold pkS
  rw [ByteArray.size_append, h2]
  rfl
def packF (l : List S69) : List Int := l.flatMap pk ++ [10]
theorem pk_len (x : S69) (h : x.f0.size ≤ 1048576 ∧ x.f1.size ≤ 1048576) : (pk x).length ≤ 2097155 := by
  unfold pk
  rw [bytesOf_length, (pkS_size x).2.2]
  omega
theorem spec_l4Pack.l0_eq (l : List S69) (hl : smallF l) (h8 : l.length ≤ 8) : ∀ (n k i : Nat) (acc : List Int), l.length = i + n → n < k → acc.length + n * 2097155 ≤ 30000000 → spec_l4Pack.l0 k l acc (i : Int) = some (acc ++ packF (l.drop i))
  | _, 0, _, _, _, h, _ => absurd h (by omega)
  | 0, k + 1, i, acc, hi, _, ha => by
    have h1 : ¬ ((i : Int) < (l.length : Int)) := by omega
    rw [spec_l4Pack.l0, if_neg h1, if_pos (by omega), List.drop_eq_nil_of_le (by omega)]
    rfl
  | n + 1, k + 1, i, acc, hi, h, ha => by
    have hlt : i < l.length := by omega
    have h1 : (i : Int) < (l.length : Int) := by omega
    have h2 : (0 : Int) ≤ (i : Int) := by omega
    have hz := hl.2 l[i] (List.getElem_mem hlt)
    obtain ⟨p1, p2, p3⟩ := pkS_size l[i]
    have p4 := pk_len l[i] hz
    rw [spec_l4Pack.l0, if_pos h1, if_pos h2, wrap_succ i (by omega), rd_fld l i hlt, if_pos (by omega), if_pos (by rw [p1]; omega), if_pos (by rw [p2]; omega)]
    change (if (pkS l[i]).size ≤ 281474976710656 then ((some (pk l[i])).bind fun y => if acc.length + y.length < 140737488355328 then spec_l4Pack.l0 k l (acc ++ y) ((i + 1 : Nat) : Int) else none) else none) = _
    rw [if_pos (show (pkS l[i]).size ≤ 281474976710656 by rw [p3]; omega), Option.bind_some, if_pos (show acc.length + (pk l[i]).length < 140737488355328 by omega)]
    rw [spec_l4Pack.l0_eq l hl h8 n k (i + 1) _ (by omega) (by omega) (by rw [List.length_append]; omega), List.drop_eq_getElem_cons hlt]
    unfold packF
    rw [List.flatMap_cons, List.append_assoc, List.append_assoc]
theorem spec_l4Pack_eq (l : List S69) (hl : smallF l) (h8 : l.length ≤ 8) (k : Nat) (hk : l.length < k) : spec_l4Pack.f k l = some (packF l) := by
  have := spec_l4Pack.l0_eq l hl h8 l.length k 0 [] (by omega) hk (by simp; omega)
  unfold spec_l4Pack.f
  simpa using this
theorem impl_PackHeader.l0_eq (l : List S69) (hl : smallF l) (h8 : l.length ≤ 8) : ∀ (n k i : Nat) (acc : List Int), l.length = i + n → n < k → acc.length + n * 2097155 ≤ 30000000 → impl_PackHeader.l0 k acc l (l.length : Int) (i : Int) = some (if 400 < (acc ++ packF (l.drop i)).length then (2, []) else (0, acc ++ packF (l.drop i)))
  | _, 0, _, _, _, h, _ => absurd h (by omega)
  | 0, k + 1, i, acc, hi, _, ha => by
    have h1 : ¬ ((i : Int) < (l.length : Int)) := by omega
    have hp : packF ([] : List S69) = [10] := rfl
    rw [impl_PackHeader.l0, if_neg h1, if_pos (by omega), List.drop_eq_nil_of_le (by omega), Option.bind_some, hp]
    by_cases c : 400 < (acc ++ [10]).length
    · rw [if_pos c, if_pos (by omega)]
    · rw [if_neg c, if_neg (by omega)]
  | n + 1, k + 1, i, acc, hi, h, ha => by
    have hlt : i < l.length := by omega
    have h1 : (i : Int) < (l.length : Int) := by omega
    have h2 : (0 : Int) ≤ (i : Int) := by omega
    have hz := hl.2 l[i] (List.getElem_mem hlt)
    obtain ⟨p1, p2, p3⟩ := pkS_size l[i]
    have p4 := pk_len l[i] hz
    have p5 : (pk l[i]).length = (pkS l[i]).size := bytesOf_length _
    rw [impl_PackHeader.l0, if_pos h1, if_pos h2, if_pos h1, wrap_succ i (by omega), rd_fld l i hlt, if_pos (by omega), if_pos (by rw [p1]; omega), if_pos (by rw [p2]; omega)]
    change (if acc.length + (pkS l[i]).size < 140737488355328 then impl_PackHeader.l0 k (acc ++ pk l[i]) l (l.length : Int) ((i + 1 : Nat) : Int) else none) = _
    rw [if_pos (show acc.length + (pkS l[i]).size < 140737488355328 by omega)]
    rw [impl_PackHeader.l0_eq l hl h8 n k (i + 1) _ (by omega) (by omega) (by rw [List.length_append]; omega), List.drop_eq_getElem_cons hlt]
    have e : acc ++ pk l[i] ++ packF (l.drop (i + 1)) = acc ++ packF (l[i] :: l.drop (i + 1)) := by
      unfold packF
      rw [List.flatMap_cons, List.append_assoc, List.append_assoc]
    rw [e]
def packo (l : List S69) : Int × List Int := if faultF l = 0 then (if 400 < (packF l).length then (2, []) else (0, packF l)) else (faultF l, [])
theorem fault8 (l : List S69) (h : faultF l = 0) : l.length ≤ 8 ∧ ∀ x ∈ l, fldB x = true := by
  unfold faultF at h
  by_cases c : 8 < l.length
  · rw [if_pos c] at h; exact absurd h (by decide)
  · rw [if_neg c] at h
    by_cases c2 : l.all fldB = true
    · exact ⟨by omega, List.all_eq_true.mp c2⟩
    · rw [if_neg c2] at h; exact absurd h (by decide)
theorem spec_PackHeader_eq (l : List S69) (hl : smallF l) (k : Nat) (hk : l.length + 2097155 < k) : spec_PackHeader.f k l = some (packo l) := by
  unfold spec_PackHeader.f packo
  rw [spec_l4Fault_eq l hl k hk, Option.bind_some]
  by_cases h : faultF l = 0
  · rw [if_pos h, if_pos h, spec_l4Pack_eq l hl (fault8 l h).1 k (by omega), Option.bind_some]
    by_cases c : 400 < (packF l).length
    · rw [if_pos c, if_pos (by omega)]
    · rw [if_neg c, if_neg (by omega)]
  · rw [if_neg h, if_neg h]
theorem impl_PackHeader_eq (l : List S69) (hl : smallF l) (k : Nat) (hk : l.length + 2097155 < k) : impl_PackHeader.f k l = some (packo l) := by
  unfold impl_PackHeader.f packo
  rw [impl_FieldsFault_eq l hl k hk, Option.bind_some]
  by_cases h : faultF l = 0
  · have := impl_PackHeader.l0_eq l hl (fault8 l h).1 l.length k 0 [] (by omega) (by omega) (by have := (fault8 l h).1; simp; omega)
    rw [List.drop_zero, List.nil_append] at this
    rw [if_pos h, if_pos h]
    exact this
  · rw [if_neg h, if_neg h]
def low (b : Int) : Int := if 65 ≤ b ∧ b ≤ 90 then (b + 32) % 256 else b
theorem low_step (L : List Int) (i : Nat) (h : i < L.length) : ((L.take i).map low ++ L.drop i).set i (low L[i]) = (L.take (i + 1)).map low ++ L.drop (i + 1) := by
  rw [List.set_append_right _ _ (by simp; omega)]
  have h5 : i - ((L.take i).map low).length = 0 := by simp; omega
  rw [h5, List.drop_eq_getElem_cons h, List.set_cons_zero, List.take_succ_eq_append_getElem h, List.map_append, List.append_assoc]
  rfl
theorem low_rd (L : List Int) (i : Nat) (h : i < L.length) : rd ((L.take i).map low ++ L.drop i) (i : Int) = L[i] := by
  rw [rd_at _ i (by simp; omega), List.getElem_append_right (by simp; omega)]
  simp only [List.getElem_drop]
  congr 1
  simp; omega
theorem low_same (L : List Int) (i : Nat) (h : i < L.length) (hl : low L[i] = L[i]) : (L.take i).map low ++ L.drop i = (L.take (i + 1)).map low ++ L.drop (i + 1) := by
  rw [← low_step L i h, hl, List.set_append_right _ _ (by simp; omega)]
  have h5 : i - ((L.take i).map low).length = 0 := by simp; omega
  rw [h5, List.drop_eq_getElem_cons h, List.set_cons_zero]
theorem low_len (L : List Int) (i : Nat) : ((L.take i).map low ++ L.drop i).length = L.length := by simp; omega
theorem spec_l2Lower.l0_eq (L : List Int) (hb : L.length ≤ maxLen) : ∀ (n k i : Nat), L.length = i + n → n < k → spec_l2Lower.l0 k ((L.take i).map low ++ L.drop i) (i : Int) = some (strOfNums (L.map low))
  | 0, 0, _, _, h => absurd h (by omega)
  | 0, k + 1, i, hi, _ => by
    have h1 : ¬ ((i : Int) < (((L.take i).map low ++ L.drop i).length : Int)) := by rw [low_len]; omega
    unfold spec_l2Lower.l0
    rw [if_neg h1, List.drop_eq_nil_of_le (by omega), List.take_of_length_le (by omega), List.append_nil]
  | n + 1, 0, _, _, h => absurd h (by omega)
  | n + 1, k + 1, i, hi, h => by
    have hm := maxLen_le
    have h1 : (i : Int) < (((L.take i).map low ++ L.drop i).length : Int) := by rw [low_len]; omega
    have h2 : (0 : Int) ≤ (i : Int) := by omega
    have h4 : wrap64 ((i : Int) + 1) = ((i + 1 : Nat) : Int) := by rw [wrap64_in (by omega)]; omega
    have hlt : i < L.length := by omega
    have ih := spec_l2Lower.l0_eq L hb n k (i + 1) (by omega) (by omega)
    have hs := low_step L i hlt
    have hq := low_same L i hlt
    unfold spec_l2Lower.l0
    rw [if_pos h1, if_pos h2, low_rd L i hlt, h4, Int.toNat_natCast]
    generalize L[i] = y at hs hq
    by_cases h5 : y ≥ 65
    · rw [if_pos h5]
      by_cases h6 : y ≤ 90
      · rw [if_pos h6]
        have h7 : low y = (y + 32) % 256 := by unfold low; rw [if_pos ⟨h5, h6⟩]
        rw [← h7, hs, ih]
      · rw [if_neg h6, hq (by unfold low; rw [if_neg (by omega)]), ih]
    · rw [if_neg h5, hq (by unfold low; rw [if_neg (by omega)]), ih]
theorem bytesOf_len (a : ByteArray) : (bytesOf a).length = a.size := by simp [bytesOf]
theorem spec_l2Lower_eq (a : ByteArray) (k : Nat) (hb : a.size ≤ 1048576) (hk : a.size < k) : spec_l2Lower.f k a = some (strOfNums ((bytesOf a).map low)) := by
  have hl := bytesOf_len a
  unfold spec_l2Lower.f
  rw [if_pos (by omega)]
  have := spec_l2Lower.l0_eq (bytesOf a) (by unfold maxLen; omega) a.size k 0 (by omega) hk
  simpa using this
theorem impl_small.l0_eq (L : List Int) (hb : L.length ≤ maxLen) : ∀ (n k i : Nat), L.length = i + n → n < k → impl_small.l0 k ((L.take i).map low ++ L.drop i) (L.length : Int) (i : Int) = some (strOfNums (L.map low))
  | 0, 0, _, _, h => absurd h (by omega)
  | 0, k + 1, i, hi, _ => by
    have h1 : ¬ ((i : Int) < (L.length : Int)) := by omega
    unfold impl_small.l0
    rw [if_neg h1, List.drop_eq_nil_of_le (by omega), List.take_of_length_le (by omega), List.append_nil]
  | n + 1, 0, _, _, h => absurd h (by omega)
  | n + 1, k + 1, i, hi, h => by
    have hm := maxLen_le
    have h0 : (i : Int) < (L.length : Int) := by omega
    have h1 : (i : Int) < (((L.take i).map low ++ L.drop i).length : Int) := by rw [low_len]; omega
    have h2 : (0 : Int) ≤ (i : Int) := by omega
    have h4 : wrap64 ((i : Int) + 1) = ((i + 1 : Nat) : Int) := by rw [wrap64_in (by omega)]; omega
    have hlt : i < L.length := by omega
    have ih := impl_small.l0_eq L hb n k (i + 1) (by omega) (by omega)
    have hs := low_step L i hlt
    have hq := low_same L i hlt
    unfold impl_small.l0
    rw [if_pos h0, if_pos h2, if_pos h1, low_rd L i hlt, h4, Int.toNat_natCast]
    generalize L[i] = y at hs hq
    by_cases h5 : y ≥ 65
    · rw [if_pos h5]
      by_cases h6 : y ≤ 90
      · rw [if_pos h6]
        have h7 : low y = (y + 32) % 256 := by unfold low; rw [if_pos ⟨h5, h6⟩]
        rw [← h7, hs, ih]
      · rw [if_neg h6, hq (by unfold low; rw [if_neg (by omega)]), ih]
    · rw [if_neg h5, hq (by unfold low; rw [if_neg (by omega)]), ih]
theorem bytesOf_len1 (a : ByteArray) : (bytesOf a).length = a.size := by simp [bytesOf]
theorem impl_small_eq (a : ByteArray) (k : Nat) (hb : a.size ≤ 1048576) (hk : a.size < k) : impl_small.f k a = some (strOfNums ((bytesOf a).map low)) := by
  have hl := bytesOf_len1 a
  unfold impl_small.f
  rw [if_pos (by omega), Option.bind_some]
  have := impl_small.l0_eq (bytesOf a) (by unfold maxLen; omega) a.size k 0 (by omega) hk
  simpa using this
def lowS (s : ByteArray) : ByteArray := strOfNums ((bytesOf s).map low)
def ofF (name : ByteArray) : List S69 → ByteArray × Bool
  | [] => (⟨#[]⟩, false)
  | x :: xs => if (lowS x.f0).toList = (lowS name).toList then (x.f1, true) else ofF name xs
theorem spec_l4Of.l0_eq (l : List S69) (hl : smallF l) (a : ByteArray) (ha : a.size ≤ 1048576) : ∀ (n k i : Nat), l.length = i + n → n + 1048577 < k → spec_l4Of.l0 k l a (i : Int) = some (ofF a (l.drop i))
  | _, 0, _, _, h => absurd h (by omega)
  | 0, k + 1, i, hi, _ => by
    have h1 : ¬ ((i : Int) < (l.length : Int)) := by omega
    rw [spec_l4Of.l0, if_neg h1, List.drop_eq_nil_of_le (by omega)]
    rfl
  | n + 1, k + 1, i, hi, h => by
    have hlt : i < l.length := by omega
    have hb := hl.1
    have h1 : (i : Int) < (l.length : Int) := by omega
    have h2 : (0 : Int) ≤ (i : Int) := by omega
    obtain ⟨z0, z1⟩ := hl.2 l[i] (List.getElem_mem hlt)
    rw [spec_l4Of.l0, if_pos h1, if_pos h2, wrap_succ i (by omega), spec_l4Of.l0_eq l hl a ha n k (i + 1) (by omega) (by omega), rd_fld l i hlt, spec_l2Lower_eq _ k z0 (by omega), Option.bind_some, spec_l2Lower_eq a k ha (by omega), Option.bind_some, List.drop_eq_getElem_cons hlt]
    show _ = some (if (lowS l[i].f0).toList = (lowS a).toList then (l[i].f1, true) else ofF a (l.drop (i + 1)))
    unfold lowS
    split <;> rfl
theorem impl_fieldOf.l0_eq (l : List S69) (hl : smallF l) (a : ByteArray) (ha : a.size ≤ 1048576) : ∀ (n k i : Nat), l.length = i + n → n + 1048577 < k → impl_fieldOf.l0 k a l (l.length : Int) (i : Int) = some (ofF a (l.drop i))
  | _, 0, _, _, h => absurd h (by omega)
  | 0, k + 1, i, hi, _ => by
    have h1 : ¬ ((i : Int) < (l.length : Int)) := by omega
    rw [impl_fieldOf.l0, if_neg h1, List.drop_eq_nil_of_le (by omega)]
    rfl
  | n + 1, k + 1, i, hi, h => by
    have hlt : i < l.length := by omega
    have hb := hl.1
    have h1 : (i : Int) < (l.length : Int) := by omega
    have h2 : (0 : Int) ≤ (i : Int) := by omega
    obtain ⟨z0, z1⟩ := hl.2 l[i] (List.getElem_mem hlt)
    rw [impl_fieldOf.l0, if_pos h1, if_pos h2, if_pos h1, wrap_succ i (by omega), impl_fieldOf.l0_eq l hl a ha n k (i + 1) (by omega) (by omega), rd_fld l i hlt, impl_small_eq _ k z0 (by omega), Option.bind_some, impl_small_eq a k ha (by omega), Option.bind_some, List.drop_eq_getElem_cons hlt]
    show _ = some (if (lowS l[i].f0).toList = (lowS a).toList then (l[i].f1, true) else ofF a (l.drop (i + 1)))
    unfold lowS
    split <;> rfl
theorem spec_l4Of_eq (l : List S69) (hl : smallF l) (a : ByteArray) (ha : a.size ≤ 1048576) (k : Nat) (hk : l.length + 1048577 < k) : spec_l4Of.f k l a = some (ofF a l) := by
  have := spec_l4Of.l0_eq l hl a ha l.length k 0 (by omega) hk
  unfold spec_l4Of.f
  simpa using this
theorem impl_fieldOf_eq (l : List S69) (hl : smallF l) (a : ByteArray) (ha : a.size ≤ 1048576) (k : Nat) (hk : l.length + 1048577 < k) : impl_fieldOf.f k l a = some (ofF a l) := by
  have := impl_fieldOf.l0_eq l hl a ha l.length k 0 (by omega) hk
  unfold impl_fieldOf.f
  simpa using this
def Cyr (c : Int) : Prop := (0 ≤ c ∧ c ≤ 160) ∨ c = 173 ∨ c = 167 ∨ c = 8470 ∨ ((1025 ≤ c ∧ c ≤ 1119) ∧ c ≠ 1037 ∧ c ≠ 1104 ∧ c ≠ 1117)
instance (c : Int) : Decidable (Cyr c) := by unfold Cyr; infer_instance
def cyrV (c : Int) : Int := if (0 ≤ c ∧ c ≤ 160) ∨ c = 173 then c else if c = 167 then 253 else if c = 8470 then 240 else c - 864
theorem cyr (k : Nat) (c : Int) : ∃ v, spec_l2Cyrillic.f (k + 1) c = some v ∧ (v ≥ 0 ↔ Cyr c) ∧ (Cyr c → v = cyrV c) := by
  simp only [spec_l2Cyrillic.f, spec_l2Cyrillic.j0, in_eq, Option.bind_some, decide_eq_true_eq, beq_iff_eq, if_true]
  unfold wrap64 Cyr cyrV
  by_cases h1 : 0 ≤ c ∧ c ≤ 160
  · rw [if_pos h1, if_pos (Or.inl h1)]; refine ⟨c, rfl, ?_, fun _ => rfl⟩; omega
  · rw [if_neg h1]
    by_cases h2 : c = 173
    · rw [if_pos h2, if_pos (Or.inr h2)]; refine ⟨c, rfl, ?_, fun _ => rfl⟩; omega
    · rw [if_neg h2, if_neg (show ¬ ((0 ≤ c ∧ c ≤ 160) ∨ c = 173) by omega)]
      repeat' split
      all_goals refine ⟨_, rfl, ?_, ?_⟩
      all_goals omega
def hasB (a c : Int) : Bool := if a = 1 then decide (0 ≤ c ∧ c ≤ 127) else if a = 2 then decide (0 ≤ c ∧ c ≤ 255) else if a = 3 then decide (Cyr c) else true
theorem spec_l2Has_eq (k : Nat) (a c : Int) : spec_l2Has.f (k + 1) a c = some (hasB a c) := by
  obtain ⟨v, hv, hp, _⟩ := cyr k c
  simp only [spec_l2Has.f, in_eq, hv, Option.bind_some, hasB]
  repeat' split
  all_goals simp [hp]
def encB (a c : Int) : List Int :=
  if a = 1 ∨ a = 2 then [c % 256] else if a = 3 then [cyrV c % 256] else if a = 5 then [(wrap64 (Int.tdiv c 256)) % 256, (Int.tmod c 256) % 256]
  else if c < 128 then [c % 256] else if c < 2048 then [(wrap64 (192 + (wrap64 (Int.tdiv c 64)))) % 256, (wrap64 (128 + (Int.tmod c 64))) % 256]
  else [(wrap64 (224 + (wrap64 (Int.tdiv c 4096)))) % 256, (wrap64 (128 + (Int.tmod (wrap64 (Int.tdiv c 64)) 64))) % 256, (wrap64 (128 + (Int.tmod c 64))) % 256]
theorem encB_len (a c : Int) : (encB a c).length ≤ 3 := by
  unfold encB
  repeat' split
  all_goals simp
theorem encB_bytes (a c : Int) : ∀ x ∈ encB a c, 0 ≤ x ∧ x ≤ 255 := by
  intro x hx
  unfold encB at hx
  repeat' split at hx
  all_goals simp only [List.mem_cons, List.mem_nil_iff, or_false] at hx
  all_goals omega
def impl_baseText.dg (v : Int) : Int := bt (⟨#[65, 66, 67, 68, 69, 70, 71, 72, 73, 74, 75, 76, 77, 78, 79, 80, 81, 82, 83, 84, 85, 86, 87, 88, 89, 90, 97, 98, 99, 100, 101, 102, 103, 104, 105, 106, 107, 108, 109, 110, 111, 112, 113, 114, 115, 116, 117, 118, 119, 120, 121, 122, 48, 49, 50, 51, 52, 53, 54, 55, 56, 57, 43, 47]⟩ : ByteArray) v
def impl_baseText.q : List Int → List Int
  | [] => []
  | [a] => [impl_baseText.dg (a / 4 % 64), impl_baseText.dg (a % 4 * 16), 61, 61]
  | [a, b] => [impl_baseText.dg (a / 4 % 64), impl_baseText.dg (a % 4 * 16 + b / 16), impl_baseText.dg (b % 16 * 4), 61]
  | a :: b :: c :: rest => impl_baseText.dg (a / 4 % 64) :: impl_baseText.dg (a % 4 * 16 + b / 16) :: impl_baseText.dg (b % 16 * 4 + c / 64) :: impl_baseText.dg (c % 64) :: impl_baseText.q rest
def impl_baseText.dk (n : Nat) (V : Int) (k : Nat) : Int := if n < k then 61 else impl_baseText.dg (V / 2 ^ (18 - 6 * k) % 64)
def impl_baseText.four (n : Nat) (V : Int) : List Int := [impl_baseText.dk n V 0, impl_baseText.dk n V 1, impl_baseText.dk n V 2, impl_baseText.dk n V 3]
theorem impl_baseText.bytes3 (l cs : List Int) (kk : Nat) (g0 g1 g2 : Int) (hall : l.all (fun x => decide (0 ≤ x ∧ x ≤ 255)) = true) (hc : cs = (l.drop kk).take 3)
    (hval : (cs = [g0] ∧ g1 = 0 ∧ g2 = 0) ∨ (cs = [g0, g1] ∧ g2 = 0) ∨ cs = [g0, g1, g2]) : (0 ≤ g0 ∧ g0 ≤ 255) ∧ (0 ≤ g1 ∧ g1 ≤ 255) ∧ (0 ≤ g2 ∧ g2 ≤ 255) := by
  have hm : ∀ x, x ∈ cs → 0 ≤ x ∧ x ≤ 255 := by
    intro x hx
    rw [hc] at hx
    have h1 := List.mem_of_mem_drop (List.mem_of_mem_take hx)
    exact of_decide_eq_true (List.all_eq_true.1 hall x h1)
  rcases hval with ⟨h, rfl, rfl⟩ | ⟨h, rfl⟩ | h
  · exact ⟨hm g0 (by rw [h]; simp), by omega, by omega⟩
  · exact ⟨hm g0 (by rw [h]; simp), hm g1 (by rw [h]; simp), by omega⟩
  · exact ⟨hm g0 (by rw [h]; simp), hm g1 (by rw [h]; simp), hm g2 (by rw [h]; simp)⟩
theorem impl_baseText.q_step (l cs : List Int) (kk : Nat) (g0 g1 g2 : Int) (hall : l.all (fun x => decide (0 ≤ x ∧ x ≤ 255)) = true) (hc : cs = (l.drop kk).take 3)
    (hval : (cs = [g0] ∧ g1 = 0 ∧ g2 = 0) ∨ (cs = [g0, g1] ∧ g2 = 0) ∨ cs = [g0, g1, g2]) : impl_baseText.q (l.drop kk) = impl_baseText.four cs.length (g0 * 65536 + g1 * 256 + g2) ++ impl_baseText.q (l.drop (kk + 3)) := by
  obtain ⟨h0, h1, h2⟩ := impl_baseText.bytes3 l cs kk g0 g1 g2 hall hc hval
  rw [show l.drop (kk + 3) = (l.drop kk).drop 3 by rw [List.drop_drop]]
  generalize l.drop kk = m at hc
  have p0 : (2 : Int) ^ (18 - 6 * 0) = 262144 := by decide
  have p1 : (2 : Int) ^ (18 - 6 * 1) = 4096 := by decide
  have p2 : (2 : Int) ^ (18 - 6 * 2) = 64 := by decide
  have p3 : (2 : Int) ^ (18 - 6 * 3) = 1 := by decide
  match m, hc with
  | [], hc =>
    simp only [List.take_nil] at hc
    rcases hval with ⟨h, _⟩ | ⟨h, _⟩ | h <;> rw [hc] at h <;> cases h
  | [a], hc =>
    have hc' : cs = [a] := by rw [hc]; rfl
    rcases hval with ⟨h, rfl, rfl⟩ | ⟨h, _⟩ | h <;> rw [hc'] at h <;> cases h
    rw [hc']
    show [impl_baseText.dg (g0 / 4 % 64), impl_baseText.dg (g0 % 4 * 16), 61, 61] = [impl_baseText.dk 1 _ 0, impl_baseText.dk 1 _ 1, impl_baseText.dk 1 _ 2, impl_baseText.dk 1 _ 3] ++ impl_baseText.q []
    simp only [impl_baseText.dk, p0, p1, p2, p3, impl_baseText.q, List.append_nil]
    rw [if_neg (by omega), if_neg (by omega), if_pos (by omega), if_pos (by omega), show (g0 * 65536 + 0 * 256 + 0) / 262144 % 64 = g0 / 4 % 64 by omega, show (g0 * 65536 + 0 * 256 + 0) / 4096 % 64 = g0 % 4 * 16 by omega]
  | [a, b], hc =>
    have hc' : cs = [a, b] := by rw [hc]; rfl
    rcases hval with ⟨h, _⟩ | ⟨h, rfl⟩ | h <;> rw [hc'] at h <;> cases h
    rw [hc']
    show [impl_baseText.dg (g0 / 4 % 64), impl_baseText.dg (g0 % 4 * 16 + g1 / 16), impl_baseText.dg (g1 % 16 * 4), 61] = [impl_baseText.dk 2 _ 0, impl_baseText.dk 2 _ 1, impl_baseText.dk 2 _ 2, impl_baseText.dk 2 _ 3] ++ impl_baseText.q []
    simp only [impl_baseText.dk, p0, p1, p2, p3, impl_baseText.q, List.append_nil]
    rw [if_neg (by omega), if_neg (by omega), if_neg (by omega), if_pos (by omega), show (g0 * 65536 + g1 * 256 + 0) / 262144 % 64 = g0 / 4 % 64 by omega, show (g0 * 65536 + g1 * 256 + 0) / 4096 % 64 = g0 % 4 * 16 + g1 / 16 by omega, show (g0 * 65536 + g1 * 256 + 0) / 64 % 64 = g1 % 16 * 4 by omega]
  | a :: b :: c :: rest, hc =>
    have hc' : cs = [a, b, c] := by rw [hc]; rfl
    rcases hval with ⟨h, _⟩ | ⟨h, _⟩ | h <;> rw [hc'] at h <;> cases h
    rw [hc']
    show impl_baseText.dg (g0 / 4 % 64) :: impl_baseText.dg (g0 % 4 * 16 + g1 / 16) :: impl_baseText.dg (g1 % 16 * 4 + g2 / 64) :: impl_baseText.dg (g2 % 64) :: impl_baseText.q rest = [impl_baseText.dk 3 _ 0, impl_baseText.dk 3 _ 1, impl_baseText.dk 3 _ 2, impl_baseText.dk 3 _ 3] ++ impl_baseText.q rest
    simp only [impl_baseText.dk, p0, p1, p2, p3]
    rw [if_neg (by omega), if_neg (by omega), if_neg (by omega), if_neg (by omega), show (g0 * 65536 + g1 * 256 + g2) / 262144 % 64 = g0 / 4 % 64 by omega, show (g0 * 65536 + g1 * 256 + g2) / 4096 % 64 = g0 % 4 * 16 + g1 / 16 by omega, show (g0 * 65536 + g1 * 256 + g2) / 64 % 64 = g1 % 16 * 4 + g2 / 64 by omega, show (g0 * 65536 + g1 * 256 + g2) / 1 % 64 = g2 % 64 by omega]
    rfl
theorem spec_l1Base_eq (n : Int) (h : 0 ≤ n ∧ n < 64) : spec_l1Base.f n = some (impl_baseText.dg n) := by
  unfold spec_l1Base.f impl_baseText.dg
  rw [if_pos h.1, if_pos h.2]
theorem tdw (V d : Int) (hV : 0 ≤ V ∧ V ≤ 16777215) (hd : 0 < d) : wrap64 (Int.tdiv V d) = V / d := by
  rw [Int.tdiv_eq_ediv_of_nonneg hV.1, wrap64_in]
  have h1 := Int.ediv_nonneg hV.1 (by omega : 0 ≤ d)
  have h2 := Int.ediv_le_self d hV.1
  omega
theorem tdwm (V d : Int) (hV : 0 ≤ V ∧ V ≤ 16777215) (hd : 0 < d) : Int.tmod (wrap64 (Int.tdiv V d)) 64 = V / d % 64 := by
  rw [tdw V d hV hd, Int.tmod_eq_emod_of_nonneg (Int.ediv_nonneg hV.1 (by omega))]
theorem tm64 (V : Int) (hV : 0 ≤ V ∧ V ≤ 16777215) : Int.tmod V 64 = V % 64 := Int.tmod_eq_emod_of_nonneg hV.1
theorem mod64 (x : Int) : 0 ≤ x % 64 ∧ x % 64 < 64 := by omega
theorem w123 (i : Nat) (h : i ≤ 1048576) : wrap64 ((i : Int) + 1) = (i : Int) + 1 ∧ wrap64 ((i : Int) + 2) = (i : Int) + 2 ∧ wrap64 ((i : Int) + 3) = ((i + 3 : Nat) : Int) := by
  refine ⟨wrap64_in (by omega), wrap64_in (by omega), ?_⟩
  rw [wrap64_in (by omega)]
  omega
theorem spec_l1Encode.j2_eq (k : Nat) (L x3 : List Int) (i n : Nat) (V : Int) (hb : L.length ≤ 1048576) (hi : i < L.length) (hn : n = min (L.length - i) 3) (hV : 0 ≤ V ∧ V ≤ 16777215) (hx : x3.length + 4 < 140737488355328) :
    spec_l1Encode.j2 (k + 1) L x3 i V = spec_l1Encode.l0 k L (x3 ++ impl_baseText.four n V) ((i + 3 : Nat) : Int) := by
  have e1 := tdw V 262144 hV (by decide)
  have e2 := tdwm V 4096 hV (by decide)
  have e3 := tdwm V 64 hV (by decide)
  have e4 := tm64 V hV
  have v0 : 0 ≤ V / 262144 ∧ V / 262144 < 64 := by clear e1 e2 e3 e4 hx hn; omega
  have v1 := mod64 (V / 4096)
  have v2 := mod64 (V / 64)
  have v3 := mod64 V
  obtain ⟨w1, w2, w3⟩ := w123 i (by omega)
  have p0 : (2 : Int) ^ (18 - 6 * 0) = 262144 := by decide
  have p1 : (2 : Int) ^ (18 - 6 * 1) = 4096 := by decide
  have p2 : (2 : Int) ^ (18 - 6 * 2) = 64 := by decide
  have p3 : (2 : Int) ^ (18 - 6 * 3) = 1 := by decide
  have d0 : V / 262144 % 64 = V / 262144 := Int.emod_eq_of_lt v0.1 v0.2
  have d3 : V / 1 % 64 = V % 64 := by rw [Int.ediv_one]
  unfold spec_l1Encode.j2
  rw [e1, e2, e3, e4, w2, w1, w3, spec_l1Base_eq _ v0, spec_l1Base_eq _ v1, spec_l1Base_eq _ v2, spec_l1Base_eq _ v3]
  simp only [Option.bind_some]
  unfold impl_baseText.four impl_baseText.dk
  rw [p0, p1, p2, p3, d0, d3]
  clear e1 e2 e3 e4 w1 w2 w3 p0 p1 p2 p3 d0 d3 v0 v1 v2 v3 hV
  by_cases h2 : i + 2 < L.length
  · obtain rfl : n = 3 := by omega
    rw [if_neg (by omega), if_neg (by omega), if_pos (by simp; omega)]
    simp
  · by_cases h1 : i + 1 < L.length
    · obtain rfl : n = 2 := by omega
      rw [if_pos (by omega), if_pos (by simp), if_neg (by omega), if_pos (by simp; omega)]
      simp
    · obtain rfl : n = 1 := by omega
      rw [if_pos (by omega), if_pos (by simp), if_pos (by omega), if_pos (by simp), if_pos (by simp; omega)]
      simp
theorem spec_l1Encode.one (k : Nat) (L x3 : List Int) (i : Nat) (hb : L.length ≤ 1048576) (hB : ∀ x ∈ L, 0 ≤ x ∧ x ≤ 255) (hi : i < L.length) (hx : x3.length + 4 < 140737488355328) :
    ∃ four : List Int, impl_baseText.q (L.drop i) = four ++ impl_baseText.q (L.drop (i + 3)) ∧ four.length = 4 ∧ spec_l1Encode.l0 (k + 3) L x3 i = spec_l1Encode.l0 k L (x3 ++ four) ((i + 3 : Nat) : Int) := by
  have hall : L.all (fun x => decide (0 ≤ x ∧ x ≤ 255)) = true := by
    rw [List.all_eq_true]; intro x hx; exact decide_eq_true (hB x hx)
  have h1 : (i : Int) < (L.length : Int) := by omega
  have h2 : (0 : Int) ≤ (i : Int) := by omega
  have w2 : wrap64 ((i : Int) + 2) = ((i + 2 : Nat) : Int) := by rw [wrap64_in (by omega)]; omega
  have w1 : wrap64 ((i : Int) + 1) = ((i + 1 : Nat) : Int) := by rw [wrap64_in (by omega)]; omega
  have ha := hB L[i] (List.getElem_mem hi)
  have ra := rd_at L i hi
  have hd : L.drop i = L[i] :: L.drop (i + 1) := List.drop_eq_getElem_cons hi
  generalize L[i] = a at ha ra hd
  have wa : wrap64 a = a := wrap64_in (by omega)
  have wa2 : wrap64 (a * 65536) = a * 65536 := wrap64_in (by omega)
  by_cases h3 : i + 1 < L.length
  · have hb1 := hB L[i + 1] (List.getElem_mem h3)
    have rb := rd_at L (i + 1) h3
    have hd2 : L.drop (i + 1) = L[i + 1] :: L.drop (i + 2) := List.drop_eq_getElem_cons h3
    generalize L[i + 1] = b at hb1 rb hd2
    have wb : wrap64 b = b := wrap64_in (by omega)
    have wb2 : wrap64 (b * 256) = b * 256 := wrap64_in (by omega)
    have wab : wrap64 (a * 65536 + b * 256) = a * 65536 + b * 256 := wrap64_in (by omega)
    by_cases h4 : i + 2 < L.length
    · have hc1 := hB L[i + 2] (List.getElem_mem h4)
      have rc := rd_at L (i + 2) h4
      have hd3 : L.drop (i + 2) = L[i + 2] :: L.drop (i + 3) := List.drop_eq_getElem_cons h4
      generalize L[i + 2] = c at hc1 rc hd3
      have wc : wrap64 c = c := wrap64_in (by omega)
      have wabc : wrap64 (a * 65536 + b * 256 + c) = a * 65536 + b * 256 + c := wrap64_in (by omega)
      refine ⟨impl_baseText.four 3 (a * 65536 + b * 256 + c), ?_, rfl, ?_⟩
      · have := impl_baseText.q_step L [a, b, c] i a b c hall (by rw [hd, hd2, hd3]; rfl) (.inr (.inr rfl))
        simpa using this
      · conv => lhs; unfold spec_l1Encode.l0
        rw [if_pos h1, if_pos h2, w1, if_pos (by omega), if_pos (by omega), ra, rb, wa, wb, wa2, wb2, wab]
        unfold spec_l1Encode.j1
        rw [w2, if_pos (by omega), if_pos (by omega), rc, wc, wabc]
        exact spec_l1Encode.j2_eq k L x3 i 3 (a * 65536 + b * 256 + c) hb hi (by omega) (by omega) hx
    · refine ⟨impl_baseText.four 2 (a * 65536 + b * 256 + 0), ?_, rfl, ?_⟩
      · have hd3 : L.drop (i + 2) = [] := List.drop_eq_nil_of_le (by omega)
        have := impl_baseText.q_step L [a, b] i a b 0 hall (by rw [hd, hd2, hd3]; rfl) (.inr (.inl ⟨rfl, rfl⟩))
        simpa using this
      · conv => lhs; unfold spec_l1Encode.l0
        rw [if_pos h1, if_pos h2, w1, if_pos (by omega), if_pos (by omega), ra, rb, wa, wb, wa2, wb2, wab]
        unfold spec_l1Encode.j1
        rw [w2, if_neg (by omega), Int.add_zero]
        exact spec_l1Encode.j2_eq k L x3 i 2 (a * 65536 + b * 256) hb hi (by omega) (by omega) hx
  · refine ⟨impl_baseText.four 1 (a * 65536 + 0 * 256 + 0), ?_, rfl, ?_⟩
    · have hd3 : L.drop (i + 1) = [] := List.drop_eq_nil_of_le (by omega)
      have := impl_baseText.q_step L [a] i a 0 0 hall (by rw [hd, hd3]; rfl) (.inl ⟨rfl, rfl, rfl⟩)
      simpa using this
    · conv => lhs; unfold spec_l1Encode.l0
      rw [if_pos h1, if_pos h2, w1, if_neg (by omega), ra, wa, wa2]
      unfold spec_l1Encode.j1
      rw [w2, if_neg (by omega), show a * 65536 + 0 * 256 + 0 = a * 65536 by omega]
      exact spec_l1Encode.j2_eq k L x3 i 1 (a * 65536) hb hi (by omega) (by omega) hx
theorem spec_l1Encode.l0_eq (L : List Int) (hb : L.length ≤ 1048576) (hB : ∀ x ∈ L, 0 ≤ x ∧ x ≤ 255) : ∀ (n k i : Nat) (x3 : List Int), L.length ≤ i + n → L.length + 3 ≤ k + i → i ≤ L.length + 2 → x3.length ≤ 2 * i → spec_l1Encode.l0 k L x3 (i : Int) = some (strOfNums (x3 ++ impl_baseText.q (L.drop i))) := by
  intro n
  induction n using Nat.strongRecOn with
  | _ n ih =>
    intro k i x3 hn hk hi hx
    by_cases h : i < L.length
    · obtain ⟨k, rfl⟩ : ∃ m, k = m + 3 := ⟨k - 3, by omega⟩
      obtain ⟨four, h1, h2, h3⟩ := spec_l1Encode.one k L x3 i hb hB h (by omega)
      rw [h3, h1]
      rw [ih (n - 1) (by omega) k (i + 3) (x3 ++ four) (by omega) (by omega) (by omega) (by simp; omega), List.append_assoc]
    · obtain ⟨k, rfl⟩ : ∃ m, k = m + 1 := ⟨k - 1, by omega⟩
      have h1 : ¬ ((i : Int) < (L.length : Int)) := by omega
      unfold spec_l1Encode.l0
      rw [if_neg h1, List.drop_eq_nil_of_le (by omega)]
      simp [impl_baseText.q]
theorem spec_l1Encode_eq (L : List Int) (k : Nat) (hb : L.length ≤ 1048576) (hB : ∀ x ∈ L, 0 ≤ x ∧ x ≤ 255) (hk : L.length + 3 ≤ k) : spec_l1Encode.f k L = some (strOfNums (impl_baseText.q L)) := by
  unfold spec_l1Encode.f
  have := spec_l1Encode.l0_eq L hb hB L.length k 0 [] (by omega) (by omega) (by omega) (by simp)
  simpa using this
theorem spec_l2Bytes_eq (k : Nat) (a c : Int) (ha : 1 ≤ a ∧ a ≤ 5) (hh : hasB a c = true) : spec_l2Bytes.f (k + 2) a c = some (encB a c) := by
  obtain ⟨v, hv, _, hp⟩ := cyr k c
  unfold spec_l2Bytes.f encB
  have : a = 1 ∨ a = 2 ∨ a = 3 ∨ a = 4 ∨ a = 5 := by omega
  rcases this with rfl | rfl | rfl | rfl | rfl
  · simp [spec_l2Bytes.j0]
  · simp [spec_l2Bytes.j0]
  · have hc : Cyr c := by unfold hasB at hh; simpa using hh
    simp [spec_l2Bytes.j0, hv, hp hc]
  · simp [spec_l2Bytes.j0]
    repeat' split
    all_goals rfl
  · simp [spec_l2Bytes.j0]
def enco (a : Int) (acc l : List Int) : List Int × Int :=
  if l.all (hasB a) = true then (if 400 < (acc ++ l.flatMap (encB a)).length then ([], 2) else (acc ++ l.flatMap (encB a), 0)) else ([], 8)
theorem spec_l2Encode.l0_eq (a : Int) (ha : 1 ≤ a ∧ a ≤ 5) (L : List Int) (hb : L.length ≤ 1048576) : ∀ (n k i : Nat) (acc : List Int), L.length = i + n → n + 2 < k → acc.length + 3 * n ≤ 4194304 → spec_l2Encode.l0 k a L acc (i : Int) = some (enco a acc (L.drop i))
  | _, 0, _, _, _, h, _ => absurd h (by omega)
  | 0, k + 1, i, acc, hi, _, _ => by
    have h1 : ¬ ((i : Int) < (L.length : Int)) := by omega
    unfold spec_l2Encode.l0 enco
    rw [if_neg h1, List.drop_eq_nil_of_le (by omega)]
    simp only [List.all_nil, if_true, List.flatMap_nil, List.append_nil]
    by_cases h2 : 400 < acc.length
    · rw [if_pos (by omega), if_pos h2]
    · rw [if_neg (by omega), if_neg h2]
  | n + 1, k + 1, i, acc, hi, h, hc => by
    have h1 : (i : Int) < (L.length : Int) := by omega
    have h2 : (0 : Int) ≤ (i : Int) := by omega
    have h4 : wrap64 ((i : Int) + 1) = ((i + 1 : Nat) : Int) := by rw [wrap64_in (by omega)]; omega
    obtain ⟨k2, rfl⟩ : ∃ k2, k = k2 + 2 := ⟨k - 2, by omega⟩
    unfold spec_l2Encode.l0
    rw [if_pos h1, if_pos h2, rd_at L i (by omega), spec_l2Has_eq (k2 + 1), Option.bind_some, List.drop_eq_getElem_cons (by omega : i < L.length), h4]
    have hl := encB_len a L[i]
    cases hh : hasB a L[i] with
    | true =>
      rw [if_pos rfl, spec_l2Bytes_eq k2 a _ ha hh, Option.bind_some, if_pos (by omega), spec_l2Encode.l0_eq a ha L hb n (k2 + 2) (i + 1) _ (by omega) (by omega) (by rw [List.length_append]; omega)]
      unfold enco
      rw [List.all_cons, hh, Bool.true_and, List.flatMap_cons, List.append_assoc]
    | false =>
      rw [if_neg (by decide)]
      unfold enco
      rw [List.all_cons, hh, Bool.false_and, if_neg (by decide)]
def plW (x : Int) : Bool := decide (32 ≤ x ∧ x ≤ 126)
def pairB : Int → List Int → Bool
  | _, [] => true
  | p, x :: r => plW x && !(decide (p = 61) && decide (x = 63)) && pairB x r
def has2 : List Int → Bool
  | [] => false
  | x :: r => (decide (x = 61) && decide (r.head? = some 63)) || has2 r
theorem pairB_eq : ∀ (l : List Int) (p : Int), pairB p l = (l.all plW && !(has2 (p :: l)))
  | [], p => by simp [pairB, has2]
  | x :: r, p => by
    rw [pairB, pairB_eq r x, List.all_cons]
    have h : has2 (p :: x :: r) = ((decide (p = 61) && decide (x = 63)) || has2 (x :: r)) := by
      conv => lhs; rw [has2]
      simp
    rw [h]
    cases plW x <;> cases (decide (p = 61) && decide (x = 63)) <;> cases r.all plW <;> cases has2 (x :: r) <;> rfl
theorem spec_l4Self.l0_eq (L : List Int) (hb : L.length ≤ 1048576) : ∀ (n k i : Nat), L.length = i + n → n < k → spec_l4Self.l0 k L (i : Int) = some (pairB (if i = 0 then 0 else rd L ((i - 1 : Nat) : Int)) (L.drop i))
  | _, 0, _, _, h => absurd h (by omega)
  | 0, k + 1, i, hi, _ => by
    have h1 : ¬ ((i : Int) < (L.length : Int)) := by omega
    rw [spec_l4Self.l0, if_neg h1, List.drop_eq_nil_of_le (by omega)]
    rfl
  | n + 1, k + 1, i, hi, h => by
    have hlt : i < L.length := by omega
    have h1 : (i : Int) < (L.length : Int) := by omega
    have h2 : (0 : Int) ≤ (i : Int) := by omega
    have ih := spec_l4Self.l0_eq L hb n k (i + 1) (by omega) (by omega)
    rw [if_neg (by omega), Nat.add_sub_cancel] at ih
    rw [spec_l4Self.l0, if_pos h1, if_pos h2, in_eq, Option.bind_some, List.drop_eq_getElem_cons hlt, pairB, ← rd_at L i hlt]
    have w1 : wrap64 ((i : Int) + 1) = ((i + 1 : Nat) : Int) := by rw [wrap64_in (by omega)]; omega
    rw [w1, ih]
    unfold plW
    by_cases c : 32 ≤ rd L (i : Int) ∧ rd L (i : Int) ≤ 126
    · rw [decide_eq_true c, if_pos rfl, Bool.true_and]
      by_cases g : i = 0
      · rw [if_neg (by omega), if_pos g]; rfl
      · have w2 : wrap64 ((i : Int) - 1) = ((i - 1 : Nat) : Int) := by rw [wrap64_in (by omega)]; omega
        have g1 : (i : Int) > 0 := by omega
        have g2 : (0 : Int) ≤ ((i - 1 : Nat) : Int) := by omega
        have g3 : ((i - 1 : Nat) : Int) < (L.length : Int) := by omega
        rw [w2, if_pos g1, if_pos g2, if_pos g3, if_neg g]
        by_cases e1 : rd L ((i - 1 : Nat) : Int) = 61 <;> by_cases e2 : rd L (i : Int) = 63 <;> simp [e1, e2]
    · rw [decide_eq_false c]; rfl
theorem spec_l4Self_eq (L : List Int) (hb : L.length ≤ 1048576) (k : Nat) (hk : L.length < k) : spec_l4Self.f k L = some (L.all plW && !(has2 L)) := by
  unfold spec_l4Self.f
  have := spec_l4Self.l0_eq L hb L.length k 0 (by omega) hk
  rw [show ((0 : Nat) : Int) = 0 from rfl, if_pos rfl, List.drop_zero, pairB_eq] at this
  rw [this]
  congr 3
theorem q_len : ∀ (n : Nat) (L : List Int), L.length ≤ n → (impl_baseText.q L).length ≤ 4 * L.length + 4 := by
  intro n
  induction n using Nat.strongRecOn with
  | _ n ih =>
    intro L h
    match L, h with
    | [], _ => simp [impl_baseText.q]
    | [a], _ => simp [impl_baseText.q]
    | [a, b], _ => simp [impl_baseText.q]
    | a :: b :: c :: r, h =>
      simp only [List.length_cons] at h
      have := ih r.length (by omega) r (Nat.le_refl _)
      simp only [impl_baseText.q, List.length_cons]
      omega
theorem flat_bytes (a : Int) (l : List Int) : ∀ x ∈ l.flatMap (encB a), 0 ≤ x ∧ x ≤ 255 := by
  intro x hx
  obtain ⟨c, _, hc⟩ := List.mem_flatMap.1 hx
  exact encB_bytes a c x hc
theorem wrap_sz (F : List Int) (hF : F.length ≤ 1000000) : 10 + (strOfNums (impl_baseText.q F)).size ≤ 9223372036854775807 ∧ ((⟨#[61, 63, 117, 116, 102, 45, 56, 63, 66, 63]⟩ : ByteArray) ++ strOfNums (impl_baseText.q F)).size + 2 ≤ 9223372036854775807 := by
  have hq := q_len F.length F (Nat.le_refl _)
  have h1 : (⟨#[61, 63, 117, 116, 102, 45, 56, 63, 66, 63]⟩ : ByteArray).size = 10 := rfl
  rw [ByteArray.size_append, h1, strOfNums_size]
  omega
theorem spec_l4Encode_ex (l : List Int) (k : Nat) (hb : l.length ≤ 1000) (hk : 4 * l.length + 412 < k) : ∃ s c, spec_l4Encode.f k l = some (s, c) ∧ s.size ≤ 2000 := by
  have he := spec_l2Encode.l0_eq 4 (by decide) l (by omega) l.length k 0 [] (by omega) (by omega) (by simp; omega)
  rw [show ((0 : Nat) : Int) = 0 from rfl, List.drop_zero] at he
  have hall : l.all (hasB 4) = true := by rw [List.all_eq_true]; intro x _; rfl
  have hec : spec_l2Encode.f k 4 l = some (if 400 < (l.flatMap (encB 4)).length then ([], 2) else (l.flatMap (encB 4), 0)) := by
    unfold spec_l2Encode.f
    rw [he]
    unfold enco
    rw [if_pos hall, List.nil_append]
  unfold spec_l4Encode.f
  rw [hec, Option.bind_some]
  have hB := flat_bytes 4 l
  generalize l.flatMap (encB 4) = F at *
  by_cases c : 400 < F.length
  · rw [if_pos c]; exact ⟨_, _, rfl, by decide⟩
  · obtain ⟨z1, z2⟩ := wrap_sz F (by omega)
    have hq := q_len F.length F (Nat.le_refl _)
    rw [if_neg c, spec_l4Self_eq l (by omega) k (by omega)]
    show ∃ s c, (if (0 : Int) = 0 then _ else _) = _ ∧ _
    rw [if_pos rfl, Option.bind_some]
    cases (l.all plW && !(has2 l)) with
    | true => rw [if_pos rfl]; exact ⟨_, _, rfl, by rw [strOfNums_size]; show F.length ≤ 2000; omega⟩
    | false =>
      rw [if_neg (by decide)]
      show ∃ s c, (spec_l1Encode.f k F).bind _ = _ ∧ _
      rw [spec_l1Encode_eq F k (by omega) hB (by omega), Option.bind_some, if_pos z1, if_pos z2]
      split
      · exact ⟨_, _, rfl, by decide⟩
      · refine ⟨_, _, rfl, ?_⟩
        rw [ByteArray.size_append, ByteArray.size_append, strOfNums_size]
        show 10 + _ + 2 ≤ 2000
        omega
theorem byte_wf {l : List Int} (h : ∀ x ∈ l, (Lit.int .u8 x).wf = true) : ∀ x ∈ l, 0 ≤ x ∧ x ≤ 255 := by
  intro x hx
  have h1 := h x hx
  unfold Lit.wf at h1
  rw [Bool.and_eq_true, decide_eq_true_eq, decide_eq_true_eq, show IntKind.u8.min = 0 from by decide, show IntKind.u8.max = 255 from by decide] at h1
  exact h1
theorem rd_byte {l : List Int} (h : ∀ x ∈ l, 0 ≤ x ∧ x ≤ 255) (j : Int) : 0 ≤ rd l j ∧ rd l j ≤ 255 := by
  unfold rd
  rw [List.getD_eq_getElem?_getD]
  cases hg : l[j.toNat]? with
  | none => simp
  | some v =>
    have := h v (List.mem_of_getElem? hg)
    simpa using this
theorem tmod_in (x n : Int) (hx : 0 ≤ x) (hn : 1 ≤ n) : 0 ≤ Int.tmod x n ∧ Int.tmod x n < n :=
  ⟨Int.tmod_nonneg _ hx, Int.tmod_lt_of_pos _ (by omega)⟩
theorem spec_l1Next_eq (l : List Int) (hB : ∀ x ∈ l, 0 ≤ x ∧ x ≤ 255) (hl : l.length ≤ 1048576) (i n : Int) (hi : 0 ≤ i ∧ i ≤ 4294967296) (hn : 1 ≤ n) : ∃ v, spec_l1Next.f l i n = some (v, i + 1) ∧ 0 ≤ v ∧ v < n := by
  unfold spec_l1Next.f
  have a1 : wrap64 (i + 1) = i + 1 := wrap64_in (by omega)
  have a2 : wrap64 (i + 1 - 1) = i := by rw [show i + 1 - 1 = i by omega]; exact wrap64_in (by omega)
  rw [a1, a2, if_neg (by omega)]
  by_cases h0 : (l.length : Int) = 0
  · have a3 : wrap64 (i * 7) = i * 7 := wrap64_in (by omega)
    rw [if_pos h0, if_neg (by omega), a3]
    exact ⟨_, rfl, tmod_in _ _ (by omega) hn⟩
  · rw [if_neg h0]
    have h1 := tmod_in i (l.length : Int) hi.1 (by omega)
    rw [if_pos h1.1, if_pos h1.2]
    have hd : 0 ≤ Int.tdiv i (l.length : Int) ∧ Int.tdiv i (l.length : Int) ≤ i := by
      rw [Int.tdiv_eq_ediv_of_nonneg hi.1]
      exact ⟨Int.ediv_nonneg hi.1 (by omega), Int.ediv_le_self _ hi.1⟩
    have hr1 := rd_byte hB (Int.tmod i (l.length : Int))
    generalize rd l (Int.tmod i (l.length : Int)) = r1 at hr1
    generalize Int.tdiv i (l.length : Int) = q at hd
    have b0 : wrap64 r1 = r1 := wrap64_in (by omega)
    have b1 : wrap64 q = q := wrap64_in (by omega)
    have b2 : wrap64 (q * 37) = q * 37 := wrap64_in (by omega)
    have b3 : wrap64 (r1 + q * 37) = r1 + q * 37 := wrap64_in (by omega)
    rw [b0, b1, b2, b3]
    by_cases h2 : n > 200
    · rw [if_pos h2, a1]
      have h3 := tmod_in (i + 1) (l.length : Int) (by omega) (by omega)
      rw [if_pos h3.1, if_pos h3.2, if_neg (by omega)]
      have hr2 := rd_byte hB (Int.tmod (i + 1) (l.length : Int))
      generalize rd l (Int.tmod (i + 1) (l.length : Int)) = r2 at hr2
      have c0 : wrap64 r2 = r2 := wrap64_in (by omega)
      have c1 : wrap64 ((r1 + q * 37) * 251) = (r1 + q * 37) * 251 := wrap64_in (by omega)
      have c2 : wrap64 (r2 * 13) = r2 * 13 := wrap64_in (by omega)
      have c3 : wrap64 ((r1 + q * 37) * 251 + r2 * 13) = (r1 + q * 37) * 251 + r2 * 13 := wrap64_in (by omega)
      have c4 : wrap64 ((r1 + q * 37) * 251 + r2 * 13 + i) = (r1 + q * 37) * 251 + r2 * 13 + i := wrap64_in (by omega)
      rw [c0, c1, c2, c3, c4]
      exact ⟨_, rfl, tmod_in _ _ (by omega) hn⟩
    · rw [if_neg h2, if_neg (by omega)]
      exact ⟨_, rfl, tmod_in _ _ (by omega) hn⟩
theorem spec_l1Pick_eq (l : List Int) (hB : ∀ x ∈ l, 0 ≤ x ∧ x ≤ 255) (hl : l.length ≤ 1048576) (i : Int) (hi : 0 ≤ i ∧ i ≤ 4294967296) (L : List Int) (hL : 1 ≤ L.length) : ∃ j : Nat, j < L.length ∧ spec_l1Pick.f l i L = some (rd L (j : Int), i + 1) := by
  obtain ⟨v, hv, h0, h1⟩ := spec_l1Next_eq l hB hl i (L.length : Int) hi (by omega)
  unfold spec_l1Pick.f
  rw [hv, Option.bind_some]
  refine ⟨v.toNat, by omega, ?_⟩
  rw [Int.toNat_of_nonneg h0]
  simp only
  rw [if_pos h0, if_pos h1]
theorem spec_l1Some.l0_eq (l : List Int) (hB : ∀ x ∈ l, 0 ≤ x ∧ x ≤ 255) (hl : l.length ≤ 1048576) : ∀ (n k : Nat) (acc : List Int) (i : Int), n < k → (0 ≤ i ∧ i + 2 * n ≤ 4294967296) → acc.length + n ≤ 1000 → (∀ x ∈ acc, 0 ≤ x ∧ x ≤ 255) → ∃ out, spec_l1Some.l0 k (n : Int) acc l i = some (out, i + 2 * n) ∧ out.length = acc.length + n ∧ ∀ x ∈ out, 0 ≤ x ∧ x ≤ 255
  | _, 0, _, _, h, _, _, _ => absurd h (by omega)
  | 0, k + 1, acc, i, _, hi, ha, hx => by
    unfold spec_l1Some.l0
    rw [if_neg (by omega)]
    exact ⟨acc, by simp, by simp, hx⟩
  | n + 1, k + 1, acc, i, h, hi, ha, hx => by
    obtain ⟨v, hv, h0, h1⟩ := spec_l1Next_eq l hB hl i 256 (by omega) (by omega)
    obtain ⟨j, hj, hp⟩ := spec_l1Pick_eq l hB hl (i + 1) (by omega) ([v, 97, 32, 10, 61, 122] : List Int) (by simp)
    have hw : wrap64 (((n + 1 : Nat) : Int) - 1) = (n : Int) := by rw [wrap64_in (by omega)]; omega
    unfold spec_l1Some.l0
    rw [if_pos (by omega), hv, Option.bind_some, hp, Option.bind_some, if_pos (by omega), hw]
    generalize rd [v, 97, 32, 10, 61, 122] (j : Int) = y
    obtain ⟨out, ho, hlen, hb⟩ := spec_l1Some.l0_eq l hB hl n k (acc ++ [y % 256]) (i + 1 + 1) (by omega) (by omega) (by simp; omega) (by
      intro x hx'
      rcases List.mem_append.1 hx' with h' | h'
      · exact hx x h'
      · rw [List.mem_singleton.1 h']; omega)
    refine ⟨out, ?_, by simp at hlen; omega, hb⟩
    rw [ho]
    congr 2
    omega
theorem spec_l1Some_eq (l : List Int) (hB : ∀ x ∈ l, 0 ≤ x ∧ x ≤ 255) (hl : l.length ≤ 1048576) (n k : Nat) (i : Int) (hk : n < k) (hi : 0 ≤ i ∧ i + 2 * n ≤ 4294967296) (hn : n ≤ 1000) : ∃ out, spec_l1Some.f k l i (n : Int) = some (out, i + 2 * n) ∧ out.length = n ∧ ∀ x ∈ out, 0 ≤ x ∧ x ≤ 255 := by
  obtain ⟨out, h1, h2, h3⟩ := spec_l1Some.l0_eq l hB hl n k [] i hk hi (by simpa using hn) (by simp)
  exact ⟨out, h1, by simpa using h2, h3⟩
theorem spec_l2Codes.l0_eq (l : List Int) (hB : ∀ x ∈ l, 0 ≤ x ∧ x ≤ 255) (hl : l.length ≤ 1048576) : ∀ (n k : Nat) (acc : List Int) (i : Int), n < k → (0 ≤ i ∧ i + n ≤ 4294967296) → acc.length + n ≤ 1000 → (∀ x ∈ acc, x ∈ ([97, 66, 32, 228, 1078, 1046, 8470, 167, 8364, 127, 160, 1037] : List Int)) → ∃ out, spec_l2Codes.l0 k acc (n : Int) l i = some (out, i + n) ∧ out.length = acc.length + n ∧ ∀ x ∈ out, x ∈ ([97, 66, 32, 228, 1078, 1046, 8470, 167, 8364, 127, 160, 1037] : List Int)
  | _, 0, _, _, h, _, _, _ => absurd h (by omega)
  | 0, k + 1, acc, i, _, hi, ha, hx => by
    unfold spec_l2Codes.l0
    rw [if_neg (by omega)]
    exact ⟨acc, by simp, by simp, hx⟩
  | n + 1, k + 1, acc, i, h, hi, ha, hx => by
    obtain ⟨j, hj, hp⟩ := spec_l1Pick_eq l hB hl i (by omega) ([97, 66, 32, 228, 1078, 1046, 8470, 167, 8364, 127, 160, 1037] : List Int) (by decide)
    have hw : wrap64 (((n + 1 : Nat) : Int) - 1) = (n : Int) := by rw [wrap64_in (by omega)]; omega
    have hm : rd [97, 66, 32, 228, 1078, 1046, 8470, 167, 8364, 127, 160, 1037] (j : Int) ∈ ([97, 66, 32, 228, 1078, 1046, 8470, 167, 8364, 127, 160, 1037] : List Int) := by
      rw [rd_at _ j hj]
      exact List.getElem_mem hj
    unfold spec_l2Codes.l0
    rw [if_pos (by omega), hp, Option.bind_some, if_pos (by omega), hw]
    simp only
    generalize rd [97, 66, 32, 228, 1078, 1046, 8470, 167, 8364, 127, 160, 1037] (j : Int) = y at hm
    obtain ⟨out, ho, hlen, hb⟩ := spec_l2Codes.l0_eq l hB hl n k (acc ++ [y]) (i + 1) (by omega) (by omega) (by simp; omega) (by
      intro x hx'
      rcases List.mem_append.1 hx' with h' | h'
      · exact hx x h'
      · rw [List.mem_singleton.1 h']; exact hm)
    refine ⟨out, ?_, by simp at hlen; omega, hb⟩
    rw [ho]
    congr 2
    omega
theorem spec_l2Codes_eq (l : List Int) (hB : ∀ x ∈ l, 0 ≤ x ∧ x ≤ 255) (hl : l.length ≤ 1048576) (k : Nat) (i : Int) (hk : 8 ≤ k) (hi : 0 ≤ i ∧ i ≤ 1000000) : ∃ out j, spec_l2Codes.f k l i = some (out, j) ∧ out.length ≤ 5 ∧ (∀ x ∈ out, x ∈ ([97, 66, 32, 228, 1078, 1046, 8470, 167, 8364, 127, 160, 1037] : List Int)) ∧ i ≤ j ∧ j ≤ i + 6 := by
  obtain ⟨v, hv, h0, h1⟩ := spec_l1Next_eq l hB hl i 6 (by omega) (by omega)
  obtain ⟨n, rfl⟩ := Int.eq_ofNat_of_zero_le h0
  obtain ⟨out, ho, hlen, hm⟩ := spec_l2Codes.l0_eq l hB hl n k [] (i + 1) (by omega) (by omega) (by simp; omega) (by simp)
  unfold spec_l2Codes.f
  rw [hv, Option.bind_some]
  exact ⟨out, _, ho, by simp at hlen; omega, hm, by omega, by omega⟩
theorem bytesOf_inj {a b : ByteArray} (h : bytesOf a = bytesOf b) : a = b := by rw [← strOfNums_bytesOf a, h, strOfNums_bytesOf]
theorem pk_eq (x : S69) : pk x = (bytesOf x.f0 ++ (58 :: 32 :: bytesOf x.f1)) ++ [10] := by
  unfold pk pkS
  rw [bytesOf_append, bytesOf_append, bytesOf_append, show bytesOf (⟨#[58, 32]⟩ : ByteArray) = [58, 32] from rfl, show bytesOf (⟨#[10]⟩ : ByteArray) = [10] from rfl]
  simp
theorem lineLen_app : ∀ (l r : List Int), (∀ y ∈ l, y ≠ 10) → lineLen (l ++ 10 :: r) = l.length
  | [], r, _ => by rw [List.nil_append, lineLen_cons, if_pos rfl]; rfl
  | x :: l, r, h => by
    rw [List.cons_append, lineLen_cons, if_neg (h x (by simp)), lineLen_app l r (fun y hy => h y (by simp [hy]))]
    rfl
theorem fst_app : ∀ (l r : List Int), (∀ y ∈ l, y ≠ 58) → fst 58 (l ++ 58 :: r) = some l.length
  | [], r, _ => by show (if (58 : Int) = 58 then some 0 else _) = _; rw [if_pos rfl]; rfl
  | x :: l, r, h => by
    show (if x = 58 then some 0 else (fst 58 (l ++ 58 :: r)).map (· + 1)) = _
    rw [if_neg (h x (by simp)), fst_app l r (fun y hy => h y (by simp [hy]))]
    rfl
theorem nb_ne (y : Int) (h : nbB y = true) : y ≠ 10 ∧ y ≠ 58 ∧ y ≠ 32 ∧ y ≠ 9 := by
  unfold nbB at h
  simp only [Bool.or_eq_true, decide_eq_true_eq, beq_iff_eq] at h
  omega
theorem vb_ne (y : Int) (h : vbB y = true) : y ≠ 10 := by
  unfold vbB at h
  simp only [Bool.and_eq_true, decide_eq_true_eq] at h
  omega
def lnF (x : S69) : List Int := bytesOf x.f0 ++ (58 :: 32 :: bytesOf x.f1)
theorem fld_facts (x : S69) (h : fldB x = true) : (∀ y ∈ bytesOf x.f0, nbB y = true) ∧ 1 ≤ x.f0.size ∧ x.f0.size ≤ 30 ∧ (∀ y ∈ bytesOf x.f1, vbB y = true) ∧ x.f1.size ≤ 120 := by
  unfold fldB nameB valB at h
  simp only [Bool.and_eq_true, decide_eq_true_eq, List.all_eq_true] at h
  exact ⟨h.1.1, h.1.2.1, h.1.2.2, h.2.1, h.2.2⟩
theorem ln_in (x : S69) : ∀ y ∈ lnF x, 0 ≤ y ∧ y ≤ 255 := by
  intro y hy
  unfold lnF at hy
  rcases List.mem_append.1 hy with h | h
  · exact bytesOf_in _ y h
  · rcases List.mem_cons.1 h with rfl | h
    · omega
    · rcases List.mem_cons.1 h with rfl | h
      · omega
      · exact bytesOf_in _ y h
theorem lineF_ln (fs : List S69) (x : S69) (h : fldB x = true) : lineF fs (strOfNums (lnF x)) = some (fs ++ [x]) := by
  obtain ⟨h1, h2, h3, h4, h5⟩ := fld_facts x h
  have hb : bytesOf (strOfNums (lnF x)) = lnF x := bytesOf_strOfNums _ (ln_in x)
  have hl0 : (bytesOf x.f0).length = x.f0.size := bytesOf_length _
  have hl1 : (bytesOf x.f1).length = x.f1.size := bytesOf_length _
  have hsz : (strOfNums (lnF x)).size = x.f0.size + x.f1.size + 2 := by rw [strOfNums_size]; unfold lnF; simp only [List.length_append, List.length_cons]; omega
  have hb0 : bt (strOfNums (lnF x)) 0 ≠ 32 ∧ bt (strOfNums (lnF x)) 0 ≠ 9 := by
    have := bt_strOfNums (lnF x) (ln_in x) 0 (by unfold lnF; simp; omega)
    rw [show ((0 : Nat) : Int) = 0 from rfl] at this
    rw [this]
    have e : (lnF x)[0]'(by unfold lnF; simp; omega) = (bytesOf x.f0)[0]'(by omega) := by
      unfold lnF
      rw [List.getElem_append_left (by omega)]
    rw [e]
    have := nb_ne _ (h1 _ (List.getElem_mem (show 0 < (bytesOf x.f0).length by omega)))
    exact ⟨this.2.2.1, this.2.2.2⟩
  have hf : fst 58 (bytesOf (strOfNums (lnF x))) = some (bytesOf x.f0).length := by
    rw [hb]
    exact fst_app _ _ (fun y hy => (nb_ne y (h1 y hy)).2.1)
  unfold lineF
  rw [if_neg (by omega), hf]
  show some (fs ++ [newF (strOfNums (lnF x)) (bytesOf x.f0).length]) = _
  have e0 : (strOfNums (lnF x)).extract 0 (bytesOf x.f0).length = x.f0 := by
    apply bytesOf_inj
    rw [bytesOf_extract, hb, List.drop_zero]
    unfold lnF
    simp
  have e1 : bytesOf ((strOfNums (lnF x)).extract ((bytesOf x.f0).length + 1) (strOfNums (lnF x)).size) = 32 :: bytesOf x.f1 := by
    rw [bytesOf_extract, hb, List.take_of_length_le (by rw [hsz]; unfold lnF; simp only [List.length_append, List.length_cons]; omega)]
    unfold lnF
    rw [List.drop_append]
    simp
  have e2 : trimV ((strOfNums (lnF x)).extract ((bytesOf x.f0).length + 1) (strOfNums (lnF x)).size) = x.f1 := by
    generalize (strOfNums (lnF x)).extract ((bytesOf x.f0).length + 1) (strOfNums (lnF x)).size = v at e1
    have hv : v.size = x.f1.size + 1 := by
      have := congrArg List.length e1
      rw [bytesOf_length] at this
      simp only [List.length_cons] at this
      omega
    have hv0 : bt v 0 = 32 := by
      rw [← rd_bytesOf, e1]
      rfl
    unfold trimV
    rw [if_pos ⟨by omega, hv0⟩]
    apply bytesOf_inj
    rw [bytesOf_extract, e1, List.take_of_length_le (by simp only [List.length_cons]; omega)]
    rfl
  have : newF (strOfNums (lnF x)) (bytesOf x.f0).length = x := by
    unfold newF
    rw [e0, e2]
  rw [this]
theorem parse_pack (data : List Int) : ∀ (rest : List S69) (n i : Nat) (fs : List S69), data.drop i = rest.flatMap pk ++ [10, 97] → rest.length < n → (∀ x ∈ rest, fldB x = true) → parseF n data i fs = (fs ++ rest, ((data.length - 1 : Nat) : Int), faultF (fs ++ rest) == 0)
  | [], 0, _, _, _, h, _ => absurd h (by simp)
  | [], n + 1, i, fs, hd, _, _ => by
    have hl := congrArg List.length hd
    simp only [List.length_drop, List.flatMap_nil, List.nil_append, List.length_cons, List.length_nil] at hl
    unfold parseF
    have e : lineLen (data.drop i) = 0 := by rw [hd]; rfl
    rw [if_pos (by omega), e, if_pos rfl, List.append_nil, show i + 1 = data.length - 1 by omega]
  | x :: r, 0, _, _, _, h, _ => absurd h (by simp)
  | x :: r, n + 1, i, fs, hd, hn, hf => by
    have hx := hf x (by simp)
    obtain ⟨h1, h2, h3, h4, h5⟩ := fld_facts x hx
    have hd2 : data.drop i = lnF x ++ 10 :: (r.flatMap pk ++ [10, 97]) := by
      rw [hd, List.flatMap_cons, pk_eq]
      unfold lnF
      simp
    have hl := congrArg List.length hd2
    simp only [List.length_drop, List.length_append, List.length_cons, List.length_nil] at hl
    have hln : lineLen (data.drop i) = (lnF x).length := by
      rw [hd2]
      refine lineLen_app _ _ (fun y hy => ?_)
      unfold lnF at hy
      rcases List.mem_append.1 hy with q | q
      · exact (nb_ne y (h1 y q)).1
      · rcases List.mem_cons.1 q with rfl | q
        · decide
        · rcases List.mem_cons.1 q with rfl | q
          · decide
          · exact vb_ne y (h4 y q)
    have hpos : 0 < (lnF x).length := by unfold lnF; simp only [List.length_append, List.length_cons]; omega
    have htk : (data.drop i).take (lnF x).length = lnF x := by rw [hd2]; simp
    unfold parseF
    rw [if_pos (by omega), hln, if_neg (by omega), htk, lineF_ln fs x hx]
    show parseF n data (min (i + (lnF x).length + 1) data.length) (fs ++ [x]) = _
    rw [show min (i + (lnF x).length + 1) data.length = i + ((lnF x).length + 1) by omega]
    have hd3 : data.drop (i + ((lnF x).length + 1)) = r.flatMap pk ++ [10, 97] := by
      rw [← List.drop_drop, hd2, List.drop_append]
      simp
    rw [parse_pack data r n _ _ hd3 (by simp at hn; omega) (fun y hy => hf y (by simp [hy]))]
    simp
theorem packF_in (l : List S69) : ∀ y ∈ packF l, 0 ≤ y ∧ y ≤ 255 := by
  intro y hy
  unfold packF at hy
  rcases List.mem_append.1 hy with h | h
  · obtain ⟨x, _, hx⟩ := List.mem_flatMap.1 h
    exact bytesOf_in _ y hx
  · rw [List.mem_singleton.1 h]; omega
theorem packF_len (l : List S69) (N : Nat) (h : ∀ x ∈ l, x.f0.size ≤ N ∧ x.f1.size ≤ N) : 1 ≤ (packF l).length ∧ (packF l).length ≤ l.length * (2 * N + 3) + 1 := by
  unfold packF
  rw [List.length_append, List.length_singleton]
  refine ⟨by omega, Nat.add_le_add_right ?_ 1⟩
  induction l with
  | nil => simp
  | cons x r ih =>
    have hx := h x (by simp)
    have := ih (fun y hy => h y (by simp [hy]))
    rw [List.flatMap_cons, List.length_append, List.length_cons, Nat.succ_mul]
    have e : (pk x).length = x.f0.size + 2 + x.f1.size + 1 := by unfold pk; rw [bytesOf_length, (pkS_size x).2.2]
    omega
theorem rdB_size (L : List ByteArray) (N : Nat) (h : ∀ x ∈ L, x.size ≤ N) (v : Int) : (rdOf ByteArray.empty L v).size ≤ N := by
  unfold rdOf
  rw [List.getD_eq_getElem?_getD]
  cases e : L[v.toNat]? with
  | none => exact Nat.zero_le _
  | some x => exact h x (List.mem_of_getElem? e)
theorem drawValue_ex (l : List Int) (hB : ∀ x ∈ l, 0 ≤ x ∧ x ≤ 255) (hl : l.length ≤ 1048576) (k : Nat) (hk : 1000 < k) (i : Int) (hi : 0 ≤ i ∧ i ≤ 100000) : ∃ s j, spec_l4DrawValue.f k l i = some (s, j) ∧ s.size ≤ 2000 ∧ i ≤ j ∧ j ≤ i + 8 := by
  obtain ⟨v, hv, h0, h1⟩ := spec_l1Next_eq l hB hl i 5 (by omega) (by omega)
  unfold spec_l4DrawValue.f
  rw [hv, Option.bind_some]
  by_cases c0 : v = 0
  · obtain ⟨c, j, q1, q2, _, q3, q4⟩ := spec_l2Codes_eq l hB hl k (i + 1) (by omega) (by omega)
    obtain ⟨s, d, q5, q6⟩ := spec_l4Encode_ex c k (by omega) (by omega)
    rw [if_pos c0]
    show ∃ s j, (spec_l2Codes.f k l (i + 1)).bind _ = _ ∧ _
    rw [q1, Option.bind_some]
    show ∃ s j, (spec_l4Encode.f k c).bind _ = _ ∧ _
    rw [q5, Option.bind_some]
    exact ⟨s, j, rfl, q6, by omega, by omega⟩
  · rw [if_neg c0]
    obtain ⟨u, hu, u0, u1⟩ := spec_l1Next_eq l hB hl (i + 1) 6 (by omega) (by omega)
    by_cases c1 : v = 1
    · rw [if_pos c1, Option.bind_some]
      show ∃ s j, (spec_l1Next.f l (i + 1) 6).bind _ = _ ∧ _
      rw [hu, Option.bind_some, if_pos (by exact u0), if_pos (by exact u1)]
      exact ⟨_, _, rfl, rdB_size _ 2000 (by decide) u, by show i ≤ i + 1 + 1; omega, by show i + 1 + 1 ≤ i + 8; omega⟩
    · rw [if_neg c1, Option.bind_some]
      show ∃ s j, (spec_l1Next.f l (i + 1) 6).bind _ = _ ∧ _
      rw [hu, Option.bind_some, if_pos (by exact u0), if_pos (by exact u1)]
      exact ⟨_, _, rfl, rdB_size _ 2000 (by decide) u, by show i ≤ i + 1 + 1; omega, by show i + 1 + 1 ≤ i + 8; omega⟩
def f2000 (l : List S69) : Prop := ∀ x ∈ l, x.f0.size ≤ 2000 ∧ x.f1.size ≤ 2000
theorem right_l0 (l : List Int) (hB : ∀ x ∈ l, 0 ≤ x ∧ x ≤ 255) (hl : l.length ≤ 1048576) : ∀ (n k : Nat) (acc : List S69) (i : Int), n + 1000 < k → n ≤ 10 → acc.length + n ≤ 10 → f2000 acc → (0 ≤ i ∧ i + 9 * n ≤ 90000) → ∃ out j, spec_l4Right.l0 k acc (n : Int) l i = some (out, j) ∧ out.length = acc.length + n ∧ f2000 out ∧ i ≤ j ∧ j ≤ i + 9 * n
  | _, 0, _, _, h, _, _, _, _ => absurd h (by omega)
  | 0, k + 1, acc, i, _, _, _, ha, hi => by
    rw [spec_l4Right.l0, if_neg (by omega)]
    exact ⟨acc, i, rfl, by omega, ha, by omega, by omega⟩
  | n + 1, k + 1, acc, i, hk, hn, hal, ha, hi => by
    obtain ⟨u, hu, u0, u1⟩ := spec_l1Next_eq l hB hl i 4 (by omega) (by omega)
    obtain ⟨s, j, q1, q2, q3, q4⟩ := drawValue_ex l hB hl k (by omega) (i + 1) (by omega)
    have w1 : wrap64 (((n + 1 : Nat) : Int) - 1) = (n : Int) := by rw [wrap64_in (by omega)]; omega
    rw [spec_l4Right.l0, if_pos (by omega), Option.bind_some]
    show ∃ out j, (spec_l1Next.f l i 4).bind _ = _ ∧ _
    rw [hu, Option.bind_some, if_pos (by exact u0), if_pos (by exact u1)]
    show ∃ out j, (spec_l4DrawValue.f k l (i + 1)).bind _ = _ ∧ _
    rw [q1, Option.bind_some, if_pos (by omega), w1]
    obtain ⟨out, j2, r1, r2, r3, r4, r5⟩ := right_l0 l hB hl n k (acc ++ [(⟨rdOf ByteArray.empty _ u, s⟩ : S69)]) j (by omega) (by omega) (by simp; omega) (by
      intro x hx
      rcases List.mem_append.1 hx with h | h
      · exact ha x h
      · rw [List.mem_singleton.1 h]
        exact ⟨rdB_size ([(⟨#[83, 117, 98, 106, 101, 99, 116]⟩ : ByteArray), (⟨#[84, 111]⟩ : ByteArray), (⟨#[99, 111, 110, 116, 101, 110, 116, 45, 116, 121, 112, 101]⟩ : ByteArray), (⟨#[88, 45, 49]⟩ : ByteArray)] : List ByteArray) 2000 (by decide) u, q2⟩) (by omega)
    exact ⟨out, j2, r1, by rw [r2]; simp; omega, r3, by omega, by omega⟩
theorem right_ex (l : List Int) (hB : ∀ x ∈ l, 0 ≤ x ∧ x ≤ 255) (hl : l.length ≤ 1048576) (k : Nat) (hk : 2000 < k) (i : Int) (hi : 0 ≤ i ∧ i ≤ 100) : ∃ out j, spec_l4Right.f k l i = some (out, j) ∧ out.length ≤ 3 ∧ f2000 out ∧ i ≤ j ∧ j ≤ i + 40 := by
  obtain ⟨v, hv, h0, h1⟩ := spec_l1Next_eq l hB hl i 4 (by omega) (by omega)
  obtain ⟨n, rfl⟩ := Int.eq_ofNat_of_zero_le h0
  obtain ⟨out, j, r1, r2, r3, r4, r5⟩ := right_l0 l hB hl n k [] (i + 1) (by omega) (by omega) (by simp; omega) (by intro x hx; cases hx) (by omega)
  unfold spec_l4Right.f
  rw [hv, Option.bind_some]
  exact ⟨out, j, r1, by simp at r2; omega, r3, by omega, by omega⟩
theorem bent_ex (l : List Int) (hB : ∀ x ∈ l, 0 ≤ x ∧ x ≤ 255) (hl : l.length ≤ 1048576) (k : Nat) (hk : 2000 < k) : ∃ out j, spec_l4Bent.f k l 0 = some (out, j) ∧ out.length ≤ 9 ∧ f2000 out ∧ 0 ≤ j ∧ j ≤ 60 := by
  obtain ⟨a, j, q1, q2, q3, q4, q5⟩ := right_ex l hB hl k hk 0 (by omega)
  obtain ⟨v, hv, h0, h1⟩ := spec_l1Next_eq l hB hl j 12 (by omega) (by omega)
  unfold spec_l4Bent.f
  rw [q1, Option.bind_some]
  show ∃ out j_1, (spec_l1Next.f l j 12).bind _ = _ ∧ _
  rw [hv, Option.bind_some]
  by_cases c0 : v = 0
  · obtain ⟨u, hu, u0, u1⟩ := spec_l1Next_eq l hB hl (j + 1) 3 (by omega) (by omega)
    obtain ⟨w, hw, w0, w1⟩ := spec_l1Next_eq l hB hl (j + 1 + 1) 3 (by omega) (by omega)
    rw [if_pos c0, Option.bind_some]
    show ∃ out j_1, (spec_l1Next.f l (j + 1) 3).bind _ = _ ∧ _
    rw [hu, Option.bind_some, if_pos (by exact u0), if_pos (by exact u1), Option.bind_some]
    show ∃ out j_1, (spec_l1Next.f l (j + 1 + 1) 3).bind _ = _ ∧ _
    rw [hw, Option.bind_some, if_pos (by exact w0), if_pos (by exact w1), if_pos (show a.length < 4398046511104 by omega)]
    refine ⟨_, _, rfl, by simp; omega, ?_, by show 0 ≤ j + 1 + 1 + 1; omega, by show j + 1 + 1 + 1 ≤ 60; omega⟩
    intro x hx
    rcases List.mem_append.1 hx with h | h
    · exact q3 x h
    · rw [List.mem_singleton.1 h]
      exact ⟨rdB_size _ 2000 (by decide) u, rdB_size _ 2000 (by decide) w⟩
  · rw [if_neg c0]
    by_cases c1 : v = 1
    · rw [if_pos c1, if_pos (by decide)]
      refine ⟨_, _, rfl, by simp, ?_, by show 0 ≤ j + 1; omega, by show j + 1 ≤ 60; omega⟩
      intro x hx
      rw [(List.mem_replicate.1 hx).2]
      exact ⟨by decide, by decide⟩
    · rw [if_neg c1]
      exact ⟨_, _, rfl, by show a.length ≤ 9; omega, q3, by show 0 ≤ j + 1; omega, by show j + 1 ≤ 60; omega⟩
theorem small2000 (l : List S69) (h : f2000 l) (hl : l.length ≤ 1000) : smallF l := ⟨by omega, fun x hx => ⟨by have := (h x hx).1; omega, by have := (h x hx).2; omega⟩⟩
theorem drawPack_ex (l : List Int) (hB : ∀ x ∈ l, 0 ≤ x ∧ x ≤ 255) (hl : l.length ≤ 1048576) (k : Nat) (hk : 2000 < k) : ∃ out, spec_DrawPackHeader.f k l = some out ∧ out.length ≤ 9 ∧ f2000 out := by
  obtain ⟨a, j, q1, q2, q3, _⟩ := bent_ex l hB hl k hk
  unfold spec_DrawPackHeader.f spec_l1Source.f
  rw [Option.bind_some]
  show ∃ out, (spec_l4Bent.f k l 0).bind _ = _ ∧ _
  rw [q1, Option.bind_some]
  exact ⟨a, rfl, q2, q3⟩
theorem drawField_ex (l : List Int) (hB : ∀ x ∈ l, 0 ≤ x ∧ x ≤ 255) (hl : l.length ≤ 1048576) (k : Nat) (hk : 2000 < k) : ∃ out s, spec_DrawFieldOf.f k l = some (out, s) ∧ out.length ≤ 9 ∧ f2000 out ∧ s.size ≤ 2000 := by
  obtain ⟨a, j, q1, q2, q3, q4, q5⟩ := bent_ex l hB hl k hk
  obtain ⟨u, hu, u0, u1⟩ := spec_l1Next_eq l hB hl j 5 (by omega) (by omega)
  unfold spec_DrawFieldOf.f spec_l1Source.f
  rw [Option.bind_some]
  show ∃ out s, (spec_l4Bent.f k l 0).bind _ = _ ∧ _
  rw [q1, Option.bind_some, Option.bind_some]
  show ∃ out s, (spec_l1Next.f l j 5).bind _ = _ ∧ _
  rw [hu, Option.bind_some, if_pos (by exact u0), if_pos (by exact u1)]
  exact ⟨a, _, rfl, q2, q3, rdB_size _ 2000 (by decide) u⟩
theorem drawParse_ex (l : List Int) (hB : ∀ x ∈ l, 0 ≤ x ∧ x ≤ 255) (hl : l.length ≤ 1048576) (k : Nat) (hk : 3000000 < k) : ∃ data, spec_DrawParseHeader.f k l = some data ∧ data.length ≤ 1048576 ∧ ∀ x ∈ data, 0 ≤ x ∧ x ≤ 255 := by
  obtain ⟨a, j, q1, q2, q3, q4, q5⟩ := right_ex l hB hl k (by omega) 0 (by omega)
  have p1 := spec_l4Pack_eq a (small2000 a q3 (by omega)) (by omega) k (by omega)
  have p2 := packF_len a 2000 q3
  have p3 := packF_in a
  have p4 : (packF a).length ≤ 20000 := by
    have : a.length * (2 * 2000 + 3) ≤ 3 * (2 * 2000 + 3) := Nat.mul_le_mul_right _ q2
    omega
  obtain ⟨v, hv, v0, v1⟩ := spec_l1Next_eq l hB hl j 6 (by omega) (by omega)
  obtain ⟨n, rfl⟩ := Int.eq_ofNat_of_zero_le v0
  obtain ⟨o, r1, r2, r3⟩ := spec_l1Some_eq l hB hl n k (j + 1) (by omega) (by omega) (by omega)
  obtain ⟨w, hw, w0, w1⟩ := spec_l1Next_eq l hB hl (j + 1 + 2 * n) 6 (by omega) (by omega)
  unfold spec_DrawParseHeader.f spec_l1Source.f
  rw [Option.bind_some]
  show ∃ data, (spec_l4Right.f k l 0).bind _ = _ ∧ _
  rw [q1, Option.bind_some]
  show ∃ data, (spec_l4Pack.f k a).bind _ = _ ∧ _
  rw [p1, Option.bind_some]
  show ∃ data, (spec_l1Next.f l j 6).bind _ = _ ∧ _
  rw [hv, Option.bind_some]
  show ∃ data, (spec_l1Some.f k l (j + 1) (n : Int)).bind _ = _ ∧ _
  rw [r1, Option.bind_some]
  generalize hP : packF a = P at p2 p3 p4
  rw [if_pos (show P.length + o.length < 140737488355328 by omega), Option.bind_some]
  have hy : ∀ x ∈ P ++ o, 0 ≤ x ∧ x ≤ 255 := by
    intro x hx
    rcases List.mem_append.1 hx with h | h
    · exact p3 x h
    · exact r3 x h
  have hyl : 1 ≤ (P ++ o).length ∧ (P ++ o).length ≤ 30000 := by rw [List.length_append]; omega
  generalize P ++ o = y at hy hyl
  show ∃ data, (spec_l1Next.f l (j + 1 + 2 * n) 6).bind _ = _ ∧ _
  rw [hw, Option.bind_some]
  by_cases c0 : w = 0
  · obtain ⟨u, hu, u0, u1⟩ := spec_l1Next_eq l hB hl (j + 1 + 2 * n + 1) (y.length : Int) (by omega) (by omega)
    obtain ⟨z, hz, hp⟩ := spec_l1Pick_eq l hB hl (j + 1 + 2 * n + 1 + 1) (by omega) ([10, 58, 32, 127, 97] : List Int) (by decide)
    rw [if_pos c0]
    show ∃ data, (spec_l1Next.f l (j + 1 + 2 * n + 1) (y.length : Int)).bind _ = _ ∧ _
    rw [hu, Option.bind_some]
    show ∃ data, (spec_l1Pick.f l (j + 1 + 2 * n + 1 + 1) ([10, 58, 32, 127, 97] : List Int)).bind _ = _ ∧ _
    rw [hp, Option.bind_some, if_pos (by exact u0), if_pos (by exact u1)]
    refine ⟨_, rfl, by rw [List.length_set]; omega, fun x hx => ?_⟩
    rcases List.mem_or_eq_of_mem_set hx with h | rfl
    · exact hy x h
    · show 0 ≤ rd ([10, 58, 32, 127, 97] : List Int) (z : Int) % 256 ∧ rd ([10, 58, 32, 127, 97] : List Int) (z : Int) % 256 ≤ 255
      omega
  · rw [if_neg c0]
    by_cases c1 : w = 1
    · obtain ⟨u, hu, u0, u1⟩ := spec_l1Next_eq l hB hl (j + 1 + 2 * n + 1) (y.length : Int) (by omega) (by omega)
      rw [if_pos c1]
      show ∃ data, (spec_l1Next.f l (j + 1 + 2 * n + 1) (y.length : Int)).bind _ = _ ∧ _
      rw [hu, Option.bind_some, if_pos u0, if_pos (show u ≤ (y.length : Int) by omega)]
      exact ⟨_, rfl, by rw [List.length_take]; omega, fun x hx => hy x (List.mem_of_mem_take hx)⟩
    · rw [if_neg c1]
      by_cases c2 : w = 2
      · obtain ⟨u, hu, u0, u1⟩ := spec_l1Next_eq l hB hl (j + 1 + 2 * n + 1) 4 (by omega) (by omega)
        rw [if_pos c2, Option.bind_some]
        show ∃ data, (spec_l1Next.f l (j + 1 + 2 * n + 1) 4).bind _ = _ ∧ _
        rw [hu, Option.bind_some, if_pos (by exact u0), if_pos (by exact u1)]
        have hs := rdB_size ([(⟨#[32, 120, 10]⟩ : ByteArray), (⟨#[65, 58, 32, 98, 10, 32, 99, 10, 9, 100, 10]⟩ : ByteArray), (⟨#[97, 98, 99, 10]⟩ : ByteArray), (⟨#[10]⟩ : ByteArray)] : List ByteArray) 2000 (by decide) u
        generalize rdOf ByteArray.empty ([(⟨#[32, 120, 10]⟩ : ByteArray), (⟨#[65, 58, 32, 98, 10, 32, 99, 10, 9, 100, 10]⟩ : ByteArray), (⟨#[97, 98, 99, 10]⟩ : ByteArray), (⟨#[10]⟩ : ByteArray)] : List ByteArray) u = s at hs
        have hsl : (bytesOf s).length = s.size := bytesOf_length _
        show ∃ data, (if s.size ≤ 281474976710656 then _ else _) = _ ∧ _
        rw [if_pos (by omega), Option.bind_some, if_pos (by omega)]
        refine ⟨_, rfl, by rw [List.length_append]; omega, fun x hx => ?_⟩
        rcases List.mem_append.1 hx with h | h
        · exact bytesOf_in s x h
        · exact hy x h
      · rw [if_neg c2]
        exact ⟨y, rfl, by omega, hy⟩
theorem ofF_mem (a : ByteArray) : ∀ l : List S69, (∃ x ∈ l, x.f0 = a) → (ofF a l).2 = true
  | [], h => by obtain ⟨x, hx, _⟩ := h; cases hx
  | y :: r, h => by
    rw [ofF]
    by_cases c : (lowS y.f0).toList = (lowS a).toList
    · rw [if_pos c]
    · rw [if_neg c]
      obtain ⟨x, hx, e⟩ := h
      rcases List.mem_cons.1 hx with rfl | hx
      · exact absurd (by rw [e]) c
      · exact ofF_mem a r ⟨x, hx, e⟩
theorem FieldOf_both (l : List S69) (hl : smallF l) (a : ByteArray) (ha : a.size ≤ 1048576) (k : Nat) (hk : l.length + 2097155 < k) : ∃ r, spec_FieldOf.f k l a = some r ∧ impl_FieldOf.f k l a = some r := by
  unfold spec_FieldOf.f impl_FieldOf.f
  rw [spec_l4Fault_eq l hl k hk, impl_FieldsFault_eq l hl k hk, spec_l4Of_eq l hl a ha k (by omega), impl_fieldOf_eq l hl a ha k (by omega)]
  simp only [Option.bind_some]
  split
  · split
    · exact ⟨_, rfl, rfl⟩
    · exact ⟨_, rfl, rfl⟩
  · exact ⟨_, rfl, rfl⟩
theorem FieldOf_found (l : List S69) (hl : smallF l) (hf : faultF l = 0) (x : S69) (hx : x ∈ l) (k : Nat) (hk : l.length + 2097155 < k) : ∃ s, impl_FieldOf.f k l x.f0 = some (0, s) := by
  unfold impl_FieldOf.f
  rw [impl_FieldsFault_eq l hl k hk, hf, Option.bind_some, if_pos rfl, impl_fieldOf_eq l hl x.f0 (hl.2 x hx).1 k (by omega), Option.bind_some, if_pos (ofF_mem x.f0 l ⟨x, hx, rfl⟩)]
  exact ⟨_, rfl⟩
theorem final_ok (l : List Int) (hB : ∀ x ∈ l, 0 ≤ x ∧ x ≤ 255) (hl : l.length ≤ 1048576) (k : Nat) (hk : 2098000 < k) (F : List S69) (i : Int) (c : Int) (p : List Int) (hp : 1 ≤ p.length) (d e : Int) (g : List S69) : laws_FnHeaders.j3 (k + 1) l F i false c p d e g = some true := by
  obtain ⟨o, s, q1, q2, q3, q4⟩ := drawField_ex l hB hl k (by omega)
  obtain ⟨r, e1, e2⟩ := FieldOf_both o (small2000 o q3 (by omega)) s (by omega) k (by omega)
  rw [laws_FnHeaders.j3, if_neg (by decide), q1, Option.bind_some]
  show ((impl_FieldOf.f k o s).bind _) = _
  rw [e2, Option.bind_some]
  show ((spec_FieldOf.f k o s).bind _) = _
  rw [e1, Option.bind_some, if_pos rfl, Option.bind_some, if_pos rfl, decide_eq_true (by omega)]
theorem loop_ok (l : List Int) (hB : ∀ x ∈ l, 0 ≤ x ∧ x ≤ 255) (hl : l.length ≤ 1048576) (F : List S69) (hF : smallF F) (hf : faultF F = 0) (p : List Int) (hp : 1 ≤ p.length) (hp4 : p.length < 400) (c d e : Int) : ∀ (n k i : Nat), F.length = i + n → 2 * n + 4000000 < k → laws_FnHeaders.l0 k l F (i : Int) c p d e F = some true
  | n, 0, _, _, h => absurd h (by omega)
  | 0, k + 1, i, hi, hk => by
    obtain ⟨k, rfl⟩ : ∃ q, k = q + 1 := ⟨k - 1, by omega⟩
    rw [laws_FnHeaders.l0, if_neg (by omega)]
    exact final_ok l hB hl k (by omega) F _ c p hp d e F
  | n + 1, k + 1, i, hi, hk => by
    obtain ⟨k, rfl⟩ : ∃ q, k = q + 1 := ⟨k - 1, by omega⟩
    have hlt : i < F.length := by omega
    have h8 := (fault8 F hf).1
    obtain ⟨s, hs⟩ := FieldOf_found F hF hf F[i] (List.getElem_mem hlt) k (by omega)
    rw [laws_FnHeaders.l0, if_pos (by omega), decide_eq_true (show (p.length : Int) < 400 by omega), laws_FnHeaders.j3, if_pos rfl, if_pos (by omega), if_pos (by omega), if_pos (by omega), rd_fld F i hlt, beq_self_eq_true, beq_self_eq_true, if_neg (by decide), hs, Option.bind_some, if_pos rfl, wrap_succ i (by omega)]
    exact loop_ok l hB hl F hF hf p hp hp4 c d e n k (i + 1) (by omega) (by omega)
theorem j1_false (l : List Int) (hB : ∀ x ∈ l, 0 ≤ x ∧ x ≤ 255) (hl : l.length ≤ 1048576) (k : Nat) (hk : 4000100 < k) (F : List S69) (c : Int) (p : List Int) (hp : 1 ≤ p.length) (hp4 : ¬ p.length < 400) (d e : Int) (g : List S69) : laws_FnHeaders.j1 k l F false c p d e g = some true := by
  obtain ⟨k, rfl⟩ : ∃ q, k = q + 3 := ⟨k - 3, by omega⟩
  rw [laws_FnHeaders.j1, if_neg (by decide), laws_FnHeaders.l0, decide_eq_false (show ¬ (p.length : Int) < 400 by omega)]
  split
  · exact final_ok l hB hl k (by omega) F _ c p hp d e g
  · exact final_ok l hB hl k (by omega) F _ c p hp d e g
theorem flat_ge : ∀ l : List S69, l.length ≤ (l.flatMap pk).length
  | [] => by simp
  | x :: r => by
    have := flat_ge r
    have e : (pk x).length = x.f0.size + 2 + x.f1.size + 1 := by unfold pk; rw [bytesOf_length, (pkS_size x).2.2]
    rw [List.flatMap_cons, List.length_append, List.length_cons]
    omega
theorem parse_back (F : List S69) (hf : faultF F = 0) (h4 : (packF F).length ≤ 400) (k : Nat) (hk : 8388900 < k) : impl_ParseHeader.f k (packF F ++ [97]) = if (packF F).length < 400 then some (0, ((packF F).length : Int), F) else some (2, 0, []) := by
  have hpi := packF_in F
  have hdl : (packF F ++ [97]).length = (packF F).length + 1 := by simp
  have hdB : ∀ x ∈ packF F ++ [97], 0 ≤ x ∧ x ≤ 255 := by
    intro x hx
    rcases List.mem_append.1 hx with h | h
    · exact hpi x h
    · rw [List.mem_singleton.1 h]; omega
  obtain ⟨_, hp⟩ := parse_both0 (packF F ++ [97]) (by omega) hdB k (by omega)
  have h8 := fault8 F hf
  have hge : F.length ≤ (packF F).length := by
    have := flat_ge F
    unfold packF
    rw [List.length_append]
    omega
  have hpp := parse_pack (packF F ++ [97]) F ((packF F ++ [97]).length + 1) 0 [] (by unfold packF; simp) (by omega) h8.2
  rw [List.nil_append, hf] at hpp
  unfold impl_ParseHeader.f
  by_cases c : (packF F).length < 400
  · rw [if_neg (by omega), hp, hpp, if_pos c, Option.bind_some, hdl, Nat.add_sub_cancel]
    rfl
  · rw [if_pos (by omega), if_neg c]
theorem j0_ok (l : List Int) (hB : ∀ x ∈ l, 0 ≤ x ∧ x ≤ 255) (hl : l.length ≤ 1048576) (k : Nat) (hk : 8388900 < k) : laws_FnHeaders.j0 (k + 1) l false = some true := by
  obtain ⟨F, q1, q2, q3⟩ := drawPack_ex l hB hl k (by omega)
  have hF := small2000 F q3 (by omega)
  have e1 := impl_PackHeader_eq F hF k (by omega)
  have e2 := spec_PackHeader_eq F hF k (by omega)
  rw [laws_FnHeaders.j0, if_neg (by decide), q1, Option.bind_some, e1, Option.bind_some, e2]
  unfold packo
  by_cases hf : faultF F = 0
  · by_cases c4 : 400 < (packF F).length
    · rw [if_pos hf, if_pos c4]; rfl
    · have hp1 := (packF_len F 2000 q3).1
      have hpb := parse_back F hf (by omega) k hk
      rw [if_pos hf, if_neg c4]
      generalize packF F = P at hp1 hpb c4
      simp only [if_true, Option.bind_some, List.nil_append, List.length_nil, Nat.zero_add]
      rw [if_pos (by omega), if_pos (by omega), hpb]
      by_cases c5 : P.length < 400
      · have c6 : (P.length : Int) < 400 := by omega
        simp only [if_pos c5, Option.bind_some, if_pos c6, if_true, bne_self_eq_false]
        obtain ⟨k, rfl⟩ : ∃ q, k = q + 1 := ⟨k - 1, by omega⟩
        rw [laws_FnHeaders.j1, if_neg (by decide)]
        exact loop_ok l hB hl F hF hf P hp1 c5 0 0 _ F.length k 0 (by omega) (by omega)
      · have c6 : ¬ (P.length : Int) < 400 := by omega
        simp only [if_neg c5, Option.bind_some, if_neg c6]
        exact j1_false l hB hl k (by omega) F 0 P hp1 c5 2 0 []
  · rw [if_neg hf, if_neg hf]
    show some (faultF F == faultF F) = _
    rw [beq_self_eq_true]
theorem parseF_at (data : List Int) : ∀ (n i : Nat) (fs : List S69), i ≤ data.length → 0 ≤ (parseF n data i fs).2.1 ∧ (parseF n data i fs).2.1 ≤ (data.length : Int) ∧ ((parseF n data i fs).2.2 = true → faultF (parseF n data i fs).1 = 0)
  | 0, i, fs, _ => by simp [parseF]
  | n + 1, i, fs, hi => by
    have hle := lineLen_le (data.drop i)
    unfold parseF
    by_cases c : i < data.length
    · rw [if_pos c]
      by_cases h0 : lineLen (data.drop i) = 0
      · rw [if_pos h0]
        exact ⟨by show (0 : Int) ≤ ((i + 1 : Nat) : Int); omega, by show ((i + 1 : Nat) : Int) ≤ _; omega, fun h => by simpa using h⟩
      · rw [if_neg h0]
        cases lineF fs (strOfNums ((data.drop i).take (lineLen (data.drop i)))) with
        | none => simp
        | some f => exact parseF_at data n (min (i + lineLen (data.drop i) + 1) data.length) f (by omega)
    · rw [if_neg c]
      exact ⟨by show (0 : Int) ≤ (i : Int); omega, by show (i : Int) ≤ _; omega, fun h => by simpa using h⟩
theorem FnHeaders : laws_FnHeaders.Pure := by
  intro l hm _ hw
  have hB := byte_wf hw
  obtain ⟨k, hk⟩ : ∃ k, 9000000 < k := ⟨_, Nat.lt_succ_self _⟩
  refine ⟨k + 1, ?_⟩
  unfold laws_FnHeaders.f laws_lwBig.f
  rw [Option.bind_some]
  by_cases hl : (l.length : Int) > 1048576
  · rw [decide_eq_true hl, if_pos rfl]
  · rw [decide_eq_false hl, if_neg (by decide)]
    obtain ⟨data, q1, q2, q3⟩ := drawParse_ex l hB (by omega) (k + 1) (by omega)
    have hj := j0_ok l hB (by omega) k (by omega)
    rw [q1, Option.bind_some]
    unfold spec_ParseHeader.f impl_ParseHeader.f
    by_cases c : (data.length : Int) > 400
    · rw [if_pos c, if_pos c]
      simp only [Option.bind_some, if_true]
      rw [if_neg (by omega), if_neg (by omega), if_neg (by omega)]
      exact hj
    · have hok := parseF_ok data q2 (data.length + 1) 0 [] (Nat.zero_le _) ⟨Nat.zero_le _, by simp⟩
      obtain ⟨h1, h2⟩ := parse_both0 data q2 q3 (k + 1) (by omega)
      have ha := parseF_at data (data.length + 1) 0 [] (Nat.zero_le _)
      rw [if_neg c, if_neg c, h1, h2]
      generalize parseF (data.length + 1) data 0 [] = o at hok ha
      simp only [Option.bind_some]
      by_cases h : o.2.2 = true
      · have hf := ha.2.2 h
        have e := impl_FieldsFault_eq o.1 (fldsOk_small o.1 _ hok (Nat.le_refl _)) (k + 1) (by have := hok.1; omega)
        rw [hf] at e
        simp only [if_pos h, Option.bind_some, if_true]
        rw [if_neg (by omega), if_neg (by omega), e, Option.bind_some]
        exact hj
      · simp only [if_neg h, Option.bind_some, if_true]
        rw [if_neg (by omega), if_neg (by omega), if_neg (by omega)]
        exact hj
end Go.Proofs.Ytjopgmjmjnfcjaa.Pure
