/- Part of the proof; words that it uses. -/
import Derived.Test.YtecpanfndodjgaaDoorPPartAtx10
namespace Go.Proofs.YtecpanfndodjgaaDoor.Pure
open Go.RowKit Go.Proofs.YtecpanfndodjgaaDoor.PPartAt Go.Proofs.YtecpanfndodjgaaDoorW.PrintWords Go.Proofs.YtecpanfndodjgaaDoorW.PrintLast
set_option linter.unusedSimpArgs false
set_option linter.unusedVariables false
theorem rd_at (l : List Int) (i : Nat) (h : i < l.length) : rd l (i : Int) = l[i] := by
  simp [rd, List.getD_eq_getElem?_getD, h]
theorem wrap64_in {n : Int} (h : -9223372036854775808 ≤ n ∧ n ≤ 9223372036854775807) : wrap64 n = n := by
  unfold wrap64; omega
theorem maxLen_le : maxLen ≤ 9223372036854775807 := by unfold maxLen; decide
theorem bt_range (s : ByteArray) (i : Int) : 0 ≤ bt s i ∧ bt s i ≤ 255 := by
  unfold bt
  split
  · rename_i h
    have := UInt8.toNat_lt (s[i.toNat]'h)
    omega
  · omega
theorem strOfNums_size (l : List Int) : (strOfNums l).size = l.length := by
  show (strOfNums l).data.size = _
  simp [strOfNums]
theorem bytesOf_strOfNums (l : List Int) (h : ∀ x ∈ l, 0 ≤ x ∧ x ≤ 255) : bytesOf (strOfNums l) = l := by
  unfold bytesOf strOfNums
  simp only [List.map_map]
  conv => rhs; rw [← List.map_id l]
  apply List.map_congr_left
  intro x hx
  have := h x hx
  simp only [Function.comp, id]
  rw [UInt8.toNat_ofNat_of_lt' (by show x.toNat < 256; omega)]
  omega
theorem strOfNums_bytesOf (s : ByteArray) : strOfNums (bytesOf s) = s := by
  unfold bytesOf strOfNums
  rw [List.map_map]
  have h : (s.data.toList.map ((fun n : Int => UInt8.ofNat n.toNat) ∘ fun b : UInt8 => (b.toNat : Int))) = s.data.toList := by
    conv => rhs; rw [← List.map_id s.data.toList]
    apply List.map_congr_left
    intro x _
    simp
  rw [h]
theorem bytesOf_in (s : ByteArray) : ∀ x ∈ bytesOf s, 0 ≤ x ∧ x ≤ 255 := by
  intro x hx
  obtain ⟨b, _, rfl⟩ := List.mem_map.1 hx
  have := UInt8.toNat_lt b
  omega
def fst (c : Int) : List Int → Option Nat
  | [] => none
  | x :: xs => if x = c then some 0 else (fst c xs).map (· + 1)
theorem fst_lt (c : Int) : ∀ (l : List Int) (i : Nat), fst c l = some i → i < l.length
  | [], i, h => by cases h
  | x :: xs, i, h => by
    unfold fst at h
    by_cases hx : x = c
    · rw [if_pos hx] at h; cases h; simp
    · rw [if_neg hx] at h
      obtain ⟨j, hj, rfl⟩ := Option.map_eq_some_iff.1 h
      have := fst_lt c xs j hj
      simp only [List.length_cons]
      omega
theorem u8_eq (x c : Int) (hx : 0 ≤ x ∧ x ≤ 255) (hc : 0 ≤ c ∧ c ≤ 255) : (UInt8.ofNat x.toNat == c.toNat.toUInt8) = decide (x = c) := by
  rw [Bool.eq_iff_iff, beq_iff_eq, decide_eq_true_eq]
  constructor
  · intro h
    have h2 := congrArg UInt8.toNat h
    rw [UInt8.toNat_ofNat_of_lt' (by show x.toNat < 256; omega)] at h2
    rw [show c.toNat.toUInt8.toNat = c.toNat from UInt8.toNat_ofNat_of_lt' (by show c.toNat < 256; omega)] at h2
    omega
  · intro h
    subst h
    rfl
theorem indexByte_fst (c : Int) (hc : 0 ≤ c ∧ c ≤ 255) : ∀ l : List Int, (∀ x ∈ l, 0 ≤ x ∧ x ≤ 255) → Lib.indexByte (Lib.bytesOf l) c.toNat.toUInt8 = match fst c l with | none => -1 | some i => (i : Int)
  | [], _ => rfl
  | x :: xs, h => by
    have ih := indexByte_fst c hc xs (fun y hy => h y (by simp [hy]))
    show (if UInt8.ofNat x.toNat == c.toNat.toUInt8 then 0 else if Lib.indexByte (Lib.bytesOf xs) c.toNat.toUInt8 == -1 then -1 else Lib.indexByte (Lib.bytesOf xs) c.toNat.toUInt8 + 1) = _
    rw [u8_eq x c (h x (by simp)) hc, ih, show fst c (x :: xs) = if x = c then some 0 else (fst c xs).map (· + 1) from rfl]
    by_cases hx : x = c
    · rw [decide_eq_true hx, if_pos rfl, if_pos hx]; rfl
    · rw [decide_eq_false hx, if_neg (by decide), if_neg hx]
      cases fst c xs with
      | none => rfl
      | some i =>
        show (if (((i : Int) == -1) = true) then -1 else (i : Int) + 1) = ((i + 1 : Nat) : Int)
        have : ((i : Int) == -1) = false := by rw [beq_eq_false_iff_ne]; omega
        rw [this, if_neg (by decide)]
        omega
theorem data_bytesOf (s : ByteArray) : s.data.toList = Lib.bytesOf (bytesOf s) := by
  unfold Lib.bytesOf bytesOf
  rw [List.map_map]
  conv => lhs; rw [← List.map_id s.data.toList]
  apply List.map_congr_left
  intro x _
  simp
theorem toList_nil (s : ByteArray) : s.toList = [] ↔ s.size = 0 := by
  rw [Go.ByteArray.toList_eq]
  constructor
  · intro h
    have := congrArg List.length h
    rw [Array.length_toList] at this
    exact this
  · intro h
    apply List.eq_nil_of_length_eq_zero
    rw [Array.length_toList]
    exact h
theorem bytesOf_extract (s : ByteArray) (i j : Nat) : bytesOf (s.extract i j) = ((bytesOf s).take j).drop i := by
  unfold bytesOf
  rw [ByteArray.data_extract, Array.toList_extract]
  unfold List.extract
  rw [List.map_take, List.map_drop, List.drop_take]
theorem in_eq (a b c : Int) : spec_l1In.f a b c = some (decide (b ≤ a ∧ a ≤ c)) := by
  unfold spec_l1In.f; by_cases h : a ≥ b <;> simp [h] <;> omega
def nbB (c : Int) : Bool := decide (97 ≤ c ∧ c ≤ 122) || decide (65 ≤ c ∧ c ≤ 90) || decide (48 ≤ c ∧ c ≤ 57) || c == 45
def vbB (c : Int) : Bool := decide (32 ≤ c) && c != 127
def nameB (s : ByteArray) : Bool := (bytesOf s).all nbB && decide (1 ≤ s.size ∧ s.size ≤ 30)
def valB (s : ByteArray) : Bool := (bytesOf s).all vbB && decide (s.size ≤ 120)
theorem vb_lt (c : Int) (h : c < 32) : vbB c = false := by unfold vbB; rw [decide_eq_false (show ¬ 32 ≤ c by omega), Bool.false_and]
theorem vb_127 : vbB 127 = false := rfl
theorem vb_ok (c : Int) (h : ¬ c < 32) (h2 : ¬ c = 127) : vbB c = true := by unfold vbB; rw [decide_eq_true (show 32 ≤ c by omega), bne_iff_ne.mpr h2]; rfl
theorem spec_l4NameByte_eq (c : Int) : spec_l4NameByte.f c = some (nbB c) := by
  unfold spec_l4NameByte.f nbB
  by_cases h1 : c ≥ 97 <;> by_cases h2 : c ≤ 122 <;> by_cases h3 : c ≥ 65 <;> by_cases h4 : c ≤ 90 <;> by_cases h5 : c ≥ 48 <;> by_cases h6 : c ≤ 57 <;> simp [h1, h2, h3, h4, h5, h6]
theorem drop_bt (s : ByteArray) (i : Nat) (h : i < s.size) : (bytesOf s).drop i = bt s (i : Int) :: (bytesOf s).drop (i + 1) := by
  have hl : i < (bytesOf s).length := by rw [bytesOf_length]; exact h
  rw [List.drop_eq_getElem_cons hl, ← rd_bytesOf, rd_at _ i hl]
theorem drop_end (s : ByteArray) (i : Nat) (h : ¬ i < s.size) : (bytesOf s).drop i = [] := List.drop_eq_nil_of_le (by rw [bytesOf_length]; omega)
theorem wrap_succ (i : Nat) (h : i ≤ 4611686018427387904) : wrap64 ((i : Int) + 1) = ((i + 1 : Nat) : Int) := by rw [wrap64_in (by omega)]; omega
theorem spec_l4Name.l0_eq (s : ByteArray) (hs : s.size ≤ 1048576) : ∀ (n k i : Nat), s.size = i + n → n < k → spec_l4Name.l0 k s (i : Int) = some (((bytesOf s).drop i).all nbB && decide (1 ≤ s.size ∧ s.size ≤ 30))
  | _, 0, _, _, h => absurd h (by omega)
  | 0, k + 1, i, hi, _ => by
    have h1 : ¬ ((i : Int) < (s.size : Int)) := by omega
    rw [spec_l4Name.l0, if_neg h1, in_eq, drop_end s i (by omega)]
    simp only [Option.bind_some, List.all_nil, Bool.true_and]
    congr 1
    rw [decide_eq_decide]
    omega
  | n + 1, k + 1, i, hi, h => by
    have h1 : (i : Int) < (s.size : Int) := by omega
    have h2 : (0 : Int) ≤ (i : Int) := by omega
    rw [spec_l4Name.l0, if_pos h1, if_pos h2, spec_l4NameByte_eq, Option.bind_some, wrap_succ i (by omega), spec_l4Name.l0_eq s hs n k (i + 1) (by omega) (by omega), drop_bt s i (by omega), List.all_cons]
    cases nbB (bt s (i : Int)) with
    | true => rw [if_pos rfl, Bool.true_and]
    | false => rw [if_neg (by decide), Bool.false_and, Bool.false_and]
theorem spec_l4Name_eq (s : ByteArray) (k : Nat) (hs : s.size ≤ 1048576) (hk : s.size < k) : spec_l4Name.f k s = some (nameB s) := by
  have := spec_l4Name.l0_eq s hs s.size k 0 (by omega) hk
  unfold spec_l4Name.f nameB
  simpa using this
theorem spec_l4Value.l0_eq (s : ByteArray) (hs : s.size ≤ 1048576) : ∀ (n k i : Nat), s.size = i + n → n < k → spec_l4Value.l0 k s (i : Int) = some (((bytesOf s).drop i).all vbB && decide (s.size ≤ 120))
  | _, 0, _, _, h => absurd h (by omega)
  | 0, k + 1, i, hi, _ => by
    have h1 : ¬ ((i : Int) < (s.size : Int)) := by omega
    rw [spec_l4Value.l0, if_neg h1, drop_end s i (by omega)]
    simp only [List.all_nil, Bool.true_and]
    congr 1
    rw [decide_eq_decide]
    omega
  | n + 1, k + 1, i, hi, h => by
    have h1 : (i : Int) < (s.size : Int) := by omega
    have h2 : (0 : Int) ≤ (i : Int) := by omega
    rw [spec_l4Value.l0, if_pos h1, if_pos h2, wrap_succ i (by omega), spec_l4Value.l0_eq s hs n k (i + 1) (by omega) (by omega), drop_bt s i (by omega), List.all_cons]
    generalize bt s (i : Int) = c
    by_cases g1 : c < 32
    · rw [if_pos g1, vb_lt c g1, Bool.false_and, Bool.false_and]
    · rw [if_neg g1]
      by_cases g2 : c = 127
      · rw [if_pos g2, g2, vb_127, Bool.false_and, Bool.false_and]
      · rw [if_neg g2, vb_ok c g1 g2, Bool.true_and]
theorem spec_l4Value_eq (s : ByteArray) (k : Nat) (hs : s.size ≤ 1048576) (hk : s.size < k) : spec_l4Value.f k s = some (valB s) := by
  have := spec_l4Value.l0_eq s hs s.size k 0 (by omega) hk
  unfold spec_l4Value.f valB
  simpa using this
theorem impl_letter_eq (c : Int) : impl_isLetter.f c = some (decide (97 ≤ c ∧ c ≤ 122) || decide (65 ≤ c ∧ c ≤ 90)) := by
  unfold impl_isLetter.f
  by_cases h1 : c ≥ 97 <;> by_cases h2 : c ≤ 122 <;> by_cases h3 : c ≥ 65 <;> by_cases h4 : c ≤ 90 <;> simp [h1, h2, h3, h4]
theorem impl_digit_eq (c : Int) : impl_isDigit.f c = some (decide (48 ≤ c ∧ c ≤ 57)) := by
  unfold impl_isDigit.f
  by_cases h1 : c ≥ 48 <;> by_cases h2 : c ≤ 57 <;> simp [h1, h2]
theorem impl_isField.l1_eq (a s : ByteArray) (hs : s.size ≤ 1048576) : ∀ (n k i : Nat), s.size = i + n → n < k → impl_isField.l1 k (s.size : Int) (i : Int) a s = some (((bytesOf s).drop i).all vbB && (decide (1 ≤ a.size ∧ a.size ≤ 30) && decide (s.size ≤ 120)))
  | _, 0, _, _, h => absurd h (by omega)
  | 0, k + 1, i, hi, _ => by
    have h1 : ¬ ((i : Int) < (s.size : Int)) := by omega
    rw [impl_isField.l1, if_neg h1, drop_end s i (by omega)]
    simp only [List.all_nil, Bool.true_and]
    by_cases g1 : (a.size : Int) ≥ 1
    · rw [if_pos g1]
      by_cases g2 : (a.size : Int) ≤ 30
      · rw [if_pos g2, decide_eq_true (show 1 ≤ a.size ∧ a.size ≤ 30 by omega), Bool.true_and]
        congr 1
        rw [decide_eq_decide]
        omega
      · rw [if_neg g2, decide_eq_false (show ¬ (1 ≤ a.size ∧ a.size ≤ 30) by omega), Bool.false_and]
    · rw [if_neg g1, decide_eq_false (show ¬ (1 ≤ a.size ∧ a.size ≤ 30) by omega), Bool.false_and]
  | n + 1, k + 1, i, hi, h => by
    have h1 : (i : Int) < (s.size : Int) := by omega
    have h2 : (0 : Int) ≤ (i : Int) := by omega
    rw [impl_isField.l1, if_pos h1, if_pos h2, if_pos h1, wrap_succ i (by omega), impl_isField.l1_eq a s hs n k (i + 1) (by omega) (by omega), drop_bt s i (by omega), List.all_cons]
    generalize bt s (i : Int) = c
    by_cases g1 : c < 32
    · rw [if_pos g1, vb_lt c g1, Bool.false_and, Bool.false_and]
    · rw [if_neg g1]
      by_cases g2 : c = 127
      · rw [if_pos g2, g2, vb_127, Bool.false_and, Bool.false_and]
      · rw [if_neg g2, vb_ok c g1 g2, Bool.true_and]
theorem impl_isField.l0_eq (a s : ByteArray) (ha : a.size ≤ 1048576) (hs : s.size ≤ 1048576) : ∀ (n k i : Nat), a.size = i + n → n + s.size + 1 < k → impl_isField.l0 k (a.size : Int) (i : Int) a s = some (((bytesOf a).drop i).all nbB && ((bytesOf s).all vbB && (decide (1 ≤ a.size ∧ a.size ≤ 30) && decide (s.size ≤ 120))))
  | _, 0, _, _, h => absurd h (by omega)
  | 0, k + 1, i, hi, h => by
    have h1 : ¬ ((i : Int) < (a.size : Int)) := by omega
    have := impl_isField.l1_eq a s hs s.size k 0 (by omega) (by omega)
    rw [List.drop_zero] at this
    rw [impl_isField.l0, if_neg h1, drop_end a i (by omega)]
    simp only [List.all_nil, Bool.true_and]
    exact this
  | n + 1, k + 1, i, hi, h => by
    have h1 : (i : Int) < (a.size : Int) := by omega
    have h2 : (0 : Int) ≤ (i : Int) := by omega
    rw [impl_isField.l0, if_pos h1, if_pos h2, if_pos h1, wrap_succ i (by omega), impl_isField.l0_eq a s ha hs n k (i + 1) (by omega) (by omega), drop_bt a i (by omega), List.all_cons, impl_letter_eq, Option.bind_some, impl_digit_eq, Option.bind_some]
    generalize bt a (i : Int) = c
    unfold nbB
    cases (decide (97 ≤ c ∧ c ≤ 122) || decide (65 ≤ c ∧ c ≤ 90)) with
    | true => rw [if_pos rfl, Bool.true_or, Bool.true_or, Bool.true_and]
    | false =>
      rw [if_neg (by decide), Bool.false_or]
      cases decide (48 ≤ c ∧ c ≤ 57) with
      | true => rw [if_pos rfl, Bool.true_or, Bool.true_and]
      | false =>
        rw [if_neg (by decide), Bool.false_or]
        by_cases g : c = 45
        · rw [if_pos g, g, beq_self_eq_true, Bool.true_and]
        · rw [if_neg g, beq_eq_false_iff_ne.mpr g, Bool.false_and, Bool.false_and]
theorem impl_isField_eq (a s : ByteArray) (k : Nat) (ha : a.size ≤ 1048576) (hs : s.size ≤ 1048576) (hk : a.size + s.size + 1 < k) : impl_isField.f k a s = some (nameB a && valB s) := by
  have := impl_isField.l0_eq a s ha hs a.size k 0 (by omega) hk
  unfold impl_isField.f nameB valB
  rw [List.drop_zero] at this
  rw [show (0 : Int) = ((0 : Nat) : Int) from rfl, this]
  cases (bytesOf a).all nbB <;> cases (bytesOf s).all vbB <;> cases decide (1 ≤ a.size ∧ a.size ≤ 30) <;> rfl
def fldB (x : S151) : Bool := nameB x.f0 && valB x.f1
def faultF (l : List S151) : Int := if 8 < l.length then 2 else if l.all fldB = true then 0 else 5
theorem rd_fld (l : List S151) (i : Nat) (h : i < l.length) : rd_T151 l (i : Int) = l[i] := by
  unfold rd_T151
  rw [Int.toNat_natCast, List.getD_eq_getElem?_getD, List.getElem?_eq_getElem h]
  rfl
def smallF (l : List S151) : Prop := l.length ≤ 1048576 ∧ ∀ x ∈ l, x.f0.size ≤ 1048576 ∧ x.f1.size ≤ 1048576
theorem spec_l4Fault.l0_eq (l : List S151) (hl : smallF l) : ∀ (n k i : Nat), l.length = i + n → n + 2097155 < k → spec_l4Fault.l0 k l (i : Int) = some (if (l.drop i).all fldB = true then 0 else 5)
  | _, 0, _, _, h => absurd h (by omega)
  | 0, k + 1, i, hi, _ => by
    have h1 : ¬ ((i : Int) < (l.length : Int)) := by omega
    rw [spec_l4Fault.l0, if_neg h1, List.drop_eq_nil_of_le (by omega)]
    rfl
  | n + 1, k + 1, i, hi, h => by
    have hlt : i < l.length := by omega
    have hb := hl.1
    have h1 : (i : Int) < (l.length : Int) := by omega
    have h2 : (0 : Int) ≤ (i : Int) := by omega
    obtain ⟨z0, z1⟩ := hl.2 l[i] (List.getElem_mem hlt)
    rw [spec_l4Fault.l0, if_pos h1, if_pos h2, wrap_succ i (by omega), spec_l4Fault.l0_eq l hl n k (i + 1) (by omega) (by omega), rd_fld l i hlt, spec_l4Name_eq _ k z0 (by omega), Option.bind_some, spec_l4Value_eq _ k z1 (by omega), Option.bind_some, List.drop_eq_getElem_cons hlt, List.all_cons]
    unfold fldB
    cases nameB l[i].f0 with
    | true =>
      rw [if_pos rfl, Bool.true_and]
      cases valB l[i].f1 with
      | true => rw [if_pos rfl, Bool.true_and]
      | false => rw [if_neg (by decide), Bool.false_and]; rfl
    | false => rw [if_neg (by decide), Bool.false_and, Bool.false_and]; rfl
theorem spec_l4Fault_eq (l : List S151) (hl : smallF l) (k : Nat) (hk : l.length + 2097155 < k) : spec_l4Fault.f k l = some (faultF l) := by
  unfold spec_l4Fault.f faultF
  by_cases h : 8 < l.length
  · rw [if_pos (by omega), if_pos h]
  · have := spec_l4Fault.l0_eq l hl l.length k 0 (by omega) hk
    rw [List.drop_zero] at this
    rw [if_neg (by omega), if_neg h]
    exact this
theorem impl_FieldsFault.l0_eq (l : List S151) (hl : smallF l) : ∀ (n k i : Nat), l.length = i + n → n + 2097155 < k → impl_FieldsFault.l0 k l (l.length : Int) (i : Int) = some (if (l.drop i).all fldB = true then 0 else 5)
  | _, 0, _, _, h => absurd h (by omega)
  | 0, k + 1, i, hi, _ => by
    have h1 : ¬ ((i : Int) < (l.length : Int)) := by omega
    rw [impl_FieldsFault.l0, if_neg h1, List.drop_eq_nil_of_le (by omega)]
    rfl
  | n + 1, k + 1, i, hi, h => by
    have hlt : i < l.length := by omega
    have hb := hl.1
    have h1 : (i : Int) < (l.length : Int) := by omega
    have h2 : (0 : Int) ≤ (i : Int) := by omega
    obtain ⟨z0, z1⟩ := hl.2 l[i] (List.getElem_mem hlt)
    rw [impl_FieldsFault.l0, if_pos h1, if_pos h2, if_pos h1, wrap_succ i (by omega), impl_FieldsFault.l0_eq l hl n k (i + 1) (by omega) (by omega), rd_fld l i hlt, impl_isField_eq _ _ k z0 z1 (by omega), Option.bind_some, List.drop_eq_getElem_cons hlt, List.all_cons]
    show (if fldB l[i] = true then _ else _) = _
    cases fldB l[i] with
    | true => rw [if_pos rfl, Bool.true_and]
    | false => rw [if_neg (by decide), Bool.false_and]; rfl
theorem impl_FieldsFault_eq (l : List S151) (hl : smallF l) (k : Nat) (hk : l.length + 2097155 < k) : impl_FieldsFault.f k l = some (faultF l) := by
  unfold impl_FieldsFault.f faultF
  by_cases h : 8 < l.length
  · rw [if_pos (by omega), if_pos h]
  · have := impl_FieldsFault.l0_eq l hl l.length k 0 (by omega) hk
    rw [List.drop_zero] at this
    rw [if_neg (by omega), if_neg h]
    exact this
def lineLen (l : List Int) : Nat := (fst 10 l).getD l.length
theorem lineLen_le (l : List Int) : lineLen l ≤ l.length := by
  unfold lineLen
  cases h : fst 10 l with
  | none => exact Nat.le_refl _
  | some i => exact Nat.le_of_lt (fst_lt 10 l i h)
theorem lineLen_cons (x : Int) (xs : List Int) : lineLen (x :: xs) = if x = 10 then 0 else lineLen xs + 1 := by
  unfold lineLen
  rw [show fst 10 (x :: xs) = if x = 10 then some 0 else (fst 10 xs).map (· + 1) from rfl]
  by_cases h : x = 10
  · rw [if_pos h, if_pos h]; rfl
  · rw [if_neg h, if_neg h]
    cases fst 10 xs <;> rfl
theorem spec_l4End.l0_eq (data : List Int) (hd : data.length ≤ 1048576) : ∀ (n k i : Nat), data.length = i + n → n < k → spec_l4End.l0 k data (i : Int) = some ((i + lineLen (data.drop i) : Nat) : Int)
  | _, 0, _, _, h => absurd h (by omega)
  | 0, k + 1, i, hi, _ => by
    have h1 : ¬ ((i : Int) < (data.length : Int)) := by omega
    rw [spec_l4End.l0, if_neg h1, List.drop_eq_nil_of_le (by omega)]
    rfl
  | n + 1, k + 1, i, hi, h => by
    have hlt : i < data.length := by omega
    have h1 : (i : Int) < (data.length : Int) := by omega
    have h2 : (0 : Int) ≤ (i : Int) := by omega
    rw [spec_l4End.l0, if_pos h1, if_pos h2, rd_at data i hlt, wrap_succ i (by omega), spec_l4End.l0_eq data hd n k (i + 1) (by omega) (by omega), List.drop_eq_getElem_cons hlt, lineLen_cons]
    by_cases c : data[i] = 10
    · rw [if_pos c, if_pos c]; rfl
    · rw [if_neg c, if_neg c]
      congr 2
      omega
theorem spec_l4End_eq (data : List Int) (hd : data.length ≤ 1048576) (k i : Nat) (hi : i ≤ data.length) (hk : data.length < k) : spec_l4End.f k data (i : Int) = some ((i + lineLen (data.drop i) : Nat) : Int) := by
  unfold spec_l4End.f
  exact spec_l4End.l0_eq data hd (data.length - i) k i (by omega) (by omega)
def trimV (v : ByteArray) : ByteArray := if 0 < v.size ∧ bt v 0 = 32 then v.extract 1 v.size else v
def newF (s : ByteArray) (c : Nat) : S151 := ⟨s.extract 0 c, trimV (s.extract (c + 1) s.size)⟩
def lastF (fs : List S151) (s : ByteArray) : List S151 := fs.set (fs.length - 1) ⟨(fs.getD (fs.length - 1) z151).f0, (fs.getD (fs.length - 1) z151).f1 ++ s⟩
def lineF (fs : List S151) (s : ByteArray) : Option (List S151) :=
  if bt s 0 = 32 ∨ bt s 0 = 9 then (if fs.length = 0 then none else some (lastF fs s)) else match fst 58 (bytesOf s) with | none => none | some c => some (fs ++ [newF s c])
theorem app_one (fs : List S151) (w : S151) (hf : fs.length ≤ 1048576) (a b : Int) (hab : a ≤ b) : ((some (([] : List (S151)) : List (S151))).bind fun y116 => (if y116.length + fs.length < 4398046511104 then ((some (y116 ++ fs : List (S151))).bind fun y119 => (if a ≤ b then ((some (([w] : List (S151)) : List (S151))).bind fun y122 => (if y119.length + y122.length < 4398046511104 then (some ((y119 ++ y122), true)) else (none))) else (none))) else (none))) = some (fs ++ [w], true) := by
  rw [Option.bind_some, if_pos (by simp; omega), Option.bind_some, if_pos hab, Option.bind_some, if_pos (by simp; omega)]
  rfl
theorem spec_l4Line.l0_eq (fs : List S151) (s : ByteArray) (hs : s.size ≤ 1048576) (hf : fs.length ≤ 1048576) : ∀ (n k i : Nat), s.size = i + n → n < k → spec_l4Line.l0 k fs s (i : Int) = some (match fst 58 ((bytesOf s).drop i) with | none => ([], false) | some c => (fs ++ [newF s (i + c)], true))
  | _, 0, _, _, h => absurd h (by omega)
  | 0, k + 1, i, hi, _ => by
    have h1 : ¬ ((i : Int) < (s.size : Int)) := by omega
    rw [spec_l4Line.l0, if_neg h1, drop_end s i (by omega)]
    rfl
  | n + 1, k + 1, i, hi, h => by
    have hlt : i < s.size := by omega
    have h1 : (i : Int) < (s.size : Int) := by omega
    have h2 : (0 : Int) ≤ (i : Int) := by omega
    have h3 : (0 : Int) ≤ ((i + 1 : Nat) : Int) := by omega
    have h4 : ((i + 1 : Nat) : Int) ≤ (s.size : Int) := by omega
    rw [spec_l4Line.l0, if_pos h1, if_pos h2, wrap_succ i (by omega), drop_bt s i hlt, show fst 58 (bt s (i : Int) :: (bytesOf s).drop (i + 1)) = if bt s (i : Int) = 58 then some 0 else (fst 58 ((bytesOf s).drop (i + 1))).map (· + 1) from rfl]
    by_cases c : bt s (i : Int) = 58
    · rw [if_pos c, if_pos c, if_pos h3, if_pos h4, Int.toNat_natCast, Int.toNat_natCast]
      show _ = some (fs ++ [newF s i], true)
      unfold newF
      have hz := toList_nil (s.extract (i + 1) s.size)
      generalize s.extract (i + 1) s.size = v at hz
      by_cases g1 : v.toList = []
      · rw [if_pos g1, app_one fs _ hf _ _ (by omega)]
        have : trimV v = v := by unfold trimV; rw [if_neg (by have := hz.1 g1; omega)]
        rw [this]
      · have hp : 0 < v.size := by
          rcases Nat.eq_zero_or_pos v.size with h0 | h0
          · exact absurd (hz.2 h0) g1
          · exact h0
        rw [if_neg g1, if_pos (by omega)]
        by_cases g2 : bt v 0 = 32
        · rw [if_pos g2, if_pos (by omega), app_one fs _ hf _ _ (by omega)]
          have : trimV v = v.extract 1 v.size := by unfold trimV; rw [if_pos ⟨hp, g2⟩]
          rw [this]
        · rw [if_neg g2, app_one fs _ hf _ _ (by omega)]
          have : trimV v = v := by unfold trimV; rw [if_neg (fun e => g2 e.2)]
          rw [this]
    · rw [if_neg c, if_neg c, spec_l4Line.l0_eq fs s hs hf n k (i + 1) (by omega) (by omega)]
      cases fst 58 ((bytesOf s).drop (i + 1)) with
      | none => rfl
      | some q =>
        show some (fs ++ [newF s (i + 1 + q)], true) = some (fs ++ [newF s (i + (q + 1))], true)
        rw [show i + 1 + q = i + (q + 1) by omega]
theorem spec_l4Line_eq (fs : List S151) (s : ByteArray) (hs : s.size ≤ 1048576) (hp : 0 < s.size) (hf : fs.length ≤ 1048576) (hv : ∀ x ∈ fs, x.f1.size ≤ 1048576) (k : Nat) (hk : s.size + 1 < k) : spec_l4Line.f k fs s = some (match lineF fs s with | none => ([], false) | some f => (f, true)) := by
  obtain ⟨k, rfl⟩ : ∃ m, k = m + 1 := ⟨k - 1, by omega⟩
  have key : ∀ b : Bool, spec_l4Line.j0 (k + 1) fs s (fs.length : Int) b = some (match (if b = true then (if fs.length = 0 then none else some (lastF fs s)) else match fst 58 (bytesOf s) with | none => none | some c => some (fs ++ [newF s c])) with | none => ([], false) | some f => (f, true)) := by
    intro b
    cases b with
    | true =>
      rw [spec_l4Line.j0, if_pos rfl, if_pos rfl]
      by_cases h0 : fs.length = 0
      · rw [if_pos (by omega), if_pos h0]
      · have w1 : wrap64 ((fs.length : Int) - 1) = ((fs.length - 1 : Nat) : Int) := by rw [wrap64_in (by omega)]; omega
        have hm : (fs.getD (fs.length - 1) z151).f1.size ≤ 1048576 := by
          rw [List.getD_eq_getElem?_getD, List.getElem?_eq_getElem (by omega)]
          exact hv _ (List.getElem_mem _)
        rw [if_neg (by omega), if_neg h0, Option.bind_some, if_pos (by simp; omega), Option.bind_some, w1, List.nil_append, if_pos (by omega), if_pos (by omega)]
        unfold rd_T151
        rw [Int.toNat_natCast, if_pos (by omega)]
        rfl
    | false =>
      have := spec_l4Line.l0_eq fs s hs hf s.size k 0 (by omega) (by omega)
      rw [List.drop_zero] at this
      rw [spec_l4Line.j0, if_neg (by decide), if_neg (by decide)]
      refine Eq.trans this ?_
      cases fst 58 (bytesOf s) with
      | none => rfl
      | some c =>
        show some (fs ++ [newF s (0 + c)], true) = _
        rw [Nat.zero_add]
  unfold spec_l4Line.f lineF
  rw [if_pos (by omega)]
  by_cases c1 : bt s 0 = 32
  · rw [if_pos c1, if_pos (Or.inl c1), key true, if_pos rfl]
  · rw [if_neg c1]
    by_cases c2 : bt s 0 = 9
    · rw [if_pos (Or.inr c2), c2, beq_self_eq_true, key true, if_pos rfl]
    · rw [if_neg (by omega : ¬ (bt s 0 = 32 ∨ bt s 0 = 9)), beq_eq_false_iff_ne.mpr c2, key false, if_neg (by decide)]
def fldsOk (fs : List S151) (n : Nat) : Prop := fs.length ≤ n ∧ ∀ x ∈ fs, x.f0.size ≤ n ∧ x.f1.size ≤ n
theorem fldsOk_small (fs : List S151) (n : Nat) (h : fldsOk fs n) (hn : n ≤ 1048576) : smallF fs :=
  ⟨Nat.le_trans h.1 hn, fun x hx => ⟨Nat.le_trans (h.2 x hx).1 hn, Nat.le_trans (h.2 x hx).2 hn⟩⟩
theorem fldsOk_mono (fs : List S151) (n m : Nat) (h : fldsOk fs n) (hn : n ≤ m) : fldsOk fs m :=
  ⟨Nat.le_trans h.1 hn, fun x hx => ⟨Nat.le_trans (h.2 x hx).1 hn, Nat.le_trans (h.2 x hx).2 hn⟩⟩
theorem trimV_size (v : ByteArray) : (trimV v).size ≤ v.size := by
  unfold trimV
  split
  · rw [ByteArray.size_extract]; omega
  · exact Nat.le_refl _
theorem lineF_ok (fs f : List S151) (s : ByteArray) (n : Nat) (h : fldsOk fs n) (hp : 0 < s.size) (he : lineF fs s = some f) : fldsOk f (n + s.size) := by
  unfold lineF at he
  by_cases c : bt s 0 = 32 ∨ bt s 0 = 9
  · rw [if_pos c] at he
    by_cases h0 : fs.length = 0
    · rw [if_pos h0] at he; cases he
    · rw [if_neg h0] at he
      cases he
      have hm := h.2 (fs.getD (fs.length - 1) z151) (by rw [List.getD_eq_getElem?_getD, List.getElem?_eq_getElem (by omega)]; exact List.getElem_mem _)
      unfold lastF
      refine ⟨by rw [List.length_set]; have := h.1; omega, fun x hx => ?_⟩
      rcases List.mem_or_eq_of_mem_set hx with hx | rfl
      · have := h.2 x hx; omega
      · refine ⟨by simp only; omega, ?_⟩
        simp only
        rw [ByteArray.size_append]
        omega
  · rw [if_neg c] at he
    cases hf : fst 58 (bytesOf s) with
    | none => rw [hf] at he; cases he
    | some q =>
      rw [hf] at he
      cases he
      refine ⟨by rw [List.length_append, List.length_singleton]; have := h.1; omega, fun x hx => ?_⟩
      rcases List.mem_append.1 hx with hx | hx
      · have := h.2 x hx; omega
      · rw [List.mem_singleton.1 hx]
        unfold newF
        have h1 := trimV_size (s.extract (q + 1) s.size)
        have h2 : (s.extract 0 q).size ≤ s.size := by rw [ByteArray.size_extract]; omega
        have h3 : (s.extract (q + 1) s.size).size ≤ s.size := by rw [ByteArray.size_extract]; omega
        exact ⟨by simp only; omega, by simp only; omega⟩
def parseF : Nat → List Int → Nat → List S151 → List S151 × Int × Bool
  | 0, _, _, _ => ([], 0, false)
  | n + 1, data, i, fs => if i < data.length then (if lineLen (data.drop i) = 0 then (fs, ((i + 1 : Nat) : Int), faultF fs == 0) else match lineF fs (strOfNums ((data.drop i).take (lineLen (data.drop i)))) with
      | none => ([], 0, false)
      | some f => parseF n data (min (i + lineLen (data.drop i) + 1) data.length) f)
    else (fs, (i : Int), faultF fs == 0)
theorem cut_eq (s : ByteArray) (hs : s.size ≤ 1048576) : strings_Cut.f s (⟨#[58]⟩ : ByteArray) = some (match fst 58 (bytesOf s) with | none => (s, (⟨#[]⟩ : ByteArray), false) | some c => (s.extract 0 c, s.extract (c + 1) s.size, true)) := by
  have hi : stringslite_Index.f s (⟨#[58]⟩ : ByteArray) = some (match fst 58 (bytesOf s) with | none => -1 | some i => (i : Int)) := by
    unfold stringslite_Index.f
    rw [if_pos (show (⟨#[58]⟩ : ByteArray).size = 1 from rfl), data_bytesOf, ← indexByte_fst 58 (by omega) (bytesOf s) (bytesOf_in s)]
    rfl
  unfold strings_Cut.f stringslite_Cut.f
  rw [hi]
  cases hf : fst 58 (bytesOf s) with
  | none => rfl
  | some c =>
    have hlt := fst_lt 58 _ c hf
    rw [bytesOf_length] at hlt
    have w1 : wrap64 ((c : Int) + ((⟨#[58]⟩ : ByteArray).size : Int)) = ((c + 1 : Nat) : Int) := wrap_succ c (by omega)
    simp only [Option.bind_some, w1]
    rw [if_pos (by omega), if_pos (by omega), if_pos (by omega), if_pos (by omega), if_pos (by omega)]
    rfl
theorem trim_eq (v : ByteArray) (hv : v.size ≤ 1048576) : strings_TrimPrefix.f v (⟨#[32]⟩ : ByteArray) = some (trimV v) := by
  have h1 : ((⟨#[32]⟩ : ByteArray).size : Int) = 1 := rfl
  unfold strings_TrimPrefix.f stringslite_TrimPrefix.f stringslite_HasPrefix.f trimV
  rw [h1]
  by_cases c : 0 < v.size
  · have hh : ((v.extract 0 ((1 : Int) : Int).toNat).toList == (⟨#[32]⟩ : ByteArray).toList) = decide (bt v 0 = 32) := by
      rw [Go.ByteArray.toList_eq, Go.ByteArray.toList_eq, Bool.eq_iff_iff, beq_iff_eq, decide_eq_true_eq]
      have hb := bytesOf_extract v 0 1
      have hd := drop_bt v 0 c
      rw [List.drop_zero] at hd
      rw [hd] at hb
      have he : bytesOf (v.extract 0 1) = [bt v ((0 : Nat) : Int)] := hb
      rw [show ((1 : Int)).toNat = 1 from rfl, data_bytesOf, he]
      show [UInt8.ofNat (bt v 0).toNat] = [32] ↔ _
      have hr := bt_range v 0
      constructor
      · intro h
        injection h with h
        have := u8_eq (bt v 0) 32 hr (by omega)
        rw [show (32 : Int).toNat.toUInt8 = (32 : UInt8) from rfl, h] at this
        exact of_decide_eq_true this.symm
      · intro h
        rw [h]
        rfl
    rw [if_pos (show (v.size : Int) ≥ 1 by omega), if_pos (show (0 : Int) ≤ 1 by omega), if_pos (show (1 : Int) ≤ (v.size : Int) by omega), hh, Option.bind_some]
    by_cases g : bt v 0 = 32
    · rw [if_pos (decide_eq_true g), if_pos (show (0 : Int) ≤ 1 by omega), if_pos (show (1 : Int) ≤ (v.size : Int) by omega), if_pos (show 0 < v.size ∧ bt v 0 = 32 from ⟨c, g⟩)]
      rfl
    · rw [if_neg (show ¬ (decide (bt v 0 = 32) = true) by simpa using g), if_neg (show ¬ (0 < v.size ∧ bt v 0 = 32) from fun e => g e.2)]
      rfl
  · rw [if_neg (show ¬ ((v.size : Int) ≥ 1) by omega), if_neg (show ¬ (0 < v.size ∧ bt v 0 = 32) from fun e => c e.1)]
    rfl
theorem blank_eq (b : Int) : impl_isBlank.f b = some (b == 32 || b == 9) := by
  unfold impl_isBlank.f
  by_cases h1 : b = 32 <;> by_cases h2 : b = 9 <;> simp_all
theorem impl_parseHeader.j1_eq (data : List Int) (hd : data.length ≤ 1048576) (fs : List S151) (i m : Nat) (x8 : Int) (him : i + m ≤ data.length) (hf : fldsOk fs 1048576) (k : Nat) (hk : fs.length + 2097155 < k) :
    impl_parseHeader.j1 (k + 1) data fs (i : Int) (m : Int) x8 = if m = 0 then some (fs, x8, faultF fs == 0) else match lineF fs (strOfNums ((data.drop i).take m)) with | none => some ([], 0, false) | some f => impl_parseHeader.l0 k data f x8 := by
  have w1 : wrap64 ((i : Int) + (m : Int)) = ((i + m : Nat) : Int) := by rw [wrap64_in (by omega)]; omega
  have hcut : (data.take (i + m)).drop i = (data.drop i).take m := by rw [List.drop_take, Nat.add_sub_cancel_left]
  have hlen : ((data.drop i).take m).length = m := by rw [List.length_take, List.length_drop]; omega
  rw [impl_parseHeader.j1, w1, Int.toNat_natCast, Int.toNat_natCast, hcut, if_pos (by omega), if_pos (by omega), if_pos (by omega)]
  have hsz := strOfNums_size ((data.drop i).take m)
  have hz := toList_nil (strOfNums ((data.drop i).take m))
  rw [hlen] at hsz
  generalize strOfNums ((data.drop i).take m) = s at hsz hz
  by_cases h0 : m = 0
  · rw [if_pos (hz.2 (by omega)), if_pos h0, impl_FieldsFault_eq fs (fldsOk_small fs _ hf (Nat.le_refl _)) k hk]
    rfl
  · have hne : ¬ s.toList = [] := fun e => h0 (by have := hz.1 e; omega)
    rw [if_neg hne, if_neg h0, if_pos (by omega), blank_eq, Option.bind_some]
    unfold lineF
    by_cases c : bt s 0 = 32 ∨ bt s 0 = 9
    · have hb : (bt s 0 == 32 || bt s 0 == 9) = true := by simpa using c
      rw [if_pos c, if_pos hb]
      by_cases g : fs.length = 0
      · rw [if_pos (by omega), if_pos g]
      · have w2 : wrap64 ((fs.length : Int) - 1) = ((fs.length - 1 : Nat) : Int) := by have := hf.1; rw [wrap64_in (by omega)]; omega
        have hm : (fs.getD (fs.length - 1) z151).f1.size ≤ 1048576 := by
          rw [List.getD_eq_getElem?_getD, List.getElem?_eq_getElem (by omega)]
          exact (hf.2 _ (List.getElem_mem _)).2
        rw [if_neg (by omega), if_neg g, w2, if_pos (by omega), if_pos (by omega)]
        unfold rd_T151
        rw [Int.toNat_natCast, if_pos (by omega)]
        rfl
    · have hb : ¬ (bt s 0 == 32 || bt s 0 == 9) = true := by simpa using c
      rw [if_neg c, if_neg hb, cut_eq s (by omega), Option.bind_some]
      cases fst 58 (bytesOf s) with
      | none => rfl
      | some q =>
        have hv : (s.extract (q + 1) s.size).size ≤ 1048576 := by rw [ByteArray.size_extract]; omega
        show (if true = true then ((strings_TrimPrefix.f (s.extract (q + 1) s.size) (⟨#[32]⟩ : ByteArray)).bind fun t200 => (if fs.length < 4398046511104 then (impl_parseHeader.l0 k data (fs ++ [(⟨s.extract 0 q, t200⟩ : S151)]) x8) else (none))) else _) = impl_parseHeader.l0 k data (fs ++ [newF s q]) x8
        rw [if_pos rfl, trim_eq _ hv, Option.bind_some, if_pos (by have := hf.1; omega)]
        rfl
theorem spec_l4Parse.step (data : List Int) (hd : data.length ≤ 1048576) (fs : List S151) (i : Nat) (hi : i < data.length) (hf : fldsOk fs 1048576) (k : Nat) (hk : fs.length + 2097155 + data.length < k) :
    spec_l4Parse.l0 (k + 1) data fs (i : Int) = if lineLen (data.drop i) = 0 then some (fs, ((i + 1 : Nat) : Int), faultF fs == 0) else match lineF fs (strOfNums ((data.drop i).take (lineLen (data.drop i)))) with | none => some ([], 0, false) | some f => spec_l4Parse.l0 k data f ((min (i + lineLen (data.drop i) + 1) data.length : Nat) : Int) := by
  have hle := lineLen_le (data.drop i)
  rw [List.length_drop] at hle
  have hcut : (data.take (i + lineLen (data.drop i))).drop i = (data.drop i).take (lineLen (data.drop i)) := by rw [List.drop_take, Nat.add_sub_cancel_left]
  have hlen : ((data.drop i).take (lineLen (data.drop i))).length = lineLen (data.drop i) := by rw [List.length_take, List.length_drop]; omega
  conv => lhs; unfold spec_l4Parse.l0
  rw [if_pos (by omega), spec_l4End_eq data hd k i (by omega) (by omega), Option.bind_some]
  generalize lineLen (data.drop i) = m at hle hcut hlen
  by_cases h0 : m = 0
  · subst h0
    rw [if_pos (show ((i + 0 : Nat) : Int) = (i : Int) by omega), if_pos rfl, spec_l4Fault_eq fs (fldsOk_small fs _ hf (Nat.le_refl _)) k (by omega), Option.bind_some, wrap_succ i (by omega)]
  · rw [if_neg (by omega), if_neg h0, if_pos (by omega), if_pos (by omega), if_pos (by omega), Int.toNat_natCast, Int.toNat_natCast, hcut]
    have hsz := strOfNums_size ((data.drop i).take m)
    rw [hlen] at hsz
    generalize strOfNums ((data.drop i).take m) = s at hsz
    rw [spec_l4Line_eq fs s (by omega) (by omega) hf.1 (fun x hx => (hf.2 x hx).2) k (by omega), Option.bind_some]
    cases lineF fs s with
    | none => rfl
    | some f =>
      show (if true = true then _ else _) = _
      rw [if_pos rfl]
      by_cases g : i + m < data.length
      · rw [if_pos (by omega), wrap_succ (i + m) (by omega), show min (i + m + 1) data.length = i + m + 1 by omega]
      · rw [if_neg (by omega), show min (i + m + 1) data.length = i + m by omega]
theorem impl_parseHeader.step (data : List Int) (hd : data.length ≤ 1048576) (hB : ∀ x ∈ data, 0 ≤ x ∧ x ≤ 255) (fs : List S151) (i : Nat) (hi : i < data.length) (hf : fldsOk fs 1048576) (k : Nat) (hk : fs.length + 2097155 < k) :
    impl_parseHeader.l0 (k + 2) data fs (i : Int) = if lineLen (data.drop i) = 0 then some (fs, ((i + 1 : Nat) : Int), faultF fs == 0) else match lineF fs (strOfNums ((data.drop i).take (lineLen (data.drop i)))) with | none => some ([], 0, false) | some f => impl_parseHeader.l0 k data f ((min (i + lineLen (data.drop i) + 1) data.length : Nat) : Int) := by
  have hdB : ∀ x ∈ data.drop i, 0 ≤ x ∧ x ≤ 255 := fun x hx => hB x (List.mem_of_mem_drop hx)
  have hdl : (data.drop i).length = data.length - i := List.length_drop
  have hx : bytes_IndexByte.f (data.drop i) 10 = some (match fst 10 (data.drop i) with | none => -1 | some j => (j : Int)) := by
    unfold bytes_IndexByte.f
    rw [if_pos (by omega), indexByte_fst 10 (by omega) _ hdB]
  conv => lhs; unfold impl_parseHeader.l0
  rw [if_pos (by omega), if_pos (by omega), if_pos (by omega), Int.toNat_natCast, hx, Option.bind_some]
  cases hf10 : fst 10 (data.drop i) with
  | none =>
    have hm : lineLen (data.drop i) = data.length - i := by unfold lineLen; rw [hf10]; exact hdl
    have w1 : wrap64 ((data.length : Int) - (i : Int)) = ((data.length - i : Nat) : Int) := by rw [wrap64_in (by omega)]; omega
    show (if (-1 : Int) < 0 then _ else _) = _
    rw [if_pos (by decide), w1, impl_parseHeader.j1_eq data hd fs i (data.length - i) _ (by omega) hf k hk, hm, if_neg (by omega), if_neg (by omega), show min (i + (data.length - i) + 1) data.length = data.length by omega]
  | some m =>
    have hlt := fst_lt 10 _ m hf10
    have hm : lineLen (data.drop i) = m := by unfold lineLen; rw [hf10]; rfl
    have w1 : wrap64 ((i : Int) + (m : Int)) = ((i + m : Nat) : Int) := by rw [wrap64_in (by omega)]; omega
    show (if (m : Int) < 0 then _ else _) = _
    rw [if_neg (by omega), w1, wrap_succ (i + m) (by omega), impl_parseHeader.j1_eq data hd fs i m _ (by omega) hf k hk, hm, show min (i + m + 1) data.length = i + m + 1 by omega]
    by_cases h0 : m = 0
    · simp only [if_pos h0]; rw [h0]
    · simp only [if_neg h0]
theorem parse_both (data : List Int) (hd : data.length ≤ 1048576) (hB : ∀ x ∈ data, 0 ≤ x ∧ x ≤ 255) : ∀ (n k k2 i : Nat) (fs : List S151), data.length < i + n → i ≤ data.length → fldsOk fs i → 4194400 + n < k → 4194400 + 2 * n < k2 → spec_l4Parse.l0 k data fs (i : Int) = some (parseF n data i fs) ∧ impl_parseHeader.l0 k2 data fs (i : Int) = some (parseF n data i fs)
  | 0, _, _, _, _, h, h2, _, _, _ => absurd h (by omega)
  | n + 1, k, k2, i, fs, h, h2, hf, hk, hk2 => by
    obtain ⟨k, rfl⟩ : ∃ m, k = m + 1 := ⟨k - 1, by omega⟩
    obtain ⟨k2, rfl⟩ : ∃ m, k2 = m + 2 := ⟨k2 - 2, by omega⟩
    have hf2 := fldsOk_mono fs i 1048576 hf (by omega)
    have hfl := hf.1
    unfold parseF
    by_cases hi : i < data.length
    · rw [spec_l4Parse.step data hd fs i hi hf2 k (by omega), impl_parseHeader.step data hd hB fs i hi hf2 k2 (by omega), if_pos hi]
      have hle := lineLen_le (data.drop i)
      rw [List.length_drop] at hle
      have hlen : ((data.drop i).take (lineLen (data.drop i))).length = lineLen (data.drop i) := by rw [List.length_take, List.length_drop]; omega
      have hsz := strOfNums_size ((data.drop i).take (lineLen (data.drop i)))
      rw [hlen] at hsz
      generalize lineLen (data.drop i) = m at hle hlen hsz
      by_cases h0 : m = 0
      · simp only [if_pos h0]; exact ⟨trivial, trivial⟩
      · simp only [if_neg h0]
        generalize strOfNums ((data.drop i).take m) = s at hsz
        cases hl : lineF fs s with
        | none => exact ⟨rfl, rfl⟩
        | some f =>
          have hok := lineF_ok fs f s i hf (by omega) hl
          exact parse_both data hd hB n k k2 (min (i + m + 1) data.length) f (by omega) (by omega) (fldsOk_mono f _ _ hok (by omega)) (by omega) (by omega)
    · obtain ⟨k2, rfl⟩ : ∃ m, k2 = m + 1 := ⟨k2 - 1, by omega⟩
      have hI : ¬ ((i : Int) < (data.length : Int)) := by omega
      rw [spec_l4Parse.l0, impl_parseHeader.l0, if_neg hI, if_neg hI, if_neg hi, spec_l4Fault_eq fs (fldsOk_small fs _ hf2 (Nat.le_refl _)) k (by omega), impl_FieldsFault_eq fs (fldsOk_small fs _ hf2 (Nat.le_refl _)) (k2 + 1 + 1) (by omega)]
      exact ⟨rfl, rfl⟩
theorem parse_both0 (data : List Int) (hd : data.length ≤ 1048576) (hB : ∀ x ∈ data, 0 ≤ x ∧ x ≤ 255) (k : Nat) (hk : 8388800 < k) : spec_l4Parse.f k data = some (parseF (data.length + 1) data 0 []) ∧ impl_parseHeader.f k data = some (parseF (data.length + 1) data 0 []) := by
  unfold spec_l4Parse.f impl_parseHeader.f
  exact parse_both data hd hB (data.length + 1) k k 0 [] (by omega) (by omega) ⟨Nat.zero_le _, by simp⟩ (by omega) (by omega)
theorem parseF_ok (data : List Int) (hd : data.length ≤ 1048576) : ∀ (n i : Nat) (fs : List S151), i ≤ data.length → fldsOk fs i → fldsOk (parseF n data i fs).1 1048576
  | 0, _, _, _, _ => ⟨Nat.zero_le _, by simp [parseF]⟩
  | n + 1, i, fs, hi, hf => by
    have hf2 := fldsOk_mono fs i 1048576 hf (by omega)
    unfold parseF
    by_cases c : i < data.length
    · rw [if_pos c]
      have hle := lineLen_le (data.drop i)
      rw [List.length_drop] at hle
      have hlen : ((data.drop i).take (lineLen (data.drop i))).length = lineLen (data.drop i) := by rw [List.length_take, List.length_drop]; omega
      have hsz := strOfNums_size ((data.drop i).take (lineLen (data.drop i)))
      rw [hlen] at hsz
      generalize lineLen (data.drop i) = m at hle hlen hsz
      by_cases h0 : m = 0
      · rw [if_pos h0]; exact hf2
      · rw [if_neg h0]
        generalize strOfNums ((data.drop i).take m) = s at hsz
        cases hl : lineF fs s with
        | none => exact ⟨Nat.zero_le _, by simp⟩
        | some f =>
          have hok := lineF_ok fs f s i hf (by omega) hl
          exact parseF_ok data hd n (min (i + m + 1) data.length) f (by omega) (fldsOk_mono f _ _ hok (by omega))
    · rw [if_neg c]; exact hf2
def low (b : Int) : Int := if 65 ≤ b ∧ b ≤ 90 then (b + 32) % 256 else b
theorem low_step (L : List Int) (i : Nat) (h : i < L.length) : ((L.take i).map low ++ L.drop i).set i (low L[i]) = (L.take (i + 1)).map low ++ L.drop (i + 1) := by
  rw [List.set_append_right _ _ (by simp; omega)]
  have h5 : i - ((L.take i).map low).length = 0 := by simp; omega
  rw [h5, List.drop_eq_getElem_cons h, List.set_cons_zero, List.take_succ_eq_append_getElem h, List.map_append, List.append_assoc]
  rfl
theorem low_rd (L : List Int) (i : Nat) (h : i < L.length) : rd ((L.take i).map low ++ L.drop i) (i : Int) = L[i] := by
  rw [rd_at _ i (by simp; omega), List.getElem_append_right (by simp; omega)]
  simp only [List.getElem_drop]
  congr 1
  simp; omega
theorem low_same (L : List Int) (i : Nat) (h : i < L.length) (hl : low L[i] = L[i]) : (L.take i).map low ++ L.drop i = (L.take (i + 1)).map low ++ L.drop (i + 1) := by
  rw [← low_step L i h, hl, List.set_append_right _ _ (by simp; omega)]
  have h5 : i - ((L.take i).map low).length = 0 := by simp; omega
  rw [h5, List.drop_eq_getElem_cons h, List.set_cons_zero]
theorem low_len (L : List Int) (i : Nat) : ((L.take i).map low ++ L.drop i).length = L.length := by simp; omega
theorem spec_l2Lower.l0_eq (L : List Int) (hb : L.length ≤ maxLen) : ∀ (n k i : Nat), L.length = i + n → n < k → spec_l2Lower.l0 k ((L.take i).map low ++ L.drop i) (i : Int) = some (strOfNums (L.map low))
  | 0, 0, _, _, h => absurd h (by omega)
  | 0, k + 1, i, hi, _ => by
    have h1 : ¬ ((i : Int) < (((L.take i).map low ++ L.drop i).length : Int)) := by rw [low_len]; omega
    unfold spec_l2Lower.l0
    rw [if_neg h1, List.drop_eq_nil_of_le (by omega), List.take_of_length_le (by omega), List.append_nil]
  | n + 1, 0, _, _, h => absurd h (by omega)
  | n + 1, k + 1, i, hi, h => by
    have hm := maxLen_le
    have h1 : (i : Int) < (((L.take i).map low ++ L.drop i).length : Int) := by rw [low_len]; omega
    have h2 : (0 : Int) ≤ (i : Int) := by omega
    have h4 : wrap64 ((i : Int) + 1) = ((i + 1 : Nat) : Int) := by rw [wrap64_in (by omega)]; omega
    have hlt : i < L.length := by omega
    have ih := spec_l2Lower.l0_eq L hb n k (i + 1) (by omega) (by omega)
    have hs := low_step L i hlt
    have hq := low_same L i hlt
    unfold spec_l2Lower.l0
    rw [if_pos h1, if_pos h2, low_rd L i hlt, h4, Int.toNat_natCast]
    generalize L[i] = y at hs hq
    by_cases h5 : y ≥ 65
    · rw [if_pos h5]
      by_cases h6 : y ≤ 90
      · rw [if_pos h6]
        have h7 : low y = (y + 32) % 256 := by unfold low; rw [if_pos ⟨h5, h6⟩]
        rw [← h7, hs, ih]
      · rw [if_neg h6, hq (by unfold low; rw [if_neg (by omega)]), ih]
    · rw [if_neg h5, hq (by unfold low; rw [if_neg (by omega)]), ih]
theorem bytesOf_len (a : ByteArray) : (bytesOf a).length = a.size := by simp [bytesOf]
theorem spec_l2Lower_eq (a : ByteArray) (k : Nat) (hb : a.size ≤ 1048576) (hk : a.size < k) : spec_l2Lower.f k a = some (strOfNums ((bytesOf a).map low)) := by
  have hl := bytesOf_len a
  unfold spec_l2Lower.f
  rw [if_pos (by omega)]
  have := spec_l2Lower.l0_eq (bytesOf a) (by unfold maxLen; omega) a.size k 0 (by omega) hk
  simpa using this
theorem impl_small.l0_eq (L : List Int) (hb : L.length ≤ maxLen) : ∀ (n k i : Nat), L.length = i + n → n < k → impl_small.l0 k ((L.take i).map low ++ L.drop i) (L.length : Int) (i : Int) = some (strOfNums (L.map low))
  | 0, 0, _, _, h => absurd h (by omega)
  | 0, k + 1, i, hi, _ => by
    have h1 : ¬ ((i : Int) < (L.length : Int)) := by omega
    unfold impl_small.l0
    rw [if_neg h1, List.drop_eq_nil_of_le (by omega), List.take_of_length_le (by omega), List.append_nil]
  | n + 1, 0, _, _, h => absurd h (by omega)
  | n + 1, k + 1, i, hi, h => by
    have hm := maxLen_le
    have h0 : (i : Int) < (L.length : Int) := by omega
    have h1 : (i : Int) < (((L.take i).map low ++ L.drop i).length : Int) := by rw [low_len]; omega
    have h2 : (0 : Int) ≤ (i : Int) := by omega
    have h4 : wrap64 ((i : Int) + 1) = ((i + 1 : Nat) : Int) := by rw [wrap64_in (by omega)]; omega
    have hlt : i < L.length := by omega
    have ih := impl_small.l0_eq L hb n k (i + 1) (by omega) (by omega)
    have hs := low_step L i hlt
    have hq := low_same L i hlt
    unfold impl_small.l0
    rw [if_pos h0, if_pos h2, if_pos h1, low_rd L i hlt, h4, Int.toNat_natCast]
    generalize L[i] = y at hs hq
    by_cases h5 : y ≥ 65
    · rw [if_pos h5]
      by_cases h6 : y ≤ 90
      · rw [if_pos h6]
        have h7 : low y = (y + 32) % 256 := by unfold low; rw [if_pos ⟨h5, h6⟩]
        rw [← h7, hs, ih]
      · rw [if_neg h6, hq (by unfold low; rw [if_neg (by omega)]), ih]
    · rw [if_neg h5, hq (by unfold low; rw [if_neg (by omega)]), ih]
theorem bytesOf_len1 (a : ByteArray) : (bytesOf a).length = a.size := by simp [bytesOf]
theorem impl_small_eq (a : ByteArray) (k : Nat) (hb : a.size ≤ 1048576) (hk : a.size < k) : impl_small.f k a = some (strOfNums ((bytesOf a).map low)) := by
  have hl := bytesOf_len1 a
  unfold impl_small.f
  rw [if_pos (by omega), Option.bind_some]
  have := impl_small.l0_eq (bytesOf a) (by unfold maxLen; omega) a.size k 0 (by omega) hk
  simpa using this
def lowS (s : ByteArray) : ByteArray := strOfNums ((bytesOf s).map low)
def ofF (name : ByteArray) : List S151 → ByteArray × Bool
  | [] => (⟨#[]⟩, false)
  | x :: xs => if (lowS x.f0).toList = (lowS name).toList then (x.f1, true) else ofF name xs
theorem spec_l4Of.l0_eq (l : List S151) (hl : smallF l) (a : ByteArray) (ha : a.size ≤ 1048576) : ∀ (n k i : Nat), l.length = i + n → n + 1048577 < k → spec_l4Of.l0 k l a (i : Int) = some (ofF a (l.drop i))
  | _, 0, _, _, h => absurd h (by omega)
  | 0, k + 1, i, hi, _ => by
    have h1 : ¬ ((i : Int) < (l.length : Int)) := by omega
    rw [spec_l4Of.l0, if_neg h1, List.drop_eq_nil_of_le (by omega)]
    rfl
  | n + 1, k + 1, i, hi, h => by
    have hlt : i < l.length := by omega
    have hb := hl.1
    have h1 : (i : Int) < (l.length : Int) := by omega
    have h2 : (0 : Int) ≤ (i : Int) := by omega
    obtain ⟨z0, z1⟩ := hl.2 l[i] (List.getElem_mem hlt)
    rw [spec_l4Of.l0, if_pos h1, if_pos h2, wrap_succ i (by omega), spec_l4Of.l0_eq l hl a ha n k (i + 1) (by omega) (by omega), rd_fld l i hlt, spec_l2Lower_eq _ k z0 (by omega), Option.bind_some, spec_l2Lower_eq a k ha (by omega), Option.bind_some, List.drop_eq_getElem_cons hlt]
    show _ = some (if (lowS l[i].f0).toList = (lowS a).toList then (l[i].f1, true) else ofF a (l.drop (i + 1)))
    unfold lowS
    split <;> rfl
theorem impl_fieldOf.l0_eq (l : List S151) (hl : smallF l) (a : ByteArray) (ha : a.size ≤ 1048576) : ∀ (n k i : Nat), l.length = i + n → n + 1048577 < k → impl_fieldOf.l0 k a l (l.length : Int) (i : Int) = some (ofF a (l.drop i))
  | _, 0, _, _, h => absurd h (by omega)
  | 0, k + 1, i, hi, _ => by
    have h1 : ¬ ((i : Int) < (l.length : Int)) := by omega
    rw [impl_fieldOf.l0, if_neg h1, List.drop_eq_nil_of_le (by omega)]
    rfl
  | n + 1, k + 1, i, hi, h => by
    have hlt : i < l.length := by omega
    have hb := hl.1
    have h1 : (i : Int) < (l.length : Int) := by omega
    have h2 : (0 : Int) ≤ (i : Int) := by omega
    obtain ⟨z0, z1⟩ := hl.2 l[i] (List.getElem_mem hlt)
    rw [impl_fieldOf.l0, if_pos h1, if_pos h2, if_pos h1, wrap_succ i (by omega), impl_fieldOf.l0_eq l hl a ha n k (i + 1) (by omega) (by omega), rd_fld l i hlt, impl_small_eq _ k z0 (by omega), Option.bind_some, impl_small_eq a k ha (by omega), Option.bind_some, List.drop_eq_getElem_cons hlt]
    show _ = some (if (lowS l[i].f0).toList = (lowS a).toList then (l[i].f1, true) else ofF a (l.drop (i + 1)))
    unfold lowS
    split <;> rfl
theorem spec_l4Of_eq (l : List S151) (hl : smallF l) (a : ByteArray) (ha : a.size ≤ 1048576) (k : Nat) (hk : l.length + 1048577 < k) : spec_l4Of.f k l a = some (ofF a l) := by
  have := spec_l4Of.l0_eq l hl a ha l.length k 0 (by omega) hk
  unfold spec_l4Of.f
  simpa using this
theorem impl_fieldOf_eq (l : List S151) (hl : smallF l) (a : ByteArray) (ha : a.size ≤ 1048576) (k : Nat) (hk : l.length + 1048577 < k) : impl_fieldOf.f k l a = some (ofF a l) := by
  have := impl_fieldOf.l0_eq l hl a ha l.length k 0 (by omega) hk
  unfold impl_fieldOf.f
  simpa using this
theorem ite_eq_comm {α : Type} [DecidableEq α] {β : Type} (a b : α) (x y : β) : (if a = b then x else y) = if b = a then x else y := by
  by_cases h : a = b
  · rw [if_pos h, if_pos h.symm]
  · rw [if_neg h, if_neg (fun e => h e.symm)]
theorem charset_both (a : ByteArray) (hl : ¬ (a.size : Int) > 1048576) (k0 : Nat) (hk0 : a.size < k0) : ∃ v c, spec_l2Of.f (k0 + 7) a = some v ∧ impl_CharsetOf.f (k0 + 7) a = some (c, v) := by
  have e1 : ∀ j, 1 ≤ j → spec_l2Lower.f (k0 + j) a = _ := fun j hj => spec_l2Lower_eq a (k0 + j) (by omega) (by omega)
  have e2 : impl_small.f (k0 + 7) a = _ := impl_small_eq a (k0 + 7) (by omega) (by omega)
  have w1 : wrap64 (1 + 1) = 2 := by decide +kernel
  have w2 : wrap64 (2 + 1) = 3 := by decide +kernel
  have w3 : wrap64 (3 + 1) = 4 := by decide +kernel
  have w4 : wrap64 (4 + 1) = 5 := by decide +kernel
  have w5 : wrap64 (5 + 1) = 6 := by decide +kernel
  have w0 : wrap64 (0 + 1) = 1 := by decide +kernel
  generalize strOfNums ((bytesOf a).map low) = s at e1 e2
  have n1 : spec_l2Name.f 1 = some ⟨#[117, 115, 45, 97, 115, 99, 105, 105]⟩ := by rfl
  have n2 : spec_l2Name.f 2 = some ⟨#[105, 115, 111, 45, 56, 56, 53, 57, 45, 49]⟩ := by rfl
  have n3 : spec_l2Name.f 3 = some ⟨#[105, 115, 111, 45, 56, 56, 53, 57, 45, 53]⟩ := by rfl
  have n4 : spec_l2Name.f 4 = some ⟨#[117, 116, 102, 45, 56]⟩ := by rfl
  have n5 : spec_l2Name.f 5 = some ⟨#[117, 116, 102, 45, 49, 54]⟩ := by rfl
  have hs : spec_l2Of.f (k0 + 7) a = some (if (⟨#[117, 115, 45, 97, 115, 99, 105, 105]⟩ : ByteArray).toList = s.toList then 1 else if (⟨#[105, 115, 111, 45, 56, 56, 53, 57, 45, 49]⟩ : ByteArray).toList = s.toList then 2 else if (⟨#[105, 115, 111, 45, 56, 56, 53, 57, 45, 53]⟩ : ByteArray).toList = s.toList then 3 else if (⟨#[117, 116, 102, 45, 56]⟩ : ByteArray).toList = s.toList then 4 else if (⟨#[117, 116, 102, 45, 49, 54]⟩ : ByteArray).toList = s.toList then 5 else 0) := by
    unfold spec_l2Of.f
    unfold spec_l2Of.l0
    rw [if_pos (by decide), n1, Option.bind_some, e1 6 (by omega), Option.bind_some]
    split
    · rfl
    rw [w1]; unfold spec_l2Of.l0
    rw [if_pos (by decide), n2, Option.bind_some, e1 5 (by omega), Option.bind_some]
    split
    · rfl
    rw [w2]; unfold spec_l2Of.l0
    rw [if_pos (by decide), n3, Option.bind_some, e1 4 (by omega), Option.bind_some]
    split
    · rfl
    rw [w3]; unfold spec_l2Of.l0
    rw [if_pos (by decide), n4, Option.bind_some, e1 3 (by omega), Option.bind_some]
    split
    · rfl
    rw [w4]; unfold spec_l2Of.l0
    rw [if_pos (by decide), n5, Option.bind_some, e1 2 (by omega), Option.bind_some]
    split
    · rfl
    rw [w5]; unfold spec_l2Of.l0
    rw [if_neg (by decide)]
  have hx : slices_Index_string_string.f (k0 + 7) [(⟨#[117, 115, 45, 97, 115, 99, 105, 105]⟩ : ByteArray), (⟨#[105, 115, 111, 45, 56, 56, 53, 57, 45, 49]⟩ : ByteArray), (⟨#[105, 115, 111, 45, 56, 56, 53, 57, 45, 53]⟩ : ByteArray), (⟨#[117, 116, 102, 45, 56]⟩ : ByteArray), (⟨#[117, 116, 102, 45, 49, 54]⟩ : ByteArray)] s = some (if (⟨#[117, 115, 45, 97, 115, 99, 105, 105]⟩ : ByteArray).toList = s.toList then 0 else if (⟨#[105, 115, 111, 45, 56, 56, 53, 57, 45, 49]⟩ : ByteArray).toList = s.toList then 1 else if (⟨#[105, 115, 111, 45, 56, 56, 53, 57, 45, 53]⟩ : ByteArray).toList = s.toList then 2 else if (⟨#[117, 116, 102, 45, 56]⟩ : ByteArray).toList = s.toList then 3 else if (⟨#[117, 116, 102, 45, 49, 54]⟩ : ByteArray).toList = s.toList then 4  else -1) := by
    unfold slices_Index_string_string.f
    rw [show (([(⟨#[117, 115, 45, 97, 115, 99, 105, 105]⟩ : ByteArray), (⟨#[105, 115, 111, 45, 56, 56, 53, 57, 45, 49]⟩ : ByteArray), (⟨#[105, 115, 111, 45, 56, 56, 53, 57, 45, 53]⟩ : ByteArray), (⟨#[117, 116, 102, 45, 56]⟩ : ByteArray), (⟨#[117, 116, 102, 45, 49, 54]⟩ : ByteArray)].length : Nat) : Int) = 5 from rfl]
    unfold slices_Index_string_string.l0
    rw [if_pos (by decide), if_pos (by decide), if_pos (by decide), show rdOf ByteArray.empty [(⟨#[117, 115, 45, 97, 115, 99, 105, 105]⟩ : ByteArray), (⟨#[105, 115, 111, 45, 56, 56, 53, 57, 45, 49]⟩ : ByteArray), (⟨#[105, 115, 111, 45, 56, 56, 53, 57, 45, 53]⟩ : ByteArray), (⟨#[117, 116, 102, 45, 56]⟩ : ByteArray), (⟨#[117, 116, 102, 45, 49, 54]⟩ : ByteArray)] 0 = (⟨#[117, 115, 45, 97, 115, 99, 105, 105]⟩ : ByteArray) from rfl, ite_eq_comm s.toList]
    split
    · rfl
    rw [w0]
    unfold slices_Index_string_string.l0
    rw [if_pos (by decide), if_pos (by decide), if_pos (by decide), show rdOf ByteArray.empty [(⟨#[117, 115, 45, 97, 115, 99, 105, 105]⟩ : ByteArray), (⟨#[105, 115, 111, 45, 56, 56, 53, 57, 45, 49]⟩ : ByteArray), (⟨#[105, 115, 111, 45, 56, 56, 53, 57, 45, 53]⟩ : ByteArray), (⟨#[117, 116, 102, 45, 56]⟩ : ByteArray), (⟨#[117, 116, 102, 45, 49, 54]⟩ : ByteArray)] 1 = (⟨#[105, 115, 111, 45, 56, 56, 53, 57, 45, 49]⟩ : ByteArray) from rfl, ite_eq_comm s.toList]
    split
    · rfl
    rw [w1]
    unfold slices_Index_string_string.l0
    rw [if_pos (by decide), if_pos (by decide), if_pos (by decide), show rdOf ByteArray.empty [(⟨#[117, 115, 45, 97, 115, 99, 105, 105]⟩ : ByteArray), (⟨#[105, 115, 111, 45, 56, 56, 53, 57, 45, 49]⟩ : ByteArray), (⟨#[105, 115, 111, 45, 56, 56, 53, 57, 45, 53]⟩ : ByteArray), (⟨#[117, 116, 102, 45, 56]⟩ : ByteArray), (⟨#[117, 116, 102, 45, 49, 54]⟩ : ByteArray)] 2 = (⟨#[105, 115, 111, 45, 56, 56, 53, 57, 45, 53]⟩ : ByteArray) from rfl, ite_eq_comm s.toList]
    split
    · rfl
    rw [w2]
    unfold slices_Index_string_string.l0
    rw [if_pos (by decide), if_pos (by decide), if_pos (by decide), show rdOf ByteArray.empty [(⟨#[117, 115, 45, 97, 115, 99, 105, 105]⟩ : ByteArray), (⟨#[105, 115, 111, 45, 56, 56, 53, 57, 45, 49]⟩ : ByteArray), (⟨#[105, 115, 111, 45, 56, 56, 53, 57, 45, 53]⟩ : ByteArray), (⟨#[117, 116, 102, 45, 56]⟩ : ByteArray), (⟨#[117, 116, 102, 45, 49, 54]⟩ : ByteArray)] 3 = (⟨#[117, 116, 102, 45, 56]⟩ : ByteArray) from rfl, ite_eq_comm s.toList]
    split
    · rfl
    rw [w3]
    unfold slices_Index_string_string.l0
    rw [if_pos (by decide), if_pos (by decide), if_pos (by decide), show rdOf ByteArray.empty [(⟨#[117, 115, 45, 97, 115, 99, 105, 105]⟩ : ByteArray), (⟨#[105, 115, 111, 45, 56, 56, 53, 57, 45, 49]⟩ : ByteArray), (⟨#[105, 115, 111, 45, 56, 56, 53, 57, 45, 53]⟩ : ByteArray), (⟨#[117, 116, 102, 45, 56]⟩ : ByteArray), (⟨#[117, 116, 102, 45, 49, 54]⟩ : ByteArray)] 4 = (⟨#[117, 116, 102, 45, 49, 54]⟩ : ByteArray) from rfl, ite_eq_comm s.toList]
    split
    · rfl
    rw [w4]
    unfold slices_Index_string_string.l0
    rw [if_neg (by decide)]
  simp only [impl_CharsetOf.f, impl_charsets.f, hs, hx, e2, Option.bind_some]
  split
  · exact ⟨_, _, rfl, by simp +decide [show wrap64 1 = 1 from by decide +kernel]; rfl⟩
  split
  · exact ⟨_, _, rfl, by simp +decide [show wrap64 2 = 2 from by decide +kernel]; rfl⟩
  split
  · exact ⟨_, _, rfl, by simp +decide [show wrap64 3 = 3 from by decide +kernel]; rfl⟩
  split
  · exact ⟨_, _, rfl, by simp +decide [show wrap64 4 = 4 from by decide +kernel]; rfl⟩
  split
  · exact ⟨_, _, rfl, by simp +decide [show wrap64 5 = 5 from by decide +kernel]; rfl⟩
  · exact ⟨_, _, rfl, by simp; rfl⟩
def cutB (s : ByteArray) : Nat → Nat → Nat → List (Nat × Nat) → List (Nat × Nat)
  | 0, pos, fr, acc => if fr < pos then acc ++ [(fr, pos)] else acc
  | f + 1, pos, fr, acc =>
    if pos < s.size then
      if (s.get! pos).toNat = 59 then cutB s f (pos + 1) (pos + 1) (if fr < pos then acc ++ [(fr, pos)] else acc) else cutB s f (pos + 1) fr acc
    else if fr < pos then acc ++ [(fr, pos)] else acc
theorem dec_low (s : ByteArray) (i : Nat) (h : (s.get! i).toNat < 128) : Utf8.decode s i = ((s.get! i).toNat, 1) := by
  unfold Utf8.decode
  simp only [Nat.add_zero]
  rw [if_pos (by omega)]
theorem dec_high (s : ByteArray) (i : Nat) (h : 128 ≤ (s.get! i).toNat) : 128 ≤ (Utf8.decode s i).1 ∧ 1 ≤ (Utf8.decode s i).2 ∧ (Utf8.decode s i).2 ≤ 4 ∧ ∀ k, 1 ≤ k → k < (Utf8.decode s i).2 → i + k < s.size ∧ 128 ≤ (s.get! (i + k)).toNat := by
  unfold Utf8.decode
  simp only [Nat.add_zero]
  rw [if_neg (by omega)]
  have hc : ∀ k, (decide (i + k < s.size) && (s.get! (i + k)).toNat / 64 == 2) = true → i + k < s.size ∧ 128 ≤ (s.get! (i + k)).toNat := by
    intro k hk
    simp only [Bool.and_eq_true, decide_eq_true_eq, beq_iff_eq] at hk
    exact ⟨hk.1, by omega⟩
  have h1 : ∀ x : Nat, 128 ≤ x → 128 ≤ (x, 1).1 ∧ 1 ≤ (x, 1).2 ∧ (x, 1).2 ≤ 4 ∧ ∀ k, 1 ≤ k → k < (x, 1).2 → i + k < s.size ∧ 128 ≤ (s.get! (i + k)).toNat := fun x hx => ⟨hx, Nat.le_refl _, by simp, fun k a b => by simp at b; omega⟩
  split
  · rename_i hb
    simp only [Bool.and_eq_true] at hb
    split
    · refine ⟨by assumption, by simp, by simp, fun k a b => ?_⟩
      have : k = 1 := by simp at b; omega
      subst this
      exact hc 1 (by simpa using hb.2)
    · exact h1 _ (by decide)
  · split
    · rename_i hb
      simp only [Bool.and_eq_true] at hb
      split
      · rename_i hv
        simp only [ge_iff_le, Bool.and_eq_true, decide_eq_true_eq] at hv
        refine ⟨by omega, by simp, by simp, fun k a b => ?_⟩
        have : k = 1 ∨ k = 2 := by simp at b; omega
        rcases this with rfl | rfl
        · exact hc 1 (by simpa using hb.1.2)
        · exact hc 2 (by simpa using hb.2)
      · exact h1 _ (by decide)
    · split
      · rename_i hb
        simp only [Bool.and_eq_true] at hb
        split
        · rename_i hv
          simp only [ge_iff_le, Bool.and_eq_true, decide_eq_true_eq] at hv
          refine ⟨by omega, by simp, by simp, fun k a b => ?_⟩
          have : k = 1 ∨ k = 2 ∨ k = 3 := by simp at b; omega
          rcases this with rfl | rfl | rfl
          · exact hc 1 (by simpa using hb.1.1.2)
          · exact hc 2 (by simpa using hb.1.2)
          · exact hc 3 (by simpa using hb.2)
        · exact h1 _ (by decide)
      · exact h1 _ (by decide)
theorem cutB_end (s : ByteArray) (f pos fr : Nat) (acc : List (Nat × Nat)) (h : ¬ pos < s.size) : cutB s f pos fr acc = if fr < pos then acc ++ [(fr, pos)] else acc := by
  cases f with
  | zero => rfl
  | succ f => rw [cutB, if_neg h]
theorem cutB_skip (s : ByteArray) : ∀ (w f pos fr : Nat) (acc : List (Nat × Nat)), (∀ k, k < w → pos + k < s.size ∧ (s.get! (pos + k)).toNat ≠ 59) → cutB s (f + w) pos fr acc = cutB s f (pos + w) fr acc
  | 0, _, _, _, _, _ => rfl
  | w + 1, f, pos, fr, acc, h => by
    have h0 := h 0 (by omega)
    simp only [Nat.add_zero] at h0
    rw [show f + (w + 1) = (f + w) + 1 from rfl, cutB, if_pos h0.1, if_neg h0.2, cutB_skip s w f (pos + 1) fr acc (fun k hk => by
      have := h (k + 1) (by omega)
      rwa [show pos + 1 + k = pos + (k + 1) by omega]), show pos + 1 + w = pos + (w + 1) by omega]
theorem spans_cut (s : ByteArray) : ∀ (f g pos fr : Nat) (st : Option Nat) (acc : List (Nat × Nat)), s.size ≤ pos + f → s.size ≤ pos + g → fr ≤ pos → pos ≤ s.size → st = (if fr < pos then some fr else none) →
    Lib.closeSpans s (Lib.spansFromP (fun n => n == 59) s f pos st acc) = cutB s g pos fr acc := by
  intro f
  induction f with
  | zero =>
    intro g pos fr st acc h1 h2 h3 h4 h5
    rw [Lib.spansFromP_end _ _ _ _ _ _ (by omega), cutB_end _ _ _ _ _ (by omega), h5]
    have : pos = s.size := by omega
    by_cases h : fr < pos
    · rw [if_pos h, if_pos h, this]; rfl
    · rw [if_neg h, if_neg h]; rfl
  | succ f ih =>
    intro g pos fr st acc h1 h2 h3 h4 h5
    by_cases hp : pos < s.size
    · unfold Lib.spansFromP
      rw [if_pos hp]
      obtain ⟨g, rfl⟩ : ∃ g', g = g' + 1 := ⟨g - 1, by omega⟩
      by_cases hs : (s.get! pos).toNat = 59
      · have hd := dec_low s pos (by omega)
        rw [hd, hs]
        simp only [beq_self_eq_true, if_true]
        rw [cutB, if_pos hp, if_pos hs]
        by_cases h : fr < pos
        · rw [h5, if_pos h, if_pos h]
          exact ih g (pos + 1) (pos + 1) none _ (by omega) (by omega) (Nat.le_refl _) (by omega) (by rw [if_neg (Nat.lt_irrefl _)])
        · rw [h5, if_neg h, if_neg h]
          exact ih g (pos + 1) (pos + 1) none _ (by omega) (by omega) (Nat.le_refl _) (by omega) (by rw [if_neg (Nat.lt_irrefl _)])
      · obtain ⟨r1, r2, r3⟩ : (Utf8.decode s pos).1 ≠ 59 ∧ 1 ≤ (Utf8.decode s pos).2 ∧ ∀ k, k < (Utf8.decode s pos).2 → pos + k < s.size ∧ (s.get! (pos + k)).toNat ≠ 59 := by
          by_cases hl : (s.get! pos).toNat < 128
          · rw [dec_low s pos hl]
            refine ⟨hs, Nat.le_refl _, fun k hk => ?_⟩
            have : k = 0 := by simp at hk; omega
            subst this
            exact ⟨hp, hs⟩
          · obtain ⟨q1, q2, q3, q4⟩ := dec_high s pos (by omega)
            refine ⟨by omega, q2, fun k hk => ?_⟩
            rcases Nat.eq_zero_or_pos k with rfl | hk0
            · exact ⟨hp, hs⟩
            · have := q4 k hk0 hk
              exact ⟨this.1, by omega⟩
        generalize Utf8.decode s pos = dd at r1 r2 r3
        obtain ⟨r, w⟩ := dd
        simp only at r1 r2 r3 ⊢
        rw [if_neg (by simpa using r1)]
        have hw := r3 (w - 1) (by omega)
        have key : Lib.closeSpans s (Lib.spansFromP (fun n => n == 59) s f (pos + w) (some fr) acc) = cutB s (g + 1) pos fr acc := by
          by_cases hgw : w ≤ g + 1
          · rw [show g + 1 = (g + 1 - w) + w by omega, cutB_skip s w _ _ _ _ r3]
            exact ih _ (pos + w) fr _ acc (by omega) (by omega) (by omega) (by omega) (by rw [if_pos (by omega)])
          · omega
        by_cases h : fr < pos
        · rw [if_pos h] at h5
          subst h5
          exact key
        · rw [if_neg h] at h5
          subst h5
          have e : pos = fr := by omega
          rw [← key, ← e]
    · rw [Lib.spansFromP_end _ _ _ _ _ _ hp, cutB_end _ _ _ _ _ hp, h5]
      have : pos = s.size := by omega
      by_cases h : fr < pos
      · rw [if_pos h, if_pos h, this]; rfl
      · rw [if_neg h, if_neg h]; rfl
theorem goFields_cut (s : ByteArray) : Lib.goFieldsP (fun n => n == 59) s = (cutB s s.size 0 0 []).map fun x => s.extract x.1 x.2 := by
  unfold Lib.goFieldsP Lib.spansOfP
  rw [spans_cut s s.size s.size 0 0 none [] (by omega) (by omega) (Nat.le_refl _) (Nat.zero_le _) rfl]
def mkB (l : List UInt8) : ByteArray := ⟨l.toArray⟩
theorem mkB_data (x : ByteArray) : mkB x.data.toList = x := by unfold mkB; rw [Array.toArray_toList]
theorem mkB_size (l : List UInt8) : (mkB l).size = l.length := by show l.toArray.size = _; simp
theorem mkB_toList (l : List UInt8) : (mkB l).toList = l := by rw [Go.ByteArray.toList_eq]; simp [mkB]
theorem mkB_bt (l : List UInt8) (i : Nat) (h : i < l.length) : bt (mkB l) (i : Int) = (l[i].toNat : Int) := by
  have e : bytesOf (mkB l) = l.map fun b => (b.toNat : Int) := by simp [bytesOf, mkB]
  rw [← rd_bytesOf, e, rd_at _ i (by simpa using h)]
  simp
theorem mkB_ext {a b : ByteArray} (h : a.data.toList = b.data.toList) : a = b := by
  have := congrArg mkB h
  rwa [mkB_data, mkB_data] at this
theorem mkB_drop1 (l : List UInt8) : (mkB l).extract 1 (mkB l).size = mkB (l.drop 1) := by
  apply mkB_ext
  rw [ByteArray.data_extract, Array.toList_extract, mkB_size]
  simp [mkB, List.extract]
  exact List.take_of_length_le (by simp)
theorem mkB_take (l : List UInt8) (n : Nat) : (mkB l).extract 0 n = mkB (l.take n) := by
  apply mkB_ext
  rw [ByteArray.data_extract, Array.toList_extract]
  simp [mkB, List.extract]
def cs2 : List UInt8 := [32, 9]
theorem cs2_has (c : UInt8) : cs2.contains c = true ↔ (c.toNat : Int) = 32 ∨ (c.toNat : Int) = 9 := by
  have e : ∀ d : UInt8, c = d ↔ c.toNat = d.toNat := fun d => ⟨fun h => by rw [h], fun h => UInt8.toNat_inj.1 h⟩
  simp only [cs2, List.contains_cons, List.contains_nil, Bool.or_false, Bool.or_eq_true, beq_iff_eq]
  rw [e 32, e 9]
  show (c.toNat = 32 ∨ c.toNat = 9) ↔ _
  omega
theorem trimR_snoc (m : List UInt8) (c : UInt8) : Lib.trimRightS (m ++ [c]) cs2 = if cs2.contains c = true then Lib.trimRightS m cs2 else m ++ [c] := by
  unfold Lib.trimRightS
  rw [List.reverse_append, List.reverse_singleton, List.singleton_append, List.dropWhile_cons]
  split <;> simp
theorem spec_l5Trim.l1_eq : ∀ (n k : Nat) (l : List UInt8), l.length = n → n < k → n ≤ 1048576 → spec_l5Trim.l1 k (mkB l) = some (mkB (Lib.trimRightS l cs2))
  | _, 0, _, _, h, _ => absurd h (by omega)
  | 0, k + 1, l, hl, _, _ => by
    have : l = [] := List.eq_nil_of_length_eq_zero hl
    subst this
    rw [spec_l5Trim.l1, mkB_toList, if_pos rfl]
    rfl
  | n + 1, k + 1, l, hl, hk, hm => by
    have hne : l ≠ [] := by intro e; subst e; simp at hl
    obtain ⟨m, c, rfl⟩ : ∃ m c, l = m ++ [c] := ⟨l.dropLast, l.getLast hne, (List.dropLast_concat_getLast hne).symm⟩
    have hml : m.length = n := by simpa using hl
    have hsz : (mkB (m ++ [c])).size = n + 1 := by rw [mkB_size]; simp [hml]
    have hw : wrap64 (((n + 1 : Nat) : Int) - 1) = (n : Int) := by rw [wrap64_in (by omega)]; omega
    have hb : bt (mkB (m ++ [c])) (n : Int) = (c.toNat : Int) := by
      rw [mkB_bt _ n (by simp [hml])]
      congr 2
      rw [List.getElem_append_right (by omega)]
      simp [hml]
    have hx : (mkB (m ++ [c])).extract 0 ((n : Int)).toNat = mkB m := by
      rw [Int.toNat_natCast, mkB_take, ← hml]; simp
    have ih := spec_l5Trim.l1_eq n k m hml (by omega) (by omega)
    rw [spec_l5Trim.l1, mkB_toList, if_neg (by simp), hsz, hw, if_pos (by omega), if_pos (by omega), hb, if_pos (show (n : Int) ≤ ((n + 1 : Nat) : Int) by omega), hx, ih, trimR_snoc]
    by_cases c1 : (c.toNat : Int) = 32
    · rw [if_pos c1, if_pos ((cs2_has c).2 (.inl c1))]
    · rw [if_neg c1]
      by_cases c2 : (c.toNat : Int) = 9
      · rw [if_pos c2, if_pos ((cs2_has c).2 (.inr c2))]
      · rw [if_neg c2, if_neg (fun h => by have := (cs2_has c).1 h; omega)]
theorem spec_l5Trim.l0_eq : ∀ (l : List UInt8) (k : Nat), 2 * l.length + 3 < k → l.length ≤ 1048576 → spec_l5Trim.l0 k (mkB l) = some (mkB (Lib.trimRightS (Lib.trimLeftS l cs2) cs2))
  | l, 0, h, _ => absurd h (by omega)
  | [], k + 1, hk, _ => by
    obtain ⟨k, rfl⟩ : ∃ m, k = m + 1 := ⟨k - 1, by simp at hk; omega⟩
    rw [spec_l5Trim.l0, mkB_toList, if_pos rfl, spec_l5Trim.j1, spec_l5Trim.l1_eq 0 k [] rfl (by simp at hk; omega) (by omega)]
    rfl
  | c :: m, k + 1, hk, hm => by
    obtain ⟨k, rfl⟩ : ∃ q, k = q + 1 := ⟨k - 1, by simp at hk; omega⟩
    simp only [List.length_cons] at hk hm
    have hsz : (mkB (c :: m)).size = m.length + 1 := by rw [mkB_size]; simp
    have hb : bt (mkB (c :: m)) 0 = (c.toNat : Int) := by
      have := mkB_bt (c :: m) 0 (by simp)
      simpa using this
    have hx : (mkB (c :: m)).extract 1 (mkB (c :: m)).size = mkB m := by rw [mkB_drop1]; rfl
    have ih := spec_l5Trim.l0_eq m (k + 1) (by omega) (by omega)
    have hj : spec_l5Trim.j1 (k + 1) (mkB (c :: m)) = some (mkB (Lib.trimRightS (c :: m) cs2)) := by
      rw [spec_l5Trim.j1, spec_l5Trim.l1_eq (m.length + 1) k (c :: m) (by simp) (by omega) (by omega)]
    have hd : Lib.trimLeftS (c :: m) cs2 = if cs2.contains c = true then Lib.trimLeftS m cs2 else c :: m := by
      unfold Lib.trimLeftS; rw [List.dropWhile_cons]
    rw [spec_l5Trim.l0, mkB_toList, if_neg (by simp), hx, hb, hsz, if_pos (by omega), if_pos (show (1 : Int) ≤ ((m.length + 1 : Nat) : Int) by omega), ih, hj, hd]
    by_cases c1 : (c.toNat : Int) = 32
    · rw [if_pos c1, if_pos ((cs2_has c).2 (.inl c1))]
    · rw [if_neg c1]
      by_cases c2 : (c.toNat : Int) = 9
      · rw [if_pos c2, if_pos ((cs2_has c).2 (.inr c2))]
      · rw [if_neg c2, if_neg (fun h => by have := (cs2_has c).1 h; omega)]
theorem trim_comm (l : List UInt8) : Lib.trimRightS (Lib.trimLeftS l cs2) cs2 = Lib.trimLeftS (Lib.trimRightS l cs2) cs2 := by
  have hc : ∀ (x : UInt8) (m : List UInt8), Lib.trimRightS (x :: m) cs2 = if Lib.trimRightS m cs2 = [] then (if cs2.contains x = true then [] else [x]) else x :: Lib.trimRightS m cs2 := by
    intro x m
    unfold Lib.trimRightS
    rw [List.reverse_cons, List.dropWhile_append]
    cases h : m.reverse.dropWhile (cs2.contains ·) with
    | nil =>
      simp only [List.isEmpty_nil, if_true, List.reverse_nil, List.dropWhile_cons, List.dropWhile_nil]
      split <;> rfl
    | cons y t => simp
  induction l with
  | nil => rfl
  | cons x m ih =>
    by_cases h : cs2.contains x = true
    · have e : Lib.trimLeftS (x :: m) cs2 = Lib.trimLeftS m cs2 := by unfold Lib.trimLeftS; rw [List.dropWhile_cons, if_pos h]
      rw [e, ih, hc, if_pos h]
      by_cases g : Lib.trimRightS m cs2 = []
      · rw [if_pos g, g]
      · rw [if_neg g]
        unfold Lib.trimLeftS
        rw [List.dropWhile_cons, if_pos h]
    · have e : Lib.trimLeftS (x :: m) cs2 = x :: m := by unfold Lib.trimLeftS; rw [List.dropWhile_cons, if_neg h]
      rw [e, hc, if_neg h]
      by_cases g : Lib.trimRightS m cs2 = []
      · rw [if_pos g]; unfold Lib.trimLeftS; rw [List.dropWhile_cons, if_neg h]
      · rw [if_neg g]; unfold Lib.trimLeftS; rw [List.dropWhile_cons, if_neg h]
def trB (x : ByteArray) : ByteArray := mkB (Lib.trimS x.data.toList cs2)
theorem trB_size (x : ByteArray) : (trB x).size ≤ x.size := by
  have h1 : ∀ (p : UInt8 → Bool) (l : List UInt8), (l.dropWhile p).length ≤ l.length := fun p l => (List.dropWhile_sublist p).length_le
  have h2 : x.size = x.data.toList.length := by show x.data.size = _; simp
  unfold trB
  rw [mkB_size, h2]
  unfold Lib.trimS Lib.trimLeftS Lib.trimRightS
  refine Nat.le_trans (h1 _ _) ?_
  rw [List.length_reverse]
  refine Nat.le_trans (h1 _ _) ?_
  rw [List.length_reverse]
  exact Nat.le_refl _
theorem spec_l5Trim_eq (x : ByteArray) (hx : x.size ≤ 1048576) (k : Nat) (hk : 2 * x.size + 3 < k) : spec_l5Trim.f k x = some (trB x) := by
  have h2 : x.size = x.data.toList.length := by show x.data.size = _; simp
  have := spec_l5Trim.l0_eq x.data.toList k (by omega) (by omega)
  rw [mkB_data, trim_comm] at this
  exact this
theorem strings_Trim_eq (x : ByteArray) (hx : x.size ≤ 1048576) : strings_Trim.f x (⟨#[32, 9]⟩ : ByteArray) = some (trB x) := by
  unfold strings_Trim.f
  rw [if_pos ⟨by omega, by decide, by decide⟩]
  rfl
theorem get_bt (s : ByteArray) (i : Nat) (h : i < s.size) : bt s (i : Int) = ((s.get! i).toNat : Int) := by
  have h2 : s.size = s.data.toList.length := by show s.data.size = _; simp
  have e := mkB_bt s.data.toList i (by omega)
  rw [mkB_data] at e
  rw [e]
  congr 2
  show _ = s.data[i]!
  have hd : i < s.data.size := h
  rw [getElem!_pos s.data i hd, Array.getElem_toList]
theorem extract_size (s : ByteArray) (a b : Nat) : (s.extract a b).size ≤ s.size := by
  rw [ByteArray.size_extract]; omega
theorem spec_l5Pieces.l0_eq (s : ByteArray) (hs : s.size ≤ 1048576) : ∀ (n k i fr : Nat) (acc : List (Nat × Nat)), s.size = i + n → 2 * n + 2097170 < k → fr ≤ i → acc.length ≤ i → spec_l5Pieces.l0 k s (acc.map fun x => trB (s.extract x.1 x.2)) (fr : Int) (i : Int) = some ((cutB s n i fr acc).map fun x => trB (s.extract x.1 x.2))
  | n, k, i, fr, acc, hi, hk, hf, ha => by
    obtain ⟨k, rfl⟩ : ∃ q, k = q + 2 := ⟨k - 2, by omega⟩
    have w1 : wrap64 ((i : Int) + 1) = ((i + 1 : Nat) : Int) := by rw [wrap64_in (by omega)]; omega
    have hal : (acc.map fun x => trB (s.extract x.1 x.2)).length < 8796093022208 := by simp; omega
    have hj : ∀ b : Bool, spec_l5Pieces.j1 (k + 1) s (acc.map fun x => trB (s.extract x.1 x.2)) (fr : Int) (i : Int) b = if b = true then (if fr < i then spec_l5Pieces.l0 k s ((acc ++ [(fr, i)]).map fun x => trB (s.extract x.1 x.2)) ((i + 1 : Nat) : Int) ((i + 1 : Nat) : Int) else spec_l5Pieces.l0 k s (acc.map fun x => trB (s.extract x.1 x.2)) ((i + 1 : Nat) : Int) ((i + 1 : Nat) : Int)) else spec_l5Pieces.l0 k s (acc.map fun x => trB (s.extract x.1 x.2)) (fr : Int) ((i + 1 : Nat) : Int) := by
      intro b
      rw [spec_l5Pieces.j1, w1]
      by_cases hb : b = true
      · rw [if_pos hb, if_pos hb]
        by_cases c : fr < i
        · have hes := extract_size s fr i
          rw [if_pos (by omega), if_pos (by omega), if_pos (by omega), if_pos (by omega), if_pos c, Int.toNat_natCast, Int.toNat_natCast, spec_l5Trim_eq _ (by omega) k (by omega), Option.bind_some, if_pos hal]
          simp
        · rw [if_neg (by omega), if_neg c]
      · rw [if_neg hb, if_neg hb]
    rw [spec_l5Pieces.l0, if_pos (by omega)]
    match n, hi, hk with
    | 0, hi, hk =>
      obtain ⟨k, rfl⟩ : ∃ q, k = q + 1 := ⟨k - 1, by omega⟩
      have hend : ∀ (o : List ByteArray), spec_l5Pieces.l0 (k + 1) s o ((i + 1 : Nat) : Int) ((i + 1 : Nat) : Int) = some o := fun o => by rw [spec_l5Pieces.l0, if_neg (by omega)]
      rw [if_pos (by omega), hj, if_pos rfl, hend, hend, cutB]
      split <;> rfl
    | n + 1, hi, hk =>
      rw [if_neg (by omega), if_pos (by omega), if_pos (by omega), hj, get_bt s i (by omega), cutB, if_pos (show i < s.size by omega)]
      by_cases c : (s.get! i).toNat = 59
      · have cb : (((s.get! i).toNat : Int) == 59) = true := by rw [beq_iff_eq]; omega
        rw [if_pos c, if_pos cb]
        by_cases d : fr < i
        · rw [if_pos d, if_pos d]
          exact spec_l5Pieces.l0_eq s hs n k (i + 1) (i + 1) _ (by omega) (by omega) (Nat.le_refl _) (by first | (simp; done) | (simp; omega))
        · rw [if_neg d, if_neg d]
          exact spec_l5Pieces.l0_eq s hs n k (i + 1) (i + 1) _ (by omega) (by omega) (Nat.le_refl _) (by omega)
      · have cb : ¬ (((s.get! i).toNat : Int) == 59) = true := by rw [beq_iff_eq]; omega
        rw [if_neg c, if_neg cb]
        exact spec_l5Pieces.l0_eq s hs n k (i + 1) fr _ (by omega) (by omega) (by omega) (by omega)
theorem cutB_len (s : ByteArray) : ∀ (n i fr : Nat) (acc : List (Nat × Nat)), (cutB s n i fr acc).length ≤ acc.length + n + 1
  | 0, i, fr, acc => by rw [cutB]; split <;> simp
  | n + 1, i, fr, acc => by
    have e : (if fr < i then acc ++ [(fr, i)] else acc).length ≤ acc.length + 1 := by split <;> simp
    rw [cutB]
    by_cases h1 : i < s.size
    · rw [if_pos h1]
      by_cases h2 : (s.get! i).toNat = 59
      · rw [if_pos h2]
        have := cutB_len s n (i + 1) (i + 1) (if fr < i then acc ++ [(fr, i)] else acc)
        omega
      · rw [if_neg h2]
        have := cutB_len s n (i + 1) fr acc
        omega
    · rw [if_neg h1]
      omega
def piecesB (s : ByteArray) : List ByteArray := (cutB s s.size 0 0 []).map fun x => trB (s.extract x.1 x.2)
theorem piecesB_len (s : ByteArray) : (piecesB s).length ≤ s.size + 1 := by
  have := cutB_len s s.size 0 0 []
  simp only [piecesB, List.length_map]
  simpa using this
theorem piecesB_size (s : ByteArray) : ∀ x ∈ piecesB s, x.size ≤ s.size := by
  intro x hx
  obtain ⟨p, _, rfl⟩ := List.mem_map.1 hx
  exact Nat.le_trans (trB_size _) (extract_size s _ _)
theorem spec_l5Pieces_eq (s : ByteArray) (hs : s.size ≤ 1048576) (k : Nat) (hk : 4194400 < k) : spec_l5Pieces.f k s = some (piecesB s) := by
  have := spec_l5Pieces.l0_eq s hs s.size k 0 0 [] (by omega) (by omega) (Nat.le_refl _) (Nat.le_refl _)
  exact this
theorem rdB_at (l : List ByteArray) (i : Nat) (h : i < l.length) : rdOf ByteArray.empty l (i : Int) = l[i] := by
  simp [rdOf, List.getD_eq_getElem?_getD, h]
theorem impl_pieces.l0_eq (fs : List ByteArray) (hf : ∀ x ∈ fs, x.size ≤ 1048576) (hl : fs.length ≤ 1048577) : ∀ (n k i : Nat) (out : List ByteArray), fs.length = i + n → n < k → out.length + n ≤ 2000000 → impl_pieces.l0 k out fs (fs.length : Int) (i : Int) = some (out ++ (fs.drop i).map trB)
  | _, 0, _, _, _, h, _ => absurd h (by omega)
  | 0, k + 1, i, out, hi, _, _ => by
    rw [impl_pieces.l0, if_neg (by omega), List.drop_eq_nil_of_le (by omega)]
    simp
  | n + 1, k + 1, i, out, hi, h, ho => by
    have w1 : wrap64 ((i : Int) + 1) = ((i + 1 : Nat) : Int) := by rw [wrap64_in (by omega)]; omega
    have hlt : i < fs.length := by omega
    rw [impl_pieces.l0, if_pos (by omega), if_pos (by omega), if_pos (by omega), rdB_at fs i hlt, strings_Trim_eq _ (hf _ (List.getElem_mem hlt)), Option.bind_some, if_pos (by omega), w1, impl_pieces.l0_eq fs hf hl n k (i + 1) _ (by omega) (by omega) (by first | (simp; done) | (simp; omega)), List.drop_eq_getElem_cons hlt, List.map_cons, List.append_assoc]
    rfl
theorem impl_pieces_eq (s : ByteArray) (hs : s.size ≤ 1048576) (k : Nat) (hk : 1048600 < k) : impl_pieces.f k s = some (piecesB s) := by
  unfold impl_pieces.f strings_FieldsFunc.f
  rw [if_pos (by omega), Option.bind_some, goFields_cut]
  have hlen := cutB_len s s.size 0 0 []
  have := impl_pieces.l0_eq ((cutB s s.size 0 0 []).map fun x => s.extract x.1 x.2) (fun x hx => by
    obtain ⟨p, _, rfl⟩ := List.mem_map.1 hx
    exact Nat.le_trans (extract_size s _ _) hs) (by simp at hlen ⊢; omega) _ k 0 [] (by rw [Nat.zero_add]) (by simp at hlen ⊢; omega) (by simp at hlen ⊢; omega)
  rw [List.drop_zero, List.nil_append] at this
  rw [show ((0 : Nat) : Int) = 0 from rfl] at this
  rw [this]
  simp [piecesB, List.map_map, Function.comp]
def pf (a w : ByteArray) : Bool := decide (((bytesOf a).map low).take w.size = bytesOf w)
theorem eqStr (M : List Int) (h : ∀ x ∈ M, 0 ≤ x ∧ x ≤ 255) (w : ByteArray) : ((strOfNums M).toList == w.toList) = decide (M = bytesOf w) := by
  rw [Bool.eq_iff_iff, beq_iff_eq, decide_eq_true_eq]
  constructor
  · intro e
    rw [Go.ByteArray.toList_eq, Go.ByteArray.toList_eq] at e
    have := mkB_ext e
    rw [← this, bytesOf_strOfNums M h]
  · rintro rfl
    rw [strOfNums_bytesOf]
theorem low_in (x : Int) (h : 0 ≤ x ∧ x ≤ 255) : 0 ≤ low x ∧ low x ≤ 255 := by unfold low; split <;> omega
theorem lows_in (a : ByteArray) : ∀ x ∈ (bytesOf a).map low, 0 ≤ x ∧ x ≤ 255 := by
  intro x hx
  obtain ⟨y, hy, rfl⟩ := List.mem_map.1 hx
  exact low_in y (bytesOf_in a y hy)
theorem bytesOf_lenB (a : ByteArray) : (bytesOf a).length = a.size := by simp [bytesOf]
theorem pre_short (M : List Int) (w : ByteArray) (h : M.length < w.size) : ¬ M.take w.size = bytesOf w := by
  intro e
  have := congrArg List.length e
  rw [bytesOf_lenB, List.length_take] at this
  omega
theorem spec_l5Begins_eq (a w : ByteArray) (ha : a.size ≤ 1048576) (k : Nat) (hk : 1048577 < k) : spec_l5Begins.f k a w = some (pf a w) := by
  unfold spec_l5Begins.f
  by_cases c : (a.size : Int) ≥ (w.size : Int)
  · have hes := extract_size a 0 w.size
    rw [if_pos c, if_pos (by omega), if_pos (by omega), Int.toNat_natCast, spec_l2Lower_eq _ k (by omega) (by omega), Option.bind_some, bytesOf_extract, List.drop_zero]
    rw [eqStr _ (fun x hx => by
      obtain ⟨y, hy, rfl⟩ := List.mem_map.1 hx
      exact low_in y (bytesOf_in a y (List.mem_of_mem_take hy)))]
    unfold pf
    rw [List.map_take]
  · rw [if_neg c]
    unfold pf
    rw [decide_eq_false (pre_short _ w (by rw [List.length_map, bytesOf_lenB]; omega))]
theorem strings_HasPrefix_eq (M : List Int) (h : ∀ x ∈ M, 0 ≤ x ∧ x ≤ 255) (w : ByteArray) : strings_HasPrefix.f (strOfNums M) w = some (decide (M.take w.size = bytesOf w)) := by
  unfold strings_HasPrefix.f stringslite_HasPrefix.f
  rw [strOfNums_size]
  by_cases c : (M.length : Int) ≥ (w.size : Int)
  · have hx : (strOfNums M).extract 0 w.size = strOfNums (M.take w.size) := by
      rw [← strOfNums_bytesOf ((strOfNums M).extract 0 w.size), bytesOf_extract, bytesOf_strOfNums M h, List.drop_zero]
    rw [if_pos c, if_pos (by omega), if_pos (by omega), Option.bind_some, Int.toNat_natCast, hx, eqStr _ (fun x hx => h x (List.mem_of_mem_take hx))]
  · rw [if_neg c, Option.bind_some, decide_eq_false (pre_short M w (by omega))]
theorem pf_size (a w : ByteArray) (h : pf a w = true) : w.size ≤ a.size := by
  rcases Nat.lt_or_ge a.size w.size with c | c
  · exact absurd (of_decide_eq_true h) (pre_short _ w (by rw [List.length_map, bytesOf_lenB]; exact c))
  · exact c
def nmF : List ByteArray → ByteArray → ByteArray × Bool
  | [], _ => ((⟨#[]⟩ : ByteArray), false)
  | x :: r, w => if pf x w = true then (x.extract w.size x.size, true) else nmF r w
theorem spec_l5Named.l0_eq (P : List ByteArray) (w : ByteArray) (hP : ∀ x ∈ P, x.size ≤ 1048576) (hl : P.length ≤ 1048577) : ∀ (n k i : Nat), P.length = i + n → n + 1048578 < k → spec_l5Named.l0 k P w (i : Int) = some (nmF (P.drop i) w)
  | _, 0, _, _, h => absurd h (by omega)
  | 0, k + 1, i, hi, _ => by
    rw [spec_l5Named.l0, if_neg (by omega), List.drop_eq_nil_of_le (by omega)]
    rfl
  | n + 1, k + 1, i, hi, h => by
    have w1 : wrap64 ((i : Int) + 1) = ((i + 1 : Nat) : Int) := by rw [wrap64_in (by omega)]; omega
    have hlt : i < P.length := by omega
    have hx := hP P[i] (List.getElem_mem hlt)
    rw [spec_l5Named.l0, if_pos (by omega), if_pos (by omega), rdB_at P i hlt, spec_l5Begins_eq _ w hx k (by omega), Option.bind_some, w1, List.drop_eq_getElem_cons hlt, nmF, spec_l5Named.l0_eq P w hP hl n k (i + 1) (by omega) (by omega)]
    by_cases c : pf P[i] w = true
    · have := pf_size _ _ c
      rw [if_pos c, if_pos c, if_pos (by omega), if_pos (by omega), Int.toNat_natCast]
    · rw [if_neg c, if_neg c]
theorem impl_parameter.l0_eq (P : List ByteArray) (w : ByteArray) (hP : ∀ x ∈ P, x.size ≤ 1048576) (hl : P.length ≤ 1048577) : ∀ (n k i : Nat), P.length = i + n → n + 1048578 < k → 1 ≤ i → impl_parameter.l0 k w P (P.length : Int) (i : Int) = some (nmF (P.drop i) w)
  | _, 0, _, _, h, _ => absurd h (by omega)
  | 0, k + 1, i, hi, _, _ => by
    rw [impl_parameter.l0, if_neg (by omega), List.drop_eq_nil_of_le (by omega)]
    rfl
  | n + 1, k + 1, i, hi, h, h1 => by
    have w1 : wrap64 ((i : Int) + 1) = ((i + 1 : Nat) : Int) := by rw [wrap64_in (by omega)]; omega
    have hlt : i < P.length := by omega
    have hx := hP P[i] (List.getElem_mem hlt)
    have hs : impl_small.f k P[i] = _ := impl_small_eq P[i] k hx (by omega)
    have hp : strings_HasPrefix.f (strOfNums ((bytesOf P[i]).map low)) w = some (pf P[i] w) := strings_HasPrefix_eq _ (lows_in P[i]) w
    rw [impl_parameter.l0, if_pos (by omega), if_pos (by omega), if_pos (by omega), if_pos (by omega), rdB_at P i hlt, hs, Option.bind_some, hp, Option.bind_some, w1, List.drop_eq_getElem_cons hlt, nmF, impl_parameter.l0_eq P w hP hl n k (i + 1) (by omega) (by omega) (by omega)]
    by_cases c : pf P[i] w = true
    · have := pf_size _ _ c
      rw [if_pos c, if_pos c, if_pos (by omega), if_pos (by omega), Int.toNat_natCast]
    · rw [if_neg c, if_neg c]
theorem nmF_size : ∀ (l : List ByteArray) (w : ByteArray) (N : Nat), (∀ x ∈ l, x.size ≤ N) → (nmF l w).1.size ≤ N
  | [], w, N, _ => Nat.zero_le _
  | x :: r, w, N, h => by
    rw [nmF]
    split
    · exact Nat.le_trans (extract_size x _ _) (h x (by simp))
    · exact nmF_size r w N (fun y hy => h y (by simp [hy]))
theorem spec_l5Named_eq (P : List ByteArray) (w : ByteArray) (hP : ∀ x ∈ P, x.size ≤ 1048576) (hl : P.length ≤ 1048577) (k : Nat) (hk : 4194400 < k) : spec_l5Named.f k P w = some (nmF (P.drop 1) w) := by
  unfold spec_l5Named.f
  cases P with
  | nil =>
    obtain ⟨k, rfl⟩ : ∃ q, k = q + 1 := ⟨k - 1, by omega⟩
    rw [spec_l5Named.l0, if_neg (by simp)]
    rfl
  | cons x r => exact spec_l5Named.l0_eq (x :: r) w hP hl r.length k 1 (by first | (simp; done) | (simp; omega)) (by simp at hl; omega)
theorem impl_parameter_eq (s w : ByteArray) (hs : s.size ≤ 1048576) (k : Nat) (hk : 4194400 < k) : impl_parameter.f k s w = some (nmF ((piecesB s).drop 1) w) := by
  have hl := piecesB_len s
  have hP : ∀ x ∈ piecesB s, x.size ≤ 1048576 := fun x hx => Nat.le_trans (piecesB_size s x hx) hs
  unfold impl_parameter.f
  rw [impl_pieces_eq s hs k (by omega), Option.bind_some]
  generalize piecesB s = P at hl hP
  obtain ⟨k, rfl⟩ : ∃ q, k = q + 1 := ⟨k - 1, by omega⟩
  rw [impl_parameter.l0]
  cases P with
  | nil => rw [if_neg (by simp)]; rfl
  | cons x r =>
    rw [if_pos (by first | (simp; done) | (simp; omega)), if_pos (by omega), if_pos (by first | (simp; done) | (simp; omega)), if_neg (by omega)]
    have w1 : wrap64 (0 + 1) = ((1 : Nat) : Int) := by decide +kernel
    rw [w1]
    exact impl_parameter.l0_eq (x :: r) w hP (by omega) r.length k 1 (by first | (simp; done) | (simp; omega)) (by simp at hl; omega) (by omega)
theorem hp_empty (w : ByteArray) (h : 0 < w.size) : strings_HasPrefix.f (⟨#[]⟩ : ByteArray) w = some false := by
  unfold strings_HasPrefix.f stringslite_HasPrefix.f
  rw [if_neg (by show ¬ ((0 : Nat) : Int) ≥ _; omega)]
  rfl
theorem type_both (a : ByteArray) (ha : a.size ≤ 1048576) (k0 : Nat) (hk : 8388608 < k0) : ∃ o, spec_l5Type.f (k0 + 7 + 1) a = some o ∧ impl_TypeOf.f (k0 + 7 + 1) a = some o := by
  have hl := piecesB_len a
  have hP : ∀ x ∈ piecesB a, x.size ≤ 1048576 := fun x hx => Nat.le_trans (piecesB_size a x hx) ha
  have e1 := spec_l5Pieces_eq a ha (k0 + 7 + 1) (by omega)
  have e2 := impl_pieces_eq a ha (k0 + 7 + 1) (by omega)
  have e3 := fun w => impl_parameter_eq a w ha (k0 + 7) (by omega)
  have e4 := fun w => spec_l5Named_eq (piecesB a) w hP (by omega) (k0 + 7 + 1) (by omega)
  unfold spec_l5Type.f impl_TypeOf.f
  rw [e1, e2]
  simp only [Option.bind_some]
  generalize piecesB a = P at hl hP e3 e4
  cases P with
  | nil =>
    refine ⟨(3, 0, 0, 0, 0, 0, 0), ?_, ?_⟩
    · rw [if_pos (by simp)] <;> rfl
    · rw [if_neg (by simp), impl_TypeOf.j0, hp_empty _ (by decide), Option.bind_some, if_neg (by decide), hp_empty _ (by decide), Option.bind_some, if_neg (by decide)]
  | cons x r =>
    have hx := hP x (by simp)
    have r0 : rdOf ByteArray.empty (x :: r) 0 = x := by simp [rdOf]
    have b1 := fun w => spec_l5Begins_eq x w hx (k0 + 7 + 1) (by omega)
    have s1 : impl_small.f (k0 + 7 + 1) x = _ := impl_small_eq x (k0 + 7 + 1) hx (by omega)
    have h1 : ∀ w, strings_HasPrefix.f (strOfNums ((bytesOf x).map low)) w = some (pf x w) := fun w => strings_HasPrefix_eq _ (lows_in x) w
    rw [if_neg (by first | (simp; done) | (simp; omega)), if_pos (by first | (simp; done) | (simp; omega)), if_pos (by first | (simp; done) | (simp; omega)), if_pos (by first | (simp; done) | (simp; omega)), r0, s1, Option.bind_some, impl_TypeOf.j0]
    simp only [b1, h1, e3, e4, Option.bind_some]
    by_cases c1 : pf x (⟨#[109, 117, 108, 116, 105, 112, 97, 114, 116, 47]⟩ : ByteArray) = true
    · exact ⟨(2, 0, 0, 0, 0, 0, 0), by rw [if_pos c1] <;> rfl, by rw [if_pos c1]⟩
    · by_cases c2 : pf x (⟨#[116, 101, 120, 116, 47]⟩ : ByteArray) = true
      · have hsz := nmF_size ((x :: r).drop 1) (⟨#[99, 104, 97, 114, 115, 101, 116, 61]⟩ : ByteArray) 1048576 (fun y hy => hP y (List.mem_of_mem_drop hy))
        generalize nmF ((x :: r).drop 1) (⟨#[99, 104, 97, 114, 115, 101, 116, 61]⟩ : ByteArray) = o at hsz
        by_cases c3 : o.2 = true
        · obtain ⟨v, c, q1, q2⟩ := charset_both o.1 (by omega) k0 (by omega)
          have q3 := spec_l2Of.mono o.1 (k0 + 7) v q1
          refine ⟨(1, v, 0, 0, 0, 0, 0), ?_, ?_⟩
          · rw [if_neg c1, if_pos c2, if_pos c3, q3] <;> rfl
          · rw [if_neg c1, if_pos c2, if_pos c3, q2]; rfl
        · exact ⟨(1, 1, 0, 0, 0, 0, 0), by rw [if_neg c1, if_pos c2, if_neg c3] <;> rfl, by rw [if_neg c1, if_pos c2, if_neg c3]⟩
      · exact ⟨(3, 0, 0, 0, 0, 0, 0), by rw [if_neg c1, if_neg c2] <;> rfl, by rw [if_neg c1, if_neg c2]⟩
theorem upO {α : Type} (f : Nat → Option α) (h : ∀ k, LeO (f k) (f (k + 1))) {k k' : Nat} {r : α} (hk : k ≤ k') (e : f k = some r) : f k' = some r := by
  induction hk with
  | refl => exact e
  | step _ ih => exact h _ _ ih
def typ (a : ByteArray) : Int × Int × Int × Int × Int × Int × Int := (impl_TypeOf.f (8400000 + 7 + 1) a).getD (0, 0, 0, 0, 0, 0, 0)
theorem typ_eq (a : ByteArray) (ha : a.size ≤ 1048576) (k : Nat) (hk : 9000000 < k) : spec_l5Type.f k a = some (typ a) ∧ impl_TypeOf.f k a = some (typ a) := by
  obtain ⟨o, h1, h2⟩ := type_both a ha 8400000 (by omega)
  have e : typ a = o := by unfold typ; rw [h2]; rfl
  rw [e]
  exact ⟨upO (fun k => spec_l5Type.f k a) (fun k => spec_l5Type.mono a k) (by omega) h1, upO (fun k => impl_TypeOf.f k a) (fun k => impl_TypeOf.mono a k) (by omega) h2⟩
theorem ofF_low (a b : ByteArray) (h : (lowS a).toList = (lowS b).toList) : ∀ l : List S151, ofF a l = ofF b l
  | [] => rfl
  | x :: xs => by unfold ofF; rw [h, ofF_low a b h xs]
theorem ofF_size (a : ByteArray) : ∀ l : List S151, (∀ x ∈ l, x.f1.size ≤ 1048576) → (ofF a l).1.size ≤ 1048576
  | [], _ => by show (0 : Nat) ≤ _; omega
  | x :: xs, h => by
    unfold ofF
    split
    · exact h x (by simp)
    · exact ofF_size a xs (fun y hy => h y (by simp [hy]))
def cteB : ByteArray := ⟨#[99, 111, 110, 116, 101, 110, 116, 45, 116, 114, 97, 110, 115, 102, 101, 114, 45, 101, 110, 99, 111, 100, 105, 110, 103]⟩
def ctB : ByteArray := ⟨#[99, 111, 110, 116, 101, 110, 116, 45, 116, 121, 112, 101]⟩
def bndB : ByteArray := ⟨#[98, 111, 117, 110, 100, 97, 114, 121, 61]⟩
theorem cte_low : (lowS (⟨#[67, 111, 110, 116, 101, 110, 116, 45, 84, 114, 97, 110, 115, 102, 101, 114, 45, 69, 110, 99, 111, 100, 105, 110, 103]⟩ : ByteArray)).toList = (lowS cteB).toList := by decide +kernel
theorem ct_low : (lowS (⟨#[67, 111, 110, 116, 101, 110, 116, 45, 84, 121, 112, 101]⟩ : ByteArray)).toList = (lowS ctB).toList := by decide +kernel
def codN (v : ByteArray) : Int := if (lowS v).toList = ([98, 97, 115, 101, 54, 52] : List UInt8) then 2 else if (lowS v).toList = ([113, 117, 111, 116, 101, 100, 45, 112, 114, 105, 110, 116, 97, 98, 108, 101] : List UInt8) then 3 else 1
theorem impl_codingOf_eq (v : ByteArray) (hv : v.size ≤ 1048576) (k : Nat) (hk : 1048577 < k) : impl_codingOf.f k v = some (codN v) := by
  unfold impl_codingOf.f codN lowS
  rw [impl_small_eq v k hv (by omega), Option.bind_some]
  split
  · rfl
  · split <;> rfl
theorem spec_l5Coding_eq (l : List S151) (hl : smallF l) (hv : ∀ x ∈ l, x.f1.size ≤ 1048576) (k : Nat) (hk : 2097155 < k) : spec_l5Coding.f k l = some (codN (ofF cteB l).1) := by
  have hs := ofF_size cteB l hv
  have hl1 := hl.1
  unfold spec_l5Coding.f
  rw [show (⟨#[99, 111, 110, 116, 101, 110, 116, 45, 116, 114, 97, 110, 115, 102, 101, 114, 45, 101, 110, 99, 111, 100, 105, 110, 103]⟩ : ByteArray) = cteB from rfl, spec_l4Of_eq l hl cteB (by decide) k (by omega), Option.bind_some, spec_l2Lower_eq _ k hs (by omega), Option.bind_some]
  unfold codN lowS
  split
  · rfl
  · split <;> rfl
def oneP (data : List Int) (f t : Nat) : S23 × ByteArray :=
  let h := parseF (((data.take t).drop f).length + 1) ((data.take t).drop f) 0 []
  if h.2.2 = true then
    if (ofF ctB h.1).2 = true then (⟨(typ (ofF ctB h.1).1).1, (typ (ofF ctB h.1).1).2.1, codN (ofF cteB h.1).1, wrap64 ((f : Int) + h.2.1), t, 0, 0⟩, if (typ (ofF ctB h.1).1).1 = 2 then (nmF ((piecesB (ofF ctB h.1).1).drop 1) bndB).1 else ⟨#[]⟩)
    else (⟨1, 1, codN (ofF cteB h.1).1, wrap64 ((f : Int) + h.2.1), t, 0, 0⟩, ⟨#[]⟩)
  else (⟨3, 0, 1, f, t, 0, 0⟩, ⟨#[]⟩)
theorem cutD_len (data : List Int) (f t : Nat) (h1 : f ≤ t) (h2 : t ≤ data.length) : ((data.take t).drop f).length = t - f := by rw [List.length_drop, List.length_take]; omega
theorem cutD_in (data : List Int) (hB : ∀ x ∈ data, 0 ≤ x ∧ x ≤ 255) (f t : Nat) : ∀ x ∈ (data.take t).drop f, 0 ≤ x ∧ x ≤ 255 := fun x hx => hB x (List.mem_of_mem_take (List.mem_of_mem_drop hx))
theorem parse_small (data : List Int) (hd : data.length ≤ 1048576) : smallF (parseF (data.length + 1) data 0 ([] : List S151)).1 ∧ ∀ x ∈ (parseF (data.length + 1) data 0 ([] : List S151)).1, x.f1.size ≤ 1048576 := by
  have h := parseF_ok data hd (data.length + 1) 0 [] (by omega) ⟨Nat.zero_le _, by simp⟩
  exact ⟨fldsOk_small _ _ h (by omega), fun x hx => (h.2 x hx).2⟩
theorem spec_l5One_eq (data : List Int) (hd : data.length ≤ 1048576) (hB : ∀ x ∈ data, 0 ≤ x ∧ x ≤ 255) (f t : Nat) (h1 : f ≤ t) (h2 : t ≤ data.length) (k : Nat) (hk : 9000000 < k) : ∃ u n, spec_l5One.f k data f t = some ((oneP data f t).1.f0, (oneP data f t).1.f1, (oneP data f t).1.f2, (oneP data f t).1.f3, (oneP data f t).1.f4, u, n, (oneP data f t).2) := by
  have hln := cutD_len data f t h1 h2
  have hin := cutD_in data hB f t
  unfold spec_l5One.f oneP
  rw [if_pos (by omega), if_pos (by omega), if_pos (by omega), Int.toNat_natCast, Int.toNat_natCast]
  generalize (data.take t).drop f = D at hln hin
  obtain ⟨hs1, hs2⟩ := parse_small D (by omega)
  have hp := (parse_both0 D (by omega) hin k (by omega)).1
  generalize parseF (D.length + 1) D 0 ([] : List S151) = h at hs1 hs2 hp
  have hl1 := hs1.1
  rw [hp, Option.bind_some]
  simp only
  by_cases c : h.2.2 = true
  · have hc := spec_l5Coding_eq h.1 hs1 hs2 k (by omega)
    have hsz := ofF_size ctB h.1 hs2
    rw [if_pos c, if_pos c, show (⟨#[99, 111, 110, 116, 101, 110, 116, 45, 116, 121, 112, 101]⟩ : ByteArray) = ctB from rfl, spec_l4Of_eq h.1 hs1 ctB (by decide) k (by omega), Option.bind_some]
    by_cases c2 : (ofF ctB h.1).2 = true
    · rw [if_pos c2, if_pos c2, (typ_eq _ hsz k hk).1, Option.bind_some]
      by_cases c3 : (typ (ofF ctB h.1).1).1 = 2
      · have hl := piecesB_len (ofF ctB h.1).1
        rw [if_pos c3, if_pos c3, spec_l5Pieces_eq _ hsz k (by omega), Option.bind_some, show (⟨#[98, 111, 117, 110, 100, 97, 114, 121, 61]⟩ : ByteArray) = bndB from rfl, spec_l5Named_eq _ bndB (fun x hx => Nat.le_trans (piecesB_size _ x hx) hsz) (by omega) k (by omega), Option.bind_some, hc, Option.bind_some]
        exact ⟨_, _, rfl⟩
      · rw [if_neg c3, if_neg c3, hc, Option.bind_some]
        exact ⟨_, _, rfl⟩
    · rw [if_neg c2, if_neg c2, hc, Option.bind_some]
      exact ⟨_, _, rfl⟩
  · rw [if_neg c, if_neg c]
    exact ⟨_, _, rfl⟩
def kindP (data : List Int) (i e : Nat) (mark : ByteArray) : Int :=
  if (strOfNums ((data.take e).drop i)).toList = ((⟨#[45, 45]⟩ : ByteArray) ++ mark).toList then 1
  else if (strOfNums ((data.take e).drop i)).toList = (((⟨#[45, 45]⟩ : ByteArray) ++ mark) ++ (⟨#[45, 45]⟩ : ByteArray)).toList then 2 else 0
def endP (t : Nat) (acc : List (Nat × Nat)) : Option Nat → List (Nat × Nat)
  | some o => acc ++ [(o, t)]
  | none => acc
def putP (acc : List (Nat × Nat)) (i : Nat) : Option Nat → List (Nat × Nat)
  | some o => acc ++ [(o, max o (i - 1))]
  | none => acc
def spansP (data : List Int) (mark : ByteArray) (t : Nat) : Nat → List (Nat × Nat) → Option Nat → Nat → List (Nat × Nat)
  | 0, acc, op, _ => endP t acc op
  | n + 1, acc, op, i =>
    if i < t then
      let e := i + lineLen ((data.take t).drop i)
      if kindP data i e mark = 2 then putP acc i op
      else if kindP data i e mark = 1 then spansP data mark t n (putP acc i op) (some (min (e + 1) t)) (min (e + 1) t)
      else spansP data mark t n acc op (min (e + 1) t)
    else endP t acc op
theorem spansP_end (data : List Int) (mark : ByteArray) (t n : Nat) (acc : List (Nat × Nat)) (op : Option Nat) (i : Nat) (h : t ≤ i) : spansP data mark t n acc op i = endP t acc op := by
  cases n with
  | zero => rfl
  | succ n => rw [spansP, if_neg (by omega)]
theorem kindP_in (data : List Int) (i e : Nat) (mark : ByteArray) : kindP data i e mark = 0 ∨ kindP data i e mark = 1 ∨ kindP data i e mark = 2 := by
  unfold kindP
  split
  · exact .inr (.inl rfl)
  · split
    · exact .inr (.inr rfl)
    · exact .inl rfl
theorem dd_size (mark : ByteArray) : ((⟨#[45, 45]⟩ : ByteArray) ++ mark).size = 2 + mark.size := by rw [ByteArray.size_append]; rfl
theorem spec_l5Line_eq (data : List Int) (hd : data.length ≤ 1048576) (mark : ByteArray) (hm : mark.size ≤ 1048576) (i e : Nat) (h1 : i ≤ e) (h2 : e ≤ data.length) : spec_l5Line.f data i e mark = some (kindP data i e mark) := by
  unfold spec_l5Line.f kindP
  rw [if_pos (by omega), if_pos (by omega), if_pos (by omega), if_pos (by omega), Int.toNat_natCast, Int.toNat_natCast]
  split
  · rfl
  · rw [if_pos (by rw [dd_size]; omega)]
    split <;> rfl
def opI : Option Nat → Int
  | some o => o
  | none => -1
theorem spec_spans_end (data : List Int) (mark : ByteArray) (t : Nat) (acc : List (Nat × Nat)) (op : Option Nat) (ha : acc.length ≤ 4194304) (i : Int) (h : (t : Int) ≤ i) (k : Nat) : spec_l5Spans.l0 (k + 1) data t mark (acc.map fun x => (⟨x.1, x.2⟩ : S127)) (opI op) i = some ((endP t acc op).map fun x => (⟨x.1, x.2⟩ : S127)) := by
  rw [spec_l5Spans.l0, if_neg (by omega)]
  cases op with
  | none => rw [if_neg (by show ¬ (-1 : Int) ≥ 0; omega)]; rfl
  | some o => rw [if_pos (by show (o : Int) ≥ 0; omega), if_pos (by rw [List.length_map]; omega)]; unfold endP; rw [List.map_append]; rfl
theorem wrap_pred (i : Nat) (h : i ≤ 1048577) : wrap64 ((i : Int) - 1) = (i : Int) - 1 := wrap64_in (by omega)
theorem putP_len (acc : List (Nat × Nat)) (i : Nat) (op : Option Nat) : (putP acc i op).length ≤ acc.length + 1 := by
  cases op with
  | none => show acc.length ≤ _; omega
  | some o => show (acc ++ [_]).length ≤ _; simp
theorem spec_spans (data : List Int) (hd : data.length ≤ 1048576) (mark : ByteArray) (hm : mark.size ≤ 1048576) (t : Nat) (ht : t ≤ data.length) : ∀ (n k i : Nat) (acc : List (Nat × Nat)) (op : Option Nat), t < i + n → (∀ o, op = some o → 1 ≤ o ∧ o ≤ i) → acc.length + n ≤ 4194304 → 3 * n + 1048600 < k →
    spec_l5Spans.l0 k data t mark (acc.map fun x => (⟨x.1, x.2⟩ : S127)) (opI op) i = some ((spansP data mark t n acc op i).map fun x => (⟨x.1, x.2⟩ : S127))
  | 0, k, i, acc, op, h, _, ha, hk => by
    obtain ⟨k, rfl⟩ : ∃ q, k = q + 1 := ⟨k - 1, by omega⟩
    rw [spec_spans_end data mark t acc op (by omega) i (by omega)]
    rfl
  | n + 1, k, i, acc, op, h, ho, ha, hk => by
    obtain ⟨k, rfl⟩ : ∃ q, k = q + 3 := ⟨k - 3, by omega⟩
    by_cases c : i < t
    · have hL : (data.take t).length = t := by rw [List.length_take]; omega
      have he := spec_l4End_eq (data.take t) (by omega) (k + 2) i (by omega) (by omega)
      have hle := lineLen_le ((data.take t).drop i)
      rw [List.length_drop, hL] at hle
      rw [spansP, if_pos c]
      simp only
      generalize lineLen ((data.take t).drop i) = m at he hle ⊢
      have hk1 := spec_l5Line_eq data hd mark hm i (i + m) (by omega) (by omega)
      rw [spec_l5Spans.l0, if_pos (by omega), if_pos (by omega), if_pos (by omega), Int.toNat_natCast, he, Option.bind_some, hk1, Option.bind_some]
      have go : ∀ (k' : Nat) (acc' : List (Nat × Nat)) (op' : Option Nat), acc'.length + n ≤ 4194304 → (∀ o, op' = some o → 1 ≤ o ∧ o ≤ i + m + 1 ∧ o ≤ t) → 3 * n + 1048600 < k' → spec_l5Spans.l0 k' data t mark (acc'.map fun x => (⟨x.1, x.2⟩ : S127)) (opI op') ((i + m + 1 : Nat) : Int) = some ((spansP data mark t n acc' op' (min (i + m + 1) t)).map fun x => (⟨x.1, x.2⟩ : S127)) := by
        intro k' acc' op' g1 g2 g3
        clear hk1 he
        by_cases d : i + m + 1 ≤ t
        · rw [Nat.min_eq_left d]
          exact spec_spans data hd mark hm t ht n k' (i + m + 1) acc' op' (by omega) (fun o e => ⟨(g2 o e).1, (g2 o e).2.1⟩) g1 g3
        · obtain ⟨k', rfl⟩ : ∃ q, k' = q + 1 := ⟨k' - 1, by omega⟩
          rw [spec_spans_end data mark t acc' op' (by omega) _ (by omega), spansP_end data mark t n acc' op' (min (i + m + 1) t) (by omega)]
      have hki := kindP_in data i (i + m) mark
      have hpl := putP_len acc i op
      have hput : ∀ x13 : Int, spec_l5Spans.j1 (k + 2) data t mark (acc.map fun x => (⟨x.1, x.2⟩ : S127)) (opI op) i ((i + m : Nat) : Int) x13 (decide (opI op ≥ 0)) = spec_l5Spans.j2 (k + 1) data t mark ((putP acc i op).map fun x => (⟨x.1, x.2⟩ : S127)) (opI op) ((i + m : Nat) : Int) x13 := by
        intro x13
        rw [spec_l5Spans.j1]
        cases op with
        | none => rw [if_neg (by show ¬ decide ((-1 : Int) ≥ 0) = true; decide)]; rfl
        | some o =>
          obtain ⟨o1, o2⟩ := ho o rfl
          rw [if_pos (by show decide ((o : Int) ≥ 0) = true; exact decide_eq_true (by omega)), wrap_pred i (by omega)]
          have hx : spec_l1Max.f (opI (some o)) ((i : Int) - 1) = some ((max o (i - 1) : Nat) : Int) := by
            show (if (o : Int) > (i : Int) - 1 then some (o : Int) else some ((i : Int) - 1)) = _
            by_cases d : (o : Int) > (i : Int) - 1
            · rw [if_pos d, show max o (i - 1) = o by omega]
            · rw [if_neg d, show ((max o (i - 1) : Nat) : Int) = (i : Int) - 1 by omega]
          rw [hx, Option.bind_some, if_pos (by rw [List.length_map]; omega)]
          unfold putP
          rw [List.map_append]
          rfl
      generalize kindP data i (i + m) mark = K at hki ⊢
      rcases hki with k0 | k1 | k2
      · rw [k0, if_neg (by decide), if_neg (by decide), if_neg (by decide), spec_l5Spans.j1, if_neg (by decide), spec_l5Spans.j2, if_neg (by decide), if_neg (by decide), wrap_succ (i + m) (by omega)]
        exact go k acc op (by omega) (fun o e => ⟨(ho o e).1, by have := (ho o e).2; omega, by have := (ho o e).2; omega⟩) (by omega)
      · rw [k1, if_pos (by decide), if_neg (by decide), if_pos rfl, hput, spec_l5Spans.j2, if_neg (by decide), if_pos rfl, wrap_succ (i + m) (by omega)]
        have hmn : spec_l1Min.f ((i + m + 1 : Nat) : Int) t = some (opI (some (min (i + m + 1) t))) := by
          show (if ((i + m + 1 : Nat) : Int) < (t : Int) then some ((i + m + 1 : Nat) : Int) else some (t : Int)) = some ((min (i + m + 1) t : Nat) : Int)
          by_cases d : i + m + 1 < t
          · rw [if_pos (by omega), show min (i + m + 1) t = i + m + 1 by omega]
          · rw [if_neg (by omega), show min (i + m + 1) t = t by omega]
        rw [hmn, Option.bind_some]
        exact go k (putP acc i op) (some (min (i + m + 1) t)) (by omega) (fun o e => by cases e; omega) (by omega)
      · rw [k2, if_pos (by decide), if_pos rfl, hput, spec_l5Spans.j2, if_pos rfl]
    · obtain ⟨k, rfl⟩ : ∃ q, k = q + 1 := ⟨k - 1, by omega⟩
      rw [spec_spans_end data mark t acc op (by omega) i (by omega), spansP, if_neg c]
def opN : Option Nat → Int
  | some o => o
  | none => 0
theorem impl_marked_end (data : List Int) (mark : ByteArray) (t : Nat) (acc : List (Nat × Nat)) (op : Option Nat) (ha : acc.length ≤ 4194304) (i : Int) (h : (t : Int) ≤ i) (k : Nat) : impl_parser_marked.l0 (k + 1) data t mark (acc.map fun x => (⟨x.1, x.2⟩ : S134)) op.isSome (opN op) i = some ((endP t acc op).map fun x => (⟨x.1, x.2⟩ : S134)) := by
  rw [impl_parser_marked.l0, if_neg (by omega)]
  cases op with
  | none => rw [if_neg (by decide)]; rfl
  | some o => rw [if_pos (by rfl), if_pos (by rw [List.length_map]; omega)]; unfold endP; rw [List.map_append]; rfl
theorem impl_marked_put (data : List Int) (mark : ByteArray) (t : Nat) (acc : List (Nat × Nat)) (op : Option Nat) (ha : acc.length ≤ 4194304) (i : Nat) (hi : i ≤ 1048576) (ho : ∀ o, op = some o → 1 ≤ o ∧ o ≤ i) (hm : mark.size ≤ 1048576) (x14 : Int) (s : ByteArray) (k : Nat) :
    impl_parser_marked.j2 (k + 1) data t mark (acc.map fun x => (⟨x.1, x.2⟩ : S134)) op.isSome (opN op) i x14 s true = if s.toList = ((⟨#[45, 45]⟩ : ByteArray) ++ mark).toList then impl_parser_marked.l0 k data t mark ((putP acc i op).map fun x => (⟨x.1, x.2⟩ : S134)) true x14 x14 else some ((putP acc i op).map fun x => (⟨x.1, x.2⟩ : S134)) := by
  rw [impl_parser_marked.j2, if_pos rfl]
  cases op with
  | none =>
    rw [if_neg (by decide), if_pos (by omega)]
    by_cases c : s.toList = ((⟨#[45, 45]⟩ : ByteArray) ++ mark).toList
    · rw [if_pos c, if_pos c, beq_iff_eq.mpr c]; rfl
    · rw [if_neg c, if_neg c]; rfl
  | some o =>
    obtain ⟨o1, o2⟩ := ho o rfl
    have hx : mx (opN (some o)) ((i : Int) - 1) = ((max o (i - 1) : Nat) : Int) := by
      show (if (o : Int) < (i : Int) - 1 then (i : Int) - 1 else (o : Int)) = _
      by_cases d : (o : Int) < (i : Int) - 1
      · rw [if_pos d, show ((max o (i - 1) : Nat) : Int) = (i : Int) - 1 by omega]
      · rw [if_neg d, show max o (i - 1) = o by omega]
    rw [if_pos (by rfl), if_pos (by rw [List.length_map]; omega), Option.bind_some, if_pos (by omega), wrap_pred i (by omega), hx]
    have hp : (acc.map fun x => (⟨x.1, x.2⟩ : S134)) ++ [(⟨opN (some o), ((max o (i - 1) : Nat) : Int)⟩ : S134)] = (putP acc i (some o)).map fun x => (⟨x.1, x.2⟩ : S134) := by
      unfold putP
      rw [List.map_append]
      rfl
    rw [hp]
    by_cases c : s.toList = ((⟨#[45, 45]⟩ : ByteArray) ++ mark).toList
    · rw [if_pos c, if_pos c, beq_iff_eq.mpr c]
    · rw [if_neg c, if_neg c]
theorem impl_marked_j1 (data : List Int) (hd : data.length ≤ 1048576) (mark : ByteArray) (hm : mark.size ≤ 1048576) (t : Nat) (ht : t ≤ data.length) (acc : List (Nat × Nat)) (op : Option Nat) (ha : acc.length ≤ 4194304) (i m : Nat) (hi : i + m ≤ t) (ho : ∀ o, op = some o → 1 ≤ o ∧ o ≤ i) (x14 : Int) (k : Nat) :
    impl_parser_marked.j1 (k + 2) data t mark (acc.map fun x => (⟨x.1, x.2⟩ : S134)) op.isSome (opN op) i m x14 = if kindP data i (i + m) mark = 2 then some ((putP acc i op).map fun x => (⟨x.1, x.2⟩ : S134)) else if kindP data i (i + m) mark = 1 then impl_parser_marked.l0 k data t mark ((putP acc i op).map fun x => (⟨x.1, x.2⟩ : S134)) true x14 x14 else impl_parser_marked.l0 k data t mark (acc.map fun x => (⟨x.1, x.2⟩ : S134)) op.isSome (opN op) x14 := by
  have w1 : wrap64 ((i : Int) + (m : Int)) = ((i + m : Nat) : Int) := by rw [wrap64_in (by omega)]; omega
  rw [impl_parser_marked.j1, w1]
  clear w1
  rw [if_pos (by omega), if_pos (by omega), if_pos (by omega), if_pos (by omega), Int.toNat_natCast, Int.toNat_natCast]
  unfold kindP
  generalize strOfNums ((data.take (i + m)).drop i) = s
  by_cases c : s.toList = ((⟨#[45, 45]⟩ : ByteArray) ++ mark).toList
  · rw [if_pos c, impl_marked_put data mark t acc op ha i (by omega) ho hm x14 s k, if_pos c, if_pos c, if_neg (by decide), if_pos rfl]
  · rw [if_neg c, if_pos (by rw [dd_size]; omega)]
    by_cases d : s.toList = (((⟨#[45, 45]⟩ : ByteArray) ++ mark) ++ (⟨#[45, 45]⟩ : ByteArray)).toList
    · rw [beq_iff_eq.mpr d, impl_marked_put data mark t acc op ha i (by omega) ho hm x14 s k, if_neg c, if_neg c, if_pos d, if_pos rfl]
    · rw [beq_eq_false_iff_ne.mpr d, impl_parser_marked.j2, if_neg (by decide), if_neg c, if_neg d, if_neg (by decide), if_neg (by decide)]
theorem impl_marked (data : List Int) (hd : data.length ≤ 1048576) (hB : ∀ x ∈ data, 0 ≤ x ∧ x ≤ 255) (mark : ByteArray) (hm : mark.size ≤ 1048576) (t : Nat) (ht : t ≤ data.length) : ∀ (n k i : Nat) (acc : List (Nat × Nat)) (op : Option Nat), t < i + n → (∀ o, op = some o → 1 ≤ o ∧ o ≤ i) → acc.length + n ≤ 4194304 → 3 * n + 10 < k →
    impl_parser_marked.l0 k data t mark (acc.map fun x => (⟨x.1, x.2⟩ : S134)) op.isSome (opN op) i = some ((spansP data mark t n acc op i).map fun x => (⟨x.1, x.2⟩ : S134))
  | 0, k, i, acc, op, h, _, ha, hk => by
    obtain ⟨k, rfl⟩ : ∃ q, k = q + 1 := ⟨k - 1, by omega⟩
    rw [impl_marked_end data mark t acc op (by omega) i (by omega)]
    rfl
  | n + 1, k, i, acc, op, h, ho, ha, hk => by
    obtain ⟨k, rfl⟩ : ∃ q, k = q + 3 := ⟨k - 3, by omega⟩
    by_cases c : i < t
    · have hL := cutD_len data i t (by omega) ht
      have hin := cutD_in data hB i t
      have hle := lineLen_le ((data.take t).drop i)
      rw [hL] at hle
      have hpl := putP_len acc i op
      have hx : bytes_IndexByte.f ((data.take t).drop i) 10 = some (match fst 10 ((data.take t).drop i) with | none => -1 | some j => (j : Int)) := by
        unfold bytes_IndexByte.f
        rw [if_pos (by omega), indexByte_fst 10 (by omega) _ hin] <;> (cases fst 10 ((data.take t).drop i) <;> rfl)
      have hj : impl_parser_marked.l0 (k + 3) data t mark (acc.map fun x => (⟨x.1, x.2⟩ : S134)) op.isSome (opN op) i = impl_parser_marked.j1 (k + 2) data t mark (acc.map fun x => (⟨x.1, x.2⟩ : S134)) op.isSome (opN op) i (lineLen ((data.take t).drop i)) ((min (i + lineLen ((data.take t).drop i) + 1) t : Nat) : Int) := by
        rw [impl_parser_marked.l0, if_pos (by omega), if_pos (by omega), if_pos (by omega), if_pos (by omega), Int.toNat_natCast, Int.toNat_natCast, hx, Option.bind_some]
        cases hf : fst 10 ((data.take t).drop i) with
        | none =>
          have hm' : lineLen ((data.take t).drop i) = t - i := by unfold lineLen; rw [hf]; exact hL
          show (if (-1 : Int) < 0 then _ else _) = _
          rw [if_pos (by decide), hm', show min (i + (t - i) + 1) t = t by omega, show wrap64 ((t : Int) - (i : Int)) = ((t - i : Nat) : Int) by rw [wrap64_in (by omega)]; omega]
        | some m =>
          have hlt := fst_lt 10 _ m hf
          have hm' : lineLen ((data.take t).drop i) = m := by unfold lineLen; rw [hf]; rfl
          show (if (m : Int) < 0 then _ else _) = _
          rw [if_neg (by omega), hm', show min (i + m + 1) t = i + m + 1 by omega, show wrap64 ((i : Int) + (m : Int)) = ((i + m : Nat) : Int) by rw [wrap64_in (by omega)]; omega, wrap_succ (i + m) (by omega)]
      rw [hj, spansP, if_pos c]
      simp only
      clear hj hx
      generalize lineLen ((data.take t).drop i) = m at hle ⊢
      rw [impl_marked_j1 data hd mark hm t ht acc op (by omega) i m (by omega) ho]
      split
      · rfl
      · split
        · exact impl_marked data hd hB mark hm t ht n k (min (i + m + 1) t) (putP acc i op) (some (min (i + m + 1) t)) (by omega) (fun o e => by cases e; omega) (by omega) (by omega)
        · exact impl_marked data hd hB mark hm t ht n k (min (i + m + 1) t) acc op (by omega) (fun o e => ⟨(ho o e).1, by have := (ho o e).2; omega⟩) (by omega) (by omega)
    · obtain ⟨k, rfl⟩ : ∃ q, k = q + 1 := ⟨k - 1, by omega⟩
      rw [impl_marked_end data mark t acc op (by omega) i (by omega), spansP, if_neg c]
theorem parseF_at (data : List Int) : ∀ (n i : Nat) (fs : List S151), i ≤ data.length → ∃ a : Nat, (parseF n data i fs).2.1 = (a : Int) ∧ a ≤ data.length
  | 0, _, _, _ => ⟨0, rfl, Nat.zero_le _⟩
  | n + 1, i, fs, hi => by
    unfold parseF
    by_cases c : i < data.length
    · rw [if_pos c]
      by_cases h0 : lineLen (data.drop i) = 0
      · rw [if_pos h0]; exact ⟨i + 1, rfl, c⟩
      · rw [if_neg h0]
        cases hl : lineF fs (strOfNums ((data.drop i).take (lineLen (data.drop i)))) with
        | none => exact ⟨0, rfl, Nat.zero_le _⟩
        | some f => exact parseF_at data n (min (i + lineLen (data.drop i) + 1) data.length) f (Nat.min_le_right _ _)
    · rw [if_neg c]; exact ⟨i, rfl, hi⟩
theorem oneP_at (data : List Int) (hd : data.length ≤ 1048576) (f t : Nat) (h1 : f ≤ t) (h2 : t ≤ data.length) : (∃ a : Nat, (oneP data f t).1.f3 = (a : Int) ∧ f ≤ a ∧ a ≤ t) ∧ (oneP data f t).1.f4 = (t : Int) := by
  have hL := cutD_len data f t h1 h2
  unfold oneP
  obtain ⟨a, ha, hle⟩ := parseF_at ((data.take t).drop f) (((data.take t).drop f).length + 1) 0 [] (Nat.zero_le _)
  rw [hL] at hle
  simp only
  rw [ha]
  have w : wrap64 ((f : Int) + (a : Int)) = ((f + a : Nat) : Int) := by rw [wrap64_in (by omega)]; omega
  rw [w]
  clear w
  by_cases c : (parseF (((data.take t).drop f).length + 1) ((data.take t).drop f) 0 ([] : List S151)).2.2 = true
  · rw [if_pos c]
    by_cases c2 : (ofF ctB (parseF (((data.take t).drop f).length + 1) ((data.take t).drop f) 0 ([] : List S151)).1).2 = true
    · rw [if_pos c2]
      exact ⟨⟨f + a, rfl, by omega, by omega⟩, rfl⟩
    · rw [if_neg c2]
      exact ⟨⟨f + a, rfl, by omega, by omega⟩, rfl⟩
  · rw [if_neg c]
    exact ⟨⟨f, rfl, by omega, by omega⟩, rfl⟩
theorem oneP_mark (data : List Int) (hd : data.length ≤ 1048576) (f t : Nat) (h1 : f ≤ t) (h2 : t ≤ data.length) : (oneP data f t).2.size ≤ 1048576 := by
  have hL := cutD_len data f t h1 h2
  have hs := (parse_small ((data.take t).drop f) (by omega)).2
  unfold oneP
  simp only
  generalize parseF (((data.take t).drop f).length + 1) ((data.take t).drop f) 0 ([] : List S151) = h at hs
  by_cases c : h.2.2 = true
  · rw [if_pos c]
    by_cases c2 : (ofF ctB h.1).2 = true
    · rw [if_pos c2]
      simp only
      split
      · exact nmF_size _ _ 1048576 (fun x hx => Nat.le_trans (piecesB_size _ x (List.mem_of_mem_drop hx)) (ofF_size ctB h.1 hs))
      · show (0 : Nat) ≤ _; omega
    · rw [if_neg c2]; show (0 : Nat) ≤ _; omega
  · rw [if_neg c]; show (0 : Nat) ≤ _; omega
theorem endP_in (t i0 : Nat) (acc : List (Nat × Nat)) (op : Option Nat) (ha : ∀ x ∈ acc, i0 ≤ x.1 ∧ x.1 ≤ x.2 ∧ x.2 ≤ t) (ho : ∀ o, op = some o → i0 ≤ o ∧ o ≤ t) : ∀ x ∈ endP t acc op, i0 ≤ x.1 ∧ x.1 ≤ x.2 ∧ x.2 ≤ t := by
  cases op with
  | none => exact ha
  | some o =>
    intro x hx
    rcases List.mem_append.1 hx with h | h
    · exact ha x h
    · obtain rfl := List.mem_singleton.1 h
      have := ho o rfl
      exact ⟨this.1, this.2, Nat.le_refl _⟩
theorem putP_in (t i0 i : Nat) (acc : List (Nat × Nat)) (op : Option Nat) (ha : ∀ x ∈ acc, i0 ≤ x.1 ∧ x.1 ≤ x.2 ∧ x.2 ≤ t) (ho : ∀ o, op = some o → i0 ≤ o ∧ o ≤ i) (hi : i ≤ t) : ∀ x ∈ putP acc i op, i0 ≤ x.1 ∧ x.1 ≤ x.2 ∧ x.2 ≤ t := by
  cases op with
  | none => exact ha
  | some o =>
    intro x hx
    rcases List.mem_append.1 hx with h | h
    · exact ha x h
    · obtain rfl := List.mem_singleton.1 h
      have := ho o rfl
      exact ⟨this.1, by show o ≤ max o (i - 1); omega, by show max o (i - 1) ≤ t; omega⟩
theorem spansP_in (data : List Int) (mark : ByteArray) (t i0 : Nat) : ∀ (n i : Nat) (acc : List (Nat × Nat)) (op : Option Nat), (∀ x ∈ acc, i0 ≤ x.1 ∧ x.1 ≤ x.2 ∧ x.2 ≤ t) → (∀ o, op = some o → i0 ≤ o ∧ o ≤ i ∧ o ≤ t) → i0 ≤ i → ∀ x ∈ spansP data mark t n acc op i, i0 ≤ x.1 ∧ x.1 ≤ x.2 ∧ x.2 ≤ t
  | 0, i, acc, op, ha, ho, _ => endP_in t i0 acc op ha (fun o e => ⟨(ho o e).1, (ho o e).2.2⟩)
  | n + 1, i, acc, op, ha, ho, hi => by
    unfold spansP
    by_cases c : i < t
    · rw [if_pos c]
      simp only
      have hp := putP_in t i0 i acc op ha (fun o e => ⟨(ho o e).1, (ho o e).2.1⟩) (by omega)
      split
      · exact hp
      · split
        · exact spansP_in data mark t i0 n _ _ _ hp (fun o e => by cases e; omega) (by omega)
        · exact spansP_in data mark t i0 n _ acc op ha (fun o e => by have := ho o e; omega) (by omega)
    · rw [if_neg c]
      exact endP_in t i0 acc op ha (fun o e => ⟨(ho o e).1, (ho o e).2.2⟩)
theorem spansP_len (data : List Int) (mark : ByteArray) (t : Nat) : ∀ (n i : Nat) (acc : List (Nat × Nat)) (op : Option Nat), (spansP data mark t n acc op i).length ≤ acc.length + n + 1
  | 0, i, acc, op => by
    show (endP t acc op).length ≤ _
    cases op with
    | none => show acc.length ≤ _; omega
    | some o => show (acc ++ [_]).length ≤ _; simp
  | n + 1, i, acc, op => by
    have hp := putP_len acc i op
    have he : (endP t acc op).length ≤ acc.length + 1 := by
      cases op with
      | none => show acc.length ≤ _; omega
      | some o => show (acc ++ [_]).length ≤ _; simp
    unfold spansP
    by_cases c : i < t
    · rw [if_pos c]
      simp only
      split
      · omega
      · split
        · have := spansP_len data mark t n (min (i + lineLen ((data.take t).drop i) + 1) t) (putP acc i op) (some (min (i + lineLen ((data.take t).drop i) + 1) t))
          omega
        · have := spansP_len data mark t n (min (i + lineLen ((data.take t).drop i) + 1) t) acc op
          omega
    · rw [if_neg c]; omega
def kidsP (g : List S23 → Nat → Nat → Int → Int → List S23) (here : Int) : List (Nat × Nat) → Nat → List S23 → List S23
  | [], _, l => l
  | s :: ss, i, l => kidsP g here ss (i + 1) (if l.length < 8 then g l s.1 s.2 here ((i + 1 : Nat) : Int) else l)
def nowP (data : List Int) (l : List S23) (f t : Nat) (u n : Int) : List S23 := l ++ [⟨(oneP data f t).1.f0, (oneP data f t).1.f1, (oneP data f t).1.f2, (oneP data f t).1.f3, (oneP data f t).1.f4, u, n⟩]
def spP (data : List Int) (f t : Nat) : List (Nat × Nat) := spansP data (oneP data f t).2 t (t + 1) [] none ((oneP data f t).1.f3).toNat
def addP (data : List Int) : Nat → List S23 → Nat → Nat → Int → Int → List S23
  | 0, l, _, _, _, _ => l
  | d + 1, l, f, t, u, n =>
    if (oneP data f t).1.f0 = 2 ∧ 1 ≤ d ∧ 1 ≤ (oneP data f t).2.size ∧ (oneP data f t).2.size ≤ 20 then kidsP (addP data d) l.length (spP data f t) 0 (nowP data l f t u n) else nowP data l f t u n
theorem kidsP_full (g : List S23 → Nat → Nat → Int → Int → List S23) (here : Int) : ∀ (ss : List (Nat × Nat)) (i : Nat) (l : List S23), ¬ l.length < 8 → kidsP g here ss i l = l
  | [], _, _, _ => rfl
  | s :: ss, i, l, h => by rw [kidsP, if_neg h]; exact kidsP_full g here ss (i + 1) l h
theorem kidsP_len (g : List S23 → Nat → Nat → Int → Int → List S23) (here : Int) (hg : ∀ l a b u n, l.length < 8 → (g l a b u n).length ≤ 8) : ∀ (ss : List (Nat × Nat)) (i : Nat) (l : List S23), l.length ≤ 8 → (kidsP g here ss i l).length ≤ 8
  | [], _, _, h => h
  | s :: ss, i, l, h => by
    rw [kidsP]
    refine kidsP_len g here hg ss (i + 1) _ ?_
    split
    · next c => exact hg l _ _ _ _ c
    · exact h
theorem nowP_len (data : List Int) (l : List S23) (f t : Nat) (u n : Int) : (nowP data l f t u n).length = l.length + 1 := by unfold nowP; simp
theorem addP_len (data : List Int) : ∀ (d : Nat) (l : List S23) (f t : Nat) (u n : Int), l.length < 8 → (addP data d l f t u n).length ≤ 8
  | 0, l, _, _, _, _, h => by rw [addP]; omega
  | d + 1, l, f, t, u, n, h => by
    rw [addP]
    have := nowP_len data l f t u n
    split
    · exact kidsP_len (addP data d) l.length (fun l a b u n hl => addP_len data d l a b u n hl) _ _ _ (by omega)
    · omega
theorem rdS (ss : List (Nat × Nat)) (j : Nat) (h : j < ss.length) : rd_T127 (ss.map fun x => (⟨x.1, x.2⟩ : S127)) (j : Int) = ⟨ss[j].1, ss[j].2⟩ := by
  unfold rd_T127
  rw [Int.toNat_natCast, List.getD_eq_getElem?_getD, List.getElem?_map, List.getElem?_eq_getElem h]
  rfl
theorem rdI (ss : List (Nat × Nat)) (j : Nat) (h : j < ss.length) : rd_T134 (ss.map fun x => (⟨x.1, x.2⟩ : S134)) (j : Int) = ⟨ss[j].1, ss[j].2⟩ := by
  unfold rd_T134
  rw [Int.toNat_natCast, List.getD_eq_getElem?_getD, List.getElem?_map, List.getElem?_eq_getElem h]
  rfl
theorem spec_kids (data : List Int) (g : List S23 → Nat → Nat → Int → Int → List S23) (ss : List (Nat × Nat)) (hl : ss.length ≤ 1048580) (deep here : Int) (K : Nat) (hg : ∀ (l : List S23) (s : Nat × Nat) (n : Int) (k : Nat), s ∈ ss → l.length < 8 → K < k → spec_l5Add.f k l data s.1 s.2 here n (wrap64 (deep + 1)) = some (g l s.1 s.2 here n)) : ∀ (n j k : Nat) (l : List S23), ss.length = j + n → K + n + 1 < k → spec_l5Add.l0 k l data deep here (ss.map fun x => (⟨x.1, x.2⟩ : S127)) j = some (kidsP g here (ss.drop j) j l)
  | 0, j, k, l, h, hk => by
    obtain ⟨k, rfl⟩ : ∃ q, k = q + 1 := ⟨k - 1, by omega⟩
    rw [spec_l5Add.l0, if_neg (by rw [List.length_map]; omega), List.drop_eq_nil_of_le (by omega)]
    rfl
  | n + 1, j, k, l, h, hk => by
    obtain ⟨k, rfl⟩ : ∃ q, k = q + 1 := ⟨k - 1, by omega⟩
    have hj : j < ss.length := by omega
    rw [spec_l5Add.l0, if_pos (by rw [List.length_map]; omega)]
    by_cases c : l.length < 8
    · rw [if_pos (by omega), if_pos (by omega), rdS ss j hj, wrap_succ j (by omega)]
      rw [hg l ss[j] ((j + 1 : Nat) : Int) k (List.getElem_mem hj) c (by omega), Option.bind_some, spec_kids data g ss hl deep here K hg n (j + 1) k _ (by omega) (by omega), List.drop_eq_getElem_cons hj, kidsP, if_pos c]
    · rw [if_neg (by omega), kidsP_full g here _ _ _ c]
theorem impl_kids (data : List Int) (g : List S23 → Nat → Nat → Int → Int → List S23) (ss : List (Nat × Nat)) (hl : ss.length ≤ 1048580) (deep here : Int) (K : Nat) (hg : ∀ (l : List S23) (s : Nat × Nat) (n : Int) (k : Nat), s ∈ ss → l.length ≤ 8 → K < k → impl_parser_part.f k data s.1 s.2 here n (wrap64 (deep + 1)) l = some (if l.length < 8 then g l s.1 s.2 here n else l)) (hg8 : ∀ l a b u n, l.length < 8 → (g l a b u n).length ≤ 8) : ∀ (n j k : Nat) (l : List S23), ss.length = j + n → l.length ≤ 8 → K + n + 1 < k → impl_parser_part.l0 k deep here (ss.map fun x => (⟨x.1, x.2⟩ : S134)) (ss.length : Int) j data l = some (kidsP g here (ss.drop j) j l)
  | 0, j, k, l, h, _, hk => by
    obtain ⟨k, rfl⟩ : ∃ q, k = q + 1 := ⟨k - 1, by omega⟩
    rw [impl_parser_part.l0, if_neg (by omega), List.drop_eq_nil_of_le (by omega)]
    rfl
  | n + 1, j, k, l, h, h8, hk => by
    obtain ⟨k, rfl⟩ : ∃ q, k = q + 1 := ⟨k - 1, by omega⟩
    have hj : j < ss.length := by omega
    rw [impl_parser_part.l0, if_pos (by omega), if_pos (by omega), if_pos (by rw [List.length_map]; omega), rdI ss j hj, wrap_succ j (by omega)]
    have h8' : (if l.length < 8 then g l ss[j].1 ss[j].2 here ((j + 1 : Nat) : Int) else l).length ≤ 8 := by
      split
      · next c => exact hg8 _ _ _ _ _ c
      · exact h8
    rw [hg l ss[j] ((j + 1 : Nat) : Int) k (List.getElem_mem hj) h8 (by omega), Option.bind_some, impl_kids data g ss hl deep here K hg hg8 n (j + 1) k _ (by omega) h8' (by omega), List.drop_eq_getElem_cons hj, kidsP]
theorem in_eq2 (a : Int) : spec_l1In.f a 1 20 = some (decide (1 ≤ a ∧ a ≤ 20)) ∧ impl_within.f a 1 20 = some (decide (1 ≤ a ∧ a ≤ 20)) := by
  have : ∀ x : Option Bool, x = (if a ≥ 1 then (some (decide (a ≤ 20))) else (some false)) → x = some (decide (1 ≤ a ∧ a ≤ 20)) := by
    intro x hx
    rw [hx]
    by_cases h : a ≥ 1
    · rw [if_pos h]
      by_cases h2 : a ≤ 20
      · rw [decide_eq_true h2, decide_eq_true ⟨h, h2⟩]
      · rw [decide_eq_false h2, decide_eq_false (fun q => h2 q.2)]
    · rw [if_neg h, decide_eq_false (fun q => h q.1)]
  exact ⟨this _ rfl, this _ rfl⟩
theorem spec_add (M : Nat → Nat) (hM0 : ∀ d, 9000000 < M d) (hM : ∀ d, M d + 4194304 ≤ M (d + 1)) (data : List Int) (hd : data.length ≤ 1048576) (hB : ∀ x ∈ data, 0 ≤ x ∧ x ≤ 255) : ∀ (d : Nat) (l : List S23) (f t : Nat) (u n : Int) (k : Nat), d ≤ 2 → l.length < 8 → f ≤ t → t ≤ data.length → M d < k → spec_l5Add.f k l data f t u n (3 - (d : Int)) = some (addP data (d + 1) l f t u n) := by
  intro d
  induction d with
  | zero =>
    intro l f t u n k _ hl h1 h2 hk
    have m0 := hM0 0
    obtain ⟨k, rfl⟩ : ∃ q, k = q + 2 := ⟨k - 2, by omega⟩
    obtain ⟨a, b, h⟩ := spec_l5One_eq data hd hB f t h1 h2 (k + 1) (by omega)
    have hz : ¬ ((oneP data f t).1.f0 = 2 ∧ 1 ≤ 0 ∧ 1 ≤ (oneP data f t).2.size ∧ (oneP data f t).2.size ≤ 20) := fun q => absurd q.2.1 (by decide)
    rw [spec_l5Add.f, h, Option.bind_some, if_pos (by omega), Option.bind_some, addP, if_neg hz]
    simp only
    unfold nowP
    split
    · rw [if_pos (by omega), spec_l5Add.j0, if_pos rfl]
    · rw [spec_l5Add.j0, if_pos rfl]
  | succ d ih =>
    intro l f t u n k hdd hl h1 h2 hk
    have m0 := hM0 (d + 1)
    have m1 := hM0 d
    have m2 := hM d
    generalize M (d + 1) = M1 at m0 m2 hk
    generalize hMd : M d = M0 at m1 m2 ih
    clear hMd
    obtain ⟨k, rfl⟩ : ∃ q, k = q + 2 := ⟨k - 2, by omega⟩
    obtain ⟨a, b, h⟩ := spec_l5One_eq data hd hB f t h1 h2 (k + 1) (by omega)
    obtain ⟨⟨p, p1, p2, p3⟩, p4⟩ := oneP_at data hd f t h1 h2
    have hm := oneP_mark data hd f t h1 h2
    rw [spec_l5Add.f, h, Option.bind_some, if_pos (by omega), Option.bind_some, addP]
    simp only
    by_cases c : (oneP data f t).1.f0 = 2
    · rw [if_pos c, if_neg (by omega), (in_eq2 _).1, Option.bind_some]
      by_cases c2 : 1 ≤ (oneP data f t).2.size ∧ (oneP data f t).2.size ≤ 20
      · have hsp : spec_l5Spans.f k data (oneP data f t).1.f3 (oneP data f t).1.f4 (oneP data f t).2 = some ((spP data f t).map fun x => (⟨x.1, x.2⟩ : S127)) := by
          unfold spec_l5Spans.f spP
          rw [p1, p4, Int.toNat_natCast]
          exact spec_spans data hd _ hm t h2 (t + 1) k p [] none (by omega) (fun o e => by cases e) (by simp only [List.length_nil]; omega) (by omega)
        have hin : ∀ s ∈ spP data f t, s.1 ≤ s.2 ∧ s.2 ≤ data.length := fun s hs => by
          have := spansP_in data (oneP data f t).2 t 0 (t + 1) _ [] none (by simp) (fun o e => by cases e) (Nat.zero_le _) s hs
          omega
        have hln : (spP data f t).length ≤ 1048580 := by
          have := spansP_len data (oneP data f t).2 t (t + 1) ((oneP data f t).1.f3).toNat [] none
          unfold spP
          simp only [List.length_nil] at this
          omega
        rw [if_pos ⟨c, by omega, c2⟩, decide_eq_true (by omega), Bool.not_true, spec_l5Add.j0, if_neg (by decide), hsp, Option.bind_some]
        have := spec_kids data (addP data (d + 1)) (spP data f t) hln (3 - ((d + 1 : Nat) : Int)) l.length M0 (fun l2 s n k hs hl8 hk2 => by
          rw [show wrap64 (3 - ((d + 1 : Nat) : Int) + 1) = 3 - (d : Int) by rw [wrap64_in (by omega)]; omega]
          exact ih l2 s.1 s.2 l.length n k (by omega) hl8 (hin s hs).1 (hin s hs).2 hk2) (spP data f t).length 0 k (nowP data l f t u n) (by omega) (by omega)
        rw [List.drop_zero] at this
        exact this
      · rw [if_neg (fun q => c2 q.2.2), decide_eq_false (by omega), Bool.not_false, spec_l5Add.j0, if_pos rfl]
        rfl
    · rw [if_neg c, if_neg (fun q => c q.1), spec_l5Add.j0, if_pos rfl]
      rfl
theorem impl_j12 (data : List Int) (x5 : Int) (v : ByteArray) (l : List S23) (o0 o1 o2 o3 o4 u n : Int) (hl : l.length < 8) (st : Bool) (k : Nat) (h5 : (decide ((wrap64 (x5 + 1)) ≥ 3)) = st) :
    impl_parser_part.j1 (k + 1) x5 v data l o0 o1 o2 o3 o4 u n = impl_parser_part.j2 k x5 v (if o0 = 2 then st else true) data (l ++ [⟨o0, o1, o2, o3, o4, u, n⟩]) o0 o1 o2 o3 o4 u n := by
  rw [impl_parser_part.j1, if_pos (by omega), Option.bind_some]
  by_cases c : o0 = 2
  · rw [if_pos c, if_pos c, h5]
  · rw [if_neg c, if_neg c]
theorem impl_j2 (data : List Int) (x5 : Int) (v : ByteArray) (hv : v.size ≤ 1048576) (l : List S23) (o0 o1 o2 o3 o4 u n : Int) (k : Nat) (hk : 9000000 < k) :
    impl_parser_part.j2 (k + 2) x5 v false data l o0 o1 o2 o3 o4 u n = if 1 ≤ (nmF ((piecesB v).drop 1) bndB).1.size ∧ (nmF ((piecesB v).drop 1) bndB).1.size ≤ 20 then ((impl_parser_marked.f k data o3 o4 (nmF ((piecesB v).drop 1) bndB).1).bind fun t414 => impl_parser_part.l0 k x5 (wrap64 ((l.length : Int) - 1)) t414 (t414.length : Int) 0 data l) else some l := by
  rw [impl_parser_part.j2, if_neg (by decide), show (⟨#[98, 111, 117, 110, 100, 97, 114, 121, 61]⟩ : ByteArray) = bndB from rfl, impl_parameter_eq v bndB hv (k + 1) (by omega), Option.bind_some]
  have hf : ∀ q : List ByteArray, (nmF q bndB).2 = true ∨ (nmF q bndB).1 = (⟨#[]⟩ : ByteArray) := by
    intro q
    induction q with
    | nil => exact .inr rfl
    | cons x r ih =>
      unfold nmF
      split
      · exact .inl rfl
      · exact ih
  have hf := hf ((piecesB v).drop 1)
  generalize nmF ((piecesB v).drop 1) bndB = o at hf
  by_cases c : o.2 = true
  · rw [if_pos c, (in_eq2 _).2, Option.bind_some]
    by_cases c2 : 1 ≤ o.1.size ∧ o.1.size ≤ 20
    · rw [if_pos c2, decide_eq_true (by omega), Bool.not_true, impl_parser_part.j3, if_neg (by decide)]
      rfl
    · rw [if_neg c2, decide_eq_false (by omega), Bool.not_false, impl_parser_part.j3, if_pos rfl]
  · have hz : o.1.size = 0 := by rw [hf.resolve_left c]; rfl
    rw [if_neg c, if_neg (by omega), impl_parser_part.j3, if_pos rfl]
theorem impl_step (data : List Int) (hd : data.length ≤ 1048576) (hB : ∀ x ∈ data, 0 ≤ x ∧ x ≤ 255) (l : List S23) (hl : l.length < 8) (f t : Nat) (h1 : f ≤ t) (h2 : t ≤ data.length) (u n x5 : Int) (st : Bool) (h5 : (decide ((wrap64 (x5 + 1)) ≥ 3)) = st) (q : Nat) (hq : 9000000 < q) :
    impl_parser_part.f (q + 5) data f t u n x5 l = if (oneP data f t).1.f0 = 2 ∧ st = false ∧ 1 ≤ (oneP data f t).2.size ∧ (oneP data f t).2.size ≤ 20 then ((impl_parser_marked.f q data (oneP data f t).1.f3 (oneP data f t).1.f4 (oneP data f t).2).bind fun t414 => impl_parser_part.l0 q x5 (wrap64 (((nowP data l f t u n).length : Int) - 1)) t414 (t414.length : Int) 0 data (nowP data l f t u n)) else some (nowP data l f t u n) := by
  have hL := cutD_len data f t h1 h2
  have hin := cutD_in data hB f t
  obtain ⟨D, hD⟩ : ∃ D, D = (data.take t).drop f := ⟨_, rfl⟩
  rw [← hD] at hL hin
  obtain ⟨hs1, hs2⟩ := parse_small D (by omega)
  have hp := (parse_both0 D (by omega) hin (q + 4) (by omega)).2
  obtain ⟨h, hh⟩ : ∃ h, h = parseF (D.length + 1) D 0 ([] : List S151) := ⟨_, rfl⟩
  rw [← hh] at hs1 hs2 hp
  have hl1 := hs1.1
  rw [impl_parser_part.f, if_neg (by omega), if_pos (by omega), if_pos (by omega), if_pos (by omega), Int.toNat_natCast, Int.toNat_natCast, ← hD, hp, Option.bind_some]
  have plain : ∀ (o0 o1 o2 o3 o4 : Int) (v m : ByteArray), oneP data f t = (⟨o0, o1, o2, o3, o4, 0, 0⟩, m) → ¬ o0 = 2 → impl_parser_part.j1 (q + 3) x5 v data l o0 o1 o2 o3 o4 u n = if (oneP data f t).1.f0 = 2 ∧ st = false ∧ 1 ≤ (oneP data f t).2.size ∧ (oneP data f t).2.size ≤ 20 then ((impl_parser_marked.f q data (oneP data f t).1.f3 (oneP data f t).1.f4 (oneP data f t).2).bind fun t414 => impl_parser_part.l0 q x5 (wrap64 (((nowP data l f t u n).length : Int) - 1)) t414 (t414.length : Int) 0 data (nowP data l f t u n)) else some (nowP data l f t u n) := by
    intro o0 o1 o2 o3 o4 v m ho h0
    rw [impl_j12 data x5 v l o0 o1 o2 o3 o4 u n hl st (q + 2) h5, if_neg h0, impl_parser_part.j2, if_pos rfl, if_neg (by rw [ho]; exact fun z => h0 z.1)]
    unfold nowP
    rw [ho]
  by_cases c : h.2.2 = true
  · have hsz := ofF_size ctB h.1 hs2
    have e1 : impl_fieldOf.f (q + 4) h.1 (⟨#[67, 111, 110, 116, 101, 110, 116, 45, 84, 121, 112, 101]⟩ : ByteArray) = some (ofF ctB h.1) := by rw [impl_fieldOf_eq h.1 hs1 _ (by decide) (q + 4) (by omega), ofF_low _ ctB ct_low]
    have e2 : impl_fieldOf.f (q + 3) h.1 (⟨#[67, 111, 110, 116, 101, 110, 116, 45, 84, 114, 97, 110, 115, 102, 101, 114, 45, 69, 110, 99, 111, 100, 105, 110, 103]⟩ : ByteArray) = some (ofF cteB h.1) := by rw [impl_fieldOf_eq h.1 hs1 _ (by decide) (q + 3) (by omega), ofF_low _ cteB cte_low]
    have e3 : impl_codingOf.f (q + 3) (ofF cteB h.1).1 = some (codN (ofF cteB h.1).1) := impl_codingOf_eq _ (ofF_size cteB h.1 hs2) (q + 3) (by omega)
    rw [if_pos c, e1, Option.bind_some]
    by_cases c2 : (ofF ctB h.1).2 = true
    · have hT := (typ_eq _ hsz (q + 4) (by omega)).2
      have ho : oneP data f t = (⟨(typ (ofF ctB h.1).1).1, (typ (ofF ctB h.1).1).2.1, codN (ofF cteB h.1).1, wrap64 ((f : Int) + h.2.1), t, 0, 0⟩, if (typ (ofF ctB h.1).1).1 = 2 then (nmF ((piecesB (ofF ctB h.1).1).drop 1) bndB).1 else ⟨#[]⟩) := by
        unfold oneP
        rw [← hD, ← hh]
        simp only
        rw [if_pos c, if_pos c2]
      rw [if_pos c2, hT, Option.bind_some, impl_parser_part.j0, if_pos c, e2, Option.bind_some, e3, Option.bind_some]
      by_cases c3 : (typ (ofF ctB h.1).1).1 = 2
      · rw [if_pos c3] at ho
        rw [impl_j12 data x5 _ l _ _ _ _ _ u n hl st (q + 2) h5, if_pos c3]
        unfold nowP
        rw [ho]
        simp only
        cases st with
        | true => rw [impl_parser_part.j2, if_pos rfl, if_neg (fun z => absurd z.2.1 (by decide))]
        | false =>
          rw [impl_j2 data x5 _ hsz _ _ _ _ _ _ u n q hq]
          by_cases c4 : 1 ≤ (nmF ((piecesB (ofF ctB h.1).1).drop 1) bndB).1.size ∧ (nmF ((piecesB (ofF ctB h.1).1).drop 1) bndB).1.size ≤ 20
          · rw [if_pos c4, if_pos ⟨c3, rfl, c4⟩]
          · rw [if_neg c4, if_neg (fun z => c4 z.2.2)]
      · exact plain _ _ _ _ _ _ _ ho c3
    · have ho : oneP data f t = (⟨1, 1, codN (ofF cteB h.1).1, wrap64 ((f : Int) + h.2.1), t, 0, 0⟩, ⟨#[]⟩) := by
        unfold oneP
        rw [← hD, ← hh]
        simp only
        rw [if_pos c, if_neg c2]
      rw [if_neg c2, impl_parser_part.j0, if_pos c, e2, Option.bind_some, e3, Option.bind_some]
      exact plain _ _ _ _ _ _ _ ho (by decide)
  · have ho : oneP data f t = (⟨3, 0, 1, f, t, 0, 0⟩, ⟨#[]⟩) := by
      unfold oneP
      rw [← hD, ← hh]
      simp only
      rw [if_neg c]
    rw [if_neg c, impl_parser_part.j0, if_neg c]
    exact plain _ _ _ _ _ _ _ ho (by decide)
theorem impl_add (M : Nat → Nat) (hM0 : ∀ d, 9000010 < M d) (hM : ∀ d, M d + 4194304 ≤ M (d + 1)) (data : List Int) (hd : data.length ≤ 1048576) (hB : ∀ x ∈ data, 0 ≤ x ∧ x ≤ 255) : ∀ (d : Nat) (l : List S23) (f t : Nat) (u n : Int) (k : Nat), d ≤ 2 → l.length ≤ 8 → f ≤ t → t ≤ data.length → M (d + 1) < k → impl_parser_part.f k data f t u n (2 - (d : Int)) l = some (if l.length < 8 then addP data (d + 1) l f t u n else l) := by
  intro d
  induction d with
  | zero =>
    intro l f t u n k _ hl h1 h2 hk
    have m0 := hM0 (0 + 1)
    generalize M (0 + 1) = M1 at m0 hk
    obtain ⟨q, rfl⟩ : ∃ q, k = q + 5 := ⟨k - 5, by omega⟩
    by_cases c : l.length < 8
    · have hz : ¬ ((oneP data f t).1.f0 = 2 ∧ 1 ≤ 0 ∧ 1 ≤ (oneP data f t).2.size ∧ (oneP data f t).2.size ≤ 20) := fun z => absurd z.2.1 (by decide)
      rw [if_pos c, impl_step data hd hB l c f t h1 h2 u n (2 - ((0 : Nat) : Int)) true (by decide +kernel) q (by omega), if_neg (fun z => absurd z.2.1 (by decide)), addP, if_neg hz]
    · rw [if_neg c, impl_parser_part.f, if_pos (by omega)]
  | succ d ih =>
    intro l f t u n k hdd hl h1 h2 hk
    have m0 := hM0 (d + 1)
    have m2 := hM (d + 1)
    generalize M (d + 1 + 1) = M1 at m2 hk
    generalize hMd : M (d + 1) = M0 at m0 m2 ih
    clear hMd
    obtain ⟨q, rfl⟩ : ∃ q, k = q + 5 := ⟨k - 5, by omega⟩
    by_cases c : l.length < 8
    · have h5 : (decide ((wrap64 ((2 - ((d + 1 : Nat) : Int)) + 1)) ≥ 3)) = false := by rw [wrap64_in (by omega)]; exact decide_eq_false (by omega)
      obtain ⟨⟨p, p1, p2, p3⟩, p4⟩ := oneP_at data hd f t h1 h2
      have hm := oneP_mark data hd f t h1 h2
      have hnl := nowP_len data l f t u n
      rw [if_pos c, impl_step data hd hB l c f t h1 h2 u n (2 - ((d + 1 : Nat) : Int)) false h5 q (by omega), addP]
      by_cases c2 : (oneP data f t).1.f0 = 2 ∧ 1 ≤ (oneP data f t).2.size ∧ (oneP data f t).2.size ≤ 20
      · have hsp : impl_parser_marked.f q data (oneP data f t).1.f3 (oneP data f t).1.f4 (oneP data f t).2 = some ((spP data f t).map fun x => (⟨x.1, x.2⟩ : S134)) := by
          unfold impl_parser_marked.f spP
          rw [p1, p4, Int.toNat_natCast]
          exact impl_marked data hd hB _ hm t h2 (t + 1) q p [] none (by omega) (fun o e => by cases e) (by simp only [List.length_nil]; omega) (by omega)
        have hin : ∀ s ∈ spP data f t, s.1 ≤ s.2 ∧ s.2 ≤ data.length := fun s hs => by
          have := spansP_in data (oneP data f t).2 t 0 (t + 1) _ [] none (by simp) (fun o e => by cases e) (Nat.zero_le _) s hs
          omega
        have hln : (spP data f t).length ≤ 1048580 := by
          have := spansP_len data (oneP data f t).2 t (t + 1) ((oneP data f t).1.f3).toNat [] none
          unfold spP
          simp only [List.length_nil] at this
          omega
        rw [if_pos ⟨c2.1, rfl, c2.2⟩, if_pos ⟨c2.1, by omega, c2.2⟩, hsp, Option.bind_some, List.length_map, hnl, show wrap64 (((l.length + 1 : Nat) : Int) - 1) = (l.length : Int) by rw [wrap64_in (by omega)]; omega]
        have := impl_kids data (addP data (d + 1)) (spP data f t) hln (2 - ((d + 1 : Nat) : Int)) l.length M0 (fun l2 s n k hs hl8 hk2 => by
          rw [show wrap64 (2 - ((d + 1 : Nat) : Int) + 1) = 2 - (d : Int) by rw [wrap64_in (by omega)]; omega]
          exact ih l2 s.1 s.2 l.length n k (by omega) hl8 (hin s hs).1 (hin s hs).2 hk2) (fun l a b u n h => addP_len data (d + 1) l a b u n h) (spP data f t).length 0 q (nowP data l f t u n) (by omega) (by omega) (by omega)
        rw [List.drop_zero] at this
        exact this
      · rw [if_neg (fun z => c2 ⟨z.1, z.2.2⟩), if_neg (fun z => c2 ⟨z.1, z.2.2⟩)]
    · rw [if_neg c, impl_parser_part.f, if_pos (by omega)]
def allP (data : List Int) : List S23 := addP data 3 [] 0 data.length (-1) 0
def fuelP (d : Nat) : Nat := 9000011 + 4194304 * d
theorem parts_both (data : List Int) (hd : data.length ≤ 1048576) (hB : ∀ x ∈ data, 0 ≤ x ∧ x ≤ 255) (k : Nat) (hk : fuelP 3 < k) : spec_l5Parse.f k data = some (allP data) ∧ impl_partsOf.f k data = some (allP data) := by
  have f0 : ∀ d, 9000010 < fuelP d := fun d => by unfold fuelP; omega
  have f1 : ∀ d, fuelP d + 4194304 ≤ fuelP (d + 1) := fun d => by unfold fuelP; omega
  have a1 := spec_add fuelP (fun d => by have := f0 d; omega) f1 data hd hB 2 [] 0 data.length (-1) 0 k (by omega) (by decide) (Nat.zero_le _) (Nat.le_refl _) (by have h_ : fuelP 2 + 4194304 ≤ fuelP 3 := f1 2; omega)
  have a2 := impl_add fuelP f0 f1 data hd hB 2 [] 0 data.length (-1) 0 k (by omega) (by decide) (Nat.zero_le _) (Nat.le_refl _) hk
  rw [if_pos (by decide)] at a2
  unfold spec_l5Parse.f impl_partsOf.f impl_length_byte.f
  rw [Option.bind_some]
  exact ⟨by rw [show (1 : Int) = 3 - ((2 : Nat) : Int) from rfl]; exact (congrArg (fun z => Option.bind z _) a1).trans rfl, (congrArg (fun z => Option.bind z _) a2).trans rfl⟩
theorem allP_len (data : List Int) : (allP data).length ≤ 8 := addP_len data 3 [] 0 data.length (-1) 0 (by decide)
theorem spP_in (data : List Int) (f t : Nat) : ∀ s ∈ spP data f t, ((oneP data f t).1.f3).toNat ≤ s.1 ∧ s.1 ≤ s.2 ∧ s.2 ≤ t := spansP_in data (oneP data f t).2 t _ (t + 1) _ [] none (by simp) (fun o e => by cases e) (Nat.le_refl _)
def InvP (L : List S23) : Prop :=
  (∀ (i : Nat) (x : S23), L[i]? = some x → (i = 0 ∧ x.f5 = -1) ∨ ∃ (p : Nat) (y : S23), p < i ∧ L[p]? = some y ∧ x.f5 = (p : Int) ∧ y.f0 = 2 ∧ y.f3 ≤ x.f3 ∧ x.f4 ≤ y.f4) ∧
  ∀ (i j : Nat) (x y : S23), i < j → L[i]? = some x → L[j]? = some y → x.f5 = y.f5 → x.f6 < y.f6
def upP (L : List S23) (f t u : Int) : Prop := (L = [] ∧ u = -1) ∨ ∃ (p : Nat) (y : S23), L[p]? = some y ∧ u = (p : Int) ∧ y.f0 = 2 ∧ y.f3 ≤ f ∧ t ≤ y.f4
theorem lt_of_at {α : Type} {L : List α} {i : Nat} {x : α} (h : L[i]? = some x) : i < L.length := (List.getElem?_eq_some_iff.1 h).1
theorem at_app {α : Type} {L e : List α} {i : Nat} {x : α} (h : L[i]? = some x) : (L ++ e)[i]? = some x := by rw [List.getElem?_append_left (lt_of_at h)]; exact h
theorem inv_snoc (l : List S23) (x : S23) (h : InvP l) (hu : upP l x.f3 x.f4 x.f5) (hn : ∀ (i : Nat) (y : S23), l[i]? = some y → y.f5 = x.f5 → y.f6 < x.f6) : InvP (l ++ [x]) := by
  have cs : ∀ (i : Nat) (y : S23), (l ++ [x])[i]? = some y → l[i]? = some y ∨ (i = l.length ∧ y = x) := by
    intro i y hy
    have hlt := lt_of_at hy
    rw [List.length_append, List.length_singleton] at hlt
    rcases Nat.lt_or_ge i l.length with g | g
    · rw [List.getElem?_append_left g] at hy; exact .inl hy
    · obtain rfl : i = l.length := by omega
      rw [List.getElem?_append_right (Nat.le_refl _), Nat.sub_self] at hy
      exact .inr ⟨rfl, (Option.some.inj hy).symm⟩
  refine ⟨?_, ?_⟩
  · intro i y hy
    rcases cs i y hy with g | ⟨rfl, rfl⟩
    · rcases h.1 i y g with q | ⟨p, z, q1, q2, q3⟩
      · exact .inl q
      · exact .inr ⟨p, z, q1, at_app q2, q3⟩
    · rcases hu with ⟨rfl, q⟩ | ⟨p, z, q2, q3, q4⟩
      · exact .inl ⟨rfl, q⟩
      · exact .inr ⟨p, z, lt_of_at q2, at_app q2, q3, q4⟩
  · intro i j y z hij hy hz he
    rcases cs j z hz with g | ⟨rfl, rfl⟩
    · rcases cs i y hy with g2 | ⟨rfl, rfl⟩
      · exact h.2 i j y z hij g2 g he
      · have := lt_of_at g; omega
    · rcases cs i y hy with g2 | ⟨rfl, rfl⟩
      · exact hn i y g2 he
      · omega
def newP (l res : List S23) (u n : Int) : Prop := InvP res ∧ (∃ e, res = l ++ e) ∧ (∀ x, res[l.length]? = some x → x.f5 = u ∧ x.f6 = n) ∧ ∀ (i : Nat) (x : S23), l.length < i → res[i]? = some x → (l.length : Int) ≤ x.f5
theorem kidsP_inv (g : List S23 → Nat → Nat → Int → Int → List S23) (here : Nat) (r : S23) (hr : r.f0 = 2) (N : Nat) (hg : ∀ (l : List S23) (a b : Nat) (n : Int), InvP l → l[here]? = some r → r.f3 ≤ (a : Int) → (b : Int) ≤ r.f4 → a ≤ b → b ≤ N → (∀ (i : Nat) (x : S23), l[i]? = some x → x.f5 = (here : Int) → x.f6 < n) → newP l (g l a b here n) here n) : ∀ (ss : List (Nat × Nat)) (i : Nat) (cur : List S23), (∀ s ∈ ss, r.f3 ≤ (s.1 : Int) ∧ (s.2 : Int) ≤ r.f4 ∧ s.1 ≤ s.2 ∧ s.2 ≤ N) → InvP cur → cur[here]? = some r → (∀ (j : Nat) (x : S23), cur[j]? = some x → x.f5 = (here : Int) → x.f6 < ((i + 1 : Nat) : Int)) → InvP (kidsP g here ss i cur) ∧ (∃ e, kidsP g here ss i cur = cur ++ e) ∧ ∀ (j : Nat) (x : S23), cur.length ≤ j → (kidsP g here ss i cur)[j]? = some x → (here : Int) ≤ x.f5
  | [], i, cur, _, h, _, _ => ⟨h, ⟨[], by rw [kidsP, List.append_nil]⟩, fun j x hj hx => absurd (lt_of_at hx) (by rw [kidsP]; omega)⟩
  | s :: ss, i, cur, hs, h, hc, hn => by
    rw [kidsP]
    have hh := lt_of_at hc
    by_cases c : cur.length < 8
    · rw [if_pos c]
      obtain ⟨s1, s2, s3, s4⟩ := hs s (by simp)
      obtain ⟨n1, ⟨e, n2⟩, n3, n4⟩ := hg cur s.1 s.2 ((i + 1 : Nat) : Int) h hc s1 s2 s3 s4 hn
      generalize hG : g cur s.1 s.2 here ((i + 1 : Nat) : Int) = G at n1 n2 n3 n4
      subst n2
      obtain ⟨k1, ⟨e2, k2⟩, k3⟩ := kidsP_inv g here r hr N hg ss (i + 1) (cur ++ e) (fun s hs2 => hs s (by simp [hs2])) n1 (at_app hc) (fun j x hj hx => by
        rcases Nat.lt_or_ge j cur.length with q | q
        · rw [List.getElem?_append_left q] at hj
          have := hn j x hj hx
          omega
        · rcases Nat.lt_or_ge cur.length j with q2 | q2
          · have := n4 j x q2 hj; omega
          · obtain rfl : j = cur.length := by omega
            have := (n3 x hj).2
            omega)
      refine ⟨k1, ⟨e ++ e2, by rw [k2, List.append_assoc]⟩, fun j x hj hx => ?_⟩
      rcases Nat.lt_or_ge j (cur ++ e).length with q | q
      · rw [k2, List.getElem?_append_left q] at hx
        rcases Nat.lt_or_ge cur.length j with q2 | q2
        · have := n4 j x q2 hx; omega
        · obtain rfl : j = cur.length := by omega
          have := (n3 x hx).1
          omega
      · exact k3 j x q hx
    · rw [if_neg c]
      exact kidsP_inv g here r hr N hg ss (i + 1) cur (fun s hs2 => hs s (by simp [hs2])) h hc (fun j x hj hx => by have := hn j x hj hx; omega)
theorem addP_inv (data : List Int) (hd : data.length ≤ 1048576) : ∀ (d : Nat) (l : List S23) (f t : Nat) (u n : Int), InvP l → upP l (f : Int) (t : Int) u → (∀ (i : Nat) (x : S23), l[i]? = some x → x.f5 = u → x.f6 < n) → f ≤ t → t ≤ data.length → newP l (addP data d l f t u n) u n
  | 0, l, f, t, u, n, h, _, _, _, _ => ⟨h, ⟨[], by rw [addP, List.append_nil]⟩, fun x hx => absurd (lt_of_at hx) (by rw [addP]; omega), fun i x hi hx => absurd (lt_of_at hx) (by rw [addP]; omega)⟩
  | d + 1, l, f, t, u, n, h, hu, hn, h1, h2 => by
    obtain ⟨⟨p, p1, p2, p3⟩, p4⟩ := oneP_at data hd f t h1 h2
    have hup : upP l (oneP data f t).1.f3 (oneP data f t).1.f4 u := by
      rcases hu with q | ⟨a, y, q1, q2, q3, q4, q5⟩
      · exact .inl q
      · exact .inr ⟨a, y, q1, q2, q3, by omega, by omega⟩
    have hnow : InvP (nowP data l f t u n) := inv_snoc l _ h hup hn
    have hat : (nowP data l f t u n)[l.length]? = some ⟨(oneP data f t).1.f0, (oneP data f t).1.f1, (oneP data f t).1.f2, (oneP data f t).1.f3, (oneP data f t).1.f4, u, n⟩ := by
      unfold nowP
      rw [List.getElem?_append_right (Nat.le_refl _), Nat.sub_self]
      rfl
    have hlen := nowP_len data l f t u n
    rw [addP]
    split
    · next c =>
      have hsp := spP_in data f t
      obtain ⟨k1, ⟨e, k2⟩, k3⟩ := kidsP_inv (addP data d) l.length ⟨(oneP data f t).1.f0, (oneP data f t).1.f1, (oneP data f t).1.f2, (oneP data f t).1.f3, (oneP data f t).1.f4, u, n⟩ c.1 data.length (fun l2 a b n2 g1 g2 g3 g4 g5 g6 g7 => addP_inv data hd d l2 a b l.length n2 g1 (.inr ⟨l.length, _, g2, rfl, c.1, g3, g4⟩) g7 g5 g6) (spP data f t) 0 (nowP data l f t u n) (fun s hs => by
        have := hsp s hs
        refine ⟨?_, ?_, by omega, by omega⟩
        · show (oneP data f t).1.f3 ≤ (s.1 : Int); omega
        · show (s.2 : Int) ≤ (oneP data f t).1.f4; omega) hnow hat (fun j x hj hx => by
        rcases hnow.1 j x hj with ⟨_, q⟩ | ⟨a, y, q1, q2, q3, _⟩
        · omega
        · have := lt_of_at hj
          omega)
      refine ⟨k1, ⟨_ :: e, by rw [k2]; unfold nowP; rw [List.append_assoc]; rfl⟩, fun x hx => ?_, fun i x hi hx => k3 i x (by omega) hx⟩
      rw [k2, at_app hat] at hx
      obtain rfl := Option.some.inj hx
      exact ⟨rfl, rfl⟩
    · refine ⟨hnow, ⟨_, rfl⟩, fun x hx => ?_, fun i x hi hx => absurd (lt_of_at hx) (by omega)⟩
      rw [hat] at hx
      obtain rfl := Option.some.inj hx
      exact ⟨rfl, rfl⟩
theorem allP_inv (data : List Int) (hd : data.length ≤ 1048576) : InvP (allP data) :=
  (addP_inv data hd 3 [] 0 data.length (-1) 0 ⟨fun i x h => by simp at h, fun i j x y _ h => by simp at h⟩ (.inl ⟨rfl, rfl⟩) (fun i x h => by simp at h) (Nat.zero_le _) (Nat.le_refl _)).1
def hitP (a n : Int) (x : S23) : Prop := x.f5 = a ∧ x.f6 = n
instance (a n : Int) (x : S23) : Decidable (hitP a n x) := inferInstanceAs (Decidable (x.f5 = a ∧ x.f6 = n))
def ixP (a n : Int) : List S23 → Nat → Int
  | [], _ => -1
  | x :: xs, i => if hitP a n x then (i : Int) else ixP a n xs (i + 1)
def lsP (a n : Int) : List S23 → Nat → Int → Int
  | [], _, acc => acc
  | x :: xs, i, acc => lsP a n xs (i + 1) (if hitP a n x then (i : Int) else acc)
theorem lsP_no (a n : Int) : ∀ (l : List S23) (i : Nat) (acc : Int), (∀ x ∈ l, ¬ hitP a n x) → lsP a n l i acc = acc
  | [], _, _, _ => rfl
  | x :: xs, i, acc, h => by rw [lsP, if_neg (h x (by simp)), lsP_no a n xs _ _ (fun y hy => h y (by simp [hy]))]
theorem ls_ix (a n : Int) : ∀ (l : List S23) (i : Nat) (acc : Int), l.Pairwise (fun x y => ¬ (x.f5 = y.f5 ∧ x.f6 = y.f6)) → lsP a n l i acc = if ixP a n l i < 0 then acc else ixP a n l i
  | [], i, acc, _ => by rw [lsP, ixP, if_pos (by decide)]
  | x :: xs, i, acc, h => by
    obtain ⟨h1, h2⟩ := List.pairwise_cons.1 h
    rw [lsP, ixP]
    by_cases c : hitP a n x
    · rw [if_pos c, if_pos c, if_neg (by omega), lsP_no a n xs _ _ (fun y hy q => h1 y hy ⟨c.1.trans q.1.symm, c.2.trans q.2.symm⟩)]
    · rw [if_neg c, if_neg c]
      exact ls_ix a n xs (i + 1) acc h2
theorem inv_pair (L : List S23) (h : InvP L) : L.Pairwise (fun x y => ¬ (x.f5 = y.f5 ∧ x.f6 = y.f6)) := by
  rw [List.pairwise_iff_getElem]
  intro i j hi hj hij q
  have := h.2 i j L[i] L[j] hij (List.getElem?_eq_getElem hi) (List.getElem?_eq_getElem hj) q.1
  omega
theorem rdP_drop2 (L : List S23) (j : Nat) (h : j < L.length) : rd_T23 L (j : Int) = L[j] := by
  unfold rd_T23
  rw [Int.toNat_natCast, List.getD_eq_getElem?_getD, List.getElem?_eq_getElem h]
  rfl
theorem ix_l0 (L : List S23) (hL : L.length ≤ 1000) (a n : Int) : ∀ (m j k : Nat), L.length = j + m → m < k → impl_Part_54.l0 k L a n (j : Int) = some (ixP a n (L.drop j) j)
  | 0, j, k, h, hk => by
    obtain ⟨k, rfl⟩ : ∃ q, k = q + 1 := ⟨k - 1, by omega⟩
    rw [impl_Part_54.l0, if_neg (by omega), List.drop_eq_nil_of_le (by omega)]
    rfl
  | m + 1, j, k, h, hk => by
    obtain ⟨k, rfl⟩ : ∃ q, k = q + 1 := ⟨k - 1, by omega⟩
    have hj : j < L.length := by omega
    rw [impl_Part_54.l0, if_pos (by omega), if_pos (by omega), rdP_drop2 L j hj, wrap_succ j (by omega), ix_l0 L hL a n m (j + 1) k (by omega) (by omega), List.drop_eq_getElem_cons hj, ixP]
    by_cases c : L[j].f5 = a
    · rw [if_pos c]
      by_cases d : L[j].f6 = n
      · rw [if_pos d, if_pos ⟨c, d⟩]
      · rw [if_neg d, if_neg (fun q => d q.2)]
    · rw [if_neg c, if_neg (fun q => c q.1)]
theorem impl_ix (L : List S23) (hL : L.length ≤ 1000) (a n : Int) (k : Nat) (hk : L.length < k) : impl_Part_54.f k L a n = some (ixP a n L 0) := ix_l0 L hL a n L.length 0 k (by omega) hk
def atP (L : List S23) : List Int → Int → Int
  | [], p => p
  | n :: ns, p => if ixP p n L 0 < 0 then -1 else atP L ns (ixP p n L 0)
theorem at_l1 (L : List S23) (hL : L.length ≤ 1000) (path : List Int) (p : Int) (i : Nat) (hi : i < path.length) : ∀ (m j k : Nat) (acc : Int), L.length = j + m → m < k → spec_l5At.l1 k L path p (i : Int) acc (j : Int) = if lsP p path[i] (L.drop j) j acc < 0 then some (-1) else spec_l5At.l0 (k - m - 1) L path (lsP p path[i] (L.drop j) j acc) (wrap64 ((i : Int) + 1))
  | 0, j, k, acc, h, hk => by
    obtain ⟨k, rfl⟩ : ∃ q, k = q + 1 := ⟨k - 1, by omega⟩
    rw [spec_l5At.l1, if_neg (by omega), List.drop_eq_nil_of_le (by omega)]
    rfl
  | m + 1, j, k, acc, h, hk => by
    obtain ⟨k, rfl⟩ : ∃ q, k = q + 1 := ⟨k - 1, by omega⟩
    have hj : j < L.length := by omega
    have ih := fun acc => at_l1 L hL path p i hi m (j + 1) k acc (by omega) (by omega)
    rw [show k + 1 - (m + 1) - 1 = k - m - 1 by omega, spec_l5At.l1, if_pos (by omega), if_pos (by omega), rdP_drop2 L j hj, wrap_succ j (by omega), List.drop_eq_getElem_cons hj, lsP, rd_at path i hi]
    by_cases c : L[j].f5 = p
    · rw [if_pos c, if_pos (by omega), if_pos (by omega)]
      by_cases d : L[j].f6 = path[i]
      · rw [if_pos d, show (if hitP p path[i] L[j] then (j : Int) else acc) = (j : Int) from if_pos ⟨c, d⟩]; exact ih _
      · rw [if_neg d, show (if hitP p path[i] L[j] then (j : Int) else acc) = acc from if_neg (fun q => d q.2)]; exact ih _
    · rw [if_neg c, show (if hitP p path[i] L[j] then (j : Int) else acc) = acc from if_neg (fun q => c q.1)]; exact ih _
theorem at_l0 (L : List S23) (hL : L.length ≤ 1000) (hi : InvP L) (path : List Int) (hp : path.length ≤ 1048576) : ∀ (m i k : Nat) (p : Int), path.length = i + m → 1100 * m + 2 < k → spec_l5At.l0 k L path p (i : Int) = some (atP L (path.drop i) p)
  | 0, i, k, p, h, hk => by
    obtain ⟨k, rfl⟩ : ∃ q, k = q + 1 := ⟨k - 1, by omega⟩
    rw [spec_l5At.l0, if_neg (by omega), List.drop_eq_nil_of_le (by omega)]
    rfl
  | m + 1, i, k, p, h, hk => by
    obtain ⟨k, rfl⟩ : ∃ q, k = q + 1 := ⟨k - 1, by omega⟩
    have hlt : i < path.length := by omega
    rw [spec_l5At.l0, if_pos (by omega)]
    have e := at_l1 L hL path p i hlt L.length 0 k (-1) (by omega) (by omega)
    rw [show ((0 : Nat) : Int) = 0 from rfl] at e
    rw [e, List.drop_zero, ls_ix p path[i] L 0 (-1) (inv_pair L hi), List.drop_eq_getElem_cons hlt, atP]
    by_cases c : ixP p path[i] L 0 < 0
    · rw [if_pos c, if_pos (by decide), if_pos c]
    · rw [if_neg c, if_neg c, if_neg c, wrap_succ i (by omega)]
      exact at_l0 L hL hi path hp m (i + 1) _ _ (by omega) (by omega)
theorem atI_l0 (L : List S23) (hL : L.length ≤ 1000) (path : List Int) (hp : path.length ≤ 1048576) : ∀ (m i k : Nat) (p : Int), path.length = i + m → 1100 + m < k → 0 ≤ p → impl_PartAt.l0 k L path (path.length : Int) (i : Int) p = some (if atP L (path.drop i) p < 0 then (4, 0) else (0, atP L (path.drop i) p))
  | 0, i, k, p, h, hk, h0 => by
    obtain ⟨k, rfl⟩ : ∃ q, k = q + 1 := ⟨k - 1, by omega⟩
    rw [impl_PartAt.l0, if_neg (by omega), List.drop_eq_nil_of_le (by omega), atP, if_neg (by omega)]
  | m + 1, i, k, p, h, hk, h0 => by
    obtain ⟨k, rfl⟩ : ∃ q, k = q + 1 := ⟨k - 1, by omega⟩
    have hlt : i < path.length := by omega
    rw [impl_PartAt.l0, if_pos (by omega), if_pos (by omega), if_pos (by omega), rd_at path i hlt, impl_ix L hL p path[i] k (by omega), Option.bind_some, List.drop_eq_getElem_cons hlt, atP]
    by_cases c : ixP p path[i] L 0 < 0
    · rw [if_pos c, if_pos c, if_pos (by decide)]
    · rw [if_neg c, if_neg c, wrap_succ i (by omega)]
      exact atI_l0 L hL path hp m (i + 1) k _ (by omega) (by omega) (by omega)
theorem PartAt_both (data : List Int) (hd : data.length ≤ 1048576) (hB : ∀ x ∈ data, 0 ≤ x ∧ x ≤ 255) (path : List Int) (hp : path.length ≤ 1048576) : ∃ r : Int × Int, ∀ k, fuelP 3 < k → 1100 * path.length + 1200 < k → spec_PartAt.f k data path = some r ∧ impl_PartAt.f k data path = some r := by
  by_cases c : (data.length : Int) > 400
  · exact ⟨(2, 0), fun k _ _ => ⟨by unfold spec_PartAt.f; rw [if_pos c], by unfold impl_PartAt.f; rw [if_pos c]⟩⟩
  · have hq := fun k hk => parts_both data hd hB k hk
    have hi := allP_inv data hd
    have hl := allP_len data
    generalize allP data = L at hq hi hl
    refine ⟨if atP L path 0 < 0 then (4, 0) else (0, atP L path 0), fun k hk hk2 => ⟨?_, ?_⟩⟩
    · unfold spec_PartAt.f spec_l5At.f
      have := at_l0 L (by omega) hi path hp path.length 0 k 0 (by omega) (by omega)
      rw [List.drop_zero] at this
      have e : spec_l5At.l0 k L path 0 0 = some (atP L path 0) := this
      rw [if_neg c, (hq k hk).1, Option.bind_some, e, Option.bind_some]
      split <;> rfl
    · unfold impl_PartAt.f
      have := atI_l0 L (by omega) path hp path.length 0 k 0 (by omega) (by omega) (by omega)
      rw [List.drop_zero] at this
      rw [if_neg c, (hq k hk).2, Option.bind_some]
      exact this
theorem laws_toByteS.l0_eq (x0 : List Int) (hb : x0.length ≤ maxLen) : ∀ (n k i : Nat), x0.length = i + n → n < k → laws_toByteS.l0 k x0 (x0.take i ++ List.replicate n 0) (i : Int) = some x0
  | 0, 0, _, _, h => absurd h (by omega)
  | 0, k + 1, i, hi, _ => by
    have h1 : ¬ ((i : Int) < (x0.length : Int)) := by omega
    simp only [laws_toByteS.l0, if_neg h1, List.replicate_zero, List.append_nil]
    rw [List.take_of_length_le (by omega)]
  | n + 1, 0, _, _, h => absurd h (by omega)
  | n + 1, k + 1, i, hi, h => by
    have hm := maxLen_le
    have h1 : (i : Int) < (x0.length : Int) := by omega
    have h2 : (0 : Int) ≤ (i : Int) := by omega
    have h3 : (i : Int) < ((x0.take i ++ List.replicate (n + 1) (0 : Int)).length : Int) := by simp; omega
    have h4 : wrap64 ((i : Int) + 1) = ((i + 1 : Nat) : Int) := by rw [wrap64_in (by omega)]; omega
    simp only [laws_toByteS.l0]
    rw [if_pos h1, if_pos h2, if_pos h3, h4]
    rw [← laws_toByteS.l0_eq x0 hb n k (i + 1) (by omega) (by omega)]
    congr 1
    rw [rd_at x0 i (by omega), Int.toNat_natCast, List.set_append_right _ _ (by simp; omega)]
    have h5 : i - (x0.take i).length = 0 := by simp; omega
    rw [h5, List.take_succ_eq_append_getElem (by omega), List.append_assoc, List.replicate_succ, List.set_cons_zero]
    rfl
theorem laws_toByteS_eq (l : List Int) (k : Nat) (hb : l.length ≤ maxLen) (hb2 : l.length ≤ 1048576) (hk : l.length < k) : laws_toByteS.f k l = some l := by
  unfold laws_toByteS.f
  have h1 : (0 : Int) ≤ (l.length : Int) := by omega
  rw [if_pos h1, Int.toNat_natCast, if_pos (by omega)]
  exact laws_toByteS.l0_eq l hb l.length k 0 (by omega) hk
theorem laws_toInt64S.l0_eq (x0 : List Int) (hb : x0.length ≤ maxLen) : ∀ (n k i : Nat), x0.length = i + n → n < k → laws_toInt64S.l0 k x0 (x0.take i ++ List.replicate n 0) (i : Int) = some x0
  | 0, 0, _, _, h => absurd h (by omega)
  | 0, k + 1, i, hi, _ => by
    have h1 : ¬ ((i : Int) < (x0.length : Int)) := by omega
    simp only [laws_toInt64S.l0, if_neg h1, List.replicate_zero, List.append_nil]
    rw [List.take_of_length_le (by omega)]
  | n + 1, 0, _, _, h => absurd h (by omega)
  | n + 1, k + 1, i, hi, h => by
    have hm := maxLen_le
    have h1 : (i : Int) < (x0.length : Int) := by omega
    have h2 : (0 : Int) ≤ (i : Int) := by omega
    have h3 : (i : Int) < ((x0.take i ++ List.replicate (n + 1) (0 : Int)).length : Int) := by simp; omega
    have h4 : wrap64 ((i : Int) + 1) = ((i + 1 : Nat) : Int) := by rw [wrap64_in (by omega)]; omega
    simp only [laws_toInt64S.l0]
    rw [if_pos h1, if_pos h2, if_pos h3, h4]
    rw [← laws_toInt64S.l0_eq x0 hb n k (i + 1) (by omega) (by omega)]
    congr 1
    rw [rd_at x0 i (by omega), Int.toNat_natCast, List.set_append_right _ _ (by simp; omega)]
    have h5 : i - (x0.take i).length = 0 := by simp; omega
    rw [h5, List.take_succ_eq_append_getElem (by omega), List.append_assoc, List.replicate_succ, List.set_cons_zero]
    rfl
theorem laws_toInt64S_eq (l : List Int) (k : Nat) (hb : l.length ≤ maxLen) (hb2 : l.length ≤ 1048576) (hk : l.length < k) : laws_toInt64S.f k l = some l := by
  unfold laws_toInt64S.f
  have h1 : (0 : Int) ≤ (l.length : Int) := by omega
  rw [if_pos h1, Int.toNat_natCast, if_pos (by omega)]
  exact laws_toInt64S.l0_eq l hb l.length k 0 (by omega) hk
theorem laws_eqByteS.l0_eq (x0 : List Int) (hb : x0.length ≤ maxLen) : ∀ (n k i : Nat), x0.length = i + n → n < k → laws_eqByteS.l0 k x0 x0 (i : Int) = some true
  | 0, 0, _, _, h => absurd h (by omega)
  | 0, k + 1, i, hi, _ => by
    have h1 : ¬ ((i : Int) < (x0.length : Int)) := by omega
    simp only [laws_eqByteS.l0, if_neg h1]
  | n + 1, 0, _, _, h => absurd h (by omega)
  | n + 1, k + 1, i, hi, h => by
    have hm := maxLen_le
    have h1 : (i : Int) < (x0.length : Int) := by omega
    have h2 : (0 : Int) ≤ (i : Int) := by omega
    have h4 : wrap64 ((i : Int) + 1) = ((i + 1 : Nat) : Int) := by rw [wrap64_in (by omega)]; omega
    unfold laws_eqByteS.l0
    rw [if_pos h1, if_pos h2, if_pos h1]
    rw [if_pos rfl, h4]
    exact laws_eqByteS.l0_eq x0 hb n k (i + 1) (by omega) (by omega)
theorem laws_eqByteS_eq (l : List Int) (k : Nat) (hb : l.length ≤ maxLen) (hk : l.length < k) : laws_eqByteS.f k l l = some true := by
  unfold laws_eqByteS.f
  rw [if_pos rfl]
  exact laws_eqByteS.l0_eq l hb l.length k 0 (by omega) hk
theorem laws_eqInt64S.l0_eq (x0 : List Int) (hb : x0.length ≤ maxLen) : ∀ (n k i : Nat), x0.length = i + n → n < k → laws_eqInt64S.l0 k x0 x0 (i : Int) = some true
  | 0, 0, _, _, h => absurd h (by omega)
  | 0, k + 1, i, hi, _ => by
    have h1 : ¬ ((i : Int) < (x0.length : Int)) := by omega
    simp only [laws_eqInt64S.l0, if_neg h1]
  | n + 1, 0, _, _, h => absurd h (by omega)
  | n + 1, k + 1, i, hi, h => by
    have hm := maxLen_le
    have h1 : (i : Int) < (x0.length : Int) := by omega
    have h2 : (0 : Int) ≤ (i : Int) := by omega
    have h4 : wrap64 ((i : Int) + 1) = ((i + 1 : Nat) : Int) := by rw [wrap64_in (by omega)]; omega
    unfold laws_eqInt64S.l0
    rw [if_pos h1, if_pos h2, if_pos h1]
    rw [if_pos rfl, h4]
    exact laws_eqInt64S.l0_eq x0 hb n k (i + 1) (by omega) (by omega)
theorem laws_eqInt64S_eq (l : List Int) (k : Nat) (hb : l.length ≤ maxLen) (hk : l.length < k) : laws_eqInt64S.f k l l = some true := by
  unfold laws_eqInt64S.f
  rw [if_pos rfl]
  exact laws_eqInt64S.l0_eq l hb l.length k 0 (by omega) hk
theorem byte_wf {l : List Int} (h : ∀ x ∈ l, (Lit.int .u8 x).wf = true) : ∀ x ∈ l, 0 ≤ x ∧ x ≤ 255 := by
  intro x hx
  have h1 := h x hx
  unfold Lit.wf at h1
  rw [Bool.and_eq_true, decide_eq_true_eq, decide_eq_true_eq, show IntKind.u8.min = 0 from by decide, show IntKind.u8.max = 255 from by decide] at h1
  exact h1
theorem FnExactPartAt : laws_FnExactPartAt.Pure := by
  intro l p hb _ hw hb2 _ _
  obtain ⟨K, hK1, hK2⟩ : ∃ K, fuelP 3 < K ∧ 1100 * p.length + 2097200 < K := ⟨fuelP 3 + (1100 * p.length + 2097201), by omega, by omega⟩
  refine ⟨K, ?_⟩
  unfold laws_FnExactPartAt.f
  by_cases hl : (l.length : Int) > 1048576
  · rw [if_pos hl]
  · rw [if_neg hl]
    by_cases hl2 : (p.length : Int) > 1048576
    · rw [if_pos hl2]
    · rw [if_neg hl2]
      obtain ⟨r, hr⟩ := PartAt_both l (by omega) (byte_wf hw) p (by omega)
      obtain ⟨q3, q4⟩ := hr K hK1 (by omega)
      have e1 := laws_toByteS_eq l K hb (by omega) (by omega)
      have e2 := laws_toInt64S_eq p K hb2 (by omega) (by omega)
      have e3 := laws_eqByteS_eq l K hb (by omega)
      have e4 := laws_eqInt64S_eq p K hb2 (by omega)
      have e5 : laws_eqIntResult.f r.1 r.2 r.1 r.2 = some true := by unfold laws_eqIntResult.f; rw [if_pos rfl, if_pos rfl]
      simp only [e1, e2, q3, q4, e3, e4, e5, Option.bind_some, if_true]
end Go.Proofs.YtecpanfndodjgaaDoor.Pure
