/- The plain law: what the walk computes answers as the statement says. -/
import Derived.Test.YtjopgmjmjnfcjaaPPackHeaderx3
namespace Go.Proofs.Ytjopgmjmjnfcjaa.Pure
open Go.RowKit Go.Proofs.Ytjopgmjmjnfcjaa.PPackHeader Go.Proofs.YtjopgmjmjnfcjaaW.PrintWords Go.Proofs.YtjopgmjmjnfcjaaW.PrintLast
set_option linter.unusedSimpArgs false
set_option linter.unusedVariables false
theorem rd_at (l : List Int) (i : Nat) (h : i < l.length) : rd l (i : Int) = l[i] := by
  simp [rd, List.getD_eq_getElem?_getD, h]
theorem wrap64_in {n : Int} (h : -9223372036854775808 ≤ n ∧ n ≤ 9223372036854775807) : wrap64 n = n := by
  unfold wrap64; omega
theorem maxLen_le : maxLen ≤ 9223372036854775807 := by unfold maxLen; decide
theorem bt_range (s : ByteArray) (i : Int) : 0 ≤ bt s i ∧ bt s i ≤ 255 := by
  unfold bt
  split
  · rename_i h
    have := UInt8.toNat_lt (s[i.toNat]'h)
    omega
  · omega
theorem strOfNums_size (l : List Int) : (strOfNums l).size = l.length := by
  show (strOfNums l).data.size = _
  simp [strOfNums]
theorem bytesOf_strOfNums (l : List Int) (h : ∀ x ∈ l, 0 ≤ x ∧ x ≤ 255) : bytesOf (strOfNums l) = l := by
  unfold bytesOf strOfNums
  simp only [List.map_map]
  conv => rhs; rw [← List.map_id l]
  apply List.map_congr_left
  intro x hx
  have := h x hx
  simp only [Function.comp, id]
  rw [UInt8.toNat_ofNat_of_lt' (by show x.toNat < 256; omega)]
  omega
theorem strOfNums_bytesOf (s : ByteArray) : strOfNums (bytesOf s) = s := by
  unfold bytesOf strOfNums
  rw [List.map_map]
  have h : (s.data.toList.map ((fun n : Int => UInt8.ofNat n.toNat) ∘ fun b : UInt8 => (b.toNat : Int))) = s.data.toList := by
    conv => rhs; rw [← List.map_id s.data.toList]
    apply List.map_congr_left
    intro x _
    simp
  rw [h]
theorem bytesOf_in (s : ByteArray) : ∀ x ∈ bytesOf s, 0 ≤ x ∧ x ≤ 255 := by
  intro x hx
  obtain ⟨b, _, rfl⟩ := List.mem_map.1 hx
  have := UInt8.toNat_lt b
  omega
theorem bt_strOfNums (l : List Int) (h : ∀ x ∈ l, 0 ≤ x ∧ x ≤ 255) (i : Nat) (hi : i < l.length) : bt (strOfNums l) (i : Int) = l[i] := by
  rw [← rd_bytesOf, bytesOf_strOfNums l h, rd_at l i hi]
theorem in_eq (a b c : Int) : spec_l1In.f a b c = some (decide (b ≤ a ∧ a ≤ c)) := by
  unfold spec_l1In.f; by_cases h : a ≥ b <;> simp [h] <;> omega
/-- Fields, as a plain law. -/
def nbB (c : Int) : Bool := decide (97 ≤ c ∧ c ≤ 122) || decide (65 ≤ c ∧ c ≤ 90) || decide (48 ≤ c ∧ c ≤ 57) || c == 45
def vbB (c : Int) : Bool := decide (32 ≤ c) && c != 127
def nameB (s : ByteArray) : Bool := (bytesOf s).all nbB && decide (1 ≤ s.size ∧ s.size ≤ 30)
def valB (s : ByteArray) : Bool := (bytesOf s).all vbB && decide (s.size ≤ 120)
theorem vb_lt (c : Int) (h : c < 32) : vbB c = false := by unfold vbB; rw [decide_eq_false (show ¬ 32 ≤ c by omega), Bool.false_and]
theorem vb_127 : vbB 127 = false := rfl
theorem vb_ok (c : Int) (h : ¬ c < 32) (h2 : ¬ c = 127) : vbB c = true := by unfold vbB; rw [decide_eq_true (show 32 ≤ c by omega), bne_iff_ne.mpr h2]; rfl
theorem spec_l4NameByte_eq (c : Int) : spec_l4NameByte.f c = some (nbB c) := by
  unfold spec_l4NameByte.f nbB
  by_cases h1 : c ≥ 97 <;> by_cases h2 : c ≤ 122 <;> by_cases h3 : c ≥ 65 <;> by_cases h4 : c ≤ 90 <;> by_cases h5 : c ≥ 48 <;> by_cases h6 : c ≤ 57 <;> simp [h1, h2, h3, h4, h5, h6]
theorem drop_bt (s : ByteArray) (i : Nat) (h : i < s.size) : (bytesOf s).drop i = bt s (i : Int) :: (bytesOf s).drop (i + 1) := by
  have hl : i < (bytesOf s).length := by rw [bytesOf_length]; exact h
  rw [List.drop_eq_getElem_cons hl, ← rd_bytesOf, rd_at _ i hl]
theorem drop_end (s : ByteArray) (i : Nat) (h : ¬ i < s.size) : (bytesOf s).drop i = [] := List.drop_eq_nil_of_le (by rw [bytesOf_length]; omega)
theorem wrap_succ (i : Nat) (h : i ≤ 4611686018427387904) : wrap64 ((i : Int) + 1) = ((i + 1 : Nat) : Int) := by rw [wrap64_in (by omega)]; omega
theorem spec_l4Name.l0_eq (s : ByteArray) (hs : s.size ≤ 1048576) : ∀ (n k i : Nat), s.size = i + n → n < k → spec_l4Name.l0 k s (i : Int) = some (((bytesOf s).drop i).all nbB && decide (1 ≤ s.size ∧ s.size ≤ 30))
  | _, 0, _, _, h => absurd h (by omega)
  | 0, k + 1, i, hi, _ => by
    have h1 : ¬ ((i : Int) < (s.size : Int)) := by omega
    rw [spec_l4Name.l0, if_neg h1, in_eq, drop_end s i (by omega)]
    simp only [Option.bind_some, List.all_nil, Bool.true_and]
    congr 1
    rw [decide_eq_decide]
    omega
  | n + 1, k + 1, i, hi, h => by
    have h1 : (i : Int) < (s.size : Int) := by omega
    have h2 : (0 : Int) ≤ (i : Int) := by omega
    rw [spec_l4Name.l0, if_pos h1, if_pos h2, spec_l4NameByte_eq, Option.bind_some, wrap_succ i (by omega), spec_l4Name.l0_eq s hs n k (i + 1) (by omega) (by omega), drop_bt s i (by omega), List.all_cons]
    cases nbB (bt s (i : Int)) with
    | true => rw [if_pos rfl, Bool.true_and]
    | false => rw [if_neg (by decide), Bool.false_and, Bool.false_and]
theorem spec_l4Name_eq (s : ByteArray) (k : Nat) (hs : s.size ≤ 1048576) (hk : s.size < k) : spec_l4Name.f k s = some (nameB s) := by
  have := spec_l4Name.l0_eq s hs s.size k 0 (by omega) hk
  unfold spec_l4Name.f nameB
  simpa using this
theorem spec_l4Value.l0_eq (s : ByteArray) (hs : s.size ≤ 1048576) : ∀ (n k i : Nat), s.size = i + n → n < k → spec_l4Value.l0 k s (i : Int) = some (((bytesOf s).drop i).all vbB && decide (s.size ≤ 120))
  | _, 0, _, _, h => absurd h (by omega)
  | 0, k + 1, i, hi, _ => by
    have h1 : ¬ ((i : Int) < (s.size : Int)) := by omega
    rw [spec_l4Value.l0, if_neg h1, drop_end s i (by omega)]
    simp only [List.all_nil, Bool.true_and]
    congr 1
    rw [decide_eq_decide]
    omega
  | n + 1, k + 1, i, hi, h => by
    have h1 : (i : Int) < (s.size : Int) := by omega
    have h2 : (0 : Int) ≤ (i : Int) := by omega
    rw [spec_l4Value.l0, if_pos h1, if_pos h2, wrap_succ i (by omega), spec_l4Value.l0_eq s hs n k (i + 1) (by omega) (by omega), drop_bt s i (by omega), List.all_cons]
    generalize bt s (i : Int) = c
    by_cases g1 : c < 32
    · rw [if_pos g1, vb_lt c g1, Bool.false_and, Bool.false_and]
    · rw [if_neg g1]
      by_cases g2 : c = 127
      · rw [if_pos g2, g2, vb_127, Bool.false_and, Bool.false_and]
      · rw [if_neg g2, vb_ok c g1 g2, Bool.true_and]
theorem spec_l4Value_eq (s : ByteArray) (k : Nat) (hs : s.size ≤ 1048576) (hk : s.size < k) : spec_l4Value.f k s = some (valB s) := by
  have := spec_l4Value.l0_eq s hs s.size k 0 (by omega) hk
  unfold spec_l4Value.f valB
  simpa using this
theorem impl_letter_eq (c : Int) : impl_isLetter.f c = some (decide (97 ≤ c ∧ c ≤ 122) || decide (65 ≤ c ∧ c ≤ 90)) := by
  unfold impl_isLetter.f
  by_cases h1 : c ≥ 97 <;> by_cases h2 : c ≤ 122 <;> by_cases h3 : c ≥ 65 <;> by_cases h4 : c ≤ 90 <;> simp [h1, h2, h3, h4]
theorem impl_digit_eq (c : Int) : impl_isDigit.f c = some (decide (48 ≤ c ∧ c ≤ 57)) := by
  unfold impl_isDigit.f
  by_cases h1 : c ≥ 48 <;> by_cases h2 : c ≤ 57 <;> simp [h1, h2]
theorem impl_isField.l1_eq (a s : ByteArray) (hs : s.size ≤ 1048576) : ∀ (n k i : Nat), s.size = i + n → n < k → impl_isField.l1 k (s.size : Int) (i : Int) a s = some (((bytesOf s).drop i).all vbB && (decide (1 ≤ a.size ∧ a.size ≤ 30) && decide (s.size ≤ 120)))
  | _, 0, _, _, h => absurd h (by omega)
  | 0, k + 1, i, hi, _ => by
    have h1 : ¬ ((i : Int) < (s.size : Int)) := by omega
    rw [impl_isField.l1, if_neg h1, drop_end s i (by omega)]
    simp only [List.all_nil, Bool.true_and]
    by_cases g1 : (a.size : Int) ≥ 1
    · rw [if_pos g1]
      by_cases g2 : (a.size : Int) ≤ 30
      · rw [if_pos g2, decide_eq_true (show 1 ≤ a.size ∧ a.size ≤ 30 by omega), Bool.true_and]
        congr 1
        rw [decide_eq_decide]
        omega
      · rw [if_neg g2, decide_eq_false (show ¬ (1 ≤ a.size ∧ a.size ≤ 30) by omega), Bool.false_and]
    · rw [if_neg g1, decide_eq_false (show ¬ (1 ≤ a.size ∧ a.size ≤ 30) by omega), Bool.false_and]
  | n + 1, k + 1, i, hi, h => by
    have h1 : (i : Int) < (s.size : Int) := by omega
    have h2 : (0 : Int) ≤ (i : Int) := by omega
    rw [impl_isField.l1, if_pos h1, if_pos h2, if_pos h1, wrap_succ i (by omega), impl_isField.l1_eq a s hs n k (i + 1) (by omega) (by omega), drop_bt s i (by omega), List.all_cons]
    generalize bt s (i : Int) = c
    by_cases g1 : c < 32
    · rw [if_pos g1, vb_lt c g1, Bool.false_and, Bool.false_and]
    · rw [if_neg g1]
      by_cases g2 : c = 127
      · rw [if_pos g2, g2, vb_127, Bool.false_and, Bool.false_and]
      · rw [if_neg g2, vb_ok c g1 g2, Bool.true_and]
theorem impl_isField.l0_eq (a s : ByteArray) (ha : a.size ≤ 1048576) (hs : s.size ≤ 1048576) : ∀ (n k i : Nat), a.size = i + n → n + s.size + 1 < k → impl_isField.l0 k (a.size : Int) (i : Int) a s = some (((bytesOf a).drop i).all nbB && ((bytesOf s).all vbB && (decide (1 ≤ a.size ∧ a.size ≤ 30) && decide (s.size ≤ 120))))
  | _, 0, _, _, h => absurd h (by omega)
  | 0, k + 1, i, hi, h => by
    have h1 : ¬ ((i : Int) < (a.size : Int)) := by omega
    have := impl_isField.l1_eq a s hs s.size k 0 (by omega) (by omega)
    rw [List.drop_zero] at this
    rw [impl_isField.l0, if_neg h1, drop_end a i (by omega)]
    simp only [List.all_nil, Bool.true_and]
    exact this
  | n + 1, k + 1, i, hi, h => by
    have h1 : (i : Int) < (a.size : Int) := by omega
    have h2 : (0 : Int) ≤ (i : Int) := by omega
    rw [impl_isField.l0, if_pos h1, if_pos h2, if_pos h1, wrap_succ i (by omega), impl_isField.l0_eq a s ha hs n k (i + 1) (by omega) (by omega), drop_bt a i (by omega), List.all_cons, impl_letter_eq, Option.bind_some, impl_digit_eq, Option.bind_some]
    generalize bt a (i : Int) = c
    unfold nbB
    cases (decide (97 ≤ c ∧ c ≤ 122) || decide (65 ≤ c ∧ c ≤ 90)) with
    | true => rw [if_pos rfl, Bool.true_or, Bool.true_or, Bool.true_and]
    | false =>
      rw [if_neg (by decide), Bool.false_or]
      cases decide (48 ≤ c ∧ c ≤ 57) with
      | true => rw [if_pos rfl, Bool.true_or, Bool.true_and]
      | false =>
        rw [if_neg (by decide), Bool.false_or]
        by_cases g : c = 45
        · rw [if_pos g, g, beq_self_eq_true, Bool.true_and]
        · rw [if_neg g, beq_eq_false_iff_ne.mpr g, Bool.false_and, Bool.false_and]
theorem impl_isField_eq (a s : ByteArray) (k : Nat) (ha : a.size ≤ 1048576) (hs : s.size ≤ 1048576) (hk : a.size + s.size + 1 < k) : impl_isField.f k a s = some (nameB a && valB s) := by
  have := impl_isField.l0_eq a s ha hs a.size k 0 (by omega) hk
  unfold impl_isField.f nameB valB
  rw [List.drop_zero] at this
  rw [show (0 : Int) = ((0 : Nat) : Int) from rfl, this]
  cases (bytesOf a).all nbB <;> cases (bytesOf s).all vbB <;> cases decide (1 ≤ a.size ∧ a.size ≤ 30) <;> rfl
def fldB (x : S69) : Bool := nameB x.f0 && valB x.f1
def faultF (l : List S69) : Int := if 8 < l.length then 2 else if l.all fldB = true then 0 else 5
theorem rd_fld (l : List S69) (i : Nat) (h : i < l.length) : rd_T69 l (i : Int) = l[i] := by
  unfold rd_T69
  rw [Int.toNat_natCast, List.getD_eq_getElem?_getD, List.getElem?_eq_getElem h]
  rfl
def smallF (l : List S69) : Prop := l.length ≤ 1048576 ∧ ∀ x ∈ l, x.f0.size ≤ 1048576 ∧ x.f1.size ≤ 1048576
theorem spec_l4Fault.l0_eq (l : List S69) (hl : smallF l) : ∀ (n k i : Nat), l.length = i + n → n + 2097155 < k → spec_l4Fault.l0 k l (i : Int) = some (if (l.drop i).all fldB = true then 0 else 5)
  | _, 0, _, _, h => absurd h (by omega)
  | 0, k + 1, i, hi, _ => by
    have h1 : ¬ ((i : Int) < (l.length : Int)) := by omega
    rw [spec_l4Fault.l0, if_neg h1, List.drop_eq_nil_of_le (by omega)]
    rfl
  | n + 1, k + 1, i, hi, h => by
    have hlt : i < l.length := by omega
    have hb := hl.1
    have h1 : (i : Int) < (l.length : Int) := by omega
    have h2 : (0 : Int) ≤ (i : Int) := by omega
    obtain ⟨z0, z1⟩ := hl.2 l[i] (List.getElem_mem hlt)
    rw [spec_l4Fault.l0, if_pos h1, if_pos h2, wrap_succ i (by omega), spec_l4Fault.l0_eq l hl n k (i + 1) (by omega) (by omega), rd_fld l i hlt, spec_l4Name_eq _ k z0 (by omega), Option.bind_some, spec_l4Value_eq _ k z1 (by omega), Option.bind_some, List.drop_eq_getElem_cons hlt, List.all_cons]
    unfold fldB
    cases nameB l[i].f0 with
    | true =>
      rw [if_pos rfl, Bool.true_and]
      cases valB l[i].f1 with
      | true => rw [if_pos rfl, Bool.true_and]
      | false => rw [if_neg (by decide), Bool.false_and]; rfl
    | false => rw [if_neg (by decide), Bool.false_and, Bool.false_and]; rfl
theorem spec_l4Fault_eq (l : List S69) (hl : smallF l) (k : Nat) (hk : l.length + 2097155 < k) : spec_l4Fault.f k l = some (faultF l) := by
  unfold spec_l4Fault.f faultF
  by_cases h : 8 < l.length
  · rw [if_pos (by omega), if_pos h]
  · have := spec_l4Fault.l0_eq l hl l.length k 0 (by omega) hk
    rw [List.drop_zero] at this
    rw [if_neg (by omega), if_neg h]
    exact this
theorem impl_FieldsFault.l0_eq (l : List S69) (hl : smallF l) : ∀ (n k i : Nat), l.length = i + n → n + 2097155 < k → impl_FieldsFault.l0 k l (l.length : Int) (i : Int) = some (if (l.drop i).all fldB = true then 0 else 5)
  | _, 0, _, _, h => absurd h (by omega)
  | 0, k + 1, i, hi, _ => by
    have h1 : ¬ ((i : Int) < (l.length : Int)) := by omega
    rw [impl_FieldsFault.l0, if_neg h1, List.drop_eq_nil_of_le (by omega)]
    rfl
  | n + 1, k + 1, i, hi, h => by
    have hlt : i < l.length := by omega
    have hb := hl.1
    have h1 : (i : Int) < (l.length : Int) := by omega
    have h2 : (0 : Int) ≤ (i : Int) := by omega
    obtain ⟨z0, z1⟩ := hl.2 l[i] (List.getElem_mem hlt)
    rw [impl_FieldsFault.l0, if_pos h1, if_pos h2, if_pos h1, wrap_succ i (by omega), impl_FieldsFault.l0_eq l hl n k (i + 1) (by omega) (by omega), rd_fld l i hlt, impl_isField_eq _ _ k z0 z1 (by omega), Option.bind_some, List.drop_eq_getElem_cons hlt, List.all_cons]
    show (if fldB l[i] = true then _ else _) = _
    cases fldB l[i] with
    | true => rw [if_pos rfl, Bool.true_and]
    | false => rw [if_neg (by decide), Bool.false_and]; rfl
theorem impl_FieldsFault_eq (l : List S69) (hl : smallF l) (k : Nat) (hk : l.length + 2097155 < k) : impl_FieldsFault.f k l = some (faultF l) := by
  unfold impl_FieldsFault.f faultF
  by_cases h : 8 < l.length
  · rw [if_pos (by omega), if_pos h]
  · have := impl_FieldsFault.l0_eq l hl l.length k 0 (by omega) hk
    rw [List.drop_zero] at this
    rw [if_neg (by omega), if_neg h]
    exact this
def cvF (x : S88) : S69 := ⟨x.f0, x.f1⟩
theorem rd_fldL (l : List S88) (i : Nat) (h : i < l.length) : rd_T88 l (i : Int) = l[i] := by
  unfold rd_T88
  rw [Int.toNat_natCast, List.getD_eq_getElem?_getD, List.getElem?_eq_getElem h]
  rfl
theorem laws_szFieldS.l0_eq (l : List S88) (hl : l.length ≤ 1048576) (hs : ∀ x ∈ l, x.f0.size ≤ maxLen ∧ x.f1.size ≤ maxLen) : ∀ (n k i : Nat) (q : Int), l.length = i + n → n < k → 0 ≤ q → q ≤ 1048576 → ∃ r, laws_szFieldS.l0 k l q (i : Int) = some r ∧ (r < 0 ∨ ∀ x ∈ l.drop i, x.f0.size ≤ 1048576 ∧ x.f1.size ≤ 1048576)
  | _, 0, _, _, _, h, _, _ => absurd h (by omega)
  | 0, k + 1, i, q, hi, _, _, _ => by
    have h1 : ¬ ((i : Int) < (l.length : Int)) := by omega
    rw [laws_szFieldS.l0, if_neg h1, List.drop_eq_nil_of_le (by omega)]
    exact ⟨q, rfl, .inr (by simp)⟩
  | n + 1, k + 1, i, q, hi, h, h0, hq => by
    have hlt : i < l.length := by omega
    have h1 : (i : Int) < (l.length : Int) := by omega
    have h2 : (0 : Int) ≤ (i : Int) := by omega
    obtain ⟨z0, z1⟩ := hs l[i] (List.getElem_mem hlt)
    have hm := maxLen_le
    rw [laws_szFieldS.l0, if_pos h1, if_pos h2, wrap_succ i (by omega), rd_fldL l i hlt]
    unfold laws_szField.f
    have w1 : wrap64 (q - (l[i].f0.size : Int)) = q - (l[i].f0.size : Int) := wrap64_in (by omega)
    rw [w1]
    by_cases c1 : q - (l[i].f0.size : Int) < 0
    · rw [if_pos c1, Option.bind_some, if_pos (by decide)]
      exact ⟨-1, rfl, .inl (by decide)⟩
    · have w2 : wrap64 (q - (l[i].f0.size : Int) - (l[i].f1.size : Int)) = q - (l[i].f0.size : Int) - (l[i].f1.size : Int) := wrap64_in (by omega)
      rw [if_neg c1, w2]
      by_cases c2 : q - (l[i].f0.size : Int) - (l[i].f1.size : Int) < 0
      · rw [if_pos c2, Option.bind_some, if_pos (by decide)]
        exact ⟨-1, rfl, .inl (by decide)⟩
      · rw [if_neg c2, Option.bind_some, if_neg c2]
        obtain ⟨r, hr, hx⟩ := laws_szFieldS.l0_eq l hl hs n k (i + 1) (q - (l[i].f0.size : Int) - (l[i].f1.size : Int)) (by omega) (by omega) (by omega) (by omega)
        refine ⟨r, hr, hx.imp_right (fun hx => ?_)⟩
        rw [List.drop_eq_getElem_cons hlt]
        intro x hxm
        rcases List.mem_cons.1 hxm with rfl | hxm
        · exact ⟨by omega, by omega⟩
        · exact hx x hxm
theorem laws_szFieldS_eq (l : List S88) (hl : l.length ≤ maxLen) (hs : ∀ x ∈ l, x.f0.size ≤ maxLen ∧ x.f1.size ≤ maxLen) (k : Nat) (hk : l.length < k) : ∃ r, laws_szFieldS.f k l 1048576 = some r ∧ (r < 0 ∨ (l.length ≤ 1048576 ∧ ∀ x ∈ l, x.f0.size ≤ 1048576 ∧ x.f1.size ≤ 1048576)) := by
  have hm := maxLen_le
  have w1 : wrap64 (1048576 - (l.length : Int)) = 1048576 - (l.length : Int) := wrap64_in (by omega)
  unfold laws_szFieldS.f
  rw [w1]
  by_cases c : 1048576 - (l.length : Int) < 0
  · rw [if_pos c]
    exact ⟨-1, rfl, .inl (by decide)⟩
  · rw [if_neg c]
    obtain ⟨r, hr, hx⟩ := laws_szFieldS.l0_eq l (by omega) hs l.length k 0 (1048576 - (l.length : Int)) (by omega) hk (by omega) (by omega)
    exact ⟨r, hr, hx.imp_right (fun hx => ⟨by omega, by simpa using hx⟩)⟩
theorem laws_toFieldS.l0_eq (l : List S88) (hl : l.length ≤ 1048576) : ∀ (n k i : Nat), l.length = i + n → n < k → laws_toFieldS.l0 k l ((l.take i).map cvF ++ List.replicate n z69) (i : Int) = some (l.map cvF)
  | _, 0, _, _, h => absurd h (by omega)
  | 0, k + 1, i, hi, _ => by
    have h1 : ¬ ((i : Int) < (l.length : Int)) := by omega
    rw [laws_toFieldS.l0, if_neg h1, List.take_of_length_le (by omega), List.replicate_zero, List.append_nil]
  | n + 1, k + 1, i, hi, h => by
    have hlt : i < l.length := by omega
    have h1 : (i : Int) < (l.length : Int) := by omega
    have h2 : (0 : Int) ≤ (i : Int) := by omega
    have h3 : (i : Int) < (((l.take i).map cvF ++ List.replicate (n + 1) z69).length : Int) := by simp; omega
    rw [laws_toFieldS.l0, if_pos h1, if_pos h2, wrap_succ i (by omega), rd_fldL l i hlt]
    unfold laws_toField.f
    rw [Option.bind_some, if_pos h3, ← laws_toFieldS.l0_eq l hl n k (i + 1) (by omega) (by omega)]
    congr 1
    rw [Int.toNat_natCast, List.set_append_right _ _ (by simp; omega)]
    have h5 : i - ((l.take i).map cvF).length = 0 := by simp; omega
    rw [h5, List.take_succ_eq_append_getElem hlt, List.map_append, List.append_assoc, List.replicate_succ, List.set_cons_zero]
    rfl
theorem laws_toFieldS_eq (l : List S88) (k : Nat) (hl : l.length ≤ 1048576) (hk : l.length < k) : laws_toFieldS.f k l = some (l.map cvF) := by
  have h1 : (0 : Int) ≤ (l.length : Int) := by omega
  have := laws_toFieldS.l0_eq l hl l.length k 0 (by omega) hk
  unfold laws_toFieldS.f
  rw [if_pos h1, Int.toNat_natCast, if_pos (by omega)]
  simpa using this
theorem smallF_cv (l : List S88) (hl : l.length ≤ 1048576) (hs : ∀ x ∈ l, x.f0.size ≤ 1048576 ∧ x.f1.size ≤ 1048576) : smallF (l.map cvF) := by
  refine ⟨by rw [List.length_map]; exact hl, fun x hx => ?_⟩
  obtain ⟨y, hy, rfl⟩ := List.mem_map.1 hx
  exact hs y hy
theorem laws_eqFieldS.l0_eq (l : List S69) (hl : l.length ≤ 1048576) : ∀ (n k i : Nat), l.length = i + n → n < k → laws_eqFieldS.l0 k l l (i : Int) = some true
  | _, 0, _, _, h => absurd h (by omega)
  | 0, k + 1, i, hi, _ => by
    have h1 : ¬ ((i : Int) < (l.length : Int)) := by omega
    rw [laws_eqFieldS.l0, if_neg h1]
  | n + 1, k + 1, i, hi, h => by
    have h1 : (i : Int) < (l.length : Int) := by omega
    have h2 : (0 : Int) ≤ (i : Int) := by omega
    rw [laws_eqFieldS.l0, if_pos h1, if_pos h2, if_pos h1, wrap_succ i (by omega)]
    unfold laws_eqField.f
    rw [if_pos rfl, if_pos rfl, Option.bind_some, if_pos rfl]
    exact laws_eqFieldS.l0_eq l hl n k (i + 1) (by omega) (by omega)
theorem laws_eqFieldS_eq (l : List S69) (k : Nat) (hl : l.length ≤ 1048576) (hk : l.length < k) : laws_eqFieldS.f k l l = some true := by
  unfold laws_eqFieldS.f
  rw [if_pos rfl]
  exact laws_eqFieldS.l0_eq l hl l.length k 0 (by omega) hk
theorem div10 (x p : Int) (h0 : 0 ≤ x) (hx : x ≤ 4611686018427387904) (h1 : x < p * 10) : 0 ≤ x / 10 ∧ x / 10 ≤ 4611686018427387904 ∧ x / 10 < p := by omega
theorem laws_markText.l0_some : ∀ (n k : Nat) (x : Int) (acc : ByteArray), 0 ≤ x → x ≤ 4611686018427387904 → x < 10 ^ n → n < k → acc.size + n ≤ 1000 → ∃ s, laws_markText.l0 k x acc = some s
  | _, 0, _, _, _, _, _, h, _ => absurd h (by omega)
  | 0, k + 1, x, acc, h0, _, h1, _, ha => by
    have hx : ¬ x > 0 := by
      have : (10 : Int) ^ 0 = 1 := rfl
      omega
    rw [laws_markText.l0, if_neg hx, if_pos (by omega)]
    exact ⟨_, rfl⟩
  | n + 1, k + 1, x, acc, h0, hm, h1, hk, ha => by
    by_cases hx : x > 0
    · have hd : Int.tdiv x 10 = x / 10 := Int.tdiv_eq_ediv_of_nonneg h0
      have hp : (10 : Int) ^ (n + 1) = 10 ^ n * 10 := by rw [Int.pow_succ]
      have hsz : (strOfNums [(wrap64 (48 + (Int.tmod x 10))) % 256]).size = 1 := by rw [strOfNums_size]; rfl
      rw [hp] at h1
      obtain ⟨q0, q1, q2⟩ := div10 x _ h0 hm h1
      have hw : wrap64 (x / 10) = x / 10 := wrap64_in ⟨Int.le_trans (by decide) q0, Int.le_trans q1 (by decide)⟩
      have hsz2 : ((strOfNums [(wrap64 (48 + (Int.tmod x 10))) % 256]) ++ acc).size = 1 + acc.size := by rw [ByteArray.size_append, hsz]
      rw [laws_markText.l0, if_pos hx, Option.bind_some, if_pos (by rw [hsz]; omega), hd, hw]
      exact laws_markText.l0_some n k (x / 10) _ q0 q1 q2 (by omega) (by rw [hsz2]; omega)
    · rw [laws_markText.l0, if_neg hx, if_pos (by omega)]
      exact ⟨_, rfl⟩
theorem laws_markText_some (k : Nat) (x : Int) (hk : 30 ≤ k) (hx : x ≤ 1000000000) : ∃ s, laws_markText.f k x = some s := by
  unfold laws_markText.f
  by_cases h : x ≤ 0
  · rw [if_pos h]; exact ⟨_, rfl⟩
  · rw [if_neg h]
    have hp : (10 : Int) ^ 10 = 10000000000 := by decide
    exact laws_markText.l0_some 10 k x _ (by omega) (by omega) (by rw [hp]; omega) (by omega) (by decide)
theorem laws_markFieldS.l0_some : ∀ (n k i : Nat) (l : List S69) (q : Int), l.length = i + n → n + 40 < k → 0 ≤ q → q + 2 * n ≤ 900000000 → l.length ≤ 1048576 → ∃ l', laws_markFieldS.l0 k l q (i : Int) = some (q + 2 * n, l')
  | _, 0, _, _, _, _, h, _, _, _ => absurd h (by omega)
  | 0, k + 1, i, l, q, hi, _, _, _, _ => by
    have h1 : ¬ ((i : Int) < (l.length : Int)) := by omega
    rw [laws_markFieldS.l0, if_neg h1]
    exact ⟨l, by simp⟩
  | n + 1, k + 1, i, l, q, hi, h, h0, hq, hl => by
    have h1 : (i : Int) < (l.length : Int) := by omega
    have h2 : (0 : Int) ≤ (i : Int) := by omega
    have w1 : wrap64 (q + 1) = q + 1 := wrap64_in (by omega)
    have w2 : wrap64 (q + 1 + 1) = q + 1 + 1 := wrap64_in (by omega)
    obtain ⟨s1, e1⟩ := laws_markText_some k q (by omega) (by omega)
    obtain ⟨s2, e2⟩ := laws_markText_some k (q + 1) (by omega) (by omega)
    rw [laws_markFieldS.l0, if_pos h1, e1, Option.bind_some, if_pos h2, Option.bind_some, w1, e2, Option.bind_some, w2, wrap_succ i (by omega)]
    obtain ⟨l', e3⟩ := laws_markFieldS.l0_some n k (i + 1) (((l.set (i : Int).toNat (⟨s1, (rd_T69 l (i : Int)).f1⟩ : S69)).set (i : Int).toNat (⟨(rd_T69 (l.set (i : Int).toNat (⟨s1, (rd_T69 l (i : Int)).f1⟩ : S69)) (i : Int)).f0, s2⟩ : S69))) (q + 1 + 1) (by rw [List.length_set, List.length_set]; omega) (by omega) (by omega) (by omega) (by rw [List.length_set, List.length_set]; omega)
    refine ⟨l', ?_⟩
    rw [e3]
    congr 2
    omega
theorem laws_markFieldS_some (l : List S69) (k : Nat) (hk : l.length + 40 < k) (hl : l.length ≤ 1048576) : ∃ l', laws_markFieldS.f k l 1 = some (1 + 2 * (l.length : Int), l') := by
  unfold laws_markFieldS.f
  exact laws_markFieldS.l0_some l.length k 0 l 1 (by omega) hk (by omega) (by omega) hl
theorem bytesOf_append (a b : ByteArray) : bytesOf (a ++ b) = bytesOf a ++ bytesOf b := by
  unfold bytesOf
  rw [ByteArray.data_append, Array.toList_append, List.map_append]
def pkS (x : S69) : ByteArray := ((x.f0 ++ (⟨#[58, 32]⟩ : ByteArray)) ++ x.f1) ++ (⟨#[10]⟩ : ByteArray)
def pk (x : S69) : List Int := bytesOf (pkS x)
theorem pkS_size (x : S69) : (x.f0 ++ (⟨#[58, 32]⟩ : ByteArray)).size = x.f0.size + 2 ∧ ((x.f0 ++ (⟨#[58, 32]⟩ : ByteArray)) ++ x.f1).size = x.f0.size + 2 + x.f1.size ∧ (pkS x).size = x.f0.size + 2 + x.f1.size + 1 := by
  have h1 : (x.f0 ++ (⟨#[58, 32]⟩ : ByteArray)).size = x.f0.size + 2 := by rw [ByteArray.size_append]; rfl
  have h2 : ((x.f0 ++ (⟨#[58, 32]⟩ : ByteArray)) ++ x.f1).size = x.f0.size + 2 + x.f1.size := by rw [ByteArray.size_append, h1]
  refine ⟨h1, h2, ?_⟩
  unfold pkS
  rw [ByteArray.size_append, h2]
  rfl
def packF (l : List S69) : List Int := l.flatMap pk ++ [10]
theorem pk_len (x : S69) (h : x.f0.size ≤ 1048576 ∧ x.f1.size ≤ 1048576) : (pk x).length ≤ 2097155 := by
  unfold pk
  rw [bytesOf_length, (pkS_size x).2.2]
  omega
theorem spec_l4Pack.l0_eq (l : List S69) (hl : smallF l) (h8 : l.length ≤ 8) : ∀ (n k i : Nat) (acc : List Int), l.length = i + n → n < k → acc.length + n * 2097155 ≤ 30000000 → spec_l4Pack.l0 k l acc (i : Int) = some (acc ++ packF (l.drop i))
  | _, 0, _, _, _, h, _ => absurd h (by omega)
  | 0, k + 1, i, acc, hi, _, ha => by
    have h1 : ¬ ((i : Int) < (l.length : Int)) := by omega
    rw [spec_l4Pack.l0, if_neg h1, if_pos (by omega), List.drop_eq_nil_of_le (by omega)]
    rfl
  | n + 1, k + 1, i, acc, hi, h, ha => by
    have hlt : i < l.length := by omega
    have h1 : (i : Int) < (l.length : Int) := by omega
    have h2 : (0 : Int) ≤ (i : Int) := by omega
    have hz := hl.2 l[i] (List.getElem_mem hlt)
    obtain ⟨p1, p2, p3⟩ := pkS_size l[i]
    have p4 := pk_len l[i] hz
    rw [spec_l4Pack.l0, if_pos h1, if_pos h2, wrap_succ i (by omega), rd_fld l i hlt, if_pos (by omega), if_pos (by rw [p1]; omega), if_pos (by rw [p2]; omega)]
    change (if (pkS l[i]).size ≤ 281474976710656 then ((some (pk l[i])).bind fun y => if acc.length + y.length < 140737488355328 then spec_l4Pack.l0 k l (acc ++ y) ((i + 1 : Nat) : Int) else none) else none) = _
    rw [if_pos (show (pkS l[i]).size ≤ 281474976710656 by rw [p3]; omega), Option.bind_some, if_pos (show acc.length + (pk l[i]).length < 140737488355328 by omega)]
    rw [spec_l4Pack.l0_eq l hl h8 n k (i + 1) _ (by omega) (by omega) (by rw [List.length_append]; omega), List.drop_eq_getElem_cons hlt]
    unfold packF
    rw [List.flatMap_cons, List.append_assoc, List.append_assoc]
theorem spec_l4Pack_eq (l : List S69) (hl : smallF l) (h8 : l.length ≤ 8) (k : Nat) (hk : l.length < k) : spec_l4Pack.f k l = some (packF l) := by
  have := spec_l4Pack.l0_eq l hl h8 l.length k 0 [] (by omega) hk (by simp; omega)
  unfold spec_l4Pack.f
  simpa using this
theorem impl_PackHeader.l0_eq (l : List S69) (hl : smallF l) (h8 : l.length ≤ 8) : ∀ (n k i : Nat) (acc : List Int), l.length = i + n → n < k → acc.length + n * 2097155 ≤ 30000000 → impl_PackHeader.l0 k acc l (l.length : Int) (i : Int) = some (if 400 < (acc ++ packF (l.drop i)).length then (2, []) else (0, acc ++ packF (l.drop i)))
  | _, 0, _, _, _, h, _ => absurd h (by omega)
  | 0, k + 1, i, acc, hi, _, ha => by
    have h1 : ¬ ((i : Int) < (l.length : Int)) := by omega
    have hp : packF ([] : List S69) = [10] := rfl
    rw [impl_PackHeader.l0, if_neg h1, if_pos (by omega), List.drop_eq_nil_of_le (by omega), Option.bind_some, hp]
    by_cases c : 400 < (acc ++ [10]).length
    · rw [if_pos c, if_pos (by omega)]
    · rw [if_neg c, if_neg (by omega)]
  | n + 1, k + 1, i, acc, hi, h, ha => by
    have hlt : i < l.length := by omega
    have h1 : (i : Int) < (l.length : Int) := by omega
    have h2 : (0 : Int) ≤ (i : Int) := by omega
    have hz := hl.2 l[i] (List.getElem_mem hlt)
    obtain ⟨p1, p2, p3⟩ := pkS_size l[i]
    have p4 := pk_len l[i] hz
    have p5 : (pk l[i]).length = (pkS l[i]).size := bytesOf_length _
    rw [impl_PackHeader.l0, if_pos h1, if_pos h2, if_pos h1, wrap_succ i (by omega), rd_fld l i hlt, if_pos (by omega), if_pos (by rw [p1]; omega), if_pos (by rw [p2]; omega)]
    change (if acc.length + (pkS l[i]).size < 140737488355328 then impl_PackHeader.l0 k (acc ++ pk l[i]) l (l.length : Int) ((i + 1 : Nat) : Int) else none) = _
    rw [if_pos (show acc.length + (pkS l[i]).size < 140737488355328 by omega)]
    rw [impl_PackHeader.l0_eq l hl h8 n k (i + 1) _ (by omega) (by omega) (by rw [List.length_append]; omega), List.drop_eq_getElem_cons hlt]
    have e : acc ++ pk l[i] ++ packF (l.drop (i + 1)) = acc ++ packF (l[i] :: l.drop (i + 1)) := by
      unfold packF
      rw [List.flatMap_cons, List.append_assoc, List.append_assoc]
    rw [e]
def packo (l : List S69) : Int × List Int := if faultF l = 0 then (if 400 < (packF l).length then (2, []) else (0, packF l)) else (faultF l, [])
theorem packo_len (l : List S69) : (packo l).2.length ≤ 400 := by
  unfold packo
  split
  · split
    · simp
    · simp only; omega
  · simp
theorem fault8 (l : List S69) (h : faultF l = 0) : l.length ≤ 8 ∧ ∀ x ∈ l, fldB x = true := by
  unfold faultF at h
  by_cases c : 8 < l.length
  · rw [if_pos c] at h; exact absurd h (by decide)
  · rw [if_neg c] at h
    by_cases c2 : l.all fldB = true
    · exact ⟨by omega, List.all_eq_true.mp c2⟩
    · rw [if_neg c2] at h; exact absurd h (by decide)
theorem spec_PackHeader_eq (l : List S69) (hl : smallF l) (k : Nat) (hk : l.length + 2097155 < k) : spec_PackHeader.f k l = some (packo l) := by
  unfold spec_PackHeader.f packo
  rw [spec_l4Fault_eq l hl k hk, Option.bind_some]
  by_cases h : faultF l = 0
  · rw [if_pos h, if_pos h, spec_l4Pack_eq l hl (fault8 l h).1 k (by omega), Option.bind_some]
    by_cases c : 400 < (packF l).length
    · rw [if_pos c, if_pos (by omega)]
    · rw [if_neg c, if_neg (by omega)]
  · rw [if_neg h, if_neg h]
theorem impl_PackHeader_eq (l : List S69) (hl : smallF l) (k : Nat) (hk : l.length + 2097155 < k) : impl_PackHeader.f k l = some (packo l) := by
  unfold impl_PackHeader.f packo
  rw [impl_FieldsFault_eq l hl k hk, Option.bind_some]
  by_cases h : faultF l = 0
  · have := impl_PackHeader.l0_eq l hl (fault8 l h).1 l.length k 0 [] (by omega) (by omega) (by have := (fault8 l h).1; simp; omega)
    rw [List.drop_zero, List.nil_append] at this
    rw [if_pos h, if_pos h]
    exact this
  · rw [if_neg h, if_neg h]
theorem laws_eqByteS.l0_eq (x0 : List Int) (hb : x0.length ≤ maxLen) : ∀ (n k i : Nat), x0.length = i + n → n < k → laws_eqByteS.l0 k x0 x0 (i : Int) = some true
  | 0, 0, _, _, h => absurd h (by omega)
  | 0, k + 1, i, hi, _ => by
    have h1 : ¬ ((i : Int) < (x0.length : Int)) := by omega
    simp only [laws_eqByteS.l0, if_neg h1]
  | n + 1, 0, _, _, h => absurd h (by omega)
  | n + 1, k + 1, i, hi, h => by
    have hm := maxLen_le
    have h1 : (i : Int) < (x0.length : Int) := by omega
    have h2 : (0 : Int) ≤ (i : Int) := by omega
    have h4 : wrap64 ((i : Int) + 1) = ((i + 1 : Nat) : Int) := by rw [wrap64_in (by omega)]; omega
    unfold laws_eqByteS.l0
    rw [if_pos h1, if_pos h2, if_pos h1]
    rw [if_pos rfl, h4]
    exact laws_eqByteS.l0_eq x0 hb n k (i + 1) (by omega) (by omega)
theorem laws_eqByteS_eq (l : List Int) (k : Nat) (hb : l.length ≤ maxLen) (hk : l.length < k) : laws_eqByteS.f k l l = some true := by
  unfold laws_eqByteS.f
  rw [if_pos rfl]
  exact laws_eqByteS.l0_eq l hb l.length k 0 (by omega) hk
def mkByteS (x : Int) : Int := ((x)%256)
def marksByteS : Int → Nat → List Int
  | _, 0 => []
  | m, n + 1 => mkByteS m :: marksByteS (m + 1) n
theorem marksByteS_len : ∀ n m, (marksByteS m n).length = n
  | 0, _ => rfl
  | n + 1, m => by simp [marksByteS, marksByteS_len n]
theorem laws_markByteS.l0_eq : ∀ (n k i : Nat) (x0 : List Int) (x1 : Int), x0.length = i + n → n < k → 0 ≤ x1 → x1 + n ≤ 4611686018427387904 → x0.length ≤ 4611686018427387904 → laws_markByteS.l0 k x0 x1 (i : Int) = some (x1 + n, x0.take i ++ marksByteS x1 n)
  | 0, 0, _, _, _, _, h, _, _, _ => absurd h (by omega)
  | 0, k + 1, i, x0, x1, hi, _, _, _, _ => by
    have h1 : ¬ ((i : Int) < (x0.length : Int)) := by omega
    unfold laws_markByteS.l0
    rw [if_neg h1, List.take_of_length_le (by omega)]
    simp [marksByteS]
  | n + 1, 0, _, _, _, _, h, _, _, _ => absurd h (by omega)
  | n + 1, k + 1, i, x0, x1, hi, h, hx, hx1, hb => by
    have h1 : (i : Int) < (x0.length : Int) := by omega
    have h2 : (0 : Int) ≤ (i : Int) := by omega
    have h4 : wrap64 ((i : Int) + 1) = ((i + 1 : Nat) : Int) := by rw [wrap64_in (by omega)]; omega
    have h5 : wrap64 (x1 + 1) = x1 + 1 := wrap64_in (by omega)
    have hs : (x0.set i (mkByteS x1)).take (i + 1) = x0.take i ++ [mkByteS x1] := by
      rw [List.take_succ_eq_append_getElem (by simp; omega), List.getElem_set_self]
      congr 1
      rw [List.take_set, List.set_eq_of_length_le (by simp; omega)]
    unfold laws_markByteS.l0
    rw [if_pos h1, if_pos h2, Int.toNat_natCast, h4, h5]
    have := laws_markByteS.l0_eq n k (i + 1) (x0.set i (mkByteS x1)) (x1 + 1) (by simp; omega) (by omega) (by omega) (by omega) (by simp; omega)
    rw [hs] at this
    unfold mkByteS at this
    rw [this]
    simp [marksByteS, mkByteS]
    omega
theorem laws_markByteS_eq (l : List Int) (m : Int) (k : Nat) (hk : l.length < k) (hl : l.length ≤ 1048576) (hm : 0 ≤ m ∧ m ≤ 4294967296) : laws_markByteS.f k l m = some (m + l.length, marksByteS m l.length) := by
  unfold laws_markByteS.f
  have := laws_markByteS.l0_eq l.length k 0 l m (by omega) hk hm.1 (by omega) (by omega)
  simpa using this
theorem laws_heldByteS.l0_eq : ∀ (n k i : Nat) (x0 : List Int) (x1 : Int), x0.length = i + n → n < k → 0 ≤ x1 → x1 + n ≤ 4611686018427387904 → x0.length ≤ 4611686018427387904 → x0.drop i = marksByteS x1 n → laws_heldByteS.l0 k x0 x1 (i : Int) = some (x1 + n)
  | 0, 0, _, _, _, _, h, _, _, _, _ => absurd h (by omega)
  | 0, k + 1, i, x0, x1, hi, _, _, _, _, _ => by
    have h1 : ¬ ((i : Int) < (x0.length : Int)) := by omega
    unfold laws_heldByteS.l0
    rw [if_neg h1]
    simp
  | n + 1, 0, _, _, _, _, h, _, _, _, _ => absurd h (by omega)
  | n + 1, k + 1, i, x0, x1, hi, h, hx, hx1, hb, hd => by
    have h1 : (i : Int) < (x0.length : Int) := by omega
    have h2 : (0 : Int) ≤ (i : Int) := by omega
    have h4 : wrap64 ((i : Int) + 1) = ((i + 1 : Nat) : Int) := by rw [wrap64_in (by omega)]; omega
    have h5 : wrap64 (x1 + 1) = x1 + 1 := wrap64_in (by omega)
    have hlt : i < x0.length := by omega
    rw [List.drop_eq_getElem_cons hlt] at hd
    unfold marksByteS at hd
    have h6 : x0[i] = mkByteS x1 := (List.cons.inj hd).1
    have h7 : x0.drop (i + 1) = marksByteS (x1 + 1) n := (List.cons.inj hd).2
    unfold laws_heldByteS.l0
    rw [if_pos h1, if_pos h2, rd_at x0 i hlt, h6, if_pos (by unfold mkByteS; rfl), h4, h5, laws_heldByteS.l0_eq n k (i + 1) x0 (x1 + 1) (by omega) (by omega) (by omega) (by omega) hb h7]
    congr 1
    omega
theorem laws_heldByteS_eq (n : Nat) (m : Int) (k : Nat) (hk : n < k) (hl : n ≤ 1048576) (hm : 0 ≤ m ∧ m ≤ 4294967296) : laws_heldByteS.f k (marksByteS m n) m = some (m + n) := by
  have hml := marksByteS_len n m
  unfold laws_heldByteS.f
  exact laws_heldByteS.l0_eq n k 0 (marksByteS m n) m (by omega) hk hm.1 (by omega) (by omega) (by simp)
theorem FnExactPackHeader : laws_FnExactPackHeader.Pure := by
  intro l hm _ hs
  obtain ⟨k, hk⟩ : ∃ k, l.length + 2097156 < k := ⟨_, Nat.lt_succ_self _⟩
  refine ⟨k + 1, ?_⟩
  unfold laws_FnExactPackHeader.f
  obtain ⟨r, hr, hx⟩ := laws_szFieldS_eq l hm hs (k + 1) (by omega)
  rw [hr, Option.bind_some]
  by_cases h0 : r < 0
  · rw [if_pos h0]
  · obtain ⟨hl, hz⟩ := hx.resolve_left h0
    have hF := smallF_cv l hl hz
    have hml : (l.map cvF).length = l.length := List.length_map ..
    have e1 := laws_toFieldS_eq l (k + 1) hl (by omega)
    have e1' := laws_toFieldS_eq l k hl (by omega)
    have e2 := spec_PackHeader_eq (l.map cvF) hF (k + 1) (by omega)
    have e3 := impl_PackHeader_eq (l.map cvF) hF (k + 1) (by omega)
    have e3' := impl_PackHeader_eq (l.map cvF) hF k (by omega)
    have e4 := laws_eqFieldS_eq (l.map cvF) (k + 1) (by omega) (by omega)
    obtain ⟨l', e5⟩ := laws_markFieldS_some (l.map cvF) (k + 1) (by omega) (by omega)
    have hpl := packo_len (l.map cvF)
    generalize packo (l.map cvF) = o at e2 e3 e3' hpl
    have e6 : ∀ k, 400 < k → laws_eqBytesResult.f k o.1 o.2 o.1 o.2 = some true := by
      intro k hk; unfold laws_eqBytesResult.f; rw [if_pos rfl, laws_eqByteS_eq o.2 k (by unfold maxLen; omega) (by omega)]; rfl
    have e7 := e6 (k + 1) (by omega)
    have e8 := e6 k (by omega)
    have e9 := laws_markByteS_eq o.2 1 k (by omega) (by omega) (by omega)
    have e10 := laws_heldByteS_eq o.2.length 1 k (by omega) (by omega) (by omega)
    have p0 : ¬ (1 + 2 * ((l.map cvF).length : Int) < 0) := by omega
    have p1 : ¬ (1 + (o.2.length : Int) < 0) := by omega
    simp only [if_neg h0, e1, e2, e3, e4, e5, e7, Option.bind_some, if_true, if_neg p0]
    rw [laws_FnExactPackHeader.j0]
    simp only [laws_markBytesResult.f, laws_heldBytesResult.f, e1', e3', e8, e9, e10, Option.bind_some, if_true, if_neg p1, Bool.not_true, Bool.false_eq_true, if_false]

end Go.Proofs.Ytjopgmjmjnfcjaa.Pure
