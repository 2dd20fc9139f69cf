/- The plain law: what the walk computes answers as the statement says. -/
import Derived.Test.YtmcnldekpjjgcaaPEncodeQuotedx2
namespace Go.Proofs.Ytmcnldekpjjgcaa.Pure
open Go.RowKit Go.Proofs.Ytmcnldekpjjgcaa.PEncodeQuoted Go.Proofs.YtmcnldekpjjgcaaW.PrintWords Go.Proofs.YtmcnldekpjjgcaaW.PrintLast
set_option linter.unusedSimpArgs false
set_option linter.unusedVariables false
theorem rd_at (l : List Int) (i : Nat) (h : i < l.length) : rd l (i : Int) = l[i] := by
  simp [rd, List.getD_eq_getElem?_getD, h]
theorem wrap64_in {n : Int} (h : -9223372036854775808 ≤ n ∧ n ≤ 9223372036854775807) : wrap64 n = n := by
  unfold wrap64; omega
theorem maxLen_le : maxLen ≤ 9223372036854775807 := by unfold maxLen; decide
theorem laws_toByteS.l0_eq (x0 : List Int) (hb : x0.length ≤ maxLen) : ∀ (n k i : Nat), x0.length = i + n → n < k → laws_toByteS.l0 k x0 (x0.take i ++ List.replicate n 0) (i : Int) = some x0
  | 0, 0, _, _, h => absurd h (by omega)
  | 0, k + 1, i, hi, _ => by
    have h1 : ¬ ((i : Int) < (x0.length : Int)) := by omega
    simp only [laws_toByteS.l0, if_neg h1, List.replicate_zero, List.append_nil]
    rw [List.take_of_length_le (by omega)]
  | n + 1, 0, _, _, h => absurd h (by omega)
  | n + 1, k + 1, i, hi, h => by
    have hm := maxLen_le
    have h1 : (i : Int) < (x0.length : Int) := by omega
    have h2 : (0 : Int) ≤ (i : Int) := by omega
    have h3 : (i : Int) < ((x0.take i ++ List.replicate (n + 1) (0 : Int)).length : Int) := by simp; omega
    have h4 : wrap64 ((i : Int) + 1) = ((i + 1 : Nat) : Int) := by rw [wrap64_in (by omega)]; omega
    simp only [laws_toByteS.l0]
    rw [if_pos h1, if_pos h2, if_pos h3, h4]
    rw [← laws_toByteS.l0_eq x0 hb n k (i + 1) (by omega) (by omega)]
    congr 1
    rw [rd_at x0 i (by omega), Int.toNat_natCast, List.set_append_right _ _ (by simp; omega)]
    have h5 : i - (x0.take i).length = 0 := by simp; omega
    rw [h5, List.take_succ_eq_append_getElem (by omega), List.append_assoc, List.replicate_succ, List.set_cons_zero]
    rfl
theorem laws_toByteS_eq (l : List Int) (k : Nat) (hb : l.length ≤ maxLen) (hb2 : l.length ≤ 1048576) (hk : l.length < k) : laws_toByteS.f k l = some l := by
  unfold laws_toByteS.f
  have h1 : (0 : Int) ≤ (l.length : Int) := by omega
  rw [if_pos h1, Int.toNat_natCast, if_pos (by omega)]
  exact laws_toByteS.l0_eq l hb l.length k 0 (by omega) hk
theorem laws_eqByteS.l0_eq (x0 : List Int) (hb : x0.length ≤ maxLen) : ∀ (n k i : Nat), x0.length = i + n → n < k → laws_eqByteS.l0 k x0 x0 (i : Int) = some true
  | 0, 0, _, _, h => absurd h (by omega)
  | 0, k + 1, i, hi, _ => by
    have h1 : ¬ ((i : Int) < (x0.length : Int)) := by omega
    simp only [laws_eqByteS.l0, if_neg h1]
  | n + 1, 0, _, _, h => absurd h (by omega)
  | n + 1, k + 1, i, hi, h => by
    have hm := maxLen_le
    have h1 : (i : Int) < (x0.length : Int) := by omega
    have h2 : (0 : Int) ≤ (i : Int) := by omega
    have h4 : wrap64 ((i : Int) + 1) = ((i + 1 : Nat) : Int) := by rw [wrap64_in (by omega)]; omega
    unfold laws_eqByteS.l0
    rw [if_pos h1, if_pos h2, if_pos h1]
    rw [if_pos rfl, h4]
    exact laws_eqByteS.l0_eq x0 hb n k (i + 1) (by omega) (by omega)
theorem laws_eqByteS_eq (l : List Int) (k : Nat) (hb : l.length ≤ maxLen) (hk : l.length < k) : laws_eqByteS.f k l l = some true := by
  unfold laws_eqByteS.f
  rw [if_pos rfl]
  exact laws_eqByteS.l0_eq l hb l.length k 0 (by omega) hk
/-- The two digits and the letters of a quoted text, as a plain law. -/
def hx (n : Int) : Int := bt (⟨#[48, 49, 50, 51, 52, 53, 54, 55, 56, 57, 65, 66, 67, 68, 69, 70]⟩ : ByteArray) n
def keepB (b : Int) (rest : List Int) : Bool := (decide (33 ≤ b ∧ b ≤ 126) && b != 61) || b == 10 || ((b == 32 || b == 9) && match rest with | [] => false | c :: _ => c != 10)
def qs : List Int → List Int
  | [] => []
  | b :: rest => if keepB b rest = true then b :: qs rest else 61 :: hx (b / 16) :: hx (b % 16) :: qs rest
theorem qs_len : ∀ l, (qs l).length ≤ 3 * l.length
  | [] => by simp [qs]
  | b :: rest => by
    have := qs_len rest
    unfold qs
    split <;> simp <;> omega
theorem spec_l1Hex_eq (n : Int) (h : 0 ≤ n ∧ n < 16) : spec_l1Hex.f n = some (hx n) := by
  unfold spec_l1Hex.f hx
  rw [if_pos h.1, if_pos h.2]
theorem spec_l1Quoted.j1_eq (k : Nat) (L x3 : List Int) (i b : Int) (x6 : Bool) : spec_l1Quoted.j1 (k + 1) L x3 i b x6 = spec_l1Quoted.j2 k L x3 i b ((decide (33 ≤ b ∧ b ≤ 126) && b != 61) || b == 10 || x6) := by
  unfold spec_l1Quoted.j1
  by_cases h1 : b ≥ 33
  · rw [if_pos h1]
    by_cases h2 : b ≤ 126
    · rw [if_pos h2]
      by_cases h3 : b = 61
      · subst h3
        rw [if_pos rfl, if_neg (by decide)]
        rfl
      · have h4 : (b != 61) = true := by simpa using h3
        rw [if_neg h3, h4, decide_eq_true (⟨h1, h2⟩ : 33 ≤ b ∧ b ≤ 126)]
        rfl
    · have h3 : b ≠ 10 := by omega
      have h4 : (b == 10) = false := by simpa using h3
      rw [if_neg h2, if_neg h3, h4, decide_eq_false (by omega : ¬ (33 ≤ b ∧ b ≤ 126))]
      simp
  · rw [if_neg h1, decide_eq_false (by omega : ¬ (33 ≤ b ∧ b ≤ 126))]
    by_cases h3 : b = 10
    · subst h3
      rw [if_pos rfl]
      rfl
    · have h4 : (b == 10) = false := by simpa using h3
      rw [if_neg h3, h4]
      simp
theorem spec_l1Quoted.l0_eq (L : List Int) (hb : L.length ≤ 1048576) (hB : ∀ x ∈ L, 0 ≤ x ∧ x ≤ 255) : ∀ (n k i : Nat) (x3 : List Int), L.length = i + n → 3 * n < k → x3.length + 3 * n < 140737488355328 → spec_l1Quoted.l0 k L x3 (i : Int) = some (strOfNums (x3 ++ qs (L.drop i)))
  | 0, 0, _, _, _, h, _ => absurd h (by omega)
  | 0, k + 1, i, x3, hi, _, _ => by
    have h1 : ¬ ((i : Int) < (L.length : Int)) := by omega
    unfold spec_l1Quoted.l0
    rw [if_neg h1, List.drop_eq_nil_of_le (by omega)]
    simp [qs]
  | n + 1, 0, _, _, _, h, _ => absurd h (by omega)
  | n + 1, 1, _, _, _, h, _ => absurd h (by omega)
  | n + 1, 2, _, _, _, h, _ => absurd h (by omega)
  | n + 1, k + 3, i, x3, hi, h, hx3 => by
    have h1 : (i : Int) < (L.length : Int) := by omega
    have h2 : (0 : Int) ≤ (i : Int) := by omega
    have h4 : wrap64 ((i : Int) + 1) = ((i + 1 : Nat) : Int) := by rw [wrap64_in (by omega)]; omega
    have hlt : i < L.length := by omega
    have hbb := hB L[i] (List.getElem_mem hlt)
    have ih := fun x => spec_l1Quoted.l0_eq L hb hB n k (i + 1) x (by omega) (by omega)
    have hd : L.drop i = L[i] :: L.drop (i + 1) := List.drop_eq_getElem_cons hlt
    have hrd : rd L (i : Int) = L[i] := rd_at L i hlt
    have hj : spec_l1Quoted.l0 (k + 3) L x3 (i : Int) = spec_l1Quoted.j1 (k + 2) L x3 i L[i] ((L[i] == 32 || L[i] == 9) && match L.drop (i + 1) with | [] => false | c :: _ => c != 10) := by
      conv => lhs; unfold spec_l1Quoted.l0
      rw [if_pos h1, if_pos h2, hrd, h4]
      by_cases h6 : i + 1 < L.length
      · have hd2 : L.drop (i + 1) = L[i + 1] :: L.drop (i + 1 + 1) := List.drop_eq_getElem_cons h6
        have hrd2 : rd L ((i + 1 : Nat) : Int) = L[i + 1] := rd_at L (i + 1) h6
        rw [hd2, hrd2, if_pos (by omega : ((i + 1 : Nat) : Int) < (L.length : Int)), if_pos (by omega : (0 : Int) ≤ ((i + 1 : Nat) : Int))]
        generalize L[i + 1] = c
        generalize L[i] = b
        by_cases h7 : b = 32
        · subst h7; rw [if_pos rfl]; rfl
        · rw [if_neg h7]
          by_cases h8 : b = 9
          · subst h8; rw [if_pos rfl]; rfl
          · have h9 : (b == 32) = false := by simpa using h7
            have h10 : (b == 9) = false := by simpa using h8
            rw [if_neg h8, h9, h10]; rfl
      · have hd2 : L.drop (i + 1) = [] := List.drop_eq_nil_of_le (by omega)
        rw [hd2, if_neg (by omega : ¬ ((i + 1 : Nat) : Int) < (L.length : Int))]
        generalize L[i] = b
        simp
    rw [hj, spec_l1Quoted.j1_eq, hd]
    have hk : ((decide (33 ≤ L[i] ∧ L[i] ≤ 126) && L[i] != 61) || L[i] == 10 || ((L[i] == 32 || L[i] == 9) && match L.drop (i + 1) with | [] => false | c :: _ => c != 10)) = keepB L[i] (L.drop (i + 1)) := rfl
    rw [hk]
    unfold qs
    generalize L[i] = b at hbb
    cases keepB b (L.drop (i + 1)) with
    | true =>
      unfold spec_l1Quoted.j2
      rw [if_pos rfl, if_pos rfl, if_pos (by omega), h4, ih _ (by simp; omega)]
      simp
    | false =>
      have ht : Int.tdiv b 16 % 256 = b / 16 := by rw [Int.tdiv_eq_ediv_of_nonneg hbb.1]; omega
      have hm : Int.tmod b 16 = b % 16 := Int.tmod_eq_emod_of_nonneg hbb.1
      unfold spec_l1Quoted.j2
      rw [if_neg (by decide), if_neg (by decide), ht, hm, spec_l1Hex_eq _ (by omega), spec_l1Hex_eq _ (by omega)]
      simp only [Option.bind_some]
      rw [if_pos (by simp; omega), h4, ih _ (by simp; omega)]
      simp
theorem spec_l1Quoted_eq (L : List Int) (k : Nat) (hb : L.length ≤ 1048576) (hB : ∀ x ∈ L, 0 ≤ x ∧ x ≤ 255) (hk : 3 * L.length < k) : spec_l1Quoted.f k L = some (strOfNums (qs L)) := by
  unfold spec_l1Quoted.f
  have := spec_l1Quoted.l0_eq L hb hB L.length k 0 [] (by omega) hk (by simp; omega)
  simpa using this
theorem hexOf256 : ∀ b : Fin 256, (impl_hexOf.f (b.val : Int)).map (fun s => s.data.toList) = some ([61, hx ((b.val : Int) / 16), hx ((b.val : Int) % 16)].map fun n => UInt8.ofNat n.toNat) := by decide +kernel
theorem impl_hexOf_eq (b : Int) (h : 0 ≤ b ∧ b ≤ 255) : (impl_hexOf.f b).map (fun s => s.data.toList) = some ([61, hx (b / 16), hx (b % 16)].map fun n => UInt8.ofNat n.toNat) := by
  have := hexOf256 ⟨b.toNat, by omega⟩
  simpa [Int.toNat_of_nonneg h.1] using this
theorem impl_EncodeQuoted.q_eq : ∀ (l : List Int), (∀ x ∈ l, 0 ≤ x ∧ x ≤ 255) → impl_EncodeQuoted.q l = some ((qs l).map fun n => UInt8.ofNat n.toNat)
  | [], _ => rfl
  | b :: rest, h => by
    have hb := h b (by simp)
    have hx1 := impl_hexOf_eq b hb
    unfold impl_EncodeQuoted.q impl_EncodeQuoted.one qs
    rw [impl_EncodeQuoted.q_eq rest (fun x hx => h x (by simp [hx]))]
    have hk : impl_EncodeQuoted.keep b rest = keepB b rest := rfl
    rw [hk]
    cases keepB b rest with
    | true => simp
    | false =>
      rw [if_neg (by decide), if_neg (by decide), hx1]
      simp
theorem impl_EncodeQuoted_eq (l : List Int) (h : ∀ x ∈ l, 0 ≤ x ∧ x ≤ 255) : impl_EncodeQuoted.f l = some (if 400 < l.length then (2, ⟨#[]⟩) else (0, strOfNums (qs l))) := by
  unfold impl_EncodeQuoted.f
  by_cases hl : 400 < l.length
  · rw [if_pos hl, if_pos hl]
  · have ha : l.all (fun x => decide (0 ≤ x ∧ x ≤ 255)) = true := by
      rw [List.all_eq_true]; intro x hx; exact decide_eq_true (h x hx)
    rw [if_neg hl, if_neg hl, if_pos ha, impl_EncodeQuoted.q_eq l h]
    rfl
theorem byte_wf {l : List Int} (h : ∀ x ∈ l, (Lit.int .u8 x).wf = true) : ∀ x ∈ l, 0 ≤ x ∧ x ≤ 255 := by
  intro x hx
  have h1 := h x hx
  unfold Lit.wf at h1
  rw [Bool.and_eq_true, decide_eq_true_eq, decide_eq_true_eq, show IntKind.u8.min = 0 from by decide, show IntKind.u8.max = 255 from by decide] at h1
  exact h1
theorem FnExactEncodeQuoted : laws_FnExactEncodeQuoted.Pure := by
  intro l hb hb2 hw
  refine ⟨3 * l.length + 1, ?_⟩
  unfold laws_FnExactEncodeQuoted.f
  by_cases hl : (l.length : Int) > 1048576
  · rw [if_pos hl]
  · rw [if_neg hl]
    have hB := byte_wf hw
    have e1 := laws_toByteS_eq l (3 * l.length + 1) hb (by omega) (by omega)
    have e2 := laws_eqByteS_eq l (3 * l.length + 1) hb (by omega)
    have e3 := spec_l1Quoted_eq l (3 * l.length + 1) (by omega) hB (by omega)
    have e4 : spec_EncodeQuoted.f (3 * l.length + 1) l = some (if 400 < l.length then (2, ⟨#[]⟩) else (0, strOfNums (qs l))) := by
      unfold spec_EncodeQuoted.f
      by_cases h4 : 400 < l.length
      · rw [if_pos (by omega), if_pos h4]
      · rw [if_neg (by omega), if_neg h4, e3]; rfl
    simp [e1, e2, e4, impl_EncodeQuoted_eq l hB, laws_eqTextResult.f]

end Go.Proofs.Ytmcnldekpjjgcaa.Pure
