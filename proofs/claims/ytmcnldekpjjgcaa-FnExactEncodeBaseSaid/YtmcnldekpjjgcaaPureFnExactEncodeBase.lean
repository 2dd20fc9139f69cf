/- The plain law: what the walk computes answers as the statement says. -/
import Derived.Test.YtmcnldekpjjgcaaPEncodeBasex1
namespace Go.Proofs.Ytmcnldekpjjgcaa.Pure
open Go.RowKit Go.Proofs.Ytmcnldekpjjgcaa.PEncodeBase Go.Proofs.YtmcnldekpjjgcaaW.PrintWords Go.Proofs.YtmcnldekpjjgcaaW.PrintLast
set_option linter.unusedSimpArgs false
set_option linter.unusedVariables false
theorem rd_at (l : List Int) (i : Nat) (h : i < l.length) : rd l (i : Int) = l[i] := by
  simp [rd, List.getD_eq_getElem?_getD, h]
theorem wrap64_in {n : Int} (h : -9223372036854775808 ≤ n ∧ n ≤ 9223372036854775807) : wrap64 n = n := by
  unfold wrap64; omega
theorem maxLen_le : maxLen ≤ 9223372036854775807 := by unfold maxLen; decide
theorem laws_toByteS.l0_eq (x0 : List Int) (hb : x0.length ≤ maxLen) : ∀ (n k i : Nat), x0.length = i + n → n < k → laws_toByteS.l0 k x0 (x0.take i ++ List.replicate n 0) (i : Int) = some x0
  | 0, 0, _, _, h => absurd h (by omega)
  | 0, k + 1, i, hi, _ => by
    have h1 : ¬ ((i : Int) < (x0.length : Int)) := by omega
    simp only [laws_toByteS.l0, if_neg h1, List.replicate_zero, List.append_nil]
    rw [List.take_of_length_le (by omega)]
  | n + 1, 0, _, _, h => absurd h (by omega)
  | n + 1, k + 1, i, hi, h => by
    have hm := maxLen_le
    have h1 : (i : Int) < (x0.length : Int) := by omega
    have h2 : (0 : Int) ≤ (i : Int) := by omega
    have h3 : (i : Int) < ((x0.take i ++ List.replicate (n + 1) (0 : Int)).length : Int) := by simp; omega
    have h4 : wrap64 ((i : Int) + 1) = ((i + 1 : Nat) : Int) := by rw [wrap64_in (by omega)]; omega
    simp only [laws_toByteS.l0]
    rw [if_pos h1, if_pos h2, if_pos h3, h4]
    rw [← laws_toByteS.l0_eq x0 hb n k (i + 1) (by omega) (by omega)]
    congr 1
    rw [rd_at x0 i (by omega), Int.toNat_natCast, List.set_append_right _ _ (by simp; omega)]
    have h5 : i - (x0.take i).length = 0 := by simp; omega
    rw [h5, List.take_succ_eq_append_getElem (by omega), List.append_assoc, List.replicate_succ, List.set_cons_zero]
    rfl
theorem laws_toByteS_eq (l : List Int) (k : Nat) (hb : l.length ≤ maxLen) (hb2 : l.length ≤ 1048576) (hk : l.length < k) : laws_toByteS.f k l = some l := by
  unfold laws_toByteS.f
  have h1 : (0 : Int) ≤ (l.length : Int) := by omega
  rw [if_pos h1, Int.toNat_natCast, if_pos (by omega)]
  exact laws_toByteS.l0_eq l hb l.length k 0 (by omega) hk
theorem laws_eqByteS.l0_eq (x0 : List Int) (hb : x0.length ≤ maxLen) : ∀ (n k i : Nat), x0.length = i + n → n < k → laws_eqByteS.l0 k x0 x0 (i : Int) = some true
  | 0, 0, _, _, h => absurd h (by omega)
  | 0, k + 1, i, hi, _ => by
    have h1 : ¬ ((i : Int) < (x0.length : Int)) := by omega
    simp only [laws_eqByteS.l0, if_neg h1]
  | n + 1, 0, _, _, h => absurd h (by omega)
  | n + 1, k + 1, i, hi, h => by
    have hm := maxLen_le
    have h1 : (i : Int) < (x0.length : Int) := by omega
    have h2 : (0 : Int) ≤ (i : Int) := by omega
    have h4 : wrap64 ((i : Int) + 1) = ((i + 1 : Nat) : Int) := by rw [wrap64_in (by omega)]; omega
    unfold laws_eqByteS.l0
    rw [if_pos h1, if_pos h2, if_pos h1]
    rw [if_pos rfl, h4]
    exact laws_eqByteS.l0_eq x0 hb n k (i + 1) (by omega) (by omega)
theorem laws_eqByteS_eq (l : List Int) (k : Nat) (hb : l.length ≤ maxLen) (hk : l.length < k) : laws_eqByteS.f k l l = some true := by
  unfold laws_eqByteS.f
  rw [if_pos rfl]
  exact laws_eqByteS.l0_eq l hb l.length k 0 (by omega) hk
theorem spec_l1Base_eq (n : Int) (h : 0 ≤ n ∧ n < 64) : spec_l1Base.f n = some (impl_baseText.dg n) := by
  unfold spec_l1Base.f impl_baseText.dg
  rw [if_pos h.1, if_pos h.2]
theorem tdw (V d : Int) (hV : 0 ≤ V ∧ V ≤ 16777215) (hd : 0 < d) : wrap64 (Int.tdiv V d) = V / d := by
  rw [Int.tdiv_eq_ediv_of_nonneg hV.1, wrap64_in]
  have h1 := Int.ediv_nonneg hV.1 (by omega : 0 ≤ d)
  have h2 := Int.ediv_le_self d hV.1
  omega
theorem tdwm (V d : Int) (hV : 0 ≤ V ∧ V ≤ 16777215) (hd : 0 < d) : Int.tmod (wrap64 (Int.tdiv V d)) 64 = V / d % 64 := by
  rw [tdw V d hV hd, Int.tmod_eq_emod_of_nonneg (Int.ediv_nonneg hV.1 (by omega))]
theorem tm64 (V : Int) (hV : 0 ≤ V ∧ V ≤ 16777215) : Int.tmod V 64 = V % 64 := Int.tmod_eq_emod_of_nonneg hV.1
theorem mod64 (x : Int) : 0 ≤ x % 64 ∧ x % 64 < 64 := by omega
theorem w123 (i : Nat) (h : i ≤ 1048576) : wrap64 ((i : Int) + 1) = (i : Int) + 1 ∧ wrap64 ((i : Int) + 2) = (i : Int) + 2 ∧ wrap64 ((i : Int) + 3) = ((i + 3 : Nat) : Int) := by
  refine ⟨wrap64_in (by omega), wrap64_in (by omega), ?_⟩
  rw [wrap64_in (by omega)]
  omega
theorem w12 (i : Nat) (h : i ≤ 1048576) : wrap64 ((i : Int) + 1) = ((i + 1 : Nat) : Int) ∧ wrap64 ((i : Int) + 2) = ((i + 2 : Nat) : Int) := by
  obtain ⟨h1, h2, _⟩ := w123 i h
  rw [h1, h2]
  omega
theorem spec_l1Encode.j2_eq (k : Nat) (L x3 : List Int) (i n : Nat) (V : Int) (hb : L.length ≤ 1048576) (hi : i < L.length) (hn : n = min (L.length - i) 3) (hV : 0 ≤ V ∧ V ≤ 16777215) (hx : x3.length + 4 < 140737488355328) :
    spec_l1Encode.j2 (k + 1) L x3 i V = spec_l1Encode.l0 k L (x3 ++ impl_baseText.four n V) ((i + 3 : Nat) : Int) := by
  have e1 := tdw V 262144 hV (by decide)
  have e2 := tdwm V 4096 hV (by decide)
  have e3 := tdwm V 64 hV (by decide)
  have e4 := tm64 V hV
  have v0 : 0 ≤ V / 262144 ∧ V / 262144 < 64 := by clear e1 e2 e3 e4 hx hn; omega
  have v1 := mod64 (V / 4096)
  have v2 := mod64 (V / 64)
  have v3 := mod64 V
  obtain ⟨w1, w2, w3⟩ := w123 i (by omega)
  have p0 : (2 : Int) ^ (18 - 6 * 0) = 262144 := by decide
  have p1 : (2 : Int) ^ (18 - 6 * 1) = 4096 := by decide
  have p2 : (2 : Int) ^ (18 - 6 * 2) = 64 := by decide
  have p3 : (2 : Int) ^ (18 - 6 * 3) = 1 := by decide
  have d0 : V / 262144 % 64 = V / 262144 := Int.emod_eq_of_lt v0.1 v0.2
  have d3 : V / 1 % 64 = V % 64 := by rw [Int.ediv_one]
  unfold spec_l1Encode.j2
  rw [e1, e2, e3, e4, w2, w1, w3, spec_l1Base_eq _ v0, spec_l1Base_eq _ v1, spec_l1Base_eq _ v2, spec_l1Base_eq _ v3]
  simp only [Option.bind_some]
  unfold impl_baseText.four impl_baseText.dk
  rw [p0, p1, p2, p3, d0, d3]
  clear e1 e2 e3 e4 w1 w2 w3 p0 p1 p2 p3 d0 d3 v0 v1 v2 v3 hV
  by_cases h2 : i + 2 < L.length
  · obtain rfl : n = 3 := by omega
    rw [if_neg (by omega), if_neg (by omega), if_pos (by simp; omega)]
    simp
  · by_cases h1 : i + 1 < L.length
    · obtain rfl : n = 2 := by omega
      rw [if_pos (by omega), if_pos (by simp), if_neg (by omega), if_pos (by simp; omega)]
      simp
    · obtain rfl : n = 1 := by omega
      rw [if_pos (by omega), if_pos (by simp), if_pos (by omega), if_pos (by simp), if_pos (by simp; omega)]
      simp
theorem spec_l1Encode.one (k : Nat) (L x3 : List Int) (i : Nat) (hb : L.length ≤ 1048576) (hB : ∀ x ∈ L, 0 ≤ x ∧ x ≤ 255) (hi : i < L.length) (hx : x3.length + 4 < 140737488355328) :
    ∃ four : List Int, impl_baseText.q (L.drop i) = four ++ impl_baseText.q (L.drop (i + 3)) ∧ four.length = 4 ∧ spec_l1Encode.l0 (k + 3) L x3 i = spec_l1Encode.l0 k L (x3 ++ four) ((i + 3 : Nat) : Int) := by
  have hall : L.all (fun x => decide (0 ≤ x ∧ x ≤ 255)) = true := by
    rw [List.all_eq_true]; intro x hx; exact decide_eq_true (hB x hx)
  have h1 : (i : Int) < (L.length : Int) := by omega
  have h2 : (0 : Int) ≤ (i : Int) := by omega
  have w2 : wrap64 ((i : Int) + 2) = ((i + 2 : Nat) : Int) := by rw [wrap64_in (by omega)]; omega
  have w1 : wrap64 ((i : Int) + 1) = ((i + 1 : Nat) : Int) := by rw [wrap64_in (by omega)]; omega
  have ha := hB L[i] (List.getElem_mem hi)
  have ra := rd_at L i hi
  have hd : L.drop i = L[i] :: L.drop (i + 1) := List.drop_eq_getElem_cons hi
  generalize L[i] = a at ha ra hd
  have wa : wrap64 a = a := wrap64_in (by omega)
  have wa2 : wrap64 (a * 65536) = a * 65536 := wrap64_in (by omega)
  by_cases h3 : i + 1 < L.length
  · have hb1 := hB L[i + 1] (List.getElem_mem h3)
    have rb := rd_at L (i + 1) h3
    have hd2 : L.drop (i + 1) = L[i + 1] :: L.drop (i + 2) := List.drop_eq_getElem_cons h3
    generalize L[i + 1] = b at hb1 rb hd2
    have wb : wrap64 b = b := wrap64_in (by omega)
    have wb2 : wrap64 (b * 256) = b * 256 := wrap64_in (by omega)
    have wab : wrap64 (a * 65536 + b * 256) = a * 65536 + b * 256 := wrap64_in (by omega)
    by_cases h4 : i + 2 < L.length
    · have hc1 := hB L[i + 2] (List.getElem_mem h4)
      have rc := rd_at L (i + 2) h4
      have hd3 : L.drop (i + 2) = L[i + 2] :: L.drop (i + 3) := List.drop_eq_getElem_cons h4
      generalize L[i + 2] = c at hc1 rc hd3
      have wc : wrap64 c = c := wrap64_in (by omega)
      have wabc : wrap64 (a * 65536 + b * 256 + c) = a * 65536 + b * 256 + c := wrap64_in (by omega)
      refine ⟨impl_baseText.four 3 (a * 65536 + b * 256 + c), ?_, rfl, ?_⟩
      · have := impl_baseText.q_step L [a, b, c] i a b c hall (by rw [hd, hd2, hd3]; rfl) (.inr (.inr rfl))
        simpa using this
      · conv => lhs; unfold spec_l1Encode.l0
        rw [if_pos h1, if_pos h2, w1, if_pos (by omega), if_pos (by omega), ra, rb, wa, wb, wa2, wb2, wab]
        unfold spec_l1Encode.j1
        rw [w2, if_pos (by omega), if_pos (by omega), rc, wc, wabc]
        exact spec_l1Encode.j2_eq k L x3 i 3 (a * 65536 + b * 256 + c) hb hi (by omega) (by omega) hx
    · refine ⟨impl_baseText.four 2 (a * 65536 + b * 256 + 0), ?_, rfl, ?_⟩
      · have hd3 : L.drop (i + 2) = [] := List.drop_eq_nil_of_le (by omega)
        have := impl_baseText.q_step L [a, b] i a b 0 hall (by rw [hd, hd2, hd3]; rfl) (.inr (.inl ⟨rfl, rfl⟩))
        simpa using this
      · conv => lhs; unfold spec_l1Encode.l0
        rw [if_pos h1, if_pos h2, w1, if_pos (by omega), if_pos (by omega), ra, rb, wa, wb, wa2, wb2, wab]
        unfold spec_l1Encode.j1
        rw [w2, if_neg (by omega), Int.add_zero]
        exact spec_l1Encode.j2_eq k L x3 i 2 (a * 65536 + b * 256) hb hi (by omega) (by omega) hx
  · refine ⟨impl_baseText.four 1 (a * 65536 + 0 * 256 + 0), ?_, rfl, ?_⟩
    · have hd3 : L.drop (i + 1) = [] := List.drop_eq_nil_of_le (by omega)
      have := impl_baseText.q_step L [a] i a 0 0 hall (by rw [hd, hd3]; rfl) (.inl ⟨rfl, rfl, rfl⟩)
      simpa using this
    · conv => lhs; unfold spec_l1Encode.l0
      rw [if_pos h1, if_pos h2, w1, if_neg (by omega), ra, wa, wa2]
      unfold spec_l1Encode.j1
      rw [w2, if_neg (by omega), show a * 65536 + 0 * 256 + 0 = a * 65536 by omega]
      exact spec_l1Encode.j2_eq k L x3 i 1 (a * 65536) hb hi (by omega) (by omega) hx
theorem spec_l1Encode.l0_eq (L : List Int) (hb : L.length ≤ 1048576) (hB : ∀ x ∈ L, 0 ≤ x ∧ x ≤ 255) : ∀ (n k i : Nat) (x3 : List Int), L.length ≤ i + n → L.length + 3 ≤ k + i → i ≤ L.length + 2 → x3.length ≤ 2 * i → spec_l1Encode.l0 k L x3 (i : Int) = some (strOfNums (x3 ++ impl_baseText.q (L.drop i))) := by
  intro n
  induction n using Nat.strongRecOn with
  | _ n ih =>
    intro k i x3 hn hk hi hx
    by_cases h : i < L.length
    · obtain ⟨k, rfl⟩ : ∃ m, k = m + 3 := ⟨k - 3, by omega⟩
      obtain ⟨four, h1, h2, h3⟩ := spec_l1Encode.one k L x3 i hb hB h (by omega)
      rw [h3, h1]
      rw [ih (n - 1) (by omega) k (i + 3) (x3 ++ four) (by omega) (by omega) (by omega) (by simp; omega), List.append_assoc]
    · obtain ⟨k, rfl⟩ : ∃ m, k = m + 1 := ⟨k - 1, by omega⟩
      have h1 : ¬ ((i : Int) < (L.length : Int)) := by omega
      unfold spec_l1Encode.l0
      rw [if_neg h1, List.drop_eq_nil_of_le (by omega)]
      simp [impl_baseText.q]
theorem spec_l1Encode_eq (L : List Int) (k : Nat) (hb : L.length ≤ 1048576) (hB : ∀ x ∈ L, 0 ≤ x ∧ x ≤ 255) (hk : L.length + 3 ≤ k) : spec_l1Encode.f k L = some (strOfNums (impl_baseText.q L)) := by
  unfold spec_l1Encode.f
  have := spec_l1Encode.l0_eq L hb hB L.length k 0 [] (by omega) (by omega) (by omega) (by simp)
  simpa using this
theorem impl_baseText_eq (L : List Int) (hb : L.length ≤ 1000000) (hB : ∀ x ∈ L, 0 ≤ x ∧ x ≤ 255) : impl_baseText.f L = some (strOfNums (impl_baseText.q L)) := by
  have hall : L.all (fun x => decide (0 ≤ x ∧ x ≤ 255)) = true := by
    rw [List.all_eq_true]; intro x hx; exact decide_eq_true (hB x hx)
  unfold impl_baseText.f
  rw [if_pos ⟨hb, hall⟩]
theorem byte_wf {l : List Int} (h : ∀ x ∈ l, (Lit.int .u8 x).wf = true) : ∀ x ∈ l, 0 ≤ x ∧ x ≤ 255 := by
  intro x hx
  have h1 := h x hx
  unfold Lit.wf at h1
  rw [Bool.and_eq_true, decide_eq_true_eq, decide_eq_true_eq, show IntKind.u8.min = 0 from by decide, show IntKind.u8.max = 255 from by decide] at h1
  exact h1
theorem FnExactEncodeBase : laws_FnExactEncodeBase.Pure := by
  intro l hb hb2 hw
  refine ⟨l.length + 3, ?_⟩
  unfold laws_FnExactEncodeBase.f
  by_cases hl : (l.length : Int) > 1048576
  · rw [if_pos hl]
  · rw [if_neg hl]
    have hB := byte_wf hw
    have e1 := laws_toByteS_eq l (l.length + 3) hb (by omega) (by omega)
    have e2 := laws_eqByteS_eq l (l.length + 3) hb (by omega)
    have e4 : spec_EncodeBase.f (l.length + 3) l = impl_EncodeBase.f l := by
      unfold spec_EncodeBase.f impl_EncodeBase.f
      by_cases h4 : (l.length : Int) > 400
      · rw [if_pos h4, if_pos h4]
      · rw [if_neg h4, if_neg h4, spec_l1Encode_eq l _ (by omega) hB (by omega), impl_baseText_eq l (by omega) hB]
    have e5 : ∃ a b, impl_EncodeBase.f l = some (a, b) := by
      unfold impl_EncodeBase.f
      by_cases h4 : (l.length : Int) > 400
      · rw [if_pos h4]; exact ⟨_, _, rfl⟩
      · rw [if_neg h4, impl_baseText_eq l (by omega) hB]; exact ⟨_, _, rfl⟩
    obtain ⟨a, b, e5⟩ := e5
    simp [e1, e2, e4, e5, laws_eqTextResult.f]

end Go.Proofs.Ytmcnldekpjjgcaa.Pure
