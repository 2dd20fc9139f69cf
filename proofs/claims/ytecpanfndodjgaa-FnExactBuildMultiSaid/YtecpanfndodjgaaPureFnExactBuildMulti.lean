/- The plain law: what the walk computes answers as the statement says. -/
import Derived.Test.YtecpanfndodjgaaPBuildMultix3
namespace Go.Proofs.Ytecpanfndodjgaa.Pure
open Go.RowKit Go.Proofs.Ytecpanfndodjgaa.PBuildMulti Go.Proofs.YtecpanfndodjgaaW.PrintWords Go.Proofs.YtecpanfndodjgaaW.PrintLast
set_option linter.unusedSimpArgs false
set_option linter.unusedVariables false
theorem rd_at (l : List Int) (i : Nat) (h : i < l.length) : rd l (i : Int) = l[i] := by
  simp [rd, List.getD_eq_getElem?_getD, h]
theorem wrap64_in {n : Int} (h : -9223372036854775808 ≤ n ∧ n ≤ 9223372036854775807) : wrap64 n = n := by
  unfold wrap64; omega
theorem maxLen_le : maxLen ≤ 9223372036854775807 := by unfold maxLen; decide
theorem laws_toByteS.l0_eq (x0 : List Int) (hb : x0.length ≤ maxLen) : ∀ (n k i : Nat), x0.length = i + n → n < k → laws_toByteS.l0 k x0 (x0.take i ++ List.replicate n 0) (i : Int) = some x0
  | 0, 0, _, _, h => absurd h (by omega)
  | 0, k + 1, i, hi, _ => by
    have h1 : ¬ ((i : Int) < (x0.length : Int)) := by omega
    simp only [laws_toByteS.l0, if_neg h1, List.replicate_zero, List.append_nil]
    rw [List.take_of_length_le (by omega)]
  | n + 1, 0, _, _, h => absurd h (by omega)
  | n + 1, k + 1, i, hi, h => by
    have hm := maxLen_le
    have h1 : (i : Int) < (x0.length : Int) := by omega
    have h2 : (0 : Int) ≤ (i : Int) := by omega
    have h3 : (i : Int) < ((x0.take i ++ List.replicate (n + 1) (0 : Int)).length : Int) := by simp; omega
    have h4 : wrap64 ((i : Int) + 1) = ((i + 1 : Nat) : Int) := by rw [wrap64_in (by omega)]; omega
    simp only [laws_toByteS.l0]
    rw [if_pos h1, if_pos h2, if_pos h3, h4]
    rw [← laws_toByteS.l0_eq x0 hb n k (i + 1) (by omega) (by omega)]
    congr 1
    rw [rd_at x0 i (by omega), Int.toNat_natCast, List.set_append_right _ _ (by simp; omega)]
    have h5 : i - (x0.take i).length = 0 := by simp; omega
    rw [h5, List.take_succ_eq_append_getElem (by omega), List.append_assoc, List.replicate_succ, List.set_cons_zero]
    rfl
theorem laws_toByteS_eq (l : List Int) (k : Nat) (hb : l.length ≤ maxLen) (hb2 : l.length ≤ 1048576) (hk : l.length < k) : laws_toByteS.f k l = some l := by
  unfold laws_toByteS.f
  have h1 : (0 : Int) ≤ (l.length : Int) := by omega
  rw [if_pos h1, Int.toNat_natCast, if_pos (by omega)]
  exact laws_toByteS.l0_eq l hb l.length k 0 (by omega) hk
theorem laws_eqByteS.l0_eq (x0 : List Int) (hb : x0.length ≤ maxLen) : ∀ (n k i : Nat), x0.length = i + n → n < k → laws_eqByteS.l0 k x0 x0 (i : Int) = some true
  | 0, 0, _, _, h => absurd h (by omega)
  | 0, k + 1, i, hi, _ => by
    have h1 : ¬ ((i : Int) < (x0.length : Int)) := by omega
    simp only [laws_eqByteS.l0, if_neg h1]
  | n + 1, 0, _, _, h => absurd h (by omega)
  | n + 1, k + 1, i, hi, h => by
    have hm := maxLen_le
    have h1 : (i : Int) < (x0.length : Int) := by omega
    have h2 : (0 : Int) ≤ (i : Int) := by omega
    have h4 : wrap64 ((i : Int) + 1) = ((i + 1 : Nat) : Int) := by rw [wrap64_in (by omega)]; omega
    unfold laws_eqByteS.l0
    rw [if_pos h1, if_pos h2, if_pos h1]
    rw [if_pos rfl, h4]
    exact laws_eqByteS.l0_eq x0 hb n k (i + 1) (by omega) (by omega)
theorem laws_eqByteS_eq (l : List Int) (k : Nat) (hb : l.length ≤ maxLen) (hk : l.length < k) : laws_eqByteS.f k l l = some true := by
  unfold laws_eqByteS.f
  rw [if_pos rfl]
  exact laws_eqByteS.l0_eq l hb l.length k 0 (by omega) hk
def mkByteS (x : Int) : Int := ((x)%256)
def marksByteS : Int → Nat → List Int
  | _, 0 => []
  | m, n + 1 => mkByteS m :: marksByteS (m + 1) n
theorem marksByteS_len : ∀ n m, (marksByteS m n).length = n
  | 0, _ => rfl
  | n + 1, m => by simp [marksByteS, marksByteS_len n]
theorem laws_markByteS.l0_eq : ∀ (n k i : Nat) (x0 : List Int) (x1 : Int), x0.length = i + n → n < k → 0 ≤ x1 → x1 + n ≤ 4611686018427387904 → x0.length ≤ 4611686018427387904 → laws_markByteS.l0 k x0 x1 (i : Int) = some (x1 + n, x0.take i ++ marksByteS x1 n)
  | 0, 0, _, _, _, _, h, _, _, _ => absurd h (by omega)
  | 0, k + 1, i, x0, x1, hi, _, _, _, _ => by
    have h1 : ¬ ((i : Int) < (x0.length : Int)) := by omega
    unfold laws_markByteS.l0
    rw [if_neg h1, List.take_of_length_le (by omega)]
    simp [marksByteS]
  | n + 1, 0, _, _, _, _, h, _, _, _ => absurd h (by omega)
  | n + 1, k + 1, i, x0, x1, hi, h, hx, hx1, hb => by
    have h1 : (i : Int) < (x0.length : Int) := by omega
    have h2 : (0 : Int) ≤ (i : Int) := by omega
    have h4 : wrap64 ((i : Int) + 1) = ((i + 1 : Nat) : Int) := by rw [wrap64_in (by omega)]; omega
    have h5 : wrap64 (x1 + 1) = x1 + 1 := wrap64_in (by omega)
    have hs : (x0.set i (mkByteS x1)).take (i + 1) = x0.take i ++ [mkByteS x1] := by
      rw [List.take_succ_eq_append_getElem (by simp; omega), List.getElem_set_self]
      congr 1
      rw [List.take_set, List.set_eq_of_length_le (by simp; omega)]
    unfold laws_markByteS.l0
    rw [if_pos h1, if_pos h2, Int.toNat_natCast, h4, h5]
    have := laws_markByteS.l0_eq n k (i + 1) (x0.set i (mkByteS x1)) (x1 + 1) (by simp; omega) (by omega) (by omega) (by omega) (by simp; omega)
    rw [hs] at this
    unfold mkByteS at this
    rw [this]
    simp [marksByteS, mkByteS]
    omega
theorem laws_markByteS_eq (l : List Int) (m : Int) (k : Nat) (hk : l.length < k) (hl : l.length ≤ 1048576) (hm : 0 ≤ m ∧ m ≤ 4294967296) : laws_markByteS.f k l m = some (m + l.length, marksByteS m l.length) := by
  unfold laws_markByteS.f
  have := laws_markByteS.l0_eq l.length k 0 l m (by omega) hk hm.1 (by omega) (by omega)
  simpa using this
theorem laws_heldByteS.l0_eq : ∀ (n k i : Nat) (x0 : List Int) (x1 : Int), x0.length = i + n → n < k → 0 ≤ x1 → x1 + n ≤ 4611686018427387904 → x0.length ≤ 4611686018427387904 → x0.drop i = marksByteS x1 n → laws_heldByteS.l0 k x0 x1 (i : Int) = some (x1 + n)
  | 0, 0, _, _, _, _, h, _, _, _, _ => absurd h (by omega)
  | 0, k + 1, i, x0, x1, hi, _, _, _, _, _ => by
    have h1 : ¬ ((i : Int) < (x0.length : Int)) := by omega
    unfold laws_heldByteS.l0
    rw [if_neg h1]
    simp
  | n + 1, 0, _, _, _, _, h, _, _, _, _ => absurd h (by omega)
  | n + 1, k + 1, i, x0, x1, hi, h, hx, hx1, hb, hd => by
    have h1 : (i : Int) < (x0.length : Int) := by omega
    have h2 : (0 : Int) ≤ (i : Int) := by omega
    have h4 : wrap64 ((i : Int) + 1) = ((i + 1 : Nat) : Int) := by rw [wrap64_in (by omega)]; omega
    have h5 : wrap64 (x1 + 1) = x1 + 1 := wrap64_in (by omega)
    have hlt : i < x0.length := by omega
    rw [List.drop_eq_getElem_cons hlt] at hd
    unfold marksByteS at hd
    have h6 : x0[i] = mkByteS x1 := (List.cons.inj hd).1
    have h7 : x0.drop (i + 1) = marksByteS (x1 + 1) n := (List.cons.inj hd).2
    unfold laws_heldByteS.l0
    rw [if_pos h1, if_pos h2, rd_at x0 i hlt, h6, if_pos (by unfold mkByteS; rfl), h4, h5, laws_heldByteS.l0_eq n k (i + 1) x0 (x1 + 1) (by omega) (by omega) (by omega) (by omega) hb h7]
    congr 1
    omega
theorem laws_heldByteS_eq (n : Nat) (m : Int) (k : Nat) (hk : n < k) (hl : n ≤ 1048576) (hm : 0 ≤ m ∧ m ≤ 4294967296) : laws_heldByteS.f k (marksByteS m n) m = some (m + n) := by
  have hml := marksByteS_len n m
  unfold laws_heldByteS.f
  exact laws_heldByteS.l0_eq n k 0 (marksByteS m n) m (by omega) hk hm.1 (by omega) (by omega) (by simp)
theorem rdL_at (l : List (List Int)) (i : Nat) (h : i < l.length) : rd_L1 l (i : Int) = l[i] := by
  simp [rd_L1, List.getD_eq_getElem?_getD, h]
def sumL (l : List (List Int)) : Nat := (l.map List.length).sum
theorem sumL_drop (l : List (List Int)) (i : Nat) (h : i < l.length) : sumL (l.drop i) = l[i].length + sumL (l.drop (i + 1)) := by
  unfold sumL
  rw [List.drop_eq_getElem_cons h, List.map_cons, List.sum_cons]
theorem mem_sumL : ∀ (l : List (List Int)) (x : List Int), x ∈ l → x.length ≤ sumL l
  | [], _, h => by cases h
  | y :: r, x, h => by
    have e : sumL (y :: r) = y.length + sumL r := by simp [sumL]
    rcases List.mem_cons.1 h with rfl | h
    · omega
    · have := mem_sumL r x h
      omega
theorem laws_szByteSS.l0_eq (l : List (List Int)) (hl : l.length ≤ maxLen) (hs : ∀ x ∈ l, x.length ≤ maxLen) : ∀ (n k i : Nat) (z : Int), l.length = i + n → n < k → 0 ≤ z → z ≤ 1048576 → ∃ r, laws_szByteSS.l0 k l z (i : Int) = some r ∧ (r < 0 ∨ (sumL (l.drop i) : Int) ≤ z)
  | _, 0, _, _, _, h, _, _ => absurd h (by omega)
  | 0, k + 1, i, z, hi, _, h0, _ => by
    have h1 : ¬ ((i : Int) < (l.length : Int)) := by omega
    refine ⟨z, by rw [laws_szByteSS.l0, if_neg h1], .inr ?_⟩
    rw [List.drop_eq_nil_of_le (by omega)]
    exact h0
  | n + 1, k + 1, i, z, hi, h, h0, h9 => by
    have hm := maxLen_le
    have hlt : i < l.length := by omega
    have h1 : (i : Int) < (l.length : Int) := by omega
    have h2 : (0 : Int) ≤ (i : Int) := by omega
    have h4 : wrap64 ((i : Int) + 1) = ((i + 1 : Nat) : Int) := by rw [wrap64_in (by omega)]; omega
    have hx := hs l[i] (List.getElem_mem hlt)
    have hw : wrap64 (z - (l[i].length : Int)) = z - (l[i].length : Int) := wrap64_in (by omega)
    rw [laws_szByteSS.l0, if_pos h1, if_pos h2, rdL_at l i hlt, laws_szByteS.f, hw, sumL_drop l i hlt, h4]
    by_cases c : z - (l[i].length : Int) < 0
    · rw [if_pos c, Option.bind_some, if_pos (by decide)]
      exact ⟨-1, rfl, .inl (by decide)⟩
    · rw [if_neg c, Option.bind_some, if_neg c]
      obtain ⟨r, e, q⟩ := laws_szByteSS.l0_eq l hl hs n k (i + 1) (z - (l[i].length : Int)) (by omega) (by omega) (by omega) (by omega)
      exact ⟨r, e, q.imp_right (fun q => by omega)⟩
theorem laws_szByteSS_eq (l : List (List Int)) (hl : l.length ≤ maxLen) (hs : ∀ x ∈ l, x.length ≤ maxLen) (k : Nat) (hk : 1048576 < k) : ∃ r, laws_szByteSS.f k l 1048576 = some r ∧ (r < 0 ∨ l.length + sumL l ≤ 1048576) := by
  have hm := maxLen_le
  have hw : wrap64 (1048576 - (l.length : Int)) = 1048576 - (l.length : Int) := wrap64_in (by omega)
  unfold laws_szByteSS.f
  rw [hw]
  by_cases c : 1048576 - (l.length : Int) < 0
  · rw [if_pos c]; exact ⟨-1, rfl, .inl (by decide)⟩
  · rw [if_neg c]
    obtain ⟨r, e, q⟩ := laws_szByteSS.l0_eq l hl hs l.length k 0 (1048576 - (l.length : Int)) (by omega) (by omega) (by omega) (by omega)
    rw [List.drop_zero] at q
    exact ⟨r, e, q.imp_right (fun q => by omega)⟩
theorem laws_toByteSS.l0_eq (x0 : List (List Int)) (B : Nat) (hB : B ≤ 1048576) (hl : x0.length ≤ 1048576) (hs : ∀ x ∈ x0, x.length ≤ B) : ∀ (n k i : Nat), x0.length = i + n → n + B < k → laws_toByteSS.l0 k x0 (x0.take i ++ List.replicate n []) (i : Int) = some x0
  | _, 0, _, _, h => absurd h (by omega)
  | 0, k + 1, i, hi, _ => by
    have h1 : ¬ ((i : Int) < (x0.length : Int)) := by omega
    simp only [laws_toByteSS.l0, if_neg h1, List.replicate_zero, List.append_nil]
    rw [List.take_of_length_le (by omega)]
  | n + 1, k + 1, i, hi, h => by
    have hlt : i < x0.length := by omega
    have h1 : (i : Int) < (x0.length : Int) := by omega
    have h2 : (0 : Int) ≤ (i : Int) := by omega
    have h3 : (i : Int) < ((x0.take i ++ List.replicate (n + 1) ([] : List Int)).length : Int) := by simp; omega
    have h4 : wrap64 ((i : Int) + 1) = ((i + 1 : Nat) : Int) := by rw [wrap64_in (by omega)]; omega
    have hx := hs x0[i] (List.getElem_mem hlt)
    rw [laws_toByteSS.l0, if_pos h1, if_pos h2, rdL_at x0 i hlt, laws_toByteS_eq x0[i] k (by unfold maxLen; omega) (by omega) (by omega), Option.bind_some, if_pos h3, h4]
    rw [← laws_toByteSS.l0_eq x0 B hB hl hs n k (i + 1) (by omega) (by omega)]
    congr 1
    rw [Int.toNat_natCast, List.set_append_right _ _ (by simp; omega)]
    have h5 : i - (x0.take i).length = 0 := by simp; omega
    rw [h5, List.take_succ_eq_append_getElem (by omega), List.append_assoc, List.replicate_succ, List.set_cons_zero]
    rfl
theorem laws_toByteSS_eq (l : List (List Int)) (k : Nat) (hl : l.length + sumL l ≤ 1048576) (hk : 2097152 < k) : laws_toByteSS.f k l = some l := by
  unfold laws_toByteSS.f
  have h1 : (0 : Int) ≤ (l.length : Int) := by omega
  rw [if_pos h1, Int.toNat_natCast, if_pos (by omega)]
  exact laws_toByteSS.l0_eq l (sumL l) (by omega) (by omega) (mem_sumL l) l.length k 0 (by omega) (by omega)
theorem laws_eqByteSS.l0_eq (x0 : List (List Int)) (B : Nat) (hB : B ≤ 1048576) (hl : x0.length ≤ 1048576) (hs : ∀ x ∈ x0, x.length ≤ B) : ∀ (n k i : Nat), x0.length = i + n → n + B < k → laws_eqByteSS.l0 k x0 x0 (i : Int) = some true
  | _, 0, _, _, h => absurd h (by omega)
  | 0, k + 1, i, hi, _ => by
    have h1 : ¬ ((i : Int) < (x0.length : Int)) := by omega
    simp only [laws_eqByteSS.l0, if_neg h1]
  | n + 1, k + 1, i, hi, h => by
    have hlt : i < x0.length := by omega
    have h1 : (i : Int) < (x0.length : Int) := by omega
    have h2 : (0 : Int) ≤ (i : Int) := by omega
    have h4 : wrap64 ((i : Int) + 1) = ((i + 1 : Nat) : Int) := by rw [wrap64_in (by omega)]; omega
    have hx := hs x0[i] (List.getElem_mem hlt)
    rw [laws_eqByteSS.l0, if_pos h1, if_pos h2, if_pos h1, rdL_at x0 i hlt, laws_eqByteS_eq x0[i] k (by unfold maxLen; omega) (by omega), Option.bind_some, if_pos rfl, h4]
    exact laws_eqByteSS.l0_eq x0 B hB hl hs n k (i + 1) (by omega) (by omega)
theorem laws_eqByteSS_eq (l : List (List Int)) (k : Nat) (hl : l.length + sumL l ≤ 1048576) (hk : 2097152 < k) : laws_eqByteSS.f k l l = some true := by
  unfold laws_eqByteSS.f
  rw [if_pos rfl]
  exact laws_eqByteSS.l0_eq l (sumL l) (by omega) (by omega) (mem_sumL l) l.length k 0 (by omega) (by omega)
theorem laws_markByteSS.l0_eq (kk : Nat) (hkk : 1048576 < kk) : ∀ (n k i : Nat) (x0 : List (List Int)) (m : Int), x0.length = i + n → n < k → x0.length ≤ 1048576 → sumL (x0.drop i) ≤ 1048576 → 0 ≤ m → m + sumL (x0.drop i) ≤ 4294967296 → ∃ l', laws_markByteSS.l0 kk k x0 m (i : Int) = some (m + (sumL (x0.drop i) : Int), l')
  | _, 0, _, _, _, _, h, _, _, _, _ => absurd h (by omega)
  | 0, k + 1, i, x0, m, hi, _, _, _, _, _ => by
    have h1 : ¬ ((i : Int) < (x0.length : Int)) := by omega
    refine ⟨x0, ?_⟩
    rw [laws_markByteSS.l0, if_neg h1, List.drop_eq_nil_of_le (by omega)]
    simp [sumL]
  | n + 1, k + 1, i, x0, m, hi, h, hl, hb, h0, h9 => by
    have hlt : i < x0.length := by omega
    have h1 : (i : Int) < (x0.length : Int) := by omega
    have h2 : (0 : Int) ≤ (i : Int) := by omega
    have h4 : wrap64 ((i : Int) + 1) = ((i + 1 : Nat) : Int) := by rw [wrap64_in (by omega)]; omega
    have hd := sumL_drop x0 i hlt
    rw [hd] at hb h9
    have hg : x0.getD (i : Int).toNat [] = x0[i] := by simp [List.getD_eq_getElem?_getD, hlt]
    rw [laws_markByteSS.l0, if_pos h1, if_pos h2, hg, laws_markByteS_eq x0[i] m kk (by omega) (by omega) ⟨h0, by omega⟩, Option.bind_some, h4, Int.toNat_natCast]
    have hdr : (x0.set i (marksByteS m x0[i].length)).drop (i + 1) = x0.drop (i + 1) := by rw [List.drop_set_of_lt (by omega)]
    obtain ⟨l', e⟩ := laws_markByteSS.l0_eq kk hkk n k (i + 1) (x0.set i (marksByteS m x0[i].length)) (m + x0[i].length) (by simp; omega) (by omega) (by simp; omega) (by rw [hdr]; omega) (by omega) (by rw [hdr]; omega)
    rw [hdr] at e
    refine ⟨l', ?_⟩
    rw [e, hd]
    congr 2
    omega
theorem laws_markByteSS_eq (l : List (List Int)) (k : Nat) (hl : l.length + sumL l ≤ 1048576) (hk : 2097152 < k) : ∃ l', laws_markByteSS.f k l 1 = some (1 + (sumL l : Int), l') := by
  unfold laws_markByteSS.f
  have := laws_markByteSS.l0_eq k (by omega) l.length k 0 l 1 (by omega) (by omega) (by omega) (by rw [List.drop_zero]; omega) (by omega) (by rw [List.drop_zero]; omega)
  rw [List.drop_zero] at this
  exact this
theorem byte_wf {l : List Int} (h : ∀ x ∈ l, (Lit.int .u8 x).wf = true) : ∀ x ∈ l, 0 ≤ x ∧ x ≤ 255 := by
  intro x hx
  have h1 := h x hx
  unfold Lit.wf at h1
  rw [Bool.and_eq_true, decide_eq_true_eq, decide_eq_true_eq, show IntKind.u8.min = 0 from by decide, show IntKind.u8.max = 255 from by decide] at h1
  exact h1
theorem byte_inj : ∀ (t u : List Int), (∀ x ∈ t, 0 ≤ x ∧ x ≤ 255) → (∀ x ∈ u, 0 ≤ x ∧ x ≤ 255) → (t.map (fun n => UInt8.ofNat n.toNat) = u.map (fun n => UInt8.ofNat n.toNat) ↔ t = u)
  | [], [], _, _ => by simp
  | [], _ :: _, _, _ => by simp
  | _ :: _, [], _, _ => by simp
  | x :: xs, y :: ys, ht, hu => by
    have h1 := ht x (by simp)
    have h2 := hu y (by simp)
    have ih := byte_inj xs ys (fun z hz => ht z (by simp [hz])) (fun z hz => hu z (by simp [hz]))
    rw [List.map_cons, List.map_cons, List.cons.injEq, List.cons.injEq, ih]
    have e : UInt8.ofNat x.toNat = UInt8.ofNat y.toNat ↔ x = y := by
      constructor
      · intro h
        have := congrArg UInt8.toNat h
        rw [UInt8.toNat_ofNat', UInt8.toNat_ofNat'] at this
        omega
      · rintro rfl; rfl
    rw [e]
theorem bytes_Equal_eq (t u : List Int) (ht : ∀ x ∈ t, 0 ≤ x ∧ x ≤ 255) (hu : ∀ x ∈ u, 0 ≤ x ∧ x ≤ 255) : bytes_Equal.f t u = some (decide (t = u)) := by
  unfold bytes_Equal.f
  rw [Go.ByteArray.toList_eq, Go.ByteArray.toList_eq]
  congr 1
  rw [Bool.eq_iff_iff, beq_iff_eq, decide_eq_true_eq]
  exact byte_inj t u ht hu
theorem u8_eq (x c : Int) (hx : 0 ≤ x ∧ x ≤ 255) (hc : 0 ≤ c ∧ c ≤ 255) : (UInt8.ofNat x.toNat == c.toNat.toUInt8) = decide (x = c) := by
  rw [Bool.eq_iff_iff, beq_iff_eq, decide_eq_true_eq]
  constructor
  · intro h
    have h2 := congrArg UInt8.toNat h
    rw [UInt8.toNat_ofNat_of_lt' (by show x.toNat < 256; omega)] at h2
    rw [show c.toNat.toUInt8.toNat = c.toNat from UInt8.toNat_ofNat_of_lt' (by show c.toNat < 256; omega)] at h2
    omega
  · intro h
    subst h
    rfl
theorem bt_range (s : ByteArray) (i : Int) : 0 ≤ bt s i ∧ bt s i ≤ 255 := by
  unfold bt
  split
  · rename_i h
    have := UInt8.toNat_lt (s[i.toNat]'h)
    omega
  · omega
theorem in_eq (a b c : Int) : spec_l1In.f a b c = some (decide (b ≤ a ∧ a ≤ c)) := by
  unfold spec_l1In.f; by_cases h : a ≥ b <;> simp [h] <;> omega
def dd : List Int → Bool
  | [] => false
  | x :: r => (decide (x = 10) && (decide (r.head? = some 45) && decide (r.tail.head? = some 45))) || dd r
def dP : Int → List Int → Bool
  | _, [] => false
  | p, x :: r => (decide (p = 10) && (decide (x = 45) && decide (r.head? = some 45))) || dP x r
theorem dP_dd : ∀ (l : List Int) (p : Int), dP p l = dd (p :: l)
  | [], p => by simp [dP, dd]
  | x :: r, p => by
    rw [dP, dP_dd r x]
    conv => rhs; rw [dd]
    have e : decide ((x :: r).head? = some 45) = decide (x = 45) := by rw [Bool.eq_iff_iff]; simp
    rw [e]
    rfl
def pre2 (l : List Int) : Bool := decide (l.head? = some 45) && decide (l.tail.head? = some 45)
theorem dP_split (l : List Int) : dP 10 l = (pre2 l || dd l) := by
  rw [dP_dd, dd]; simp [pre2]
theorem u8n (x : Int) (c : Int) (hx : 0 ≤ x ∧ x ≤ 255) (hc : 0 ≤ c ∧ c ≤ 255) : (c.toNat.toUInt8 == UInt8.ofNat x.toNat) = decide (x = c) := by
  rw [← u8_eq x c hx hc, Bool.eq_iff_iff, beq_iff_eq, beq_iff_eq]
  exact ⟨fun e => e.symm, fun e => e.symm⟩
theorem pref1 (r : List Int) (c : Int) (q : List UInt8) (hc : 0 ≤ c ∧ c ≤ 255) (h : ∀ x ∈ r, 0 ≤ x ∧ x ≤ 255) : (c.toNat.toUInt8 :: q).isPrefixOf (Lib.bytesOf r) = (decide (r.head? = some c) && q.isPrefixOf (Lib.bytesOf r.tail)) := by
  cases r with
  | nil => simp [Lib.bytesOf, List.isPrefixOf]
  | cons y t =>
    show (c.toNat.toUInt8 == UInt8.ofNat y.toNat && q.isPrefixOf (Lib.bytesOf t)) = _
    rw [u8n y c (h y (by simp)) hc]
    simp
theorem contains_dd : ∀ (L : List Int), (∀ x ∈ L, 0 ≤ x ∧ x ≤ 255) → Lib.contains (Lib.bytesOf L) (Lib.bytesOf [10, 45, 45]) = dd L
  | [], _ => rfl
  | x :: r, h => by
    have hr : ∀ y ∈ r, 0 ≤ y ∧ y ≤ 255 := fun y hy => h y (List.mem_cons_of_mem _ hy)
    have ih := contains_dd r hr
    have hb : Lib.bytesOf (x :: r) = UInt8.ofNat x.toNat :: Lib.bytesOf r := rfl
    have hp : (Lib.bytesOf [10, 45, 45]).isPrefixOf (UInt8.ofNat x.toNat :: Lib.bytesOf r) = (decide (x = 10) && (decide (r.head? = some 45) && decide (r.tail.head? = some 45))) := by
      show ((10 : Int).toNat.toUInt8 == UInt8.ofNat x.toNat && ((45 : Int).toNat.toUInt8 :: [(45 : Int).toNat.toUInt8]).isPrefixOf (Lib.bytesOf r)) = _
      rw [u8n x 10 (h x (by simp)) (by omega), pref1 r 45 _ (by omega) hr, pref1 r.tail 45 [] (by omega) (fun y hy => hr y (List.mem_of_mem_tail hy))]
      simp [List.isPrefixOf]
    unfold Lib.contains at ih ⊢
    have hge := Lib.index_ge (Lib.bytesOf r) (Lib.bytesOf [10, 45, 45])
    rw [hb, Lib.index, hp, dd, ← ih]
    cases (decide (x = 10) && (decide (r.head? = some 45) && decide (r.tail.head? = some 45))) with
    | true => rfl
    | false =>
      rw [if_neg (by simp), Bool.false_or]
      by_cases c : Lib.index (Lib.bytesOf r) (Lib.bytesOf [10, 45, 45]) = -1
      · rw [c]; rfl
      · rw [if_neg (by simpa using c)]
        congr 1
        apply propext
        omega
theorem bytes_HasPrefix_eq (l : List Int) (h : ∀ x ∈ l, 0 ≤ x ∧ x ≤ 255) : bytes_HasPrefix.f l [45, 45] = some (pre2 l) := by
  unfold bytes_HasPrefix.f
  match l, h with
  | [], _ => rfl
  | [x], _ => simp [pre2]
  | x :: y :: r, h =>
    have h1 : ((x :: y :: r).length : Int) ≥ (([45, 45] : List Int).length : Int) := by simp; omega
    rw [if_pos h1, if_pos (by simp), if_pos (by simp; omega)]
    show (bytes_Equal.f [x, y] [45, 45]).bind _ = _
    rw [bytes_Equal_eq [x, y] [45, 45] (fun z hz => h z (by simp at hz ⊢; omega)) (by simp), Option.bind_some]
    simp [pre2]
theorem bytes_Contains_eq (l : List Int) (hl : l.length ≤ 1048576) (h : ∀ x ∈ l, 0 ≤ x ∧ x ≤ 255) : bytes_Contains.f l [10, 45, 45] = some (dd l) := by
  unfold bytes_Contains.f
  rw [if_pos, contains_dd l h]
  refine ⟨by simp, by simp, by omega, ?_, by decide⟩
  rw [List.all_eq_true]
  intro x hx
  have := h x hx
  simp
  omega
def prevc (x : List Int) (i : Nat) : Int := if i = 0 then 10 else x.getD (i - 1) 0
theorem spec_l5Dashes.l0_eq (x : List Int) (hl : x.length ≤ 1048576) : ∀ (n k i : Nat), x.length = i + n → n < k → spec_l5Dashes.l0 k x (i : Int) = some (dP (prevc x i) (x.drop i))
  | _, 0, _, _, h => absurd h (by omega)
  | 0, k + 1, i, hi, _ => by
    have w1 : wrap64 ((i : Int) + 1) = ((i + 1 : Nat) : Int) := by rw [wrap64_in (by omega)]; omega
    rw [spec_l5Dashes.l0, w1, if_neg (by omega), List.drop_eq_nil_of_le (by omega), dP]
  | 1, k + 1, i, hi, _ => by
    have w1 : wrap64 ((i : Int) + 1) = ((i + 1 : Nat) : Int) := by rw [wrap64_in (by omega)]; omega
    have hlt : i < x.length := by omega
    rw [spec_l5Dashes.l0, w1, if_neg (by omega), List.drop_eq_getElem_cons hlt, List.drop_eq_nil_of_le (by omega)]
    simp [dP]
  | n + 2, k + 1, i, hi, h => by
    have w1 : wrap64 ((i : Int) + 1) = ((i + 1 : Nat) : Int) := by rw [wrap64_in (by omega)]; omega
    have hlt : i < x.length := by omega
    have hlt2 : i + 1 < x.length := by omega
    have ih := spec_l5Dashes.l0_eq x hl (n + 1) k (i + 1) (by omega) (by omega)
    have hpc : prevc x (i + 1) = x[i] := by simp [prevc, List.getD_eq_getElem?_getD, hlt]
    have hd : dP (prevc x i) (x.drop i) = ((decide (prevc x i = 10) && (decide (x[i] = 45) && decide (x[i + 1] = 45))) || dP (prevc x (i + 1)) (x.drop (i + 1))) := by
      have e : decide ((x.drop (i + 1)).head? = some 45) = decide (x[i + 1] = 45) := by rw [Bool.eq_iff_iff]; simp [List.head?_drop, hlt2]
      rw [hpc, List.drop_eq_getElem_cons hlt]
      show ((decide (prevc x i = 10) && (decide (x[i] = 45) && decide ((x.drop (i + 1)).head? = some 45))) || dP x[i] (x.drop (i + 1))) = _
      rw [e]
    rw [spec_l5Dashes.l0, w1, if_pos (by omega), if_pos (by omega), if_pos (by omega), rd_at x i hlt, rd_at x (i + 1) hlt2, ih, hd]
    by_cases c : x[i] = 45
    · rw [if_pos c, if_pos (by omega)]
      by_cases d : x[i + 1] = 45
      · rw [if_pos d]
        by_cases e : (i : Int) = 0
        · rw [if_pos e]
          have : i = 0 := by omega
          simp [prevc, this, c, d] at *
          simp [c, d]
        · have w2 : wrap64 ((i : Int) - 1) = ((i - 1 : Nat) : Int) := by rw [wrap64_in (by omega)]; omega
          have hp2 : prevc x i = x[i - 1] := by
            have : i ≠ 0 := by omega
            simp [prevc, this, List.getD_eq_getElem?_getD, show i - 1 < x.length by omega]
          rw [if_neg e, w2, if_pos (by omega), if_pos (by omega), rd_at x (i - 1) (by omega), hp2]
          by_cases g : x[i - 1] = 10
          · rw [if_pos g]; simp [g, c, d]
          · rw [if_neg g]; simp [g]
      · rw [if_neg d]; simp [d]
    · rw [if_neg c]; simp [c]
theorem spec_l5Dashes_eq (x : List Int) (hl : x.length ≤ 1048576) (k : Nat) (hk : 1048576 < k) : spec_l5Dashes.f k x = some (dP 10 x) := by
  unfold spec_l5Dashes.f
  have := spec_l5Dashes.l0_eq x hl x.length k 0 (by omega) (by omega)
  simpa [prevc] using this
theorem mark_l0 (a : ByteArray) (hl : a.size ≤ 1048576) : ∀ (n k i : Nat), a.size = i + n → n < k → ∃ b, spec_l5Mark.l0 k a (i : Int) = some b ∧ impl_isSmallWord.l0 k a 20 (a.size : Int) (i : Int) = some b
  | _, 0, _, _, h => absurd h (by omega)
  | 0, k + 1, i, hi, _ => by
    rw [spec_l5Mark.l0, impl_isSmallWord.l0, if_neg (by omega), if_neg (by omega), in_eq, Option.bind_some]
    refine ⟨_, rfl, ?_⟩
    by_cases c : (a.size : Int) ≥ 1
    · rw [if_pos c]; simp; omega
    · rw [if_neg c]; simp; omega
  | n + 1, k + 1, i, hi, h => by
    have w1 : wrap64 ((i : Int) + 1) = ((i + 1 : Nat) : Int) := by rw [wrap64_in (by omega)]; omega
    have h1 : (i : Int) < (a.size : Int) := by omega
    have h2 : (0 : Int) ≤ (i : Int) := by omega
    simp only [spec_l5Mark.l0, impl_isSmallWord.l0, if_pos h1, if_pos h2, w1]
    by_cases c : bt a (i : Int) < 97
    · rw [if_pos c, if_pos c]; exact ⟨false, rfl, rfl⟩
    · rw [if_neg c, if_neg c]
      by_cases d : bt a (i : Int) > 122
      · rw [if_pos d, if_pos d]; exact ⟨false, rfl, rfl⟩
      · rw [if_neg d, if_neg d]; exact mark_l0 a hl n k (i + 1) (by omega) (by omega)
theorem mark_eq (a : ByteArray) (hl : a.size ≤ 1048576) (k : Nat) (hk : 1048576 < k) : ∃ b, spec_l5Mark.f k a = some b ∧ impl_isSmallWord.f k a 20 = some b := by
  unfold spec_l5Mark.f impl_isSmallWord.f
  exact mark_l0 a hl a.size k 0 (by omega) (by omega)
def midB (a : ByteArray) : List Int := bytesOf (((⟨#[45, 45]⟩ : ByteArray) ++ a) ++ (⟨#[10]⟩ : ByteArray))
def finB (a : ByteArray) : List Int := bytesOf (((⟨#[45, 45]⟩ : ByteArray) ++ a) ++ (⟨#[45, 45, 10]⟩ : ByteArray))
def buildo (a : ByteArray) : List (List Int) → List Int → List Int
  | [], acc => acc ++ finB a
  | x :: r, acc => buildo a r (((acc ++ midB a) ++ x) ++ [10])
theorem bytesOf_len (a : ByteArray) : (bytesOf a).length = a.size := by simp [bytesOf]
theorem sz_mid (a : ByteArray) : (((⟨#[45, 45]⟩ : ByteArray) ++ a) ++ (⟨#[10]⟩ : ByteArray)).size = a.size + 3 := by
  rw [ByteArray.size_append, ByteArray.size_append, show (⟨#[45, 45]⟩ : ByteArray).size = 2 from rfl, show (⟨#[10]⟩ : ByteArray).size = 1 from rfl]; omega
theorem sz_fin (a : ByteArray) : (((⟨#[45, 45]⟩ : ByteArray) ++ a) ++ (⟨#[45, 45, 10]⟩ : ByteArray)).size = a.size + 5 := by
  rw [ByteArray.size_append, ByteArray.size_append, show (⟨#[45, 45]⟩ : ByteArray).size = 2 from rfl, show (⟨#[45, 45, 10]⟩ : ByteArray).size = 3 from rfl]; omega
theorem sz_two (a : ByteArray) : ((⟨#[45, 45]⟩ : ByteArray) ++ a).size = a.size + 2 := by
  rw [ByteArray.size_append, show (⟨#[45, 45]⟩ : ByteArray).size = 2 from rfl]; omega
theorem len_mid (a : ByteArray) : (midB a).length = a.size + 3 := by rw [midB, bytesOf_len, sz_mid]
theorem len_fin (a : ByteArray) : (finB a).length = a.size + 5 := by rw [finB, bytesOf_len, sz_fin]
theorem spec_l5Build.l0_eq (a : ByteArray) (ha : a.size ≤ 1048576) (l : List (List Int)) (hl : l.length ≤ 1048576) : ∀ (n k i : Nat) (acc : List Int), l.length = i + n → n < k → acc.length + sumL (l.drop i) + (n + 1) * 2000000 ≤ 17592186044416 → spec_l5Build.l0 k a l acc (i : Int) = some (buildo a (l.drop i) acc)
  | _, 0, _, _, _, h, _ => absurd h (by omega)
  | 0, k + 1, i, acc, hi, _, hb => by
    rw [spec_l5Build.l0, if_neg (by omega), if_pos (by omega), sz_two, if_pos (by omega), sz_fin, if_pos (by omega), Option.bind_some, List.drop_eq_nil_of_le (by omega), buildo]
    show (if acc.length + (finB a).length < 140737488355328 then some (acc ++ finB a) else none) = _
    rw [len_fin, if_pos (by omega)]
  | n + 1, k + 1, i, acc, hi, h, hb => by
    have hlt : i < l.length := by omega
    have w1 : wrap64 ((i : Int) + 1) = ((i + 1 : Nat) : Int) := by rw [wrap64_in (by omega)]; omega
    have hd := sumL_drop l i hlt
    have e1 : ((acc ++ midB a) ++ l[i] ++ [10]).length = acc.length + (a.size + 3) + l[i].length + 1 := by simp [len_mid]; omega
    have e2 : (acc ++ midB a).length = acc.length + (a.size + 3) := by simp [len_mid]
    have e3 : ((acc ++ midB a) ++ l[i]).length = acc.length + (a.size + 3) + l[i].length := by simp [len_mid]; omega
    have ih := spec_l5Build.l0_eq a ha l hl n k (i + 1) (((acc ++ midB a) ++ l[i]) ++ [10]) (by omega) (by omega) (by rw [e1]; omega)
    rw [spec_l5Build.l0, if_pos (by omega), if_pos (by omega), sz_two, if_pos (by omega), sz_mid, if_pos (by omega), Option.bind_some, rdL_at l i hlt, w1]
    show (if acc.length + (midB a).length < 140737488355328 then (some (acc ++ midB a)).bind fun y113 => (if (0 : Int) ≤ (i : Int) then (if y113.length + l[i].length < 140737488355328 then ((some (y113 ++ l[i] : List Int)).bind fun y117 => ((some (([10] : List Int) : List Int)).bind fun y120 => (if y117.length + y120.length < 140737488355328 then (spec_l5Build.l0 k a l (y117 ++ y120) ((i + 1 : Nat) : Int)) else (none)))) else (none)) else (none)) else none) = _
    rw [len_mid, if_pos (by omega), Option.bind_some, if_pos (by omega), e2, if_pos (by omega), Option.bind_some, Option.bind_some, e3, if_pos (by simp; omega), ih, List.drop_eq_getElem_cons hlt, buildo]
def headB (a : ByteArray) : List Int := bytesOf (((⟨#[67, 111, 110, 116, 101, 110, 116, 45, 84, 121, 112, 101, 58, 32, 109, 117, 108, 116, 105, 112, 97, 114, 116, 47, 109, 105, 120, 101, 100, 59, 32, 98, 111, 117, 110, 100, 97, 114, 121, 61]⟩ : ByteArray) ++ a) ++ (⟨#[10, 10]⟩ : ByteArray))
theorem sz_head0 (a : ByteArray) : ((⟨#[67, 111, 110, 116, 101, 110, 116, 45, 84, 121, 112, 101, 58, 32, 109, 117, 108, 116, 105, 112, 97, 114, 116, 47, 109, 105, 120, 101, 100, 59, 32, 98, 111, 117, 110, 100, 97, 114, 121, 61]⟩ : ByteArray) ++ a).size = a.size + 40 := by
  rw [ByteArray.size_append, show (⟨#[67, 111, 110, 116, 101, 110, 116, 45, 84, 121, 112, 101, 58, 32, 109, 117, 108, 116, 105, 112, 97, 114, 116, 47, 109, 105, 120, 101, 100, 59, 32, 98, 111, 117, 110, 100, 97, 114, 121, 61]⟩ : ByteArray).size = 40 from rfl]; omega
theorem sz_head (a : ByteArray) : (((⟨#[67, 111, 110, 116, 101, 110, 116, 45, 84, 121, 112, 101, 58, 32, 109, 117, 108, 116, 105, 112, 97, 114, 116, 47, 109, 105, 120, 101, 100, 59, 32, 98, 111, 117, 110, 100, 97, 114, 121, 61]⟩ : ByteArray) ++ a) ++ (⟨#[10, 10]⟩ : ByteArray)).size = a.size + 42 := by
  rw [ByteArray.size_append, sz_head0, show (⟨#[10, 10]⟩ : ByteArray).size = 2 from rfl]
theorem len_head (a : ByteArray) : (headB a).length = a.size + 42 := by rw [headB, bytesOf_len, sz_head]
theorem spec_l5Build_eq (a : ByteArray) (ha : a.size ≤ 1048576) (l : List (List Int)) (hl : l.length + sumL l ≤ 1048576) (k : Nat) (hk : 1048576 < k) : spec_l5Build.f k a l = some (buildo a l (headB a)) := by
  unfold spec_l5Build.f
  rw [sz_head0, sz_head, if_pos (by omega), if_pos (by omega), if_pos (by omega)]
  have := spec_l5Build.l0_eq a ha l (by omega) l.length k 0 (headB a) (by omega) (by omega) (by rw [List.drop_zero, len_head]; omega)
  rw [List.drop_zero] at this
  exact this
def cutO (o : List Int) : Int × List Int := if (o.length : Int) > 400 then (2, []) else (0, o)
def outB (a : ByteArray) (l : List (List Int)) : Int × List Int := if (l.any (dP 10)) = true then (1, []) else cutO (buildo a l (headB a))
theorem spec_BuildMulti.l0_eq (a : ByteArray) (ha : a.size ≤ 1048576) (l : List (List Int)) (hl : l.length + sumL l ≤ 1048576) : ∀ (n k i : Nat), l.length = i + n → n + 1048577 < k → spec_BuildMulti.l0 k a l (i : Int) = some (if ((l.drop i).any (dP 10)) = true then (1, []) else cutO (buildo a l (headB a)))
  | _, 0, _, _, h => absurd h (by omega)
  | 0, k + 1, i, hi, h => by
    rw [spec_BuildMulti.l0, if_neg (by omega), spec_l5Build_eq a ha l hl k (by omega), Option.bind_some, List.drop_eq_nil_of_le (by omega), List.any_nil]
    simp only [Bool.false_eq_true, if_false]
    unfold cutO
    split <;> rfl
  | n + 1, k + 1, i, hi, h => by
    have hlt : i < l.length := by omega
    have w1 : wrap64 ((i : Int) + 1) = ((i + 1 : Nat) : Int) := by rw [wrap64_in (by omega)]; omega
    have hx := mem_sumL l l[i] (List.getElem_mem hlt)
    rw [spec_BuildMulti.l0, if_pos (by omega), if_pos (by omega), rdL_at l i hlt, spec_l5Dashes_eq l[i] (by omega) k (by omega), Option.bind_some, w1, List.drop_eq_getElem_cons hlt, List.any_cons]
    by_cases c : dP 10 l[i] = true
    · rw [if_pos c, c]; rfl
    · rw [if_neg c, spec_BuildMulti.l0_eq a ha l hl n k (i + 1) (by omega) (by omega), Bool.eq_false_iff.2 c, Bool.false_or]
theorem impl_BuildMulti.l0_eq (a : ByteArray) (ha : a.size ≤ 1048576) (l : List (List Int)) (hl : l.length + sumL l ≤ 1048576) (hB : ∀ x ∈ l, ∀ y ∈ x, 0 ≤ y ∧ y ≤ 255) : ∀ (n k i : Nat) (acc : List Int), l.length = i + n → n < k → acc.length + sumL (l.drop i) + (n + 1) * 2000000 ≤ 17592186044416 → impl_BuildMulti.l0 k a acc l (l.length : Int) (i : Int) = some (if ((l.drop i).any (dP 10)) = true then (1, []) else cutO (buildo a (l.drop i) acc))
  | _, 0, _, _, _, h, _ => absurd h (by omega)
  | 0, k + 1, i, acc, hi, h, hb => by
    rw [impl_BuildMulti.l0, if_neg (by omega), if_pos (by omega), sz_two, if_pos (by omega), sz_fin, if_pos (by omega), Option.bind_some, List.drop_eq_nil_of_le (by omega), List.any_nil, buildo]
    simp only [Bool.false_eq_true, if_false]
    show (if ((acc ++ finB a).length : Int) > 400 then (some ((2 : Int), ([] : List Int))) else (some (0, acc ++ finB a))) = _
    unfold cutO
    split <;> rfl
  | n + 1, k + 1, i, acc, hi, h, hb => by
    have hlt : i < l.length := by omega
    have w1 : wrap64 ((i : Int) + 1) = ((i + 1 : Nat) : Int) := by rw [wrap64_in (by omega)]; omega
    have hx := mem_sumL l l[i] (List.getElem_mem hlt)
    have hby := hB l[i] (List.getElem_mem hlt)
    have hd := sumL_drop l i hlt
    have e1 : ((acc ++ midB a) ++ l[i] ++ [10]).length = acc.length + (a.size + 3) + l[i].length + 1 := by simp [len_mid]; omega
    have e2 : (acc ++ midB a).length = acc.length + (a.size + 3) := by simp [len_mid]
    have e3 : ((acc ++ midB a) ++ l[i]).length = acc.length + (a.size + 3) + l[i].length := by simp [len_mid]; omega
    have ih := impl_BuildMulti.l0_eq a ha l hl hB n k (i + 1) (((acc ++ midB a) ++ l[i]) ++ [10]) (by omega) (by omega) (by rw [e1]; omega)
    rw [impl_BuildMulti.l0, if_pos (by omega), if_pos (by omega), if_pos (by omega), rdL_at l i hlt, bytes_HasPrefix_eq l[i] hby, Option.bind_some, List.drop_eq_getElem_cons hlt, List.any_cons, dP_split]
    by_cases c : pre2 l[i] = true
    · rw [if_pos c, c]; rfl
    · rw [if_neg c, bytes_Contains_eq l[i] (by omega) hby, Option.bind_some, Bool.eq_false_iff.2 c, Bool.false_or]
      by_cases d : dd l[i] = true
      · rw [if_pos d, d]; rfl
      · rw [if_neg d, Bool.eq_false_iff.2 d, Bool.false_or, if_pos (by omega), sz_two, if_pos (by omega), sz_mid, if_pos (by omega), Option.bind_some, w1]
        show (if (acc ++ midB a).length + l[i].length < 140737488355328 then ((some ((acc ++ midB a) ++ l[i] : List Int)).bind fun y172 => (if y172.length < 140737488355328 then (impl_BuildMulti.l0 k a (y172 ++ [10]) l (l.length : Int) ((i + 1 : Nat) : Int)) else (none))) else (none)) = _
        rw [e2, if_pos (by omega), Option.bind_some, e3, if_pos (by omega), ih, buildo]
theorem both_eq (a : ByteArray) (ha : a.size ≤ 1048576) (l : List (List Int)) (hl : l.length + sumL l ≤ 1048576) (hB : ∀ x ∈ l, ∀ y ∈ x, 0 ≤ y ∧ y ≤ 255) (k : Nat) (hk : 2097153 < k) : ∃ o : Int × List Int, o.2.length ≤ 400 ∧ spec_BuildMulti.f k a l = some o ∧ impl_BuildMulti.f k a l = some o := by
  obtain ⟨b, h1, h2⟩ := mark_eq a ha k (by omega)
  unfold spec_BuildMulti.f impl_BuildMulti.f
  rw [h1, h2, Option.bind_some, Option.bind_some]
  by_cases c : b = true
  · rw [if_pos c, if_pos c]
    by_cases d : (l.length : Int) > 6
    · rw [if_pos d, if_pos d]; exact ⟨(2, []), by simp, rfl, rfl⟩
    · rw [if_neg d, if_neg d]
      refine ⟨outB a l, ?_, ?_, ?_⟩
      · unfold outB
        split
        · simp
        · unfold cutO
          split
          · simp
          · simp only; omega
      · have := spec_BuildMulti.l0_eq a ha l hl l.length k 0 (by omega) (by omega)
        rw [List.drop_zero] at this
        exact this
      · rw [sz_head0, sz_head, if_pos (by omega), if_pos (by omega), if_pos (by omega)]
        have := impl_BuildMulti.l0_eq a ha l hl hB l.length k 0 (headB a) (by omega) (by omega) (by rw [List.drop_zero, len_head]; omega)
        rw [List.drop_zero] at this
        exact this
  · rw [if_neg c, if_neg c]; exact ⟨(5, []), by simp, rfl, rfl⟩
theorem FnExactBuildMulti : laws_FnExactBuildMulti.Pure := by
  intro a l ha hm _ hs
  obtain ⟨k, hk⟩ : ∃ k, 4194304 < k := ⟨_, Nat.lt_succ_self _⟩
  refine ⟨k + 1, ?_⟩
  unfold laws_FnExactBuildMulti.f
  by_cases ha1 : (a.size : Int) > 1048576
  · rw [if_pos ha1]
  rw [if_neg ha1]
  obtain ⟨r, hr, hx⟩ := laws_szByteSS_eq l hm (fun x hx => (hs x hx).1) (k + 1) (by omega)
  rw [hr, Option.bind_some]
  by_cases h0 : r < 0
  · rw [if_pos h0]
  · have hl := hx.resolve_left h0
    have hB : ∀ x ∈ l, ∀ y ∈ x, 0 ≤ y ∧ y ≤ 255 := fun x hx => byte_wf (hs x hx).2
    have ha2 : a.size ≤ 1048576 := by omega
    have e1 := laws_toByteSS_eq l (k + 1) hl (by omega)
    have e1' := laws_toByteSS_eq l k hl (by omega)
    obtain ⟨o, ho, e2, e3⟩ := both_eq a ha2 l hl hB k (by omega)
    have e2p := spec_BuildMulti.mono a l k o e2
    have e3p := impl_BuildMulti.mono a l k o e3
    have e4 := laws_eqByteSS_eq l (k + 1) hl (by omega)
    obtain ⟨l', e5⟩ := laws_markByteSS_eq l (k + 1) hl (by omega)
    have e6 : ∀ k, 400 < k → laws_eqBytesResult.f k o.1 o.2 o.1 o.2 = some true := by
      intro k hk; unfold laws_eqBytesResult.f; rw [if_pos rfl, laws_eqByteS_eq o.2 k (by unfold maxLen; omega) (by omega)]; rfl
    have e7 := e6 (k + 1) (by omega)
    have e8 := e6 k (by omega)
    have e9 := laws_markByteS_eq o.2 1 k (by omega) (by omega) (by omega)
    have e10 := laws_heldByteS_eq o.2.length 1 k (by omega) (by omega) (by omega)
    have p0 : ¬ (1 + (sumL l : Int) < 0) := by omega
    have p1 : ¬ (1 + (o.2.length : Int) < 0) := by omega
    simp only [if_neg h0, e1, e2p, e3p, e4, e5, e7, Option.bind_some, if_true, if_neg p0]
    rw [laws_FnExactBuildMulti.j0]
    simp only [laws_markBytesResult.f, laws_heldBytesResult.f, e1', e3, e8, e9, e10, Option.bind_some, if_true, if_neg p1, Bool.not_true, Bool.false_eq_true, if_false]

end Go.Proofs.Ytecpanfndodjgaa.Pure
