/- The plain law: what the walk computes answers as the statement says. -/
import Derived.Test.YtjopgmjmjnfcjaaDoorPFnBasesx5
namespace Go.Proofs.YtjopgmjmjnfcjaaDoor.Pure
open Go.RowKit Go.Proofs.YtjopgmjmjnfcjaaDoor.PFnBases Go.Proofs.YtjopgmjmjnfcjaaDoorW.PrintWords Go.Proofs.YtjopgmjmjnfcjaaDoorW.PrintLast
set_option linter.unusedSimpArgs false
set_option linter.unusedVariables false
theorem rd_at (l : List Int) (i : Nat) (h : i < l.length) : rd l (i : Int) = l[i] := by
  simp [rd, List.getD_eq_getElem?_getD, h]
theorem wrap64_in {n : Int} (h : -9223372036854775808 ≤ n ∧ n ≤ 9223372036854775807) : wrap64 n = n := by
  unfold wrap64; omega
theorem maxLen_le : maxLen ≤ 9223372036854775807 := by unfold maxLen; decide
theorem spec_l1Base_eq (n : Int) (h : 0 ≤ n ∧ n < 64) : spec_l1Base.f n = some (impl_baseText.dg n) := by
  unfold spec_l1Base.f impl_baseText.dg
  rw [if_pos h.1, if_pos h.2]
theorem tdw (V d : Int) (hV : 0 ≤ V ∧ V ≤ 16777215) (hd : 0 < d) : wrap64 (Int.tdiv V d) = V / d := by
  rw [Int.tdiv_eq_ediv_of_nonneg hV.1, wrap64_in]
  have h1 := Int.ediv_nonneg hV.1 (by omega : 0 ≤ d)
  have h2 := Int.ediv_le_self d hV.1
  omega
theorem tdwm (V d : Int) (hV : 0 ≤ V ∧ V ≤ 16777215) (hd : 0 < d) : Int.tmod (wrap64 (Int.tdiv V d)) 64 = V / d % 64 := by
  rw [tdw V d hV hd, Int.tmod_eq_emod_of_nonneg (Int.ediv_nonneg hV.1 (by omega))]
theorem tm64 (V : Int) (hV : 0 ≤ V ∧ V ≤ 16777215) : Int.tmod V 64 = V % 64 := Int.tmod_eq_emod_of_nonneg hV.1
theorem mod64 (x : Int) : 0 ≤ x % 64 ∧ x % 64 < 64 := by omega
theorem w123 (i : Nat) (h : i ≤ 1048576) : wrap64 ((i : Int) + 1) = (i : Int) + 1 ∧ wrap64 ((i : Int) + 2) = (i : Int) + 2 ∧ wrap64 ((i : Int) + 3) = ((i + 3 : Nat) : Int) := by
  refine ⟨wrap64_in (by omega), wrap64_in (by omega), ?_⟩
  rw [wrap64_in (by omega)]
  omega
theorem w12 (i : Nat) (h : i ≤ 1048576) : wrap64 ((i : Int) + 1) = ((i + 1 : Nat) : Int) ∧ wrap64 ((i : Int) + 2) = ((i + 2 : Nat) : Int) := by
  obtain ⟨h1, h2, _⟩ := w123 i h
  rw [h1, h2]
  omega
theorem spec_l1Encode.j2_eq (k : Nat) (L x3 : List Int) (i n : Nat) (V : Int) (hb : L.length ≤ 1048576) (hi : i < L.length) (hn : n = min (L.length - i) 3) (hV : 0 ≤ V ∧ V ≤ 16777215) (hx : x3.length + 4 < 140737488355328) :
    spec_l1Encode.j2 (k + 1) L x3 i V = spec_l1Encode.l0 k L (x3 ++ impl_baseText.four n V) ((i + 3 : Nat) : Int) := by
  have e1 := tdw V 262144 hV (by decide)
  have e2 := tdwm V 4096 hV (by decide)
  have e3 := tdwm V 64 hV (by decide)
  have e4 := tm64 V hV
  have v0 : 0 ≤ V / 262144 ∧ V / 262144 < 64 := by clear e1 e2 e3 e4 hx hn; omega
  have v1 := mod64 (V / 4096)
  have v2 := mod64 (V / 64)
  have v3 := mod64 V
  obtain ⟨w1, w2, w3⟩ := w123 i (by omega)
  have p0 : (2 : Int) ^ (18 - 6 * 0) = 262144 := by decide
  have p1 : (2 : Int) ^ (18 - 6 * 1) = 4096 := by decide
  have p2 : (2 : Int) ^ (18 - 6 * 2) = 64 := by decide
  have p3 : (2 : Int) ^ (18 - 6 * 3) = 1 := by decide
  have d0 : V / 262144 % 64 = V / 262144 := Int.emod_eq_of_lt v0.1 v0.2
  have d3 : V / 1 % 64 = V % 64 := by rw [Int.ediv_one]
  unfold spec_l1Encode.j2
  rw [e1, e2, e3, e4, w2, w1, w3, spec_l1Base_eq _ v0, spec_l1Base_eq _ v1, spec_l1Base_eq _ v2, spec_l1Base_eq _ v3]
  simp only [Option.bind_some]
  unfold impl_baseText.four impl_baseText.dk
  rw [p0, p1, p2, p3, d0, d3]
  clear e1 e2 e3 e4 w1 w2 w3 p0 p1 p2 p3 d0 d3 v0 v1 v2 v3 hV
  by_cases h2 : i + 2 < L.length
  · obtain rfl : n = 3 := by omega
    rw [if_neg (by omega), if_neg (by omega), if_pos (by simp; omega)]
    simp
  · by_cases h1 : i + 1 < L.length
    · obtain rfl : n = 2 := by omega
      rw [if_pos (by omega), if_pos (by simp), if_neg (by omega), if_pos (by simp; omega)]
      simp
    · obtain rfl : n = 1 := by omega
      rw [if_pos (by omega), if_pos (by simp), if_pos (by omega), if_pos (by simp), if_pos (by simp; omega)]
      simp
theorem spec_l1Encode.one (k : Nat) (L x3 : List Int) (i : Nat) (hb : L.length ≤ 1048576) (hB : ∀ x ∈ L, 0 ≤ x ∧ x ≤ 255) (hi : i < L.length) (hx : x3.length + 4 < 140737488355328) :
    ∃ four : List Int, impl_baseText.q (L.drop i) = four ++ impl_baseText.q (L.drop (i + 3)) ∧ four.length = 4 ∧ spec_l1Encode.l0 (k + 3) L x3 i = spec_l1Encode.l0 k L (x3 ++ four) ((i + 3 : Nat) : Int) := by
  have hall : L.all (fun x => decide (0 ≤ x ∧ x ≤ 255)) = true := by
    rw [List.all_eq_true]; intro x hx; exact decide_eq_true (hB x hx)
  have h1 : (i : Int) < (L.length : Int) := by omega
  have h2 : (0 : Int) ≤ (i : Int) := by omega
  have w2 : wrap64 ((i : Int) + 2) = ((i + 2 : Nat) : Int) := by rw [wrap64_in (by omega)]; omega
  have w1 : wrap64 ((i : Int) + 1) = ((i + 1 : Nat) : Int) := by rw [wrap64_in (by omega)]; omega
  have ha := hB L[i] (List.getElem_mem hi)
  have ra := rd_at L i hi
  have hd : L.drop i = L[i] :: L.drop (i + 1) := List.drop_eq_getElem_cons hi
  generalize L[i] = a at ha ra hd
  have wa : wrap64 a = a := wrap64_in (by omega)
  have wa2 : wrap64 (a * 65536) = a * 65536 := wrap64_in (by omega)
  by_cases h3 : i + 1 < L.length
  · have hb1 := hB L[i + 1] (List.getElem_mem h3)
    have rb := rd_at L (i + 1) h3
    have hd2 : L.drop (i + 1) = L[i + 1] :: L.drop (i + 2) := List.drop_eq_getElem_cons h3
    generalize L[i + 1] = b at hb1 rb hd2
    have wb : wrap64 b = b := wrap64_in (by omega)
    have wb2 : wrap64 (b * 256) = b * 256 := wrap64_in (by omega)
    have wab : wrap64 (a * 65536 + b * 256) = a * 65536 + b * 256 := wrap64_in (by omega)
    by_cases h4 : i + 2 < L.length
    · have hc1 := hB L[i + 2] (List.getElem_mem h4)
      have rc := rd_at L (i + 2) h4
      have hd3 : L.drop (i + 2) = L[i + 2] :: L.drop (i + 3) := List.drop_eq_getElem_cons h4
      generalize L[i + 2] = c at hc1 rc hd3
      have wc : wrap64 c = c := wrap64_in (by omega)
      have wabc : wrap64 (a * 65536 + b * 256 + c) = a * 65536 + b * 256 + c := wrap64_in (by omega)
      refine ⟨impl_baseText.four 3 (a * 65536 + b * 256 + c), ?_, rfl, ?_⟩
      · have := impl_baseText.q_step L [a, b, c] i a b c hall (by rw [hd, hd2, hd3]; rfl) (.inr (.inr rfl))
        simpa using this
      · conv => lhs; unfold spec_l1Encode.l0
        rw [if_pos h1, if_pos h2, w1, if_pos (by omega), if_pos (by omega), ra, rb, wa, wb, wa2, wb2, wab]
        unfold spec_l1Encode.j1
        rw [w2, if_pos (by omega), if_pos (by omega), rc, wc, wabc]
        exact spec_l1Encode.j2_eq k L x3 i 3 (a * 65536 + b * 256 + c) hb hi (by omega) (by omega) hx
    · refine ⟨impl_baseText.four 2 (a * 65536 + b * 256 + 0), ?_, rfl, ?_⟩
      · have hd3 : L.drop (i + 2) = [] := List.drop_eq_nil_of_le (by omega)
        have := impl_baseText.q_step L [a, b] i a b 0 hall (by rw [hd, hd2, hd3]; rfl) (.inr (.inl ⟨rfl, rfl⟩))
        simpa using this
      · conv => lhs; unfold spec_l1Encode.l0
        rw [if_pos h1, if_pos h2, w1, if_pos (by omega), if_pos (by omega), ra, rb, wa, wb, wa2, wb2, wab]
        unfold spec_l1Encode.j1
        rw [w2, if_neg (by omega), Int.add_zero]
        exact spec_l1Encode.j2_eq k L x3 i 2 (a * 65536 + b * 256) hb hi (by omega) (by omega) hx
  · refine ⟨impl_baseText.four 1 (a * 65536 + 0 * 256 + 0), ?_, rfl, ?_⟩
    · have hd3 : L.drop (i + 1) = [] := List.drop_eq_nil_of_le (by omega)
      have := impl_baseText.q_step L [a] i a 0 0 hall (by rw [hd, hd3]; rfl) (.inl ⟨rfl, rfl, rfl⟩)
      simpa using this
    · conv => lhs; unfold spec_l1Encode.l0
      rw [if_pos h1, if_pos h2, w1, if_neg (by omega), ra, wa, wa2]
      unfold spec_l1Encode.j1
      rw [w2, if_neg (by omega), show a * 65536 + 0 * 256 + 0 = a * 65536 by omega]
      exact spec_l1Encode.j2_eq k L x3 i 1 (a * 65536) hb hi (by omega) (by omega) hx
theorem spec_l1Encode.l0_eq (L : List Int) (hb : L.length ≤ 1048576) (hB : ∀ x ∈ L, 0 ≤ x ∧ x ≤ 255) : ∀ (n k i : Nat) (x3 : List Int), L.length ≤ i + n → L.length + 3 ≤ k + i → i ≤ L.length + 2 → x3.length ≤ 2 * i → spec_l1Encode.l0 k L x3 (i : Int) = some (strOfNums (x3 ++ impl_baseText.q (L.drop i))) := by
  intro n
  induction n using Nat.strongRecOn with
  | _ n ih =>
    intro k i x3 hn hk hi hx
    by_cases h : i < L.length
    · obtain ⟨k, rfl⟩ : ∃ m, k = m + 3 := ⟨k - 3, by omega⟩
      obtain ⟨four, h1, h2, h3⟩ := spec_l1Encode.one k L x3 i hb hB h (by omega)
      rw [h3, h1]
      rw [ih (n - 1) (by omega) k (i + 3) (x3 ++ four) (by omega) (by omega) (by omega) (by simp; omega), List.append_assoc]
    · obtain ⟨k, rfl⟩ : ∃ m, k = m + 1 := ⟨k - 1, by omega⟩
      have h1 : ¬ ((i : Int) < (L.length : Int)) := by omega
      unfold spec_l1Encode.l0
      rw [if_neg h1, List.drop_eq_nil_of_le (by omega)]
      simp [impl_baseText.q]
theorem spec_l1Encode_eq (L : List Int) (k : Nat) (hb : L.length ≤ 1048576) (hB : ∀ x ∈ L, 0 ≤ x ∧ x ≤ 255) (hk : L.length + 3 ≤ k) : spec_l1Encode.f k L = some (strOfNums (impl_baseText.q L)) := by
  unfold spec_l1Encode.f
  have := spec_l1Encode.l0_eq L hb hB L.length k 0 [] (by omega) (by omega) (by omega) (by simp)
  simpa using this
theorem impl_baseText_eq (L : List Int) (hb : L.length ≤ 1000000) (hB : ∀ x ∈ L, 0 ≤ x ∧ x ≤ 255) : impl_baseText.f L = some (strOfNums (impl_baseText.q L)) := by
  have hall : L.all (fun x => decide (0 ≤ x ∧ x ≤ 255)) = true := by
    rw [List.all_eq_true]; intro x hx; exact decide_eq_true (hB x hx)
  unfold impl_baseText.f
  rw [if_pos ⟨hb, hall⟩]
theorem bt_range (s : ByteArray) (i : Int) : 0 ≤ bt s i ∧ bt s i ≤ 255 := by
  unfold bt
  split
  · rename_i h
    have := UInt8.toNat_lt (s[i.toNat]'h)
    omega
  · omega
theorem strOfNums_size (l : List Int) : (strOfNums l).size = l.length := by
  show (strOfNums l).data.size = _
  simp [strOfNums]
theorem bytesOf_strOfNums (l : List Int) (h : ∀ x ∈ l, 0 ≤ x ∧ x ≤ 255) : bytesOf (strOfNums l) = l := by
  unfold bytesOf strOfNums
  simp only [List.map_map]
  conv => rhs; rw [← List.map_id l]
  apply List.map_congr_left
  intro x hx
  have := h x hx
  simp only [Function.comp, id]
  rw [UInt8.toNat_ofNat_of_lt' (by show x.toNat < 256; omega)]
  omega
theorem strOfNums_bytesOf (s : ByteArray) : strOfNums (bytesOf s) = s := by
  unfold bytesOf strOfNums
  rw [List.map_map]
  have h : (s.data.toList.map ((fun n : Int => UInt8.ofNat n.toNat) ∘ fun b : UInt8 => (b.toNat : Int))) = s.data.toList := by
    conv => rhs; rw [← List.map_id s.data.toList]
    apply List.map_congr_left
    intro x _
    simp
  rw [h]
theorem bytesOf_in (s : ByteArray) : ∀ x ∈ bytesOf s, 0 ≤ x ∧ x ≤ 255 := by
  intro x hx
  obtain ⟨b, _, rfl⟩ := List.mem_map.1 hx
  have := UInt8.toNat_lt b
  omega
theorem bt_strOfNums (l : List Int) (h : ∀ x ∈ l, 0 ≤ x ∧ x ≤ 255) (i : Nat) (hi : i < l.length) : bt (strOfNums l) (i : Int) = l[i] := by
  rw [← rd_bytesOf, bytesOf_strOfNums l h, rd_at l i hi]
theorem u8_eq (x c : Int) (hx : 0 ≤ x ∧ x ≤ 255) (hc : 0 ≤ c ∧ c ≤ 255) : (UInt8.ofNat x.toNat == c.toNat.toUInt8) = decide (x = c) := by
  rw [Bool.eq_iff_iff, beq_iff_eq, decide_eq_true_eq]
  constructor
  · intro h
    have h2 := congrArg UInt8.toNat h
    rw [UInt8.toNat_ofNat_of_lt' (by show x.toNat < 256; omega)] at h2
    rw [show c.toNat.toUInt8.toNat = c.toNat from UInt8.toNat_ofNat_of_lt' (by show c.toNat < 256; omega)] at h2
    omega
  · intro h
    subst h
    rfl
def digT : ByteArray := ⟨#[65, 66, 67, 68, 69, 70, 71, 72, 73, 74, 75, 76, 77, 78, 79, 80, 81, 82, 83, 84, 85, 86, 87, 88, 89, 90, 97, 98, 99, 100, 101, 102, 103, 104, 105, 106, 107, 108, 109, 110, 111, 112, 113, 114, 115, 116, 117, 118, 119, 120, 121, 122, 48, 49, 50, 51, 52, 53, 54, 55, 56, 57, 43, 47]⟩
def dv (b : Int) : Int := if 65 ≤ b ∧ b ≤ 90 then b - 65 else if 97 ≤ b ∧ b ≤ 122 then b - 71 else if 48 ≤ b ∧ b ≤ 57 then b + 4 else if b = 43 then 62 else if b = 47 then 63 else -1
theorem dv_range (b : Int) : -1 ≤ dv b ∧ dv b < 64 := by
  unfold dv
  repeat' split
  all_goals omega
theorem dg_all : ∀ n : Fin 64, dv (impl_baseText.dg (n.val : Int)) = n.val ∧ impl_baseText.dg (n.val : Int) ≠ 61 ∧ 0 ≤ impl_baseText.dg (n.val : Int) ∧ impl_baseText.dg (n.val : Int) ≤ 255 := by decide +kernel
theorem dg_dv (n : Int) (h : 0 ≤ n ∧ n < 64) : dv (impl_baseText.dg n) = n ∧ impl_baseText.dg n ≠ 61 ∧ 0 ≤ impl_baseText.dg n ∧ impl_baseText.dg n ≤ 255 := by
  have := dg_all ⟨n.toNat, by omega⟩
  simpa [Int.toNat_of_nonneg h.1] using this
theorem ix_all : ∀ n : Fin 256, Lib.indexByte digT.data.toList ((n.val : Int)).toNat.toUInt8 = dv n.val := by decide +kernel
theorem ix_eq (b : Int) (h : 0 ≤ b ∧ b ≤ 255) : strings_IndexByte.f digT b = some (dv b) := by
  have := ix_all ⟨b.toNat, by omega⟩
  unfold strings_IndexByte.f
  rw [show ((⟨b.toNat, by omega⟩ : Fin 256).val : Int) = b from Int.toNat_of_nonneg h.1] at this
  rw [this]
theorem digit_all : ∀ n : Fin 256, spec_l1Digit.f 66 (n.val : Int) = some (dv n.val) := by decide +kernel
theorem digit_eq (b : Int) (h : 0 ≤ b ∧ b ≤ 255) (k : Nat) (hk : 66 ≤ k) : spec_l1Digit.f k b = some (dv b) := by
  obtain ⟨m, rfl⟩ : ∃ m, k = 66 + m := ⟨k - 66, by omega⟩
  clear hk
  induction m with
  | zero =>
    have := digit_all ⟨b.toNat, by omega⟩
    rw [show ((⟨b.toNat, by omega⟩ : Fin 256).val : Int) = b from Int.toNat_of_nonneg h.1] at this
    exact this
  | succ m ih => exact spec_l1Digit.mono b (66 + m) _ ih
def nS (c d : Int) (last : Prop) [Decidable last] : Nat := if last ∧ d = 61 then (if c = 61 then 2 else 3) else 4
def vS (a b c d : Int) (n : Nat) : Int := ((dv a * 64 + dv b) * 64 + (if 2 < n then dv c else 0)) * 64 + (if 3 < n then dv d else 0)
def badS (a b c d : Int) (n : Nat) : Prop := dv a < 0 ∨ dv b < 0 ∨ (2 < n ∧ dv c < 0) ∨ (3 < n ∧ dv d < 0)
instance (a b c d : Int) (n : Nat) : Decidable (badS a b c d n) := by unfold badS; infer_instance
def outS (v : Int) (n : Nat) : List Int := [v / 65536 % 256, v / 256 % 256, v % 256].take (n - 1)
def decS : List Int → List Int → Option (List Int)
  | a :: b :: c :: d :: r, out => if badS a b c d (nS c d (r = [])) then none else decS r (out ++ outS (vS a b c d (nS c d (r = []))) (nS c d (r = [])))
  | _, out => some out
theorem nS_cases (c d : Int) (last : Prop) [Decidable last] : nS c d last = 2 ∨ nS c d last = 3 ∨ nS c d last = 4 := by
  unfold nS
  repeat' split
  all_goals simp
theorem outS_byte (v : Int) (n : Nat) : ∀ x ∈ outS v n, 0 ≤ x ∧ x ≤ 255 := by
  intro x hx
  have := List.mem_of_mem_take hx
  simp only [List.mem_cons, List.not_mem_nil, or_false] at this
  omega
theorem outS_len (v : Int) (n : Nat) : (outS v n).length ≤ 3 := by
  unfold outS
  rw [List.length_take]
  simp only [List.length_cons, List.length_nil]
  omega
theorem decS_ok : ∀ (m : Nat) (L out o : List Int), L.length ≤ m → decS L out = some o → (∀ x ∈ out, 0 ≤ x ∧ x ≤ 255) → (∀ x ∈ o, 0 ≤ x ∧ x ≤ 255) ∧ o.length ≤ out.length + L.length := by
  intro m
  induction m using Nat.strongRecOn with
  | _ m ih =>
    intro L out o hm h hb
    match L, hm, h with
    | [], _, h => simp only [decS, Option.some.injEq] at h; subst h; exact ⟨hb, by omega⟩
    | [_], _, h => simp only [decS, Option.some.injEq] at h; subst h; exact ⟨hb, by omega⟩
    | [_, _], _, h => simp only [decS, Option.some.injEq] at h; subst h; exact ⟨hb, by omega⟩
    | [_, _, _], _, h => simp only [decS, Option.some.injEq] at h; subst h; exact ⟨hb, by omega⟩
    | a :: b :: c :: d :: r, hm, h =>
      simp only [List.length_cons] at hm
      rw [decS] at h
      split at h
      · cases h
      · have hl := outS_len (vS a b c d (nS c d (r = []))) (nS c d (r = []))
        have := ih r.length (by omega) r _ o (Nat.le_refl _) h (fun x hx => by
          rcases List.mem_append.1 hx with hx | hx
          · exact hb x hx
          · exact outS_byte _ _ x hx)
        refine ⟨this.1, ?_⟩
        have h2 := this.2
        rw [List.length_append] at h2
        simp only [List.length_cons]
        omega
theorem drop_btD (s : ByteArray) (i : Nat) (h : i < s.size) : (bytesOf s).drop i = bt s (i : Int) :: (bytesOf s).drop (i + 1) := by
  have hl : i < (bytesOf s).length := by rw [bytesOf_length]; exact h
  rw [List.drop_eq_getElem_cons hl, ← rd_bytesOf, rd_at _ i hl]
theorem text_eq (s t : ByteArray) : (s.toList == t.toList) = decide (s = t) := by
  rw [Bool.eq_iff_iff, beq_iff_eq, decide_eq_true_eq]
  constructor
  · intro h
    rw [Go.ByteArray.toList_eq, Go.ByteArray.toList_eq] at h
    match s, t, h with
    | ⟨⟨a⟩⟩, ⟨⟨b⟩⟩, h => simp only at h; rw [h]
  · intro h; rw [h]
theorem spec_l1Decode.l1_eq (s : ByteArray) (hs : s.size ≤ 1048576) (out : List Int) (i : Nat) (hi : i + 4 ≤ s.size) (k : Nat) :
    ∃ k', k ≤ k' ∧ spec_l1Decode.l1 (k + 3) s out (i : Int) 4 = spec_l1Decode.j2 k' s out (i : Int) ((nS (bt s ((i + 2 : Nat) : Int)) (bt s ((i + 3 : Nat) : Int)) (i + 4 = s.size) : Nat) : Int) := by
  have w0 : wrap64 ((i : Int) + 4) = ((i + 4 : Nat) : Int) := by rw [wrap64_in (by omega)]; omega
  have w1 : wrap64 (((i + 4 : Nat) : Int) - 1) = ((i + 3 : Nat) : Int) := by rw [wrap64_in (by omega)]; omega
  have w2 : wrap64 (wrap64 ((i : Int) + 3) - 1) = ((i + 2 : Nat) : Int) := by rw [wrap64_in (show _ ∧ (i : Int) + 3 ≤ _ by omega), wrap64_in (by omega)]; omega
  have w3 : wrap64 ((4 : Int) - 1) = 3 := (wrap64_in (by omega)).trans (by decide)
  have w4 : wrap64 ((3 : Int) - 1) = 2 := (wrap64_in (by omega)).trans (by decide)
  unfold nS
  by_cases c1 : i + 4 = s.size
  · by_cases c2 : bt s ((i + 3 : Nat) : Int) = 61
    · by_cases c3 : bt s ((i + 2 : Nat) : Int) = 61
      · refine ⟨k, by omega, ?_⟩
        rw [if_pos ⟨c1, c2⟩, if_pos c3, spec_l1Decode.l1, if_pos (by decide), w0, if_pos (by omega), w1, if_pos (by omega), if_pos (by omega), if_pos c2, w3, spec_l1Decode.l1, if_pos (by decide), w0, if_pos (by omega), w2, if_pos (by omega), if_pos (by omega), if_pos c3, w4, spec_l1Decode.l1, if_neg (by decide)]
        rfl
      · refine ⟨k + 1, by omega, ?_⟩
        rw [if_pos ⟨c1, c2⟩, if_neg c3, spec_l1Decode.l1, if_pos (by decide), w0, if_pos (by omega), w1, if_pos (by omega), if_pos (by omega), if_pos c2, w3, spec_l1Decode.l1, if_pos (by decide), w0, if_pos (by omega), w2, if_pos (by omega), if_pos (by omega), if_neg c3]
        rfl
    · refine ⟨k + 2, by omega, ?_⟩
      rw [if_neg (fun e => c2 e.2), spec_l1Decode.l1, if_pos (by decide), w0, if_pos (by omega), w1, if_pos (by omega), if_pos (by omega), if_neg c2]
      rfl
  · refine ⟨k + 2, by omega, ?_⟩
    rw [if_neg (fun e => c1 e.1), spec_l1Decode.l1, if_pos (by decide), w0, if_neg (by omega)]
    rfl
theorem spec_l1Decode.l2_pos (s : ByteArray) (hs : s.size ≤ 1048576) (out : List Int) (i n p : Nat) (j j1 : Int) (hp : (p : Int) = (i : Int) + j) (h0 : 0 ≤ j) (hj : j < 4) (hj1 : j1 = j + 1) (hjn : j < (n : Int)) (hi : p < s.size) (k : Nat) (hk : 66 ≤ k) (v : Int) (hv : 0 ≤ v ∧ v ≤ 1000000) :
    spec_l1Decode.l2 (k + 1) s out (i : Int) (n : Int) v j = if dv (bt s (p : Int)) < 0 then some ([], false) else spec_l1Decode.l2 k s out (i : Int) (n : Int) (v * 64 + dv (bt s (p : Int))) j1 := by
  have w0 : wrap64 ((i : Int) + j) = (p : Int) := by rw [wrap64_in (by omega)]; omega
  have w1 : wrap64 (j + 1) = j1 := by rw [wrap64_in (by omega)]; omega
  have hd := dv_range (bt s (p : Int))
  rw [spec_l1Decode.l2, if_pos hj, if_pos hjn, w0, if_pos (by omega), if_pos (by omega), digit_eq _ (bt_range s _) k hk, Option.bind_some, w1]
  generalize dv (bt s (p : Int)) = x at hd
  by_cases c : x < 0
  · rw [if_pos c, if_pos c]
  · have w2 : wrap64 (wrap64 (v * 64) + x) = v * 64 + x := by rw [wrap64_in (show _ ∧ v * 64 ≤ _ by omega), wrap64_in (by omega)]
    rw [if_neg c, if_neg c, w2]
theorem spec_l1Decode.l2_neg (s : ByteArray) (out : List Int) (i n : Nat) (j j1 : Int) (h0 : 0 ≤ j) (hj : j < 4) (hj1 : j1 = j + 1) (hjn : ¬ j < (n : Int)) (k : Nat) (v : Int) (hv : 0 ≤ v ∧ v ≤ 1000000) :
    spec_l1Decode.l2 (k + 1) s out (i : Int) (n : Int) v j = spec_l1Decode.l2 k s out (i : Int) (n : Int) (v * 64 + 0) j1 := by
  have w1 : wrap64 (j + 1) = j1 := by rw [wrap64_in (by omega)]; omega
  have w2 : wrap64 (wrap64 (v * 64) + 0) = v * 64 + 0 := by rw [wrap64_in (show _ ∧ v * 64 ≤ _ by omega), wrap64_in (by omega)]
  rw [spec_l1Decode.l2, if_pos hj, if_neg hjn, if_neg (by decide), w1, w2]
theorem v_tail (v : Int) (hv : 0 ≤ v ∧ v ≤ 16777215) : ([(wrap64 (Int.tdiv v 65536)) % 256, (Int.tmod (wrap64 (Int.tdiv v 256)) 256) % 256, (Int.tmod v 256) % 256] : List Int) = [v / 65536 % 256, v / 256 % 256, v % 256] := by
  rw [tdw v 65536 hv (by decide), tdw v 256 hv (by decide), Int.tmod_eq_emod_of_nonneg hv.1, Int.tmod_eq_emod_of_nonneg (by omega)]
  congr 2
  · omega
  · congr 1
    omega
theorem spec_l1Decode.l2_end (s : ByteArray) (out : List Int) (hout : out.length ≤ 1048576) (i : Nat) (hi : i ≤ 1048576) (n : Nat) (hn : n = 2 ∨ n = 3 ∨ n = 4) (k : Nat) (v : Int) (hv : 0 ≤ v ∧ v ≤ 16777215) :
    spec_l1Decode.l2 (k + 1) s out (i : Int) (n : Int) v 4 = spec_l1Decode.l0 k s (out ++ outS v n) ((i + 4 : Nat) : Int) := by
  have w0 : wrap64 ((i : Int) + 4) = ((i + 4 : Nat) : Int) := by rw [wrap64_in (by omega)]; omega
  have w1 : wrap64 ((n : Int) - 1) = ((n - 1 : Nat) : Int) := by rw [wrap64_in (by omega)]; omega
  have hl := outS_len v n
  rw [spec_l1Decode.l2, if_neg (by decide), v_tail v hv, Option.bind_some, w1, if_pos (by omega), if_pos (by simp only [List.length_cons, List.length_nil]; omega), Int.toNat_natCast, Option.bind_some]
  show (if out.length + (outS v n).length < _ then spec_l1Decode.l0 k s (out ++ outS v n) _ else none) = _
  rw [if_pos (by omega), w0]
theorem spec_l1Decode.step (s : ByteArray) (hs : s.size ≤ 1048576) (out : List Int) (hout : out.length ≤ 1048576) (i : Nat) (hi : i + 4 ≤ s.size) (k : Nat) (hk : 66 ≤ k) (n : Nat) (hn : n = nS (bt s ((i + 2 : Nat) : Int)) (bt s ((i + 3 : Nat) : Int)) (i + 4 = s.size)) :
    ∃ k', k ≤ k' ∧ spec_l1Decode.l0 (k + 10) s out (i : Int) = if badS (bt s ((i : Nat) : Int)) (bt s ((i + 1 : Nat) : Int)) (bt s ((i + 2 : Nat) : Int)) (bt s ((i + 3 : Nat) : Int)) n then some ([], false) else spec_l1Decode.l0 k' s (out ++ outS (vS (bt s ((i : Nat) : Int)) (bt s ((i + 1 : Nat) : Int)) (bt s ((i + 2 : Nat) : Int)) (bt s ((i + 3 : Nat) : Int)) n) n) ((i + 4 : Nat) : Int) := by
  obtain ⟨k1, hk1, e1⟩ := spec_l1Decode.l1_eq s hs out i hi (k + 6)
  have hnc := nS_cases (bt s ((i + 2 : Nat) : Int)) (bt s ((i + 3 : Nat) : Int)) (i + 4 = s.size)
  rw [← hn] at e1 hnc
  obtain ⟨k2, rfl⟩ : ∃ m, k1 = m + 6 := ⟨k1 - 6, by omega⟩
  refine ⟨k2, by omega, ?_⟩
  rw [spec_l1Decode.l0, if_pos (by omega), e1, spec_l1Decode.j2]
  have p0 := spec_l1Decode.l2_pos s hs out i n i 0 1 (by omega) (by omega) (by omega) (by omega) (by omega) (by omega) (k2 + 4) (by omega) 0 (by omega)
  rw [p0]
  have r0 := dv_range (bt s ((i : Nat) : Int))
  have r1 := dv_range (bt s ((i + 1 : Nat) : Int))
  have r2 := dv_range (bt s ((i + 2 : Nat) : Int))
  have r3 := dv_range (bt s ((i + 3 : Nat) : Int))
  unfold vS
  by_cases b0 : dv (bt s ((i : Nat) : Int)) < 0
  · rw [if_pos b0, if_pos (.inl b0)]
  · have p1 := spec_l1Decode.l2_pos s hs out i n (i + 1) 1 2 (by omega) (by omega) (by omega) (by omega) (by omega) (by omega) (k2 + 3) (by omega) (0 * 64 + dv (bt s ((i : Nat) : Int))) (by omega)
    rw [if_neg b0, p1]
    by_cases b1 : dv (bt s ((i + 1 : Nat) : Int)) < 0
    · rw [if_pos b1, if_pos (.inr (.inl b1))]
    · rw [if_neg b1]
      have hv1 : 0 ≤ dv (bt s ((i : Nat) : Int)) * 64 + dv (bt s ((i + 1 : Nat) : Int)) ∧ dv (bt s ((i : Nat) : Int)) * 64 + dv (bt s ((i + 1 : Nat) : Int)) < 4096 := by omega
      rw [show (0 * 64 + dv (bt s ((i : Nat) : Int))) = dv (bt s ((i : Nat) : Int)) by omega]
      have nb : ∀ m : Nat, ¬ (2 < m ∧ dv (bt s ((i + 2 : Nat) : Int)) < 0) → ¬ (3 < m ∧ dv (bt s ((i + 3 : Nat) : Int)) < 0) → ¬ badS (bt s ((i : Nat) : Int)) (bt s ((i + 1 : Nat) : Int)) (bt s ((i + 2 : Nat) : Int)) (bt s ((i + 3 : Nat) : Int)) m := by
        intro m q1 q2 q
        rcases q with q | q | q | q
        · exact b0 q
        · exact b1 q
        · exact q1 q
        · exact q2 q
      generalize dv (bt s ((i : Nat) : Int)) * 64 + dv (bt s ((i + 1 : Nat) : Int)) = v1 at hv1
      clear p0 p1 e1 hn
      rcases hnc with h2 | h3 | h4
      · subst h2
        rw [spec_l1Decode.l2_neg s out i 2 2 3 (by omega) (by omega) (by omega) (by omega) (k2 + 2) v1 (by omega), spec_l1Decode.l2_neg s out i 2 3 4 (by omega) (by omega) (by omega) (by omega) (k2 + 1) _ (by omega), if_neg (nb 2 (by omega) (by omega)), if_neg (by decide), if_neg (by decide)]
        exact spec_l1Decode.l2_end s out hout i (by omega) 2 (by omega) k2 _ (by omega)
      · subst h3
        rw [spec_l1Decode.l2_pos s hs out i 3 (i + 2) 2 3 (by omega) (by omega) (by omega) (by omega) (by omega) (by omega) (k2 + 2) (by omega) v1 (by omega)]
        by_cases b2 : dv (bt s ((i + 2 : Nat) : Int)) < 0
        · rw [if_pos b2, if_pos (.inr (.inr (.inl ⟨by decide, b2⟩)))]
        · rw [if_neg b2, spec_l1Decode.l2_neg s out i 3 3 4 (by omega) (by omega) (by omega) (by omega) (k2 + 1) _ (by omega), if_neg (nb 3 (by omega) (by omega)), if_pos (by decide), if_neg (by decide)]
          exact spec_l1Decode.l2_end s out hout i (by omega) 3 (by omega) k2 _ (by omega)
      · subst h4
        rw [spec_l1Decode.l2_pos s hs out i 4 (i + 2) 2 3 (by omega) (by omega) (by omega) (by omega) (by omega) (by omega) (k2 + 2) (by omega) v1 (by omega)]
        by_cases b2 : dv (bt s ((i + 2 : Nat) : Int)) < 0
        · rw [if_pos b2, if_pos (.inr (.inr (.inl ⟨by decide, b2⟩)))]
        · rw [if_neg b2, spec_l1Decode.l2_pos s hs out i 4 (i + 3) 3 4 (by omega) (by omega) (by omega) (by omega) (by omega) (by omega) (k2 + 1) (by omega) _ (by omega)]
          by_cases b3 : dv (bt s ((i + 3 : Nat) : Int)) < 0
          · rw [if_pos b3, if_pos (.inr (.inr (.inr ⟨by decide, b3⟩)))]
          · rw [if_neg b3, if_neg (nb 4 (by omega) (by omega)), if_pos (by decide), if_pos (by decide)]
            exact spec_l1Decode.l2_end s out hout i (by omega) 4 (by omega) k2 _ (by omega)
theorem spec_l1Decode.l0_eq (s : ByteArray) (hs : s.size ≤ 500000) : ∀ (n k i : Nat) (out : List Int), s.size = i + 4 * n → 1048576 + 10 * n + 100 ≤ k → (∀ x ∈ out, 0 ≤ x ∧ x ≤ 255) → out.length ≤ i →
    spec_l1Decode.l0 k s out (i : Int) = some (match decS ((bytesOf s).drop i) out with | none => ([], false) | some o => (o, decide (strOfNums (impl_baseText.q o) = s)))
  | 0, k, i, out, hi, hk, hb, hl => by
    obtain ⟨k, rfl⟩ : ∃ m, k = m + 1 := ⟨k - 1, by omega⟩
    rw [spec_l1Decode.l0, if_neg (by omega), List.drop_eq_nil_of_le (by rw [bytesOf_length]; omega), spec_l1Encode_eq out k (by omega) hb (by omega), Option.bind_some, text_eq]
    rfl
  | n + 1, k, i, out, hi, hk, hb, hl => by
    obtain ⟨k, rfl⟩ : ∃ m, k = m + 10 := ⟨k - 10, by omega⟩
    obtain ⟨k', hk', e⟩ := spec_l1Decode.step s (by omega) out (by omega) i (by omega) k (by omega) _ rfl
    have hd : (bytesOf s).drop i = bt s (i : Int) :: bt s ((i + 1 : Nat) : Int) :: bt s ((i + 2 : Nat) : Int) :: bt s ((i + 3 : Nat) : Int) :: (bytesOf s).drop (i + 4) := by
      rw [drop_btD s i (by omega), drop_btD s (i + 1) (by omega), drop_btD s (i + 2) (by omega), drop_btD s (i + 3) (by omega)]
    have hlast : ((bytesOf s).drop (i + 4) = []) ↔ (i + 4 = s.size) := by
      rw [List.drop_eq_nil_iff, bytesOf_length]
      omega
    have hn : nS (bt s ((i + 2 : Nat) : Int)) (bt s ((i + 3 : Nat) : Int)) ((bytesOf s).drop (i + 4) = []) = nS (bt s ((i + 2 : Nat) : Int)) (bt s ((i + 3 : Nat) : Int)) (i + 4 = s.size) := by
      unfold nS
      simp only [hlast]
    rw [e, hd, decS, hn]
    by_cases c : badS (bt s ((i : Nat) : Int)) (bt s ((i + 1 : Nat) : Int)) (bt s ((i + 2 : Nat) : Int)) (bt s ((i + 3 : Nat) : Int)) (nS (bt s ((i + 2 : Nat) : Int)) (bt s ((i + 3 : Nat) : Int)) (i + 4 = s.size))
    · rw [if_pos c, if_pos c]
    · rw [if_neg c, if_neg c]
      have hol := outS_len (vS (bt s ((i : Nat) : Int)) (bt s ((i + 1 : Nat) : Int)) (bt s ((i + 2 : Nat) : Int)) (bt s ((i + 3 : Nat) : Int)) (nS (bt s ((i + 2 : Nat) : Int)) (bt s ((i + 3 : Nat) : Int)) (i + 4 = s.size))) (nS (bt s ((i + 2 : Nat) : Int)) (bt s ((i + 3 : Nat) : Int)) (i + 4 = s.size))
      refine spec_l1Decode.l0_eq s hs n k' (i + 4) _ (by omega) (by omega) (fun x hx => ?_) (by rw [List.length_append]; omega)
      rcases List.mem_append.1 hx with hx | hx
      · exact hb x hx
      · exact outS_byte _ _ x hx
/-! the program's own reading: bit by bit -/
def decI : List Int → List Int → Int → Int → Option (List Int)
  | [], out, _, _ => some out
  | x :: r, out, b, m => if dv x < 0 then none else if m = 0 then decI r out (b * 64 + dv x) 6 else if m = 6 then decI r (out ++ [(b * 64 + dv x) / 16 % 256]) ((b * 64 + dv x) % 16) 4 else if m = 4 then decI r (out ++ [(b * 64 + dv x) / 4 % 256]) ((b * 64 + dv x) % 4) 2 else decI r (out ++ [(b * 64 + dv x) % 256]) 0 0
theorem or_all : ∀ b : Fin 64, ∀ t : Fin 64, Go.bits .or .i64 ((b.val : Int) * 64) t.val = b.val * 64 + t.val := by decide +kernel
theorem or_eq (b t : Int) (hb : 0 ≤ b ∧ b < 64) (ht : 0 ≤ t ∧ t < 64) : Go.bits .or .i64 (wrap64 (b * 64)) t = b * 64 + t := by
  rw [wrap64_in (by omega)]
  have := or_all ⟨b.toNat, by omega⟩ ⟨t.toNat, by omega⟩
  simpa [Int.toNat_of_nonneg hb.1, Int.toNat_of_nonneg ht.1] using this
theorem sh_all : ∀ h : Fin 64, ∀ l : Fin 64, (shr .i64 ((h.val : Int) * 64 + l.val) 4 = ((h.val : Int) * 64 + l.val) / 16 ∧ Go.bits .and .i64 ((h.val : Int) * 64 + l.val) (wrap64 ((shl .i64 1 4) - 1)) = ((h.val : Int) * 64 + l.val) % 16) ∧ (shr .i64 ((h.val : Int) * 64 + l.val) 2 = ((h.val : Int) * 64 + l.val) / 4 ∧ Go.bits .and .i64 ((h.val : Int) * 64 + l.val) (wrap64 ((shl .i64 1 2) - 1)) = ((h.val : Int) * 64 + l.val) % 4) ∧ (shr .i64 ((h.val : Int) * 64 + l.val) 0 = ((h.val : Int) * 64 + l.val) ∧ Go.bits .and .i64 ((h.val : Int) * 64 + l.val) (wrap64 ((shl .i64 1 0) - 1)) = 0) := by decide +kernel
theorem sh_eq (b x : Int) (hb : 0 ≤ b ∧ b < 64) (hx : 0 ≤ x ∧ x < 64) : (shr .i64 (b * 64 + x) 4 = (b * 64 + x) / 16 ∧ Go.bits .and .i64 (b * 64 + x) (wrap64 ((shl .i64 1 4) - 1)) = (b * 64 + x) % 16) ∧ (shr .i64 (b * 64 + x) 2 = (b * 64 + x) / 4 ∧ Go.bits .and .i64 (b * 64 + x) (wrap64 ((shl .i64 1 2) - 1)) = (b * 64 + x) % 4) ∧ (shr .i64 (b * 64 + x) 0 = b * 64 + x ∧ Go.bits .and .i64 (b * 64 + x) (wrap64 ((shl .i64 1 0) - 1)) = 0) := by
  have := sh_all ⟨b.toNat, by omega⟩ ⟨x.toNat, by omega⟩
  rw [show ((⟨b.toNat, by omega⟩ : Fin 64).val : Int) = b from Int.toNat_of_nonneg hb.1, show ((⟨x.toNat, by omega⟩ : Fin 64).val : Int) = x from Int.toNat_of_nonneg hx.1] at this
  exact this
theorem decI_0 (x v : Int) (r out : List Int) (b : Int) (h : dv x = v) (h0 : 0 ≤ v) : decI (x :: r) out b 0 = decI r out (b * 64 + v) 6 := by rw [decI, h, if_neg (by omega), if_pos rfl]
theorem decI_6 (x v : Int) (r out : List Int) (b : Int) (h : dv x = v) (h0 : 0 ≤ v) : decI (x :: r) out b 6 = decI r (out ++ [(b * 64 + v) / 16 % 256]) ((b * 64 + v) % 16) 4 := by rw [decI, h, if_neg (by omega), if_neg (by decide), if_pos rfl]
theorem decI_4 (x v : Int) (r out : List Int) (b : Int) (h : dv x = v) (h0 : 0 ≤ v) : decI (x :: r) out b 4 = decI r (out ++ [(b * 64 + v) / 4 % 256]) ((b * 64 + v) % 4) 2 := by rw [decI, h, if_neg (by omega), if_neg (by decide), if_neg (by decide), if_pos rfl]
theorem decI_2 (x v : Int) (r out : List Int) (b : Int) (h : dv x = v) (h0 : 0 ≤ v) : decI (x :: r) out b 2 = decI r (out ++ [(b * 64 + v) % 256]) 0 0 := by rw [decI, h, if_neg (by omega), if_neg (by decide), if_neg (by decide), if_neg (by decide)]
theorem decI_ok : ∀ (L out o : List Int) (b m : Int), decI L out b m = some o → (∀ x ∈ out, 0 ≤ x ∧ x ≤ 255) → (∀ x ∈ o, 0 ≤ x ∧ x ≤ 255) ∧ o.length ≤ out.length + L.length
  | [], out, o, b, m, h, hb => by simp only [decI, Option.some.injEq] at h; subst h; exact ⟨hb, by omega⟩
  | x :: r, out, o, b, m, h, hb => by
    have ho : ∀ z : Int, ∀ y ∈ out ++ [z % 256], 0 ≤ y ∧ y ≤ 255 := by
      intro z y hy
      rcases List.mem_append.1 hy with hy | hy
      · exact hb y hy
      · rw [List.mem_singleton] at hy; omega
    rw [decI] at h
    split at h
    · cases h
    · split at h
      · have := decI_ok r out o _ _ h hb
        exact ⟨this.1, by have := this.2; rw [List.length_cons]; omega⟩
      · split at h
        · have := decI_ok r _ o _ _ h (ho _)
          exact ⟨this.1, by have := this.2; rw [List.length_append, List.length_singleton] at this; rw [List.length_cons]; omega⟩
        · split at h
          · have := decI_ok r _ o _ _ h (ho _)
            exact ⟨this.1, by have := this.2; rw [List.length_append, List.length_singleton] at this; rw [List.length_cons]; omega⟩
          · have := decI_ok r _ o _ _ h (ho _)
            exact ⟨this.1, by have := this.2; rw [List.length_append, List.length_singleton] at this; rw [List.length_cons]; omega⟩
theorem impl_baseBytes.l0_eq (s t : ByteArray) (ht : t.size ≤ 500000) : ∀ (n k i : Nat) (out : List Int) (b m : Int), t.size = i + n → n < k → (∀ x ∈ out, 0 ≤ x ∧ x ≤ 255) → out.length ≤ i → ((m = 0 ∧ b = 0) ∨ (m = 6 ∧ 0 ≤ b ∧ b < 64) ∨ (m = 4 ∧ 0 ≤ b ∧ b < 16) ∨ (m = 2 ∧ 0 ≤ b ∧ b < 4)) →
    impl_baseBytes.l0 k s t out b m (t.size : Int) (i : Int) = some (match decI ((bytesOf t).drop i) out b m with | none => ([], false) | some o => (o, decide (strOfNums (impl_baseText.q o) = s)))
  | _, 0, _, _, _, _, _, h, _, _, _ => absurd h (by omega)
  | 0, k + 1, i, out, b, m, hi, _, hb, hl, _ => by
    rw [impl_baseBytes.l0, if_neg (by omega), List.drop_eq_nil_of_le (by rw [bytesOf_length]; omega), impl_baseText_eq out (by omega) hb, Option.bind_some, text_eq]
    rfl
  | n + 1, k + 1, i, out, b, m, hi, h, hb, hl, hm => by
    have w1 : wrap64 ((i : Int) + 1) = ((i + 1 : Nat) : Int) := by rw [wrap64_in (by omega)]; omega
    have hr := dv_range (bt t (i : Int))
    have ho : ∀ z : Int, ∀ y ∈ out ++ [z % 256], 0 ≤ y ∧ y ≤ 255 := by
      intro z y hy
      rcases List.mem_append.1 hy with hy | hy
      · exact hb y hy
      · rw [List.mem_singleton] at hy; omega
    have hol : ∀ z : Int, (out ++ [z % 256]).length ≤ i + 1 := by intro z; rw [List.length_append, List.length_singleton]; omega
    have hx := ix_eq (bt t (i : Int)) (bt_range t _)
    have g1 : (i : Int) < (t.size : Int) := by omega
    have g2 : (0 : Int) ≤ (i : Int) := by omega
    have g3 : out.length < 140737488355328 := by omega
    unfold digT at hx
    rw [impl_baseBytes.l0, if_pos g1, if_pos g2, if_pos g1, hx, Option.bind_some, w1, drop_btD t i (by omega), decI]
    generalize dv (bt t (i : Int)) = x at hr
    by_cases c : x < 0
    · rw [if_pos c, if_pos c]
    · rw [if_neg c, if_neg c]
      have q60 : wrap64 ((0 : Int) + 6) = 6 := (wrap64_in (by omega)).trans (by decide)
      have q66 : wrap64 ((6 : Int) + 6) = 12 := (wrap64_in (by omega)).trans (by decide)
      have q64 : wrap64 ((4 : Int) + 6) = 10 := (wrap64_in (by omega)).trans (by decide)
      have q62 : wrap64 ((2 : Int) + 6) = 8 := (wrap64_in (by omega)).trans (by decide)
      have q12 : wrap64 ((12 : Int) - 8) = 4 := (wrap64_in (by omega)).trans (by decide)
      have q10 : wrap64 ((10 : Int) - 8) = 2 := (wrap64_in (by omega)).trans (by decide)
      have q8 : wrap64 ((8 : Int) - 8) = 0 := (wrap64_in (by omega)).trans (by decide)
      rcases hm with ⟨rfl, rfl⟩ | ⟨rfl, h1, h2⟩ | ⟨rfl, h1, h2⟩ | ⟨rfl, h1, h2⟩
      · rw [or_eq 0 x (by omega) (by omega), q60, if_neg (by decide), if_pos rfl]
        exact impl_baseBytes.l0_eq s t ht n k (i + 1) out _ 6 (by omega) (by omega) hb (by omega) (.inr (.inl ⟨rfl, by omega, by omega⟩))
      · obtain ⟨⟨e1, e2⟩, _, _⟩ := sh_eq b x (by omega) (by omega)
        rw [or_eq b x (by omega) (by omega), q66, q12, e1, e2, if_pos (by decide), if_pos (by decide), if_pos g3, if_neg (by decide), if_pos rfl]
        exact impl_baseBytes.l0_eq s t ht n k (i + 1) _ _ 4 (by omega) (by omega) (ho _) (hol _) (.inr (.inr (.inl ⟨rfl, by omega, by omega⟩)))
      · obtain ⟨_, ⟨e1, e2⟩, _⟩ := sh_eq b x (by omega) (by omega)
        rw [or_eq b x (by omega) (by omega), q64, q10, e1, e2, if_pos (by decide), if_pos (by decide), if_pos g3, if_neg (by decide), if_neg (by decide), if_pos rfl]
        exact impl_baseBytes.l0_eq s t ht n k (i + 1) _ _ 2 (by omega) (by omega) (ho _) (hol _) (.inr (.inr (.inr ⟨rfl, by omega, by omega⟩)))
      · obtain ⟨_, _, e1, e2⟩ := sh_eq b x (by omega) (by omega)
        rw [or_eq b x (by omega) (by omega), q62, q8, e1, e2, if_pos (by decide), if_pos (by decide), if_pos g3, if_neg (by decide), if_neg (by decide), if_neg (by decide)]
        exact impl_baseBytes.l0_eq s t ht n k (i + 1) _ 0 0 (by omega) (by omega) (ho _) (hol _) (.inl ⟨rfl, rfl⟩)
/-! both read what was told -/
def qd : List Int → List Int
  | [] => []
  | [a] => [impl_baseText.dg (a / 4 % 64), impl_baseText.dg (a % 4 * 16)]
  | [a, b] => [impl_baseText.dg (a / 4 % 64), impl_baseText.dg (a % 4 * 16 + b / 16), impl_baseText.dg (b % 16 * 4)]
  | a :: b :: c :: rest => impl_baseText.dg (a / 4 % 64) :: impl_baseText.dg (a % 4 * 16 + b / 16) :: impl_baseText.dg (b % 16 * 4 + c / 64) :: impl_baseText.dg (c % 64) :: qd rest
theorem qd_spec : ∀ (n : Nat) (D : List Int), D.length ≤ n → (∀ x ∈ D, 0 ≤ x ∧ x ≤ 255) → (∃ p, impl_baseText.q D = qd D ++ List.replicate p 61) ∧ (∀ x ∈ qd D, x ≠ 61) ∧ (∀ x ∈ impl_baseText.q D, 0 ≤ x ∧ x ≤ 255) ∧ (impl_baseText.q D).length % 4 = 0 ∧ (∀ out, decI (qd D) out 0 0 = some (out ++ D)) ∧ (∀ out, decS (impl_baseText.q D) out = some (out ++ D)) ∧ (impl_baseText.q D = [] → D = []) := by
  intro n
  induction n using Nat.strongRecOn with
  | _ n ih =>
    intro D hn hb
    match D, hn, hb with
    | [], _, _ => exact ⟨⟨0, rfl⟩, by simp [qd], by simp [impl_baseText.q], rfl, by simp [qd, decI], by simp [impl_baseText.q, decS], fun _ => rfl⟩
    | [a], _, hb =>
      have ha := hb a (by simp)
      have d0 := dg_dv (a / 4 % 64) (by omega)
      have d1 := dg_dv (a % 4 * 16) (by omega)
      have v1 : vS (impl_baseText.dg (a / 4 % 64)) (impl_baseText.dg (a % 4 * 16)) 61 61 2 = a * 65536 := by
        unfold vS
        rw [d0.1, d1.1, if_neg (by decide), if_neg (by decide)]
        omega
      refine ⟨⟨2, rfl⟩, ?_, ?_, by simp [impl_baseText.q], ?_, ?_, by simp [impl_baseText.q]⟩
      · intro x hx
        simp only [qd, List.mem_cons, List.not_mem_nil, or_false] at hx
        rcases hx with rfl | rfl
        · exact d0.2.1
        · exact d1.2.1
      · intro x hx
        simp only [impl_baseText.q, List.mem_cons, List.not_mem_nil, or_false] at hx
        rcases hx with rfl | rfl | rfl | rfl
        · exact d0.2.2
        · exact d1.2.2
        · decide
        · decide
      · intro out
        rw [qd, decI_0 _ _ _ _ _ d0.1 (by omega), decI_6 _ _ _ _ _ d1.1 (by omega), decI]
        congr 3
        omega
      · intro out
        rw [impl_baseText.q, decS]
        have hnS : nS (61 : Int) 61 (([] : List Int) = []) = 2 := by unfold nS; rfl
        rw [hnS, v1, if_neg (by unfold badS; rw [d0.1, d1.1]; omega)]
        show some (out ++ [a * 65536 / 65536 % 256]) = _
        congr 3
        omega
    | [a, b], _, hb =>
      have ha := hb a (by simp)
      have hb2 := hb b (by simp)
      have d0 := dg_dv (a / 4 % 64) (by omega)
      have d1 := dg_dv (a % 4 * 16 + b / 16) (by omega)
      have d2 := dg_dv (b % 16 * 4) (by omega)
      have v1 : vS (impl_baseText.dg (a / 4 % 64)) (impl_baseText.dg (a % 4 * 16 + b / 16)) (impl_baseText.dg (b % 16 * 4)) 61 3 = a * 65536 + b * 256 := by
        unfold vS
        rw [d0.1, d1.1, if_pos (by decide), if_neg (by decide), d2.1]
        omega
      refine ⟨⟨1, rfl⟩, ?_, ?_, by simp [impl_baseText.q], ?_, ?_, by simp [impl_baseText.q]⟩
      · intro x hx
        simp only [qd, List.mem_cons, List.not_mem_nil, or_false] at hx
        rcases hx with rfl | rfl | rfl
        · exact d0.2.1
        · exact d1.2.1
        · exact d2.2.1
      · intro x hx
        simp only [impl_baseText.q, List.mem_cons, List.not_mem_nil, or_false] at hx
        rcases hx with rfl | rfl | rfl | rfl
        · exact d0.2.2
        · exact d1.2.2
        · exact d2.2.2
        · decide
      · intro out
        rw [qd, decI_0 _ _ _ _ _ d0.1 (by omega), decI_6 _ _ _ _ _ d1.1 (by omega), decI_4 _ _ _ _ _ d2.1 (by omega), decI, List.append_assoc]
        congr 2
        simp only [List.singleton_append]
        congr 2
        · omega
        · congr 1
          omega
      · intro out
        rw [impl_baseText.q, decS]
        have hnS : nS (impl_baseText.dg (b % 16 * 4)) 61 (([] : List Int) = []) = 3 := by unfold nS; rw [if_pos ⟨rfl, rfl⟩, if_neg d2.2.1]
        rw [hnS, v1, if_neg (by unfold badS; rw [d0.1, d1.1, d2.1]; omega)]
        show some (out ++ [(a * 65536 + b * 256) / 65536 % 256, (a * 65536 + b * 256) / 256 % 256]) = _
        congr 2
        congr 1
        · omega
        · congr 1
          omega
    | a :: b :: c :: r, hn, hb =>
      simp only [List.length_cons] at hn
      have ha := hb a (by simp)
      have hb2 := hb b (by simp)
      have hc := hb c (by simp)
      obtain ⟨⟨p, i1⟩, i2, i3, i4, i5, i6, i7⟩ := ih r.length (by omega) r (Nat.le_refl _) (fun x hx => hb x (by simp [hx]))
      have d0 := dg_dv (a / 4 % 64) (by omega)
      have d1 := dg_dv (a % 4 * 16 + b / 16) (by omega)
      have d2 := dg_dv (b % 16 * 4 + c / 64) (by omega)
      have d3 := dg_dv (c % 64) (by omega)
      have v1 : vS (impl_baseText.dg (a / 4 % 64)) (impl_baseText.dg (a % 4 * 16 + b / 16)) (impl_baseText.dg (b % 16 * 4 + c / 64)) (impl_baseText.dg (c % 64)) 4 = a * 65536 + b * 256 + c := by
        unfold vS
        rw [d0.1, d1.1, if_pos (by decide), if_pos (by decide), d2.1, d3.1]
        omega
      refine ⟨⟨p, by simp only [impl_baseText.q, qd, i1, List.cons_append]⟩, ?_, ?_, ?_, ?_, ?_, by simp [impl_baseText.q]⟩
      · intro x hx
        simp only [qd, List.mem_cons] at hx
        rcases hx with rfl | rfl | rfl | rfl | hx
        · exact d0.2.1
        · exact d1.2.1
        · exact d2.2.1
        · exact d3.2.1
        · exact i2 x hx
      · intro x hx
        simp only [impl_baseText.q, List.mem_cons] at hx
        rcases hx with rfl | rfl | rfl | rfl | hx
        · exact d0.2.2
        · exact d1.2.2
        · exact d2.2.2
        · exact d3.2.2
        · exact i3 x hx
      · simp only [impl_baseText.q, List.length_cons]
        omega
      · intro out
        rw [qd, decI_0 _ _ _ _ _ d0.1 (by omega), decI_6 _ _ _ _ _ d1.1 (by omega), decI_4 _ _ _ _ _ d2.1 (by omega), decI_2 _ _ _ _ _ d3.1 (by omega), i5]
        have h1 : ((0 * 64 + a / 4 % 64) * 64 + (a % 4 * 16 + b / 16)) / 16 % 256 = a := by omega
        have h2 : (((0 * 64 + a / 4 % 64) * 64 + (a % 4 * 16 + b / 16)) % 16 * 64 + (b % 16 * 4 + c / 64)) / 4 % 256 = b := by omega
        have h3 : ((((0 * 64 + a / 4 % 64) * 64 + (a % 4 * 16 + b / 16)) % 16 * 64 + (b % 16 * 4 + c / 64)) % 4 * 64 + c % 64) % 256 = c := by omega
        rw [h1, h2, h3]
        simp
      · intro out
        simp only [impl_baseText.q, decS]
        have hnS : nS (impl_baseText.dg (b % 16 * 4 + c / 64)) (impl_baseText.dg (c % 64)) (impl_baseText.q r = []) = 4 := by unfold nS; rw [if_neg (fun e => d3.2.1 e.2)]
        rw [hnS, v1, if_neg (by unfold badS; rw [d0.1, d1.1, d2.1, d3.1]; omega), i6]
        have h1 : (a * 65536 + b * 256 + c) / 65536 % 256 = a := by omega
        have h2 : (a * 65536 + b * 256 + c) / 256 % 256 = b := by omega
        have h3 : (a * 65536 + b * 256 + c) % 256 = c := by omega
        show some ((out ++ [(a * 65536 + b * 256 + c) / 65536 % 256, (a * 65536 + b * 256 + c) / 256 % 256, (a * 65536 + b * 256 + c) % 256]) ++ r) = _
        rw [h1, h2, h3, List.append_assoc]
        rfl
theorem trim_len (l : List UInt8) (c : UInt8) : (Lib.trimRightB l c).length ≤ l.length := by
  unfold Lib.trimRightB
  rw [List.length_reverse]
  refine Nat.le_trans (List.dropWhile_sublist _).length_le ?_
  rw [List.length_reverse]
  exact Nat.le_refl _
theorem drop_rep (X : List UInt8) (hX : ∀ x ∈ X, x ≠ 61) : ∀ p : Nat, (List.replicate p (61 : UInt8) ++ X).dropWhile (· == 61) = X
  | 0 => by
    rw [List.replicate_zero, List.nil_append]
    cases X with
    | nil => rfl
    | cons x r => rw [List.dropWhile_cons_of_neg (by simpa using hX x (by simp))]
  | p + 1 => by
    rw [List.replicate_succ, List.cons_append, List.dropWhile_cons_of_pos (by simp)]
    exact drop_rep X hX p
theorem u8_ne (x : Int) (h : 0 ≤ x ∧ x ≤ 255) (hx : x ≠ 61) : UInt8.ofNat x.toNat ≠ 61 := by
  intro e
  have := u8_eq x 61 h (by omega)
  rw [show (61 : Int).toNat.toUInt8 = (61 : UInt8) from rfl, e, beq_self_eq_true] at this
  exact hx (of_decide_eq_true this.symm)
theorem trim_qd (Q : List Int) (hQ : ∀ x ∈ Q, x ≠ 61) (hB : ∀ x ∈ Q, 0 ≤ x ∧ x ≤ 255) (p : Nat) : strings_TrimRight.f (strOfNums (Q ++ List.replicate p 61)) (⟨#[61]⟩ : ByteArray) = if (strOfNums (Q ++ List.replicate p 61)).size ≤ 9223372036854775807 then some (strOfNums Q) else none := by
  unfold strings_TrimRight.f
  have h1 : (⟨#[61]⟩ : ByteArray).size = 1 := rfl
  have h2 : bt (⟨#[61]⟩ : ByteArray) 0 = 61 := rfl
  have h3 : (61 : Int).toNat.toUInt8 = (61 : UInt8) := rfl
  rw [h1, h2, h3]
  have hd : (strOfNums (Q ++ List.replicate p 61)).data.toList = Q.map (fun n : Int => UInt8.ofNat n.toNat) ++ List.replicate p (61 : UInt8) := by
    simp [strOfNums]
  by_cases c : (strOfNums (Q ++ List.replicate p 61)).size ≤ 9223372036854775807
  · rw [if_pos ⟨rfl, by decide, c⟩, if_pos c, hd]
    unfold Lib.trimRightB
    rw [List.reverse_append, List.reverse_replicate, drop_rep _ (fun x hx => by
      rw [List.mem_reverse] at hx
      obtain ⟨y, hy, rfl⟩ := List.mem_map.1 hx
      exact u8_ne y (hB y hy) (hQ y hy)) p, List.reverse_reverse]
    simp [strOfNums]
  · rw [if_neg c, if_neg (fun e => c e.2.2)]
theorem q_size : ∀ (n : Nat) (L : List Int), L.length ≤ n → (impl_baseText.q L).length = (L.length + 2) / 3 * 4 := by
  intro n
  induction n using Nat.strongRecOn with
  | _ n ih =>
    intro L h
    match L, h with
    | [], _ => simp [impl_baseText.q]
    | [a], _ => simp [impl_baseText.q]
    | [a, b], _ => simp [impl_baseText.q]
    | a :: b :: c :: r, h =>
      simp only [List.length_cons] at h
      have := ih r.length (by omega) r (Nat.le_refl _)
      simp only [impl_baseText.q, List.length_cons]
      omega
theorem dec_yes (D : List Int) (hDb : ∀ x ∈ D, 0 ≤ x ∧ x ≤ 255) (hq : (impl_baseText.q D).length ≤ 1600) (k : Nat) (hk : 1090000 < k) : spec_l1Decode.f k (strOfNums (impl_baseText.q D)) = some (D, true) ∧ impl_baseBytes.f k (strOfNums (impl_baseText.q D)) = some (D, true) := by
  obtain ⟨⟨p, i1⟩, i2, i3, i4, i5, i6, _⟩ := qd_spec D.length D (Nat.le_refl _) hDb
  have hnb : ∀ x ∈ ([] : List Int), 0 ≤ x ∧ x ≤ 255 := by simp
  have hDq := bytesOf_strOfNums _ i3
  have hsz := strOfNums_size (impl_baseText.q D)
  have hqb : ∀ x ∈ qd D, 0 ≤ x ∧ x ≤ 255 := fun x hx => i3 x (by rw [i1]; exact List.mem_append_left _ hx)
  have hql : (qd D).length ≤ 1600 := by
    rw [i1, List.length_append] at hq
    omega
  have et : strings_TrimRight.f (strOfNums (impl_baseText.q D)) (⟨#[61]⟩ : ByteArray) = some (strOfNums (qd D)) := by
    have := trim_qd (qd D) i2 hqb p
    rw [← i1, if_pos (by omega)] at this
    exact this
  have c4 : (((strOfNums (impl_baseText.q D)).size : Int) % 4) = 0 := by omega
  have e1 := spec_l1Decode.l0_eq (strOfNums (impl_baseText.q D)) (by omega) ((impl_baseText.q D).length / 4) k 0 [] (by omega) (by omega) hnb (Nat.zero_le _)
  have e2 := impl_baseBytes.l0_eq (strOfNums (impl_baseText.q D)) (strOfNums (qd D)) (by rw [strOfNums_size]; omega) (qd D).length k 0 [] 0 0 (by rw [strOfNums_size]; omega) (by omega) hnb (Nat.zero_le _) (.inl ⟨rfl, rfl⟩)
  rw [show ((0 : Nat) : Int) = 0 from rfl, List.drop_zero, hDq, i6, List.nil_append] at e1
  rw [show ((0 : Nat) : Int) = 0 from rfl, List.drop_zero, bytesOf_strOfNums _ hqb, i5, List.nil_append] at e2
  unfold spec_l1Decode.f impl_baseBytes.f
  rw [if_pos c4, if_pos c4, e1, et, Option.bind_some, e2]
  simp only [decide_true]
  exact ⟨trivial, trivial⟩
theorem dec_back (D : List Int) (hDb : ∀ x ∈ D, 0 ≤ x ∧ x ≤ 255) (hl : D.length ≤ 400) (k : Nat) (hk : 1090000 < k) : impl_DecodeBase.f k (strOfNums (impl_baseText.q D)) = some (0, D) := by
  have hq := q_size D.length D (Nat.le_refl _)
  have hsz := strOfNums_size (impl_baseText.q D)
  unfold impl_DecodeBase.f
  rw [if_neg (by omega), (dec_yes D hDb (by omega) k hk).2, Option.bind_some]
  simp only [if_true]
  rw [if_neg (by omega)]
theorem decBase_both (s : ByteArray) : ∃ r : Int × List Int, r.2.length ≤ 400 ∧ (r.1 = 0 → (∀ x ∈ r.2, 0 ≤ x ∧ x ≤ 255) ∧ s = strOfNums (impl_baseText.q r.2)) ∧ ∀ k, 1090000 < k → spec_DecodeBase.f k s = some r ∧ impl_DecodeBase.f k s = some r := by
  unfold spec_DecodeBase.f impl_DecodeBase.f
  by_cases c : (s.size : Int) > 1600
  · exact ⟨(2, []), Nat.zero_le _, fun h => absurd h (by decide), fun k _ => by rw [if_pos c, if_pos c]; exact ⟨rfl, rfl⟩⟩
  · simp only [if_neg c]
    have hbl := bytesOf_length s
    by_cases hD : ∃ D : List Int, (∀ x ∈ D, 0 ≤ x ∧ x ≤ 255) ∧ bytesOf s = impl_baseText.q D
    · obtain ⟨D, hDb, hDq⟩ := hD
      have hs : s = strOfNums (impl_baseText.q D) := by rw [← hDq, strOfNums_bytesOf]
      have hy := dec_yes D hDb (by rw [← hDq, hbl]; omega)
      rw [← hs] at hy
      by_cases g : (D.length : Int) > 400
      · refine ⟨(2, []), Nat.zero_le _, fun h => absurd h (by decide), fun k hk => ?_⟩
        obtain ⟨h1, h2⟩ := hy k hk
        rw [h1, h2, Option.bind_some]
        simp only [if_true]
        rw [if_pos g]
        exact ⟨rfl, rfl⟩
      · refine ⟨(0, D), by simp only; omega, fun _ => ⟨hDb, hs⟩, fun k hk => ?_⟩
        obtain ⟨h1, h2⟩ := hy k hk
        rw [h1, h2, Option.bind_some]
        simp only [if_true]
        rw [if_neg g]
        exact ⟨rfl, rfl⟩
    · refine ⟨(7, []), Nat.zero_le _, fun h => absurd h (by decide), fun k hk => ?_⟩
      unfold spec_l1Decode.f impl_baseBytes.f
      by_cases c4 : ((s.size : Int) % 4) = 0
      · simp only [if_pos c4]
        obtain ⟨n, hn⟩ : ∃ n, s.size = 0 + 4 * n := ⟨s.size / 4, by omega⟩
        have hnb : ∀ x ∈ ([] : List Int), 0 ≤ x ∧ x ≤ 255 := by simp
        have hno : ∀ o : List Int, (∀ x ∈ o, 0 ≤ x ∧ x ≤ 255) → decide (strOfNums (impl_baseText.q o) = s) = false := by
          intro o ho
          refine decide_eq_false (fun e => hD ⟨o, ho, ?_⟩)
          rw [← e, bytesOf_strOfNums _ (qd_spec o.length o (Nat.le_refl _) ho).2.2.1]
        have e1 := spec_l1Decode.l0_eq s (by omega) n k 0 [] hn (by omega) hnb (Nat.zero_le _)
        rw [show ((0 : Nat) : Int) = 0 from rfl] at e1
        have hS : ∃ o, spec_l1Decode.l0 k s [] 0 = some (o, false) := by
          rw [e1]
          cases hc : decS ((bytesOf s).drop 0) [] with
          | none => exact ⟨[], rfl⟩
          | some o => exact ⟨o, by rw [← hno o (decS_ok _ _ [] o (Nat.le_refl _) hc hnb).1]⟩
        have et : ∃ t : ByteArray, t.size ≤ 1600 ∧ strings_TrimRight.f s (⟨#[61]⟩ : ByteArray) = some t := by
          unfold strings_TrimRight.f
          rw [if_pos ⟨rfl, by decide, by omega⟩]
          refine ⟨_, ?_, rfl⟩
          have := trim_len s.data.toList (bt (⟨#[61]⟩ : ByteArray) 0).toNat.toUInt8
          show (Lib.trimRightB _ _).toArray.size ≤ _
          rw [List.size_toArray]
          have hsz : s.data.toList.length = s.size := by rw [Array.length_toList]; rfl
          omega
        obtain ⟨t, htl, et⟩ := et
        have e2 := impl_baseBytes.l0_eq s t (by omega) t.size k 0 [] 0 0 (by omega) (by omega) hnb (Nat.zero_le _) (.inl ⟨rfl, rfl⟩)
        rw [show ((0 : Nat) : Int) = 0 from rfl] at e2
        have hI : ∃ o, impl_baseBytes.l0 k s t [] 0 0 (t.size : Int) 0 = some (o, false) := by
          rw [e2]
          cases hc : decI ((bytesOf t).drop 0) [] 0 0 with
          | none => exact ⟨[], rfl⟩
          | some o => exact ⟨o, by rw [← hno o (decI_ok _ [] o 0 0 hc hnb).1]⟩
        obtain ⟨o1, h1⟩ := hS
        obtain ⟨o2, h2⟩ := hI
        rw [h1, et, Option.bind_some, Option.bind_some, h2]
        exact ⟨rfl, rfl⟩
      · simp only [if_neg c4]
        exact ⟨rfl, rfl⟩
theorem byte_wf {l : List Int} (h : ∀ x ∈ l, (Lit.int .u8 x).wf = true) : ∀ x ∈ l, 0 ≤ x ∧ x ≤ 255 := by
  intro x hx
  have h1 := h x hx
  unfold Lit.wf at h1
  rw [Bool.and_eq_true, decide_eq_true_eq, decide_eq_true_eq, show IntKind.u8.min = 0 from by decide, show IntKind.u8.max = 255 from by decide] at h1
  exact h1
theorem rd_byte {l : List Int} (h : ∀ x ∈ l, 0 ≤ x ∧ x ≤ 255) (j : Int) : 0 ≤ rd l j ∧ rd l j ≤ 255 := by
  unfold rd
  rw [List.getD_eq_getElem?_getD]
  cases hg : l[j.toNat]? with
  | none => simp
  | some v =>
    have := h v (List.mem_of_getElem? hg)
    simpa using this
theorem tmod_in (x n : Int) (hx : 0 ≤ x) (hn : 1 ≤ n) : 0 ≤ Int.tmod x n ∧ Int.tmod x n < n :=
  ⟨Int.tmod_nonneg _ hx, Int.tmod_lt_of_pos _ (by omega)⟩
/-- A draw tells a number below its bound. -/
theorem spec_l1Next_eq (l : List Int) (hB : ∀ x ∈ l, 0 ≤ x ∧ x ≤ 255) (hl : l.length ≤ 1048576) (i n : Int) (hi : 0 ≤ i ∧ i ≤ 4294967296) (hn : 1 ≤ n) : ∃ v, spec_l1Next.f l i n = some (v, i + 1) ∧ 0 ≤ v ∧ v < n := by
  unfold spec_l1Next.f
  have a1 : wrap64 (i + 1) = i + 1 := wrap64_in (by omega)
  have a2 : wrap64 (i + 1 - 1) = i := by rw [show i + 1 - 1 = i by omega]; exact wrap64_in (by omega)
  rw [a1, a2, if_neg (by omega)]
  by_cases h0 : (l.length : Int) = 0
  · have a3 : wrap64 (i * 7) = i * 7 := wrap64_in (by omega)
    rw [if_pos h0, if_neg (by omega), a3]
    exact ⟨_, rfl, tmod_in _ _ (by omega) hn⟩
  · rw [if_neg h0]
    have h1 := tmod_in i (l.length : Int) hi.1 (by omega)
    rw [if_pos h1.1, if_pos h1.2]
    have hd : 0 ≤ Int.tdiv i (l.length : Int) ∧ Int.tdiv i (l.length : Int) ≤ i := by
      rw [Int.tdiv_eq_ediv_of_nonneg hi.1]
      exact ⟨Int.ediv_nonneg hi.1 (by omega), Int.ediv_le_self _ hi.1⟩
    have hr1 := rd_byte hB (Int.tmod i (l.length : Int))
    generalize rd l (Int.tmod i (l.length : Int)) = r1 at hr1
    generalize Int.tdiv i (l.length : Int) = q at hd
    have b0 : wrap64 r1 = r1 := wrap64_in (by omega)
    have b1 : wrap64 q = q := wrap64_in (by omega)
    have b2 : wrap64 (q * 37) = q * 37 := wrap64_in (by omega)
    have b3 : wrap64 (r1 + q * 37) = r1 + q * 37 := wrap64_in (by omega)
    rw [b0, b1, b2, b3]
    by_cases h2 : n > 200
    · rw [if_pos h2, a1]
      have h3 := tmod_in (i + 1) (l.length : Int) (by omega) (by omega)
      rw [if_pos h3.1, if_pos h3.2, if_neg (by omega)]
      have hr2 := rd_byte hB (Int.tmod (i + 1) (l.length : Int))
      generalize rd l (Int.tmod (i + 1) (l.length : Int)) = r2 at hr2
      have c0 : wrap64 r2 = r2 := wrap64_in (by omega)
      have c1 : wrap64 ((r1 + q * 37) * 251) = (r1 + q * 37) * 251 := wrap64_in (by omega)
      have c2 : wrap64 (r2 * 13) = r2 * 13 := wrap64_in (by omega)
      have c3 : wrap64 ((r1 + q * 37) * 251 + r2 * 13) = (r1 + q * 37) * 251 + r2 * 13 := wrap64_in (by omega)
      have c4 : wrap64 ((r1 + q * 37) * 251 + r2 * 13 + i) = (r1 + q * 37) * 251 + r2 * 13 + i := wrap64_in (by omega)
      rw [c0, c1, c2, c3, c4]
      exact ⟨_, rfl, tmod_in _ _ (by omega) hn⟩
    · rw [if_neg h2, if_neg (by omega)]
      exact ⟨_, rfl, tmod_in _ _ (by omega) hn⟩
theorem spec_l1Pick_eq (l : List Int) (hB : ∀ x ∈ l, 0 ≤ x ∧ x ≤ 255) (hl : l.length ≤ 1048576) (i : Int) (hi : 0 ≤ i ∧ i ≤ 4294967296) (L : List Int) (hL : 1 ≤ L.length) : ∃ j : Nat, j < L.length ∧ spec_l1Pick.f l i L = some (rd L (j : Int), i + 1) := by
  obtain ⟨v, hv, h0, h1⟩ := spec_l1Next_eq l hB hl i (L.length : Int) hi (by omega)
  unfold spec_l1Pick.f
  rw [hv, Option.bind_some]
  refine ⟨v.toNat, by omega, ?_⟩
  rw [Int.toNat_of_nonneg h0]
  simp only
  rw [if_pos h0, if_pos h1]
theorem spec_l1Chance_eq (l : List Int) (hB : ∀ x ∈ l, 0 ≤ x ∧ x ≤ 255) (hl : l.length ≤ 1048576) (i n : Int) (hi : 0 ≤ i ∧ i ≤ 4294967296) (hn : 1 ≤ n) : ∃ b, spec_l1Chance.f l i n = some (b, i + 1) := by
  obtain ⟨v, hv, _, _⟩ := spec_l1Next_eq l hB hl i n hi hn
  unfold spec_l1Chance.f
  rw [hv]
  exact ⟨_, rfl⟩
theorem spec_l1Some.l0_eq (l : List Int) (hB : ∀ x ∈ l, 0 ≤ x ∧ x ≤ 255) (hl : l.length ≤ 1048576) : ∀ (n k : Nat) (acc : List Int) (i : Int), n < k → (0 ≤ i ∧ i + 2 * n ≤ 4294967296) → acc.length + n ≤ 1000 → (∀ x ∈ acc, 0 ≤ x ∧ x ≤ 255) → ∃ out, spec_l1Some.l0 k (n : Int) acc l i = some (out, i + 2 * n) ∧ out.length = acc.length + n ∧ ∀ x ∈ out, 0 ≤ x ∧ x ≤ 255
  | _, 0, _, _, h, _, _, _ => absurd h (by omega)
  | 0, k + 1, acc, i, _, hi, ha, hx => by
    unfold spec_l1Some.l0
    rw [if_neg (by omega)]
    exact ⟨acc, by simp, by simp, hx⟩
  | n + 1, k + 1, acc, i, h, hi, ha, hx => by
    obtain ⟨v, hv, h0, h1⟩ := spec_l1Next_eq l hB hl i 256 (by omega) (by omega)
    obtain ⟨j, hj, hp⟩ := spec_l1Pick_eq l hB hl (i + 1) (by omega) ([v, 97, 32, 10, 61, 122] : List Int) (by simp)
    have hw : wrap64 (((n + 1 : Nat) : Int) - 1) = (n : Int) := by rw [wrap64_in (by omega)]; omega
    unfold spec_l1Some.l0
    rw [if_pos (by omega), hv, Option.bind_some, hp, Option.bind_some, if_pos (by omega), hw]
    generalize rd [v, 97, 32, 10, 61, 122] (j : Int) = y
    obtain ⟨out, ho, hlen, hb⟩ := spec_l1Some.l0_eq l hB hl n k (acc ++ [y % 256]) (i + 1 + 1) (by omega) (by omega) (by simp; omega) (by
      intro x hx'
      rcases List.mem_append.1 hx' with h' | h'
      · exact hx x h'
      · rw [List.mem_singleton.1 h']; omega)
    refine ⟨out, ?_, by simp at hlen; omega, hb⟩
    rw [ho]
    congr 2
    omega
theorem spec_l1Some_eq (l : List Int) (hB : ∀ x ∈ l, 0 ≤ x ∧ x ≤ 255) (hl : l.length ≤ 1048576) (n k : Nat) (i : Int) (hk : n < k) (hi : 0 ≤ i ∧ i + 2 * n ≤ 4294967296) (hn : n ≤ 1000) : ∃ out, spec_l1Some.f k l i (n : Int) = some (out, i + 2 * n) ∧ out.length = n ∧ ∀ x ∈ out, 0 ≤ x ∧ x ≤ 255 := by
  obtain ⟨out, h1, h2, h3⟩ := spec_l1Some.l0_eq l hB hl n k [] i hk hi (by simpa using hn) (by simp)
  exact ⟨out, h1, by simpa using h2, h3⟩
theorem spec_l1Long_eq (l : List Int) (hB : ∀ x ∈ l, 0 ≤ x ∧ x ≤ 255) (hl : l.length ≤ 1048576) (k : Nat) (i : Int) (hk : 16 ≤ k) (hi : 0 ≤ i ∧ i ≤ 1000000) : ∃ out j, spec_l1Long.f k l i = some (out, j) ∧ out.length ≤ 401 ∧ (∀ x ∈ out, 0 ≤ x ∧ x ≤ 255) ∧ i ≤ j ∧ j ≤ i + 40 := by
  obtain ⟨b, hb⟩ := spec_l1Chance_eq l hB hl i 30 (by omega) (by omega)
  unfold spec_l1Long.f
  rw [hb, Option.bind_some]
  cases b with
  | true =>
    obtain ⟨j, hj, hp⟩ := spec_l1Pick_eq l hB hl (i + 1) (by omega) ([400, 401] : List Int) (by decide)
    simp only [if_true]
    rw [hp, Option.bind_some]
    have h4 : rd [400, 401] (j : Int) = 400 ∨ rd [400, 401] (j : Int) = 401 := by
      have hj2 : j < 2 := hj
      rcases (by omega : j = 0 ∨ j = 1) with rfl | rfl
      · exact .inl rfl
      · exact .inr rfl
    simp only
    rw [if_pos (by omega), if_pos (by omega)]
    refine ⟨_, _, rfl, by simp; omega, ?_, by omega, by omega⟩
    intro x hx
    rw [(List.mem_replicate.1 hx).2]
    omega
  | false =>
    simp only [Bool.false_eq_true, if_false]
    obtain ⟨v, hv, h0, h1⟩ := spec_l1Next_eq l hB hl (i + 1) 14 (by omega) (by omega)
    obtain ⟨n, rfl⟩ := Int.eq_ofNat_of_zero_le h0
    obtain ⟨out, h2, h3, h4⟩ := spec_l1Some_eq l hB hl n k (i + 1 + 1) (by omega) (by omega) (by omega)
    rw [hv, Option.bind_some]
    simp only
    rw [h2]
    exact ⟨out, _, rfl, by omega, h4, by simp only; omega, by simp only; omega⟩
theorem spec_l1Bent_eq (l : List Int) (hB : ∀ x ∈ l, 0 ≤ x ∧ x ≤ 255) (hl : l.length ≤ 1048576) (i : Int) (hi : 0 ≤ i ∧ i ≤ 1000000) (L : List Int) (hL : L.length ≤ 1000000) : ∃ s j, spec_l1Bent.f l i L = some (s, j) ∧ s.size ≤ L.length + 4 := by
  obtain ⟨v, hv, h0, h1⟩ := spec_l1Next_eq l hB hl i 5 (by omega) (by omega)
  unfold spec_l1Bent.f
  rw [hv, Option.bind_some]
  simp only
  by_cases c0 : v = 0
  · rw [if_pos c0]
    by_cases c1 : (L.length : Int) > 0
    · obtain ⟨u, hu, u0, u1⟩ := spec_l1Next_eq l hB hl (i + 1) (L.length : Int) (by omega) (by omega)
      obtain ⟨j, hj, hp⟩ := spec_l1Pick_eq l hB hl (i + 1 + 1) (by omega) ([65, 61, 47, 32, 10, 200] : List Int) (by decide)
      rw [if_pos c1, hu, Option.bind_some]
      simp only
      rw [hp, Option.bind_some]
      simp only
      rw [if_pos u0, if_pos u1]
      exact ⟨_, _, rfl, by rw [strOfNums_size, List.length_set]; omega⟩
    · rw [if_neg c1]
      exact ⟨_, _, rfl, by rw [strOfNums_size]; omega⟩
  · rw [if_neg c0]
    by_cases c1 : v = 1
    · have w1 : wrap64 ((L.length : Int) + 1) = (L.length : Int) + 1 := wrap64_in (by omega)
      obtain ⟨u, hu, u0, u1⟩ := spec_l1Next_eq l hB hl (i + 1) ((L.length : Int) + 1) (by omega) (by omega)
      rw [if_pos c1, w1, hu, Option.bind_some]
      simp only
      rw [if_pos u0, if_pos (by omega)]
      exact ⟨_, _, rfl, by rw [strOfNums_size, List.length_take]; omega⟩
    · rw [if_neg c1]
      by_cases c2 : v = 2
      · obtain ⟨u, hu, u0, u1⟩ := spec_l1Next_eq l hB hl (i + 1) 6 (by omega) (by omega)
        have h6 : ∀ u : Fin 6, (rdOf ByteArray.empty [(⟨#[61]⟩ : ByteArray), (⟨#[61, 10]⟩ : ByteArray), (⟨#[32]⟩ : ByteArray), (⟨#[61, 52]⟩ : ByteArray), (⟨#[61, 61, 61, 61]⟩ : ByteArray), (⟨#[61, 51, 100]⟩ : ByteArray)] (u.val : Int)).size ≤ 4 := by decide
        have h7 := h6 ⟨u.toNat, by omega⟩
        simp only [Int.toNat_of_nonneg u0] at h7
        rw [if_pos c2, Option.bind_some, hu, Option.bind_some]
        simp only
        rw [if_pos u0, if_pos (by show u < 6; exact u1), if_pos (by omega), Option.bind_some, if_pos (by rw [bytesOf_length]; omega)]
        exact ⟨_, _, rfl, by rw [strOfNums_size, List.length_append, bytesOf_length]; omega⟩
      · rw [if_neg c2]
        exact ⟨_, _, rfl, by rw [strOfNums_size]; omega⟩
def plainB (x : Int) : Bool := decide (1 ≤ x) && decide (x ≤ 127)
theorem any_all (l : List Int) : (!(l.any impl_IsPlain.p)) = l.all plainB := by
  induction l with
  | nil => rfl
  | cons x xs ih =>
    rw [List.any_cons, List.all_cons, Bool.not_or, ih]
    congr 1
    unfold impl_IsPlain.p plainB
    rw [Bool.eq_iff_iff]
    simp only [Bool.not_eq_true', Bool.or_eq_false_iff, decide_eq_false_iff_not, Bool.and_eq_true, decide_eq_true_eq]
    omega
theorem within_eq (a b c : Int) : impl_within.f a b c = some (decide (b ≤ a ∧ a ≤ c)) := by
  unfold impl_within.f; by_cases h : a ≥ b <;> simp [h] <;> omega
theorem in_eq (a b c : Int) : spec_l1In.f a b c = some (decide (b ≤ a ∧ a ≤ c)) := by
  unfold spec_l1In.f; by_cases h : a ≥ b <;> simp [h] <;> omega
theorem q_plainA : ∀ n : Fin 64, 43 ≤ impl_baseText.dg (n.val : Int) ∧ impl_baseText.dg (n.val : Int) ≤ 122 := by decide +kernel
theorem dg_plain (n : Int) (h : 0 ≤ n ∧ n < 64) : 43 ≤ impl_baseText.dg n ∧ impl_baseText.dg n ≤ 122 := by
  have := q_plainA ⟨n.toNat, by omega⟩
  rw [show ((⟨n.toNat, by omega⟩ : Fin 64).val : Int) = n from Int.toNat_of_nonneg h.1] at this
  exact this
theorem q_plain : ∀ (n : Nat) (L : List Int), L.length ≤ n → (∀ x ∈ L, 0 ≤ x ∧ x ≤ 255) → ∀ y ∈ impl_baseText.q L, 43 ≤ y ∧ y ≤ 122 := by
  intro n
  induction n using Nat.strongRecOn with
  | _ n ih =>
    intro L hn hb y hy
    match L, hn, hb, hy with
    | [], _, _, hy => simp [impl_baseText.q] at hy
    | [a], _, hb, hy =>
      have ha := hb a (by simp)
      simp only [impl_baseText.q, List.mem_cons, List.not_mem_nil, or_false] at hy
      rcases hy with rfl | rfl | rfl | rfl
      · exact dg_plain _ (by omega)
      · exact dg_plain _ (by omega)
      · decide
      · decide
    | [a, b], _, hb, hy =>
      have ha := hb a (by simp)
      have hb2 := hb b (by simp)
      simp only [impl_baseText.q, List.mem_cons, List.not_mem_nil, or_false] at hy
      rcases hy with rfl | rfl | rfl | rfl
      · exact dg_plain _ (by omega)
      · exact dg_plain _ (by omega)
      · exact dg_plain _ (by omega)
      · decide
    | a :: b :: c :: r, hn, hb, hy =>
      simp only [List.length_cons] at hn
      have ha := hb a (by simp)
      have hb2 := hb b (by simp)
      have hc := hb c (by simp)
      simp only [impl_baseText.q, List.mem_cons] at hy
      rcases hy with rfl | rfl | rfl | rfl | hy
      · exact dg_plain _ (by omega)
      · exact dg_plain _ (by omega)
      · exact dg_plain _ (by omega)
      · exact dg_plain _ (by omega)
      · exact ih r.length (by omega) r (Nat.le_refl _) (fun x hx => hb x (by simp [hx])) y hy
theorem draw_digits (l : List Int) (hB : ∀ x ∈ l, 0 ≤ x ∧ x ≤ 255) (hl : l.length ≤ 1048576) (k : Nat) (hk : 5000 ≤ k) : ∃ s, spec_DrawDecodeBase.f k l = some s := by
  obtain ⟨b, hb⟩ := spec_l1Chance_eq l hB hl 0 40 (by omega) (by omega)
  unfold spec_DrawDecodeBase.f spec_l1Source.f
  simp only [Option.bind_some, hb]
  cases b with
  | true =>
    rw [if_pos rfl, if_pos (by omega)]
    exact ⟨_, rfl⟩
  | false =>
    rw [if_neg (by decide)]
    obtain ⟨v, hv, h0, h1⟩ := spec_l1Next_eq l hB hl (0 + 1) 9 (by omega) (by omega)
    obtain ⟨n, rfl⟩ := Int.eq_ofNat_of_zero_le h0
    obtain ⟨out, h2, h3, h4⟩ := spec_l1Some_eq l hB hl n k (0 + 1 + 1) (by omega) (by omega) (by omega)
    have hq := spec_l1Encode_eq out k (by omega) h4 (by omega)
    have hqs := q_size out.length out (Nat.le_refl _)
    rw [hv, Option.bind_some]
    simp only
    rw [h2, Option.bind_some]
    simp only
    rw [hq, Option.bind_some, if_pos (by rw [strOfNums_size]; omega)]
    obtain ⟨s, j, g1, g2⟩ := spec_l1Bent_eq l hB hl (0 + 1 + 1 + 2 * (n : Int)) (by omega) (bytesOf (strOfNums (impl_baseText.q out))) (by rw [bytesOf_length, strOfNums_size]; omega)
    rw [g1]
    exact ⟨s, rfl⟩
theorem draw_bytesB (l : List Int) (hB : ∀ x ∈ l, 0 ≤ x ∧ x ≤ 255) (hl : l.length ≤ 1048576) (k : Nat) (hk : 16 ≤ k) : ∃ out, spec_DrawEncodeBase.f k l = some out ∧ out.length ≤ 401 ∧ ∀ x ∈ out, 0 ≤ x ∧ x ≤ 255 := by
  obtain ⟨out, j, h1, h2, h3, _⟩ := spec_l1Long_eq l hB hl k 0 hk (by omega)
  refine ⟨out, ?_, h2, h3⟩
  unfold spec_DrawEncodeBase.f spec_l1Source.f
  simp only [Option.bind_some, h1]
theorem digit_both (v : Int) : ∃ a b, impl_BaseDigit.f v = some (a, b) ∧ spec_BaseDigit.f v = some (a, b) := by
  unfold impl_BaseDigit.f spec_BaseDigit.f spec_l1Base.f
  rw [within_eq, in_eq, Option.bind_some]
  by_cases c : 0 ≤ v ∧ v ≤ 63
  · rw [decide_eq_true c]
    simp only [Option.bind_some, if_true, if_pos c.1, if_pos (show v < 64 by omega)]
    exact ⟨_, _, rfl, rfl⟩
  · rw [decide_eq_false c]
    exact ⟨3, 0, rfl, rfl⟩
theorem enc_impl (L : List Int) (hb : ∀ x ∈ L, 0 ≤ x ∧ x ≤ 255) (hl : L.length ≤ 400) : impl_EncodeBase.f L = some (0, strOfNums (impl_baseText.q L)) := by
  unfold impl_EncodeBase.f
  rw [if_neg (by omega), impl_baseText_eq L (by omega) hb, Option.bind_some]
theorem enc_spec (L : List Int) (hb : ∀ x ∈ L, 0 ≤ x ∧ x ≤ 255) (hl : L.length ≤ 400) (k : Nat) (hk : 500 ≤ k) : spec_EncodeBase.f k L = some (0, strOfNums (impl_baseText.q L)) := by
  unfold spec_EncodeBase.f
  rw [if_neg (by omega), spec_l1Encode_eq L k (by omega) hb (by omega), Option.bind_some]
theorem third_eq (n : Nat) (h : n ≤ 1000) : wrap64 ((wrap64 (Int.tdiv (wrap64 ((n : Int) + 2)) 3)) * 4) = (((n + 2) / 3 * 4 : Nat) : Int) := by
  have e : Int.tdiv ((n : Int) + 2) 3 = ((n : Int) + 2) / 3 := Int.tdiv_eq_ediv_of_nonneg (by omega)
  rw [wrap64_in (show _ ∧ (n : Int) + 2 ≤ _ by omega), e]
  generalize hq : ((n : Int) + 2) / 3 = q
  have h0 : 0 ≤ q ∧ q ≤ 400 := by omega
  rw [wrap64_in (show _ ∧ q ≤ _ by omega), wrap64_in (by omega)]
  omega
theorem FnBases : laws_FnBases.Pure := by
  intro l hb _ hw
  have hB := byte_wf hw
  obtain ⟨k, hk⟩ : ∃ k, 1090000 < k := ⟨_, Nat.lt_succ_self _⟩
  refine ⟨k + 1, ?_⟩
  unfold laws_FnBases.f laws_lwBig.f
  rw [Option.bind_some]
  by_cases hl : (l.length : Int) > 1048576
  · rw [decide_eq_true hl, if_pos rfl]
  · rw [decide_eq_false hl, if_neg (by decide)]
    obtain ⟨s, d1⟩ := draw_digits l hB (by omega) (k + 1) (by omega)
    obtain ⟨r, hr, hz, hr2⟩ := decBase_both s
    obtain ⟨g1, g2⟩ := hr2 (k + 1) (by omega)
    have hj : laws_FnBases.j0 (k + 1) l false = some true := by
      obtain ⟨v, hv, v0, v1⟩ := spec_l1Next_eq l hB (by omega) 0 66 (by omega) (by omega)
      obtain ⟨a, b, b1, b2⟩ := digit_both (wrap64 (v - 1))
      have hdd : spec_DrawBaseDigit.f l = some (wrap64 (v - 1)) := by unfold spec_DrawBaseDigit.f spec_l1Source.f; simp only [Option.bind_some, hv]
      obtain ⟨data, e1, hdl, hdB⟩ := draw_bytesB l hB (by omega) k (by omega)
      rw [laws_FnBases.j0, if_neg (by decide), hdd, Option.bind_some, b1, Option.bind_some, b2, Option.bind_some]
      simp only [beq_self_eq_true, Bool.not_true, Bool.or_self, Bool.false_eq_true, if_false]
      rw [e1, Option.bind_some]
      by_cases h4 : 400 < data.length
      · have q1 : impl_EncodeBase.f data = some (2, ⟨#[]⟩) := by unfold impl_EncodeBase.f; rw [if_pos (by omega)]
        have q2 : spec_EncodeBase.f k data = some (2, ⟨#[]⟩) := by unfold spec_EncodeBase.f; rw [if_pos (by omega)]
        rw [q1, Option.bind_some, if_neg (by decide), q2]
        rfl
      · have hqz := q_size data.length data (Nat.le_refl _)
        have hpl := q_plain data.length data (Nat.le_refl _) hdB
        have hby := bytesOf_strOfNums (impl_baseText.q data) (fun x hx => by have := hpl x hx; omega)
        have hsz := strOfNums_size (impl_baseText.q data)
        have hip : impl_IsPlain.f (impl_baseText.q data) = some true := by
          unfold impl_IsPlain.f
          rw [any_all]
          congr 1
          rw [List.all_eq_true]
          intro x hx
          have := hpl x hx
          simp [plainB]
          omega
        have q3 := enc_impl data hdB (by omega)
        have q4 := dec_back data hdB (by omega) k (by omega)
        have q5 := enc_spec data hdB (by omega) k (by omega)
        have z1 : ((strOfNums (impl_baseText.q data)).size : Int) = (((data.length + 2) / 3 * 4 : Nat) : Int) := by rw [hsz, hqz]
        have z2 : (strOfNums (impl_baseText.q data)).size ≤ 281474976710656 := by rw [hsz, hqz]; omega
        rw [q3]
        simp only [Option.bind_some, if_true, q4, laws_lwSame.f, beq_self_eq_true]
        rw [third_eq data.length (by omega), if_pos z1, if_pos z2, hby, hip]
        simp only [Option.bind_some, if_true, q5, beq_self_eq_true]
    rw [d1, Option.bind_some, g2, Option.bind_some, g1, Option.bind_some, if_pos rfl]
    by_cases c0 : r.1 = 0
    · obtain ⟨z1, z2⟩ := hz c0
      rw [if_pos c0, enc_impl r.2 z1 hr, Option.bind_some, ← z2, bne_self_eq_false]
      exact hj
    · rw [if_neg c0]
      exact hj

end Go.Proofs.YtjopgmjmjnfcjaaDoor.Pure
