/- The plain law: what the walk computes answers as the statement says. -/
import Derived.Test.YtcmndjbokgaihaaPDecodeQuotedx3
namespace Go.Proofs.Ytcmndjbokgaihaa.Pure
open Go.RowKit Go.Proofs.Ytcmndjbokgaihaa.PDecodeQuoted Go.Proofs.YtcmndjbokgaihaaW.PrintWords Go.Proofs.YtcmndjbokgaihaaW.PrintLast
set_option linter.unusedSimpArgs false
set_option linter.unusedVariables false
theorem rd_at (l : List Int) (i : Nat) (h : i < l.length) : rd l (i : Int) = l[i] := by
  simp [rd, List.getD_eq_getElem?_getD, h]
theorem wrap64_in {n : Int} (h : -9223372036854775808 ≤ n ∧ n ≤ 9223372036854775807) : wrap64 n = n := by
  unfold wrap64; omega
theorem maxLen_le : maxLen ≤ 9223372036854775807 := by unfold maxLen; decide
theorem bt_range (s : ByteArray) (i : Int) : 0 ≤ bt s i ∧ bt s i ≤ 255 := by
  unfold bt
  split
  · rename_i h
    have := UInt8.toNat_lt (s[i.toNat]'h)
    omega
  · omega
def hv (b : Int) : Int := Lib.indexByte [48, 49, 50, 51, 52, 53, 54, 55, 56, 57, 65, 66, 67, 68, 69, 70] b.toNat.toUInt8
theorem hv256 : ∀ b : Fin 256, spec_l1HexValue.f 1 (b.val : Int) = some (hv (b.val : Int)) ∧ -1 ≤ hv (b.val : Int) ∧ hv (b.val : Int) ≤ 15 := by decide +kernel
theorem spec_l1HexValue_k (k : Nat) (b : Int) : spec_l1HexValue.f (k + 1) b = spec_l1HexValue.f 1 b := by
  unfold spec_l1HexValue.f
  split <;> rw [spec_l1HexValue.j0, spec_l1HexValue.j0]
theorem spec_l1HexValue_eq (k : Nat) (b : Int) (h : 0 ≤ b ∧ b ≤ 255) : spec_l1HexValue.f (k + 1) b = some (hv b) ∧ -1 ≤ hv b ∧ hv b ≤ 15 := by
  have := hv256 ⟨b.toNat, by omega⟩
  rw [spec_l1HexValue_k]
  simpa [Int.toNat_of_nonneg h.1] using this
theorem or16 : ∀ a b : Fin 16, (Go.bits .or .i64 (wrap64 ((a.val : Int) * 16)) (b.val : Int)) % 256 = (wrap64 ((wrap64 (16 * (a.val : Int))) + (b.val : Int))) % 256 := by decide +kernel
theorem or_eq (a b : Int) (ha : 0 ≤ a ∧ a ≤ 15) (hb : 0 ≤ b ∧ b ≤ 15) : (Go.bits .or .i64 (wrap64 (a * 16)) b) % 256 = (wrap64 ((wrap64 (16 * a)) + b)) % 256 := by
  have := or16 ⟨a.toNat, by omega⟩ ⟨b.toNat, by omega⟩
  simpa [Int.toNat_of_nonneg ha.1, Int.toNat_of_nonneg hb.1] using this
theorem index_hv (b : Int) : strings_IndexByte.f (⟨#[48, 49, 50, 51, 52, 53, 54, 55, 56, 57, 65, 66, 67, 68, 69, 70]⟩ : ByteArray) b = some (hv b) := rfl
theorem impl_hexByte_eq (s : ByteArray) (i : Nat) (hs : s.size ≤ 1048576) (hi : i ≤ s.size) : ∃ v ok, impl_hexByte.f s (i : Int) = some (v, ok) ∧ (i + 2 > s.size → ok = false) ∧ (i + 2 ≤ s.size → (ok = true ↔ 0 ≤ hv (bt s (i : Int)) ∧ 0 ≤ hv (bt s ((i + 1 : Nat) : Int))) ∧ (ok = true → v = (wrap64 ((wrap64 (16 * hv (bt s (i : Int)))) + hv (bt s ((i + 1 : Nat) : Int)))) % 256)) := by
  have h1 : wrap64 ((i : Int) + 2) = ((i + 2 : Nat) : Int) := by rw [wrap64_in (by omega)]; omega
  have h2 : wrap64 ((i : Int) + 1) = ((i + 1 : Nat) : Int) := by rw [wrap64_in (by omega)]; omega
  unfold impl_hexByte.f
  rw [h1, h2]
  by_cases h : i + 2 > s.size
  · rw [if_pos (by omega)]
    exact ⟨0, false, rfl, fun _ => rfl, fun g => absurd h (by omega)⟩
  · rw [if_neg (by omega), if_pos (by omega), if_pos (by omega), index_hv, Option.bind_some, if_pos (by omega), if_pos (by omega), index_hv, Option.bind_some]
    have r1 := (spec_l1HexValue_eq 0 _ (bt_range s (i : Int))).2
    have r2 := (spec_l1HexValue_eq 0 _ (bt_range s ((i + 1 : Nat) : Int))).2
    generalize hv (bt s (i : Int)) = a at r1
    generalize hv (bt s ((i + 1 : Nat) : Int)) = b at r2
    by_cases ha : a ≥ 0
    · rw [if_pos ha]
      refine ⟨_, _, rfl, fun g => absurd g h, fun _ => ⟨?_, fun hok => ?_⟩⟩
      · rw [decide_eq_true_eq]; omega
      · rw [decide_eq_true_eq] at hok
        exact or_eq a b (by omega) (by omega)
    · rw [if_neg ha]
      exact ⟨_, _, rfl, fun g => absurd g h, fun _ => ⟨⟨fun e => Bool.noConfusion e, fun e => absurd e.1 ha⟩, fun e => Bool.noConfusion e⟩⟩
theorem seen_eq (b : Int) : impl_isSeen.f b = some (decide (33 ≤ b ∧ b ≤ 126) && b != 61) := by
  unfold impl_isSeen.f
  by_cases h1 : 33 ≤ b
  · rw [if_pos h1]
    by_cases h2 : b ≤ 126
    · rw [if_pos h2]; simp [h1, h2]
    · rw [if_neg h2]; simp [h2]
  · rw [if_neg h1]; simp [h1]
theorem blank_eq (b : Int) : impl_isBlank.f b = some (b == 32 || b == 9) := by
  unfold impl_isBlank.f
  by_cases h1 : b = 32 <;> by_cases h2 : b = 9 <;> simp_all
def unq (out : List Int) (ok : Bool) : Int × List Int := if ok = true then (if (out.length : Int) > 400 then (2, []) else (0, out)) else (7, [])
/-- One step of both: what the rest does, told once. -/
def Both (s : ByteArray) (k : Nat) (acc : List Int) (i : Int) (k2 : Nat) : Prop := ∃ out ok, spec_l1Unquote.l0 k s acc i = some (out, ok) ∧ impl_DecodeQuoted.l0 k2 s acc i = some (unq out ok)
theorem unquote_both (s : ByteArray) (hs : s.size ≤ 1048576) : ∀ (n k k2 i : Nat) (acc : List Int), s.size ≤ i + n → i ≤ s.size → 2 * n + 4 < k → 3 * n + 4 < k2 → acc.length + n ≤ 4194304 → Both s k acc (i : Int) k2
  | 0, k, k2, i, acc, h1, h2, h3, h4, h5 => by
    obtain ⟨k, rfl⟩ : ∃ m, k = m + 1 := ⟨k - 1, by omega⟩
    obtain ⟨k2, rfl⟩ : ∃ m, k2 = m + 1 := ⟨k2 - 1, by omega⟩
    have hn : ¬ ((i : Int) < (s.size : Int)) := by omega
    refine ⟨acc, true, ?_, ?_⟩
    · unfold spec_l1Unquote.l0; rw [if_neg hn]
    · unfold impl_DecodeQuoted.l0 unq; rw [if_neg hn, if_pos rfl]; split <;> rfl
  | n + 1, k, k2, i, acc, h1, h2, h3, h4, h5 => by
    obtain ⟨k, rfl⟩ : ∃ m, k = m + 2 := ⟨k - 2, by omega⟩
    obtain ⟨k2, rfl⟩ : ∃ m, k2 = m + 3 := ⟨k2 - 3, by omega⟩
    by_cases hlt : i < s.size
    · have a1 : (i : Int) < (s.size : Int) := by omega
      have a0 : (0 : Int) ≤ (i : Int) := by omega
      have w1 : wrap64 ((i : Int) + 1) = ((i + 1 : Nat) : Int) := by rw [wrap64_in (by omega)]; omega
      have w2 : wrap64 ((i : Int) + 2) = ((i + 2 : Nat) : Int) := by rw [wrap64_in (by omega)]; omega
      have w3 : wrap64 (((i + 1 : Nat) : Int) + 1) = ((i + 2 : Nat) : Int) := by rw [wrap64_in (by omega)]; omega
      have w4 : wrap64 (((i + 2 : Nat) : Int) + 1) = ((i + 3 : Nat) : Int) := by rw [wrap64_in (by omega)]; omega
      have p1 : (0 : Int) ≤ ((i + 1 : Nat) : Int) := by omega
      have p2 : (0 : Int) ≤ ((i + 2 : Nat) : Int) := by omega
      have app : ∀ (v : Int) (kk k3 : Nat) (j : Nat), i < j → j ≤ s.size → k ≤ kk → k2 ≤ k3 → Both s kk (acc ++ [v]) (j : Int) k3 := fun v kk k3 j g1 g2 g3 g4 => unquote_both s hs n kk k3 j (acc ++ [v]) (by omega) g2 (by omega) (by omega) (by rw [List.length_append, List.length_singleton]; omega)
      have skip : ∀ (kk k3 : Nat) (j : Nat), i < j → j ≤ s.size → k ≤ kk → k2 ≤ k3 → Both s kk acc (j : Int) k3 := fun kk k3 j g1 g2 g3 g4 => unquote_both s hs n kk k3 j acc (by omega) g2 (by omega) (by omega) (by omega)
      have hacc : acc.length < 140737488355328 := by omega
      have hbr := bt_range s (i : Int)
      obtain ⟨hxv, hxo, hx1, hx2, hx3⟩ := impl_hexByte_eq s (i + 1) hs (by omega)
      have imp_app : ∀ out ok, impl_DecodeQuoted.l0 (k2 + 1) s (acc ++ [bt s (i : Int)]) ((i + 1 : Nat) : Int) = some (unq out ok) → impl_DecodeQuoted.j1 (k2 + 2) s acc (i : Int) (bt s (i : Int)) true = some (unq out ok) := by
        intro out ok h
        rw [impl_DecodeQuoted.j1, if_pos rfl, if_pos hacc, w1, h]
      have imp_bad : bt s (i : Int) ≠ 61 → impl_DecodeQuoted.j1 (k2 + 2) s acc (i : Int) (bt s (i : Int)) false = some (unq [] false) := by
        intro hb
        rw [impl_DecodeQuoted.j1, if_neg (by decide), if_neg hb, impl_DecodeQuoted.j2, if_neg (by decide), w1, hx1, Option.bind_some, if_neg hb]
        rfl
      unfold Both
      rw [spec_l1Unquote.l0, impl_DecodeQuoted.l0, if_pos a1, if_pos a1, if_pos a0, if_pos a0, seen_eq, Option.bind_some, blank_eq, Option.bind_some, w1]
      by_cases b61 : bt s (i : Int) = 61
      · have hs1 : (decide (33 ≤ bt s (i : Int) ∧ bt s (i : Int) ≤ 126) && bt s (i : Int) != 61) = false := by rw [b61]; decide
        have hs2 : (bt s (i : Int) == 32 || bt s (i : Int) == 9) = false := by rw [b61]; decide
        have nb10 : ¬ (bt s (i : Int) = 10) := by omega
        simp only [if_pos b61, hs1, hs2, Bool.false_eq_true, if_false, if_neg nb10]
        rw [impl_DecodeQuoted.j1]
        simp only [Bool.false_eq_true, if_false, if_pos b61, w1]
        have hex : ∃ out ok, spec_l1Unquote.j1 (k + 1) s acc (i : Int) false = some (out, ok) ∧ impl_DecodeQuoted.j2 (k2 + 1) s acc (i : Int) (bt s (i : Int)) false = some (unq out ok) := by
          by_cases hend : i + 2 ≥ s.size
          · have e1 : ((i + 2 : Nat) : Int) ≥ (s.size : Int) := by omega
            have hf : hxo = false := hx2 (by omega)
            refine ⟨[], false, ?_, ?_⟩
            · rw [spec_l1Unquote.j1]; simp only [Bool.false_eq_true, if_false, w2, if_pos e1]
            · rw [impl_DecodeQuoted.j2]; simp only [Bool.false_eq_true, if_false, w1, hx1, Option.bind_some, if_pos b61, hf]; rfl
          · have hok := hx3 (by omega)
            have e1 : ¬ ((i + 2 : Nat) : Int) ≥ (s.size : Int) := by omega
            have e2 : ((i + 1 : Nat) : Int) < (s.size : Int) := by omega
            have e3 : ((i + 2 : Nat) : Int) < (s.size : Int) := by omega
            obtain ⟨k, rfl⟩ : ∃ m, k = m + 1 := ⟨k - 1, by omega⟩
            have S1 := (spec_l1HexValue_eq k _ (bt_range s ((i + 1 : Nat) : Int))).1
            have S2 := (spec_l1HexValue_eq k _ (bt_range s ((i + 2 : Nat) : Int))).1
            rw [show ((i + 1 + 1 : Nat) : Int) = ((i + 2 : Nat) : Int) from rfl] at hok
            generalize hv (bt s ((i + 1 : Nat) : Int)) = u at hok S1
            generalize hv (bt s ((i + 2 : Nat) : Int)) = v at hok S2
            have hI : hxo = false → impl_DecodeQuoted.j2 (k2 + 1) s acc (i : Int) (bt s (i : Int)) false = some (unq [] false) := by
              intro hf
              rw [impl_DecodeQuoted.j2]; simp only [Bool.false_eq_true, if_false, w1, hx1, Option.bind_some, if_pos b61, hf]; rfl
            by_cases hu : u < 0
            · have hf : hxo = false := by
                cases hxo with
                | false => rfl
                | true => have := (hok.1.1 rfl).1; omega
              refine ⟨[], false, ?_, hI hf⟩
              rw [spec_l1Unquote.j1]; simp only [Bool.false_eq_true, if_false, w1, w2, if_neg e1, if_pos p1, if_pos e2, S1, S2, Option.bind_some, if_pos p2, if_pos e3, if_pos hu]
            · by_cases hv2 : v < 0
              · have hf : hxo = false := by
                  cases hxo with
                  | false => rfl
                  | true => have := (hok.1.1 rfl).2; omega
                refine ⟨[], false, ?_, hI hf⟩
                rw [spec_l1Unquote.j1]; simp only [Bool.false_eq_true, if_false, w1, w2, if_neg e1, if_pos p1, if_pos e2, S1, S2, Option.bind_some, if_pos p2, if_pos e3, if_neg hu, if_pos hv2]
              · have h6 : hxo = true := hok.1.2 ⟨by omega, by omega⟩
                obtain ⟨out, ok, g1, g2⟩ := app (wrap64 (wrap64 (16 * u) + v) % 256) (k + 1) k2 (i + 3) (by omega) (by omega) (by omega) (by omega)
                refine ⟨out, ok, ?_, ?_⟩
                · rw [spec_l1Unquote.j1]; simp only [Bool.false_eq_true, if_false, w1, w2, if_neg e1, if_pos p1, if_pos e2, S1, S2, Option.bind_some, if_pos p2, if_pos e3, if_neg hu, if_neg hv2, if_pos hacc, w4]; exact g1
                · rw [impl_DecodeQuoted.j2]; simp only [Bool.false_eq_true, if_false, w1, w2, w4, hx1, Option.bind_some, if_pos b61, h6, if_true, if_pos hacc, hok.2 h6]; exact g2
        by_cases hn1 : i + 1 < s.size
        · have hn2 : ((i + 1 : Nat) : Int) < (s.size : Int) := by omega
          simp only [if_pos hn2, if_pos p1]
          cases hq : (bt s ((i + 1 : Nat) : Int) == 10) with
          | false => exact hex
          | true =>
            rw [spec_l1Unquote.j1, if_pos rfl, impl_DecodeQuoted.j2, if_pos rfl, w1, w3]
            exact skip _ _ (i + 2) (by omega) (by omega) (by omega) (by omega)
        · have hn2 : ¬ ((i + 1 : Nat) : Int) < (s.size : Int) := by omega
          simp only [if_neg hn2]
          exact hex
      · rw [if_neg b61]
        have bne : (bt s (i : Int) != 61) = true := by simpa using b61
        by_cases b33 : bt s (i : Int) ≥ 33 ∧ bt s (i : Int) ≤ 126
        · rw [if_pos b33.1, if_pos b33.2, if_pos hacc, bne, decide_eq_true (show 33 ≤ bt s (i : Int) ∧ bt s (i : Int) ≤ 126 from b33), Bool.true_and, if_pos rfl]
          obtain ⟨out, ok, g1, g2⟩ := app (bt s (i : Int)) (k + 1) (k2 + 1) (i + 1) (by omega) (by omega) (by omega) (by omega)
          exact ⟨out, ok, g1, imp_app out ok g2⟩
        · have hd : decide (33 ≤ bt s (i : Int) ∧ bt s (i : Int) ≤ 126) = false := decide_eq_false b33
          simp only [hd, Bool.false_and, Bool.false_eq_true, if_false]
          have rest : ∃ out ok, (if bt s (i : Int) = 10 then (if acc.length < 140737488355328 then spec_l1Unquote.l0 (k + 1) s (acc ++ [bt s (i : Int)]) ((i + 1 : Nat) : Int) else none) else ((spec_l1Blank.f s (i : Int)).bind fun t117 => (if t117 = true then (if acc.length < 140737488355328 then (spec_l1Unquote.l0 (k + 1) s (acc ++ [bt s (i : Int)]) ((i + 1 : Nat) : Int)) else (none)) else (some (([] : List Int), false))))) = some (out, ok) ∧ (if bt s (i : Int) = 10 then impl_DecodeQuoted.j1 (k2 + 2) s acc (i : Int) (bt s (i : Int)) true else if (bt s (i : Int) == 32 || bt s (i : Int) == 9) = true then (if ((i + 1 : Nat) : Int) < (s.size : Int) then (if 0 ≤ ((i + 1 : Nat) : Int) then impl_DecodeQuoted.j1 (k2 + 2) s acc (i : Int) (bt s (i : Int)) (bt s ((i + 1 : Nat) : Int) != 10) else none) else impl_DecodeQuoted.j1 (k2 + 2) s acc (i : Int) (bt s (i : Int)) false) else impl_DecodeQuoted.j1 (k2 + 2) s acc (i : Int) (bt s (i : Int)) false) = some (unq out ok) := by
            obtain ⟨out, ok, g1, g2⟩ := app (bt s (i : Int)) (k + 1) (k2 + 1) (i + 1) (by omega) (by omega) (by omega) (by omega)
            by_cases b10 : bt s (i : Int) = 10
            · rw [if_pos b10, if_pos b10, if_pos hacc]
              exact ⟨out, ok, g1, imp_app out ok g2⟩
            · rw [if_neg b10, if_neg b10]
              unfold spec_l1Blank.f
              rw [if_pos a0, if_pos a1, w1]
              have bad := imp_bad b61
              by_cases bl : (bt s (i : Int) == 32 || bt s (i : Int) == 9) = true
              · have bl2 : bt s (i : Int) = 32 ∨ bt s (i : Int) = 9 := by simpa using bl
                rw [if_pos bl]
                by_cases hn1 : i + 1 < s.size
                · have hn2 : ((i + 1 : Nat) : Int) < (s.size : Int) := by omega
                  simp only [if_pos hn2, if_pos p1]
                  have e : (if bt s (i : Int) = 32 then some (bt s ((i + 1 : Nat) : Int) != 10) else if bt s (i : Int) = 9 then some (bt s ((i + 1 : Nat) : Int) != 10) else some false) = some (bt s ((i + 1 : Nat) : Int) != 10) := by
                    rcases bl2 with h | h
                    · rw [if_pos h]
                    · rw [if_neg (by omega), if_pos h]
                  rw [e, Option.bind_some]
                  cases bt s ((i + 1 : Nat) : Int) != 10 with
                  | true => rw [if_pos rfl, if_pos hacc]; exact ⟨out, ok, g1, imp_app out ok g2⟩
                  | false => rw [if_neg (by decide)]; exact ⟨[], false, rfl, bad⟩
                · have hn2 : ¬ ((i + 1 : Nat) : Int) < (s.size : Int) := by omega
                  simp only [if_neg hn2]
                  have e : (if bt s (i : Int) = 32 then some false else if bt s (i : Int) = 9 then some false else some false) = some false := by
                    split
                    · rfl
                    · split <;> rfl
                  rw [e, Option.bind_some, if_neg (by decide)]
                  exact ⟨[], false, rfl, bad⟩
              · rw [if_neg bl]
                have bl2 : bt s (i : Int) ≠ 32 ∧ bt s (i : Int) ≠ 9 := by simpa using bl
                rw [if_neg bl2.1, if_neg bl2.2, Option.bind_some, if_neg (by decide)]
                exact ⟨[], false, rfl, bad⟩
          by_cases c1 : bt s (i : Int) ≥ 33
          · rw [if_pos c1, if_neg (by omega)]; exact rest
          · rw [if_neg c1]; exact rest
    · have hn : ¬ ((i : Int) < (s.size : Int)) := by omega
      refine ⟨acc, true, ?_, ?_⟩
      · rw [spec_l1Unquote.l0, if_neg hn]
      · rw [impl_DecodeQuoted.l0, if_neg hn]; unfold unq; rw [if_pos rfl]; split <;> rfl
theorem laws_eqByteS.l0_eq (x0 : List Int) (hb : x0.length ≤ maxLen) : ∀ (n k i : Nat), x0.length = i + n → n < k → laws_eqByteS.l0 k x0 x0 (i : Int) = some true
  | 0, 0, _, _, h => absurd h (by omega)
  | 0, k + 1, i, hi, _ => by
    have h1 : ¬ ((i : Int) < (x0.length : Int)) := by omega
    simp only [laws_eqByteS.l0, if_neg h1]
  | n + 1, 0, _, _, h => absurd h (by omega)
  | n + 1, k + 1, i, hi, h => by
    have hm := maxLen_le
    have h1 : (i : Int) < (x0.length : Int) := by omega
    have h2 : (0 : Int) ≤ (i : Int) := by omega
    have h4 : wrap64 ((i : Int) + 1) = ((i + 1 : Nat) : Int) := by rw [wrap64_in (by omega)]; omega
    unfold laws_eqByteS.l0
    rw [if_pos h1, if_pos h2, if_pos h1]
    rw [if_pos rfl, h4]
    exact laws_eqByteS.l0_eq x0 hb n k (i + 1) (by omega) (by omega)
theorem laws_eqByteS_eq (l : List Int) (k : Nat) (hb : l.length ≤ maxLen) (hk : l.length < k) : laws_eqByteS.f k l l = some true := by
  unfold laws_eqByteS.f
  rw [if_pos rfl]
  exact laws_eqByteS.l0_eq l hb l.length k 0 (by omega) hk
def mkByteS (x : Int) : Int := ((x)%256)
def marksByteS : Int → Nat → List Int
  | _, 0 => []
  | m, n + 1 => mkByteS m :: marksByteS (m + 1) n
theorem marksByteS_len : ∀ n m, (marksByteS m n).length = n
  | 0, _ => rfl
  | n + 1, m => by simp [marksByteS, marksByteS_len n]
theorem laws_markByteS.l0_eq : ∀ (n k i : Nat) (x0 : List Int) (x1 : Int), x0.length = i + n → n < k → 0 ≤ x1 → x1 + n ≤ 4611686018427387904 → x0.length ≤ 4611686018427387904 → laws_markByteS.l0 k x0 x1 (i : Int) = some (x1 + n, x0.take i ++ marksByteS x1 n)
  | 0, 0, _, _, _, _, h, _, _, _ => absurd h (by omega)
  | 0, k + 1, i, x0, x1, hi, _, _, _, _ => by
    have h1 : ¬ ((i : Int) < (x0.length : Int)) := by omega
    unfold laws_markByteS.l0
    rw [if_neg h1, List.take_of_length_le (by omega)]
    simp [marksByteS]
  | n + 1, 0, _, _, _, _, h, _, _, _ => absurd h (by omega)
  | n + 1, k + 1, i, x0, x1, hi, h, hx, hx1, hb => by
    have h1 : (i : Int) < (x0.length : Int) := by omega
    have h2 : (0 : Int) ≤ (i : Int) := by omega
    have h4 : wrap64 ((i : Int) + 1) = ((i + 1 : Nat) : Int) := by rw [wrap64_in (by omega)]; omega
    have h5 : wrap64 (x1 + 1) = x1 + 1 := wrap64_in (by omega)
    have hs : (x0.set i (mkByteS x1)).take (i + 1) = x0.take i ++ [mkByteS x1] := by
      rw [List.take_succ_eq_append_getElem (by simp; omega), List.getElem_set_self]
      congr 1
      rw [List.take_set, List.set_eq_of_length_le (by simp; omega)]
    unfold laws_markByteS.l0
    rw [if_pos h1, if_pos h2, Int.toNat_natCast, h4, h5]
    have := laws_markByteS.l0_eq n k (i + 1) (x0.set i (mkByteS x1)) (x1 + 1) (by simp; omega) (by omega) (by omega) (by omega) (by simp; omega)
    rw [hs] at this
    unfold mkByteS at this
    rw [this]
    simp [marksByteS, mkByteS]
    omega
theorem laws_markByteS_eq (l : List Int) (m : Int) (k : Nat) (hk : l.length < k) (hl : l.length ≤ 1048576) (hm : 0 ≤ m ∧ m ≤ 4294967296) : laws_markByteS.f k l m = some (m + l.length, marksByteS m l.length) := by
  unfold laws_markByteS.f
  have := laws_markByteS.l0_eq l.length k 0 l m (by omega) hk hm.1 (by omega) (by omega)
  simpa using this
theorem laws_heldByteS.l0_eq : ∀ (n k i : Nat) (x0 : List Int) (x1 : Int), x0.length = i + n → n < k → 0 ≤ x1 → x1 + n ≤ 4611686018427387904 → x0.length ≤ 4611686018427387904 → x0.drop i = marksByteS x1 n → laws_heldByteS.l0 k x0 x1 (i : Int) = some (x1 + n)
  | 0, 0, _, _, _, _, h, _, _, _, _ => absurd h (by omega)
  | 0, k + 1, i, x0, x1, hi, _, _, _, _, _ => by
    have h1 : ¬ ((i : Int) < (x0.length : Int)) := by omega
    unfold laws_heldByteS.l0
    rw [if_neg h1]
    simp
  | n + 1, 0, _, _, _, _, h, _, _, _, _ => absurd h (by omega)
  | n + 1, k + 1, i, x0, x1, hi, h, hx, hx1, hb, hd => by
    have h1 : (i : Int) < (x0.length : Int) := by omega
    have h2 : (0 : Int) ≤ (i : Int) := by omega
    have h4 : wrap64 ((i : Int) + 1) = ((i + 1 : Nat) : Int) := by rw [wrap64_in (by omega)]; omega
    have h5 : wrap64 (x1 + 1) = x1 + 1 := wrap64_in (by omega)
    have hlt : i < x0.length := by omega
    rw [List.drop_eq_getElem_cons hlt] at hd
    unfold marksByteS at hd
    have h6 : x0[i] = mkByteS x1 := (List.cons.inj hd).1
    have h7 : x0.drop (i + 1) = marksByteS (x1 + 1) n := (List.cons.inj hd).2
    unfold laws_heldByteS.l0
    rw [if_pos h1, if_pos h2, rd_at x0 i hlt, h6, if_pos (by unfold mkByteS; rfl), h4, h5, laws_heldByteS.l0_eq n k (i + 1) x0 (x1 + 1) (by omega) (by omega) (by omega) (by omega) hb h7]
    congr 1
    omega
theorem laws_heldByteS_eq (n : Nat) (m : Int) (k : Nat) (hk : n < k) (hl : n ≤ 1048576) (hm : 0 ≤ m ∧ m ≤ 4294967296) : laws_heldByteS.f k (marksByteS m n) m = some (m + n) := by
  have hml := marksByteS_len n m
  unfold laws_heldByteS.f
  exact laws_heldByteS.l0_eq n k 0 (marksByteS m n) m (by omega) hk hm.1 (by omega) (by omega) (by simp)
theorem unq_len (out : List Int) (ok : Bool) : (unq out ok).2.length ≤ 400 := by
  unfold unq
  by_cases h : ok = true
  · rw [if_pos h]
    by_cases h2 : (out.length : Int) > 400
    · rw [if_pos h2]; simp
    · rw [if_neg h2]; show out.length ≤ 400; omega
  · rw [if_neg h]; simp
theorem DecodeQuoted_both (s : ByteArray) (hs : s.size ≤ 1048576) (k : Nat) (hk : 3 * s.size + 10 < k) : ∃ r : Int × List Int, r.2.length ≤ 400 ∧ spec_DecodeQuoted.f k s = some r ∧ impl_DecodeQuoted.f k s = some r := by
  unfold spec_DecodeQuoted.f impl_DecodeQuoted.f
  by_cases h : (s.size : Int) > 1600
  · exact ⟨(2, []), by simp, by rw [if_pos h], by rw [if_pos h]⟩
  · obtain ⟨out, ok, g1, g2⟩ := unquote_both s hs s.size k k 0 [] (by omega) (by omega) (by omega) (by omega) (by simp; omega)
    refine ⟨unq out ok, unq_len out ok, ?_, by rw [if_neg h]; exact g2⟩
    rw [if_neg h]
    unfold spec_l1Unquote.f
    have g1' : spec_l1Unquote.l0 k s [] 0 = some (out, ok) := g1
    rw [g1', Option.bind_some]
    unfold unq
    cases ok with
    | false => rfl
    | true =>
      rw [if_pos rfl, if_pos rfl]
      split <;> rfl
theorem FnExactDecodeQuoted : laws_FnExactDecodeQuoted.Pure := by
  intro s _
  refine ⟨3 * s.size + 500, ?_⟩
  unfold laws_FnExactDecodeQuoted.f
  by_cases hl : (s.size : Int) > 1048576
  · rw [if_pos hl]
  · rw [if_neg hl]
    obtain ⟨r, hr, g1, g2⟩ := DecodeQuoted_both s (by omega) (3 * s.size + 500) (by omega)
    have hm : r.2.length ≤ maxLen := by unfold maxLen; omega
    have e1 := laws_eqByteS_eq r.2 (3 * s.size + 500) hm (by omega)
    have e2 : laws_eqBytesResult.f (3 * s.size + 500) r.1 r.2 r.1 r.2 = some true := by
      unfold laws_eqBytesResult.f; rw [if_pos rfl, e1]; rfl
    have e3 := laws_markByteS_eq r.2 1 (3 * s.size + 500) (by omega) (by omega) (by omega)
    have e4 := laws_heldByteS_eq r.2.length 1 (3 * s.size + 500) (by omega) (by omega) (by omega)
    have p1 : ¬ (1 + (r.2.length : Int) < 0) := by omega
    simp only [g1, g2, e2, laws_markBytesResult.f, laws_heldBytesResult.f, e3, e4, Option.bind_some, if_true, if_neg p1]

end Go.Proofs.Ytcmndjbokgaihaa.Pure
