/- The plain law: what the walk computes answers as the statement says. -/
import Derived.Test.YtcmndjbokgaihaaPFnQuotesx5
namespace Go.Proofs.Ytcmndjbokgaihaa.Pure
open Go.RowKit Go.Proofs.Ytcmndjbokgaihaa.PFnQuotes Go.Proofs.YtcmndjbokgaihaaW.PrintWords Go.Proofs.YtcmndjbokgaihaaW.PrintLast
set_option linter.unusedSimpArgs false
set_option linter.unusedVariables false
theorem rd_at (l : List Int) (i : Nat) (h : i < l.length) : rd l (i : Int) = l[i] := by
  simp [rd, List.getD_eq_getElem?_getD, h]
theorem wrap64_in {n : Int} (h : -9223372036854775808 ≤ n ∧ n ≤ 9223372036854775807) : wrap64 n = n := by
  unfold wrap64; omega
theorem maxLen_le : maxLen ≤ 9223372036854775807 := by unfold maxLen; decide
theorem bt_range (s : ByteArray) (i : Int) : 0 ≤ bt s i ∧ bt s i ≤ 255 := by
  unfold bt
  split
  · rename_i h
    have := UInt8.toNat_lt (s[i.toNat]'h)
    omega
  · omega
def hv (b : Int) : Int := Lib.indexByte [48, 49, 50, 51, 52, 53, 54, 55, 56, 57, 65, 66, 67, 68, 69, 70] b.toNat.toUInt8
theorem hv256 : ∀ b : Fin 256, spec_l1HexValue.f 1 (b.val : Int) = some (hv (b.val : Int)) ∧ -1 ≤ hv (b.val : Int) ∧ hv (b.val : Int) ≤ 15 := by decide +kernel
theorem spec_l1HexValue_k (k : Nat) (b : Int) : spec_l1HexValue.f (k + 1) b = spec_l1HexValue.f 1 b := by
  unfold spec_l1HexValue.f
  split <;> rw [spec_l1HexValue.j0, spec_l1HexValue.j0]
theorem spec_l1HexValue_eq (k : Nat) (b : Int) (h : 0 ≤ b ∧ b ≤ 255) : spec_l1HexValue.f (k + 1) b = some (hv b) ∧ -1 ≤ hv b ∧ hv b ≤ 15 := by
  have := hv256 ⟨b.toNat, by omega⟩
  rw [spec_l1HexValue_k]
  simpa [Int.toNat_of_nonneg h.1] using this
theorem or16 : ∀ a b : Fin 16, (Go.bits .or .i64 (wrap64 ((a.val : Int) * 16)) (b.val : Int)) % 256 = (wrap64 ((wrap64 (16 * (a.val : Int))) + (b.val : Int))) % 256 := by decide +kernel
theorem or_eq (a b : Int) (ha : 0 ≤ a ∧ a ≤ 15) (hb : 0 ≤ b ∧ b ≤ 15) : (Go.bits .or .i64 (wrap64 (a * 16)) b) % 256 = (wrap64 ((wrap64 (16 * a)) + b)) % 256 := by
  have := or16 ⟨a.toNat, by omega⟩ ⟨b.toNat, by omega⟩
  simpa [Int.toNat_of_nonneg ha.1, Int.toNat_of_nonneg hb.1] using this
theorem index_hv (b : Int) : strings_IndexByte.f (⟨#[48, 49, 50, 51, 52, 53, 54, 55, 56, 57, 65, 66, 67, 68, 69, 70]⟩ : ByteArray) b = some (hv b) := rfl
theorem impl_hexByte_eq (s : ByteArray) (i : Nat) (hs : s.size ≤ 1048576) (hi : i ≤ s.size) : ∃ v ok, impl_hexByte.f s (i : Int) = some (v, ok) ∧ (i + 2 > s.size → ok = false) ∧ (i + 2 ≤ s.size → (ok = true ↔ 0 ≤ hv (bt s (i : Int)) ∧ 0 ≤ hv (bt s ((i + 1 : Nat) : Int))) ∧ (ok = true → v = (wrap64 ((wrap64 (16 * hv (bt s (i : Int)))) + hv (bt s ((i + 1 : Nat) : Int)))) % 256)) := by
  have h1 : wrap64 ((i : Int) + 2) = ((i + 2 : Nat) : Int) := by rw [wrap64_in (by omega)]; omega
  have h2 : wrap64 ((i : Int) + 1) = ((i + 1 : Nat) : Int) := by rw [wrap64_in (by omega)]; omega
  unfold impl_hexByte.f
  rw [h1, h2]
  by_cases h : i + 2 > s.size
  · rw [if_pos (by omega)]
    exact ⟨0, false, rfl, fun _ => rfl, fun g => absurd h (by omega)⟩
  · rw [if_neg (by omega), if_pos (by omega), if_pos (by omega), index_hv, Option.bind_some, if_pos (by omega), if_pos (by omega), index_hv, Option.bind_some]
    have r1 := (spec_l1HexValue_eq 0 _ (bt_range s (i : Int))).2
    have r2 := (spec_l1HexValue_eq 0 _ (bt_range s ((i + 1 : Nat) : Int))).2
    generalize hv (bt s (i : Int)) = a at r1
    generalize hv (bt s ((i + 1 : Nat) : Int)) = b at r2
    by_cases ha : a ≥ 0
    · rw [if_pos ha]
      refine ⟨_, _, rfl, fun g => absurd g h, fun _ => ⟨?_, fun hok => ?_⟩⟩
      · rw [decide_eq_true_eq]; omega
      · rw [decide_eq_true_eq] at hok
        exact or_eq a b (by omega) (by omega)
    · rw [if_neg ha]
      exact ⟨_, _, rfl, fun g => absurd g h, fun _ => ⟨⟨fun e => Bool.noConfusion e, fun e => absurd e.1 ha⟩, fun e => Bool.noConfusion e⟩⟩
theorem seen_eq (b : Int) : impl_isSeen.f b = some (decide (33 ≤ b ∧ b ≤ 126) && b != 61) := by
  unfold impl_isSeen.f
  by_cases h1 : 33 ≤ b
  · rw [if_pos h1]
    by_cases h2 : b ≤ 126
    · rw [if_pos h2]; simp [h1, h2]
    · rw [if_neg h2]; simp [h2]
  · rw [if_neg h1]; simp [h1]
theorem blank_eq (b : Int) : impl_isBlank.f b = some (b == 32 || b == 9) := by
  unfold impl_isBlank.f
  by_cases h1 : b = 32 <;> by_cases h2 : b = 9 <;> simp_all
def unq (out : List Int) (ok : Bool) : Int × List Int := if ok = true then (if (out.length : Int) > 400 then (2, []) else (0, out)) else (7, [])
/-- One step of both: what the rest does, told once. -/
def Both (s : ByteArray) (k : Nat) (acc : List Int) (i : Int) (k2 : Nat) : Prop := ∃ out ok, spec_l1Unquote.l0 k s acc i = some (out, ok) ∧ impl_DecodeQuoted.l0 k2 s acc i = some (unq out ok)
theorem unquote_both (s : ByteArray) (hs : s.size ≤ 1048576) : ∀ (n k k2 i : Nat) (acc : List Int), s.size ≤ i + n → i ≤ s.size → 2 * n + 4 < k → 3 * n + 4 < k2 → acc.length + n ≤ 4194304 → Both s k acc (i : Int) k2
  | 0, k, k2, i, acc, h1, h2, h3, h4, h5 => by
    obtain ⟨k, rfl⟩ : ∃ m, k = m + 1 := ⟨k - 1, by omega⟩
    obtain ⟨k2, rfl⟩ : ∃ m, k2 = m + 1 := ⟨k2 - 1, by omega⟩
    have hn : ¬ ((i : Int) < (s.size : Int)) := by omega
    refine ⟨acc, true, ?_, ?_⟩
    · unfold spec_l1Unquote.l0; rw [if_neg hn]
    · unfold impl_DecodeQuoted.l0 unq; rw [if_neg hn, if_pos rfl]; split <;> rfl
  | n + 1, k, k2, i, acc, h1, h2, h3, h4, h5 => by
    obtain ⟨k, rfl⟩ : ∃ m, k = m + 2 := ⟨k - 2, by omega⟩
    obtain ⟨k2, rfl⟩ : ∃ m, k2 = m + 3 := ⟨k2 - 3, by omega⟩
    by_cases hlt : i < s.size
    · have a1 : (i : Int) < (s.size : Int) := by omega
      have a0 : (0 : Int) ≤ (i : Int) := by omega
      have w1 : wrap64 ((i : Int) + 1) = ((i + 1 : Nat) : Int) := by rw [wrap64_in (by omega)]; omega
      have w2 : wrap64 ((i : Int) + 2) = ((i + 2 : Nat) : Int) := by rw [wrap64_in (by omega)]; omega
      have w3 : wrap64 (((i + 1 : Nat) : Int) + 1) = ((i + 2 : Nat) : Int) := by rw [wrap64_in (by omega)]; omega
      have w4 : wrap64 (((i + 2 : Nat) : Int) + 1) = ((i + 3 : Nat) : Int) := by rw [wrap64_in (by omega)]; omega
      have p1 : (0 : Int) ≤ ((i + 1 : Nat) : Int) := by omega
      have p2 : (0 : Int) ≤ ((i + 2 : Nat) : Int) := by omega
      have app : ∀ (v : Int) (kk k3 : Nat) (j : Nat), i < j → j ≤ s.size → k ≤ kk → k2 ≤ k3 → Both s kk (acc ++ [v]) (j : Int) k3 := fun v kk k3 j g1 g2 g3 g4 => unquote_both s hs n kk k3 j (acc ++ [v]) (by omega) g2 (by omega) (by omega) (by rw [List.length_append, List.length_singleton]; omega)
      have skip : ∀ (kk k3 : Nat) (j : Nat), i < j → j ≤ s.size → k ≤ kk → k2 ≤ k3 → Both s kk acc (j : Int) k3 := fun kk k3 j g1 g2 g3 g4 => unquote_both s hs n kk k3 j acc (by omega) g2 (by omega) (by omega) (by omega)
      have hacc : acc.length < 140737488355328 := by omega
      have hbr := bt_range s (i : Int)
      obtain ⟨hxv, hxo, hx1, hx2, hx3⟩ := impl_hexByte_eq s (i + 1) hs (by omega)
      have imp_app : ∀ out ok, impl_DecodeQuoted.l0 (k2 + 1) s (acc ++ [bt s (i : Int)]) ((i + 1 : Nat) : Int) = some (unq out ok) → impl_DecodeQuoted.j1 (k2 + 2) s acc (i : Int) (bt s (i : Int)) true = some (unq out ok) := by
        intro out ok h
        rw [impl_DecodeQuoted.j1, if_pos rfl, if_pos hacc, w1, h]
      have imp_bad : bt s (i : Int) ≠ 61 → impl_DecodeQuoted.j1 (k2 + 2) s acc (i : Int) (bt s (i : Int)) false = some (unq [] false) := by
        intro hb
        rw [impl_DecodeQuoted.j1, if_neg (by decide), if_neg hb, impl_DecodeQuoted.j2, if_neg (by decide), w1, hx1, Option.bind_some, if_neg hb]
        rfl
      unfold Both
      rw [spec_l1Unquote.l0, impl_DecodeQuoted.l0, if_pos a1, if_pos a1, if_pos a0, if_pos a0, seen_eq, Option.bind_some, blank_eq, Option.bind_some, w1]
      by_cases b61 : bt s (i : Int) = 61
      · have hs1 : (decide (33 ≤ bt s (i : Int) ∧ bt s (i : Int) ≤ 126) && bt s (i : Int) != 61) = false := by rw [b61]; decide
        have hs2 : (bt s (i : Int) == 32 || bt s (i : Int) == 9) = false := by rw [b61]; decide
        have nb10 : ¬ (bt s (i : Int) = 10) := by omega
        simp only [if_pos b61, hs1, hs2, Bool.false_eq_true, if_false, if_neg nb10]
        rw [impl_DecodeQuoted.j1]
        simp only [Bool.false_eq_true, if_false, if_pos b61, w1]
        have hex : ∃ out ok, spec_l1Unquote.j1 (k + 1) s acc (i : Int) false = some (out, ok) ∧ impl_DecodeQuoted.j2 (k2 + 1) s acc (i : Int) (bt s (i : Int)) false = some (unq out ok) := by
          by_cases hend : i + 2 ≥ s.size
          · have e1 : ((i + 2 : Nat) : Int) ≥ (s.size : Int) := by omega
            have hf : hxo = false := hx2 (by omega)
            refine ⟨[], false, ?_, ?_⟩
            · rw [spec_l1Unquote.j1]; simp only [Bool.false_eq_true, if_false, w2, if_pos e1]
            · rw [impl_DecodeQuoted.j2]; simp only [Bool.false_eq_true, if_false, w1, hx1, Option.bind_some, if_pos b61, hf]; rfl
          · have hok := hx3 (by omega)
            have e1 : ¬ ((i + 2 : Nat) : Int) ≥ (s.size : Int) := by omega
            have e2 : ((i + 1 : Nat) : Int) < (s.size : Int) := by omega
            have e3 : ((i + 2 : Nat) : Int) < (s.size : Int) := by omega
            obtain ⟨k, rfl⟩ : ∃ m, k = m + 1 := ⟨k - 1, by omega⟩
            have S1 := (spec_l1HexValue_eq k _ (bt_range s ((i + 1 : Nat) : Int))).1
            have S2 := (spec_l1HexValue_eq k _ (bt_range s ((i + 2 : Nat) : Int))).1
            rw [show ((i + 1 + 1 : Nat) : Int) = ((i + 2 : Nat) : Int) from rfl] at hok
            generalize hv (bt s ((i + 1 : Nat) : Int)) = u at hok S1
            generalize hv (bt s ((i + 2 : Nat) : Int)) = v at hok S2
            have hI : hxo = false → impl_DecodeQuoted.j2 (k2 + 1) s acc (i : Int) (bt s (i : Int)) false = some (unq [] false) := by
              intro hf
              rw [impl_DecodeQuoted.j2]; simp only [Bool.false_eq_true, if_false, w1, hx1, Option.bind_some, if_pos b61, hf]; rfl
            by_cases hu : u < 0
            · have hf : hxo = false := by
                cases hxo with
                | false => rfl
                | true => have := (hok.1.1 rfl).1; omega
              refine ⟨[], false, ?_, hI hf⟩
              rw [spec_l1Unquote.j1]; simp only [Bool.false_eq_true, if_false, w1, w2, if_neg e1, if_pos p1, if_pos e2, S1, S2, Option.bind_some, if_pos p2, if_pos e3, if_pos hu]
            · by_cases hv2 : v < 0
              · have hf : hxo = false := by
                  cases hxo with
                  | false => rfl
                  | true => have := (hok.1.1 rfl).2; omega
                refine ⟨[], false, ?_, hI hf⟩
                rw [spec_l1Unquote.j1]; simp only [Bool.false_eq_true, if_false, w1, w2, if_neg e1, if_pos p1, if_pos e2, S1, S2, Option.bind_some, if_pos p2, if_pos e3, if_neg hu, if_pos hv2]
              · have h6 : hxo = true := hok.1.2 ⟨by omega, by omega⟩
                obtain ⟨out, ok, g1, g2⟩ := app (wrap64 (wrap64 (16 * u) + v) % 256) (k + 1) k2 (i + 3) (by omega) (by omega) (by omega) (by omega)
                refine ⟨out, ok, ?_, ?_⟩
                · rw [spec_l1Unquote.j1]; simp only [Bool.false_eq_true, if_false, w1, w2, if_neg e1, if_pos p1, if_pos e2, S1, S2, Option.bind_some, if_pos p2, if_pos e3, if_neg hu, if_neg hv2, if_pos hacc, w4]; exact g1
                · rw [impl_DecodeQuoted.j2]; simp only [Bool.false_eq_true, if_false, w1, w2, w4, hx1, Option.bind_some, if_pos b61, h6, if_true, if_pos hacc, hok.2 h6]; exact g2
        by_cases hn1 : i + 1 < s.size
        · have hn2 : ((i + 1 : Nat) : Int) < (s.size : Int) := by omega
          simp only [if_pos hn2, if_pos p1]
          cases hq : (bt s ((i + 1 : Nat) : Int) == 10) with
          | false => exact hex
          | true =>
            rw [spec_l1Unquote.j1, if_pos rfl, impl_DecodeQuoted.j2, if_pos rfl, w1, w3]
            exact skip _ _ (i + 2) (by omega) (by omega) (by omega) (by omega)
        · have hn2 : ¬ ((i + 1 : Nat) : Int) < (s.size : Int) := by omega
          simp only [if_neg hn2]
          exact hex
      · rw [if_neg b61]
        have bne : (bt s (i : Int) != 61) = true := by simpa using b61
        by_cases b33 : bt s (i : Int) ≥ 33 ∧ bt s (i : Int) ≤ 126
        · rw [if_pos b33.1, if_pos b33.2, if_pos hacc, bne, decide_eq_true (show 33 ≤ bt s (i : Int) ∧ bt s (i : Int) ≤ 126 from b33), Bool.true_and, if_pos rfl]
          obtain ⟨out, ok, g1, g2⟩ := app (bt s (i : Int)) (k + 1) (k2 + 1) (i + 1) (by omega) (by omega) (by omega) (by omega)
          exact ⟨out, ok, g1, imp_app out ok g2⟩
        · have hd : decide (33 ≤ bt s (i : Int) ∧ bt s (i : Int) ≤ 126) = false := decide_eq_false b33
          simp only [hd, Bool.false_and, Bool.false_eq_true, if_false]
          have rest : ∃ out ok, (if bt s (i : Int) = 10 then (if acc.length < 140737488355328 then spec_l1Unquote.l0 (k + 1) s (acc ++ [bt s (i : Int)]) ((i + 1 : Nat) : Int) else none) else ((spec_l1Blank.f s (i : Int)).bind fun t117 => (if t117 = true then (if acc.length < 140737488355328 then (spec_l1Unquote.l0 (k + 1) s (acc ++ [bt s (i : Int)]) ((i + 1 : Nat) : Int)) else (none)) else (some (([] : List Int), false))))) = some (out, ok) ∧ (if bt s (i : Int) = 10 then impl_DecodeQuoted.j1 (k2 + 2) s acc (i : Int) (bt s (i : Int)) true else if (bt s (i : Int) == 32 || bt s (i : Int) == 9) = true then (if ((i + 1 : Nat) : Int) < (s.size : Int) then (if 0 ≤ ((i + 1 : Nat) : Int) then impl_DecodeQuoted.j1 (k2 + 2) s acc (i : Int) (bt s (i : Int)) (bt s ((i + 1 : Nat) : Int) != 10) else none) else impl_DecodeQuoted.j1 (k2 + 2) s acc (i : Int) (bt s (i : Int)) false) else impl_DecodeQuoted.j1 (k2 + 2) s acc (i : Int) (bt s (i : Int)) false) = some (unq out ok) := by
            obtain ⟨out, ok, g1, g2⟩ := app (bt s (i : Int)) (k + 1) (k2 + 1) (i + 1) (by omega) (by omega) (by omega) (by omega)
            by_cases b10 : bt s (i : Int) = 10
            · rw [if_pos b10, if_pos b10, if_pos hacc]
              exact ⟨out, ok, g1, imp_app out ok g2⟩
            · rw [if_neg b10, if_neg b10]
              unfold spec_l1Blank.f
              rw [if_pos a0, if_pos a1, w1]
              have bad := imp_bad b61
              by_cases bl : (bt s (i : Int) == 32 || bt s (i : Int) == 9) = true
              · have bl2 : bt s (i : Int) = 32 ∨ bt s (i : Int) = 9 := by simpa using bl
                rw [if_pos bl]
                by_cases hn1 : i + 1 < s.size
                · have hn2 : ((i + 1 : Nat) : Int) < (s.size : Int) := by omega
                  simp only [if_pos hn2, if_pos p1]
                  have e : (if bt s (i : Int) = 32 then some (bt s ((i + 1 : Nat) : Int) != 10) else if bt s (i : Int) = 9 then some (bt s ((i + 1 : Nat) : Int) != 10) else some false) = some (bt s ((i + 1 : Nat) : Int) != 10) := by
                    rcases bl2 with h | h
                    · rw [if_pos h]
                    · rw [if_neg (by omega), if_pos h]
                  rw [e, Option.bind_some]
                  cases bt s ((i + 1 : Nat) : Int) != 10 with
                  | true => rw [if_pos rfl, if_pos hacc]; exact ⟨out, ok, g1, imp_app out ok g2⟩
                  | false => rw [if_neg (by decide)]; exact ⟨[], false, rfl, bad⟩
                · have hn2 : ¬ ((i + 1 : Nat) : Int) < (s.size : Int) := by omega
                  simp only [if_neg hn2]
                  have e : (if bt s (i : Int) = 32 then some false else if bt s (i : Int) = 9 then some false else some false) = some false := by
                    split
                    · rfl
                    · split <;> rfl
                  rw [e, Option.bind_some, if_neg (by decide)]
                  exact ⟨[], false, rfl, bad⟩
              · rw [if_neg bl]
                have bl2 : bt s (i : Int) ≠ 32 ∧ bt s (i : Int) ≠ 9 := by simpa using bl
                rw [if_neg bl2.1, if_neg bl2.2, Option.bind_some, if_neg (by decide)]
                exact ⟨[], false, rfl, bad⟩
          by_cases c1 : bt s (i : Int) ≥ 33
          · rw [if_pos c1, if_neg (by omega)]; exact rest
          · rw [if_neg c1]; exact rest
    · have hn : ¬ ((i : Int) < (s.size : Int)) := by omega
      refine ⟨acc, true, ?_, ?_⟩
      · rw [spec_l1Unquote.l0, if_neg hn]
      · rw [impl_DecodeQuoted.l0, if_neg hn]; unfold unq; rw [if_pos rfl]; split <;> rfl
theorem unq_len (out : List Int) (ok : Bool) : (unq out ok).2.length ≤ 400 := by
  unfold unq
  by_cases h : ok = true
  · rw [if_pos h]
    by_cases h2 : (out.length : Int) > 400
    · rw [if_pos h2]; simp
    · rw [if_neg h2]; show out.length ≤ 400; omega
  · rw [if_neg h]; simp
theorem DecodeQuoted_both (s : ByteArray) (hs : s.size ≤ 1048576) (k : Nat) (hk : 3 * s.size + 10 < k) : ∃ r : Int × List Int, r.2.length ≤ 400 ∧ spec_DecodeQuoted.f k s = some r ∧ impl_DecodeQuoted.f k s = some r := by
  unfold spec_DecodeQuoted.f impl_DecodeQuoted.f
  by_cases h : (s.size : Int) > 1600
  · exact ⟨(2, []), by simp, by rw [if_pos h], by rw [if_pos h]⟩
  · obtain ⟨out, ok, g1, g2⟩ := unquote_both s hs s.size k k 0 [] (by omega) (by omega) (by omega) (by omega) (by simp; omega)
    refine ⟨unq out ok, unq_len out ok, ?_, by rw [if_neg h]; exact g2⟩
    rw [if_neg h]
    unfold spec_l1Unquote.f
    have g1' : spec_l1Unquote.l0 k s [] 0 = some (out, ok) := g1
    rw [g1', Option.bind_some]
    unfold unq
    cases ok with
    | false => rfl
    | true =>
      rw [if_pos rfl, if_pos rfl]
      split <;> rfl
/-- The two digits and the letters of a quoted text, as a plain law. -/
def hx (n : Int) : Int := bt (⟨#[48, 49, 50, 51, 52, 53, 54, 55, 56, 57, 65, 66, 67, 68, 69, 70]⟩ : ByteArray) n
def keepB (b : Int) (rest : List Int) : Bool := (decide (33 ≤ b ∧ b ≤ 126) && b != 61) || b == 10 || ((b == 32 || b == 9) && match rest with | [] => false | c :: _ => c != 10)
def qs : List Int → List Int
  | [] => []
  | b :: rest => if keepB b rest = true then b :: qs rest else 61 :: hx (b / 16) :: hx (b % 16) :: qs rest
theorem qs_len : ∀ l, (qs l).length ≤ 3 * l.length
  | [] => by simp [qs]
  | b :: rest => by
    have := qs_len rest
    unfold qs
    split <;> simp <;> omega
theorem strOfNums_size (l : List Int) : (strOfNums l).size = l.length := by
  show (strOfNums l).data.size = _
  simp [strOfNums]
theorem bytesOf_strOfNums (l : List Int) (h : ∀ x ∈ l, 0 ≤ x ∧ x ≤ 255) : bytesOf (strOfNums l) = l := by
  unfold bytesOf strOfNums
  simp only [List.map_map]
  conv => rhs; rw [← List.map_id l]
  apply List.map_congr_left
  intro x hx
  have := h x hx
  simp only [Function.comp, id]
  rw [UInt8.toNat_ofNat_of_lt' (by show x.toNat < 256; omega)]
  omega
theorem strOfNums_bytesOf (s : ByteArray) : strOfNums (bytesOf s) = s := by
  unfold bytesOf strOfNums
  rw [List.map_map]
  have h : (s.data.toList.map ((fun n : Int => UInt8.ofNat n.toNat) ∘ fun b : UInt8 => (b.toNat : Int))) = s.data.toList := by
    conv => rhs; rw [← List.map_id s.data.toList]
    apply List.map_congr_left
    intro x _
    simp
  rw [h]
theorem bytesOf_in (s : ByteArray) : ∀ x ∈ bytesOf s, 0 ≤ x ∧ x ≤ 255 := by
  intro x hx
  obtain ⟨b, _, rfl⟩ := List.mem_map.1 hx
  have := UInt8.toNat_lt b
  omega
theorem bt_strOfNums (l : List Int) (h : ∀ x ∈ l, 0 ≤ x ∧ x ≤ 255) (i : Nat) (hi : i < l.length) : bt (strOfNums l) (i : Int) = l[i] := by
  rw [← rd_bytesOf, bytesOf_strOfNums l h, rd_at l i hi]
theorem hv_hx : ∀ n : Fin 16, hv (hx (n.val : Int)) = (n.val : Int) ∧ 48 ≤ hx (n.val : Int) ∧ hx (n.val : Int) ≤ 70 := by decide +kernel
theorem hv_hx_eq (n : Int) (h : 0 ≤ n ∧ n ≤ 15) : hv (hx n) = n ∧ 48 ≤ hx n ∧ hx n ≤ 70 := by
  have := hv_hx ⟨n.toNat, by omega⟩
  simpa [Int.toNat_of_nonneg h.1] using this
theorem bt_drop (s : ByteArray) (i : Nat) (b : Int) (q : List Int) (h : (bytesOf s).drop i = b :: q) : i < s.size ∧ bt s (i : Int) = b ∧ (bytesOf s).drop (i + 1) = q := by
  have hlt : i < (bytesOf s).length := by
    rcases Nat.lt_or_ge i (bytesOf s).length with h' | h'
    · exact h'
    · rw [List.drop_eq_nil_of_le h'] at h; cases h
  rw [List.drop_eq_getElem_cons hlt] at h
  injection h with h1 h2
  refine ⟨by rwa [bytesOf_length] at hlt, ?_, h2⟩
  rw [← rd_bytesOf, rd_at _ i hlt, h1]
theorem qs_head (c : Int) (r : List Int) : ∃ c' q, qs (c :: r) = c' :: q ∧ (c ≠ 10 → c' ≠ 10) := by
  unfold qs
  split
  · exact ⟨c, _, rfl, fun h => h⟩
  · exact ⟨61, _, rfl, fun _ => by decide⟩
theorem keep_cases (b : Int) (rest : List Int) (h : keepB b rest = true) : b ≠ 61 ∧ ((33 ≤ b ∧ b ≤ 126) ∨ b = 10 ∨ ((b = 32 ∨ b = 9) ∧ ∃ c r, rest = c :: r ∧ c ≠ 10)) := by
  unfold keepB at h
  simp only [Bool.or_eq_true, Bool.and_eq_true, decide_eq_true_eq, bne_iff_ne, ne_eq, beq_iff_eq] at h
  rcases h with (⟨h1, h2⟩ | h1) | ⟨h1, h2⟩
  · exact ⟨h2, .inl h1⟩
  · exact ⟨by omega, .inr (.inl h1)⟩
  · refine ⟨by omega, .inr (.inr ⟨h1, ?_⟩)⟩
    cases rest with
    | nil => simp at h2
    | cons c r => exact ⟨c, r, rfl, by simpa using h2⟩
theorem w124 (i : Nat) (h : i ≤ 1048576) : wrap64 ((i : Int) + 1) = ((i + 1 : Nat) : Int) ∧ wrap64 ((i : Int) + 2) = ((i + 1 + 1 : Nat) : Int) ∧ wrap64 (((i + 1 + 1 : Nat) : Int) + 1) = ((i + 1 + 1 + 1 : Nat) : Int) := by
  refine ⟨?_, ?_, ?_⟩
  · rw [wrap64_in (by omega)]; omega
  · rw [wrap64_in (by omega)]; omega
  · rw [wrap64_in (by omega)]; omega
theorem hex_S (k : Nat) (p : Int) (hp : 0 ≤ p ∧ p ≤ 15) : spec_l1HexValue.f (k + 1) (hx p) = some p ∧ (hx p == 10) = false := by
  obtain ⟨u1, u2, u3⟩ := hv_hx_eq p hp
  have := (spec_l1HexValue_eq k (hx p) ⟨by omega, by omega⟩).1
  rw [u1] at this
  refine ⟨this, ?_⟩
  rw [beq_eq_false_iff_ne]
  omega
theorem unq_qs (s : ByteArray) (hs : s.size ≤ 1048576) : ∀ (rest : List Int) (k i : Nat) (acc : List Int), (bytesOf s).drop i = qs rest → (∀ x ∈ rest, 0 ≤ x ∧ x ≤ 255) → 2 * rest.length + 2 < k → acc.length + rest.length ≤ 4194304 → spec_l1Unquote.l0 k s acc (i : Int) = some (acc ++ rest, true)
  | [], k, i, acc, h, _, hk, _ => by
    obtain ⟨k, rfl⟩ : ∃ m, k = m + 1 := ⟨k - 1, by omega⟩
    have hn : ¬ ((i : Int) < (s.size : Int)) := by
      intro hlt
      have h1 : (bytesOf s).length ≤ i := List.drop_eq_nil_iff.1 h
      rw [bytesOf_length] at h1
      omega
    rw [spec_l1Unquote.l0, if_neg hn, List.append_nil]
  | b :: rest, k, i, acc, h, hB, hk, ha => by
    obtain ⟨k, rfl⟩ : ∃ m, k = m + 2 := ⟨k - 2, by omega⟩
    simp only [List.length_cons] at hk ha
    have hb := hB b (by simp)
    have hB' : ∀ x ∈ rest, 0 ≤ x ∧ x ≤ 255 := fun x hx => hB x (by simp [hx])
    have a0 : (0 : Int) ≤ (i : Int) := by omega
    have hacc : acc.length < 140737488355328 := by omega
    unfold qs at h
    by_cases hkp : keepB b rest = true
    · rw [if_pos hkp] at h
      obtain ⟨h1, h2, h3⟩ := bt_drop s i b _ h
      have a1 : (i : Int) < (s.size : Int) := by omega
      have w1 : wrap64 ((i : Int) + 1) = ((i + 1 : Nat) : Int) := by rw [wrap64_in (by omega)]; omega
      have ih := unq_qs s hs rest (k + 1) (i + 1) (acc ++ [b]) h3 hB' (by omega) (by rw [List.length_append, List.length_singleton]; omega)
      rw [List.append_assoc] at ih
      obtain ⟨n61, hc⟩ := keep_cases b rest hkp
      rw [spec_l1Unquote.l0, if_pos a1, if_pos a0, h2, if_neg n61, if_pos hacc, w1, ih]
      rcases hc with hc | hc | ⟨hc, c, r, rfl, hc10⟩
      · rw [if_pos hc.1, if_pos hc.2]; rfl
      · subst hc
        rw [if_neg (by decide), if_pos rfl]; rfl
      · obtain ⟨c', q', hq, hq10⟩ := qs_head c r
        rw [hq] at h3
        obtain ⟨g1, g2, _⟩ := bt_drop s (i + 1) c' q' h3
        have hbl : spec_l1Blank.f s (i : Int) = some true := by
          unfold spec_l1Blank.f
          have e1 : ((i + 1 : Nat) : Int) < (s.size : Int) := by omega
          have e2 : (0 : Int) ≤ ((i + 1 : Nat) : Int) := by omega
          have e3 : (c' != 10) = true := by simpa using hq10 hc10
          rw [if_pos a0, if_pos a1, h2, w1, if_pos e1, if_pos e2, g2, e3]
          rcases hc with rfl | rfl
          · rfl
          · rfl
        rw [if_neg (by omega), if_neg (by omega), hbl, Option.bind_some, if_pos rfl]; rfl
    · rw [if_neg hkp] at h
      have z3 : wrap64 (wrap64 (16 * (b / 16)) + b % 16) % 256 = b := by
        rw [wrap64_in (n := 16 * (b / 16)) (by omega), wrap64_in (by omega)]; omega
      have hp : 0 ≤ b / 16 ∧ b / 16 ≤ 15 := by omega
      have hq : 0 ≤ b % 16 ∧ b % 16 ≤ 15 := by omega
      generalize b / 16 = p at h z3 hp
      generalize b % 16 = q at h z3 hq
      obtain ⟨h1, h2, h3⟩ := bt_drop s i 61 _ h
      obtain ⟨g1, g2, g3⟩ := bt_drop s (i + 1) _ _ h3
      obtain ⟨e1, e2, e3⟩ := bt_drop s (i + 1 + 1) _ _ g3
      have a1 : (i : Int) < (s.size : Int) := by omega
      have x1 : ((i + 1 : Nat) : Int) < (s.size : Int) := by clear z3; omega
      have x2 : (0 : Int) ≤ ((i + 1 : Nat) : Int) := by clear z3; omega
      have y1 : ((i + 1 + 1 : Nat) : Int) < (s.size : Int) := by clear z3; omega
      have y2 : (0 : Int) ≤ ((i + 1 + 1 : Nat) : Int) := by clear z3; omega
      have y3 : ¬ ((i + 1 + 1 : Nat) : Int) ≥ (s.size : Int) := by clear z3; omega
      have z1 : ¬ p < 0 := by clear z3; omega
      have z2 : ¬ q < 0 := by clear z3; omega
      have ih := unq_qs s hs rest k (i + 1 + 1 + 1) (acc ++ [b]) e3 hB' (by clear z3; omega) (by rw [List.length_append, List.length_singleton]; clear z3; omega)
      obtain ⟨k, rfl⟩ : ∃ m, k = m + 1 := ⟨k - 1, by clear z3; omega⟩
      obtain ⟨w1, w2, w4⟩ := w124 i (by clear z3; omega)
      rw [List.append_assoc] at ih
      obtain ⟨S1, q0⟩ := hex_S k p hp
      obtain ⟨S2, _⟩ := hex_S k q hq
      rw [spec_l1Unquote.l0, if_pos a1, if_pos a0, h2, if_pos rfl, w1, if_pos x1, if_pos x2, g2, q0, spec_l1Unquote.j1]
      simp only [Bool.false_eq_true, if_false, w1, w2, if_neg y3, if_pos x1, if_pos x2, g2, S1, Option.bind_some, if_pos y1, if_pos y2, e2, S2, if_neg z1, if_neg z2, if_pos hacc, z3, w4, ih]
      rfl
theorem qs_ge : ∀ l, l.length ≤ (qs l).length
  | [] => by simp [qs]
  | b :: rest => by
    have := qs_ge rest
    unfold qs
    split <;> simp <;> omega
theorem qs_plain : ∀ l, (∀ x ∈ l, 0 ≤ x ∧ x ≤ 255) → ∀ x ∈ qs l, 1 ≤ x ∧ x ≤ 127
  | [], _, x, hx => by simp [qs] at hx
  | b :: rest, h, x, hx => by
    have hb := h b (by simp)
    have ih := qs_plain rest (fun y hy => h y (by simp [hy]))
    unfold qs at hx
    split at hx
    · rename_i hk
      rcases List.mem_cons.1 hx with rfl | hx
      · have := (keep_cases _ _ hk).2
        rcases this with h1 | h1 | ⟨h1, _⟩ <;> omega
      · exact ih x hx
    · have hp : 0 ≤ b / 16 ∧ b / 16 ≤ 15 := by omega
      have hq : 0 ≤ b % 16 ∧ b % 16 ≤ 15 := by omega
      generalize b / 16 = p at hx hp
      generalize b % 16 = q at hx hq
      obtain ⟨u2, u3⟩ := (hv_hx_eq p hp).2
      obtain ⟨v2, v3⟩ := (hv_hx_eq q hq).2
      rcases List.mem_cons.1 hx with rfl | hx
      · decide
      rcases List.mem_cons.1 hx with rfl | hx
      · clear v2 v3 ih; omega
      rcases List.mem_cons.1 hx with rfl | hx
      · clear u2 u3 ih; omega
      · exact ih x hx
theorem spec_l1Hex_eq (n : Int) (h : 0 ≤ n ∧ n < 16) : spec_l1Hex.f n = some (hx n) := by
  unfold spec_l1Hex.f hx
  rw [if_pos h.1, if_pos h.2]
theorem spec_l1Quoted.j1_eq (k : Nat) (L x3 : List Int) (i b : Int) (x6 : Bool) : spec_l1Quoted.j1 (k + 1) L x3 i b x6 = spec_l1Quoted.j2 k L x3 i b ((decide (33 ≤ b ∧ b ≤ 126) && b != 61) || b == 10 || x6) := by
  unfold spec_l1Quoted.j1
  by_cases h1 : b ≥ 33
  · rw [if_pos h1]
    by_cases h2 : b ≤ 126
    · rw [if_pos h2]
      by_cases h3 : b = 61
      · subst h3
        rw [if_pos rfl, if_neg (by decide)]
        rfl
      · have h4 : (b != 61) = true := by simpa using h3
        rw [if_neg h3, h4, decide_eq_true (⟨h1, h2⟩ : 33 ≤ b ∧ b ≤ 126)]
        rfl
    · have h3 : b ≠ 10 := by omega
      have h4 : (b == 10) = false := by simpa using h3
      rw [if_neg h2, if_neg h3, h4, decide_eq_false (by omega : ¬ (33 ≤ b ∧ b ≤ 126))]
      simp
  · rw [if_neg h1, decide_eq_false (by omega : ¬ (33 ≤ b ∧ b ≤ 126))]
    by_cases h3 : b = 10
    · subst h3
      rw [if_pos rfl]
      rfl
    · have h4 : (b == 10) = false := by simpa using h3
      rw [if_neg h3, h4]
      simp
theorem spec_l1Quoted.l0_eq (L : List Int) (hb : L.length ≤ 1048576) (hB : ∀ x ∈ L, 0 ≤ x ∧ x ≤ 255) : ∀ (n k i : Nat) (x3 : List Int), L.length = i + n → 3 * n < k → x3.length + 3 * n < 140737488355328 → spec_l1Quoted.l0 k L x3 (i : Int) = some (strOfNums (x3 ++ qs (L.drop i)))
  | 0, 0, _, _, _, h, _ => absurd h (by omega)
  | 0, k + 1, i, x3, hi, _, _ => by
    have h1 : ¬ ((i : Int) < (L.length : Int)) := by omega
    unfold spec_l1Quoted.l0
    rw [if_neg h1, List.drop_eq_nil_of_le (by omega)]
    simp [qs]
  | n + 1, 0, _, _, _, h, _ => absurd h (by omega)
  | n + 1, 1, _, _, _, h, _ => absurd h (by omega)
  | n + 1, 2, _, _, _, h, _ => absurd h (by omega)
  | n + 1, k + 3, i, x3, hi, h, hx3 => by
    have h1 : (i : Int) < (L.length : Int) := by omega
    have h2 : (0 : Int) ≤ (i : Int) := by omega
    have h4 : wrap64 ((i : Int) + 1) = ((i + 1 : Nat) : Int) := by rw [wrap64_in (by omega)]; omega
    have hlt : i < L.length := by omega
    have hbb := hB L[i] (List.getElem_mem hlt)
    have ih := fun x => spec_l1Quoted.l0_eq L hb hB n k (i + 1) x (by omega) (by omega)
    have hd : L.drop i = L[i] :: L.drop (i + 1) := List.drop_eq_getElem_cons hlt
    have hrd : rd L (i : Int) = L[i] := rd_at L i hlt
    have hj : spec_l1Quoted.l0 (k + 3) L x3 (i : Int) = spec_l1Quoted.j1 (k + 2) L x3 i L[i] ((L[i] == 32 || L[i] == 9) && match L.drop (i + 1) with | [] => false | c :: _ => c != 10) := by
      conv => lhs; unfold spec_l1Quoted.l0
      rw [if_pos h1, if_pos h2, hrd, h4]
      by_cases h6 : i + 1 < L.length
      · have hd2 : L.drop (i + 1) = L[i + 1] :: L.drop (i + 1 + 1) := List.drop_eq_getElem_cons h6
        have hrd2 : rd L ((i + 1 : Nat) : Int) = L[i + 1] := rd_at L (i + 1) h6
        rw [hd2, hrd2, if_pos (by omega : ((i + 1 : Nat) : Int) < (L.length : Int)), if_pos (by omega : (0 : Int) ≤ ((i + 1 : Nat) : Int))]
        generalize L[i + 1] = c
        generalize L[i] = b
        by_cases h7 : b = 32
        · subst h7; rw [if_pos rfl]; rfl
        · rw [if_neg h7]
          by_cases h8 : b = 9
          · subst h8; rw [if_pos rfl]; rfl
          · have h9 : (b == 32) = false := by simpa using h7
            have h10 : (b == 9) = false := by simpa using h8
            rw [if_neg h8, h9, h10]; rfl
      · have hd2 : L.drop (i + 1) = [] := List.drop_eq_nil_of_le (by omega)
        rw [hd2, if_neg (by omega : ¬ ((i + 1 : Nat) : Int) < (L.length : Int))]
        generalize L[i] = b
        simp
    rw [hj, spec_l1Quoted.j1_eq, hd]
    have hk : ((decide (33 ≤ L[i] ∧ L[i] ≤ 126) && L[i] != 61) || L[i] == 10 || ((L[i] == 32 || L[i] == 9) && match L.drop (i + 1) with | [] => false | c :: _ => c != 10)) = keepB L[i] (L.drop (i + 1)) := rfl
    rw [hk]
    unfold qs
    generalize L[i] = b at hbb
    cases keepB b (L.drop (i + 1)) with
    | true =>
      unfold spec_l1Quoted.j2
      rw [if_pos rfl, if_pos rfl, if_pos (by omega), h4, ih _ (by simp; omega)]
      simp
    | false =>
      have ht : Int.tdiv b 16 % 256 = b / 16 := by rw [Int.tdiv_eq_ediv_of_nonneg hbb.1]; omega
      have hm : Int.tmod b 16 = b % 16 := Int.tmod_eq_emod_of_nonneg hbb.1
      unfold spec_l1Quoted.j2
      rw [if_neg (by decide), if_neg (by decide), ht, hm, spec_l1Hex_eq _ (by omega), spec_l1Hex_eq _ (by omega)]
      simp only [Option.bind_some]
      rw [if_pos (by simp; omega), h4, ih _ (by simp; omega)]
      simp
theorem spec_l1Quoted_eq (L : List Int) (k : Nat) (hb : L.length ≤ 1048576) (hB : ∀ x ∈ L, 0 ≤ x ∧ x ≤ 255) (hk : 3 * L.length < k) : spec_l1Quoted.f k L = some (strOfNums (qs L)) := by
  unfold spec_l1Quoted.f
  have := spec_l1Quoted.l0_eq L hb hB L.length k 0 [] (by omega) hk (by simp; omega)
  simpa using this
theorem hexOf256 : ∀ b : Fin 256, (impl_hexOf.f (b.val : Int)).map (fun s => s.data.toList) = some ([61, hx ((b.val : Int) / 16), hx ((b.val : Int) % 16)].map fun n => UInt8.ofNat n.toNat) := by decide +kernel
theorem impl_hexOf_eq (b : Int) (h : 0 ≤ b ∧ b ≤ 255) : (impl_hexOf.f b).map (fun s => s.data.toList) = some ([61, hx (b / 16), hx (b % 16)].map fun n => UInt8.ofNat n.toNat) := by
  have := hexOf256 ⟨b.toNat, by omega⟩
  simpa [Int.toNat_of_nonneg h.1] using this
theorem impl_EncodeQuoted.q_eq : ∀ (l : List Int), (∀ x ∈ l, 0 ≤ x ∧ x ≤ 255) → impl_EncodeQuoted.q l = some ((qs l).map fun n => UInt8.ofNat n.toNat)
  | [], _ => rfl
  | b :: rest, h => by
    have hb := h b (by simp)
    have hx1 := impl_hexOf_eq b hb
    unfold impl_EncodeQuoted.q impl_EncodeQuoted.one qs
    rw [impl_EncodeQuoted.q_eq rest (fun x hx => h x (by simp [hx]))]
    have hk : impl_EncodeQuoted.keep b rest = keepB b rest := rfl
    rw [hk]
    cases keepB b rest with
    | true => simp
    | false =>
      rw [if_neg (by decide), if_neg (by decide), hx1]
      simp
theorem impl_EncodeQuoted_eq (l : List Int) (h : ∀ x ∈ l, 0 ≤ x ∧ x ≤ 255) : impl_EncodeQuoted.f l = some (if 400 < l.length then (2, ⟨#[]⟩) else (0, strOfNums (qs l))) := by
  unfold impl_EncodeQuoted.f
  by_cases hl : 400 < l.length
  · rw [if_pos hl, if_pos hl]
  · have ha : l.all (fun x => decide (0 ≤ x ∧ x ≤ 255)) = true := by
      rw [List.all_eq_true]; intro x hx; exact decide_eq_true (h x hx)
    rw [if_neg hl, if_neg hl, if_pos ha, impl_EncodeQuoted.q_eq l h]
    rfl
def plainB (x : Int) : Bool := decide (1 ≤ x) && decide (x ≤ 127)
theorem spec_l1Plain.l0_eq (x0 : List Int) (hb : x0.length ≤ maxLen) : ∀ (n k i : Nat), x0.length = i + n → n < k → spec_l1Plain.l0 k x0 (i : Int) = some ((x0.drop i).all plainB)
  | 0, 0, _, _, h => absurd h (by omega)
  | 0, k + 1, i, hi, _ => by
    have h1 : ¬ ((i : Int) < (x0.length : Int)) := by omega
    simp only [spec_l1Plain.l0, if_neg h1]
    rw [List.drop_eq_nil_of_le (by omega)]
    rfl
  | n + 1, 0, _, _, h => absurd h (by omega)
  | n + 1, k + 1, i, hi, h => by
    have hm := maxLen_le
    have h1 : (i : Int) < (x0.length : Int) := by omega
    have h2 : (0 : Int) ≤ (i : Int) := by omega
    have h4 : wrap64 ((i : Int) + 1) = ((i + 1 : Nat) : Int) := by rw [wrap64_in (by omega)]; omega
    simp only [spec_l1Plain.l0]
    rw [if_pos h1, if_pos h2, h4, rd_at x0 i (by omega), List.drop_eq_getElem_cons (by omega), List.all_cons, spec_l1Plain.l0_eq x0 hb n k (i + 1) (by omega) (by omega)]
    generalize x0[i] = y
    unfold plainB
    by_cases h5 : y < 1
    · rw [if_pos h5, decide_eq_false (by omega : ¬ 1 ≤ y)]; rfl
    · rw [if_neg h5, decide_eq_true (by omega : 1 ≤ y)]
      by_cases h6 : y > 127
      · rw [if_pos h6, decide_eq_false (by omega : ¬ y ≤ 127)]; rfl
      · rw [if_neg h6, decide_eq_true (by omega : y ≤ 127)]; rfl
theorem spec_l1Plain_eq (l : List Int) (k : Nat) (hb : l.length ≤ maxLen) (hk : l.length < k) : spec_l1Plain.f k l = some (l.all plainB) := by
  unfold spec_l1Plain.f
  have := spec_l1Plain.l0_eq l hb l.length k 0 (by omega) hk
  simpa using this
theorem any_all (l : List Int) : (!(l.any impl_IsPlain.p)) = l.all plainB := by
  induction l with
  | nil => rfl
  | cons x xs ih =>
    rw [List.any_cons, List.all_cons, Bool.not_or, ih]
    congr 1
    unfold impl_IsPlain.p plainB
    rw [Bool.eq_iff_iff]
    simp only [Bool.not_eq_true', Bool.or_eq_false_iff, decide_eq_false_iff_not, Bool.and_eq_true, decide_eq_true_eq]
    omega
theorem byte_wf {l : List Int} (h : ∀ x ∈ l, (Lit.int .u8 x).wf = true) : ∀ x ∈ l, 0 ≤ x ∧ x ≤ 255 := by
  intro x hx
  have h1 := h x hx
  unfold Lit.wf at h1
  rw [Bool.and_eq_true, decide_eq_true_eq, decide_eq_true_eq, show IntKind.u8.min = 0 from by decide, show IntKind.u8.max = 255 from by decide] at h1
  exact h1
theorem rd_byte {l : List Int} (h : ∀ x ∈ l, 0 ≤ x ∧ x ≤ 255) (j : Int) : 0 ≤ rd l j ∧ rd l j ≤ 255 := by
  unfold rd
  rw [List.getD_eq_getElem?_getD]
  cases hg : l[j.toNat]? with
  | none => simp
  | some v =>
    have := h v (List.mem_of_getElem? hg)
    simpa using this
theorem tmod_in (x n : Int) (hx : 0 ≤ x) (hn : 1 ≤ n) : 0 ≤ Int.tmod x n ∧ Int.tmod x n < n :=
  ⟨Int.tmod_nonneg _ hx, Int.tmod_lt_of_pos _ (by omega)⟩
/-- A draw tells a number below its bound. -/
theorem spec_l1Next_eq (l : List Int) (hB : ∀ x ∈ l, 0 ≤ x ∧ x ≤ 255) (hl : l.length ≤ 1048576) (i n : Int) (hi : 0 ≤ i ∧ i ≤ 4294967296) (hn : 1 ≤ n) : ∃ v, spec_l1Next.f l i n = some (v, i + 1) ∧ 0 ≤ v ∧ v < n := by
  unfold spec_l1Next.f
  have a1 : wrap64 (i + 1) = i + 1 := wrap64_in (by omega)
  have a2 : wrap64 (i + 1 - 1) = i := by rw [show i + 1 - 1 = i by omega]; exact wrap64_in (by omega)
  rw [a1, a2, if_neg (by omega)]
  by_cases h0 : (l.length : Int) = 0
  · have a3 : wrap64 (i * 7) = i * 7 := wrap64_in (by omega)
    rw [if_pos h0, if_neg (by omega), a3]
    exact ⟨_, rfl, tmod_in _ _ (by omega) hn⟩
  · rw [if_neg h0]
    have h1 := tmod_in i (l.length : Int) hi.1 (by omega)
    rw [if_pos h1.1, if_pos h1.2]
    have hd : 0 ≤ Int.tdiv i (l.length : Int) ∧ Int.tdiv i (l.length : Int) ≤ i := by
      rw [Int.tdiv_eq_ediv_of_nonneg hi.1]
      exact ⟨Int.ediv_nonneg hi.1 (by omega), Int.ediv_le_self _ hi.1⟩
    have hr1 := rd_byte hB (Int.tmod i (l.length : Int))
    generalize rd l (Int.tmod i (l.length : Int)) = r1 at hr1
    generalize Int.tdiv i (l.length : Int) = q at hd
    have b0 : wrap64 r1 = r1 := wrap64_in (by omega)
    have b1 : wrap64 q = q := wrap64_in (by omega)
    have b2 : wrap64 (q * 37) = q * 37 := wrap64_in (by omega)
    have b3 : wrap64 (r1 + q * 37) = r1 + q * 37 := wrap64_in (by omega)
    rw [b0, b1, b2, b3]
    by_cases h2 : n > 200
    · rw [if_pos h2, a1]
      have h3 := tmod_in (i + 1) (l.length : Int) (by omega) (by omega)
      rw [if_pos h3.1, if_pos h3.2, if_neg (by omega)]
      have hr2 := rd_byte hB (Int.tmod (i + 1) (l.length : Int))
      generalize rd l (Int.tmod (i + 1) (l.length : Int)) = r2 at hr2
      have c0 : wrap64 r2 = r2 := wrap64_in (by omega)
      have c1 : wrap64 ((r1 + q * 37) * 251) = (r1 + q * 37) * 251 := wrap64_in (by omega)
      have c2 : wrap64 (r2 * 13) = r2 * 13 := wrap64_in (by omega)
      have c3 : wrap64 ((r1 + q * 37) * 251 + r2 * 13) = (r1 + q * 37) * 251 + r2 * 13 := wrap64_in (by omega)
      have c4 : wrap64 ((r1 + q * 37) * 251 + r2 * 13 + i) = (r1 + q * 37) * 251 + r2 * 13 + i := wrap64_in (by omega)
      rw [c0, c1, c2, c3, c4]
      exact ⟨_, rfl, tmod_in _ _ (by omega) hn⟩
    · rw [if_neg h2, if_neg (by omega)]
      exact ⟨_, rfl, tmod_in _ _ (by omega) hn⟩
theorem spec_l1Pick_eq (l : List Int) (hB : ∀ x ∈ l, 0 ≤ x ∧ x ≤ 255) (hl : l.length ≤ 1048576) (i : Int) (hi : 0 ≤ i ∧ i ≤ 4294967296) (L : List Int) (hL : 1 ≤ L.length) : ∃ j : Nat, j < L.length ∧ spec_l1Pick.f l i L = some (rd L (j : Int), i + 1) := by
  obtain ⟨v, hv, h0, h1⟩ := spec_l1Next_eq l hB hl i (L.length : Int) hi (by omega)
  unfold spec_l1Pick.f
  rw [hv, Option.bind_some]
  refine ⟨v.toNat, by omega, ?_⟩
  rw [Int.toNat_of_nonneg h0]
  simp only
  rw [if_pos h0, if_pos h1]
theorem spec_l1Chance_eq (l : List Int) (hB : ∀ x ∈ l, 0 ≤ x ∧ x ≤ 255) (hl : l.length ≤ 1048576) (i n : Int) (hi : 0 ≤ i ∧ i ≤ 4294967296) (hn : 1 ≤ n) : ∃ b, spec_l1Chance.f l i n = some (b, i + 1) := by
  obtain ⟨v, hv, _, _⟩ := spec_l1Next_eq l hB hl i n hi hn
  unfold spec_l1Chance.f
  rw [hv]
  exact ⟨_, rfl⟩
theorem spec_l1Some.l0_eq (l : List Int) (hB : ∀ x ∈ l, 0 ≤ x ∧ x ≤ 255) (hl : l.length ≤ 1048576) : ∀ (n k : Nat) (acc : List Int) (i : Int), n < k → (0 ≤ i ∧ i + 2 * n ≤ 4294967296) → acc.length + n ≤ 1000 → (∀ x ∈ acc, 0 ≤ x ∧ x ≤ 255) → ∃ out, spec_l1Some.l0 k (n : Int) acc l i = some (out, i + 2 * n) ∧ out.length = acc.length + n ∧ ∀ x ∈ out, 0 ≤ x ∧ x ≤ 255
  | _, 0, _, _, h, _, _, _ => absurd h (by omega)
  | 0, k + 1, acc, i, _, hi, ha, hx => by
    unfold spec_l1Some.l0
    rw [if_neg (by omega)]
    exact ⟨acc, by simp, by simp, hx⟩
  | n + 1, k + 1, acc, i, h, hi, ha, hx => by
    obtain ⟨v, hv, h0, h1⟩ := spec_l1Next_eq l hB hl i 256 (by omega) (by omega)
    obtain ⟨j, hj, hp⟩ := spec_l1Pick_eq l hB hl (i + 1) (by omega) ([v, 97, 32, 10, 61, 122] : List Int) (by simp)
    have hw : wrap64 (((n + 1 : Nat) : Int) - 1) = (n : Int) := by rw [wrap64_in (by omega)]; omega
    unfold spec_l1Some.l0
    rw [if_pos (by omega), hv, Option.bind_some, hp, Option.bind_some, if_pos (by omega), hw]
    generalize rd [v, 97, 32, 10, 61, 122] (j : Int) = y
    obtain ⟨out, ho, hlen, hb⟩ := spec_l1Some.l0_eq l hB hl n k (acc ++ [y % 256]) (i + 1 + 1) (by omega) (by omega) (by simp; omega) (by
      intro x hx'
      rcases List.mem_append.1 hx' with h' | h'
      · exact hx x h'
      · rw [List.mem_singleton.1 h']; omega)
    refine ⟨out, ?_, by simp at hlen; omega, hb⟩
    rw [ho]
    congr 2
    omega
theorem spec_l1Some_eq (l : List Int) (hB : ∀ x ∈ l, 0 ≤ x ∧ x ≤ 255) (hl : l.length ≤ 1048576) (n k : Nat) (i : Int) (hk : n < k) (hi : 0 ≤ i ∧ i + 2 * n ≤ 4294967296) (hn : n ≤ 1000) : ∃ out, spec_l1Some.f k l i (n : Int) = some (out, i + 2 * n) ∧ out.length = n ∧ ∀ x ∈ out, 0 ≤ x ∧ x ≤ 255 := by
  obtain ⟨out, h1, h2, h3⟩ := spec_l1Some.l0_eq l hB hl n k [] i hk hi (by simpa using hn) (by simp)
  exact ⟨out, h1, by simpa using h2, h3⟩
theorem spec_l1Long_eq (l : List Int) (hB : ∀ x ∈ l, 0 ≤ x ∧ x ≤ 255) (hl : l.length ≤ 1048576) (k : Nat) (i : Int) (hk : 16 ≤ k) (hi : 0 ≤ i ∧ i ≤ 1000000) : ∃ out j, spec_l1Long.f k l i = some (out, j) ∧ out.length ≤ 401 ∧ (∀ x ∈ out, 0 ≤ x ∧ x ≤ 255) ∧ i ≤ j ∧ j ≤ i + 40 := by
  obtain ⟨b, hb⟩ := spec_l1Chance_eq l hB hl i 30 (by omega) (by omega)
  unfold spec_l1Long.f
  rw [hb, Option.bind_some]
  cases b with
  | true =>
    obtain ⟨j, hj, hp⟩ := spec_l1Pick_eq l hB hl (i + 1) (by omega) ([400, 401] : List Int) (by decide)
    simp only [if_true]
    rw [hp, Option.bind_some]
    have h4 : rd [400, 401] (j : Int) = 400 ∨ rd [400, 401] (j : Int) = 401 := by
      have hj2 : j < 2 := hj
      rcases (by omega : j = 0 ∨ j = 1) with rfl | rfl
      · exact .inl rfl
      · exact .inr rfl
    simp only
    rw [if_pos (by omega), if_pos (by omega)]
    refine ⟨_, _, rfl, by simp; omega, ?_, by omega, by omega⟩
    intro x hx
    rw [(List.mem_replicate.1 hx).2]
    omega
  | false =>
    simp only [Bool.false_eq_true, if_false]
    obtain ⟨v, hv, h0, h1⟩ := spec_l1Next_eq l hB hl (i + 1) 14 (by omega) (by omega)
    obtain ⟨n, rfl⟩ := Int.eq_ofNat_of_zero_le h0
    obtain ⟨out, h2, h3, h4⟩ := spec_l1Some_eq l hB hl n k (i + 1 + 1) (by omega) (by omega) (by omega)
    rw [hv, Option.bind_some]
    simp only
    rw [h2]
    exact ⟨out, _, rfl, by omega, h4, by simp only; omega, by simp only; omega⟩
theorem spec_l1Bent_eq (l : List Int) (hB : ∀ x ∈ l, 0 ≤ x ∧ x ≤ 255) (hl : l.length ≤ 1048576) (i : Int) (hi : 0 ≤ i ∧ i ≤ 1000000) (L : List Int) (hL : L.length ≤ 1000000) : ∃ s j, spec_l1Bent.f l i L = some (s, j) ∧ s.size ≤ L.length + 4 := by
  obtain ⟨v, hv, h0, h1⟩ := spec_l1Next_eq l hB hl i 5 (by omega) (by omega)
  unfold spec_l1Bent.f
  rw [hv, Option.bind_some]
  simp only
  by_cases c0 : v = 0
  · rw [if_pos c0]
    by_cases c1 : (L.length : Int) > 0
    · obtain ⟨u, hu, u0, u1⟩ := spec_l1Next_eq l hB hl (i + 1) (L.length : Int) (by omega) (by omega)
      obtain ⟨j, hj, hp⟩ := spec_l1Pick_eq l hB hl (i + 1 + 1) (by omega) ([65, 61, 47, 32, 10, 200] : List Int) (by decide)
      rw [if_pos c1, hu, Option.bind_some]
      simp only
      rw [hp, Option.bind_some]
      simp only
      rw [if_pos u0, if_pos u1]
      exact ⟨_, _, rfl, by rw [strOfNums_size, List.length_set]; omega⟩
    · rw [if_neg c1]
      exact ⟨_, _, rfl, by rw [strOfNums_size]; omega⟩
  · rw [if_neg c0]
    by_cases c1 : v = 1
    · have w1 : wrap64 ((L.length : Int) + 1) = (L.length : Int) + 1 := wrap64_in (by omega)
      obtain ⟨u, hu, u0, u1⟩ := spec_l1Next_eq l hB hl (i + 1) ((L.length : Int) + 1) (by omega) (by omega)
      rw [if_pos c1, w1, hu, Option.bind_some]
      simp only
      rw [if_pos u0, if_pos (by omega)]
      exact ⟨_, _, rfl, by rw [strOfNums_size, List.length_take]; omega⟩
    · rw [if_neg c1]
      by_cases c2 : v = 2
      · obtain ⟨u, hu, u0, u1⟩ := spec_l1Next_eq l hB hl (i + 1) 6 (by omega) (by omega)
        have h6 : ∀ u : Fin 6, (rdOf ByteArray.empty [(⟨#[61]⟩ : ByteArray), (⟨#[61, 10]⟩ : ByteArray), (⟨#[32]⟩ : ByteArray), (⟨#[61, 52]⟩ : ByteArray), (⟨#[61, 61, 61, 61]⟩ : ByteArray), (⟨#[61, 51, 100]⟩ : ByteArray)] (u.val : Int)).size ≤ 4 := by decide
        have h7 := h6 ⟨u.toNat, by omega⟩
        simp only [Int.toNat_of_nonneg u0] at h7
        rw [if_pos c2, Option.bind_some, hu, Option.bind_some]
        simp only
        rw [if_pos u0, if_pos (by show u < 6; exact u1), if_pos (by omega), Option.bind_some, if_pos (by rw [bytesOf_length]; omega)]
        exact ⟨_, _, rfl, by rw [strOfNums_size, List.length_append, bytesOf_length]; omega⟩
      · rw [if_neg c2]
        exact ⟨_, _, rfl, by rw [strOfNums_size]; omega⟩
theorem draw_quoted (l : List Int) (hB : ∀ x ∈ l, 0 ≤ x ∧ x ≤ 255) (hl : l.length ≤ 1048576) (k : Nat) (hk : 5000 ≤ k) : ∃ s, spec_DrawDecodeQuoted.f k l = some s ∧ s.size ≤ 1601 := by
  obtain ⟨b, hb⟩ := spec_l1Chance_eq l hB hl 0 40 (by omega) (by omega)
  unfold spec_DrawDecodeQuoted.f spec_l1Source.f
  simp only [Option.bind_some, hb]
  cases b with
  | true =>
    rw [if_pos rfl, if_pos (by omega)]
    exact ⟨_, rfl, by rw [strOfNums_size, List.length_replicate]; omega⟩
  | false =>
    rw [if_neg (by decide)]
    obtain ⟨v, hv, h0, h1⟩ := spec_l1Next_eq l hB hl (0 + 1) 9 (by omega) (by omega)
    obtain ⟨n, rfl⟩ := Int.eq_ofNat_of_zero_le h0
    obtain ⟨out, h2, h3, h4⟩ := spec_l1Some_eq l hB hl n k (0 + 1 + 1) (by omega) (by omega) (by omega)
    have hq := spec_l1Quoted_eq out k (by omega) h4 (by omega)
    have hqs := qs_len out
    rw [hv, Option.bind_some]
    simp only
    rw [h2, Option.bind_some]
    simp only
    rw [hq, Option.bind_some, if_pos (by rw [strOfNums_size]; omega)]
    obtain ⟨s, j, g1, g2⟩ := spec_l1Bent_eq l hB hl (0 + 1 + 1 + 2 * (n : Int)) (by omega) (bytesOf (strOfNums (qs out))) (by rw [bytesOf_length, strOfNums_size]; omega)
    rw [g1]
    exact ⟨s, rfl, by rw [bytesOf_length, strOfNums_size] at g2; omega⟩
theorem draw_bytes (l : List Int) (hB : ∀ x ∈ l, 0 ≤ x ∧ x ≤ 255) (hl : l.length ≤ 1048576) (k : Nat) (hk : 16 ≤ k) : ∃ out, spec_DrawEncodeQuoted.f k l = some out ∧ spec_DrawIsPlain.f k l = some out ∧ out.length ≤ 401 ∧ ∀ x ∈ out, 0 ≤ x ∧ x ≤ 255 := by
  obtain ⟨out, j, h1, h2, h3, _⟩ := spec_l1Long_eq l hB hl k 0 hk (by omega)
  refine ⟨out, ?_, ?_, h2, h3⟩
  · unfold spec_DrawEncodeQuoted.f spec_l1Source.f
    simp only [Option.bind_some, h1]
  · unfold spec_DrawIsPlain.f spec_l1Source.f
    simp only [Option.bind_some, h1]
theorem back_quoted (data : List Int) (hB : ∀ x ∈ data, 0 ≤ x ∧ x ≤ 255) (hl : data.length ≤ 400) (k : Nat) (hk : 5000 ≤ k) : impl_DecodeQuoted.f k (strOfNums (qs data)) = some (0, data) := by
  have hqs := qs_len data
  have hsz := strOfNums_size (qs data)
  have hp := qs_plain data hB
  obtain ⟨r, _, g1, g2⟩ := DecodeQuoted_both (strOfNums (qs data)) (by omega) k (by omega)
  have hby := bytesOf_strOfNums (qs data) (fun x hx => by have := hp x hx; omega)
  have hu : spec_l1Unquote.l0 k (strOfNums (qs data)) [] ((0 : Nat) : Int) = some ([] ++ data, true) := unq_qs _ (by omega) data k 0 [] (by rw [hby]; rfl) hB (by omega) (by simp; omega)
  unfold spec_DecodeQuoted.f spec_l1Unquote.f at g1
  rw [if_neg (by omega), show (0 : Int) = ((0 : Nat) : Int) from rfl, hu, Option.bind_some] at g1
  simp only [List.nil_append, if_true] at g1
  rw [if_neg (by omega)] at g1
  rw [g2, ← g1]
  rfl
theorem FnQuotes : laws_FnQuotes.Pure := by
  intro l hb _ hw
  have hB := byte_wf hw
  refine ⟨5000 + 1, ?_⟩
  generalize hk : 5000 = k
  unfold laws_FnQuotes.f laws_lwBig.f
  rw [Option.bind_some]
  by_cases hl : (l.length : Int) > 1048576
  · rw [decide_eq_true hl, if_pos rfl]
  · rw [decide_eq_false hl, if_neg (by decide)]
    obtain ⟨s, d1, hs⟩ := draw_quoted l hB (by omega) (k + 1) (by omega)
    obtain ⟨r, _, g1, g2⟩ := DecodeQuoted_both s (by omega) (k + 1) (by omega)
    rw [d1, Option.bind_some, g2, Option.bind_some, g1, Option.bind_some, if_pos rfl, Option.bind_some]
    unfold laws_lwSame.f
    rw [beq_self_eq_true, Option.bind_some, Bool.not_true, laws_FnQuotes.j0, if_neg (by decide)]
    obtain ⟨data, e1, e2, hdl, hdB⟩ := draw_bytes l hB (by omega) k (by omega)
    have hqs := qs_len data
    have hqg := qs_ge data
    rw [e1, Option.bind_some, impl_EncodeQuoted_eq data hdB, Option.bind_some]
    have hq := spec_l1Quoted_eq data k (by omega) hdB (by omega)
    by_cases h4 : 400 < data.length
    · have hs2 : spec_EncodeQuoted.f k data = some (2, ⟨#[]⟩) := by unfold spec_EncodeQuoted.f; rw [if_pos (by omega)]
      rw [if_pos h4, if_neg (by decide), hs2]
      rfl
    · have hs2 : spec_EncodeQuoted.f k data = some (0, strOfNums (qs data)) := by unfold spec_EncodeQuoted.f; rw [if_neg (by omega), hq]; rfl
      have hp := qs_plain data hdB
      have hby := bytesOf_strOfNums (qs data) (fun x hx => by have := hp x hx; omega)
      have hpl : impl_IsPlain.f (qs data) = some true := by
        unfold impl_IsPlain.f
        rw [any_all]
        congr 1
        rw [List.all_eq_true]
        intro x hx
        have := hp x hx
        simp [plainB, this]
      have hip : impl_IsPlain.f data = some (data.all plainB) := by unfold impl_IsPlain.f; rw [any_all]
      have hip2 : spec_IsPlain.f k data = some (data.all plainB) := by unfold spec_IsPlain.f; rw [spec_l1Plain_eq data k (by unfold maxLen; omega) (by omega)]; rfl
      have hsz := strOfNums_size (qs data)
      rw [if_neg h4, if_pos rfl, back_quoted data hdB (by omega) k (by omega), Option.bind_some, e2, Option.bind_some, if_pos rfl]
      unfold laws_lwSame.f
      rw [beq_self_eq_true, Option.bind_some, if_pos rfl, if_pos (by simp only; omega)]
      simp only
      rw [hby, hpl, Option.bind_some, if_pos rfl, if_pos (by omega), hip, Option.bind_some, hip2, Option.bind_some, beq_self_eq_true, if_pos rfl, hs2, Option.bind_some, beq_self_eq_true]

end Go.Proofs.Ytcmndjbokgaihaa.Pure
