/- The plain law: what the walk computes answers as the statement says. -/
import Derived.Test.YtcmndjbokgaihaaPFnNamesx3
namespace Go.Proofs.Ytcmndjbokgaihaa.Pure
open Go.RowKit Go.Proofs.Ytcmndjbokgaihaa.PFnNames Go.Proofs.YtcmndjbokgaihaaW.PrintWords Go.Proofs.YtcmndjbokgaihaaW.PrintLast
set_option linter.unusedSimpArgs false
set_option linter.unusedVariables false
theorem rd_at (l : List Int) (i : Nat) (h : i < l.length) : rd l (i : Int) = l[i] := by
  simp [rd, List.getD_eq_getElem?_getD, h]
theorem wrap64_in {n : Int} (h : -9223372036854775808 ≤ n ∧ n ≤ 9223372036854775807) : wrap64 n = n := by
  unfold wrap64; omega
theorem maxLen_le : maxLen ≤ 9223372036854775807 := by unfold maxLen; decide
theorem byte_wf {l : List Int} (h : ∀ x ∈ l, (Lit.int .u8 x).wf = true) : ∀ x ∈ l, 0 ≤ x ∧ x ≤ 255 := by
  intro x hx
  have h1 := h x hx
  unfold Lit.wf at h1
  rw [Bool.and_eq_true, decide_eq_true_eq, decide_eq_true_eq, show IntKind.u8.min = 0 from by decide, show IntKind.u8.max = 255 from by decide] at h1
  exact h1
theorem rd_byte {l : List Int} (h : ∀ x ∈ l, 0 ≤ x ∧ x ≤ 255) (j : Int) : 0 ≤ rd l j ∧ rd l j ≤ 255 := by
  unfold rd
  rw [List.getD_eq_getElem?_getD]
  cases hg : l[j.toNat]? with
  | none => simp
  | some v =>
    have := h v (List.mem_of_getElem? hg)
    simpa using this
theorem tmod_in (x n : Int) (hx : 0 ≤ x) (hn : 1 ≤ n) : 0 ≤ Int.tmod x n ∧ Int.tmod x n < n :=
  ⟨Int.tmod_nonneg _ hx, Int.tmod_lt_of_pos _ (by omega)⟩
/-- A draw tells a number below its bound. -/
theorem spec_l1Next_eq (l : List Int) (hB : ∀ x ∈ l, 0 ≤ x ∧ x ≤ 255) (hl : l.length ≤ 1048576) (i n : Int) (hi : 0 ≤ i ∧ i ≤ 4294967296) (hn : 1 ≤ n) : ∃ v, spec_l1Next.f l i n = some (v, i + 1) ∧ 0 ≤ v ∧ v < n := by
  unfold spec_l1Next.f
  have a1 : wrap64 (i + 1) = i + 1 := wrap64_in (by omega)
  have a2 : wrap64 (i + 1 - 1) = i := by rw [show i + 1 - 1 = i by omega]; exact wrap64_in (by omega)
  rw [a1, a2, if_neg (by omega)]
  by_cases h0 : (l.length : Int) = 0
  · have a3 : wrap64 (i * 7) = i * 7 := wrap64_in (by omega)
    rw [if_pos h0, if_neg (by omega), a3]
    exact ⟨_, rfl, tmod_in _ _ (by omega) hn⟩
  · rw [if_neg h0]
    have h1 := tmod_in i (l.length : Int) hi.1 (by omega)
    rw [if_pos h1.1, if_pos h1.2]
    have hd : 0 ≤ Int.tdiv i (l.length : Int) ∧ Int.tdiv i (l.length : Int) ≤ i := by
      rw [Int.tdiv_eq_ediv_of_nonneg hi.1]
      exact ⟨Int.ediv_nonneg hi.1 (by omega), Int.ediv_le_self _ hi.1⟩
    have hr1 := rd_byte hB (Int.tmod i (l.length : Int))
    generalize rd l (Int.tmod i (l.length : Int)) = r1 at hr1
    generalize Int.tdiv i (l.length : Int) = q at hd
    have b0 : wrap64 r1 = r1 := wrap64_in (by omega)
    have b1 : wrap64 q = q := wrap64_in (by omega)
    have b2 : wrap64 (q * 37) = q * 37 := wrap64_in (by omega)
    have b3 : wrap64 (r1 + q * 37) = r1 + q * 37 := wrap64_in (by omega)
    rw [b0, b1, b2, b3]
    by_cases h2 : n > 200
    · rw [if_pos h2, a1]
      have h3 := tmod_in (i + 1) (l.length : Int) (by omega) (by omega)
      rw [if_pos h3.1, if_pos h3.2, if_neg (by omega)]
      have hr2 := rd_byte hB (Int.tmod (i + 1) (l.length : Int))
      generalize rd l (Int.tmod (i + 1) (l.length : Int)) = r2 at hr2
      have c0 : wrap64 r2 = r2 := wrap64_in (by omega)
      have c1 : wrap64 ((r1 + q * 37) * 251) = (r1 + q * 37) * 251 := wrap64_in (by omega)
      have c2 : wrap64 (r2 * 13) = r2 * 13 := wrap64_in (by omega)
      have c3 : wrap64 ((r1 + q * 37) * 251 + r2 * 13) = (r1 + q * 37) * 251 + r2 * 13 := wrap64_in (by omega)
      have c4 : wrap64 ((r1 + q * 37) * 251 + r2 * 13 + i) = (r1 + q * 37) * 251 + r2 * 13 + i := wrap64_in (by omega)
      rw [c0, c1, c2, c3, c4]
      exact ⟨_, rfl, tmod_in _ _ (by omega) hn⟩
    · rw [if_neg h2, if_neg (by omega)]
      exact ⟨_, rfl, tmod_in _ _ (by omega) hn⟩
theorem spec_l1Pick_eq (l : List Int) (hB : ∀ x ∈ l, 0 ≤ x ∧ x ≤ 255) (hl : l.length ≤ 1048576) (i : Int) (hi : 0 ≤ i ∧ i ≤ 4294967296) (L : List Int) (hL : 1 ≤ L.length) : ∃ j : Nat, j < L.length ∧ spec_l1Pick.f l i L = some (rd L (j : Int), i + 1) := by
  obtain ⟨v, hv, h0, h1⟩ := spec_l1Next_eq l hB hl i (L.length : Int) hi (by omega)
  unfold spec_l1Pick.f
  rw [hv, Option.bind_some]
  refine ⟨v.toNat, by omega, ?_⟩
  rw [Int.toNat_of_nonneg h0]
  simp only
  rw [if_pos h0, if_pos h1]
def nm7 : List ByteArray := [(⟨#[117, 115, 45, 97, 115, 99, 105, 105]⟩ : ByteArray), (⟨#[85, 84, 70, 45, 56]⟩ : ByteArray), (⟨#[73, 83, 79, 45, 56, 56, 53, 57, 45, 49]⟩ : ByteArray), (⟨#[105, 115, 111, 45, 56, 56, 53, 57, 45, 53]⟩ : ByteArray), (⟨#[117, 116, 102, 45, 49, 54]⟩ : ByteArray), (⟨#[117, 116, 102, 56]⟩ : ByteArray), (⟨#[]⟩ : ByteArray)]
def nm5 : List ByteArray := [(⟨#[105, 59, 111, 99, 116, 101, 116]⟩ : ByteArray), (⟨#[105, 59, 97, 115, 99, 105, 105, 45, 99, 97, 115, 101, 109, 97, 112]⟩ : ByteArray), (⟨#[105, 59, 117, 110, 105, 99, 111, 100, 101, 45, 99, 97, 115, 101, 109, 97, 112]⟩ : ByteArray), (⟨#[73, 59, 79, 67, 84, 69, 84]⟩ : ByteArray), (⟨#[]⟩ : ByteArray)]
def cs9 : List Int := [1, 2, 3, 4, 5, 4, 3, 0, 6]
theorem charsets_ok : ∀ v : Fin 7, impl_CharsetOf.f 64 (rdOf ByteArray.empty nm7 (v.val : Int)) = spec_CharsetOf.f 64 (rdOf ByteArray.empty nm7 (v.val : Int)) ∧ (spec_CharsetOf.f 64 (rdOf ByteArray.empty nm7 (v.val : Int))).isSome = true := by decide +kernel
theorem comparators_ok : ∀ v : Fin 5, impl_ComparatorOf.f 63 (rdOf ByteArray.empty nm5 (v.val : Int)) = spec_ComparatorOf.f 63 (rdOf ByteArray.empty nm5 (v.val : Int)) ∧ (spec_ComparatorOf.f 63 (rdOf ByteArray.empty nm5 (v.val : Int))).isSome = true := by decide +kernel
theorem names_ok : ∀ v : Fin 9, (impl_CharsetName.f (rd cs9 (v.val : Int))).bind (fun bt205 => (if bt205.1 = 0 then ((impl_CharsetOf.f 62 bt205.2).bind fun bt208 => (if bt208.2 = (rd cs9 (v.val : Int)) then ((impl_CharsetOf.f 62 bt205.2).bind fun bt210 => (if bt210.1 = 0 then ((spec_CharsetName.f (rd cs9 (v.val : Int))).bind fun bt212 => (some (bt205.2.toList == bt212.2.toList))) else (some false))) else (some false))) else ((spec_CharsetName.f (rd cs9 (v.val : Int))).bind fun bt214 => (some (bt214.1 == bt205.1))))) = some true := by decide +kernel
theorem draw_charset (l : List Int) (hB : ∀ x ∈ l, 0 ≤ x ∧ x ≤ 255) (hl : l.length ≤ 1048576) : ∃ v : Fin 7, spec_DrawCharsetOf.f l = some (rdOf ByteArray.empty nm7 (v.val : Int)) := by
  obtain ⟨v, hv, h0, h1⟩ := spec_l1Next_eq l hB hl 0 7 (by omega) (by omega)
  refine ⟨⟨v.toNat, by omega⟩, ?_⟩
  unfold spec_DrawCharsetOf.f spec_l1Source.f
  simp only [Option.bind_some, hv]
  rw [if_pos h0]
  change (if v < 7 then some (rdOf ByteArray.empty nm7 v) else none) = _
  rw [if_pos h1, Int.toNat_of_nonneg h0]
theorem draw_comparator (l : List Int) (hB : ∀ x ∈ l, 0 ≤ x ∧ x ≤ 255) (hl : l.length ≤ 1048576) : ∃ v : Fin 5, spec_DrawComparatorOf.f l = some (rdOf ByteArray.empty nm5 (v.val : Int)) := by
  obtain ⟨v, hv, h0, h1⟩ := spec_l1Next_eq l hB hl 0 5 (by omega) (by omega)
  refine ⟨⟨v.toNat, by omega⟩, ?_⟩
  unfold spec_DrawComparatorOf.f spec_l1Source.f
  simp only [Option.bind_some, hv]
  rw [if_pos h0]
  change (if v < 5 then some (rdOf ByteArray.empty nm5 v) else none) = _
  rw [if_pos h1, Int.toNat_of_nonneg h0]
theorem draw_name (l : List Int) (hB : ∀ x ∈ l, 0 ≤ x ∧ x ≤ 255) (hl : l.length ≤ 1048576) : ∃ v : Fin 9, spec_DrawCharsetName.f l = some (rd cs9 (v.val : Int)) := by
  obtain ⟨j, hj, h⟩ := spec_l1Pick_eq l hB hl 0 (by omega) cs9 (by decide)
  refine ⟨⟨j, hj⟩, ?_⟩
  unfold spec_DrawCharsetName.f spec_l1Source.f spec_l2Draw.f
  simp only [Option.bind_some]
  change ((spec_l1Pick.f l 0 cs9).bind fun bt => some (bt.1, bt.2)).bind (fun bt => some bt.1) = _
  rw [h]
  rfl
theorem FnNames : laws_FnNames.Pure := by
  intro l hb _ hw
  have hB := byte_wf hw
  refine ⟨64, ?_⟩
  unfold laws_FnNames.f laws_lwBig.f
  rw [Option.bind_some]
  by_cases hl : (l.length : Int) > 1048576
  · rw [decide_eq_true hl, if_pos rfl]
  · rw [decide_eq_false hl, if_neg (by decide)]
    obtain ⟨v1, d1⟩ := draw_charset l hB (by omega)
    obtain ⟨v2, d2⟩ := draw_comparator l hB (by omega)
    obtain ⟨v3, d3⟩ := draw_name l hB (by omega)
    obtain ⟨e1, s1⟩ := charsets_ok v1
    obtain ⟨e2, s2⟩ := comparators_ok v2
    have e3 := names_ok v3
    obtain ⟨r1, hr1⟩ := Option.isSome_iff_exists.mp s1
    obtain ⟨r2, hr2⟩ := Option.isSome_iff_exists.mp s2
    rw [d1, Option.bind_some, e1, hr1, Option.bind_some, Option.bind_some, if_pos rfl, Option.bind_some, bne_self_eq_false]
    rw [laws_FnNames.j0, if_neg (by decide), d2, Option.bind_some, e2, hr2, Option.bind_some, Option.bind_some, if_pos rfl, Option.bind_some, bne_self_eq_false]
    rw [laws_FnNames.j1, if_neg (by decide), d3, Option.bind_some]
    exact e3

end Go.Proofs.Ytcmndjbokgaihaa.Pure
