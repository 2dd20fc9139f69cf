/- Arguments of more depth, opened for the printed rows: a slice of structs of two strings; a slice of slices of bytes. Plain theorems. -/
import Derived.SizedLaws
import Derived.ChangeSlices
import Derived.Deep.SlicePairs
import Derived.Deep.Matrix
import Derived.ChangeArms
import Derived.Test.YtecpanfndodjgaaWWords
set_option linter.unusedVariables false
set_option linter.unusedSimpArgs false
namespace Go.Proofs.YtecpanfndodjgaaW.PrintWords
open Go.ChangeShapes Go.WideShapes Go.Deep Go.RowKit
def strOf : Value → ByteArray
  | .string s => s
  | _ => ByteArray.empty
theorem maxLen_le : maxLen ≤ 9223372036854775807 := by unfold maxLen; decide
section
variable {H : Type} {enc : TypeId × Value → H} {P : Program} {W : World} {base : Nat} {held : Bool}
/-- A slice of structs of two strings, as a row of its own kind. -/
theorem open_pairs {spare : Nat → Bool} {α : Type} (d : Kd α) (mk : ByteArray → ByteArray → α) (hs : d.sz = 2) (hK : ∀ s0 s1, d.K W (mk s0 s1) [.string s0, .string s1]) {t e : TypeId} {f0 f1 : Field} (ht : P.underlying t = some (.slice e)) (he : P.underlying e = some (.struct #[f0, f1]))
    (ce : P.cellsOf e = 2) (o0 : f0.offset = 0) (o1 : f1.offset = 1) (c0 : P.cellsOf f0.type = 1) (c1 : P.cellsOf f1.type = 1) (u0 : P.underlying f0.type = some .string) (u1 : P.underlying f1.type = some .string)
    {a : Option Addr} {len cap : Nat} {dd : DataW H} {ps : List MemPlace} {ts : List TypeId} {ds : List (DataW H)} {j : Nat} (hsz : (DataW.weightsEach P ts ds).all (· ≤ reachBytes) = true) (hj : ts[j]? = some t) (hd : ds[j]? = some dd) {B : Nat} (hB : P.bytesOf e = B)
    (h : DataW.Trod enc P W base spare held t (.slice a len cap) dd ps) :
    ∃ l : List α, len = l.length ∧ l.length ≤ cap ∧ l.length ≤ maxLen ∧ l.length * B ≤ 140737488351232 ∧ d.C W a l.length l ∧ ∀ x ∈ l, ∃ s0 s1, x = mk s0 s1 ∧ s0.size ≤ maxLen ∧ s1.size ≤ maxLen := by
  obtain ⟨fuel, hf⟩ := h
  rcases open_slice_pairs ht he ce o0 o1 c0 c1 hf with ⟨hcs, hx⟩ | ⟨x, l, c, m, n, V0, V1, D0, D1, P0, P1, hcs, _, hl, hm, hmm, hxx, hx⟩
  · simp [Value.cells] at hcs
    obtain ⟨rfl, rfl, rfl⟩ := hcs
    exact ⟨[], rfl, Nat.le_refl _, Nat.zero_le _, by simp, ⟨rfl, by simp, fun h => absurd h (by simp)⟩, by simp⟩
  · simp [Value.cells] at hcs
    obtain ⟨rfl, rfl, rfl⟩ := hcs
    have hlm : len ≤ m := by rw [hmm]; split <;> omega
    have hv : ∀ i, i < len → V0 i = .string (strOf (V0 i)) ∧ (strOf (V0 i)).size ≤ maxLen ∧ V1 i = .string (strOf (V1 i)) ∧ (strOf (V1 i)).size ≤ maxLen := by
      intro i hi
      obtain ⟨_, _, t0, t1⟩ := hx i (by omega)
      obtain ⟨s0, e0, _, z0⟩ := DataW.trod_string u0 t0
      obtain ⟨s1, e1, _, z1⟩ := DataW.trod_string u1 t1
      simp only [List.cons.injEq, and_true] at e0 e1
      rw [e0, e1]
      exact ⟨rfl, z0, rfl, z1⟩
    have hle : len ≤ maxLen := Nat.le_trans hl hm
    have hlen : ((List.range len).map fun i => mk (strOf (V0 i)) (strOf (V1 i))).length = len := by rw [List.length_map, List.length_range]
    refine ⟨(List.range len).map fun i => mk (strOf (V0 i)) (strOf (V1 i)), hlen.symm, by rw [hlen]; exact hl, by rw [hlen]; exact hle, ?_, ⟨rfl, by rw [hlen]; exact Nat.le_trans hle maxLen_le, fun _ => ⟨x, rfl, fun q p hp => ?_⟩⟩, ?_⟩
    · obtain ⟨hdd, _⟩ := Prod.mk.inj hxx
      subst hdd
      have z := sized_slice hsz hj hd ht
      rw [hB, List.length_map, List.length_range] at z
      rw [hlen]
      exact Nat.le_trans (Nat.mul_le_mul_right _ (Nat.le_add_right _ _)) z
    · have hq : q < len := by
        have := (List.getElem?_eq_some_iff.1 hp).1
        rwa [hlen] at this
      rw [List.getElem?_map, List.getElem?_range hq] at hp
      simp only [Option.map_some, Option.some.injEq] at hp
      subst hp
      obtain ⟨g0, g1, _, _⟩ := hx q (by omega)
      obtain ⟨v0, _, v1, _⟩ := hv q hq
      refine ⟨_, by rw [hs]; rfl, hK _ _, fun i u hu => ?_⟩
      rw [hs]
      match i, hu with
      | 0, hu =>
        simp only [List.getElem?_cons_zero, Option.some.injEq] at hu
        subst hu
        rw [← v0]
        exact g0
      | 1, hu =>
        simp only [List.getElem?_cons_succ, List.getElem?_cons_zero, Option.some.injEq] at hu
        subst hu
        rw [← v1]
        exact g1
    · intro z hz
      obtain ⟨i, hi, rfl⟩ := List.mem_map.1 hz
      obtain ⟨_, z0, _, z1⟩ := hv i (List.mem_range.1 hi)
      exact ⟨_, _, rfl, z0, z1⟩
/-- A slice of slices of bytes. -/
theorem open_byte_rows {t e q : TypeId} (ht : P.underlying t = some (.slice e)) (he : P.underlying e = some (.slice q)) (hq : P.underlying q = some (.int .u8)) (ce : P.cellsOf e = 1) (cq : P.cellsOf q = 1)
    {a : Option Addr} {len cap : Nat} {dd : DataW H} {ps : List MemPlace} {ts : List TypeId} {ds : List (DataW H)} {j : Nat} (hsz : (DataW.weightsEach P ts ds).all (· ≤ reachBytes) = true) (hj : ts[j]? = some t) (hd : ds[j]? = some dd) {B : Nat} (hB : P.bytesOf e = B)
    (h : DataW.Trod enc P W base (fun _ => true) held t (.slice a len cap) dd ps) :
    ∃ l : List (List Int), len = l.length ∧ l.length ≤ cap ∧ l.length ≤ maxLen ∧ l.length * B ≤ 140737488351232 ∧ (Kd.slice q (Kd.int .u8)).C W a l.length l ∧ ∀ x ∈ l, x.length ≤ maxLen ∧ ∀ y ∈ x, (Lit.int .u8 y).wf = true := by
  obtain ⟨fuel, hf⟩ := h
  rcases open_int_rows ht he hq ce cq hf with ⟨hcs, hx⟩ | ⟨x, l, c, A, L, C, Z, hcs, _, hl, hm, hxx, hx⟩
  · simp [Value.cells] at hcs
    obtain ⟨rfl, rfl, rfl⟩ := hcs
    exact ⟨[], rfl, Nat.le_refl _, Nat.zero_le _, by simp, ⟨rfl, by simp, fun h => absurd h (by simp)⟩, by simp⟩
  · simp [Value.cells] at hcs
    obtain ⟨rfl, rfl, rfl⟩ := hcs
    have hle : len ≤ maxLen := Nat.le_trans hl hm
    have hlen : ((List.range len).map fun i => (Z i).take (L i)).length = len := by rw [List.length_map, List.length_range]
    have hzl : ∀ i, i < len → ((Z i).take (L i)).length = L i := by
      intro i hi
      obtain ⟨_, h1, _, h3, _⟩ := hx i (by omega)
      rw [List.length_take, h3]
      omega
    refine ⟨(List.range len).map fun i => (Z i).take (L i), hlen.symm, by rw [hlen]; exact hl, by rw [hlen]; exact hle, ?_, ⟨rfl, by rw [hlen]; exact Nat.le_trans hle maxLen_le, fun _ => ⟨x, rfl, fun k p hp => ?_⟩⟩, ?_⟩
    · obtain ⟨hdd, _⟩ := Prod.mk.inj hxx
      subst hdd
      have z := sized_slice hsz hj hd ht
      rw [hB, List.length_map, List.length_range] at z
      rw [hlen]
      exact Nat.le_trans (Nat.mul_le_mul_right _ (Nat.le_add_right _ _)) z
    · have hk : k < len := by
        have := (List.getElem?_eq_some_iff.1 hp).1
        rwa [hlen] at this
      rw [List.getElem?_map, List.getElem?_range hk] at hp
      simp only [Option.map_some, Option.some.injEq] at hp
      subst hp
      obtain ⟨g0, g1, g2, g3, g4, g5, g6⟩ := hx k (by omega)
      have hz := hzl k hk
      refine ⟨[.slice (A k) (L k) (C k)], rfl, ⟨A k, C k, by rw [hz], by rw [hz]; exact g1, ?_⟩, fun i u hu => ?_⟩
      · refine ⟨rfl, by rw [hz]; exact Nat.le_trans (Nat.le_trans g1 g2) maxLen_le, fun h0 => ?_⟩
        rw [hz] at h0
        cases hA : A k with
        | none =>
          have := g5 hA
          omega
        | some a' =>
          refine ⟨a', rfl, fun i p hp => ?_⟩
          have hi : i < L k := by
            have := (List.getElem?_eq_some_iff.1 hp).1
            rwa [hz] at this
          refine ⟨[.int .u8 p], rfl, rfl, fun z u hu => ?_⟩
          match z, hu with
          | 0, hu =>
            simp only [List.getElem?_cons_zero, Option.some.injEq] at hu
            subst hu
            have hc := (g6 a' hA).2 i (by omega)
            rw [List.getElem?_take, if_pos hi] at hp
            rw [List.getD_eq_getElem?_getD, hp] at hc
            show W.cell? (a'.add (i * 1 + 0)) = _
            rw [Nat.mul_one, Nat.add_zero]
            exact hc
      · match i, hu with
        | 0, hu =>
          simp only [List.getElem?_cons_zero, Option.some.injEq] at hu
          subst hu
          show W.cell? (x.add (k * 1 + 0)) = _
          rw [Nat.mul_one, Nat.add_zero]
          exact g0
    · intro z hz
      obtain ⟨i, hi, rfl⟩ := List.mem_map.1 hz
      obtain ⟨_, h1, h2, _, h4, _⟩ := hx i (by have := List.mem_range.1 hi; omega)
      exact ⟨by rw [hzl i (List.mem_range.1 hi)]; exact Nat.le_trans h1 h2, fun y hy => h4 y (List.mem_of_mem_take hy)⟩
end
end Go.Proofs.YtecpanfndodjgaaW.PrintWords
