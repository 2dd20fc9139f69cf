/- Part of the proof; words that it uses. -/
import Derived.Test.YtecpanfndodjgaaDoorPBuildsx10
namespace Go.Proofs.YtecpanfndodjgaaDoor.Pure
open Go.RowKit Go.Proofs.YtecpanfndodjgaaDoor.PBuilds Go.Proofs.YtecpanfndodjgaaDoorW.PrintWords Go.Proofs.YtecpanfndodjgaaDoorW.PrintLast
set_option linter.unusedSimpArgs false
set_option linter.unusedVariables false
structure S127 where
  f0 : Int
  f1 : Int
def z127 : S127 := ⟨(0 : Int), (0 : Int)⟩
def rd_T127 (xs : List S127) (i : Int) : S127 := xs.getD i.toNat z127
mutual
def spec_l5Trim.j1 : Nat → ByteArray → Option (ByteArray)
  | 0, _ => none
  | k + 1, x0 => spec_l5Trim.l1 k x0
def spec_l5Trim.l1 : Nat → ByteArray → Option (ByteArray)
  | 0, _ => none
  | k + 1, x0 => if x0.toList = ([] : List UInt8) then (some x0) else (if 0 ≤ (wrap64 ((x0.size : Int) - 1)) then (if (wrap64 ((x0.size : Int) - 1)) < (x0.size : Int) then (if (bt x0 (wrap64 ((x0.size : Int) - 1))) = 32 then (if (wrap64 ((x0.size : Int) - 1)) ≤ (x0.size : Int) then (spec_l5Trim.l1 k (x0.extract 0 ((wrap64 ((x0.size : Int) - 1)) : Int).toNat)) else (none)) else (if (bt x0 (wrap64 ((x0.size : Int) - 1))) = 9 then (if (wrap64 ((x0.size : Int) - 1)) ≤ (x0.size : Int) then (spec_l5Trim.l1 k (x0.extract 0 ((wrap64 ((x0.size : Int) - 1)) : Int).toNat)) else (none)) else (some x0))) else (none)) else (none))
def spec_l5Trim.l0 : Nat → ByteArray → Option (ByteArray)
  | 0, _ => none
  | k + 1, x0 => if x0.toList = ([] : List UInt8) then (spec_l5Trim.j1 k x0) else (if 0 < (x0.size : Int) then (if (bt x0 0) = 32 then (if 1 ≤ (x0.size : Int) then (spec_l5Trim.l0 k (x0.extract 1 x0.size)) else (none)) else (if (bt x0 0) = 9 then (if 1 ≤ (x0.size : Int) then (spec_l5Trim.l0 k (x0.extract 1 x0.size)) else (none)) else (spec_l5Trim.j1 k x0))) else (none))
end
def spec_l5Trim.f (k : Nat) (a0 : ByteArray) : Option (ByteArray) := spec_l5Trim.l0 k a0
theorem spec_l5Trim.mono_l : ∀ k, (∀ y0, LeO (spec_l5Trim.j1 k y0) (spec_l5Trim.j1 (k + 1) y0)) ∧ (∀ y0, LeO (spec_l5Trim.l1 k y0) (spec_l5Trim.l1 (k + 1) y0)) ∧ (∀ y0, LeO (spec_l5Trim.l0 k y0) (spec_l5Trim.l0 (k + 1) y0))
  | 0 => ⟨fun _ r h => by simp [spec_l5Trim.j1] at h, fun _ r h => by simp [spec_l5Trim.l1] at h, fun _ r h => by simp [spec_l5Trim.l0] at h⟩
  | k + 1 => by
    obtain ⟨ih0, ih1, ih2⟩ := spec_l5Trim.mono_l k
    refine ⟨?_, ?_, ?_⟩
    · intro y0
      unfold spec_l5Trim.j1
      repeat' first
      | (with_reducible exact ih0 _)
      | (with_reducible exact ih1 _)
      | (with_reducible exact ih2 _)
      | (with_reducible exact LeO.refl _)
      | (with_reducible exact LeO.none _)
      | (with_reducible refine LeO.ite ?_ ?_)
      | (with_reducible refine LeO.bind ?_ (fun _ => ?_))
      | exact ih0 _
      | exact ih1 _
      | exact ih2 _
      | exact LeO.none _
      | refine LeO.ite ?_ ?_
      | refine LeO.bind ?_ (fun _ => ?_)
    · intro y0
      unfold spec_l5Trim.l1
      repeat' first
      | (with_reducible exact ih0 _)
      | (with_reducible exact ih1 _)
      | (with_reducible exact ih2 _)
      | (with_reducible exact LeO.refl _)
      | (with_reducible exact LeO.none _)
      | (with_reducible refine LeO.ite ?_ ?_)
      | (with_reducible refine LeO.bind ?_ (fun _ => ?_))
      | exact ih0 _
      | exact ih1 _
      | exact ih2 _
      | exact LeO.none _
      | refine LeO.ite ?_ ?_
      | refine LeO.bind ?_ (fun _ => ?_)
    · intro y0
      unfold spec_l5Trim.l0
      repeat' first
      | (with_reducible exact ih0 _)
      | (with_reducible exact ih1 _)
      | (with_reducible exact ih2 _)
      | (with_reducible exact LeO.refl _)
      | (with_reducible exact LeO.none _)
      | (with_reducible refine LeO.ite ?_ ?_)
      | (with_reducible refine LeO.bind ?_ (fun _ => ?_))
      | exact ih0 _
      | exact ih1 _
      | exact ih2 _
      | exact LeO.none _
      | refine LeO.ite ?_ ?_
      | refine LeO.bind ?_ (fun _ => ?_)
theorem spec_l5Trim.mono : ∀ a0 k, LeO (spec_l5Trim.f k a0) (spec_l5Trim.f (k + 1) a0) := by
  intro a0 k
  obtain ⟨ih0, ih1, ih2⟩ := spec_l5Trim.mono_l k
  unfold spec_l5Trim.f
  repeat' first
      | (with_reducible exact ih0 _)
      | (with_reducible exact ih1 _)
      | (with_reducible exact ih2 _)
      | (with_reducible exact LeO.refl _)
      | (with_reducible exact LeO.none _)
      | (with_reducible refine LeO.ite ?_ ?_)
      | (with_reducible refine LeO.bind ?_ (fun _ => ?_))
      | exact ih0 _
      | exact ih1 _
      | exact ih2 _
      | exact LeO.none _
      | refine LeO.ite ?_ ?_
      | refine LeO.bind ?_ (fun _ => ?_)
mutual
def spec_l5Pieces.l0 : Nat → ByteArray → List ByteArray → Int → Int → Option (List ByteArray)
  | 0, _, _, _, _ => none
  | k + 1, x0, x3, x4, x5 => if x5 ≤ (x0.size : Int) then (if x5 = (x0.size : Int) then (spec_l5Pieces.j1 k x0 x3 x4 x5 true) else (if 0 ≤ x5 then (if x5 < (x0.size : Int) then (spec_l5Pieces.j1 k x0 x3 x4 x5 ((bt x0 x5) == 59)) else (none)) else (none))) else (some x3)
def spec_l5Pieces.j1 : Nat → ByteArray → List ByteArray → Int → Int → Bool → Option (List ByteArray)
  | 0, _, _, _, _, _ => none
  | k + 1, x0, x3, x4, x5, x22 => if x22 = true then (if x5 > x4 then (if 0 ≤ x4 then (if x4 ≤ x5 then (if x5 ≤ (x0.size : Int) then ((spec_l5Trim.f k (x0.extract (x4 : Int).toNat (x5 : Int).toNat)).bind fun t111 => (if x3.length < 8796093022208 then (spec_l5Pieces.l0 k x0 (x3 ++ [t111]) (wrap64 (x5 + 1)) (wrap64 (x5 + 1))) else (none))) else (none)) else (none)) else (none)) else (spec_l5Pieces.l0 k x0 x3 (wrap64 (x5 + 1)) (wrap64 (x5 + 1)))) else (spec_l5Pieces.l0 k x0 x3 x4 (wrap64 (x5 + 1)))
end
def spec_l5Pieces.f (k : Nat) (a0 : ByteArray) : Option (List ByteArray) := spec_l5Pieces.l0 k a0 (([] : List ByteArray)) 0 0
theorem spec_l5Pieces.mono_l : ∀ k, (∀ y0 y1 y2 y3, LeO (spec_l5Pieces.l0 k y0 y1 y2 y3) (spec_l5Pieces.l0 (k + 1) y0 y1 y2 y3)) ∧ (∀ y0 y1 y2 y3 y4, LeO (spec_l5Pieces.j1 k y0 y1 y2 y3 y4) (spec_l5Pieces.j1 (k + 1) y0 y1 y2 y3 y4))
  | 0 => ⟨fun _ _ _ _ r h => by simp [spec_l5Pieces.l0] at h, fun _ _ _ _ _ r h => by simp [spec_l5Pieces.j1] at h⟩
  | k + 1 => by
    obtain ⟨ih0, ih1⟩ := spec_l5Pieces.mono_l k
    refine ⟨?_, ?_⟩
    · intro y0 y1 y2 y3
      unfold spec_l5Pieces.l0
      repeat' first
      | (with_reducible exact ih0 _ _ _ _)
      | (with_reducible exact ih1 _ _ _ _ _)
      | (with_reducible exact spec_l5Trim.mono _ _)
      | (with_reducible exact LeO.refl _)
      | (with_reducible exact LeO.none _)
      | (with_reducible refine LeO.ite ?_ ?_)
      | (with_reducible refine LeO.bind ?_ (fun _ => ?_))
      | exact ih0 _ _ _ _
      | exact ih1 _ _ _ _ _
      | exact spec_l5Trim.mono _ _
      | exact LeO.none _
      | refine LeO.ite ?_ ?_
      | refine LeO.bind ?_ (fun _ => ?_)
    · intro y0 y1 y2 y3 y4
      unfold spec_l5Pieces.j1
      repeat' first
      | (with_reducible exact ih0 _ _ _ _)
      | (with_reducible exact ih1 _ _ _ _ _)
      | (with_reducible exact spec_l5Trim.mono _ _)
      | (with_reducible exact LeO.refl _)
      | (with_reducible exact LeO.none _)
      | (with_reducible refine LeO.ite ?_ ?_)
      | (with_reducible refine LeO.bind ?_ (fun _ => ?_))
      | exact ih0 _ _ _ _
      | exact ih1 _ _ _ _ _
      | exact spec_l5Trim.mono _ _
      | exact LeO.none _
      | refine LeO.ite ?_ ?_
      | refine LeO.bind ?_ (fun _ => ?_)
theorem spec_l5Pieces.mono : ∀ a0 k, LeO (spec_l5Pieces.f k a0) (spec_l5Pieces.f (k + 1) a0) := by
  intro a0 k
  obtain ⟨ih0, ih1⟩ := spec_l5Pieces.mono_l k
  unfold spec_l5Pieces.f
  repeat' first
      | (with_reducible exact ih0 _ _ _ _)
      | (with_reducible exact ih1 _ _ _ _ _)
      | (with_reducible exact spec_l5Trim.mono _ _)
      | (with_reducible exact LeO.refl _)
      | (with_reducible exact LeO.none _)
      | (with_reducible refine LeO.ite ?_ ?_)
      | (with_reducible refine LeO.bind ?_ (fun _ => ?_))
      | exact ih0 _ _ _ _
      | exact ih1 _ _ _ _ _
      | exact spec_l5Trim.mono _ _
      | exact LeO.none _
      | refine LeO.ite ?_ ?_
      | refine LeO.bind ?_ (fun _ => ?_)
def spec_l2Lower.l0 : Nat → List Int → Int → Option (ByteArray)
  | 0, _, _ => none
  | k + 1, x3, x4 => if x4 < (x3.length : Int) then (if 0 ≤ x4 then (if (rd x3 x4) ≥ 65 then (if (rd x3 x4) ≤ 90 then (spec_l2Lower.l0 k (x3.set (x4 : Int).toNat (((rd x3 x4) + 32) % 256)) (wrap64 (x4 + 1))) else (spec_l2Lower.l0 k x3 (wrap64 (x4 + 1)))) else (spec_l2Lower.l0 k x3 (wrap64 (x4 + 1)))) else (none)) else (some (strOfNums x3))
def spec_l2Lower.f (k : Nat) (a0 : ByteArray) : Option (ByteArray) := if a0.size ≤ 281474976710656 then (spec_l2Lower.l0 k (bytesOf a0) 0) else (none)
theorem spec_l2Lower.mono_l : ∀ k, (∀ y0 y1, LeO (spec_l2Lower.l0 k y0 y1) (spec_l2Lower.l0 (k + 1) y0 y1))
  | 0 => fun _ _ r h => by simp [spec_l2Lower.l0] at h
  | k + 1 => by
    have ih0 := spec_l2Lower.mono_l k
    · intro y0 y1
      unfold spec_l2Lower.l0
      repeat' first
      | (with_reducible exact ih0 _ _)
      | (with_reducible exact LeO.refl _)
      | (with_reducible exact LeO.none _)
      | (with_reducible refine LeO.ite ?_ ?_)
      | (with_reducible refine LeO.bind ?_ (fun _ => ?_))
      | exact ih0 _ _
      | exact LeO.none _
      | refine LeO.ite ?_ ?_
      | refine LeO.bind ?_ (fun _ => ?_)
theorem spec_l2Lower.mono : ∀ a0 k, LeO (spec_l2Lower.f k a0) (spec_l2Lower.f (k + 1) a0) := by
  intro a0 k
  have ih0 := spec_l2Lower.mono_l k
  unfold spec_l2Lower.f
  repeat' first
      | (with_reducible exact ih0 _ _)
      | (with_reducible exact LeO.refl _)
      | (with_reducible exact LeO.none _)
      | (with_reducible refine LeO.ite ?_ ?_)
      | (with_reducible refine LeO.bind ?_ (fun _ => ?_))
      | exact ih0 _ _
      | exact LeO.none _
      | refine LeO.ite ?_ ?_
      | refine LeO.bind ?_ (fun _ => ?_)
def spec_l5Begins.f (k : Nat) (a0 : ByteArray) (a1 : ByteArray) : Option (Bool) := if (a0.size : Int) ≥ (a1.size : Int) then (if 0 ≤ (a1.size : Int) then (if (a1.size : Int) ≤ (a0.size : Int) then ((spec_l2Lower.f k (a0.extract 0 ((a1.size : Int) : Int).toNat)).bind fun t122 => (some (t122.toList == a1.toList))) else (none)) else (none)) else (some false)
theorem spec_l5Begins.mono : ∀ a0 a1 k, LeO (spec_l5Begins.f k a0 a1) (spec_l5Begins.f (k + 1) a0 a1) := by
  intro a0 a1 k
  unfold spec_l5Begins.f
  repeat' first
      | (with_reducible exact spec_l2Lower.mono _ _)
      | (with_reducible exact LeO.refl _)
      | (with_reducible exact LeO.none _)
      | (with_reducible refine LeO.ite ?_ ?_)
      | (with_reducible refine LeO.bind ?_ (fun _ => ?_))
      | exact spec_l2Lower.mono _ _
      | exact LeO.none _
      | refine LeO.ite ?_ ?_
      | refine LeO.bind ?_ (fun _ => ?_)
def spec_l5Named.l0 : Nat → List ByteArray → ByteArray → Int → Option (ByteArray × Bool)
  | 0, _, _, _ => none
  | k + 1, x0, x1, x6 => if x6 < (x0.length : Int) then (if 0 ≤ x6 then ((spec_l5Begins.f k (rdOf ByteArray.empty x0 x6) x1).bind fun t124 => (if t124 = true then (if 0 ≤ (x1.size : Int) then (if (x1.size : Int) ≤ ((rdOf ByteArray.empty x0 x6).size : Int) then (some ((rdOf ByteArray.empty x0 x6).extract ((x1.size : Int) : Int).toNat (rdOf ByteArray.empty x0 x6).size, true)) else (none)) else (none)) else (spec_l5Named.l0 k x0 x1 (wrap64 (x6 + 1))))) else (none)) else (some ((⟨#[]⟩ : ByteArray), false))
def spec_l5Named.f (k : Nat) (l0 : List ByteArray) (a1 : ByteArray) : Option (ByteArray × Bool) := spec_l5Named.l0 k l0 a1 1
theorem spec_l5Named.mono_l : ∀ k, (∀ y0 y1 y2, LeO (spec_l5Named.l0 k y0 y1 y2) (spec_l5Named.l0 (k + 1) y0 y1 y2))
  | 0 => fun _ _ _ r h => by simp [spec_l5Named.l0] at h
  | k + 1 => by
    have ih0 := spec_l5Named.mono_l k
    · intro y0 y1 y2
      unfold spec_l5Named.l0
      repeat' first
      | (with_reducible exact ih0 _ _ _)
      | (with_reducible exact spec_l5Begins.mono _ _ _)
      | (with_reducible exact LeO.refl _)
      | (with_reducible exact LeO.none _)
      | (with_reducible refine LeO.ite ?_ ?_)
      | (with_reducible refine LeO.bind ?_ (fun _ => ?_))
      | exact ih0 _ _ _
      | exact spec_l5Begins.mono _ _ _
      | exact LeO.none _
      | refine LeO.ite ?_ ?_
      | refine LeO.bind ?_ (fun _ => ?_)
theorem spec_l5Named.mono : ∀ a0 a1 k, LeO (spec_l5Named.f k a0 a1) (spec_l5Named.f (k + 1) a0 a1) := by
  intro a0 a1 k
  have ih0 := spec_l5Named.mono_l k
  unfold spec_l5Named.f
  repeat' first
      | (with_reducible exact ih0 _ _ _)
      | (with_reducible exact spec_l5Begins.mono _ _ _)
      | (with_reducible exact LeO.refl _)
      | (with_reducible exact LeO.none _)
      | (with_reducible refine LeO.ite ?_ ?_)
      | (with_reducible refine LeO.bind ?_ (fun _ => ?_))
      | exact ih0 _ _ _
      | exact spec_l5Begins.mono _ _ _
      | exact LeO.none _
      | refine LeO.ite ?_ ?_
      | refine LeO.bind ?_ (fun _ => ?_)
def spec_l2Name.f (a0 : Int) : Option (ByteArray) := (some (([(⟨#[]⟩ : ByteArray), (⟨#[117, 115, 45, 97, 115, 99, 105, 105]⟩ : ByteArray), (⟨#[105, 115, 111, 45, 56, 56, 53, 57, 45, 49]⟩ : ByteArray), (⟨#[105, 115, 111, 45, 56, 56, 53, 57, 45, 53]⟩ : ByteArray), (⟨#[117, 116, 102, 45, 56]⟩ : ByteArray), (⟨#[117, 116, 102, 45, 49, 54]⟩ : ByteArray)] : List ByteArray) : List ByteArray)).bind fun y126 => (if 0 ≤ a0 then (if a0 < (y126.length : Int) then (some (rdOf ByteArray.empty y126 a0)) else (none)) else (none))
def spec_l2Of.l0 : Nat → ByteArray → Int → Option (Int)
  | 0, _, _ => none
  | k + 1, x0, x3 => if x3 ≤ 5 then ((spec_l2Name.f x3).bind fun t130 => ((spec_l2Lower.f k x0).bind fun t131 => (if t130.toList = t131.toList then (some x3) else (spec_l2Of.l0 k x0 (wrap64 (x3 + 1)))))) else (some 0)
def spec_l2Of.f (k : Nat) (a0 : ByteArray) : Option (Int) := spec_l2Of.l0 k a0 1
theorem spec_l2Of.mono_l : ∀ k, (∀ y0 y1, LeO (spec_l2Of.l0 k y0 y1) (spec_l2Of.l0 (k + 1) y0 y1))
  | 0 => fun _ _ r h => by simp [spec_l2Of.l0] at h
  | k + 1 => by
    have ih0 := spec_l2Of.mono_l k
    · intro y0 y1
      unfold spec_l2Of.l0
      repeat' first
      | (with_reducible exact ih0 _ _)
      | (with_reducible exact spec_l2Lower.mono _ _)
      | (with_reducible exact LeO.refl _)
      | (with_reducible exact LeO.none _)
      | (with_reducible refine LeO.ite ?_ ?_)
      | (with_reducible refine LeO.bind ?_ (fun _ => ?_))
      | exact ih0 _ _
      | exact spec_l2Lower.mono _ _
      | exact LeO.none _
      | refine LeO.ite ?_ ?_
      | refine LeO.bind ?_ (fun _ => ?_)
theorem spec_l2Of.mono : ∀ a0 k, LeO (spec_l2Of.f k a0) (spec_l2Of.f (k + 1) a0) := by
  intro a0 k
  have ih0 := spec_l2Of.mono_l k
  unfold spec_l2Of.f
  repeat' first
      | (with_reducible exact ih0 _ _)
      | (with_reducible exact spec_l2Lower.mono _ _)
      | (with_reducible exact LeO.refl _)
      | (with_reducible exact LeO.none _)
      | (with_reducible refine LeO.ite ?_ ?_)
      | (with_reducible refine LeO.bind ?_ (fun _ => ?_))
      | exact ih0 _ _
      | exact spec_l2Lower.mono _ _
      | exact LeO.none _
      | refine LeO.ite ?_ ?_
      | refine LeO.bind ?_ (fun _ => ?_)
def spec_l5Type.f (k : Nat) (a0 : ByteArray) : Option (Int × Int × Int × Int × Int × Int × Int) := (spec_l5Pieces.f k a0).bind fun t133 => (if (t133.length : Int) = 0 then (some (3, 0, 0, 0, 0, 0, 0)) else (if 0 < (t133.length : Int) then ((spec_l5Begins.f k (rdOf ByteArray.empty t133 0) (⟨#[109, 117, 108, 116, 105, 112, 97, 114, 116, 47]⟩ : ByteArray)).bind fun t137 => (if t137 = true then (some (2, 0, 0, 0, 0, 0, 0)) else ((spec_l5Begins.f k (rdOf ByteArray.empty t133 0) (⟨#[116, 101, 120, 116, 47]⟩ : ByteArray)).bind fun t139 => (if t139 = true then ((spec_l5Named.f k t133 (⟨#[99, 104, 97, 114, 115, 101, 116, 61]⟩ : ByteArray)).bind fun bt141 => (if bt141.2 = true then ((spec_l2Of.f k bt141.1).bind fun t143 => (some (1, t143, 0, 0, 0, 0, 0))) else (some (1, 1, 0, 0, 0, 0, 0)))) else (some (3, 0, 0, 0, 0, 0, 0)))))) else (none)))
theorem spec_l5Type.mono : ∀ a0 k, LeO (spec_l5Type.f k a0) (spec_l5Type.f (k + 1) a0) := by
  intro a0 k
  unfold spec_l5Type.f
  repeat' first
      | (with_reducible exact spec_l2Of.mono _ _)
      | (with_reducible exact spec_l5Begins.mono _ _ _)
      | (with_reducible exact spec_l5Named.mono _ _ _)
      | (with_reducible exact spec_l5Pieces.mono _ _)
      | (with_reducible exact LeO.refl _)
      | (with_reducible exact LeO.none _)
      | (with_reducible refine LeO.ite ?_ ?_)
      | (with_reducible refine LeO.bind ?_ (fun _ => ?_))
      | exact spec_l2Of.mono _ _
      | exact spec_l5Begins.mono _ _ _
      | exact spec_l5Named.mono _ _ _
      | exact spec_l5Pieces.mono _ _
      | exact LeO.none _
      | refine LeO.ite ?_ ?_
      | refine LeO.bind ?_ (fun _ => ?_)
def spec_l4End.l0 : Nat → List Int → Int → Option (Int)
  | 0, _, _ => none
  | k + 1, x0, x1 => if x1 < (x0.length : Int) then (if 0 ≤ x1 then (if (rd x0 x1) = 10 then (some x1) else (spec_l4End.l0 k x0 (wrap64 (x1 + 1)))) else (none)) else (some x1)
def spec_l4End.f (k : Nat) (l0 : List Int) (a1 : Int) : Option (Int) := spec_l4End.l0 k l0 a1
mutual
def spec_l4Line.j0 : Nat → List (S151) → ByteArray → Int → Bool → Option ((List (S151)) × Bool)
  | 0, _, _, _, _ => none
  | k + 1, x0, x1, x6, x19 => if x19 = true then (if x6 = 0 then (some (([] : List (S151)), false)) else ((some (([] : List (S151)) : List (S151))).bind fun y145 => (if y145.length + x0.length < 4398046511104 then ((some (y145 ++ x0 : List (S151))).bind fun y148 => (if 0 ≤ (wrap64 (x6 - 1)) then (if (wrap64 (x6 - 1)) < (y148.length : Int) then (if ((rd_T151 y148 (wrap64 (x6 - 1))).f1).size + x1.size ≤ 9223372036854775807 then (some ((y148.set ((wrap64 (x6 - 1)) : Int).toNat (⟨(rd_T151 y148 (wrap64 (x6 - 1))).f0, ((rd_T151 y148 (wrap64 (x6 - 1))).f1) ++ x1⟩ : S151)), true)) else (none)) else (none)) else (none))) else (none)))) else (spec_l4Line.l0 k x0 x1 0)
def spec_l4Line.l0 : Nat → List (S151) → ByteArray → Int → Option ((List (S151)) × Bool)
  | 0, _, _, _ => none
  | k + 1, x0, x1, x8 => if x8 < (x1.size : Int) then (if 0 ≤ x8 then (if (bt x1 x8) = 58 then (if 0 ≤ (wrap64 (x8 + 1)) then (if (wrap64 (x8 + 1)) ≤ (x1.size : Int) then (if (x1.extract ((wrap64 (x8 + 1)) : Int).toNat x1.size).toList = ([] : List UInt8) then ((some (([] : List (S151)) : List (S151))).bind fun y153 => (if y153.length + x0.length < 4398046511104 then ((some (y153 ++ x0 : List (S151))).bind fun y156 => (if x8 ≤ (x1.size : Int) then ((some (([(⟨x1.extract 0 (x8 : Int).toNat, x1.extract ((wrap64 (x8 + 1)) : Int).toNat x1.size⟩ : S151)] : List (S151)) : List (S151))).bind fun y159 => (if y156.length + y159.length < 4398046511104 then (some ((y156 ++ y159), true)) else (none))) else (none))) else (none))) else (if 0 < ((x1.extract ((wrap64 (x8 + 1)) : Int).toNat x1.size).size : Int) then (if (bt (x1.extract ((wrap64 (x8 + 1)) : Int).toNat x1.size) 0) = 32 then (if 1 ≤ ((x1.extract ((wrap64 (x8 + 1)) : Int).toNat x1.size).size : Int) then ((some (([] : List (S151)) : List (S151))).bind fun y165 => (if y165.length + x0.length < 4398046511104 then ((some (y165 ++ x0 : List (S151))).bind fun y168 => (if x8 ≤ (x1.size : Int) then ((some (([(⟨x1.extract 0 (x8 : Int).toNat, (x1.extract ((wrap64 (x8 + 1)) : Int).toNat x1.size).extract 1 (x1.extract ((wrap64 (x8 + 1)) : Int).toNat x1.size).size⟩ : S151)] : List (S151)) : List (S151))).bind fun y171 => (if y168.length + y171.length < 4398046511104 then (some ((y168 ++ y171), true)) else (none))) else (none))) else (none))) else (none)) else ((some (([] : List (S151)) : List (S151))).bind fun y177 => (if y177.length + x0.length < 4398046511104 then ((some (y177 ++ x0 : List (S151))).bind fun y180 => (if x8 ≤ (x1.size : Int) then ((some (([(⟨x1.extract 0 (x8 : Int).toNat, x1.extract ((wrap64 (x8 + 1)) : Int).toNat x1.size⟩ : S151)] : List (S151)) : List (S151))).bind fun y183 => (if y180.length + y183.length < 4398046511104 then (some ((y180 ++ y183), true)) else (none))) else (none))) else (none)))) else (none))) else (none)) else (none)) else (spec_l4Line.l0 k x0 x1 (wrap64 (x8 + 1)))) else (none)) else (some (([] : List (S151)), false))
end
def spec_l4Line.f (k : Nat) (l0 : List (S151)) (a1 : ByteArray) : Option ((List (S151)) × Bool) := if 0 < (a1.size : Int) then (if (bt a1 0) = 32 then (spec_l4Line.j0 k l0 a1 (l0.length : Int) true) else (spec_l4Line.j0 k l0 a1 (l0.length : Int) ((bt a1 0) == 9))) else (none)
def spec_l4NameByte.f (a0 : Int) : Option (Bool) := if a0 ≥ 97 then (if a0 ≤ 122 then (some true) else (if a0 ≥ 65 then (if a0 ≤ 90 then (some true) else (if a0 ≥ 48 then (if a0 ≤ 57 then (some true) else (some (a0 == 45))) else (some (a0 == 45)))) else (if a0 ≥ 48 then (if a0 ≤ 57 then (some true) else (some (a0 == 45))) else (some (a0 == 45))))) else (if a0 ≥ 65 then (if a0 ≤ 90 then (some true) else (if a0 ≥ 48 then (if a0 ≤ 57 then (some true) else (some (a0 == 45))) else (some (a0 == 45)))) else (if a0 ≥ 48 then (if a0 ≤ 57 then (some true) else (some (a0 == 45))) else (some (a0 == 45))))
def spec_l4Name.l0 : Nat → ByteArray → Int → Option (Bool)
  | 0, _, _ => none
  | k + 1, x0, x3 => if x3 < (x0.size : Int) then (if 0 ≤ x3 then ((spec_l4NameByte.f (bt x0 x3)).bind fun t189 => (if t189 = true then (spec_l4Name.l0 k x0 (wrap64 (x3 + 1))) else (some false))) else (none)) else ((spec_l1In.f (x0.size : Int) 1 30).bind fun t190 => (some t190))
def spec_l4Name.f (k : Nat) (a0 : ByteArray) : Option (Bool) := spec_l4Name.l0 k a0 0
def spec_l4Value.l0 : Nat → ByteArray → Int → Option (Bool)
  | 0, _, _ => none
  | k + 1, x0, x3 => if x3 < (x0.size : Int) then (if 0 ≤ x3 then (if (bt x0 x3) < 32 then (some false) else (if (bt x0 x3) = 127 then (some false) else (spec_l4Value.l0 k x0 (wrap64 (x3 + 1))))) else (none)) else (some (decide ((x0.size : Int) ≤ 120)))
def spec_l4Value.f (k : Nat) (a0 : ByteArray) : Option (Bool) := spec_l4Value.l0 k a0 0
def spec_l4Fault.l0 : Nat → List (S151) → Int → Option (Int)
  | 0, _, _ => none
  | k + 1, x0, x3 => if x3 < (x0.length : Int) then (if 0 ≤ x3 then ((spec_l4Name.f k ((rd_T151 x0 x3).f0)).bind fun t192 => (if t192 = true then ((spec_l4Value.f k ((rd_T151 x0 x3).f1)).bind fun t194 => (if t194 = true then (spec_l4Fault.l0 k x0 (wrap64 (x3 + 1))) else (some 5))) else (some 5))) else (none)) else (some 0)
def spec_l4Fault.f (k : Nat) (l0 : List (S151)) : Option (Int) := if (l0.length : Int) > 8 then (some 2) else (spec_l4Fault.l0 k l0 0)
def spec_l4Parse.l0 : Nat → List Int → List (S151) → Int → Option ((List (S151)) × Int × Bool)
  | 0, _, _, _ => none
  | k + 1, x0, x5, x6 => if x6 < (x0.length : Int) then ((spec_l4End.f k x0 x6).bind fun t199 => (if t199 = x6 then ((spec_l4Fault.f k x5).bind fun t200 => (some (x5, wrap64 (x6 + 1), (t200 == 0)))) else (if 0 ≤ x6 then (if x6 ≤ t199 then (if t199 ≤ (x0.length : Int) then ((spec_l4Line.f k x5 (strOfNums ((x0.take (t199 : Int).toNat).drop (x6 : Int).toNat))).bind fun bt202 => (if bt202.2 = true then (if t199 < (x0.length : Int) then (spec_l4Parse.l0 k x0 bt202.1 (wrap64 (t199 + 1))) else (spec_l4Parse.l0 k x0 bt202.1 t199)) else (some (([] : List (S151)), 0, false)))) else (none)) else (none)) else (none)))) else ((spec_l4Fault.f k x5).bind fun t198 => (some (x5, x6, (t198 == 0))))
def spec_l4Parse.f (k : Nat) (l0 : List Int) : Option ((List (S151)) × Int × Bool) := spec_l4Parse.l0 k l0 (([] : List (S151))) 0
def spec_l4Of.l0 : Nat → List (S151) → ByteArray → Int → Option (ByteArray × Bool)
  | 0, _, _, _ => none
  | k + 1, x0, x1, x6 => if x6 < (x0.length : Int) then (if 0 ≤ x6 then ((spec_l2Lower.f k ((rd_T151 x0 x6).f0)).bind fun t207 => ((spec_l2Lower.f k x1).bind fun t208 => (if t207.toList = t208.toList then (some ((rd_T151 x0 x6).f1, true)) else (spec_l4Of.l0 k x0 x1 (wrap64 (x6 + 1)))))) else (none)) else (some ((⟨#[]⟩ : ByteArray), false))
def spec_l4Of.f (k : Nat) (l0 : List (S151)) (a1 : ByteArray) : Option (ByteArray × Bool) := spec_l4Of.l0 k l0 a1 0
def spec_l5Coding.f (k : Nat) (l0 : List (S151)) : Option (Int) := (spec_l4Of.f k l0 (⟨#[99, 111, 110, 116, 101, 110, 116, 45, 116, 114, 97, 110, 115, 102, 101, 114, 45, 101, 110, 99, 111, 100, 105, 110, 103]⟩ : ByteArray)).bind fun bt210 => ((spec_l2Lower.f k bt210.1).bind fun t212 => (if t212.toList = ([98, 97, 115, 101, 54, 52] : List UInt8) then (some 2) else (if t212.toList = ([113, 117, 111, 116, 101, 100, 45, 112, 114, 105, 110, 116, 97, 98, 108, 101] : List UInt8) then (some 3) else (some 1))))
def spec_l5One.f (k : Nat) (l0 : List Int) (a1 : Int) (a2 : Int) : Option (Int × Int × Int × Int × Int × Int × Int × ByteArray) := if 0 ≤ a1 then (if a1 ≤ a2 then (if a2 ≤ (l0.length : Int) then ((spec_l4Parse.f k ((l0.take (a2 : Int).toNat).drop (a1 : Int).toNat)).bind fun bt215 => (if bt215.2.2 = true then ((spec_l4Of.f k bt215.1 (⟨#[99, 111, 110, 116, 101, 110, 116, 45, 116, 121, 112, 101]⟩ : ByteArray)).bind fun bt221 => (if bt221.2 = true then ((spec_l5Type.f k bt221.1).bind fun bt223 => (if bt223.1 = 2 then ((spec_l5Pieces.f k bt221.1).bind fun t230 => ((spec_l5Named.f k t230 (⟨#[98, 111, 117, 110, 100, 97, 114, 121, 61]⟩ : ByteArray)).bind fun bt233 => ((spec_l5Coding.f k bt215.1).bind fun t235 => (some (bt223.1, bt223.2.1, t235, wrap64 (a1 + bt215.2.1), a2, bt223.2.2.2.2.2.1, bt223.2.2.2.2.2.2, bt233.1))))) else ((spec_l5Coding.f k bt215.1).bind fun t236 => (some (bt223.1, bt223.2.1, t236, wrap64 (a1 + bt215.2.1), a2, bt223.2.2.2.2.2.1, bt223.2.2.2.2.2.2, (⟨#[]⟩ : ByteArray)))))) else ((spec_l5Coding.f k bt215.1).bind fun t237 => (some (1, 1, t237, wrap64 (a1 + bt215.2.1), a2, 0, 0, (⟨#[]⟩ : ByteArray)))))) else (some (3, 0, 1, a1, a2, 0, 0, (⟨#[]⟩ : ByteArray))))) else (none)) else (none)) else (none)
def spec_l5Line.f (l0 : List Int) (a1 : Int) (a2 : Int) (a3 : ByteArray) : Option (Int) := if 0 ≤ a1 then (if a1 ≤ a2 then (if a2 ≤ (l0.length : Int) then (if 2 + a3.size ≤ 9223372036854775807 then (if (strOfNums ((l0.take (a2 : Int).toNat).drop (a1 : Int).toNat)).toList = ((⟨#[45, 45]⟩ : ByteArray) ++ a3).toList then (some 1) else (if ((⟨#[45, 45]⟩ : ByteArray) ++ a3).size + 2 ≤ 9223372036854775807 then (if (strOfNums ((l0.take (a2 : Int).toNat).drop (a1 : Int).toNat)).toList = (((⟨#[45, 45]⟩ : ByteArray) ++ a3) ++ (⟨#[45, 45]⟩ : ByteArray)).toList then (some 2) else (some 0)) else (none))) else (none)) else (none)) else (none)) else (none)
def spec_l1Max.f (a0 : Int) (a1 : Int) : Option (Int) := if a0 > a1 then (some a0) else (some a1)
def spec_l1Min.f (a0 : Int) (a1 : Int) : Option (Int) := if a0 < a1 then (some a0) else (some a1)
mutual
def spec_l5Spans.l0 : Nat → List Int → Int → ByteArray → List (S127) → Int → Int → Option ((List (S127)))
  | 0, _, _, _, _, _, _ => none
  | k + 1, x0, x2, x3, x9, x10, x11 => if x11 < x2 then (if 0 ≤ x2 then (if x2 ≤ (x0.length : Int) then ((spec_l4End.f k (x0.take (x2 : Int).toNat) x11).bind fun t246 => ((spec_l5Line.f x0 x11 t246 x3).bind fun t247 => (if t247 > 0 then (spec_l5Spans.j1 k x0 x2 x3 x9 x10 x11 t246 t247 (decide (x10 ≥ 0))) else (spec_l5Spans.j1 k x0 x2 x3 x9 x10 x11 t246 t247 false)))) else (none)) else (none)) else (if x10 ≥ 0 then (if x9.length < 8796093022208 then (some (x9 ++ [(⟨x10, x2⟩ : S127)])) else (none)) else (some x9))
def spec_l5Spans.j1 : Nat → List Int → Int → ByteArray → List (S127) → Int → Int → Int → Int → Bool → Option ((List (S127)))
  | 0, _, _, _, _, _, _, _, _, _ => none
  | k + 1, x0, x2, x3, x9, x10, x11, x12, x13, x34 => if x34 = true then ((spec_l1Max.f x10 (wrap64 (x11 - 1))).bind fun t248 => (if x9.length < 8796093022208 then (spec_l5Spans.j2 k x0 x2 x3 (x9 ++ [(⟨x10, t248⟩ : S127)]) x10 x12 x13) else (none))) else (spec_l5Spans.j2 k x0 x2 x3 x9 x10 x12 x13)
def spec_l5Spans.j2 : Nat → List Int → Int → ByteArray → List (S127) → Int → Int → Int → Option ((List (S127)))
  | 0, _, _, _, _, _, _, _ => none
  | k + 1, x0, x2, x3, x9, x10, x12, x13 => if x13 = 2 then (some x9) else (if x13 = 1 then ((spec_l1Min.f (wrap64 (x12 + 1)) x2).bind fun t252 => (spec_l5Spans.l0 k x0 x2 x3 x9 t252 (wrap64 (x12 + 1)))) else (spec_l5Spans.l0 k x0 x2 x3 x9 x10 (wrap64 (x12 + 1))))
end
def spec_l5Spans.f (k : Nat) (l0 : List Int) (a1 : Int) (a2 : Int) (a3 : ByteArray) : Option ((List (S127))) := spec_l5Spans.l0 k l0 a2 a3 (([] : List (S127))) (-1) a1
mutual
def spec_l5Add.j0 : Nat → List (S23) → List Int → Int → ByteArray → Int → Bool → Int → Int → Int → Int → Int → Int → Int → Option ((List (S23)))
  | 0, _, _, _, _, _, _, _, _, _, _, _, _, _ => none
  | k + 1, x0, x1, x6, x16, x17, x49, x262000, x262001, x262002, x262003, x262004, x262005, x262006 => if x49 = true then (some x0) else ((spec_l5Spans.f k x1 x262003 x262004 x16).bind fun t266 => (spec_l5Add.l0 k x0 x1 x6 x17 t266 0))
def spec_l5Add.l0 : Nat → List (S23) → List Int → Int → Int → List (S127) → Int → Option ((List (S23)))
  | 0, _, _, _, _, _, _ => none
  | k + 1, x0, x1, x6, x17, x18, x19 => if x19 < (x18.length : Int) then (if (x0.length : Int) < 8 then (if 0 ≤ x19 then ((spec_l5Add.f k x0 x1 ((rd_T127 x18 x19).f0) ((rd_T127 x18 x19).f1) x17 (wrap64 (x19 + 1)) (wrap64 (x6 + 1))).bind fun t271 => (spec_l5Add.l0 k t271 x1 x6 x17 x18 (wrap64 (x19 + 1)))) else (none)) else (some x0)) else (some x0)
def spec_l5Add.f : Nat → List (S23) → List Int → Int → Int → Int → Int → Int → Option ((List (S23)))
  | 0, _, _, _, _, _, _, _ => none
  | k + 1, l0, l1, a2, a3, a4, a5, a6 => (spec_l5One.f k l1 a2 a3).bind fun bt253 => (if l0.length < 2513169434916 then ((some (l0 ++ [(⟨bt253.1, bt253.2.1, bt253.2.2.1, bt253.2.2.2.1, bt253.2.2.2.2.1, a4, a5⟩ : S23)] : List (S23))).bind fun y262 => (if bt253.1 = 2 then (if a6 ≥ 3 then (spec_l5Add.j0 k y262 l1 a6 bt253.2.2.2.2.2.2.2 (l0.length : Int) true bt253.1 bt253.2.1 bt253.2.2.1 bt253.2.2.2.1 bt253.2.2.2.2.1 a4 a5) else ((spec_l1In.f (bt253.2.2.2.2.2.2.2.size : Int) 1 20).bind fun t265 => (spec_l5Add.j0 k y262 l1 a6 bt253.2.2.2.2.2.2.2 (l0.length : Int) (!t265) bt253.1 bt253.2.1 bt253.2.2.1 bt253.2.2.2.1 bt253.2.2.2.2.1 a4 a5))) else (spec_l5Add.j0 k y262 l1 a6 bt253.2.2.2.2.2.2.2 (l0.length : Int) true bt253.1 bt253.2.1 bt253.2.2.1 bt253.2.2.2.1 bt253.2.2.2.2.1 a4 a5))) else (none))
end
def spec_l5Parse.f (k : Nat) (l0 : List Int) : Option ((List (S23))) := (spec_l5Add.f k ([] : List (S23)) l0 0 (l0.length : Int) (-1) 0 1).bind fun t274 => (some t274)
mutual
def spec_l5At.l0 : Nat → List (S23) → List Int → Int → Int → Option (Int)
  | 0, _, _, _, _ => none
  | k + 1, x0, x1, x5, x6 => if x6 < (x1.length : Int) then (spec_l5At.l1 k x0 x1 x5 x6 (-1) 0) else (some x5)
def spec_l5At.l1 : Nat → List (S23) → List Int → Int → Int → Int → Int → Option (Int)
  | 0, _, _, _, _, _, _ => none
  | k + 1, x0, x1, x5, x6, x7, x8 => if x8 < (x0.length : Int) then (if 0 ≤ x8 then (if ((rd_T23 x0 x8).f5) = x5 then (if 0 ≤ x6 then (if x6 < (x1.length : Int) then (if ((rd_T23 x0 x8).f6) = (rd x1 x6) then (spec_l5At.l1 k x0 x1 x5 x6 x8 (wrap64 (x8 + 1))) else (spec_l5At.l1 k x0 x1 x5 x6 x7 (wrap64 (x8 + 1)))) else (none)) else (none)) else (spec_l5At.l1 k x0 x1 x5 x6 x7 (wrap64 (x8 + 1)))) else (none)) else (if x7 < 0 then (some (-1)) else (spec_l5At.l0 k x0 x1 x7 (wrap64 (x6 + 1))))
end
def spec_l5At.f (k : Nat) (l0 : List (S23)) (l1 : List Int) : Option (Int) := spec_l5At.l0 k l0 l1 0 0
def spec_PartAt.f (k : Nat) (l0 : List Int) (l1 : List Int) : Option (Int × Int) := if (l0.length : Int) > 400 then (some (2, 0)) else ((spec_l5Parse.f k l0).bind fun t281 => ((spec_l5At.f k t281 l1).bind fun t284 => (if t284 < 0 then (some (4, 0)) else (some (0, t284)))))
theorem rd_at (l : List Int) (i : Nat) (h : i < l.length) : rd l (i : Int) = l[i] := by
  simp [rd, List.getD_eq_getElem?_getD, h]
theorem wrap64_in {n : Int} (h : -9223372036854775808 ≤ n ∧ n ≤ 9223372036854775807) : wrap64 n = n := by
  unfold wrap64; omega
theorem maxLen_le : maxLen ≤ 9223372036854775807 := by unfold maxLen; decide
theorem bt_range (s : ByteArray) (i : Int) : 0 ≤ bt s i ∧ bt s i ≤ 255 := by
  unfold bt
  split
  · rename_i h
    have := UInt8.toNat_lt (s[i.toNat]'h)
    omega
  · omega
theorem strOfNums_size (l : List Int) : (strOfNums l).size = l.length := by
  show (strOfNums l).data.size = _
  simp [strOfNums]
theorem bytesOf_strOfNums (l : List Int) (h : ∀ x ∈ l, 0 ≤ x ∧ x ≤ 255) : bytesOf (strOfNums l) = l := by
  unfold bytesOf strOfNums
  simp only [List.map_map]
  conv => rhs; rw [← List.map_id l]
  apply List.map_congr_left
  intro x hx
  have := h x hx
  simp only [Function.comp, id]
  rw [UInt8.toNat_ofNat_of_lt' (by show x.toNat < 256; omega)]
  omega
theorem strOfNums_bytesOf (s : ByteArray) : strOfNums (bytesOf s) = s := by
  unfold bytesOf strOfNums
  rw [List.map_map]
  have h : (s.data.toList.map ((fun n : Int => UInt8.ofNat n.toNat) ∘ fun b : UInt8 => (b.toNat : Int))) = s.data.toList := by
    conv => rhs; rw [← List.map_id s.data.toList]
    apply List.map_congr_left
    intro x _
    simp
  rw [h]
theorem bytesOf_in (s : ByteArray) : ∀ x ∈ bytesOf s, 0 ≤ x ∧ x ≤ 255 := by
  intro x hx
  obtain ⟨b, _, rfl⟩ := List.mem_map.1 hx
  have := UInt8.toNat_lt b
  omega
def fst (c : Int) : List Int → Option Nat
  | [] => none
  | x :: xs => if x = c then some 0 else (fst c xs).map (· + 1)
theorem fst_lt (c : Int) : ∀ (l : List Int) (i : Nat), fst c l = some i → i < l.length
  | [], i, h => by cases h
  | x :: xs, i, h => by
    unfold fst at h
    by_cases hx : x = c
    · rw [if_pos hx] at h; cases h; simp
    · rw [if_neg hx] at h
      obtain ⟨j, hj, rfl⟩ := Option.map_eq_some_iff.1 h
      have := fst_lt c xs j hj
      simp only [List.length_cons]
      omega
theorem u8_eq (x c : Int) (hx : 0 ≤ x ∧ x ≤ 255) (hc : 0 ≤ c ∧ c ≤ 255) : (UInt8.ofNat x.toNat == c.toNat.toUInt8) = decide (x = c) := by
  rw [Bool.eq_iff_iff, beq_iff_eq, decide_eq_true_eq]
  constructor
  · intro h
    have h2 := congrArg UInt8.toNat h
    rw [UInt8.toNat_ofNat_of_lt' (by show x.toNat < 256; omega)] at h2
    rw [show c.toNat.toUInt8.toNat = c.toNat from UInt8.toNat_ofNat_of_lt' (by show c.toNat < 256; omega)] at h2
    omega
  · intro h
    subst h
    rfl
theorem indexByte_fst (c : Int) (hc : 0 ≤ c ∧ c ≤ 255) : ∀ l : List Int, (∀ x ∈ l, 0 ≤ x ∧ x ≤ 255) → Lib.indexByte (Lib.bytesOf l) c.toNat.toUInt8 = match fst c l with | none => -1 | some i => (i : Int)
  | [], _ => rfl
  | x :: xs, h => by
    have ih := indexByte_fst c hc xs (fun y hy => h y (by simp [hy]))
    show (if UInt8.ofNat x.toNat == c.toNat.toUInt8 then 0 else if Lib.indexByte (Lib.bytesOf xs) c.toNat.toUInt8 == -1 then -1 else Lib.indexByte (Lib.bytesOf xs) c.toNat.toUInt8 + 1) = _
    rw [u8_eq x c (h x (by simp)) hc, ih, show fst c (x :: xs) = if x = c then some 0 else (fst c xs).map (· + 1) from rfl]
    by_cases hx : x = c
    · rw [decide_eq_true hx, if_pos rfl, if_pos hx]; rfl
    · rw [decide_eq_false hx, if_neg (by decide), if_neg hx]
      cases fst c xs with
      | none => rfl
      | some i =>
        show (if (((i : Int) == -1) = true) then -1 else (i : Int) + 1) = ((i + 1 : Nat) : Int)
        have : ((i : Int) == -1) = false := by rw [beq_eq_false_iff_ne]; omega
        rw [this, if_neg (by decide)]
        omega
theorem data_bytesOf (s : ByteArray) : s.data.toList = Lib.bytesOf (bytesOf s) := by
  unfold Lib.bytesOf bytesOf
  rw [List.map_map]
  conv => lhs; rw [← List.map_id s.data.toList]
  apply List.map_congr_left
  intro x _
  simp
theorem toList_nil (s : ByteArray) : s.toList = [] ↔ s.size = 0 := by
  rw [Go.ByteArray.toList_eq]
  constructor
  · intro h
    have := congrArg List.length h
    rw [Array.length_toList] at this
    exact this
  · intro h
    apply List.eq_nil_of_length_eq_zero
    rw [Array.length_toList]
    exact h
theorem bytesOf_extract (s : ByteArray) (i j : Nat) : bytesOf (s.extract i j) = ((bytesOf s).take j).drop i := by
  unfold bytesOf
  rw [ByteArray.data_extract, Array.toList_extract]
  unfold List.extract
  rw [List.map_take, List.map_drop, List.drop_take]
theorem in_eq (a b c : Int) : spec_l1In.f a b c = some (decide (b ≤ a ∧ a ≤ c)) := by
  unfold spec_l1In.f; by_cases h : a ≥ b <;> simp [h] <;> omega
def nbB (c : Int) : Bool := decide (97 ≤ c ∧ c ≤ 122) || decide (65 ≤ c ∧ c ≤ 90) || decide (48 ≤ c ∧ c ≤ 57) || c == 45
def vbB (c : Int) : Bool := decide (32 ≤ c) && c != 127
def nameB (s : ByteArray) : Bool := (bytesOf s).all nbB && decide (1 ≤ s.size ∧ s.size ≤ 30)
def valB (s : ByteArray) : Bool := (bytesOf s).all vbB && decide (s.size ≤ 120)
theorem vb_lt (c : Int) (h : c < 32) : vbB c = false := by unfold vbB; rw [decide_eq_false (show ¬ 32 ≤ c by omega), Bool.false_and]
theorem vb_127 : vbB 127 = false := rfl
theorem vb_ok (c : Int) (h : ¬ c < 32) (h2 : ¬ c = 127) : vbB c = true := by unfold vbB; rw [decide_eq_true (show 32 ≤ c by omega), bne_iff_ne.mpr h2]; rfl
theorem spec_l4NameByte_eq (c : Int) : spec_l4NameByte.f c = some (nbB c) := by
  unfold spec_l4NameByte.f nbB
  by_cases h1 : c ≥ 97 <;> by_cases h2 : c ≤ 122 <;> by_cases h3 : c ≥ 65 <;> by_cases h4 : c ≤ 90 <;> by_cases h5 : c ≥ 48 <;> by_cases h6 : c ≤ 57 <;> simp [h1, h2, h3, h4, h5, h6]
theorem drop_bt (s : ByteArray) (i : Nat) (h : i < s.size) : (bytesOf s).drop i = bt s (i : Int) :: (bytesOf s).drop (i + 1) := by
  have hl : i < (bytesOf s).length := by rw [bytesOf_length]; exact h
  rw [List.drop_eq_getElem_cons hl, ← rd_bytesOf, rd_at _ i hl]
theorem drop_end (s : ByteArray) (i : Nat) (h : ¬ i < s.size) : (bytesOf s).drop i = [] := List.drop_eq_nil_of_le (by rw [bytesOf_length]; omega)
theorem wrap_succ (i : Nat) (h : i ≤ 4611686018427387904) : wrap64 ((i : Int) + 1) = ((i + 1 : Nat) : Int) := by rw [wrap64_in (by omega)]; omega
theorem spec_l4Name.l0_eq (s : ByteArray) (hs : s.size ≤ 1048576) : ∀ (n k i : Nat), s.size = i + n → n < k → spec_l4Name.l0 k s (i : Int) = some (((bytesOf s).drop i).all nbB && decide (1 ≤ s.size ∧ s.size ≤ 30))
  | _, 0, _, _, h => absurd h (by omega)
  | 0, k + 1, i, hi, _ => by
    have h1 : ¬ ((i : Int) < (s.size : Int)) := by omega
    rw [spec_l4Name.l0, if_neg h1, in_eq, drop_end s i (by omega)]
    simp only [Option.bind_some, List.all_nil, Bool.true_and]
    congr 1
    rw [decide_eq_decide]
    omega
  | n + 1, k + 1, i, hi, h => by
    have h1 : (i : Int) < (s.size : Int) := by omega
    have h2 : (0 : Int) ≤ (i : Int) := by omega
    rw [spec_l4Name.l0, if_pos h1, if_pos h2, spec_l4NameByte_eq, Option.bind_some, wrap_succ i (by omega), spec_l4Name.l0_eq s hs n k (i + 1) (by omega) (by omega), drop_bt s i (by omega), List.all_cons]
    cases nbB (bt s (i : Int)) with
    | true => rw [if_pos rfl, Bool.true_and]
    | false => rw [if_neg (by decide), Bool.false_and, Bool.false_and]
theorem spec_l4Name_eq (s : ByteArray) (k : Nat) (hs : s.size ≤ 1048576) (hk : s.size < k) : spec_l4Name.f k s = some (nameB s) := by
  have := spec_l4Name.l0_eq s hs s.size k 0 (by omega) hk
  unfold spec_l4Name.f nameB
  simpa using this
theorem spec_l4Value.l0_eq (s : ByteArray) (hs : s.size ≤ 1048576) : ∀ (n k i : Nat), s.size = i + n → n < k → spec_l4Value.l0 k s (i : Int) = some (((bytesOf s).drop i).all vbB && decide (s.size ≤ 120))
  | _, 0, _, _, h => absurd h (by omega)
  | 0, k + 1, i, hi, _ => by
    have h1 : ¬ ((i : Int) < (s.size : Int)) := by omega
    rw [spec_l4Value.l0, if_neg h1, drop_end s i (by omega)]
    simp only [List.all_nil, Bool.true_and]
    congr 1
    rw [decide_eq_decide]
    omega
  | n + 1, k + 1, i, hi, h => by
    have h1 : (i : Int) < (s.size : Int) := by omega
    have h2 : (0 : Int) ≤ (i : Int) := by omega
    rw [spec_l4Value.l0, if_pos h1, if_pos h2, wrap_succ i (by omega), spec_l4Value.l0_eq s hs n k (i + 1) (by omega) (by omega), drop_bt s i (by omega), List.all_cons]
    generalize bt s (i : Int) = c
    by_cases g1 : c < 32
    · rw [if_pos g1, vb_lt c g1, Bool.false_and, Bool.false_and]
    · rw [if_neg g1]
      by_cases g2 : c = 127
      · rw [if_pos g2, g2, vb_127, Bool.false_and, Bool.false_and]
      · rw [if_neg g2, vb_ok c g1 g2, Bool.true_and]
theorem spec_l4Value_eq (s : ByteArray) (k : Nat) (hs : s.size ≤ 1048576) (hk : s.size < k) : spec_l4Value.f k s = some (valB s) := by
  have := spec_l4Value.l0_eq s hs s.size k 0 (by omega) hk
  unfold spec_l4Value.f valB
  simpa using this
theorem impl_letter_eq (c : Int) : impl_isLetter.f c = some (decide (97 ≤ c ∧ c ≤ 122) || decide (65 ≤ c ∧ c ≤ 90)) := by
  unfold impl_isLetter.f
  by_cases h1 : c ≥ 97 <;> by_cases h2 : c ≤ 122 <;> by_cases h3 : c ≥ 65 <;> by_cases h4 : c ≤ 90 <;> simp [h1, h2, h3, h4]
theorem impl_digit_eq (c : Int) : impl_isDigit.f c = some (decide (48 ≤ c ∧ c ≤ 57)) := by
  unfold impl_isDigit.f
  by_cases h1 : c ≥ 48 <;> by_cases h2 : c ≤ 57 <;> simp [h1, h2]
theorem impl_isField.l1_eq (a s : ByteArray) (hs : s.size ≤ 1048576) : ∀ (n k i : Nat), s.size = i + n → n < k → impl_isField.l1 k (s.size : Int) (i : Int) a s = some (((bytesOf s).drop i).all vbB && (decide (1 ≤ a.size ∧ a.size ≤ 30) && decide (s.size ≤ 120)))
  | _, 0, _, _, h => absurd h (by omega)
  | 0, k + 1, i, hi, _ => by
    have h1 : ¬ ((i : Int) < (s.size : Int)) := by omega
    rw [impl_isField.l1, if_neg h1, drop_end s i (by omega)]
    simp only [List.all_nil, Bool.true_and]
    by_cases g1 : (a.size : Int) ≥ 1
    · rw [if_pos g1]
      by_cases g2 : (a.size : Int) ≤ 30
      · rw [if_pos g2, decide_eq_true (show 1 ≤ a.size ∧ a.size ≤ 30 by omega), Bool.true_and]
        congr 1
        rw [decide_eq_decide]
        omega
      · rw [if_neg g2, decide_eq_false (show ¬ (1 ≤ a.size ∧ a.size ≤ 30) by omega), Bool.false_and]
    · rw [if_neg g1, decide_eq_false (show ¬ (1 ≤ a.size ∧ a.size ≤ 30) by omega), Bool.false_and]
  | n + 1, k + 1, i, hi, h => by
    have h1 : (i : Int) < (s.size : Int) := by omega
    have h2 : (0 : Int) ≤ (i : Int) := by omega
    rw [impl_isField.l1, if_pos h1, if_pos h2, if_pos h1, wrap_succ i (by omega), impl_isField.l1_eq a s hs n k (i + 1) (by omega) (by omega), drop_bt s i (by omega), List.all_cons]
    generalize bt s (i : Int) = c
    by_cases g1 : c < 32
    · rw [if_pos g1, vb_lt c g1, Bool.false_and, Bool.false_and]
    · rw [if_neg g1]
      by_cases g2 : c = 127
      · rw [if_pos g2, g2, vb_127, Bool.false_and, Bool.false_and]
      · rw [if_neg g2, vb_ok c g1 g2, Bool.true_and]
theorem impl_isField.l0_eq (a s : ByteArray) (ha : a.size ≤ 1048576) (hs : s.size ≤ 1048576) : ∀ (n k i : Nat), a.size = i + n → n + s.size + 1 < k → impl_isField.l0 k (a.size : Int) (i : Int) a s = some (((bytesOf a).drop i).all nbB && ((bytesOf s).all vbB && (decide (1 ≤ a.size ∧ a.size ≤ 30) && decide (s.size ≤ 120))))
  | _, 0, _, _, h => absurd h (by omega)
  | 0, k + 1, i, hi, h => by
    have h1 : ¬ ((i : Int) < (a.size : Int)) := by omega
    have := impl_isField.l1_eq a s hs s.size k 0 (by omega) (by omega)
    rw [List.drop_zero] at this
    rw [impl_isField.l0, if_neg h1, drop_end a i (by omega)]
    simp only [List.all_nil, Bool.true_and]
    exact this
  | n + 1, k + 1, i, hi, h => by
    have h1 : (i : Int) < (a.size : Int) := by omega
    have h2 : (0 : Int) ≤ (i : Int) := by omega
    rw [impl_isField.l0, if_pos h1, if_pos h2, if_pos h1, wrap_succ i (by omega), impl_isField.l0_eq a s ha hs n k (i + 1) (by omega) (by omega), drop_bt a i (by omega), List.all_cons, impl_letter_eq, Option.bind_some, impl_digit_eq, Option.bind_some]
    generalize bt a (i : Int) = c
    unfold nbB
    cases (decide (97 ≤ c ∧ c ≤ 122) || decide (65 ≤ c ∧ c ≤ 90)) with
    | true => rw [if_pos rfl, Bool.true_or, Bool.true_or, Bool.true_and]
    | false =>
      rw [if_neg (by decide), Bool.false_or]
      cases decide (48 ≤ c ∧ c ≤ 57) with
      | true => rw [if_pos rfl, Bool.true_or, Bool.true_and]
      | false =>
        rw [if_neg (by decide), Bool.false_or]
        by_cases g : c = 45
        · rw [if_pos g, g, beq_self_eq_true, Bool.true_and]
        · rw [if_neg g, beq_eq_false_iff_ne.mpr g, Bool.false_and, Bool.false_and]
theorem impl_isField_eq (a s : ByteArray) (k : Nat) (ha : a.size ≤ 1048576) (hs : s.size ≤ 1048576) (hk : a.size + s.size + 1 < k) : impl_isField.f k a s = some (nameB a && valB s) := by
  have := impl_isField.l0_eq a s ha hs a.size k 0 (by omega) hk
  unfold impl_isField.f nameB valB
  rw [List.drop_zero] at this
  rw [show (0 : Int) = ((0 : Nat) : Int) from rfl, this]
  cases (bytesOf a).all nbB <;> cases (bytesOf s).all vbB <;> cases decide (1 ≤ a.size ∧ a.size ≤ 30) <;> rfl
def fldB (x : S151) : Bool := nameB x.f0 && valB x.f1
def faultF (l : List S151) : Int := if 8 < l.length then 2 else if l.all fldB = true then 0 else 5
theorem rd_fld (l : List S151) (i : Nat) (h : i < l.length) : rd_T151 l (i : Int) = l[i] := by
  unfold rd_T151
  rw [Int.toNat_natCast, List.getD_eq_getElem?_getD, List.getElem?_eq_getElem h]
  rfl
def smallF (l : List S151) : Prop := l.length ≤ 1048576 ∧ ∀ x ∈ l, x.f0.size ≤ 1048576 ∧ x.f1.size ≤ 1048576
theorem spec_l4Fault.l0_eq (l : List S151) (hl : smallF l) : ∀ (n k i : Nat), l.length = i + n → n + 2097155 < k → spec_l4Fault.l0 k l (i : Int) = some (if (l.drop i).all fldB = true then 0 else 5)
  | _, 0, _, _, h => absurd h (by omega)
  | 0, k + 1, i, hi, _ => by
    have h1 : ¬ ((i : Int) < (l.length : Int)) := by omega
    rw [spec_l4Fault.l0, if_neg h1, List.drop_eq_nil_of_le (by omega)]
    rfl
  | n + 1, k + 1, i, hi, h => by
    have hlt : i < l.length := by omega
    have hb := hl.1
    have h1 : (i : Int) < (l.length : Int) := by omega
    have h2 : (0 : Int) ≤ (i : Int) := by omega
    obtain ⟨z0, z1⟩ := hl.2 l[i] (List.getElem_mem hlt)
    rw [spec_l4Fault.l0, if_pos h1, if_pos h2, wrap_succ i (by omega), spec_l4Fault.l0_eq l hl n k (i + 1) (by omega) (by omega), rd_fld l i hlt, spec_l4Name_eq _ k z0 (by omega), Option.bind_some, spec_l4Value_eq _ k z1 (by omega), Option.bind_some, List.drop_eq_getElem_cons hlt, List.all_cons]
    unfold fldB
    cases nameB l[i].f0 with
    | true =>
      rw [if_pos rfl, Bool.true_and]
      cases valB l[i].f1 with
      | true => rw [if_pos rfl, Bool.true_and]
      | false => rw [if_neg (by decide), Bool.false_and]; rfl
    | false => rw [if_neg (by decide), Bool.false_and, Bool.false_and]; rfl
theorem spec_l4Fault_eq (l : List S151) (hl : smallF l) (k : Nat) (hk : l.length + 2097155 < k) : spec_l4Fault.f k l = some (faultF l) := by
  unfold spec_l4Fault.f faultF
  by_cases h : 8 < l.length
  · rw [if_pos (by omega), if_pos h]
  · have := spec_l4Fault.l0_eq l hl l.length k 0 (by omega) hk
    rw [List.drop_zero] at this
    rw [if_neg (by omega), if_neg h]
    exact this
theorem impl_FieldsFault.l0_eq (l : List S151) (hl : smallF l) : ∀ (n k i : Nat), l.length = i + n → n + 2097155 < k → impl_FieldsFault.l0 k l (l.length : Int) (i : Int) = some (if (l.drop i).all fldB = true then 0 else 5)
  | _, 0, _, _, h => absurd h (by omega)
  | 0, k + 1, i, hi, _ => by
    have h1 : ¬ ((i : Int) < (l.length : Int)) := by omega
    rw [impl_FieldsFault.l0, if_neg h1, List.drop_eq_nil_of_le (by omega)]
    rfl
  | n + 1, k + 1, i, hi, h => by
    have hlt : i < l.length := by omega
    have hb := hl.1
    have h1 : (i : Int) < (l.length : Int) := by omega
    have h2 : (0 : Int) ≤ (i : Int) := by omega
    obtain ⟨z0, z1⟩ := hl.2 l[i] (List.getElem_mem hlt)
    rw [impl_FieldsFault.l0, if_pos h1, if_pos h2, if_pos h1, wrap_succ i (by omega), impl_FieldsFault.l0_eq l hl n k (i + 1) (by omega) (by omega), rd_fld l i hlt, impl_isField_eq _ _ k z0 z1 (by omega), Option.bind_some, List.drop_eq_getElem_cons hlt, List.all_cons]
    show (if fldB l[i] = true then _ else _) = _
    cases fldB l[i] with
    | true => rw [if_pos rfl, Bool.true_and]
    | false => rw [if_neg (by decide), Bool.false_and]; rfl
theorem impl_FieldsFault_eq (l : List S151) (hl : smallF l) (k : Nat) (hk : l.length + 2097155 < k) : impl_FieldsFault.f k l = some (faultF l) := by
  unfold impl_FieldsFault.f faultF
  by_cases h : 8 < l.length
  · rw [if_pos (by omega), if_pos h]
  · have := impl_FieldsFault.l0_eq l hl l.length k 0 (by omega) hk
    rw [List.drop_zero] at this
    rw [if_neg (by omega), if_neg h]
    exact this
def lineLen (l : List Int) : Nat := (fst 10 l).getD l.length
theorem lineLen_le (l : List Int) : lineLen l ≤ l.length := by
  unfold lineLen
  cases h : fst 10 l with
  | none => exact Nat.le_refl _
  | some i => exact Nat.le_of_lt (fst_lt 10 l i h)
theorem lineLen_cons (x : Int) (xs : List Int) : lineLen (x :: xs) = if x = 10 then 0 else lineLen xs + 1 := by
  unfold lineLen
  rw [show fst 10 (x :: xs) = if x = 10 then some 0 else (fst 10 xs).map (· + 1) from rfl]
  by_cases h : x = 10
  · rw [if_pos h, if_pos h]; rfl
  · rw [if_neg h, if_neg h]
    cases fst 10 xs <;> rfl
theorem spec_l4End.l0_eq (data : List Int) (hd : data.length ≤ 1048576) : ∀ (n k i : Nat), data.length = i + n → n < k → spec_l4End.l0 k data (i : Int) = some ((i + lineLen (data.drop i) : Nat) : Int)
  | _, 0, _, _, h => absurd h (by omega)
  | 0, k + 1, i, hi, _ => by
    have h1 : ¬ ((i : Int) < (data.length : Int)) := by omega
    rw [spec_l4End.l0, if_neg h1, List.drop_eq_nil_of_le (by omega)]
    rfl
  | n + 1, k + 1, i, hi, h => by
    have hlt : i < data.length := by omega
    have h1 : (i : Int) < (data.length : Int) := by omega
    have h2 : (0 : Int) ≤ (i : Int) := by omega
    rw [spec_l4End.l0, if_pos h1, if_pos h2, rd_at data i hlt, wrap_succ i (by omega), spec_l4End.l0_eq data hd n k (i + 1) (by omega) (by omega), List.drop_eq_getElem_cons hlt, lineLen_cons]
    by_cases c : data[i] = 10
    · rw [if_pos c, if_pos c]; rfl
    · rw [if_neg c, if_neg c]
      congr 2
      omega
theorem spec_l4End_eq (data : List Int) (hd : data.length ≤ 1048576) (k i : Nat) (hi : i ≤ data.length) (hk : data.length < k) : spec_l4End.f k data (i : Int) = some ((i + lineLen (data.drop i) : Nat) : Int) := by
  unfold spec_l4End.f
  exact spec_l4End.l0_eq data hd (data.length - i) k i (by omega) (by omega)
def trimV (v : ByteArray) : ByteArray := if 0 < v.size ∧ bt v 0 = 32 then v.extract 1 v.size else v
def newF (s : ByteArray) (c : Nat) : S151 := ⟨s.extract 0 c, trimV (s.extract (c + 1) s.size)⟩
def lastF (fs : List S151) (s : ByteArray) : List S151 := fs.set (fs.length - 1) ⟨(fs.getD (fs.length - 1) z151).f0, (fs.getD (fs.length - 1) z151).f1 ++ s⟩
def lineF (fs : List S151) (s : ByteArray) : Option (List S151) :=
  if bt s 0 = 32 ∨ bt s 0 = 9 then (if fs.length = 0 then none else some (lastF fs s)) else match fst 58 (bytesOf s) with | none => none | some c => some (fs ++ [newF s c])
theorem app_one (fs : List S151) (w : S151) (hf : fs.length ≤ 1048576) (a b : Int) (hab : a ≤ b) : ((some (([] : List (S151)) : List (S151))).bind fun y116 => (if y116.length + fs.length < 4398046511104 then ((some (y116 ++ fs : List (S151))).bind fun y119 => (if a ≤ b then ((some (([w] : List (S151)) : List (S151))).bind fun y122 => (if y119.length + y122.length < 4398046511104 then (some ((y119 ++ y122), true)) else (none))) else (none))) else (none))) = some (fs ++ [w], true) := by
  rw [Option.bind_some, if_pos (by simp; omega), Option.bind_some, if_pos hab, Option.bind_some, if_pos (by simp; omega)]
  rfl
theorem spec_l4Line.l0_eq (fs : List S151) (s : ByteArray) (hs : s.size ≤ 1048576) (hf : fs.length ≤ 1048576) : ∀ (n k i : Nat), s.size = i + n → n < k → spec_l4Line.l0 k fs s (i : Int) = some (match fst 58 ((bytesOf s).drop i) with | none => ([], false) | some c => (fs ++ [newF s (i + c)], true))
  | _, 0, _, _, h => absurd h (by omega)
  | 0, k + 1, i, hi, _ => by
    have h1 : ¬ ((i : Int) < (s.size : Int)) := by omega
    rw [spec_l4Line.l0, if_neg h1, drop_end s i (by omega)]
    rfl
  | n + 1, k + 1, i, hi, h => by
    have hlt : i < s.size := by omega
    have h1 : (i : Int) < (s.size : Int) := by omega
    have h2 : (0 : Int) ≤ (i : Int) := by omega
    have h3 : (0 : Int) ≤ ((i + 1 : Nat) : Int) := by omega
    have h4 : ((i + 1 : Nat) : Int) ≤ (s.size : Int) := by omega
    rw [spec_l4Line.l0, if_pos h1, if_pos h2, wrap_succ i (by omega), drop_bt s i hlt, show fst 58 (bt s (i : Int) :: (bytesOf s).drop (i + 1)) = if bt s (i : Int) = 58 then some 0 else (fst 58 ((bytesOf s).drop (i + 1))).map (· + 1) from rfl]
    by_cases c : bt s (i : Int) = 58
    · rw [if_pos c, if_pos c, if_pos h3, if_pos h4, Int.toNat_natCast, Int.toNat_natCast]
      show _ = some (fs ++ [newF s i], true)
      unfold newF
      have hz := toList_nil (s.extract (i + 1) s.size)
      generalize s.extract (i + 1) s.size = v at hz
      by_cases g1 : v.toList = []
      · rw [if_pos g1, app_one fs _ hf _ _ (by omega)]
        have : trimV v = v := by unfold trimV; rw [if_neg (by have := hz.1 g1; omega)]
        rw [this]
      · have hp : 0 < v.size := by
          rcases Nat.eq_zero_or_pos v.size with h0 | h0
          · exact absurd (hz.2 h0) g1
          · exact h0
        rw [if_neg g1, if_pos (by omega)]
        by_cases g2 : bt v 0 = 32
        · rw [if_pos g2, if_pos (by omega), app_one fs _ hf _ _ (by omega)]
          have : trimV v = v.extract 1 v.size := by unfold trimV; rw [if_pos ⟨hp, g2⟩]
          rw [this]
        · rw [if_neg g2, app_one fs _ hf _ _ (by omega)]
          have : trimV v = v := by unfold trimV; rw [if_neg (fun e => g2 e.2)]
          rw [this]
    · rw [if_neg c, if_neg c, spec_l4Line.l0_eq fs s hs hf n k (i + 1) (by omega) (by omega)]
      cases fst 58 ((bytesOf s).drop (i + 1)) with
      | none => rfl
      | some q =>
        show some (fs ++ [newF s (i + 1 + q)], true) = some (fs ++ [newF s (i + (q + 1))], true)
        rw [show i + 1 + q = i + (q + 1) by omega]
theorem spec_l4Line_eq (fs : List S151) (s : ByteArray) (hs : s.size ≤ 1048576) (hp : 0 < s.size) (hf : fs.length ≤ 1048576) (hv : ∀ x ∈ fs, x.f1.size ≤ 1048576) (k : Nat) (hk : s.size + 1 < k) : spec_l4Line.f k fs s = some (match lineF fs s with | none => ([], false) | some f => (f, true)) := by
  obtain ⟨k, rfl⟩ : ∃ m, k = m + 1 := ⟨k - 1, by omega⟩
  have key : ∀ b : Bool, spec_l4Line.j0 (k + 1) fs s (fs.length : Int) b = some (match (if b = true then (if fs.length = 0 then none else some (lastF fs s)) else match fst 58 (bytesOf s) with | none => none | some c => some (fs ++ [newF s c])) with | none => ([], false) | some f => (f, true)) := by
    intro b
    cases b with
    | true =>
      rw [spec_l4Line.j0, if_pos rfl, if_pos rfl]
      by_cases h0 : fs.length = 0
      · rw [if_pos (by omega), if_pos h0]
      · have w1 : wrap64 ((fs.length : Int) - 1) = ((fs.length - 1 : Nat) : Int) := by rw [wrap64_in (by omega)]; omega
        have hm : (fs.getD (fs.length - 1) z151).f1.size ≤ 1048576 := by
          rw [List.getD_eq_getElem?_getD, List.getElem?_eq_getElem (by omega)]
          exact hv _ (List.getElem_mem _)
        rw [if_neg (by omega), if_neg h0, Option.bind_some, if_pos (by simp; omega), Option.bind_some, w1, List.nil_append, if_pos (by omega), if_pos (by omega)]
        unfold rd_T151
        rw [Int.toNat_natCast, if_pos (by omega)]
        rfl
    | false =>
      have := spec_l4Line.l0_eq fs s hs hf s.size k 0 (by omega) (by omega)
      rw [List.drop_zero] at this
      rw [spec_l4Line.j0, if_neg (by decide), if_neg (by decide)]
      refine Eq.trans this ?_
      cases fst 58 (bytesOf s) with
      | none => rfl
      | some c =>
        show some (fs ++ [newF s (0 + c)], true) = _
        rw [Nat.zero_add]
  unfold spec_l4Line.f lineF
  rw [if_pos (by omega)]
  by_cases c1 : bt s 0 = 32
  · rw [if_pos c1, if_pos (Or.inl c1), key true, if_pos rfl]
  · rw [if_neg c1]
    by_cases c2 : bt s 0 = 9
    · rw [if_pos (Or.inr c2), c2, beq_self_eq_true, key true, if_pos rfl]
    · rw [if_neg (by omega : ¬ (bt s 0 = 32 ∨ bt s 0 = 9)), beq_eq_false_iff_ne.mpr c2, key false, if_neg (by decide)]
def fldsOk (fs : List S151) (n : Nat) : Prop := fs.length ≤ n ∧ ∀ x ∈ fs, x.f0.size ≤ n ∧ x.f1.size ≤ n
theorem fldsOk_small (fs : List S151) (n : Nat) (h : fldsOk fs n) (hn : n ≤ 1048576) : smallF fs :=
  ⟨Nat.le_trans h.1 hn, fun x hx => ⟨Nat.le_trans (h.2 x hx).1 hn, Nat.le_trans (h.2 x hx).2 hn⟩⟩
theorem fldsOk_mono (fs : List S151) (n m : Nat) (h : fldsOk fs n) (hn : n ≤ m) : fldsOk fs m :=
  ⟨Nat.le_trans h.1 hn, fun x hx => ⟨Nat.le_trans (h.2 x hx).1 hn, Nat.le_trans (h.2 x hx).2 hn⟩⟩
theorem trimV_size (v : ByteArray) : (trimV v).size ≤ v.size := by
  unfold trimV
  split
  · rw [ByteArray.size_extract]; omega
  · exact Nat.le_refl _
theorem lineF_ok (fs f : List S151) (s : ByteArray) (n : Nat) (h : fldsOk fs n) (hp : 0 < s.size) (he : lineF fs s = some f) : fldsOk f (n + s.size) := by
  unfold lineF at he
  by_cases c : bt s 0 = 32 ∨ bt s 0 = 9
  · rw [if_pos c] at he
    by_cases h0 : fs.length = 0
    · rw [if_pos h0] at he; cases he
    · rw [if_neg h0] at he
      cases he
      have hm := h.2 (fs.getD (fs.length - 1) z151) (by rw [List.getD_eq_getElem?_getD, List.getElem?_eq_getElem (by omega)]; exact List.getElem_mem _)
      unfold lastF
      refine ⟨by rw [List.length_set]; have := h.1; omega, fun x hx => ?_⟩
      rcases List.mem_or_eq_of_mem_set hx with hx | rfl
      · have := h.2 x hx; omega
      · refine ⟨by simp only; omega, ?_⟩
        simp only
        rw [ByteArray.size_append]
        omega
  · rw [if_neg c] at he
    cases hf : fst 58 (bytesOf s) with
    | none => rw [hf] at he; cases he
    | some q =>
      rw [hf] at he
      cases he
      refine ⟨by rw [List.length_append, List.length_singleton]; have := h.1; omega, fun x hx => ?_⟩
      rcases List.mem_append.1 hx with hx | hx
      · have := h.2 x hx; omega
      · rw [List.mem_singleton.1 hx]
        unfold newF
        have h1 := trimV_size (s.extract (q + 1) s.size)
        have h2 : (s.extract 0 q).size ≤ s.size := by rw [ByteArray.size_extract]; omega
        have h3 : (s.extract (q + 1) s.size).size ≤ s.size := by rw [ByteArray.size_extract]; omega
        exact ⟨by simp only; omega, by simp only; omega⟩
def parseF : Nat → List Int → Nat → List S151 → List S151 × Int × Bool
  | 0, _, _, _ => ([], 0, false)
  | n + 1, data, i, fs => if i < data.length then (if lineLen (data.drop i) = 0 then (fs, ((i + 1 : Nat) : Int), faultF fs == 0) else match lineF fs (strOfNums ((data.drop i).take (lineLen (data.drop i)))) with
      | none => ([], 0, false)
      | some f => parseF n data (min (i + lineLen (data.drop i) + 1) data.length) f)
    else (fs, (i : Int), faultF fs == 0)
theorem cut_eq (s : ByteArray) (hs : s.size ≤ 1048576) : strings_Cut.f s (⟨#[58]⟩ : ByteArray) = some (match fst 58 (bytesOf s) with | none => (s, (⟨#[]⟩ : ByteArray), false) | some c => (s.extract 0 c, s.extract (c + 1) s.size, true)) := by
  have hi : stringslite_Index.f s (⟨#[58]⟩ : ByteArray) = some (match fst 58 (bytesOf s) with | none => -1 | some i => (i : Int)) := by
    unfold stringslite_Index.f
    rw [if_pos (show (⟨#[58]⟩ : ByteArray).size = 1 from rfl), data_bytesOf, ← indexByte_fst 58 (by omega) (bytesOf s) (bytesOf_in s)]
    rfl
  unfold strings_Cut.f stringslite_Cut.f
  rw [hi]
  cases hf : fst 58 (bytesOf s) with
  | none => rfl
  | some c =>
    have hlt := fst_lt 58 _ c hf
    rw [bytesOf_length] at hlt
    have w1 : wrap64 ((c : Int) + ((⟨#[58]⟩ : ByteArray).size : Int)) = ((c + 1 : Nat) : Int) := wrap_succ c (by omega)
    simp only [Option.bind_some, w1]
    rw [if_pos (by omega), if_pos (by omega), if_pos (by omega), if_pos (by omega), if_pos (by omega)]
    rfl
theorem trim_eq (v : ByteArray) (hv : v.size ≤ 1048576) : strings_TrimPrefix.f v (⟨#[32]⟩ : ByteArray) = some (trimV v) := by
  have h1 : ((⟨#[32]⟩ : ByteArray).size : Int) = 1 := rfl
  unfold strings_TrimPrefix.f stringslite_TrimPrefix.f stringslite_HasPrefix.f trimV
  rw [h1]
  by_cases c : 0 < v.size
  · have hh : ((v.extract 0 ((1 : Int) : Int).toNat).toList == (⟨#[32]⟩ : ByteArray).toList) = decide (bt v 0 = 32) := by
      rw [Go.ByteArray.toList_eq, Go.ByteArray.toList_eq, Bool.eq_iff_iff, beq_iff_eq, decide_eq_true_eq]
      have hb := bytesOf_extract v 0 1
      have hd := drop_bt v 0 c
      rw [List.drop_zero] at hd
      rw [hd] at hb
      have he : bytesOf (v.extract 0 1) = [bt v ((0 : Nat) : Int)] := hb
      rw [show ((1 : Int)).toNat = 1 from rfl, data_bytesOf, he]
      show [UInt8.ofNat (bt v 0).toNat] = [32] ↔ _
      have hr := bt_range v 0
      constructor
      · intro h
        injection h with h
        have := u8_eq (bt v 0) 32 hr (by omega)
        rw [show (32 : Int).toNat.toUInt8 = (32 : UInt8) from rfl, h] at this
        exact of_decide_eq_true this.symm
      · intro h
        rw [h]
        rfl
    rw [if_pos (show (v.size : Int) ≥ 1 by omega), if_pos (show (0 : Int) ≤ 1 by omega), if_pos (show (1 : Int) ≤ (v.size : Int) by omega), hh, Option.bind_some]
    by_cases g : bt v 0 = 32
    · rw [if_pos (decide_eq_true g), if_pos (show (0 : Int) ≤ 1 by omega), if_pos (show (1 : Int) ≤ (v.size : Int) by omega), if_pos (show 0 < v.size ∧ bt v 0 = 32 from ⟨c, g⟩)]
      rfl
    · rw [if_neg (show ¬ (decide (bt v 0 = 32) = true) by simpa using g), if_neg (show ¬ (0 < v.size ∧ bt v 0 = 32) from fun e => g e.2)]
      rfl
  · rw [if_neg (show ¬ ((v.size : Int) ≥ 1) by omega), if_neg (show ¬ (0 < v.size ∧ bt v 0 = 32) from fun e => c e.1)]
    rfl
theorem blank_eq (b : Int) : impl_isBlank.f b = some (b == 32 || b == 9) := by
  unfold impl_isBlank.f
  by_cases h1 : b = 32 <;> by_cases h2 : b = 9 <;> simp_all
theorem impl_parseHeader.j1_eq (data : List Int) (hd : data.length ≤ 1048576) (fs : List S151) (i m : Nat) (x8 : Int) (him : i + m ≤ data.length) (hf : fldsOk fs 1048576) (k : Nat) (hk : fs.length + 2097155 < k) :
    impl_parseHeader.j1 (k + 1) data fs (i : Int) (m : Int) x8 = if m = 0 then some (fs, x8, faultF fs == 0) else match lineF fs (strOfNums ((data.drop i).take m)) with | none => some ([], 0, false) | some f => impl_parseHeader.l0 k data f x8 := by
  have w1 : wrap64 ((i : Int) + (m : Int)) = ((i + m : Nat) : Int) := by rw [wrap64_in (by omega)]; omega
  have hcut : (data.take (i + m)).drop i = (data.drop i).take m := by rw [List.drop_take, Nat.add_sub_cancel_left]
  have hlen : ((data.drop i).take m).length = m := by rw [List.length_take, List.length_drop]; omega
  rw [impl_parseHeader.j1, w1, Int.toNat_natCast, Int.toNat_natCast, hcut, if_pos (by omega), if_pos (by omega), if_pos (by omega)]
  have hsz := strOfNums_size ((data.drop i).take m)
  have hz := toList_nil (strOfNums ((data.drop i).take m))
  rw [hlen] at hsz
  generalize strOfNums ((data.drop i).take m) = s at hsz hz
  by_cases h0 : m = 0
  · rw [if_pos (hz.2 (by omega)), if_pos h0, impl_FieldsFault_eq fs (fldsOk_small fs _ hf (Nat.le_refl _)) k hk]
    rfl
  · have hne : ¬ s.toList = [] := fun e => h0 (by have := hz.1 e; omega)
    rw [if_neg hne, if_neg h0, if_pos (by omega), blank_eq, Option.bind_some]
    unfold lineF
    by_cases c : bt s 0 = 32 ∨ bt s 0 = 9
    · have hb : (bt s 0 == 32 || bt s 0 == 9) = true := by simpa using c
      rw [if_pos c, if_pos hb]
      by_cases g : fs.length = 0
      · rw [if_pos (by omega), if_pos g]
      · have w2 : wrap64 ((fs.length : Int) - 1) = ((fs.length - 1 : Nat) : Int) := by have := hf.1; rw [wrap64_in (by omega)]; omega
        have hm : (fs.getD (fs.length - 1) z151).f1.size ≤ 1048576 := by
          rw [List.getD_eq_getElem?_getD, List.getElem?_eq_getElem (by omega)]
          exact (hf.2 _ (List.getElem_mem _)).2
        rw [if_neg (by omega), if_neg g, w2, if_pos (by omega), if_pos (by omega)]
        unfold rd_T151
        rw [Int.toNat_natCast, if_pos (by omega)]
        rfl
    · have hb : ¬ (bt s 0 == 32 || bt s 0 == 9) = true := by simpa using c
      rw [if_neg c, if_neg hb, cut_eq s (by omega), Option.bind_some]
      cases fst 58 (bytesOf s) with
      | none => rfl
      | some q =>
        have hv : (s.extract (q + 1) s.size).size ≤ 1048576 := by rw [ByteArray.size_extract]; omega
        show (if true = true then ((strings_TrimPrefix.f (s.extract (q + 1) s.size) (⟨#[32]⟩ : ByteArray)).bind fun t200 => (if fs.length < 4398046511104 then (impl_parseHeader.l0 k data (fs ++ [(⟨s.extract 0 q, t200⟩ : S151)]) x8) else (none))) else _) = impl_parseHeader.l0 k data (fs ++ [newF s q]) x8
        rw [if_pos rfl, trim_eq _ hv, Option.bind_some, if_pos (by have := hf.1; omega)]
        rfl
theorem spec_l4Parse.step (data : List Int) (hd : data.length ≤ 1048576) (fs : List S151) (i : Nat) (hi : i < data.length) (hf : fldsOk fs 1048576) (k : Nat) (hk : fs.length + 2097155 + data.length < k) :
    spec_l4Parse.l0 (k + 1) data fs (i : Int) = if lineLen (data.drop i) = 0 then some (fs, ((i + 1 : Nat) : Int), faultF fs == 0) else match lineF fs (strOfNums ((data.drop i).take (lineLen (data.drop i)))) with | none => some ([], 0, false) | some f => spec_l4Parse.l0 k data f ((min (i + lineLen (data.drop i) + 1) data.length : Nat) : Int) := by
  have hle := lineLen_le (data.drop i)
  rw [List.length_drop] at hle
  have hcut : (data.take (i + lineLen (data.drop i))).drop i = (data.drop i).take (lineLen (data.drop i)) := by rw [List.drop_take, Nat.add_sub_cancel_left]
  have hlen : ((data.drop i).take (lineLen (data.drop i))).length = lineLen (data.drop i) := by rw [List.length_take, List.length_drop]; omega
  conv => lhs; unfold spec_l4Parse.l0
  rw [if_pos (by omega), spec_l4End_eq data hd k i (by omega) (by omega), Option.bind_some]
  generalize lineLen (data.drop i) = m at hle hcut hlen
  by_cases h0 : m = 0
  · subst h0
    rw [if_pos (show ((i + 0 : Nat) : Int) = (i : Int) by omega), if_pos rfl, spec_l4Fault_eq fs (fldsOk_small fs _ hf (Nat.le_refl _)) k (by omega), Option.bind_some, wrap_succ i (by omega)]
  · rw [if_neg (by omega), if_neg h0, if_pos (by omega), if_pos (by omega), if_pos (by omega), Int.toNat_natCast, Int.toNat_natCast, hcut]
    have hsz := strOfNums_size ((data.drop i).take m)
    rw [hlen] at hsz
    generalize strOfNums ((data.drop i).take m) = s at hsz
    rw [spec_l4Line_eq fs s (by omega) (by omega) hf.1 (fun x hx => (hf.2 x hx).2) k (by omega), Option.bind_some]
    cases lineF fs s with
    | none => rfl
    | some f =>
      show (if true = true then _ else _) = _
      rw [if_pos rfl]
      by_cases g : i + m < data.length
      · rw [if_pos (by omega), wrap_succ (i + m) (by omega), show min (i + m + 1) data.length = i + m + 1 by omega]
      · rw [if_neg (by omega), show min (i + m + 1) data.length = i + m by omega]
theorem impl_parseHeader.step (data : List Int) (hd : data.length ≤ 1048576) (hB : ∀ x ∈ data, 0 ≤ x ∧ x ≤ 255) (fs : List S151) (i : Nat) (hi : i < data.length) (hf : fldsOk fs 1048576) (k : Nat) (hk : fs.length + 2097155 < k) :
    impl_parseHeader.l0 (k + 2) data fs (i : Int) = if lineLen (data.drop i) = 0 then some (fs, ((i + 1 : Nat) : Int), faultF fs == 0) else match lineF fs (strOfNums ((data.drop i).take (lineLen (data.drop i)))) with | none => some ([], 0, false) | some f => impl_parseHeader.l0 k data f ((min (i + lineLen (data.drop i) + 1) data.length : Nat) : Int) := by
  have hdB : ∀ x ∈ data.drop i, 0 ≤ x ∧ x ≤ 255 := fun x hx => hB x (List.mem_of_mem_drop hx)
  have hdl : (data.drop i).length = data.length - i := List.length_drop
  have hx : bytes_IndexByte.f (data.drop i) 10 = some (match fst 10 (data.drop i) with | none => -1 | some j => (j : Int)) := by
    unfold bytes_IndexByte.f
    rw [if_pos (by omega), indexByte_fst 10 (by omega) _ hdB]
  conv => lhs; unfold impl_parseHeader.l0
  rw [if_pos (by omega), if_pos (by omega), if_pos (by omega), Int.toNat_natCast, hx, Option.bind_some]
  cases hf10 : fst 10 (data.drop i) with
  | none =>
    have hm : lineLen (data.drop i) = data.length - i := by unfold lineLen; rw [hf10]; exact hdl
    have w1 : wrap64 ((data.length : Int) - (i : Int)) = ((data.length - i : Nat) : Int) := by rw [wrap64_in (by omega)]; omega
    show (if (-1 : Int) < 0 then _ else _) = _
    rw [if_pos (by decide), w1, impl_parseHeader.j1_eq data hd fs i (data.length - i) _ (by omega) hf k hk, hm, if_neg (by omega), if_neg (by omega), show min (i + (data.length - i) + 1) data.length = data.length by omega]
  | some m =>
    have hlt := fst_lt 10 _ m hf10
    have hm : lineLen (data.drop i) = m := by unfold lineLen; rw [hf10]; rfl
    have w1 : wrap64 ((i : Int) + (m : Int)) = ((i + m : Nat) : Int) := by rw [wrap64_in (by omega)]; omega
    show (if (m : Int) < 0 then _ else _) = _
    rw [if_neg (by omega), w1, wrap_succ (i + m) (by omega), impl_parseHeader.j1_eq data hd fs i m _ (by omega) hf k hk, hm, show min (i + m + 1) data.length = i + m + 1 by omega]
    by_cases h0 : m = 0
    · simp only [if_pos h0]; rw [h0]
    · simp only [if_neg h0]
theorem parse_both (data : List Int) (hd : data.length ≤ 1048576) (hB : ∀ x ∈ data, 0 ≤ x ∧ x ≤ 255) : ∀ (n k k2 i : Nat) (fs : List S151), data.length < i + n → i ≤ data.length → fldsOk fs i → 4194400 + n < k → 4194400 + 2 * n < k2 → spec_l4Parse.l0 k data fs (i : Int) = some (parseF n data i fs) ∧ impl_parseHeader.l0 k2 data fs (i : Int) = some (parseF n data i fs)
  | 0, _, _, _, _, h, h2, _, _, _ => absurd h (by omega)
  | n + 1, k, k2, i, fs, h, h2, hf, hk, hk2 => by
    obtain ⟨k, rfl⟩ : ∃ m, k = m + 1 := ⟨k - 1, by omega⟩
    obtain ⟨k2, rfl⟩ : ∃ m, k2 = m + 2 := ⟨k2 - 2, by omega⟩
    have hf2 := fldsOk_mono fs i 1048576 hf (by omega)
    have hfl := hf.1
    unfold parseF
    by_cases hi : i < data.length
    · rw [spec_l4Parse.step data hd fs i hi hf2 k (by omega), impl_parseHeader.step data hd hB fs i hi hf2 k2 (by omega), if_pos hi]
      have hle := lineLen_le (data.drop i)
      rw [List.length_drop] at hle
      have hlen : ((data.drop i).take (lineLen (data.drop i))).length = lineLen (data.drop i) := by rw [List.length_take, List.length_drop]; omega
      have hsz := strOfNums_size ((data.drop i).take (lineLen (data.drop i)))
      rw [hlen] at hsz
      generalize lineLen (data.drop i) = m at hle hlen hsz
      by_cases h0 : m = 0
      · simp only [if_pos h0]; exact ⟨trivial, trivial⟩
      · simp only [if_neg h0]
        generalize strOfNums ((data.drop i).take m) = s at hsz
        cases hl : lineF fs s with
        | none => exact ⟨rfl, rfl⟩
        | some f =>
          have hok := lineF_ok fs f s i hf (by omega) hl
          exact parse_both data hd hB n k k2 (min (i + m + 1) data.length) f (by omega) (by omega) (fldsOk_mono f _ _ hok (by omega)) (by omega) (by omega)
    · obtain ⟨k2, rfl⟩ : ∃ m, k2 = m + 1 := ⟨k2 - 1, by omega⟩
      have hI : ¬ ((i : Int) < (data.length : Int)) := by omega
      rw [spec_l4Parse.l0, impl_parseHeader.l0, if_neg hI, if_neg hI, if_neg hi, spec_l4Fault_eq fs (fldsOk_small fs _ hf2 (Nat.le_refl _)) k (by omega), impl_FieldsFault_eq fs (fldsOk_small fs _ hf2 (Nat.le_refl _)) (k2 + 1 + 1) (by omega)]
      exact ⟨rfl, rfl⟩
theorem parse_both0 (data : List Int) (hd : data.length ≤ 1048576) (hB : ∀ x ∈ data, 0 ≤ x ∧ x ≤ 255) (k : Nat) (hk : 8388800 < k) : spec_l4Parse.f k data = some (parseF (data.length + 1) data 0 []) ∧ impl_parseHeader.f k data = some (parseF (data.length + 1) data 0 []) := by
  unfold spec_l4Parse.f impl_parseHeader.f
  exact parse_both data hd hB (data.length + 1) k k 0 [] (by omega) (by omega) ⟨Nat.zero_le _, by simp⟩ (by omega) (by omega)
theorem parseF_ok (data : List Int) (hd : data.length ≤ 1048576) : ∀ (n i : Nat) (fs : List S151), i ≤ data.length → fldsOk fs i → fldsOk (parseF n data i fs).1 1048576
  | 0, _, _, _, _ => ⟨Nat.zero_le _, by simp [parseF]⟩
  | n + 1, i, fs, hi, hf => by
    have hf2 := fldsOk_mono fs i 1048576 hf (by omega)
    unfold parseF
    by_cases c : i < data.length
    · rw [if_pos c]
      have hle := lineLen_le (data.drop i)
      rw [List.length_drop] at hle
      have hlen : ((data.drop i).take (lineLen (data.drop i))).length = lineLen (data.drop i) := by rw [List.length_take, List.length_drop]; omega
      have hsz := strOfNums_size ((data.drop i).take (lineLen (data.drop i)))
      rw [hlen] at hsz
      generalize lineLen (data.drop i) = m at hle hlen hsz
      by_cases h0 : m = 0
      · rw [if_pos h0]; exact hf2
      · rw [if_neg h0]
        generalize strOfNums ((data.drop i).take m) = s at hsz
        cases hl : lineF fs s with
        | none => exact ⟨Nat.zero_le _, by simp⟩
        | some f =>
          have hok := lineF_ok fs f s i hf (by omega) hl
          exact parseF_ok data hd n (min (i + m + 1) data.length) f (by omega) (fldsOk_mono f _ _ hok (by omega))
    · rw [if_neg c]; exact hf2
def low (b : Int) : Int := if 65 ≤ b ∧ b ≤ 90 then (b + 32) % 256 else b
theorem low_step (L : List Int) (i : Nat) (h : i < L.length) : ((L.take i).map low ++ L.drop i).set i (low L[i]) = (L.take (i + 1)).map low ++ L.drop (i + 1) := by
  rw [List.set_append_right _ _ (by simp; omega)]
  have h5 : i - ((L.take i).map low).length = 0 := by simp; omega
  rw [h5, List.drop_eq_getElem_cons h, List.set_cons_zero, List.take_succ_eq_append_getElem h, List.map_append, List.append_assoc]
  rfl
theorem low_rd (L : List Int) (i : Nat) (h : i < L.length) : rd ((L.take i).map low ++ L.drop i) (i : Int) = L[i] := by
  rw [rd_at _ i (by simp; omega), List.getElem_append_right (by simp; omega)]
  simp only [List.getElem_drop]
  congr 1
  simp; omega
theorem low_same (L : List Int) (i : Nat) (h : i < L.length) (hl : low L[i] = L[i]) : (L.take i).map low ++ L.drop i = (L.take (i + 1)).map low ++ L.drop (i + 1) := by
  rw [← low_step L i h, hl, List.set_append_right _ _ (by simp; omega)]
  have h5 : i - ((L.take i).map low).length = 0 := by simp; omega
  rw [h5, List.drop_eq_getElem_cons h, List.set_cons_zero]
theorem low_len (L : List Int) (i : Nat) : ((L.take i).map low ++ L.drop i).length = L.length := by simp; omega
theorem spec_l2Lower.l0_eq (L : List Int) (hb : L.length ≤ maxLen) : ∀ (n k i : Nat), L.length = i + n → n < k → spec_l2Lower.l0 k ((L.take i).map low ++ L.drop i) (i : Int) = some (strOfNums (L.map low))
  | 0, 0, _, _, h => absurd h (by omega)
  | 0, k + 1, i, hi, _ => by
    have h1 : ¬ ((i : Int) < (((L.take i).map low ++ L.drop i).length : Int)) := by rw [low_len]; omega
    unfold spec_l2Lower.l0
    rw [if_neg h1, List.drop_eq_nil_of_le (by omega), List.take_of_length_le (by omega), List.append_nil]
  | n + 1, 0, _, _, h => absurd h (by omega)
  | n + 1, k + 1, i, hi, h => by
    have hm := maxLen_le
    have h1 : (i : Int) < (((L.take i).map low ++ L.drop i).length : Int) := by rw [low_len]; omega
    have h2 : (0 : Int) ≤ (i : Int) := by omega
    have h4 : wrap64 ((i : Int) + 1) = ((i + 1 : Nat) : Int) := by rw [wrap64_in (by omega)]; omega
    have hlt : i < L.length := by omega
    have ih := spec_l2Lower.l0_eq L hb n k (i + 1) (by omega) (by omega)
    have hs := low_step L i hlt
    have hq := low_same L i hlt
    unfold spec_l2Lower.l0
    rw [if_pos h1, if_pos h2, low_rd L i hlt, h4, Int.toNat_natCast]
    generalize L[i] = y at hs hq
    by_cases h5 : y ≥ 65
    · rw [if_pos h5]
      by_cases h6 : y ≤ 90
      · rw [if_pos h6]
        have h7 : low y = (y + 32) % 256 := by unfold low; rw [if_pos ⟨h5, h6⟩]
        rw [← h7, hs, ih]
      · rw [if_neg h6, hq (by unfold low; rw [if_neg (by omega)]), ih]
    · rw [if_neg h5, hq (by unfold low; rw [if_neg (by omega)]), ih]
theorem bytesOf_len (a : ByteArray) : (bytesOf a).length = a.size := by simp [bytesOf]
theorem spec_l2Lower_eq (a : ByteArray) (k : Nat) (hb : a.size ≤ 1048576) (hk : a.size < k) : spec_l2Lower.f k a = some (strOfNums ((bytesOf a).map low)) := by
  have hl := bytesOf_len a
  unfold spec_l2Lower.f
  rw [if_pos (by omega)]
  have := spec_l2Lower.l0_eq (bytesOf a) (by unfold maxLen; omega) a.size k 0 (by omega) hk
  simpa using this
theorem impl_small.l0_eq (L : List Int) (hb : L.length ≤ maxLen) : ∀ (n k i : Nat), L.length = i + n → n < k → impl_small.l0 k ((L.take i).map low ++ L.drop i) (L.length : Int) (i : Int) = some (strOfNums (L.map low))
  | 0, 0, _, _, h => absurd h (by omega)
  | 0, k + 1, i, hi, _ => by
    have h1 : ¬ ((i : Int) < (L.length : Int)) := by omega
    unfold impl_small.l0
    rw [if_neg h1, List.drop_eq_nil_of_le (by omega), List.take_of_length_le (by omega), List.append_nil]
  | n + 1, 0, _, _, h => absurd h (by omega)
  | n + 1, k + 1, i, hi, h => by
    have hm := maxLen_le
    have h0 : (i : Int) < (L.length : Int) := by omega
    have h1 : (i : Int) < (((L.take i).map low ++ L.drop i).length : Int) := by rw [low_len]; omega
    have h2 : (0 : Int) ≤ (i : Int) := by omega
    have h4 : wrap64 ((i : Int) + 1) = ((i + 1 : Nat) : Int) := by rw [wrap64_in (by omega)]; omega
    have hlt : i < L.length := by omega
    have ih := impl_small.l0_eq L hb n k (i + 1) (by omega) (by omega)
    have hs := low_step L i hlt
    have hq := low_same L i hlt
    unfold impl_small.l0
    rw [if_pos h0, if_pos h2, if_pos h1, low_rd L i hlt, h4, Int.toNat_natCast]
    generalize L[i] = y at hs hq
    by_cases h5 : y ≥ 65
    · rw [if_pos h5]
      by_cases h6 : y ≤ 90
      · rw [if_pos h6]
        have h7 : low y = (y + 32) % 256 := by unfold low; rw [if_pos ⟨h5, h6⟩]
        rw [← h7, hs, ih]
      · rw [if_neg h6, hq (by unfold low; rw [if_neg (by omega)]), ih]
    · rw [if_neg h5, hq (by unfold low; rw [if_neg (by omega)]), ih]
theorem bytesOf_len1 (a : ByteArray) : (bytesOf a).length = a.size := by simp [bytesOf]
theorem impl_small_eq (a : ByteArray) (k : Nat) (hb : a.size ≤ 1048576) (hk : a.size < k) : impl_small.f k a = some (strOfNums ((bytesOf a).map low)) := by
  have hl := bytesOf_len1 a
  unfold impl_small.f
  rw [if_pos (by omega), Option.bind_some]
  have := impl_small.l0_eq (bytesOf a) (by unfold maxLen; omega) a.size k 0 (by omega) hk
  simpa using this
def lowS (s : ByteArray) : ByteArray := strOfNums ((bytesOf s).map low)
def ofF (name : ByteArray) : List S151 → ByteArray × Bool
  | [] => (⟨#[]⟩, false)
  | x :: xs => if (lowS x.f0).toList = (lowS name).toList then (x.f1, true) else ofF name xs
theorem spec_l4Of.l0_eq (l : List S151) (hl : smallF l) (a : ByteArray) (ha : a.size ≤ 1048576) : ∀ (n k i : Nat), l.length = i + n → n + 1048577 < k → spec_l4Of.l0 k l a (i : Int) = some (ofF a (l.drop i))
  | _, 0, _, _, h => absurd h (by omega)
  | 0, k + 1, i, hi, _ => by
    have h1 : ¬ ((i : Int) < (l.length : Int)) := by omega
    rw [spec_l4Of.l0, if_neg h1, List.drop_eq_nil_of_le (by omega)]
    rfl
  | n + 1, k + 1, i, hi, h => by
    have hlt : i < l.length := by omega
    have hb := hl.1
    have h1 : (i : Int) < (l.length : Int) := by omega
    have h2 : (0 : Int) ≤ (i : Int) := by omega
    obtain ⟨z0, z1⟩ := hl.2 l[i] (List.getElem_mem hlt)
    rw [spec_l4Of.l0, if_pos h1, if_pos h2, wrap_succ i (by omega), spec_l4Of.l0_eq l hl a ha n k (i + 1) (by omega) (by omega), rd_fld l i hlt, spec_l2Lower_eq _ k z0 (by omega), Option.bind_some, spec_l2Lower_eq a k ha (by omega), Option.bind_some, List.drop_eq_getElem_cons hlt]
    show _ = some (if (lowS l[i].f0).toList = (lowS a).toList then (l[i].f1, true) else ofF a (l.drop (i + 1)))
    unfold lowS
    split <;> rfl
theorem impl_fieldOf.l0_eq (l : List S151) (hl : smallF l) (a : ByteArray) (ha : a.size ≤ 1048576) : ∀ (n k i : Nat), l.length = i + n → n + 1048577 < k → impl_fieldOf.l0 k a l (l.length : Int) (i : Int) = some (ofF a (l.drop i))
  | _, 0, _, _, h => absurd h (by omega)
  | 0, k + 1, i, hi, _ => by
    have h1 : ¬ ((i : Int) < (l.length : Int)) := by omega
    rw [impl_fieldOf.l0, if_neg h1, List.drop_eq_nil_of_le (by omega)]
    rfl
  | n + 1, k + 1, i, hi, h => by
    have hlt : i < l.length := by omega
    have hb := hl.1
    have h1 : (i : Int) < (l.length : Int) := by omega
    have h2 : (0 : Int) ≤ (i : Int) := by omega
    obtain ⟨z0, z1⟩ := hl.2 l[i] (List.getElem_mem hlt)
    rw [impl_fieldOf.l0, if_pos h1, if_pos h2, if_pos h1, wrap_succ i (by omega), impl_fieldOf.l0_eq l hl a ha n k (i + 1) (by omega) (by omega), rd_fld l i hlt, impl_small_eq _ k z0 (by omega), Option.bind_some, impl_small_eq a k ha (by omega), Option.bind_some, List.drop_eq_getElem_cons hlt]
    show _ = some (if (lowS l[i].f0).toList = (lowS a).toList then (l[i].f1, true) else ofF a (l.drop (i + 1)))
    unfold lowS
    split <;> rfl
theorem spec_l4Of_eq (l : List S151) (hl : smallF l) (a : ByteArray) (ha : a.size ≤ 1048576) (k : Nat) (hk : l.length + 1048577 < k) : spec_l4Of.f k l a = some (ofF a l) := by
  have := spec_l4Of.l0_eq l hl a ha l.length k 0 (by omega) hk
  unfold spec_l4Of.f
  simpa using this
theorem impl_fieldOf_eq (l : List S151) (hl : smallF l) (a : ByteArray) (ha : a.size ≤ 1048576) (k : Nat) (hk : l.length + 1048577 < k) : impl_fieldOf.f k l a = some (ofF a l) := by
  have := impl_fieldOf.l0_eq l hl a ha l.length k 0 (by omega) hk
  unfold impl_fieldOf.f
  simpa using this
theorem ite_eq_comm {α : Type} [DecidableEq α] {β : Type} (a b : α) (x y : β) : (if a = b then x else y) = if b = a then x else y := by
  by_cases h : a = b
  · rw [if_pos h, if_pos h.symm]
  · rw [if_neg h, if_neg (fun e => h e.symm)]
theorem charset_both (a : ByteArray) (hl : ¬ (a.size : Int) > 1048576) (k0 : Nat) (hk0 : a.size < k0) : ∃ v c, spec_l2Of.f (k0 + 7) a = some v ∧ impl_CharsetOf.f (k0 + 7) a = some (c, v) := by
  have e1 : ∀ j, 1 ≤ j → spec_l2Lower.f (k0 + j) a = _ := fun j hj => spec_l2Lower_eq a (k0 + j) (by omega) (by omega)
  have e2 : impl_small.f (k0 + 7) a = _ := impl_small_eq a (k0 + 7) (by omega) (by omega)
  have w1 : wrap64 (1 + 1) = 2 := by decide +kernel
  have w2 : wrap64 (2 + 1) = 3 := by decide +kernel
  have w3 : wrap64 (3 + 1) = 4 := by decide +kernel
  have w4 : wrap64 (4 + 1) = 5 := by decide +kernel
  have w5 : wrap64 (5 + 1) = 6 := by decide +kernel
  have w0 : wrap64 (0 + 1) = 1 := by decide +kernel
  generalize strOfNums ((bytesOf a).map low) = s at e1 e2
  have n1 : spec_l2Name.f 1 = some ⟨#[117, 115, 45, 97, 115, 99, 105, 105]⟩ := by rfl
  have n2 : spec_l2Name.f 2 = some ⟨#[105, 115, 111, 45, 56, 56, 53, 57, 45, 49]⟩ := by rfl
  have n3 : spec_l2Name.f 3 = some ⟨#[105, 115, 111, 45, 56, 56, 53, 57, 45, 53]⟩ := by rfl
  have n4 : spec_l2Name.f 4 = some ⟨#[117, 116, 102, 45, 56]⟩ := by rfl
  have n5 : spec_l2Name.f 5 = some ⟨#[117, 116, 102, 45, 49, 54]⟩ := by rfl
  have hs : spec_l2Of.f (k0 + 7) a = some (if (⟨#[117, 115, 45, 97, 115, 99, 105, 105]⟩ : ByteArray).toList = s.toList then 1 else if (⟨#[105, 115, 111, 45, 56, 56, 53, 57, 45, 49]⟩ : ByteArray).toList = s.toList then 2 else if (⟨#[105, 115, 111, 45, 56, 56, 53, 57, 45, 53]⟩ : ByteArray).toList = s.toList then 3 else if (⟨#[117, 116, 102, 45, 56]⟩ : ByteArray).toList = s.toList then 4 else if (⟨#[117, 116, 102, 45, 49, 54]⟩ : ByteArray).toList = s.toList then 5 else 0) := by
    unfold spec_l2Of.f
    unfold spec_l2Of.l0
    rw [if_pos (by decide), n1, Option.bind_some, e1 6 (by omega), Option.bind_some]
    split
    · rfl
    rw [w1]; unfold spec_l2Of.l0
    rw [if_pos (by decide), n2, Option.bind_some, e1 5 (by omega), Option.bind_some]
    split
    · rfl
    rw [w2]; unfold spec_l2Of.l0
    rw [if_pos (by decide), n3, Option.bind_some, e1 4 (by omega), Option.bind_some]
    split
    · rfl
    rw [w3]; unfold spec_l2Of.l0
    rw [if_pos (by decide), n4, Option.bind_some, e1 3 (by omega), Option.bind_some]
    split
    · rfl
    rw [w4]; unfold spec_l2Of.l0
    rw [if_pos (by decide), n5, Option.bind_some, e1 2 (by omega), Option.bind_some]
    split
    · rfl
    rw [w5]; unfold spec_l2Of.l0
    rw [if_neg (by decide)]
  have hx : slices_Index_string_string.f (k0 + 7) [(⟨#[117, 115, 45, 97, 115, 99, 105, 105]⟩ : ByteArray), (⟨#[105, 115, 111, 45, 56, 56, 53, 57, 45, 49]⟩ : ByteArray), (⟨#[105, 115, 111, 45, 56, 56, 53, 57, 45, 53]⟩ : ByteArray), (⟨#[117, 116, 102, 45, 56]⟩ : ByteArray), (⟨#[117, 116, 102, 45, 49, 54]⟩ : ByteArray)] s = some (if (⟨#[117, 115, 45, 97, 115, 99, 105, 105]⟩ : ByteArray).toList = s.toList then 0 else if (⟨#[105, 115, 111, 45, 56, 56, 53, 57, 45, 49]⟩ : ByteArray).toList = s.toList then 1 else if (⟨#[105, 115, 111, 45, 56, 56, 53, 57, 45, 53]⟩ : ByteArray).toList = s.toList then 2 else if (⟨#[117, 116, 102, 45, 56]⟩ : ByteArray).toList = s.toList then 3 else if (⟨#[117, 116, 102, 45, 49, 54]⟩ : ByteArray).toList = s.toList then 4  else -1) := by
    unfold slices_Index_string_string.f
    rw [show (([(⟨#[117, 115, 45, 97, 115, 99, 105, 105]⟩ : ByteArray), (⟨#[105, 115, 111, 45, 56, 56, 53, 57, 45, 49]⟩ : ByteArray), (⟨#[105, 115, 111, 45, 56, 56, 53, 57, 45, 53]⟩ : ByteArray), (⟨#[117, 116, 102, 45, 56]⟩ : ByteArray), (⟨#[117, 116, 102, 45, 49, 54]⟩ : ByteArray)].length : Nat) : Int) = 5 from rfl]
    unfold slices_Index_string_string.l0
    rw [if_pos (by decide), if_pos (by decide), if_pos (by decide), show rdOf ByteArray.empty [(⟨#[117, 115, 45, 97, 115, 99, 105, 105]⟩ : ByteArray), (⟨#[105, 115, 111, 45, 56, 56, 53, 57, 45, 49]⟩ : ByteArray), (⟨#[105, 115, 111, 45, 56, 56, 53, 57, 45, 53]⟩ : ByteArray), (⟨#[117, 116, 102, 45, 56]⟩ : ByteArray), (⟨#[117, 116, 102, 45, 49, 54]⟩ : ByteArray)] 0 = (⟨#[117, 115, 45, 97, 115, 99, 105, 105]⟩ : ByteArray) from rfl, ite_eq_comm s.toList]
    split
    · rfl
    rw [w0]
    unfold slices_Index_string_string.l0
    rw [if_pos (by decide), if_pos (by decide), if_pos (by decide), show rdOf ByteArray.empty [(⟨#[117, 115, 45, 97, 115, 99, 105, 105]⟩ : ByteArray), (⟨#[105, 115, 111, 45, 56, 56, 53, 57, 45, 49]⟩ : ByteArray), (⟨#[105, 115, 111, 45, 56, 56, 53, 57, 45, 53]⟩ : ByteArray), (⟨#[117, 116, 102, 45, 56]⟩ : ByteArray), (⟨#[117, 116, 102, 45, 49, 54]⟩ : ByteArray)] 1 = (⟨#[105, 115, 111, 45, 56, 56, 53, 57, 45, 49]⟩ : ByteArray) from rfl, ite_eq_comm s.toList]
    split
    · rfl
    rw [w1]
    unfold slices_Index_string_string.l0
    rw [if_pos (by decide), if_pos (by decide), if_pos (by decide), show rdOf ByteArray.empty [(⟨#[117, 115, 45, 97, 115, 99, 105, 105]⟩ : ByteArray), (⟨#[105, 115, 111, 45, 56, 56, 53, 57, 45, 49]⟩ : ByteArray), (⟨#[105, 115, 111, 45, 56, 56, 53, 57, 45, 53]⟩ : ByteArray), (⟨#[117, 116, 102, 45, 56]⟩ : ByteArray), (⟨#[117, 116, 102, 45, 49, 54]⟩ : ByteArray)] 2 = (⟨#[105, 115, 111, 45, 56, 56, 53, 57, 45, 53]⟩ : ByteArray) from rfl, ite_eq_comm s.toList]
    split
    · rfl
    rw [w2]
    unfold slices_Index_string_string.l0
    rw [if_pos (by decide), if_pos (by decide), if_pos (by decide), show rdOf ByteArray.empty [(⟨#[117, 115, 45, 97, 115, 99, 105, 105]⟩ : ByteArray), (⟨#[105, 115, 111, 45, 56, 56, 53, 57, 45, 49]⟩ : ByteArray), (⟨#[105, 115, 111, 45, 56, 56, 53, 57, 45, 53]⟩ : ByteArray), (⟨#[117, 116, 102, 45, 56]⟩ : ByteArray), (⟨#[117, 116, 102, 45, 49, 54]⟩ : ByteArray)] 3 = (⟨#[117, 116, 102, 45, 56]⟩ : ByteArray) from rfl, ite_eq_comm s.toList]
    split
    · rfl
    rw [w3]
    unfold slices_Index_string_string.l0
    rw [if_pos (by decide), if_pos (by decide), if_pos (by decide), show rdOf ByteArray.empty [(⟨#[117, 115, 45, 97, 115, 99, 105, 105]⟩ : ByteArray), (⟨#[105, 115, 111, 45, 56, 56, 53, 57, 45, 49]⟩ : ByteArray), (⟨#[105, 115, 111, 45, 56, 56, 53, 57, 45, 53]⟩ : ByteArray), (⟨#[117, 116, 102, 45, 56]⟩ : ByteArray), (⟨#[117, 116, 102, 45, 49, 54]⟩ : ByteArray)] 4 = (⟨#[117, 116, 102, 45, 49, 54]⟩ : ByteArray) from rfl, ite_eq_comm s.toList]
    split
    · rfl
    rw [w4]
    unfold slices_Index_string_string.l0
    rw [if_neg (by decide)]
  simp only [impl_CharsetOf.f, impl_charsets.f, hs, hx, e2, Option.bind_some]
  split
  · exact ⟨_, _, rfl, by simp +decide [show wrap64 1 = 1 from by decide +kernel]; rfl⟩
  split
  · exact ⟨_, _, rfl, by simp +decide [show wrap64 2 = 2 from by decide +kernel]; rfl⟩
  split
  · exact ⟨_, _, rfl, by simp +decide [show wrap64 3 = 3 from by decide +kernel]; rfl⟩
  split
  · exact ⟨_, _, rfl, by simp +decide [show wrap64 4 = 4 from by decide +kernel]; rfl⟩
  split
  · exact ⟨_, _, rfl, by simp +decide [show wrap64 5 = 5 from by decide +kernel]; rfl⟩
  · exact ⟨_, _, rfl, by simp; rfl⟩
def cutB (s : ByteArray) : Nat → Nat → Nat → List (Nat × Nat) → List (Nat × Nat)
  | 0, pos, fr, acc => if fr < pos then acc ++ [(fr, pos)] else acc
  | f + 1, pos, fr, acc =>
    if pos < s.size then
      if (s.get! pos).toNat = 59 then cutB s f (pos + 1) (pos + 1) (if fr < pos then acc ++ [(fr, pos)] else acc) else cutB s f (pos + 1) fr acc
    else if fr < pos then acc ++ [(fr, pos)] else acc
theorem dec_low (s : ByteArray) (i : Nat) (h : (s.get! i).toNat < 128) : Utf8.decode s i = ((s.get! i).toNat, 1) := by
  unfold Utf8.decode
  simp only [Nat.add_zero]
  rw [if_pos (by omega)]
theorem dec_high (s : ByteArray) (i : Nat) (h : 128 ≤ (s.get! i).toNat) : 128 ≤ (Utf8.decode s i).1 ∧ 1 ≤ (Utf8.decode s i).2 ∧ (Utf8.decode s i).2 ≤ 4 ∧ ∀ k, 1 ≤ k → k < (Utf8.decode s i).2 → i + k < s.size ∧ 128 ≤ (s.get! (i + k)).toNat := by
  unfold Utf8.decode
  simp only [Nat.add_zero]
  rw [if_neg (by omega)]
  have hc : ∀ k, (decide (i + k < s.size) && (s.get! (i + k)).toNat / 64 == 2) = true → i + k < s.size ∧ 128 ≤ (s.get! (i + k)).toNat := by
    intro k hk
    simp only [Bool.and_eq_true, decide_eq_true_eq, beq_iff_eq] at hk
    exact ⟨hk.1, by omega⟩
  have h1 : ∀ x : Nat, 128 ≤ x → 128 ≤ (x, 1).1 ∧ 1 ≤ (x, 1).2 ∧ (x, 1).2 ≤ 4 ∧ ∀ k, 1 ≤ k → k < (x, 1).2 → i + k < s.size ∧ 128 ≤ (s.get! (i + k)).toNat := fun x hx => ⟨hx, Nat.le_refl _, by simp, fun k a b => by simp at b; omega⟩
  split
  · rename_i hb
    simp only [Bool.and_eq_true] at hb
    split
    · refine ⟨by assumption, by simp, by simp, fun k a b => ?_⟩
      have : k = 1 := by simp at b; omega
      subst this
      exact hc 1 (by simpa using hb.2)
    · exact h1 _ (by decide)
  · split
    · rename_i hb
      simp only [Bool.and_eq_true] at hb
      split
      · rename_i hv
        simp only [ge_iff_le, Bool.and_eq_true, decide_eq_true_eq] at hv
        refine ⟨by omega, by simp, by simp, fun k a b => ?_⟩
        have : k = 1 ∨ k = 2 := by simp at b; omega
        rcases this with rfl | rfl
        · exact hc 1 (by simpa using hb.1.2)
        · exact hc 2 (by simpa using hb.2)
      · exact h1 _ (by decide)
    · split
      · rename_i hb
        simp only [Bool.and_eq_true] at hb
        split
        · rename_i hv
          simp only [ge_iff_le, Bool.and_eq_true, decide_eq_true_eq] at hv
          refine ⟨by omega, by simp, by simp, fun k a b => ?_⟩
          have : k = 1 ∨ k = 2 ∨ k = 3 := by simp at b; omega
          rcases this with rfl | rfl | rfl
          · exact hc 1 (by simpa using hb.1.1.2)
          · exact hc 2 (by simpa using hb.1.2)
          · exact hc 3 (by simpa using hb.2)
        · exact h1 _ (by decide)
      · exact h1 _ (by decide)
theorem cutB_end (s : ByteArray) (f pos fr : Nat) (acc : List (Nat × Nat)) (h : ¬ pos < s.size) : cutB s f pos fr acc = if fr < pos then acc ++ [(fr, pos)] else acc := by
  cases f with
  | zero => rfl
  | succ f => rw [cutB, if_neg h]
theorem cutB_skip (s : ByteArray) : ∀ (w f pos fr : Nat) (acc : List (Nat × Nat)), (∀ k, k < w → pos + k < s.size ∧ (s.get! (pos + k)).toNat ≠ 59) → cutB s (f + w) pos fr acc = cutB s f (pos + w) fr acc
  | 0, _, _, _, _, _ => rfl
  | w + 1, f, pos, fr, acc, h => by
    have h0 := h 0 (by omega)
    simp only [Nat.add_zero] at h0
    rw [show f + (w + 1) = (f + w) + 1 from rfl, cutB, if_pos h0.1, if_neg h0.2, cutB_skip s w f (pos + 1) fr acc (fun k hk => by
      have := h (k + 1) (by omega)
      rwa [show pos + 1 + k = pos + (k + 1) by omega]), show pos + 1 + w = pos + (w + 1) by omega]
theorem spans_cut (s : ByteArray) : ∀ (f g pos fr : Nat) (st : Option Nat) (acc : List (Nat × Nat)), s.size ≤ pos + f → s.size ≤ pos + g → fr ≤ pos → pos ≤ s.size → st = (if fr < pos then some fr else none) →
    Lib.closeSpans s (Lib.spansFromP (fun n => n == 59) s f pos st acc) = cutB s g pos fr acc := by
  intro f
  induction f with
  | zero =>
    intro g pos fr st acc h1 h2 h3 h4 h5
    rw [Lib.spansFromP_end _ _ _ _ _ _ (by omega), cutB_end _ _ _ _ _ (by omega), h5]
    have : pos = s.size := by omega
    by_cases h : fr < pos
    · rw [if_pos h, if_pos h, this]; rfl
    · rw [if_neg h, if_neg h]; rfl
  | succ f ih =>
    intro g pos fr st acc h1 h2 h3 h4 h5
    by_cases hp : pos < s.size
    · unfold Lib.spansFromP
      rw [if_pos hp]
      obtain ⟨g, rfl⟩ : ∃ g', g = g' + 1 := ⟨g - 1, by omega⟩
      by_cases hs : (s.get! pos).toNat = 59
      · have hd := dec_low s pos (by omega)
        rw [hd, hs]
        simp only [beq_self_eq_true, if_true]
        rw [cutB, if_pos hp, if_pos hs]
        by_cases h : fr < pos
        · rw [h5, if_pos h, if_pos h]
          exact ih g (pos + 1) (pos + 1) none _ (by omega) (by omega) (Nat.le_refl _) (by omega) (by rw [if_neg (Nat.lt_irrefl _)])
        · rw [h5, if_neg h, if_neg h]
          exact ih g (pos + 1) (pos + 1) none _ (by omega) (by omega) (Nat.le_refl _) (by omega) (by rw [if_neg (Nat.lt_irrefl _)])
      · obtain ⟨r1, r2, r3⟩ : (Utf8.decode s pos).1 ≠ 59 ∧ 1 ≤ (Utf8.decode s pos).2 ∧ ∀ k, k < (Utf8.decode s pos).2 → pos + k < s.size ∧ (s.get! (pos + k)).toNat ≠ 59 := by
          by_cases hl : (s.get! pos).toNat < 128
          · rw [dec_low s pos hl]
            refine ⟨hs, Nat.le_refl _, fun k hk => ?_⟩
            have : k = 0 := by simp at hk; omega
            subst this
            exact ⟨hp, hs⟩
          · obtain ⟨q1, q2, q3, q4⟩ := dec_high s pos (by omega)
            refine ⟨by omega, q2, fun k hk => ?_⟩
            rcases Nat.eq_zero_or_pos k with rfl | hk0
            · exact ⟨hp, hs⟩
            · have := q4 k hk0 hk
              exact ⟨this.1, by omega⟩
        generalize Utf8.decode s pos = dd at r1 r2 r3
        obtain ⟨r, w⟩ := dd
        simp only at r1 r2 r3 ⊢
        rw [if_neg (by simpa using r1)]
        have hw := r3 (w - 1) (by omega)
        have key : Lib.closeSpans s (Lib.spansFromP (fun n => n == 59) s f (pos + w) (some fr) acc) = cutB s (g + 1) pos fr acc := by
          by_cases hgw : w ≤ g + 1
          · rw [show g + 1 = (g + 1 - w) + w by omega, cutB_skip s w _ _ _ _ r3]
            exact ih _ (pos + w) fr _ acc (by omega) (by omega) (by omega) (by omega) (by rw [if_pos (by omega)])
          · omega
        by_cases h : fr < pos
        · rw [if_pos h] at h5
          subst h5
          exact key
        · rw [if_neg h] at h5
          subst h5
          have e : pos = fr := by omega
          rw [← key, ← e]
    · rw [Lib.spansFromP_end _ _ _ _ _ _ hp, cutB_end _ _ _ _ _ hp, h5]
      have : pos = s.size := by omega
      by_cases h : fr < pos
      · rw [if_pos h, if_pos h, this]; rfl
      · rw [if_neg h, if_neg h]; rfl
theorem goFields_cut (s : ByteArray) : Lib.goFieldsP (fun n => n == 59) s = (cutB s s.size 0 0 []).map fun x => s.extract x.1 x.2 := by
  unfold Lib.goFieldsP Lib.spansOfP
  rw [spans_cut s s.size s.size 0 0 none [] (by omega) (by omega) (Nat.le_refl _) (Nat.zero_le _) rfl]
def mkB (l : List UInt8) : ByteArray := ⟨l.toArray⟩
theorem mkB_data (x : ByteArray) : mkB x.data.toList = x := by unfold mkB; rw [Array.toArray_toList]
theorem mkB_size (l : List UInt8) : (mkB l).size = l.length := by show l.toArray.size = _; simp
theorem mkB_toList (l : List UInt8) : (mkB l).toList = l := by rw [Go.ByteArray.toList_eq]; simp [mkB]
theorem mkB_bt (l : List UInt8) (i : Nat) (h : i < l.length) : bt (mkB l) (i : Int) = (l[i].toNat : Int) := by
  have e : bytesOf (mkB l) = l.map fun b => (b.toNat : Int) := by simp [bytesOf, mkB]
  rw [← rd_bytesOf, e, rd_at _ i (by simpa using h)]
  simp
theorem mkB_ext {a b : ByteArray} (h : a.data.toList = b.data.toList) : a = b := by
  have := congrArg mkB h
  rwa [mkB_data, mkB_data] at this
theorem mkB_drop1 (l : List UInt8) : (mkB l).extract 1 (mkB l).size = mkB (l.drop 1) := by
  apply mkB_ext
  rw [ByteArray.data_extract, Array.toList_extract, mkB_size]
  simp [mkB, List.extract]
  exact List.take_of_length_le (by simp)
theorem mkB_take (l : List UInt8) (n : Nat) : (mkB l).extract 0 n = mkB (l.take n) := by
  apply mkB_ext
  rw [ByteArray.data_extract, Array.toList_extract]
  simp [mkB, List.extract]
def cs2 : List UInt8 := [32, 9]
theorem cs2_has (c : UInt8) : cs2.contains c = true ↔ (c.toNat : Int) = 32 ∨ (c.toNat : Int) = 9 := by
  have e : ∀ d : UInt8, c = d ↔ c.toNat = d.toNat := fun d => ⟨fun h => by rw [h], fun h => UInt8.toNat_inj.1 h⟩
  simp only [cs2, List.contains_cons, List.contains_nil, Bool.or_false, Bool.or_eq_true, beq_iff_eq]
  rw [e 32, e 9]
  show (c.toNat = 32 ∨ c.toNat = 9) ↔ _
  omega
theorem trimR_snoc (m : List UInt8) (c : UInt8) : Lib.trimRightS (m ++ [c]) cs2 = if cs2.contains c = true then Lib.trimRightS m cs2 else m ++ [c] := by
  unfold Lib.trimRightS
  rw [List.reverse_append, List.reverse_singleton, List.singleton_append, List.dropWhile_cons]
  split <;> simp
theorem spec_l5Trim.l1_eq : ∀ (n k : Nat) (l : List UInt8), l.length = n → n < k → n ≤ 1048576 → spec_l5Trim.l1 k (mkB l) = some (mkB (Lib.trimRightS l cs2))
  | _, 0, _, _, h, _ => absurd h (by omega)
  | 0, k + 1, l, hl, _, _ => by
    have : l = [] := List.eq_nil_of_length_eq_zero hl
    subst this
    rw [spec_l5Trim.l1, mkB_toList, if_pos rfl]
    rfl
  | n + 1, k + 1, l, hl, hk, hm => by
    have hne : l ≠ [] := by intro e; subst e; simp at hl
    obtain ⟨m, c, rfl⟩ : ∃ m c, l = m ++ [c] := ⟨l.dropLast, l.getLast hne, (List.dropLast_concat_getLast hne).symm⟩
    have hml : m.length = n := by simpa using hl
    have hsz : (mkB (m ++ [c])).size = n + 1 := by rw [mkB_size]; simp [hml]
    have hw : wrap64 (((n + 1 : Nat) : Int) - 1) = (n : Int) := by rw [wrap64_in (by omega)]; omega
    have hb : bt (mkB (m ++ [c])) (n : Int) = (c.toNat : Int) := by
      rw [mkB_bt _ n (by simp [hml])]
      congr 2
      rw [List.getElem_append_right (by omega)]
      simp [hml]
    have hx : (mkB (m ++ [c])).extract 0 ((n : Int)).toNat = mkB m := by
      rw [Int.toNat_natCast, mkB_take, ← hml]; simp
    have ih := spec_l5Trim.l1_eq n k m hml (by omega) (by omega)
    rw [spec_l5Trim.l1, mkB_toList, if_neg (by simp), hsz, hw, if_pos (by omega), if_pos (by omega), hb, if_pos (show (n : Int) ≤ ((n + 1 : Nat) : Int) by omega), hx, ih, trimR_snoc]
    by_cases c1 : (c.toNat : Int) = 32
    · rw [if_pos c1, if_pos ((cs2_has c).2 (.inl c1))]
    · rw [if_neg c1]
      by_cases c2 : (c.toNat : Int) = 9
      · rw [if_pos c2, if_pos ((cs2_has c).2 (.inr c2))]
      · rw [if_neg c2, if_neg (fun h => by have := (cs2_has c).1 h; omega)]
theorem spec_l5Trim.l0_eq : ∀ (l : List UInt8) (k : Nat), 2 * l.length + 3 < k → l.length ≤ 1048576 → spec_l5Trim.l0 k (mkB l) = some (mkB (Lib.trimRightS (Lib.trimLeftS l cs2) cs2))
  | l, 0, h, _ => absurd h (by omega)
  | [], k + 1, hk, _ => by
    obtain ⟨k, rfl⟩ : ∃ m, k = m + 1 := ⟨k - 1, by simp at hk; omega⟩
    rw [spec_l5Trim.l0, mkB_toList, if_pos rfl, spec_l5Trim.j1, spec_l5Trim.l1_eq 0 k [] rfl (by simp at hk; omega) (by omega)]
    rfl
  | c :: m, k + 1, hk, hm => by
    obtain ⟨k, rfl⟩ : ∃ q, k = q + 1 := ⟨k - 1, by simp at hk; omega⟩
    simp only [List.length_cons] at hk hm
    have hsz : (mkB (c :: m)).size = m.length + 1 := by rw [mkB_size]; simp
    have hb : bt (mkB (c :: m)) 0 = (c.toNat : Int) := by
      have := mkB_bt (c :: m) 0 (by simp)
      simpa using this
    have hx : (mkB (c :: m)).extract 1 (mkB (c :: m)).size = mkB m := by rw [mkB_drop1]; rfl
    have ih := spec_l5Trim.l0_eq m (k + 1) (by omega) (by omega)
    have hj : spec_l5Trim.j1 (k + 1) (mkB (c :: m)) = some (mkB (Lib.trimRightS (c :: m) cs2)) := by
      rw [spec_l5Trim.j1, spec_l5Trim.l1_eq (m.length + 1) k (c :: m) (by simp) (by omega) (by omega)]
    have hd : Lib.trimLeftS (c :: m) cs2 = if cs2.contains c = true then Lib.trimLeftS m cs2 else c :: m := by
      unfold Lib.trimLeftS; rw [List.dropWhile_cons]
    rw [spec_l5Trim.l0, mkB_toList, if_neg (by simp), hx, hb, hsz, if_pos (by omega), if_pos (show (1 : Int) ≤ ((m.length + 1 : Nat) : Int) by omega), ih, hj, hd]
    by_cases c1 : (c.toNat : Int) = 32
    · rw [if_pos c1, if_pos ((cs2_has c).2 (.inl c1))]
    · rw [if_neg c1]
      by_cases c2 : (c.toNat : Int) = 9
      · rw [if_pos c2, if_pos ((cs2_has c).2 (.inr c2))]
      · rw [if_neg c2, if_neg (fun h => by have := (cs2_has c).1 h; omega)]
theorem trim_comm (l : List UInt8) : Lib.trimRightS (Lib.trimLeftS l cs2) cs2 = Lib.trimLeftS (Lib.trimRightS l cs2) cs2 := by
  have hc : ∀ (x : UInt8) (m : List UInt8), Lib.trimRightS (x :: m) cs2 = if Lib.trimRightS m cs2 = [] then (if cs2.contains x = true then [] else [x]) else x :: Lib.trimRightS m cs2 := by
    intro x m
    unfold Lib.trimRightS
    rw [List.reverse_cons, List.dropWhile_append]
    cases h : m.reverse.dropWhile (cs2.contains ·) with
    | nil =>
      simp only [List.isEmpty_nil, if_true, List.reverse_nil, List.dropWhile_cons, List.dropWhile_nil]
      split <;> rfl
    | cons y t => simp
  induction l with
  | nil => rfl
  | cons x m ih =>
    by_cases h : cs2.contains x = true
    · have e : Lib.trimLeftS (x :: m) cs2 = Lib.trimLeftS m cs2 := by unfold Lib.trimLeftS; rw [List.dropWhile_cons, if_pos h]
      rw [e, ih, hc, if_pos h]
      by_cases g : Lib.trimRightS m cs2 = []
      · rw [if_pos g, g]
      · rw [if_neg g]
        unfold Lib.trimLeftS
        rw [List.dropWhile_cons, if_pos h]
    · have e : Lib.trimLeftS (x :: m) cs2 = x :: m := by unfold Lib.trimLeftS; rw [List.dropWhile_cons, if_neg h]
      rw [e, hc, if_neg h]
      by_cases g : Lib.trimRightS m cs2 = []
      · rw [if_pos g]; unfold Lib.trimLeftS; rw [List.dropWhile_cons, if_neg h]
      · rw [if_neg g]; unfold Lib.trimLeftS; rw [List.dropWhile_cons, if_neg h]
def trB (x : ByteArray) : ByteArray := mkB (Lib.trimS x.data.toList cs2)
theorem trB_size (x : ByteArray) : (trB x).size ≤ x.size := by
  have h1 : ∀ (p : UInt8 → Bool) (l : List UInt8), (l.dropWhile p).length ≤ l.length := fun p l => (List.dropWhile_sublist p).length_le
  have h2 : x.size = x.data.toList.length := by show x.data.size = _; simp
  unfold trB
  rw [mkB_size, h2]
  unfold Lib.trimS Lib.trimLeftS Lib.trimRightS
  refine Nat.le_trans (h1 _ _) ?_
  rw [List.length_reverse]
  refine Nat.le_trans (h1 _ _) ?_
  rw [List.length_reverse]
  exact Nat.le_refl _
theorem spec_l5Trim_eq (x : ByteArray) (hx : x.size ≤ 1048576) (k : Nat) (hk : 2 * x.size + 3 < k) : spec_l5Trim.f k x = some (trB x) := by
  have h2 : x.size = x.data.toList.length := by show x.data.size = _; simp
  have := spec_l5Trim.l0_eq x.data.toList k (by omega) (by omega)
  rw [mkB_data, trim_comm] at this
  exact this
theorem strings_Trim_eq (x : ByteArray) (hx : x.size ≤ 1048576) : strings_Trim.f x (⟨#[32, 9]⟩ : ByteArray) = some (trB x) := by
  unfold strings_Trim.f
  rw [if_pos ⟨by omega, by decide, by decide⟩]
  rfl
theorem get_bt (s : ByteArray) (i : Nat) (h : i < s.size) : bt s (i : Int) = ((s.get! i).toNat : Int) := by
  have h2 : s.size = s.data.toList.length := by show s.data.size = _; simp
  have e := mkB_bt s.data.toList i (by omega)
  rw [mkB_data] at e
  rw [e]
  congr 2
  show _ = s.data[i]!
  have hd : i < s.data.size := h
  rw [getElem!_pos s.data i hd, Array.getElem_toList]
theorem extract_size (s : ByteArray) (a b : Nat) : (s.extract a b).size ≤ s.size := by
  rw [ByteArray.size_extract]; omega
theorem spec_l5Pieces.l0_eq (s : ByteArray) (hs : s.size ≤ 1048576) : ∀ (n k i fr : Nat) (acc : List (Nat × Nat)), s.size = i + n → 2 * n + 2097170 < k → fr ≤ i → acc.length ≤ i → spec_l5Pieces.l0 k s (acc.map fun x => trB (s.extract x.1 x.2)) (fr : Int) (i : Int) = some ((cutB s n i fr acc).map fun x => trB (s.extract x.1 x.2))
  | n, k, i, fr, acc, hi, hk, hf, ha => by
    obtain ⟨k, rfl⟩ : ∃ q, k = q + 2 := ⟨k - 2, by omega⟩
    have w1 : wrap64 ((i : Int) + 1) = ((i + 1 : Nat) : Int) := by rw [wrap64_in (by omega)]; omega
    have hal : (acc.map fun x => trB (s.extract x.1 x.2)).length < 8796093022208 := by simp; omega
    have hj : ∀ b : Bool, spec_l5Pieces.j1 (k + 1) s (acc.map fun x => trB (s.extract x.1 x.2)) (fr : Int) (i : Int) b = if b = true then (if fr < i then spec_l5Pieces.l0 k s ((acc ++ [(fr, i)]).map fun x => trB (s.extract x.1 x.2)) ((i + 1 : Nat) : Int) ((i + 1 : Nat) : Int) else spec_l5Pieces.l0 k s (acc.map fun x => trB (s.extract x.1 x.2)) ((i + 1 : Nat) : Int) ((i + 1 : Nat) : Int)) else spec_l5Pieces.l0 k s (acc.map fun x => trB (s.extract x.1 x.2)) (fr : Int) ((i + 1 : Nat) : Int) := by
      intro b
      rw [spec_l5Pieces.j1, w1]
      by_cases hb : b = true
      · rw [if_pos hb, if_pos hb]
        by_cases c : fr < i
        · have hes := extract_size s fr i
          rw [if_pos (by omega), if_pos (by omega), if_pos (by omega), if_pos (by omega), if_pos c, Int.toNat_natCast, Int.toNat_natCast, spec_l5Trim_eq _ (by omega) k (by omega), Option.bind_some, if_pos hal]
          simp
        · rw [if_neg (by omega), if_neg c]
      · rw [if_neg hb, if_neg hb]
    rw [spec_l5Pieces.l0, if_pos (by omega)]
    match n, hi, hk with
    | 0, hi, hk =>
      obtain ⟨k, rfl⟩ : ∃ q, k = q + 1 := ⟨k - 1, by omega⟩
      have hend : ∀ (o : List ByteArray), spec_l5Pieces.l0 (k + 1) s o ((i + 1 : Nat) : Int) ((i + 1 : Nat) : Int) = some o := fun o => by rw [spec_l5Pieces.l0, if_neg (by omega)]
      rw [if_pos (by omega), hj, if_pos rfl, hend, hend, cutB]
      split <;> rfl
    | n + 1, hi, hk =>
      rw [if_neg (by omega), if_pos (by omega), if_pos (by omega), hj, get_bt s i (by omega), cutB, if_pos (show i < s.size by omega)]
      by_cases c : (s.get! i).toNat = 59
      · have cb : (((s.get! i).toNat : Int) == 59) = true := by rw [beq_iff_eq]; omega
        rw [if_pos c, if_pos cb]
        by_cases d : fr < i
        · rw [if_pos d, if_pos d]
          exact spec_l5Pieces.l0_eq s hs n k (i + 1) (i + 1) _ (by omega) (by omega) (Nat.le_refl _) (by first | (simp; done) | (simp; omega))
        · rw [if_neg d, if_neg d]
          exact spec_l5Pieces.l0_eq s hs n k (i + 1) (i + 1) _ (by omega) (by omega) (Nat.le_refl _) (by omega)
      · have cb : ¬ (((s.get! i).toNat : Int) == 59) = true := by rw [beq_iff_eq]; omega
        rw [if_neg c, if_neg cb]
        exact spec_l5Pieces.l0_eq s hs n k (i + 1) fr _ (by omega) (by omega) (by omega) (by omega)
theorem cutB_len (s : ByteArray) : ∀ (n i fr : Nat) (acc : List (Nat × Nat)), (cutB s n i fr acc).length ≤ acc.length + n + 1
  | 0, i, fr, acc => by rw [cutB]; split <;> simp
  | n + 1, i, fr, acc => by
    have e : (if fr < i then acc ++ [(fr, i)] else acc).length ≤ acc.length + 1 := by split <;> simp
    rw [cutB]
    by_cases h1 : i < s.size
    · rw [if_pos h1]
      by_cases h2 : (s.get! i).toNat = 59
      · rw [if_pos h2]
        have := cutB_len s n (i + 1) (i + 1) (if fr < i then acc ++ [(fr, i)] else acc)
        omega
      · rw [if_neg h2]
        have := cutB_len s n (i + 1) fr acc
        omega
    · rw [if_neg h1]
      omega
def piecesB (s : ByteArray) : List ByteArray := (cutB s s.size 0 0 []).map fun x => trB (s.extract x.1 x.2)
theorem piecesB_len (s : ByteArray) : (piecesB s).length ≤ s.size + 1 := by
  have := cutB_len s s.size 0 0 []
  simp only [piecesB, List.length_map]
  simpa using this
theorem piecesB_size (s : ByteArray) : ∀ x ∈ piecesB s, x.size ≤ s.size := by
  intro x hx
  obtain ⟨p, _, rfl⟩ := List.mem_map.1 hx
  exact Nat.le_trans (trB_size _) (extract_size s _ _)
theorem spec_l5Pieces_eq (s : ByteArray) (hs : s.size ≤ 1048576) (k : Nat) (hk : 4194400 < k) : spec_l5Pieces.f k s = some (piecesB s) := by
  have := spec_l5Pieces.l0_eq s hs s.size k 0 0 [] (by omega) (by omega) (Nat.le_refl _) (Nat.le_refl _)
  exact this
theorem rdB_at (l : List ByteArray) (i : Nat) (h : i < l.length) : rdOf ByteArray.empty l (i : Int) = l[i] := by
  simp [rdOf, List.getD_eq_getElem?_getD, h]
theorem impl_pieces.l0_eq (fs : List ByteArray) (hf : ∀ x ∈ fs, x.size ≤ 1048576) (hl : fs.length ≤ 1048577) : ∀ (n k i : Nat) (out : List ByteArray), fs.length = i + n → n < k → out.length + n ≤ 2000000 → impl_pieces.l0 k out fs (fs.length : Int) (i : Int) = some (out ++ (fs.drop i).map trB)
  | _, 0, _, _, _, h, _ => absurd h (by omega)
  | 0, k + 1, i, out, hi, _, _ => by
    rw [impl_pieces.l0, if_neg (by omega), List.drop_eq_nil_of_le (by omega)]
    simp
  | n + 1, k + 1, i, out, hi, h, ho => by
    have w1 : wrap64 ((i : Int) + 1) = ((i + 1 : Nat) : Int) := by rw [wrap64_in (by omega)]; omega
    have hlt : i < fs.length := by omega
    rw [impl_pieces.l0, if_pos (by omega), if_pos (by omega), if_pos (by omega), rdB_at fs i hlt, strings_Trim_eq _ (hf _ (List.getElem_mem hlt)), Option.bind_some, if_pos (by omega), w1, impl_pieces.l0_eq fs hf hl n k (i + 1) _ (by omega) (by omega) (by first | (simp; done) | (simp; omega)), List.drop_eq_getElem_cons hlt, List.map_cons, List.append_assoc]
    rfl
theorem impl_pieces_eq (s : ByteArray) (hs : s.size ≤ 1048576) (k : Nat) (hk : 1048600 < k) : impl_pieces.f k s = some (piecesB s) := by
  unfold impl_pieces.f strings_FieldsFunc.f
  rw [if_pos (by omega), Option.bind_some, goFields_cut]
  have hlen := cutB_len s s.size 0 0 []
  have := impl_pieces.l0_eq ((cutB s s.size 0 0 []).map fun x => s.extract x.1 x.2) (fun x hx => by
    obtain ⟨p, _, rfl⟩ := List.mem_map.1 hx
    exact Nat.le_trans (extract_size s _ _) hs) (by simp at hlen ⊢; omega) _ k 0 [] (by rw [Nat.zero_add]) (by simp at hlen ⊢; omega) (by simp at hlen ⊢; omega)
  rw [List.drop_zero, List.nil_append] at this
  rw [show ((0 : Nat) : Int) = 0 from rfl] at this
  rw [this]
  simp [piecesB, List.map_map, Function.comp]
def pf (a w : ByteArray) : Bool := decide (((bytesOf a).map low).take w.size = bytesOf w)
theorem eqStr (M : List Int) (h : ∀ x ∈ M, 0 ≤ x ∧ x ≤ 255) (w : ByteArray) : ((strOfNums M).toList == w.toList) = decide (M = bytesOf w) := by
  rw [Bool.eq_iff_iff, beq_iff_eq, decide_eq_true_eq]
  constructor
  · intro e
    rw [Go.ByteArray.toList_eq, Go.ByteArray.toList_eq] at e
    have := mkB_ext e
    rw [← this, bytesOf_strOfNums M h]
  · rintro rfl
    rw [strOfNums_bytesOf]
theorem low_in (x : Int) (h : 0 ≤ x ∧ x ≤ 255) : 0 ≤ low x ∧ low x ≤ 255 := by unfold low; split <;> omega
theorem lows_in (a : ByteArray) : ∀ x ∈ (bytesOf a).map low, 0 ≤ x ∧ x ≤ 255 := by
  intro x hx
  obtain ⟨y, hy, rfl⟩ := List.mem_map.1 hx
  exact low_in y (bytesOf_in a y hy)
theorem bytesOf_lenB (a : ByteArray) : (bytesOf a).length = a.size := by simp [bytesOf]
theorem pre_short (M : List Int) (w : ByteArray) (h : M.length < w.size) : ¬ M.take w.size = bytesOf w := by
  intro e
  have := congrArg List.length e
  rw [bytesOf_lenB, List.length_take] at this
  omega
theorem spec_l5Begins_eq (a w : ByteArray) (ha : a.size ≤ 1048576) (k : Nat) (hk : 1048577 < k) : spec_l5Begins.f k a w = some (pf a w) := by
  unfold spec_l5Begins.f
  by_cases c : (a.size : Int) ≥ (w.size : Int)
  · have hes := extract_size a 0 w.size
    rw [if_pos c, if_pos (by omega), if_pos (by omega), Int.toNat_natCast, spec_l2Lower_eq _ k (by omega) (by omega), Option.bind_some, bytesOf_extract, List.drop_zero]
    rw [eqStr _ (fun x hx => by
      obtain ⟨y, hy, rfl⟩ := List.mem_map.1 hx
      exact low_in y (bytesOf_in a y (List.mem_of_mem_take hy)))]
    unfold pf
    rw [List.map_take]
  · rw [if_neg c]
    unfold pf
    rw [decide_eq_false (pre_short _ w (by rw [List.length_map, bytesOf_lenB]; omega))]
theorem strings_HasPrefix_eq (M : List Int) (h : ∀ x ∈ M, 0 ≤ x ∧ x ≤ 255) (w : ByteArray) : strings_HasPrefix.f (strOfNums M) w = some (decide (M.take w.size = bytesOf w)) := by
  unfold strings_HasPrefix.f stringslite_HasPrefix.f
  rw [strOfNums_size]
  by_cases c : (M.length : Int) ≥ (w.size : Int)
  · have hx : (strOfNums M).extract 0 w.size = strOfNums (M.take w.size) := by
      rw [← strOfNums_bytesOf ((strOfNums M).extract 0 w.size), bytesOf_extract, bytesOf_strOfNums M h, List.drop_zero]
    rw [if_pos c, if_pos (by omega), if_pos (by omega), Option.bind_some, Int.toNat_natCast, hx, eqStr _ (fun x hx => h x (List.mem_of_mem_take hx))]
  · rw [if_neg c, Option.bind_some, decide_eq_false (pre_short M w (by omega))]
theorem pf_size (a w : ByteArray) (h : pf a w = true) : w.size ≤ a.size := by
  rcases Nat.lt_or_ge a.size w.size with c | c
  · exact absurd (of_decide_eq_true h) (pre_short _ w (by rw [List.length_map, bytesOf_lenB]; exact c))
  · exact c
def nmF : List ByteArray → ByteArray → ByteArray × Bool
  | [], _ => ((⟨#[]⟩ : ByteArray), false)
  | x :: r, w => if pf x w = true then (x.extract w.size x.size, true) else nmF r w
theorem spec_l5Named.l0_eq (P : List ByteArray) (w : ByteArray) (hP : ∀ x ∈ P, x.size ≤ 1048576) (hl : P.length ≤ 1048577) : ∀ (n k i : Nat), P.length = i + n → n + 1048578 < k → spec_l5Named.l0 k P w (i : Int) = some (nmF (P.drop i) w)
  | _, 0, _, _, h => absurd h (by omega)
  | 0, k + 1, i, hi, _ => by
    rw [spec_l5Named.l0, if_neg (by omega), List.drop_eq_nil_of_le (by omega)]
    rfl
  | n + 1, k + 1, i, hi, h => by
    have w1 : wrap64 ((i : Int) + 1) = ((i + 1 : Nat) : Int) := by rw [wrap64_in (by omega)]; omega
    have hlt : i < P.length := by omega
    have hx := hP P[i] (List.getElem_mem hlt)
    rw [spec_l5Named.l0, if_pos (by omega), if_pos (by omega), rdB_at P i hlt, spec_l5Begins_eq _ w hx k (by omega), Option.bind_some, w1, List.drop_eq_getElem_cons hlt, nmF, spec_l5Named.l0_eq P w hP hl n k (i + 1) (by omega) (by omega)]
    by_cases c : pf P[i] w = true
    · have := pf_size _ _ c
      rw [if_pos c, if_pos c, if_pos (by omega), if_pos (by omega), Int.toNat_natCast]
    · rw [if_neg c, if_neg c]
theorem impl_parameter.l0_eq (P : List ByteArray) (w : ByteArray) (hP : ∀ x ∈ P, x.size ≤ 1048576) (hl : P.length ≤ 1048577) : ∀ (n k i : Nat), P.length = i + n → n + 1048578 < k → 1 ≤ i → impl_parameter.l0 k w P (P.length : Int) (i : Int) = some (nmF (P.drop i) w)
  | _, 0, _, _, h, _ => absurd h (by omega)
  | 0, k + 1, i, hi, _, _ => by
    rw [impl_parameter.l0, if_neg (by omega), List.drop_eq_nil_of_le (by omega)]
    rfl
  | n + 1, k + 1, i, hi, h, h1 => by
    have w1 : wrap64 ((i : Int) + 1) = ((i + 1 : Nat) : Int) := by rw [wrap64_in (by omega)]; omega
    have hlt : i < P.length := by omega
    have hx := hP P[i] (List.getElem_mem hlt)
    have hs : impl_small.f k P[i] = _ := impl_small_eq P[i] k hx (by omega)
    have hp : strings_HasPrefix.f (strOfNums ((bytesOf P[i]).map low)) w = some (pf P[i] w) := strings_HasPrefix_eq _ (lows_in P[i]) w
    rw [impl_parameter.l0, if_pos (by omega), if_pos (by omega), if_pos (by omega), if_pos (by omega), rdB_at P i hlt, hs, Option.bind_some, hp, Option.bind_some, w1, List.drop_eq_getElem_cons hlt, nmF, impl_parameter.l0_eq P w hP hl n k (i + 1) (by omega) (by omega) (by omega)]
    by_cases c : pf P[i] w = true
    · have := pf_size _ _ c
      rw [if_pos c, if_pos c, if_pos (by omega), if_pos (by omega), Int.toNat_natCast]
    · rw [if_neg c, if_neg c]
theorem nmF_size : ∀ (l : List ByteArray) (w : ByteArray) (N : Nat), (∀ x ∈ l, x.size ≤ N) → (nmF l w).1.size ≤ N
  | [], w, N, _ => Nat.zero_le _
  | x :: r, w, N, h => by
    rw [nmF]
    split
    · exact Nat.le_trans (extract_size x _ _) (h x (by simp))
    · exact nmF_size r w N (fun y hy => h y (by simp [hy]))
theorem spec_l5Named_eq (P : List ByteArray) (w : ByteArray) (hP : ∀ x ∈ P, x.size ≤ 1048576) (hl : P.length ≤ 1048577) (k : Nat) (hk : 4194400 < k) : spec_l5Named.f k P w = some (nmF (P.drop 1) w) := by
  unfold spec_l5Named.f
  cases P with
  | nil =>
    obtain ⟨k, rfl⟩ : ∃ q, k = q + 1 := ⟨k - 1, by omega⟩
    rw [spec_l5Named.l0, if_neg (by simp)]
    rfl
  | cons x r => exact spec_l5Named.l0_eq (x :: r) w hP hl r.length k 1 (by first | (simp; done) | (simp; omega)) (by simp at hl; omega)
theorem impl_parameter_eq (s w : ByteArray) (hs : s.size ≤ 1048576) (k : Nat) (hk : 4194400 < k) : impl_parameter.f k s w = some (nmF ((piecesB s).drop 1) w) := by
  have hl := piecesB_len s
  have hP : ∀ x ∈ piecesB s, x.size ≤ 1048576 := fun x hx => Nat.le_trans (piecesB_size s x hx) hs
  unfold impl_parameter.f
  rw [impl_pieces_eq s hs k (by omega), Option.bind_some]
  generalize piecesB s = P at hl hP
  obtain ⟨k, rfl⟩ : ∃ q, k = q + 1 := ⟨k - 1, by omega⟩
  rw [impl_parameter.l0]
  cases P with
  | nil => rw [if_neg (by simp)]; rfl
  | cons x r =>
    rw [if_pos (by first | (simp; done) | (simp; omega)), if_pos (by omega), if_pos (by first | (simp; done) | (simp; omega)), if_neg (by omega)]
    have w1 : wrap64 (0 + 1) = ((1 : Nat) : Int) := by decide +kernel
    rw [w1]
    exact impl_parameter.l0_eq (x :: r) w hP (by omega) r.length k 1 (by first | (simp; done) | (simp; omega)) (by simp at hl; omega) (by omega)
theorem hp_empty (w : ByteArray) (h : 0 < w.size) : strings_HasPrefix.f (⟨#[]⟩ : ByteArray) w = some false := by
  unfold strings_HasPrefix.f stringslite_HasPrefix.f
  rw [if_neg (by show ¬ ((0 : Nat) : Int) ≥ _; omega)]
  rfl
theorem type_both (a : ByteArray) (ha : a.size ≤ 1048576) (k0 : Nat) (hk : 8388608 < k0) : ∃ o, spec_l5Type.f (k0 + 7 + 1) a = some o ∧ impl_TypeOf.f (k0 + 7 + 1) a = some o := by
  have hl := piecesB_len a
  have hP : ∀ x ∈ piecesB a, x.size ≤ 1048576 := fun x hx => Nat.le_trans (piecesB_size a x hx) ha
  have e1 := spec_l5Pieces_eq a ha (k0 + 7 + 1) (by omega)
  have e2 := impl_pieces_eq a ha (k0 + 7 + 1) (by omega)
  have e3 := fun w => impl_parameter_eq a w ha (k0 + 7) (by omega)
  have e4 := fun w => spec_l5Named_eq (piecesB a) w hP (by omega) (k0 + 7 + 1) (by omega)
  unfold spec_l5Type.f impl_TypeOf.f
  rw [e1, e2]
  simp only [Option.bind_some]
  generalize piecesB a = P at hl hP e3 e4
  cases P with
  | nil =>
    refine ⟨(3, 0, 0, 0, 0, 0, 0), ?_, ?_⟩
    · rw [if_pos (by simp)] <;> rfl
    · rw [if_neg (by simp), impl_TypeOf.j0, hp_empty _ (by decide), Option.bind_some, if_neg (by decide), hp_empty _ (by decide), Option.bind_some, if_neg (by decide)]
  | cons x r =>
    have hx := hP x (by simp)
    have r0 : rdOf ByteArray.empty (x :: r) 0 = x := by simp [rdOf]
    have b1 := fun w => spec_l5Begins_eq x w hx (k0 + 7 + 1) (by omega)
    have s1 : impl_small.f (k0 + 7 + 1) x = _ := impl_small_eq x (k0 + 7 + 1) hx (by omega)
    have h1 : ∀ w, strings_HasPrefix.f (strOfNums ((bytesOf x).map low)) w = some (pf x w) := fun w => strings_HasPrefix_eq _ (lows_in x) w
    rw [if_neg (by first | (simp; done) | (simp; omega)), if_pos (by first | (simp; done) | (simp; omega)), if_pos (by first | (simp; done) | (simp; omega)), if_pos (by first | (simp; done) | (simp; omega)), r0, s1, Option.bind_some, impl_TypeOf.j0]
    simp only [b1, h1, e3, e4, Option.bind_some]
    by_cases c1 : pf x (⟨#[109, 117, 108, 116, 105, 112, 97, 114, 116, 47]⟩ : ByteArray) = true
    · exact ⟨(2, 0, 0, 0, 0, 0, 0), by rw [if_pos c1] <;> rfl, by rw [if_pos c1]⟩
    · by_cases c2 : pf x (⟨#[116, 101, 120, 116, 47]⟩ : ByteArray) = true
      · have hsz := nmF_size ((x :: r).drop 1) (⟨#[99, 104, 97, 114, 115, 101, 116, 61]⟩ : ByteArray) 1048576 (fun y hy => hP y (List.mem_of_mem_drop hy))
        generalize nmF ((x :: r).drop 1) (⟨#[99, 104, 97, 114, 115, 101, 116, 61]⟩ : ByteArray) = o at hsz
        by_cases c3 : o.2 = true
        · obtain ⟨v, c, q1, q2⟩ := charset_both o.1 (by omega) k0 (by omega)
          have q3 := spec_l2Of.mono o.1 (k0 + 7) v q1
          refine ⟨(1, v, 0, 0, 0, 0, 0), ?_, ?_⟩
          · rw [if_neg c1, if_pos c2, if_pos c3, q3] <;> rfl
          · rw [if_neg c1, if_pos c2, if_pos c3, q2]; rfl
        · exact ⟨(1, 1, 0, 0, 0, 0, 0), by rw [if_neg c1, if_pos c2, if_neg c3] <;> rfl, by rw [if_neg c1, if_pos c2, if_neg c3]⟩
      · exact ⟨(3, 0, 0, 0, 0, 0, 0), by rw [if_neg c1, if_neg c2] <;> rfl, by rw [if_neg c1, if_neg c2]⟩
theorem upO {α : Type} (f : Nat → Option α) (h : ∀ k, LeO (f k) (f (k + 1))) {k k' : Nat} {r : α} (hk : k ≤ k') (e : f k = some r) : f k' = some r := by
  induction hk with
  | refl => exact e
  | step _ ih => exact h _ _ ih
def typ (a : ByteArray) : Int × Int × Int × Int × Int × Int × Int := (impl_TypeOf.f (8400000 + 7 + 1) a).getD (0, 0, 0, 0, 0, 0, 0)
theorem typ_eq (a : ByteArray) (ha : a.size ≤ 1048576) (k : Nat) (hk : 9000000 < k) : spec_l5Type.f k a = some (typ a) ∧ impl_TypeOf.f k a = some (typ a) := by
  obtain ⟨o, h1, h2⟩ := type_both a ha 8400000 (by omega)
  have e : typ a = o := by unfold typ; rw [h2]; rfl
  rw [e]
  exact ⟨upO (fun k => spec_l5Type.f k a) (fun k => spec_l5Type.mono a k) (by omega) h1, upO (fun k => impl_TypeOf.f k a) (fun k => impl_TypeOf.mono a k) (by omega) h2⟩
theorem ofF_low (a b : ByteArray) (h : (lowS a).toList = (lowS b).toList) : ∀ l : List S151, ofF a l = ofF b l
  | [] => rfl
  | x :: xs => by unfold ofF; rw [h, ofF_low a b h xs]
theorem ofF_size (a : ByteArray) : ∀ l : List S151, (∀ x ∈ l, x.f1.size ≤ 1048576) → (ofF a l).1.size ≤ 1048576
  | [], _ => by show (0 : Nat) ≤ _; omega
  | x :: xs, h => by
    unfold ofF
    split
    · exact h x (by simp)
    · exact ofF_size a xs (fun y hy => h y (by simp [hy]))
def cteB : ByteArray := ⟨#[99, 111, 110, 116, 101, 110, 116, 45, 116, 114, 97, 110, 115, 102, 101, 114, 45, 101, 110, 99, 111, 100, 105, 110, 103]⟩
def ctB : ByteArray := ⟨#[99, 111, 110, 116, 101, 110, 116, 45, 116, 121, 112, 101]⟩
def bndB : ByteArray := ⟨#[98, 111, 117, 110, 100, 97, 114, 121, 61]⟩
theorem cte_low : (lowS (⟨#[67, 111, 110, 116, 101, 110, 116, 45, 84, 114, 97, 110, 115, 102, 101, 114, 45, 69, 110, 99, 111, 100, 105, 110, 103]⟩ : ByteArray)).toList = (lowS cteB).toList := by decide +kernel
theorem ct_low : (lowS (⟨#[67, 111, 110, 116, 101, 110, 116, 45, 84, 121, 112, 101]⟩ : ByteArray)).toList = (lowS ctB).toList := by decide +kernel
def codN (v : ByteArray) : Int := if (lowS v).toList = ([98, 97, 115, 101, 54, 52] : List UInt8) then 2 else if (lowS v).toList = ([113, 117, 111, 116, 101, 100, 45, 112, 114, 105, 110, 116, 97, 98, 108, 101] : List UInt8) then 3 else 1
theorem impl_codingOf_eq (v : ByteArray) (hv : v.size ≤ 1048576) (k : Nat) (hk : 1048577 < k) : impl_codingOf.f k v = some (codN v) := by
  unfold impl_codingOf.f codN lowS
  rw [impl_small_eq v k hv (by omega), Option.bind_some]
  split
  · rfl
  · split <;> rfl
theorem spec_l5Coding_eq (l : List S151) (hl : smallF l) (hv : ∀ x ∈ l, x.f1.size ≤ 1048576) (k : Nat) (hk : 2097155 < k) : spec_l5Coding.f k l = some (codN (ofF cteB l).1) := by
  have hs := ofF_size cteB l hv
  have hl1 := hl.1
  unfold spec_l5Coding.f
  rw [show (⟨#[99, 111, 110, 116, 101, 110, 116, 45, 116, 114, 97, 110, 115, 102, 101, 114, 45, 101, 110, 99, 111, 100, 105, 110, 103]⟩ : ByteArray) = cteB from rfl, spec_l4Of_eq l hl cteB (by decide) k (by omega), Option.bind_some, spec_l2Lower_eq _ k hs (by omega), Option.bind_some]
  unfold codN lowS
  split
  · rfl
  · split <;> rfl
def oneP (data : List Int) (f t : Nat) : S23 × ByteArray :=
  let h := parseF (((data.take t).drop f).length + 1) ((data.take t).drop f) 0 []
  if h.2.2 = true then
    if (ofF ctB h.1).2 = true then (⟨(typ (ofF ctB h.1).1).1, (typ (ofF ctB h.1).1).2.1, codN (ofF cteB h.1).1, wrap64 ((f : Int) + h.2.1), t, 0, 0⟩, if (typ (ofF ctB h.1).1).1 = 2 then (nmF ((piecesB (ofF ctB h.1).1).drop 1) bndB).1 else ⟨#[]⟩)
    else (⟨1, 1, codN (ofF cteB h.1).1, wrap64 ((f : Int) + h.2.1), t, 0, 0⟩, ⟨#[]⟩)
  else (⟨3, 0, 1, f, t, 0, 0⟩, ⟨#[]⟩)
theorem cutD_len (data : List Int) (f t : Nat) (h1 : f ≤ t) (h2 : t ≤ data.length) : ((data.take t).drop f).length = t - f := by rw [List.length_drop, List.length_take]; omega
theorem cutD_in (data : List Int) (hB : ∀ x ∈ data, 0 ≤ x ∧ x ≤ 255) (f t : Nat) : ∀ x ∈ (data.take t).drop f, 0 ≤ x ∧ x ≤ 255 := fun x hx => hB x (List.mem_of_mem_take (List.mem_of_mem_drop hx))
theorem parse_small (data : List Int) (hd : data.length ≤ 1048576) : smallF (parseF (data.length + 1) data 0 ([] : List S151)).1 ∧ ∀ x ∈ (parseF (data.length + 1) data 0 ([] : List S151)).1, x.f1.size ≤ 1048576 := by
  have h := parseF_ok data hd (data.length + 1) 0 [] (by omega) ⟨Nat.zero_le _, by simp⟩
  exact ⟨fldsOk_small _ _ h (by omega), fun x hx => (h.2 x hx).2⟩
theorem spec_l5One_eq (data : List Int) (hd : data.length ≤ 1048576) (hB : ∀ x ∈ data, 0 ≤ x ∧ x ≤ 255) (f t : Nat) (h1 : f ≤ t) (h2 : t ≤ data.length) (k : Nat) (hk : 9000000 < k) : ∃ u n, spec_l5One.f k data f t = some ((oneP data f t).1.f0, (oneP data f t).1.f1, (oneP data f t).1.f2, (oneP data f t).1.f3, (oneP data f t).1.f4, u, n, (oneP data f t).2) := by
  have hln := cutD_len data f t h1 h2
  have hin := cutD_in data hB f t
  unfold spec_l5One.f oneP
  rw [if_pos (by omega), if_pos (by omega), if_pos (by omega), Int.toNat_natCast, Int.toNat_natCast]
  generalize (data.take t).drop f = D at hln hin
  obtain ⟨hs1, hs2⟩ := parse_small D (by omega)
  have hp := (parse_both0 D (by omega) hin k (by omega)).1
  generalize parseF (D.length + 1) D 0 ([] : List S151) = h at hs1 hs2 hp
  have hl1 := hs1.1
  rw [hp, Option.bind_some]
  simp only
  by_cases c : h.2.2 = true
  · have hc := spec_l5Coding_eq h.1 hs1 hs2 k (by omega)
    have hsz := ofF_size ctB h.1 hs2
    rw [if_pos c, if_pos c, show (⟨#[99, 111, 110, 116, 101, 110, 116, 45, 116, 121, 112, 101]⟩ : ByteArray) = ctB from rfl, spec_l4Of_eq h.1 hs1 ctB (by decide) k (by omega), Option.bind_some]
    by_cases c2 : (ofF ctB h.1).2 = true
    · rw [if_pos c2, if_pos c2, (typ_eq _ hsz k hk).1, Option.bind_some]
      by_cases c3 : (typ (ofF ctB h.1).1).1 = 2
      · have hl := piecesB_len (ofF ctB h.1).1
        rw [if_pos c3, if_pos c3, spec_l5Pieces_eq _ hsz k (by omega), Option.bind_some, show (⟨#[98, 111, 117, 110, 100, 97, 114, 121, 61]⟩ : ByteArray) = bndB from rfl, spec_l5Named_eq _ bndB (fun x hx => Nat.le_trans (piecesB_size _ x hx) hsz) (by omega) k (by omega), Option.bind_some, hc, Option.bind_some]
        exact ⟨_, _, rfl⟩
      · rw [if_neg c3, if_neg c3, hc, Option.bind_some]
        exact ⟨_, _, rfl⟩
    · rw [if_neg c2, if_neg c2, hc, Option.bind_some]
      exact ⟨_, _, rfl⟩
  · rw [if_neg c, if_neg c]
    exact ⟨_, _, rfl⟩
def kindP (data : List Int) (i e : Nat) (mark : ByteArray) : Int :=
  if (strOfNums ((data.take e).drop i)).toList = ((⟨#[45, 45]⟩ : ByteArray) ++ mark).toList then 1
  else if (strOfNums ((data.take e).drop i)).toList = (((⟨#[45, 45]⟩ : ByteArray) ++ mark) ++ (⟨#[45, 45]⟩ : ByteArray)).toList then 2 else 0
def endP (t : Nat) (acc : List (Nat × Nat)) : Option Nat → List (Nat × Nat)
  | some o => acc ++ [(o, t)]
  | none => acc
def putP (acc : List (Nat × Nat)) (i : Nat) : Option Nat → List (Nat × Nat)
  | some o => acc ++ [(o, max o (i - 1))]
  | none => acc
def spansP (data : List Int) (mark : ByteArray) (t : Nat) : Nat → List (Nat × Nat) → Option Nat → Nat → List (Nat × Nat)
  | 0, acc, op, _ => endP t acc op
  | n + 1, acc, op, i =>
    if i < t then
      let e := i + lineLen ((data.take t).drop i)
      if kindP data i e mark = 2 then putP acc i op
      else if kindP data i e mark = 1 then spansP data mark t n (putP acc i op) (some (min (e + 1) t)) (min (e + 1) t)
      else spansP data mark t n acc op (min (e + 1) t)
    else endP t acc op
theorem spansP_end (data : List Int) (mark : ByteArray) (t n : Nat) (acc : List (Nat × Nat)) (op : Option Nat) (i : Nat) (h : t ≤ i) : spansP data mark t n acc op i = endP t acc op := by
  cases n with
  | zero => rfl
  | succ n => rw [spansP, if_neg (by omega)]
theorem kindP_in (data : List Int) (i e : Nat) (mark : ByteArray) : kindP data i e mark = 0 ∨ kindP data i e mark = 1 ∨ kindP data i e mark = 2 := by
  unfold kindP
  split
  · exact .inr (.inl rfl)
  · split
    · exact .inr (.inr rfl)
    · exact .inl rfl
theorem dd_size (mark : ByteArray) : ((⟨#[45, 45]⟩ : ByteArray) ++ mark).size = 2 + mark.size := by rw [ByteArray.size_append]; rfl
theorem spec_l5Line_eq (data : List Int) (hd : data.length ≤ 1048576) (mark : ByteArray) (hm : mark.size ≤ 1048576) (i e : Nat) (h1 : i ≤ e) (h2 : e ≤ data.length) : spec_l5Line.f data i e mark = some (kindP data i e mark) := by
  unfold spec_l5Line.f kindP
  rw [if_pos (by omega), if_pos (by omega), if_pos (by omega), if_pos (by omega), Int.toNat_natCast, Int.toNat_natCast]
  split
  · rfl
  · rw [if_pos (by rw [dd_size]; omega)]
    split <;> rfl
def opI : Option Nat → Int
  | some o => o
  | none => -1
theorem spec_spans_end (data : List Int) (mark : ByteArray) (t : Nat) (acc : List (Nat × Nat)) (op : Option Nat) (ha : acc.length ≤ 4194304) (i : Int) (h : (t : Int) ≤ i) (k : Nat) : spec_l5Spans.l0 (k + 1) data t mark (acc.map fun x => (⟨x.1, x.2⟩ : S127)) (opI op) i = some ((endP t acc op).map fun x => (⟨x.1, x.2⟩ : S127)) := by
  rw [spec_l5Spans.l0, if_neg (by omega)]
  cases op with
  | none => rw [if_neg (by show ¬ (-1 : Int) ≥ 0; omega)]; rfl
  | some o => rw [if_pos (by show (o : Int) ≥ 0; omega), if_pos (by rw [List.length_map]; omega)]; unfold endP; rw [List.map_append]; rfl
theorem wrap_pred (i : Nat) (h : i ≤ 1048577) : wrap64 ((i : Int) - 1) = (i : Int) - 1 := wrap64_in (by omega)
theorem putP_len (acc : List (Nat × Nat)) (i : Nat) (op : Option Nat) : (putP acc i op).length ≤ acc.length + 1 := by
  cases op with
  | none => show acc.length ≤ _; omega
  | some o => show (acc ++ [_]).length ≤ _; simp
theorem spec_spans (data : List Int) (hd : data.length ≤ 1048576) (mark : ByteArray) (hm : mark.size ≤ 1048576) (t : Nat) (ht : t ≤ data.length) : ∀ (n k i : Nat) (acc : List (Nat × Nat)) (op : Option Nat), t < i + n → (∀ o, op = some o → 1 ≤ o ∧ o ≤ i) → acc.length + n ≤ 4194304 → 3 * n + 1048600 < k →
    spec_l5Spans.l0 k data t mark (acc.map fun x => (⟨x.1, x.2⟩ : S127)) (opI op) i = some ((spansP data mark t n acc op i).map fun x => (⟨x.1, x.2⟩ : S127))
  | 0, k, i, acc, op, h, _, ha, hk => by
    obtain ⟨k, rfl⟩ : ∃ q, k = q + 1 := ⟨k - 1, by omega⟩
    rw [spec_spans_end data mark t acc op (by omega) i (by omega)]
    rfl
  | n + 1, k, i, acc, op, h, ho, ha, hk => by
    obtain ⟨k, rfl⟩ : ∃ q, k = q + 3 := ⟨k - 3, by omega⟩
    by_cases c : i < t
    · have hL : (data.take t).length = t := by rw [List.length_take]; omega
      have he := spec_l4End_eq (data.take t) (by omega) (k + 2) i (by omega) (by omega)
      have hle := lineLen_le ((data.take t).drop i)
      rw [List.length_drop, hL] at hle
      rw [spansP, if_pos c]
      simp only
      generalize lineLen ((data.take t).drop i) = m at he hle ⊢
      have hk1 := spec_l5Line_eq data hd mark hm i (i + m) (by omega) (by omega)
      rw [spec_l5Spans.l0, if_pos (by omega), if_pos (by omega), if_pos (by omega), Int.toNat_natCast, he, Option.bind_some, hk1, Option.bind_some]
      have go : ∀ (k' : Nat) (acc' : List (Nat × Nat)) (op' : Option Nat), acc'.length + n ≤ 4194304 → (∀ o, op' = some o → 1 ≤ o ∧ o ≤ i + m + 1 ∧ o ≤ t) → 3 * n + 1048600 < k' → spec_l5Spans.l0 k' data t mark (acc'.map fun x => (⟨x.1, x.2⟩ : S127)) (opI op') ((i + m + 1 : Nat) : Int) = some ((spansP data mark t n acc' op' (min (i + m + 1) t)).map fun x => (⟨x.1, x.2⟩ : S127)) := by
        intro k' acc' op' g1 g2 g3
        clear hk1 he
        by_cases d : i + m + 1 ≤ t
        · rw [Nat.min_eq_left d]
          exact spec_spans data hd mark hm t ht n k' (i + m + 1) acc' op' (by omega) (fun o e => ⟨(g2 o e).1, (g2 o e).2.1⟩) g1 g3
        · obtain ⟨k', rfl⟩ : ∃ q, k' = q + 1 := ⟨k' - 1, by omega⟩
          rw [spec_spans_end data mark t acc' op' (by omega) _ (by omega), spansP_end data mark t n acc' op' (min (i + m + 1) t) (by omega)]
      have hki := kindP_in data i (i + m) mark
      have hpl := putP_len acc i op
      have hput : ∀ x13 : Int, spec_l5Spans.j1 (k + 2) data t mark (acc.map fun x => (⟨x.1, x.2⟩ : S127)) (opI op) i ((i + m : Nat) : Int) x13 (decide (opI op ≥ 0)) = spec_l5Spans.j2 (k + 1) data t mark ((putP acc i op).map fun x => (⟨x.1, x.2⟩ : S127)) (opI op) ((i + m : Nat) : Int) x13 := by
        intro x13
        rw [spec_l5Spans.j1]
        cases op with
        | none => rw [if_neg (by show ¬ decide ((-1 : Int) ≥ 0) = true; decide)]; rfl
        | some o =>
          obtain ⟨o1, o2⟩ := ho o rfl
          rw [if_pos (by show decide ((o : Int) ≥ 0) = true; exact decide_eq_true (by omega)), wrap_pred i (by omega)]
          have hx : spec_l1Max.f (opI (some o)) ((i : Int) - 1) = some ((max o (i - 1) : Nat) : Int) := by
            show (if (o : Int) > (i : Int) - 1 then some (o : Int) else some ((i : Int) - 1)) = _
            by_cases d : (o : Int) > (i : Int) - 1
            · rw [if_pos d, show max o (i - 1) = o by omega]
            · rw [if_neg d, show ((max o (i - 1) : Nat) : Int) = (i : Int) - 1 by omega]
          rw [hx, Option.bind_some, if_pos (by rw [List.length_map]; omega)]
          unfold putP
          rw [List.map_append]
          rfl
      generalize kindP data i (i + m) mark = K at hki ⊢
      rcases hki with k0 | k1 | k2
      · rw [k0, if_neg (by decide), if_neg (by decide), if_neg (by decide), spec_l5Spans.j1, if_neg (by decide), spec_l5Spans.j2, if_neg (by decide), if_neg (by decide), wrap_succ (i + m) (by omega)]
        exact go k acc op (by omega) (fun o e => ⟨(ho o e).1, by have := (ho o e).2; omega, by have := (ho o e).2; omega⟩) (by omega)
      · rw [k1, if_pos (by decide), if_neg (by decide), if_pos rfl, hput, spec_l5Spans.j2, if_neg (by decide), if_pos rfl, wrap_succ (i + m) (by omega)]
        have hmn : spec_l1Min.f ((i + m + 1 : Nat) : Int) t = some (opI (some (min (i + m + 1) t))) := by
          show (if ((i + m + 1 : Nat) : Int) < (t : Int) then some ((i + m + 1 : Nat) : Int) else some (t : Int)) = some ((min (i + m + 1) t : Nat) : Int)
          by_cases d : i + m + 1 < t
          · rw [if_pos (by omega), show min (i + m + 1) t = i + m + 1 by omega]
          · rw [if_neg (by omega), show min (i + m + 1) t = t by omega]
        rw [hmn, Option.bind_some]
        exact go k (putP acc i op) (some (min (i + m + 1) t)) (by omega) (fun o e => by cases e; omega) (by omega)
      · rw [k2, if_pos (by decide), if_pos rfl, hput, spec_l5Spans.j2, if_pos rfl]
    · obtain ⟨k, rfl⟩ : ∃ q, k = q + 1 := ⟨k - 1, by omega⟩
      rw [spec_spans_end data mark t acc op (by omega) i (by omega), spansP, if_neg c]
def opN : Option Nat → Int
  | some o => o
  | none => 0
theorem impl_marked_end (data : List Int) (mark : ByteArray) (t : Nat) (acc : List (Nat × Nat)) (op : Option Nat) (ha : acc.length ≤ 4194304) (i : Int) (h : (t : Int) ≤ i) (k : Nat) : impl_parser_marked.l0 (k + 1) data t mark (acc.map fun x => (⟨x.1, x.2⟩ : S134)) op.isSome (opN op) i = some ((endP t acc op).map fun x => (⟨x.1, x.2⟩ : S134)) := by
  rw [impl_parser_marked.l0, if_neg (by omega)]
  cases op with
  | none => rw [if_neg (by decide)]; rfl
  | some o => rw [if_pos (by rfl), if_pos (by rw [List.length_map]; omega)]; unfold endP; rw [List.map_append]; rfl
theorem impl_marked_put (data : List Int) (mark : ByteArray) (t : Nat) (acc : List (Nat × Nat)) (op : Option Nat) (ha : acc.length ≤ 4194304) (i : Nat) (hi : i ≤ 1048576) (ho : ∀ o, op = some o → 1 ≤ o ∧ o ≤ i) (hm : mark.size ≤ 1048576) (x14 : Int) (s : ByteArray) (k : Nat) :
    impl_parser_marked.j2 (k + 1) data t mark (acc.map fun x => (⟨x.1, x.2⟩ : S134)) op.isSome (opN op) i x14 s true = if s.toList = ((⟨#[45, 45]⟩ : ByteArray) ++ mark).toList then impl_parser_marked.l0 k data t mark ((putP acc i op).map fun x => (⟨x.1, x.2⟩ : S134)) true x14 x14 else some ((putP acc i op).map fun x => (⟨x.1, x.2⟩ : S134)) := by
  rw [impl_parser_marked.j2, if_pos rfl]
  cases op with
  | none =>
    rw [if_neg (by decide), if_pos (by omega)]
    by_cases c : s.toList = ((⟨#[45, 45]⟩ : ByteArray) ++ mark).toList
    · rw [if_pos c, if_pos c, beq_iff_eq.mpr c]; rfl
    · rw [if_neg c, if_neg c]; rfl
  | some o =>
    obtain ⟨o1, o2⟩ := ho o rfl
    have hx : mx (opN (some o)) ((i : Int) - 1) = ((max o (i - 1) : Nat) : Int) := by
      show (if (o : Int) < (i : Int) - 1 then (i : Int) - 1 else (o : Int)) = _
      by_cases d : (o : Int) < (i : Int) - 1
      · rw [if_pos d, show ((max o (i - 1) : Nat) : Int) = (i : Int) - 1 by omega]
      · rw [if_neg d, show max o (i - 1) = o by omega]
    rw [if_pos (by rfl), if_pos (by rw [List.length_map]; omega), Option.bind_some, if_pos (by omega), wrap_pred i (by omega), hx]
    have hp : (acc.map fun x => (⟨x.1, x.2⟩ : S134)) ++ [(⟨opN (some o), ((max o (i - 1) : Nat) : Int)⟩ : S134)] = (putP acc i (some o)).map fun x => (⟨x.1, x.2⟩ : S134) := by
      unfold putP
      rw [List.map_append]
      rfl
    rw [hp]
    by_cases c : s.toList = ((⟨#[45, 45]⟩ : ByteArray) ++ mark).toList
    · rw [if_pos c, if_pos c, beq_iff_eq.mpr c]
    · rw [if_neg c, if_neg c]
theorem impl_marked_j1 (data : List Int) (hd : data.length ≤ 1048576) (mark : ByteArray) (hm : mark.size ≤ 1048576) (t : Nat) (ht : t ≤ data.length) (acc : List (Nat × Nat)) (op : Option Nat) (ha : acc.length ≤ 4194304) (i m : Nat) (hi : i + m ≤ t) (ho : ∀ o, op = some o → 1 ≤ o ∧ o ≤ i) (x14 : Int) (k : Nat) :
    impl_parser_marked.j1 (k + 2) data t mark (acc.map fun x => (⟨x.1, x.2⟩ : S134)) op.isSome (opN op) i m x14 = if kindP data i (i + m) mark = 2 then some ((putP acc i op).map fun x => (⟨x.1, x.2⟩ : S134)) else if kindP data i (i + m) mark = 1 then impl_parser_marked.l0 k data t mark ((putP acc i op).map fun x => (⟨x.1, x.2⟩ : S134)) true x14 x14 else impl_parser_marked.l0 k data t mark (acc.map fun x => (⟨x.1, x.2⟩ : S134)) op.isSome (opN op) x14 := by
  have w1 : wrap64 ((i : Int) + (m : Int)) = ((i + m : Nat) : Int) := by rw [wrap64_in (by omega)]; omega
  rw [impl_parser_marked.j1, w1]
  clear w1
  rw [if_pos (by omega), if_pos (by omega), if_pos (by omega), if_pos (by omega), Int.toNat_natCast, Int.toNat_natCast]
  unfold kindP
  generalize strOfNums ((data.take (i + m)).drop i) = s
  by_cases c : s.toList = ((⟨#[45, 45]⟩ : ByteArray) ++ mark).toList
  · rw [if_pos c, impl_marked_put data mark t acc op ha i (by omega) ho hm x14 s k, if_pos c, if_pos c, if_neg (by decide), if_pos rfl]
  · rw [if_neg c, if_pos (by rw [dd_size]; omega)]
    by_cases d : s.toList = (((⟨#[45, 45]⟩ : ByteArray) ++ mark) ++ (⟨#[45, 45]⟩ : ByteArray)).toList
    · rw [beq_iff_eq.mpr d, impl_marked_put data mark t acc op ha i (by omega) ho hm x14 s k, if_neg c, if_neg c, if_pos d, if_pos rfl]
    · rw [beq_eq_false_iff_ne.mpr d, impl_parser_marked.j2, if_neg (by decide), if_neg c, if_neg d, if_neg (by decide), if_neg (by decide)]
theorem impl_marked (data : List Int) (hd : data.length ≤ 1048576) (hB : ∀ x ∈ data, 0 ≤ x ∧ x ≤ 255) (mark : ByteArray) (hm : mark.size ≤ 1048576) (t : Nat) (ht : t ≤ data.length) : ∀ (n k i : Nat) (acc : List (Nat × Nat)) (op : Option Nat), t < i + n → (∀ o, op = some o → 1 ≤ o ∧ o ≤ i) → acc.length + n ≤ 4194304 → 3 * n + 10 < k →
    impl_parser_marked.l0 k data t mark (acc.map fun x => (⟨x.1, x.2⟩ : S134)) op.isSome (opN op) i = some ((spansP data mark t n acc op i).map fun x => (⟨x.1, x.2⟩ : S134))
  | 0, k, i, acc, op, h, _, ha, hk => by
    obtain ⟨k, rfl⟩ : ∃ q, k = q + 1 := ⟨k - 1, by omega⟩
    rw [impl_marked_end data mark t acc op (by omega) i (by omega)]
    rfl
  | n + 1, k, i, acc, op, h, ho, ha, hk => by
    obtain ⟨k, rfl⟩ : ∃ q, k = q + 3 := ⟨k - 3, by omega⟩
    by_cases c : i < t
    · have hL := cutD_len data i t (by omega) ht
      have hin := cutD_in data hB i t
      have hle := lineLen_le ((data.take t).drop i)
      rw [hL] at hle
      have hpl := putP_len acc i op
      have hx : bytes_IndexByte.f ((data.take t).drop i) 10 = some (match fst 10 ((data.take t).drop i) with | none => -1 | some j => (j : Int)) := by
        unfold bytes_IndexByte.f
        rw [if_pos (by omega), indexByte_fst 10 (by omega) _ hin] <;> (cases fst 10 ((data.take t).drop i) <;> rfl)
      have hj : impl_parser_marked.l0 (k + 3) data t mark (acc.map fun x => (⟨x.1, x.2⟩ : S134)) op.isSome (opN op) i = impl_parser_marked.j1 (k + 2) data t mark (acc.map fun x => (⟨x.1, x.2⟩ : S134)) op.isSome (opN op) i (lineLen ((data.take t).drop i)) ((min (i + lineLen ((data.take t).drop i) + 1) t : Nat) : Int) := by
        rw [impl_parser_marked.l0, if_pos (by omega), if_pos (by omega), if_pos (by omega), if_pos (by omega), Int.toNat_natCast, Int.toNat_natCast, hx, Option.bind_some]
        cases hf : fst 10 ((data.take t).drop i) with
        | none =>
          have hm' : lineLen ((data.take t).drop i) = t - i := by unfold lineLen; rw [hf]; exact hL
          show (if (-1 : Int) < 0 then _ else _) = _
          rw [if_pos (by decide), hm', show min (i + (t - i) + 1) t = t by omega, show wrap64 ((t : Int) - (i : Int)) = ((t - i : Nat) : Int) by rw [wrap64_in (by omega)]; omega]
        | some m =>
          have hlt := fst_lt 10 _ m hf
          have hm' : lineLen ((data.take t).drop i) = m := by unfold lineLen; rw [hf]; rfl
          show (if (m : Int) < 0 then _ else _) = _
          rw [if_neg (by omega), hm', show min (i + m + 1) t = i + m + 1 by omega, show wrap64 ((i : Int) + (m : Int)) = ((i + m : Nat) : Int) by rw [wrap64_in (by omega)]; omega, wrap_succ (i + m) (by omega)]
      rw [hj, spansP, if_pos c]
      simp only
      clear hj hx
      generalize lineLen ((data.take t).drop i) = m at hle ⊢
      rw [impl_marked_j1 data hd mark hm t ht acc op (by omega) i m (by omega) ho]
      split
      · rfl
      · split
        · exact impl_marked data hd hB mark hm t ht n k (min (i + m + 1) t) (putP acc i op) (some (min (i + m + 1) t)) (by omega) (fun o e => by cases e; omega) (by omega) (by omega)
        · exact impl_marked data hd hB mark hm t ht n k (min (i + m + 1) t) acc op (by omega) (fun o e => ⟨(ho o e).1, by have := (ho o e).2; omega⟩) (by omega) (by omega)
    · obtain ⟨k, rfl⟩ : ∃ q, k = q + 1 := ⟨k - 1, by omega⟩
      rw [impl_marked_end data mark t acc op (by omega) i (by omega), spansP, if_neg c]
theorem parseF_at (data : List Int) : ∀ (n i : Nat) (fs : List S151), i ≤ data.length → ∃ a : Nat, (parseF n data i fs).2.1 = (a : Int) ∧ a ≤ data.length
  | 0, _, _, _ => ⟨0, rfl, Nat.zero_le _⟩
  | n + 1, i, fs, hi => by
    unfold parseF
    by_cases c : i < data.length
    · rw [if_pos c]
      by_cases h0 : lineLen (data.drop i) = 0
      · rw [if_pos h0]; exact ⟨i + 1, rfl, c⟩
      · rw [if_neg h0]
        cases hl : lineF fs (strOfNums ((data.drop i).take (lineLen (data.drop i)))) with
        | none => exact ⟨0, rfl, Nat.zero_le _⟩
        | some f => exact parseF_at data n (min (i + lineLen (data.drop i) + 1) data.length) f (Nat.min_le_right _ _)
    · rw [if_neg c]; exact ⟨i, rfl, hi⟩
theorem oneP_at (data : List Int) (hd : data.length ≤ 1048576) (f t : Nat) (h1 : f ≤ t) (h2 : t ≤ data.length) : (∃ a : Nat, (oneP data f t).1.f3 = (a : Int) ∧ f ≤ a ∧ a ≤ t) ∧ (oneP data f t).1.f4 = (t : Int) := by
  have hL := cutD_len data f t h1 h2
  unfold oneP
  obtain ⟨a, ha, hle⟩ := parseF_at ((data.take t).drop f) (((data.take t).drop f).length + 1) 0 [] (Nat.zero_le _)
  rw [hL] at hle
  simp only
  rw [ha]
  have w : wrap64 ((f : Int) + (a : Int)) = ((f + a : Nat) : Int) := by rw [wrap64_in (by omega)]; omega
  rw [w]
  clear w
  by_cases c : (parseF (((data.take t).drop f).length + 1) ((data.take t).drop f) 0 ([] : List S151)).2.2 = true
  · rw [if_pos c]
    by_cases c2 : (ofF ctB (parseF (((data.take t).drop f).length + 1) ((data.take t).drop f) 0 ([] : List S151)).1).2 = true
    · rw [if_pos c2]
      exact ⟨⟨f + a, rfl, by omega, by omega⟩, rfl⟩
    · rw [if_neg c2]
      exact ⟨⟨f + a, rfl, by omega, by omega⟩, rfl⟩
  · rw [if_neg c]
    exact ⟨⟨f, rfl, by omega, by omega⟩, rfl⟩
theorem oneP_mark (data : List Int) (hd : data.length ≤ 1048576) (f t : Nat) (h1 : f ≤ t) (h2 : t ≤ data.length) : (oneP data f t).2.size ≤ 1048576 := by
  have hL := cutD_len data f t h1 h2
  have hs := (parse_small ((data.take t).drop f) (by omega)).2
  unfold oneP
  simp only
  generalize parseF (((data.take t).drop f).length + 1) ((data.take t).drop f) 0 ([] : List S151) = h at hs
  by_cases c : h.2.2 = true
  · rw [if_pos c]
    by_cases c2 : (ofF ctB h.1).2 = true
    · rw [if_pos c2]
      simp only
      split
      · exact nmF_size _ _ 1048576 (fun x hx => Nat.le_trans (piecesB_size _ x (List.mem_of_mem_drop hx)) (ofF_size ctB h.1 hs))
      · show (0 : Nat) ≤ _; omega
    · rw [if_neg c2]; show (0 : Nat) ≤ _; omega
  · rw [if_neg c]; show (0 : Nat) ≤ _; omega
theorem endP_in (t i0 : Nat) (acc : List (Nat × Nat)) (op : Option Nat) (ha : ∀ x ∈ acc, i0 ≤ x.1 ∧ x.1 ≤ x.2 ∧ x.2 ≤ t) (ho : ∀ o, op = some o → i0 ≤ o ∧ o ≤ t) : ∀ x ∈ endP t acc op, i0 ≤ x.1 ∧ x.1 ≤ x.2 ∧ x.2 ≤ t := by
  cases op with
  | none => exact ha
  | some o =>
    intro x hx
    rcases List.mem_append.1 hx with h | h
    · exact ha x h
    · obtain rfl := List.mem_singleton.1 h
      have := ho o rfl
      exact ⟨this.1, this.2, Nat.le_refl _⟩
theorem putP_in (t i0 i : Nat) (acc : List (Nat × Nat)) (op : Option Nat) (ha : ∀ x ∈ acc, i0 ≤ x.1 ∧ x.1 ≤ x.2 ∧ x.2 ≤ t) (ho : ∀ o, op = some o → i0 ≤ o ∧ o ≤ i) (hi : i ≤ t) : ∀ x ∈ putP acc i op, i0 ≤ x.1 ∧ x.1 ≤ x.2 ∧ x.2 ≤ t := by
  cases op with
  | none => exact ha
  | some o =>
    intro x hx
    rcases List.mem_append.1 hx with h | h
    · exact ha x h
    · obtain rfl := List.mem_singleton.1 h
      have := ho o rfl
      exact ⟨this.1, by show o ≤ max o (i - 1); omega, by show max o (i - 1) ≤ t; omega⟩
theorem spansP_in (data : List Int) (mark : ByteArray) (t i0 : Nat) : ∀ (n i : Nat) (acc : List (Nat × Nat)) (op : Option Nat), (∀ x ∈ acc, i0 ≤ x.1 ∧ x.1 ≤ x.2 ∧ x.2 ≤ t) → (∀ o, op = some o → i0 ≤ o ∧ o ≤ i ∧ o ≤ t) → i0 ≤ i → ∀ x ∈ spansP data mark t n acc op i, i0 ≤ x.1 ∧ x.1 ≤ x.2 ∧ x.2 ≤ t
  | 0, i, acc, op, ha, ho, _ => endP_in t i0 acc op ha (fun o e => ⟨(ho o e).1, (ho o e).2.2⟩)
  | n + 1, i, acc, op, ha, ho, hi => by
    unfold spansP
    by_cases c : i < t
    · rw [if_pos c]
      simp only
      have hp := putP_in t i0 i acc op ha (fun o e => ⟨(ho o e).1, (ho o e).2.1⟩) (by omega)
      split
      · exact hp
      · split
        · exact spansP_in data mark t i0 n _ _ _ hp (fun o e => by cases e; omega) (by omega)
        · exact spansP_in data mark t i0 n _ acc op ha (fun o e => by have := ho o e; omega) (by omega)
    · rw [if_neg c]
      exact endP_in t i0 acc op ha (fun o e => ⟨(ho o e).1, (ho o e).2.2⟩)
theorem spansP_len (data : List Int) (mark : ByteArray) (t : Nat) : ∀ (n i : Nat) (acc : List (Nat × Nat)) (op : Option Nat), (spansP data mark t n acc op i).length ≤ acc.length + n + 1
  | 0, i, acc, op => by
    show (endP t acc op).length ≤ _
    cases op with
    | none => show acc.length ≤ _; omega
    | some o => show (acc ++ [_]).length ≤ _; simp
  | n + 1, i, acc, op => by
    have hp := putP_len acc i op
    have he : (endP t acc op).length ≤ acc.length + 1 := by
      cases op with
      | none => show acc.length ≤ _; omega
      | some o => show (acc ++ [_]).length ≤ _; simp
    unfold spansP
    by_cases c : i < t
    · rw [if_pos c]
      simp only
      split
      · omega
      · split
        · have := spansP_len data mark t n (min (i + lineLen ((data.take t).drop i) + 1) t) (putP acc i op) (some (min (i + lineLen ((data.take t).drop i) + 1) t))
          omega
        · have := spansP_len data mark t n (min (i + lineLen ((data.take t).drop i) + 1) t) acc op
          omega
    · rw [if_neg c]; omega
def kidsP (g : List S23 → Nat → Nat → Int → Int → List S23) (here : Int) : List (Nat × Nat) → Nat → List S23 → List S23
  | [], _, l => l
  | s :: ss, i, l => kidsP g here ss (i + 1) (if l.length < 8 then g l s.1 s.2 here ((i + 1 : Nat) : Int) else l)
def nowP (data : List Int) (l : List S23) (f t : Nat) (u n : Int) : List S23 := l ++ [⟨(oneP data f t).1.f0, (oneP data f t).1.f1, (oneP data f t).1.f2, (oneP data f t).1.f3, (oneP data f t).1.f4, u, n⟩]
def spP (data : List Int) (f t : Nat) : List (Nat × Nat) := spansP data (oneP data f t).2 t (t + 1) [] none ((oneP data f t).1.f3).toNat
def addP (data : List Int) : Nat → List S23 → Nat → Nat → Int → Int → List S23
  | 0, l, _, _, _, _ => l
  | d + 1, l, f, t, u, n =>
    if (oneP data f t).1.f0 = 2 ∧ 1 ≤ d ∧ 1 ≤ (oneP data f t).2.size ∧ (oneP data f t).2.size ≤ 20 then kidsP (addP data d) l.length (spP data f t) 0 (nowP data l f t u n) else nowP data l f t u n
theorem kidsP_full (g : List S23 → Nat → Nat → Int → Int → List S23) (here : Int) : ∀ (ss : List (Nat × Nat)) (i : Nat) (l : List S23), ¬ l.length < 8 → kidsP g here ss i l = l
  | [], _, _, _ => rfl
  | s :: ss, i, l, h => by rw [kidsP, if_neg h]; exact kidsP_full g here ss (i + 1) l h
theorem kidsP_len (g : List S23 → Nat → Nat → Int → Int → List S23) (here : Int) (hg : ∀ l a b u n, l.length < 8 → (g l a b u n).length ≤ 8) : ∀ (ss : List (Nat × Nat)) (i : Nat) (l : List S23), l.length ≤ 8 → (kidsP g here ss i l).length ≤ 8
  | [], _, _, h => h
  | s :: ss, i, l, h => by
    rw [kidsP]
    refine kidsP_len g here hg ss (i + 1) _ ?_
    split
    · next c => exact hg l _ _ _ _ c
    · exact h
theorem nowP_len (data : List Int) (l : List S23) (f t : Nat) (u n : Int) : (nowP data l f t u n).length = l.length + 1 := by unfold nowP; simp
theorem addP_len (data : List Int) : ∀ (d : Nat) (l : List S23) (f t : Nat) (u n : Int), l.length < 8 → (addP data d l f t u n).length ≤ 8
  | 0, l, _, _, _, _, h => by rw [addP]; omega
  | d + 1, l, f, t, u, n, h => by
    rw [addP]
    have := nowP_len data l f t u n
    split
    · exact kidsP_len (addP data d) l.length (fun l a b u n hl => addP_len data d l a b u n hl) _ _ _ (by omega)
    · omega
theorem rdS (ss : List (Nat × Nat)) (j : Nat) (h : j < ss.length) : rd_T127 (ss.map fun x => (⟨x.1, x.2⟩ : S127)) (j : Int) = ⟨ss[j].1, ss[j].2⟩ := by
  unfold rd_T127
  rw [Int.toNat_natCast, List.getD_eq_getElem?_getD, List.getElem?_map, List.getElem?_eq_getElem h]
  rfl
theorem rdI (ss : List (Nat × Nat)) (j : Nat) (h : j < ss.length) : rd_T134 (ss.map fun x => (⟨x.1, x.2⟩ : S134)) (j : Int) = ⟨ss[j].1, ss[j].2⟩ := by
  unfold rd_T134
  rw [Int.toNat_natCast, List.getD_eq_getElem?_getD, List.getElem?_map, List.getElem?_eq_getElem h]
  rfl
theorem spec_kids (data : List Int) (g : List S23 → Nat → Nat → Int → Int → List S23) (ss : List (Nat × Nat)) (hl : ss.length ≤ 1048580) (deep here : Int) (K : Nat) (hg : ∀ (l : List S23) (s : Nat × Nat) (n : Int) (k : Nat), s ∈ ss → l.length < 8 → K < k → spec_l5Add.f k l data s.1 s.2 here n (wrap64 (deep + 1)) = some (g l s.1 s.2 here n)) : ∀ (n j k : Nat) (l : List S23), ss.length = j + n → K + n + 1 < k → spec_l5Add.l0 k l data deep here (ss.map fun x => (⟨x.1, x.2⟩ : S127)) j = some (kidsP g here (ss.drop j) j l)
  | 0, j, k, l, h, hk => by
    obtain ⟨k, rfl⟩ : ∃ q, k = q + 1 := ⟨k - 1, by omega⟩
    rw [spec_l5Add.l0, if_neg (by rw [List.length_map]; omega), List.drop_eq_nil_of_le (by omega)]
    rfl
  | n + 1, j, k, l, h, hk => by
    obtain ⟨k, rfl⟩ : ∃ q, k = q + 1 := ⟨k - 1, by omega⟩
    have hj : j < ss.length := by omega
    rw [spec_l5Add.l0, if_pos (by rw [List.length_map]; omega)]
    by_cases c : l.length < 8
    · rw [if_pos (by omega), if_pos (by omega), rdS ss j hj, wrap_succ j (by omega)]
      rw [hg l ss[j] ((j + 1 : Nat) : Int) k (List.getElem_mem hj) c (by omega), Option.bind_some, spec_kids data g ss hl deep here K hg n (j + 1) k _ (by omega) (by omega), List.drop_eq_getElem_cons hj, kidsP, if_pos c]
    · rw [if_neg (by omega), kidsP_full g here _ _ _ c]
theorem impl_kids (data : List Int) (g : List S23 → Nat → Nat → Int → Int → List S23) (ss : List (Nat × Nat)) (hl : ss.length ≤ 1048580) (deep here : Int) (K : Nat) (hg : ∀ (l : List S23) (s : Nat × Nat) (n : Int) (k : Nat), s ∈ ss → l.length ≤ 8 → K < k → impl_parser_part.f k data s.1 s.2 here n (wrap64 (deep + 1)) l = some (if l.length < 8 then g l s.1 s.2 here n else l)) (hg8 : ∀ l a b u n, l.length < 8 → (g l a b u n).length ≤ 8) : ∀ (n j k : Nat) (l : List S23), ss.length = j + n → l.length ≤ 8 → K + n + 1 < k → impl_parser_part.l0 k deep here (ss.map fun x => (⟨x.1, x.2⟩ : S134)) (ss.length : Int) j data l = some (kidsP g here (ss.drop j) j l)
  | 0, j, k, l, h, _, hk => by
    obtain ⟨k, rfl⟩ : ∃ q, k = q + 1 := ⟨k - 1, by omega⟩
    rw [impl_parser_part.l0, if_neg (by omega), List.drop_eq_nil_of_le (by omega)]
    rfl
  | n + 1, j, k, l, h, h8, hk => by
    obtain ⟨k, rfl⟩ : ∃ q, k = q + 1 := ⟨k - 1, by omega⟩
    have hj : j < ss.length := by omega
    rw [impl_parser_part.l0, if_pos (by omega), if_pos (by omega), if_pos (by rw [List.length_map]; omega), rdI ss j hj, wrap_succ j (by omega)]
    have h8' : (if l.length < 8 then g l ss[j].1 ss[j].2 here ((j + 1 : Nat) : Int) else l).length ≤ 8 := by
      split
      · next c => exact hg8 _ _ _ _ _ c
      · exact h8
    rw [hg l ss[j] ((j + 1 : Nat) : Int) k (List.getElem_mem hj) h8 (by omega), Option.bind_some, impl_kids data g ss hl deep here K hg hg8 n (j + 1) k _ (by omega) h8' (by omega), List.drop_eq_getElem_cons hj, kidsP]
theorem in_eq2 (a : Int) : spec_l1In.f a 1 20 = some (decide (1 ≤ a ∧ a ≤ 20)) ∧ impl_within.f a 1 20 = some (decide (1 ≤ a ∧ a ≤ 20)) := by
  have : ∀ x : Option Bool, x = (if a ≥ 1 then (some (decide (a ≤ 20))) else (some false)) → x = some (decide (1 ≤ a ∧ a ≤ 20)) := by
    intro x hx
    rw [hx]
    by_cases h : a ≥ 1
    · rw [if_pos h]
      by_cases h2 : a ≤ 20
      · rw [decide_eq_true h2, decide_eq_true ⟨h, h2⟩]
      · rw [decide_eq_false h2, decide_eq_false (fun q => h2 q.2)]
    · rw [if_neg h, decide_eq_false (fun q => h q.1)]
  exact ⟨this _ rfl, this _ rfl⟩
theorem spec_add (M : Nat → Nat) (hM0 : ∀ d, 9000000 < M d) (hM : ∀ d, M d + 4194304 ≤ M (d + 1)) (data : List Int) (hd : data.length ≤ 1048576) (hB : ∀ x ∈ data, 0 ≤ x ∧ x ≤ 255) : ∀ (d : Nat) (l : List S23) (f t : Nat) (u n : Int) (k : Nat), d ≤ 2 → l.length < 8 → f ≤ t → t ≤ data.length → M d < k → spec_l5Add.f k l data f t u n (3 - (d : Int)) = some (addP data (d + 1) l f t u n) := by
  intro d
  induction d with
  | zero =>
    intro l f t u n k _ hl h1 h2 hk
    have m0 := hM0 0
    obtain ⟨k, rfl⟩ : ∃ q, k = q + 2 := ⟨k - 2, by omega⟩
    obtain ⟨a, b, h⟩ := spec_l5One_eq data hd hB f t h1 h2 (k + 1) (by omega)
    have hz : ¬ ((oneP data f t).1.f0 = 2 ∧ 1 ≤ 0 ∧ 1 ≤ (oneP data f t).2.size ∧ (oneP data f t).2.size ≤ 20) := fun q => absurd q.2.1 (by decide)
    rw [spec_l5Add.f, h, Option.bind_some, if_pos (by omega), Option.bind_some, addP, if_neg hz]
    simp only
    unfold nowP
    split
    · rw [if_pos (by omega), spec_l5Add.j0, if_pos rfl]
    · rw [spec_l5Add.j0, if_pos rfl]
  | succ d ih =>
    intro l f t u n k hdd hl h1 h2 hk
    have m0 := hM0 (d + 1)
    have m1 := hM0 d
    have m2 := hM d
    generalize M (d + 1) = M1 at m0 m2 hk
    generalize hMd : M d = M0 at m1 m2 ih
    clear hMd
    obtain ⟨k, rfl⟩ : ∃ q, k = q + 2 := ⟨k - 2, by omega⟩
    obtain ⟨a, b, h⟩ := spec_l5One_eq data hd hB f t h1 h2 (k + 1) (by omega)
    obtain ⟨⟨p, p1, p2, p3⟩, p4⟩ := oneP_at data hd f t h1 h2
    have hm := oneP_mark data hd f t h1 h2
    rw [spec_l5Add.f, h, Option.bind_some, if_pos (by omega), Option.bind_some, addP]
    simp only
    by_cases c : (oneP data f t).1.f0 = 2
    · rw [if_pos c, if_neg (by omega), (in_eq2 _).1, Option.bind_some]
      by_cases c2 : 1 ≤ (oneP data f t).2.size ∧ (oneP data f t).2.size ≤ 20
      · have hsp : spec_l5Spans.f k data (oneP data f t).1.f3 (oneP data f t).1.f4 (oneP data f t).2 = some ((spP data f t).map fun x => (⟨x.1, x.2⟩ : S127)) := by
          unfold spec_l5Spans.f spP
          rw [p1, p4, Int.toNat_natCast]
          exact spec_spans data hd _ hm t h2 (t + 1) k p [] none (by omega) (fun o e => by cases e) (by simp only [List.length_nil]; omega) (by omega)
        have hin : ∀ s ∈ spP data f t, s.1 ≤ s.2 ∧ s.2 ≤ data.length := fun s hs => by
          have := spansP_in data (oneP data f t).2 t 0 (t + 1) _ [] none (by simp) (fun o e => by cases e) (Nat.zero_le _) s hs
          omega
        have hln : (spP data f t).length ≤ 1048580 := by
          have := spansP_len data (oneP data f t).2 t (t + 1) ((oneP data f t).1.f3).toNat [] none
          unfold spP
          simp only [List.length_nil] at this
          omega
        rw [if_pos ⟨c, by omega, c2⟩, decide_eq_true (by omega), Bool.not_true, spec_l5Add.j0, if_neg (by decide), hsp, Option.bind_some]
        have := spec_kids data (addP data (d + 1)) (spP data f t) hln (3 - ((d + 1 : Nat) : Int)) l.length M0 (fun l2 s n k hs hl8 hk2 => by
          rw [show wrap64 (3 - ((d + 1 : Nat) : Int) + 1) = 3 - (d : Int) by rw [wrap64_in (by omega)]; omega]
          exact ih l2 s.1 s.2 l.length n k (by omega) hl8 (hin s hs).1 (hin s hs).2 hk2) (spP data f t).length 0 k (nowP data l f t u n) (by omega) (by omega)
        rw [List.drop_zero] at this
        exact this
      · rw [if_neg (fun q => c2 q.2.2), decide_eq_false (by omega), Bool.not_false, spec_l5Add.j0, if_pos rfl]
        rfl
    · rw [if_neg c, if_neg (fun q => c q.1), spec_l5Add.j0, if_pos rfl]
      rfl
theorem impl_j12 (data : List Int) (x5 : Int) (v : ByteArray) (l : List S23) (o0 o1 o2 o3 o4 u n : Int) (hl : l.length < 8) (st : Bool) (k : Nat) (h5 : (decide ((wrap64 (x5 + 1)) ≥ 3)) = st) :
    impl_parser_part.j1 (k + 1) x5 v data l o0 o1 o2 o3 o4 u n = impl_parser_part.j2 k x5 v (if o0 = 2 then st else true) data (l ++ [⟨o0, o1, o2, o3, o4, u, n⟩]) o0 o1 o2 o3 o4 u n := by
  rw [impl_parser_part.j1, if_pos (by omega), Option.bind_some]
  by_cases c : o0 = 2
  · rw [if_pos c, if_pos c, h5]
  · rw [if_neg c, if_neg c]
theorem impl_j2 (data : List Int) (x5 : Int) (v : ByteArray) (hv : v.size ≤ 1048576) (l : List S23) (o0 o1 o2 o3 o4 u n : Int) (k : Nat) (hk : 9000000 < k) :
    impl_parser_part.j2 (k + 2) x5 v false data l o0 o1 o2 o3 o4 u n = if 1 ≤ (nmF ((piecesB v).drop 1) bndB).1.size ∧ (nmF ((piecesB v).drop 1) bndB).1.size ≤ 20 then ((impl_parser_marked.f k data o3 o4 (nmF ((piecesB v).drop 1) bndB).1).bind fun t414 => impl_parser_part.l0 k x5 (wrap64 ((l.length : Int) - 1)) t414 (t414.length : Int) 0 data l) else some l := by
  rw [impl_parser_part.j2, if_neg (by decide), show (⟨#[98, 111, 117, 110, 100, 97, 114, 121, 61]⟩ : ByteArray) = bndB from rfl, impl_parameter_eq v bndB hv (k + 1) (by omega), Option.bind_some]
  have hf : ∀ q : List ByteArray, (nmF q bndB).2 = true ∨ (nmF q bndB).1 = (⟨#[]⟩ : ByteArray) := by
    intro q
    induction q with
    | nil => exact .inr rfl
    | cons x r ih =>
      unfold nmF
      split
      · exact .inl rfl
      · exact ih
  have hf := hf ((piecesB v).drop 1)
  generalize nmF ((piecesB v).drop 1) bndB = o at hf
  by_cases c : o.2 = true
  · rw [if_pos c, (in_eq2 _).2, Option.bind_some]
    by_cases c2 : 1 ≤ o.1.size ∧ o.1.size ≤ 20
    · rw [if_pos c2, decide_eq_true (by omega), Bool.not_true, impl_parser_part.j3, if_neg (by decide)]
      rfl
    · rw [if_neg c2, decide_eq_false (by omega), Bool.not_false, impl_parser_part.j3, if_pos rfl]
  · have hz : o.1.size = 0 := by rw [hf.resolve_left c]; rfl
    rw [if_neg c, if_neg (by omega), impl_parser_part.j3, if_pos rfl]
theorem impl_step (data : List Int) (hd : data.length ≤ 1048576) (hB : ∀ x ∈ data, 0 ≤ x ∧ x ≤ 255) (l : List S23) (hl : l.length < 8) (f t : Nat) (h1 : f ≤ t) (h2 : t ≤ data.length) (u n x5 : Int) (st : Bool) (h5 : (decide ((wrap64 (x5 + 1)) ≥ 3)) = st) (q : Nat) (hq : 9000000 < q) :
    impl_parser_part.f (q + 5) data f t u n x5 l = if (oneP data f t).1.f0 = 2 ∧ st = false ∧ 1 ≤ (oneP data f t).2.size ∧ (oneP data f t).2.size ≤ 20 then ((impl_parser_marked.f q data (oneP data f t).1.f3 (oneP data f t).1.f4 (oneP data f t).2).bind fun t414 => impl_parser_part.l0 q x5 (wrap64 (((nowP data l f t u n).length : Int) - 1)) t414 (t414.length : Int) 0 data (nowP data l f t u n)) else some (nowP data l f t u n) := by
  have hL := cutD_len data f t h1 h2
  have hin := cutD_in data hB f t
  obtain ⟨D, hD⟩ : ∃ D, D = (data.take t).drop f := ⟨_, rfl⟩
  rw [← hD] at hL hin
  obtain ⟨hs1, hs2⟩ := parse_small D (by omega)
  have hp := (parse_both0 D (by omega) hin (q + 4) (by omega)).2
  obtain ⟨h, hh⟩ : ∃ h, h = parseF (D.length + 1) D 0 ([] : List S151) := ⟨_, rfl⟩
  rw [← hh] at hs1 hs2 hp
  have hl1 := hs1.1
  rw [impl_parser_part.f, if_neg (by omega), if_pos (by omega), if_pos (by omega), if_pos (by omega), Int.toNat_natCast, Int.toNat_natCast, ← hD, hp, Option.bind_some]
  have plain : ∀ (o0 o1 o2 o3 o4 : Int) (v m : ByteArray), oneP data f t = (⟨o0, o1, o2, o3, o4, 0, 0⟩, m) → ¬ o0 = 2 → impl_parser_part.j1 (q + 3) x5 v data l o0 o1 o2 o3 o4 u n = if (oneP data f t).1.f0 = 2 ∧ st = false ∧ 1 ≤ (oneP data f t).2.size ∧ (oneP data f t).2.size ≤ 20 then ((impl_parser_marked.f q data (oneP data f t).1.f3 (oneP data f t).1.f4 (oneP data f t).2).bind fun t414 => impl_parser_part.l0 q x5 (wrap64 (((nowP data l f t u n).length : Int) - 1)) t414 (t414.length : Int) 0 data (nowP data l f t u n)) else some (nowP data l f t u n) := by
    intro o0 o1 o2 o3 o4 v m ho h0
    rw [impl_j12 data x5 v l o0 o1 o2 o3 o4 u n hl st (q + 2) h5, if_neg h0, impl_parser_part.j2, if_pos rfl, if_neg (by rw [ho]; exact fun z => h0 z.1)]
    unfold nowP
    rw [ho]
  by_cases c : h.2.2 = true
  · have hsz := ofF_size ctB h.1 hs2
    have e1 : impl_fieldOf.f (q + 4) h.1 (⟨#[67, 111, 110, 116, 101, 110, 116, 45, 84, 121, 112, 101]⟩ : ByteArray) = some (ofF ctB h.1) := by rw [impl_fieldOf_eq h.1 hs1 _ (by decide) (q + 4) (by omega), ofF_low _ ctB ct_low]
    have e2 : impl_fieldOf.f (q + 3) h.1 (⟨#[67, 111, 110, 116, 101, 110, 116, 45, 84, 114, 97, 110, 115, 102, 101, 114, 45, 69, 110, 99, 111, 100, 105, 110, 103]⟩ : ByteArray) = some (ofF cteB h.1) := by rw [impl_fieldOf_eq h.1 hs1 _ (by decide) (q + 3) (by omega), ofF_low _ cteB cte_low]
    have e3 : impl_codingOf.f (q + 3) (ofF cteB h.1).1 = some (codN (ofF cteB h.1).1) := impl_codingOf_eq _ (ofF_size cteB h.1 hs2) (q + 3) (by omega)
    rw [if_pos c, e1, Option.bind_some]
    by_cases c2 : (ofF ctB h.1).2 = true
    · have hT := (typ_eq _ hsz (q + 4) (by omega)).2
      have ho : oneP data f t = (⟨(typ (ofF ctB h.1).1).1, (typ (ofF ctB h.1).1).2.1, codN (ofF cteB h.1).1, wrap64 ((f : Int) + h.2.1), t, 0, 0⟩, if (typ (ofF ctB h.1).1).1 = 2 then (nmF ((piecesB (ofF ctB h.1).1).drop 1) bndB).1 else ⟨#[]⟩) := by
        unfold oneP
        rw [← hD, ← hh]
        simp only
        rw [if_pos c, if_pos c2]
      rw [if_pos c2, hT, Option.bind_some, impl_parser_part.j0, if_pos c, e2, Option.bind_some, e3, Option.bind_some]
      by_cases c3 : (typ (ofF ctB h.1).1).1 = 2
      · rw [if_pos c3] at ho
        rw [impl_j12 data x5 _ l _ _ _ _ _ u n hl st (q + 2) h5, if_pos c3]
        unfold nowP
        rw [ho]
        simp only
        cases st with
        | true => rw [impl_parser_part.j2, if_pos rfl, if_neg (fun z => absurd z.2.1 (by decide))]
        | false =>
          rw [impl_j2 data x5 _ hsz _ _ _ _ _ _ u n q hq]
          by_cases c4 : 1 ≤ (nmF ((piecesB (ofF ctB h.1).1).drop 1) bndB).1.size ∧ (nmF ((piecesB (ofF ctB h.1).1).drop 1) bndB).1.size ≤ 20
          · rw [if_pos c4, if_pos ⟨c3, rfl, c4⟩]
          · rw [if_neg c4, if_neg (fun z => c4 z.2.2)]
      · exact plain _ _ _ _ _ _ _ ho c3
    · have ho : oneP data f t = (⟨1, 1, codN (ofF cteB h.1).1, wrap64 ((f : Int) + h.2.1), t, 0, 0⟩, ⟨#[]⟩) := by
        unfold oneP
        rw [← hD, ← hh]
        simp only
        rw [if_pos c, if_neg c2]
      rw [if_neg c2, impl_parser_part.j0, if_pos c, e2, Option.bind_some, e3, Option.bind_some]
      exact plain _ _ _ _ _ _ _ ho (by decide)
  · have ho : oneP data f t = (⟨3, 0, 1, f, t, 0, 0⟩, ⟨#[]⟩) := by
      unfold oneP
      rw [← hD, ← hh]
      simp only
      rw [if_neg c]
    rw [if_neg c, impl_parser_part.j0, if_neg c]
    exact plain _ _ _ _ _ _ _ ho (by decide)
theorem impl_add (M : Nat → Nat) (hM0 : ∀ d, 9000010 < M d) (hM : ∀ d, M d + 4194304 ≤ M (d + 1)) (data : List Int) (hd : data.length ≤ 1048576) (hB : ∀ x ∈ data, 0 ≤ x ∧ x ≤ 255) : ∀ (d : Nat) (l : List S23) (f t : Nat) (u n : Int) (k : Nat), d ≤ 2 → l.length ≤ 8 → f ≤ t → t ≤ data.length → M (d + 1) < k → impl_parser_part.f k data f t u n (2 - (d : Int)) l = some (if l.length < 8 then addP data (d + 1) l f t u n else l) := by
  intro d
  induction d with
  | zero =>
    intro l f t u n k _ hl h1 h2 hk
    have m0 := hM0 (0 + 1)
    generalize M (0 + 1) = M1 at m0 hk
    obtain ⟨q, rfl⟩ : ∃ q, k = q + 5 := ⟨k - 5, by omega⟩
    by_cases c : l.length < 8
    · have hz : ¬ ((oneP data f t).1.f0 = 2 ∧ 1 ≤ 0 ∧ 1 ≤ (oneP data f t).2.size ∧ (oneP data f t).2.size ≤ 20) := fun z => absurd z.2.1 (by decide)
      rw [if_pos c, impl_step data hd hB l c f t h1 h2 u n (2 - ((0 : Nat) : Int)) true (by decide +kernel) q (by omega), if_neg (fun z => absurd z.2.1 (by decide)), addP, if_neg hz]
    · rw [if_neg c, impl_parser_part.f, if_pos (by omega)]
  | succ d ih =>
    intro l f t u n k hdd hl h1 h2 hk
    have m0 := hM0 (d + 1)
    have m2 := hM (d + 1)
    generalize M (d + 1 + 1) = M1 at m2 hk
    generalize hMd : M (d + 1) = M0 at m0 m2 ih
    clear hMd
    obtain ⟨q, rfl⟩ : ∃ q, k = q + 5 := ⟨k - 5, by omega⟩
    by_cases c : l.length < 8
    · have h5 : (decide ((wrap64 ((2 - ((d + 1 : Nat) : Int)) + 1)) ≥ 3)) = false := by rw [wrap64_in (by omega)]; exact decide_eq_false (by omega)
      obtain ⟨⟨p, p1, p2, p3⟩, p4⟩ := oneP_at data hd f t h1 h2
      have hm := oneP_mark data hd f t h1 h2
      have hnl := nowP_len data l f t u n
      rw [if_pos c, impl_step data hd hB l c f t h1 h2 u n (2 - ((d + 1 : Nat) : Int)) false h5 q (by omega), addP]
      by_cases c2 : (oneP data f t).1.f0 = 2 ∧ 1 ≤ (oneP data f t).2.size ∧ (oneP data f t).2.size ≤ 20
      · have hsp : impl_parser_marked.f q data (oneP data f t).1.f3 (oneP data f t).1.f4 (oneP data f t).2 = some ((spP data f t).map fun x => (⟨x.1, x.2⟩ : S134)) := by
          unfold impl_parser_marked.f spP
          rw [p1, p4, Int.toNat_natCast]
          exact impl_marked data hd hB _ hm t h2 (t + 1) q p [] none (by omega) (fun o e => by cases e) (by simp only [List.length_nil]; omega) (by omega)
        have hin : ∀ s ∈ spP data f t, s.1 ≤ s.2 ∧ s.2 ≤ data.length := fun s hs => by
          have := spansP_in data (oneP data f t).2 t 0 (t + 1) _ [] none (by simp) (fun o e => by cases e) (Nat.zero_le _) s hs
          omega
        have hln : (spP data f t).length ≤ 1048580 := by
          have := spansP_len data (oneP data f t).2 t (t + 1) ((oneP data f t).1.f3).toNat [] none
          unfold spP
          simp only [List.length_nil] at this
          omega
        rw [if_pos ⟨c2.1, rfl, c2.2⟩, if_pos ⟨c2.1, by omega, c2.2⟩, hsp, Option.bind_some, List.length_map, hnl, show wrap64 (((l.length + 1 : Nat) : Int) - 1) = (l.length : Int) by rw [wrap64_in (by omega)]; omega]
        have := impl_kids data (addP data (d + 1)) (spP data f t) hln (2 - ((d + 1 : Nat) : Int)) l.length M0 (fun l2 s n k hs hl8 hk2 => by
          rw [show wrap64 (2 - ((d + 1 : Nat) : Int) + 1) = 2 - (d : Int) by rw [wrap64_in (by omega)]; omega]
          exact ih l2 s.1 s.2 l.length n k (by omega) hl8 (hin s hs).1 (hin s hs).2 hk2) (fun l a b u n h => addP_len data (d + 1) l a b u n h) (spP data f t).length 0 q (nowP data l f t u n) (by omega) (by omega) (by omega)
        rw [List.drop_zero] at this
        exact this
      · rw [if_neg (fun z => c2 ⟨z.1, z.2.2⟩), if_neg (fun z => c2 ⟨z.1, z.2.2⟩)]
    · rw [if_neg c, impl_parser_part.f, if_pos (by omega)]
def allP (data : List Int) : List S23 := addP data 3 [] 0 data.length (-1) 0
def fuelP (d : Nat) : Nat := 9000011 + 4194304 * d
theorem parts_both (data : List Int) (hd : data.length ≤ 1048576) (hB : ∀ x ∈ data, 0 ≤ x ∧ x ≤ 255) (k : Nat) (hk : fuelP 3 < k) : spec_l5Parse.f k data = some (allP data) ∧ impl_partsOf.f k data = some (allP data) := by
  have f0 : ∀ d, 9000010 < fuelP d := fun d => by unfold fuelP; omega
  have f1 : ∀ d, fuelP d + 4194304 ≤ fuelP (d + 1) := fun d => by unfold fuelP; omega
  have a1 := spec_add fuelP (fun d => by have := f0 d; omega) f1 data hd hB 2 [] 0 data.length (-1) 0 k (by omega) (by decide) (Nat.zero_le _) (Nat.le_refl _) (by have h_ : fuelP 2 + 4194304 ≤ fuelP 3 := f1 2; omega)
  have a2 := impl_add fuelP f0 f1 data hd hB 2 [] 0 data.length (-1) 0 k (by omega) (by decide) (Nat.zero_le _) (Nat.le_refl _) hk
  rw [if_pos (by decide)] at a2
  unfold spec_l5Parse.f impl_partsOf.f impl_length_byte.f
  rw [Option.bind_some]
  exact ⟨by rw [show (1 : Int) = 3 - ((2 : Nat) : Int) from rfl]; exact (congrArg (fun z => Option.bind z _) a1).trans rfl, (congrArg (fun z => Option.bind z _) a2).trans rfl⟩
theorem allP_len (data : List Int) : (allP data).length ≤ 8 := addP_len data 3 [] 0 data.length (-1) 0 (by decide)
theorem lt_of_at {α : Type} {L : List α} {i : Nat} {x : α} (h : L[i]? = some x) : i < L.length := (List.getElem?_eq_some_iff.1 h).1
def hitP (a n : Int) (x : S23) : Prop := x.f5 = a ∧ x.f6 = n
instance (a n : Int) (x : S23) : Decidable (hitP a n x) := inferInstanceAs (Decidable (x.f5 = a ∧ x.f6 = n))
def ixP (a n : Int) : List S23 → Nat → Int
  | [], _ => -1
  | x :: xs, i => if hitP a n x then (i : Int) else ixP a n xs (i + 1)
theorem rdP_drop2 (L : List S23) (j : Nat) (h : j < L.length) : rd_T23 L (j : Int) = L[j] := by
  unfold rd_T23
  rw [Int.toNat_natCast, List.getD_eq_getElem?_getD, List.getElem?_eq_getElem h]
  rfl
theorem ix_l0 (L : List S23) (hL : L.length ≤ 1000) (a n : Int) : ∀ (m j k : Nat), L.length = j + m → m < k → impl_Part_54.l0 k L a n (j : Int) = some (ixP a n (L.drop j) j)
  | 0, j, k, h, hk => by
    obtain ⟨k, rfl⟩ : ∃ q, k = q + 1 := ⟨k - 1, by omega⟩
    rw [impl_Part_54.l0, if_neg (by omega), List.drop_eq_nil_of_le (by omega)]
    rfl
  | m + 1, j, k, h, hk => by
    obtain ⟨k, rfl⟩ : ∃ q, k = q + 1 := ⟨k - 1, by omega⟩
    have hj : j < L.length := by omega
    rw [impl_Part_54.l0, if_pos (by omega), if_pos (by omega), rdP_drop2 L j hj, wrap_succ j (by omega), ix_l0 L hL a n m (j + 1) k (by omega) (by omega), List.drop_eq_getElem_cons hj, ixP]
    by_cases c : L[j].f5 = a
    · rw [if_pos c]
      by_cases d : L[j].f6 = n
      · rw [if_pos d, if_pos ⟨c, d⟩]
      · rw [if_neg d, if_neg (fun q => d q.2)]
    · rw [if_neg c, if_neg (fun q => c q.1)]
theorem impl_ix (L : List S23) (hL : L.length ≤ 1000) (a n : Int) (k : Nat) (hk : L.length < k) : impl_Part_54.f k L a n = some (ixP a n L 0) := ix_l0 L hL a n L.length 0 k (by omega) hk
def atP (L : List S23) : List Int → Int → Int
  | [], p => p
  | n :: ns, p => if ixP p n L 0 < 0 then -1 else atP L ns (ixP p n L 0)
theorem atI_l0 (L : List S23) (hL : L.length ≤ 1000) (path : List Int) (hp : path.length ≤ 1048576) : ∀ (m i k : Nat) (p : Int), path.length = i + m → 1100 + m < k → 0 ≤ p → impl_PartAt.l0 k L path (path.length : Int) (i : Int) p = some (if atP L (path.drop i) p < 0 then (4, 0) else (0, atP L (path.drop i) p))
  | 0, i, k, p, h, hk, h0 => by
    obtain ⟨k, rfl⟩ : ∃ q, k = q + 1 := ⟨k - 1, by omega⟩
    rw [impl_PartAt.l0, if_neg (by omega), List.drop_eq_nil_of_le (by omega), atP, if_neg (by omega)]
  | m + 1, i, k, p, h, hk, h0 => by
    obtain ⟨k, rfl⟩ : ∃ q, k = q + 1 := ⟨k - 1, by omega⟩
    have hlt : i < path.length := by omega
    rw [impl_PartAt.l0, if_pos (by omega), if_pos (by omega), if_pos (by omega), rd_at path i hlt, impl_ix L hL p path[i] k (by omega), Option.bind_some, List.drop_eq_getElem_cons hlt, atP]
    by_cases c : ixP p path[i] L 0 < 0
    · rw [if_pos c, if_pos c, if_pos (by decide)]
    · rw [if_neg c, if_neg c, wrap_succ i (by omega)]
      exact atI_l0 L hL path hp m (i + 1) k _ (by omega) (by omega) (by omega)
theorem rdL_at (l : List (List Int)) (i : Nat) (h : i < l.length) : rd_L5 l (i : Int) = l[i] := by
  simp [rd_L5, List.getD_eq_getElem?_getD, h]
def sumL (l : List (List Int)) : Nat := (l.map List.length).sum
theorem sumL_drop (l : List (List Int)) (i : Nat) (h : i < l.length) : sumL (l.drop i) = l[i].length + sumL (l.drop (i + 1)) := by
  unfold sumL
  rw [List.drop_eq_getElem_cons h, List.map_cons, List.sum_cons]
theorem mem_sumL : ∀ (l : List (List Int)) (x : List Int), x ∈ l → x.length ≤ sumL l
  | [], _, h => by cases h
  | y :: r, x, h => by
    have e : sumL (y :: r) = y.length + sumL r := by simp [sumL]
    rcases List.mem_cons.1 h with rfl | h
    · omega
    · have := mem_sumL r x h
      omega
def midB (a : ByteArray) : List Int := bytesOf (((⟨#[45, 45]⟩ : ByteArray) ++ a) ++ (⟨#[10]⟩ : ByteArray))
def finB (a : ByteArray) : List Int := bytesOf (((⟨#[45, 45]⟩ : ByteArray) ++ a) ++ (⟨#[45, 45, 10]⟩ : ByteArray))
def buildo (a : ByteArray) : List (List Int) → List Int → List Int
  | [], acc => acc ++ finB a
  | x :: r, acc => buildo a r (((acc ++ midB a) ++ x) ++ [10])
theorem sz_mid (a : ByteArray) : (((⟨#[45, 45]⟩ : ByteArray) ++ a) ++ (⟨#[10]⟩ : ByteArray)).size = a.size + 3 := by
  rw [ByteArray.size_append, ByteArray.size_append, show (⟨#[45, 45]⟩ : ByteArray).size = 2 from rfl, show (⟨#[10]⟩ : ByteArray).size = 1 from rfl]; omega
theorem sz_fin (a : ByteArray) : (((⟨#[45, 45]⟩ : ByteArray) ++ a) ++ (⟨#[45, 45, 10]⟩ : ByteArray)).size = a.size + 5 := by
  rw [ByteArray.size_append, ByteArray.size_append, show (⟨#[45, 45]⟩ : ByteArray).size = 2 from rfl, show (⟨#[45, 45, 10]⟩ : ByteArray).size = 3 from rfl]; omega
theorem sz_two (a : ByteArray) : ((⟨#[45, 45]⟩ : ByteArray) ++ a).size = a.size + 2 := by
  rw [ByteArray.size_append, show (⟨#[45, 45]⟩ : ByteArray).size = 2 from rfl]; omega
theorem len_mid (a : ByteArray) : (midB a).length = a.size + 3 := by rw [midB, bytesOf_len, sz_mid]
theorem len_fin (a : ByteArray) : (finB a).length = a.size + 5 := by rw [finB, bytesOf_len, sz_fin]
theorem spec_l5Build.l0_eq (a : ByteArray) (ha : a.size ≤ 1048576) (l : List (List Int)) (hl : l.length ≤ 1048576) : ∀ (n k i : Nat) (acc : List Int), l.length = i + n → n < k → acc.length + sumL (l.drop i) + (n + 1) * 2000000 ≤ 17592186044416 → spec_l5Build.l0 k a l acc (i : Int) = some (buildo a (l.drop i) acc)
  | _, 0, _, _, _, h, _ => absurd h (by omega)
  | 0, k + 1, i, acc, hi, _, hb => by
    rw [spec_l5Build.l0, if_neg (by omega), if_pos (by omega), sz_two, if_pos (by omega), sz_fin, if_pos (by omega), Option.bind_some, List.drop_eq_nil_of_le (by omega), buildo]
    show (if acc.length + (finB a).length < 140737488355328 then some (acc ++ finB a) else none) = _
    rw [len_fin, if_pos (by omega)]
  | n + 1, k + 1, i, acc, hi, h, hb => by
    have hlt : i < l.length := by omega
    have w1 : wrap64 ((i : Int) + 1) = ((i + 1 : Nat) : Int) := by rw [wrap64_in (by omega)]; omega
    have hd := sumL_drop l i hlt
    have e1 : ((acc ++ midB a) ++ l[i] ++ [10]).length = acc.length + (a.size + 3) + l[i].length + 1 := by simp [len_mid]; omega
    have e2 : (acc ++ midB a).length = acc.length + (a.size + 3) := by simp [len_mid]
    have e3 : ((acc ++ midB a) ++ l[i]).length = acc.length + (a.size + 3) + l[i].length := by simp [len_mid]; omega
    have ih := spec_l5Build.l0_eq a ha l hl n k (i + 1) (((acc ++ midB a) ++ l[i]) ++ [10]) (by omega) (by omega) (by rw [e1]; omega)
    rw [spec_l5Build.l0, if_pos (by omega), if_pos (by omega), sz_two, if_pos (by omega), sz_mid, if_pos (by omega), Option.bind_some, rdL_at l i hlt, w1]
    show (if acc.length + (midB a).length < 140737488355328 then (some (acc ++ midB a)).bind fun y113 => (if (0 : Int) ≤ (i : Int) then (if y113.length + l[i].length < 140737488355328 then ((some (y113 ++ l[i] : List Int)).bind fun y117 => ((some (([10] : List Int) : List Int)).bind fun y120 => (if y117.length + y120.length < 140737488355328 then (spec_l5Build.l0 k a l (y117 ++ y120) ((i + 1 : Nat) : Int)) else (none)))) else (none)) else (none)) else none) = _
    rw [len_mid, if_pos (by omega), Option.bind_some, if_pos (by omega), e2, if_pos (by omega), Option.bind_some, Option.bind_some, e3, if_pos (by simp; omega), ih, List.drop_eq_getElem_cons hlt, buildo]
def headB (a : ByteArray) : List Int := bytesOf (((⟨#[67, 111, 110, 116, 101, 110, 116, 45, 84, 121, 112, 101, 58, 32, 109, 117, 108, 116, 105, 112, 97, 114, 116, 47, 109, 105, 120, 101, 100, 59, 32, 98, 111, 117, 110, 100, 97, 114, 121, 61]⟩ : ByteArray) ++ a) ++ (⟨#[10, 10]⟩ : ByteArray))
theorem sz_head0 (a : ByteArray) : ((⟨#[67, 111, 110, 116, 101, 110, 116, 45, 84, 121, 112, 101, 58, 32, 109, 117, 108, 116, 105, 112, 97, 114, 116, 47, 109, 105, 120, 101, 100, 59, 32, 98, 111, 117, 110, 100, 97, 114, 121, 61]⟩ : ByteArray) ++ a).size = a.size + 40 := by
  rw [ByteArray.size_append, show (⟨#[67, 111, 110, 116, 101, 110, 116, 45, 84, 121, 112, 101, 58, 32, 109, 117, 108, 116, 105, 112, 97, 114, 116, 47, 109, 105, 120, 101, 100, 59, 32, 98, 111, 117, 110, 100, 97, 114, 121, 61]⟩ : ByteArray).size = 40 from rfl]; omega
theorem sz_head (a : ByteArray) : (((⟨#[67, 111, 110, 116, 101, 110, 116, 45, 84, 121, 112, 101, 58, 32, 109, 117, 108, 116, 105, 112, 97, 114, 116, 47, 109, 105, 120, 101, 100, 59, 32, 98, 111, 117, 110, 100, 97, 114, 121, 61]⟩ : ByteArray) ++ a) ++ (⟨#[10, 10]⟩ : ByteArray)).size = a.size + 42 := by
  rw [ByteArray.size_append, sz_head0, show (⟨#[10, 10]⟩ : ByteArray).size = 2 from rfl]
theorem len_head (a : ByteArray) : (headB a).length = a.size + 42 := by rw [headB, bytesOf_len, sz_head]
theorem spec_l5Build_eq (a : ByteArray) (ha : a.size ≤ 1048576) (l : List (List Int)) (hl : l.length + sumL l ≤ 1048576) (k : Nat) (hk : 1048576 < k) : spec_l5Build.f k a l = some (buildo a l (headB a)) := by
  unfold spec_l5Build.f
  rw [sz_head0, sz_head, if_pos (by omega), if_pos (by omega), if_pos (by omega)]
  have := spec_l5Build.l0_eq a ha l (by omega) l.length k 0 (headB a) (by omega) (by omega) (by rw [List.drop_zero, len_head]; omega)
  rw [List.drop_zero] at this
  exact this
theorem byte_inj : ∀ (t u : List Int), (∀ x ∈ t, 0 ≤ x ∧ x ≤ 255) → (∀ x ∈ u, 0 ≤ x ∧ x ≤ 255) → (t.map (fun n => UInt8.ofNat n.toNat) = u.map (fun n => UInt8.ofNat n.toNat) ↔ t = u)
  | [], [], _, _ => by simp
  | [], _ :: _, _, _ => by simp
  | _ :: _, [], _, _ => by simp
  | x :: xs, y :: ys, ht, hu => by
    have h1 := ht x (by simp)
    have h2 := hu y (by simp)
    have ih := byte_inj xs ys (fun z hz => ht z (by simp [hz])) (fun z hz => hu z (by simp [hz]))
    rw [List.map_cons, List.map_cons, List.cons.injEq, List.cons.injEq, ih]
    have e : UInt8.ofNat x.toNat = UInt8.ofNat y.toNat ↔ x = y := by
      constructor
      · intro h
        have := congrArg UInt8.toNat h
        rw [UInt8.toNat_ofNat', UInt8.toNat_ofNat'] at this
        omega
      · rintro rfl; rfl
    rw [e]
theorem bytes_Equal_eq (t u : List Int) (ht : ∀ x ∈ t, 0 ≤ x ∧ x ≤ 255) (hu : ∀ x ∈ u, 0 ≤ x ∧ x ≤ 255) : bytes_Equal.f t u = some (decide (t = u)) := by
  unfold bytes_Equal.f
  rw [Go.ByteArray.toList_eq, Go.ByteArray.toList_eq]
  congr 1
  rw [Bool.eq_iff_iff, beq_iff_eq, decide_eq_true_eq]
  exact byte_inj t u ht hu
def dd : List Int → Bool
  | [] => false
  | x :: r => (decide (x = 10) && (decide (r.head? = some 45) && decide (r.tail.head? = some 45))) || dd r
def dP : Int → List Int → Bool
  | _, [] => false
  | p, x :: r => (decide (p = 10) && (decide (x = 45) && decide (r.head? = some 45))) || dP x r
theorem dP_dd : ∀ (l : List Int) (p : Int), dP p l = dd (p :: l)
  | [], p => by simp [dP, dd]
  | x :: r, p => by
    rw [dP, dP_dd r x]
    conv => rhs; rw [dd]
    have e : decide ((x :: r).head? = some 45) = decide (x = 45) := by rw [Bool.eq_iff_iff]; simp
    rw [e]
    rfl
def pre2 (l : List Int) : Bool := decide (l.head? = some 45) && decide (l.tail.head? = some 45)
theorem dP_split (l : List Int) : dP 10 l = (pre2 l || dd l) := by
  rw [dP_dd, dd]; simp [pre2]
theorem u8n (x : Int) (c : Int) (hx : 0 ≤ x ∧ x ≤ 255) (hc : 0 ≤ c ∧ c ≤ 255) : (c.toNat.toUInt8 == UInt8.ofNat x.toNat) = decide (x = c) := by
  rw [← u8_eq x c hx hc, Bool.eq_iff_iff, beq_iff_eq, beq_iff_eq]
  exact ⟨fun e => e.symm, fun e => e.symm⟩
theorem pref1 (r : List Int) (c : Int) (q : List UInt8) (hc : 0 ≤ c ∧ c ≤ 255) (h : ∀ x ∈ r, 0 ≤ x ∧ x ≤ 255) : (c.toNat.toUInt8 :: q).isPrefixOf (Lib.bytesOf r) = (decide (r.head? = some c) && q.isPrefixOf (Lib.bytesOf r.tail)) := by
  cases r with
  | nil => simp [Lib.bytesOf, List.isPrefixOf]
  | cons y t =>
    show (c.toNat.toUInt8 == UInt8.ofNat y.toNat && q.isPrefixOf (Lib.bytesOf t)) = _
    rw [u8n y c (h y (by simp)) hc]
    simp
theorem contains_dd : ∀ (L : List Int), (∀ x ∈ L, 0 ≤ x ∧ x ≤ 255) → Lib.contains (Lib.bytesOf L) (Lib.bytesOf [10, 45, 45]) = dd L
  | [], _ => rfl
  | x :: r, h => by
    have hr : ∀ y ∈ r, 0 ≤ y ∧ y ≤ 255 := fun y hy => h y (List.mem_cons_of_mem _ hy)
    have ih := contains_dd r hr
    have hb : Lib.bytesOf (x :: r) = UInt8.ofNat x.toNat :: Lib.bytesOf r := rfl
    have hp : (Lib.bytesOf [10, 45, 45]).isPrefixOf (UInt8.ofNat x.toNat :: Lib.bytesOf r) = (decide (x = 10) && (decide (r.head? = some 45) && decide (r.tail.head? = some 45))) := by
      show ((10 : Int).toNat.toUInt8 == UInt8.ofNat x.toNat && ((45 : Int).toNat.toUInt8 :: [(45 : Int).toNat.toUInt8]).isPrefixOf (Lib.bytesOf r)) = _
      rw [u8n x 10 (h x (by simp)) (by omega), pref1 r 45 _ (by omega) hr, pref1 r.tail 45 [] (by omega) (fun y hy => hr y (List.mem_of_mem_tail hy))]
      simp [List.isPrefixOf]
    unfold Lib.contains at ih ⊢
    have hge := Lib.index_ge (Lib.bytesOf r) (Lib.bytesOf [10, 45, 45])
    rw [hb, Lib.index, hp, dd, ← ih]
    cases (decide (x = 10) && (decide (r.head? = some 45) && decide (r.tail.head? = some 45))) with
    | true => rfl
    | false =>
      rw [if_neg (by simp), Bool.false_or]
      by_cases c : Lib.index (Lib.bytesOf r) (Lib.bytesOf [10, 45, 45]) = -1
      · rw [c]; rfl
      · rw [if_neg (by simpa using c)]
        congr 1
        apply propext
        omega
theorem bytes_HasPrefix_eq (l : List Int) (h : ∀ x ∈ l, 0 ≤ x ∧ x ≤ 255) : bytes_HasPrefix.f l [45, 45] = some (pre2 l) := by
  unfold bytes_HasPrefix.f
  match l, h with
  | [], _ => rfl
  | [x], _ => simp [pre2]
  | x :: y :: r, h =>
    have h1 : ((x :: y :: r).length : Int) ≥ (([45, 45] : List Int).length : Int) := by simp; omega
    rw [if_pos h1, if_pos (by simp), if_pos (by simp; omega)]
    show (bytes_Equal.f [x, y] [45, 45]).bind _ = _
    rw [bytes_Equal_eq [x, y] [45, 45] (fun z hz => h z (by simp at hz ⊢; omega)) (by simp), Option.bind_some]
    simp [pre2]
theorem bytes_Contains_eq (l : List Int) (hl : l.length ≤ 1048576) (h : ∀ x ∈ l, 0 ≤ x ∧ x ≤ 255) : bytes_Contains.f l [10, 45, 45] = some (dd l) := by
  unfold bytes_Contains.f
  rw [if_pos, contains_dd l h]
  refine ⟨by simp, by simp, by omega, ?_, by decide⟩
  rw [List.all_eq_true]
  intro x hx
  have := h x hx
  simp
  omega
def prevc (x : List Int) (i : Nat) : Int := if i = 0 then 10 else x.getD (i - 1) 0
theorem spec_l5Dashes.l0_eq (x : List Int) (hl : x.length ≤ 1048576) : ∀ (n k i : Nat), x.length = i + n → n < k → spec_l5Dashes.l0 k x (i : Int) = some (dP (prevc x i) (x.drop i))
  | _, 0, _, _, h => absurd h (by omega)
  | 0, k + 1, i, hi, _ => by
    have w1 : wrap64 ((i : Int) + 1) = ((i + 1 : Nat) : Int) := by rw [wrap64_in (by omega)]; omega
    rw [spec_l5Dashes.l0, w1, if_neg (by omega), List.drop_eq_nil_of_le (by omega), dP]
  | 1, k + 1, i, hi, _ => by
    have w1 : wrap64 ((i : Int) + 1) = ((i + 1 : Nat) : Int) := by rw [wrap64_in (by omega)]; omega
    have hlt : i < x.length := by omega
    rw [spec_l5Dashes.l0, w1, if_neg (by omega), List.drop_eq_getElem_cons hlt, List.drop_eq_nil_of_le (by omega)]
    simp [dP]
  | n + 2, k + 1, i, hi, h => by
    have w1 : wrap64 ((i : Int) + 1) = ((i + 1 : Nat) : Int) := by rw [wrap64_in (by omega)]; omega
    have hlt : i < x.length := by omega
    have hlt2 : i + 1 < x.length := by omega
    have ih := spec_l5Dashes.l0_eq x hl (n + 1) k (i + 1) (by omega) (by omega)
    have hpc : prevc x (i + 1) = x[i] := by simp [prevc, List.getD_eq_getElem?_getD, hlt]
    have hd : dP (prevc x i) (x.drop i) = ((decide (prevc x i = 10) && (decide (x[i] = 45) && decide (x[i + 1] = 45))) || dP (prevc x (i + 1)) (x.drop (i + 1))) := by
      have e : decide ((x.drop (i + 1)).head? = some 45) = decide (x[i + 1] = 45) := by rw [Bool.eq_iff_iff]; simp [List.head?_drop, hlt2]
      rw [hpc, List.drop_eq_getElem_cons hlt]
      show ((decide (prevc x i = 10) && (decide (x[i] = 45) && decide ((x.drop (i + 1)).head? = some 45))) || dP x[i] (x.drop (i + 1))) = _
      rw [e]
    rw [spec_l5Dashes.l0, w1, if_pos (by omega), if_pos (by omega), if_pos (by omega), rd_at x i hlt, rd_at x (i + 1) hlt2, ih, hd]
    by_cases c : x[i] = 45
    · rw [if_pos c, if_pos (by omega)]
      by_cases d : x[i + 1] = 45
      · rw [if_pos d]
        by_cases e : (i : Int) = 0
        · rw [if_pos e]
          have : i = 0 := by omega
          simp [prevc, this, c, d] at *
          simp [c, d]
        · have w2 : wrap64 ((i : Int) - 1) = ((i - 1 : Nat) : Int) := by rw [wrap64_in (by omega)]; omega
          have hp2 : prevc x i = x[i - 1] := by
            have : i ≠ 0 := by omega
            simp [prevc, this, List.getD_eq_getElem?_getD, show i - 1 < x.length by omega]
          rw [if_neg e, w2, if_pos (by omega), if_pos (by omega), rd_at x (i - 1) (by omega), hp2]
          by_cases g : x[i - 1] = 10
          · rw [if_pos g]; simp [g, c, d]
          · rw [if_neg g]; simp [g]
      · rw [if_neg d]; simp [d]
    · rw [if_neg c]; simp [c]
theorem spec_l5Dashes_eq (x : List Int) (hl : x.length ≤ 1048576) (k : Nat) (hk : 1048576 < k) : spec_l5Dashes.f k x = some (dP 10 x) := by
  unfold spec_l5Dashes.f
  have := spec_l5Dashes.l0_eq x hl x.length k 0 (by omega) (by omega)
  simpa [prevc] using this
theorem mark_l0 (a : ByteArray) (hl : a.size ≤ 1048576) : ∀ (n k i : Nat), a.size = i + n → n < k → ∃ b, spec_l5Mark.l0 k a (i : Int) = some b ∧ impl_isSmallWord.l0 k a 20 (a.size : Int) (i : Int) = some b
  | _, 0, _, _, h => absurd h (by omega)
  | 0, k + 1, i, hi, _ => by
    rw [spec_l5Mark.l0, impl_isSmallWord.l0, if_neg (by omega), if_neg (by omega), in_eq, Option.bind_some]
    refine ⟨_, rfl, ?_⟩
    by_cases c : (a.size : Int) ≥ 1
    · rw [if_pos c]; simp; omega
    · rw [if_neg c]; simp; omega
  | n + 1, k + 1, i, hi, h => by
    have w1 : wrap64 ((i : Int) + 1) = ((i + 1 : Nat) : Int) := by rw [wrap64_in (by omega)]; omega
    have h1 : (i : Int) < (a.size : Int) := by omega
    have h2 : (0 : Int) ≤ (i : Int) := by omega
    simp only [spec_l5Mark.l0, impl_isSmallWord.l0, if_pos h1, if_pos h2, w1]
    by_cases c : bt a (i : Int) < 97
    · rw [if_pos c, if_pos c]; exact ⟨false, rfl, rfl⟩
    · rw [if_neg c, if_neg c]
      by_cases d : bt a (i : Int) > 122
      · rw [if_pos d, if_pos d]; exact ⟨false, rfl, rfl⟩
      · rw [if_neg d, if_neg d]; exact mark_l0 a hl n k (i + 1) (by omega) (by omega)
theorem mark_eq (a : ByteArray) (hl : a.size ≤ 1048576) (k : Nat) (hk : 1048576 < k) : ∃ b, spec_l5Mark.f k a = some b ∧ impl_isSmallWord.f k a 20 = some b := by
  unfold spec_l5Mark.f impl_isSmallWord.f
  exact mark_l0 a hl a.size k 0 (by omega) (by omega)
def cutO (o : List Int) : Int × List Int := if (o.length : Int) > 400 then (2, []) else (0, o)
def outB (a : ByteArray) (l : List (List Int)) : Int × List Int := if (l.any (dP 10)) = true then (1, []) else cutO (buildo a l (headB a))
theorem spec_BuildMulti.l0_eq (a : ByteArray) (ha : a.size ≤ 1048576) (l : List (List Int)) (hl : l.length + sumL l ≤ 1048576) : ∀ (n k i : Nat), l.length = i + n → n + 1048577 < k → spec_BuildMulti.l0 k a l (i : Int) = some (if ((l.drop i).any (dP 10)) = true then (1, []) else cutO (buildo a l (headB a)))
  | _, 0, _, _, h => absurd h (by omega)
  | 0, k + 1, i, hi, h => by
    rw [spec_BuildMulti.l0, if_neg (by omega), spec_l5Build_eq a ha l hl k (by omega), Option.bind_some, List.drop_eq_nil_of_le (by omega), List.any_nil]
    simp only [Bool.false_eq_true, if_false]
    unfold cutO
    split <;> rfl
  | n + 1, k + 1, i, hi, h => by
    have hlt : i < l.length := by omega
    have w1 : wrap64 ((i : Int) + 1) = ((i + 1 : Nat) : Int) := by rw [wrap64_in (by omega)]; omega
    have hx := mem_sumL l l[i] (List.getElem_mem hlt)
    rw [spec_BuildMulti.l0, if_pos (by omega), if_pos (by omega), rdL_at l i hlt, spec_l5Dashes_eq l[i] (by omega) k (by omega), Option.bind_some, w1, List.drop_eq_getElem_cons hlt, List.any_cons]
    by_cases c : dP 10 l[i] = true
    · rw [if_pos c, c]; rfl
    · rw [if_neg c, spec_BuildMulti.l0_eq a ha l hl n k (i + 1) (by omega) (by omega), Bool.eq_false_iff.2 c, Bool.false_or]
theorem impl_BuildMulti.l0_eq (a : ByteArray) (ha : a.size ≤ 1048576) (l : List (List Int)) (hl : l.length + sumL l ≤ 1048576) (hB : ∀ x ∈ l, ∀ y ∈ x, 0 ≤ y ∧ y ≤ 255) : ∀ (n k i : Nat) (acc : List Int), l.length = i + n → n < k → acc.length + sumL (l.drop i) + (n + 1) * 2000000 ≤ 17592186044416 → impl_BuildMulti.l0 k a acc l (l.length : Int) (i : Int) = some (if ((l.drop i).any (dP 10)) = true then (1, []) else cutO (buildo a (l.drop i) acc))
  | _, 0, _, _, _, h, _ => absurd h (by omega)
  | 0, k + 1, i, acc, hi, h, hb => by
    rw [impl_BuildMulti.l0, if_neg (by omega), if_pos (by omega), sz_two, if_pos (by omega), sz_fin, if_pos (by omega), Option.bind_some, List.drop_eq_nil_of_le (by omega), List.any_nil, buildo]
    simp only [Bool.false_eq_true, if_false]
    show (if ((acc ++ finB a).length : Int) > 400 then (some ((2 : Int), ([] : List Int))) else (some (0, acc ++ finB a))) = _
    unfold cutO
    split <;> rfl
  | n + 1, k + 1, i, acc, hi, h, hb => by
    have hlt : i < l.length := by omega
    have w1 : wrap64 ((i : Int) + 1) = ((i + 1 : Nat) : Int) := by rw [wrap64_in (by omega)]; omega
    have hx := mem_sumL l l[i] (List.getElem_mem hlt)
    have hby := hB l[i] (List.getElem_mem hlt)
    have hd := sumL_drop l i hlt
    have e1 : ((acc ++ midB a) ++ l[i] ++ [10]).length = acc.length + (a.size + 3) + l[i].length + 1 := by simp [len_mid]; omega
    have e2 : (acc ++ midB a).length = acc.length + (a.size + 3) := by simp [len_mid]
    have e3 : ((acc ++ midB a) ++ l[i]).length = acc.length + (a.size + 3) + l[i].length := by simp [len_mid]; omega
    have ih := impl_BuildMulti.l0_eq a ha l hl hB n k (i + 1) (((acc ++ midB a) ++ l[i]) ++ [10]) (by omega) (by omega) (by rw [e1]; omega)
    rw [impl_BuildMulti.l0, if_pos (by omega), if_pos (by omega), if_pos (by omega), rdL_at l i hlt, bytes_HasPrefix_eq l[i] hby, Option.bind_some, List.drop_eq_getElem_cons hlt, List.any_cons, dP_split]
    by_cases c : pre2 l[i] = true
    · rw [if_pos c, c]; rfl
    · rw [if_neg c, bytes_Contains_eq l[i] (by omega) hby, Option.bind_some, Bool.eq_false_iff.2 c, Bool.false_or]
      by_cases d : dd l[i] = true
      · rw [if_pos d, d]; rfl
      · rw [if_neg d, Bool.eq_false_iff.2 d, Bool.false_or, if_pos (by omega), sz_two, if_pos (by omega), sz_mid, if_pos (by omega), Option.bind_some, w1]
        show (if (acc ++ midB a).length + l[i].length < 140737488355328 then ((some ((acc ++ midB a) ++ l[i] : List Int)).bind fun y172 => (if y172.length < 140737488355328 then (impl_BuildMulti.l0 k a (y172 ++ [10]) l (l.length : Int) ((i + 1 : Nat) : Int)) else (none))) else (none)) = _
        rw [e2, if_pos (by omega), Option.bind_some, e3, if_pos (by omega), ih, buildo]
def resB (b : Bool) (a : ByteArray) (l : List (List Int)) : Int × List Int := if b = true then (if (l.length : Int) > 6 then (2, []) else outB a l) else (5, [])
theorem both2 (a : ByteArray) (ha : a.size ≤ 1048576) (l : List (List Int)) (hl : l.length + sumL l ≤ 1048576) (hB : ∀ x ∈ l, ∀ y ∈ x, 0 ≤ y ∧ y ≤ 255) (k : Nat) (hk : 2097153 < k) : ∃ b, impl_isSmallWord.f k a 20 = some b ∧ spec_BuildMulti.f k a l = some (resB b a l) ∧ impl_BuildMulti.f k a l = some (resB b a l) := by
  obtain ⟨b, h1, h2⟩ := mark_eq a ha k (by omega)
  refine ⟨b, h2, ?_⟩
  unfold spec_BuildMulti.f impl_BuildMulti.f resB
  rw [h1, h2, Option.bind_some, Option.bind_some]
  by_cases c : b = true
  · rw [if_pos c, if_pos c, if_pos c]
    by_cases d : (l.length : Int) > 6
    · rw [if_pos d, if_pos d, if_pos d]; exact ⟨rfl, rfl⟩
    · rw [if_neg d, if_neg d, if_neg d]
      refine ⟨?_, ?_⟩
      · have := spec_BuildMulti.l0_eq a ha l hl l.length k 0 (by omega) (by omega)
        rw [List.drop_zero] at this
        exact this
      · rw [sz_head0, sz_head, if_pos (by omega), if_pos (by omega), if_pos (by omega)]
        have := impl_BuildMulti.l0_eq a ha l hl hB l.length k 0 (headB a) (by omega) (by omega) (by rw [List.drop_zero, len_head]; omega)
        rw [List.drop_zero] at this
        exact this
  · rw [if_neg c, if_neg c, if_neg c]; exact ⟨rfl, rfl⟩
def impl_baseText.dg (v : Int) : Int := bt (⟨#[65, 66, 67, 68, 69, 70, 71, 72, 73, 74, 75, 76, 77, 78, 79, 80, 81, 82, 83, 84, 85, 86, 87, 88, 89, 90, 97, 98, 99, 100, 101, 102, 103, 104, 105, 106, 107, 108, 109, 110, 111, 112, 113, 114, 115, 116, 117, 118, 119, 120, 121, 122, 48, 49, 50, 51, 52, 53, 54, 55, 56, 57, 43, 47]⟩ : ByteArray) v
def impl_baseText.q : List Int → List Int
  | [] => []
  | [a] => [impl_baseText.dg (a / 4 % 64), impl_baseText.dg (a % 4 * 16), 61, 61]
  | [a, b] => [impl_baseText.dg (a / 4 % 64), impl_baseText.dg (a % 4 * 16 + b / 16), impl_baseText.dg (b % 16 * 4), 61]
  | a :: b :: c :: rest => impl_baseText.dg (a / 4 % 64) :: impl_baseText.dg (a % 4 * 16 + b / 16) :: impl_baseText.dg (b % 16 * 4 + c / 64) :: impl_baseText.dg (c % 64) :: impl_baseText.q rest
def impl_baseText.dk (n : Nat) (V : Int) (k : Nat) : Int := if n < k then 61 else impl_baseText.dg (V / 2 ^ (18 - 6 * k) % 64)
def impl_baseText.four (n : Nat) (V : Int) : List Int := [impl_baseText.dk n V 0, impl_baseText.dk n V 1, impl_baseText.dk n V 2, impl_baseText.dk n V 3]
theorem impl_baseText.bytes3 (l cs : List Int) (kk : Nat) (g0 g1 g2 : Int) (hall : l.all (fun x => decide (0 ≤ x ∧ x ≤ 255)) = true) (hc : cs = (l.drop kk).take 3)
    (hval : (cs = [g0] ∧ g1 = 0 ∧ g2 = 0) ∨ (cs = [g0, g1] ∧ g2 = 0) ∨ cs = [g0, g1, g2]) : (0 ≤ g0 ∧ g0 ≤ 255) ∧ (0 ≤ g1 ∧ g1 ≤ 255) ∧ (0 ≤ g2 ∧ g2 ≤ 255) := by
  have hm : ∀ x, x ∈ cs → 0 ≤ x ∧ x ≤ 255 := by
    intro x hx
    rw [hc] at hx
    have h1 := List.mem_of_mem_drop (List.mem_of_mem_take hx)
    exact of_decide_eq_true (List.all_eq_true.1 hall x h1)
  rcases hval with ⟨h, rfl, rfl⟩ | ⟨h, rfl⟩ | h
  · exact ⟨hm g0 (by rw [h]; simp), by omega, by omega⟩
  · exact ⟨hm g0 (by rw [h]; simp), hm g1 (by rw [h]; simp), by omega⟩
  · exact ⟨hm g0 (by rw [h]; simp), hm g1 (by rw [h]; simp), hm g2 (by rw [h]; simp)⟩
theorem impl_baseText.q_step (l cs : List Int) (kk : Nat) (g0 g1 g2 : Int) (hall : l.all (fun x => decide (0 ≤ x ∧ x ≤ 255)) = true) (hc : cs = (l.drop kk).take 3)
    (hval : (cs = [g0] ∧ g1 = 0 ∧ g2 = 0) ∨ (cs = [g0, g1] ∧ g2 = 0) ∨ cs = [g0, g1, g2]) : impl_baseText.q (l.drop kk) = impl_baseText.four cs.length (g0 * 65536 + g1 * 256 + g2) ++ impl_baseText.q (l.drop (kk + 3)) := by
  obtain ⟨h0, h1, h2⟩ := impl_baseText.bytes3 l cs kk g0 g1 g2 hall hc hval
  rw [show l.drop (kk + 3) = (l.drop kk).drop 3 by rw [List.drop_drop]]
  generalize l.drop kk = m at hc
  have p0 : (2 : Int) ^ (18 - 6 * 0) = 262144 := by decide
  have p1 : (2 : Int) ^ (18 - 6 * 1) = 4096 := by decide
  have p2 : (2 : Int) ^ (18 - 6 * 2) = 64 := by decide
  have p3 : (2 : Int) ^ (18 - 6 * 3) = 1 := by decide
  match m, hc with
  | [], hc =>
    simp only [List.take_nil] at hc
    rcases hval with ⟨h, _⟩ | ⟨h, _⟩ | h <;> rw [hc] at h <;> cases h
  | [a], hc =>
    have hc' : cs = [a] := by rw [hc]; rfl
    rcases hval with ⟨h, rfl, rfl⟩ | ⟨h, _⟩ | h <;> rw [hc'] at h <;> cases h
    rw [hc']
    show [impl_baseText.dg (g0 / 4 % 64), impl_baseText.dg (g0 % 4 * 16), 61, 61] = [impl_baseText.dk 1 _ 0, impl_baseText.dk 1 _ 1, impl_baseText.dk 1 _ 2, impl_baseText.dk 1 _ 3] ++ impl_baseText.q []
    simp only [impl_baseText.dk, p0, p1, p2, p3, impl_baseText.q, List.append_nil]
    rw [if_neg (by omega), if_neg (by omega), if_pos (by omega), if_pos (by omega), show (g0 * 65536 + 0 * 256 + 0) / 262144 % 64 = g0 / 4 % 64 by omega, show (g0 * 65536 + 0 * 256 + 0) / 4096 % 64 = g0 % 4 * 16 by omega]
  | [a, b], hc =>
    have hc' : cs = [a, b] := by rw [hc]; rfl
    rcases hval with ⟨h, _⟩ | ⟨h, rfl⟩ | h <;> rw [hc'] at h <;> cases h
    rw [hc']
    show [impl_baseText.dg (g0 / 4 % 64), impl_baseText.dg (g0 % 4 * 16 + g1 / 16), impl_baseText.dg (g1 % 16 * 4), 61] = [impl_baseText.dk 2 _ 0, impl_baseText.dk 2 _ 1, impl_baseText.dk 2 _ 2, impl_baseText.dk 2 _ 3] ++ impl_baseText.q []
    simp only [impl_baseText.dk, p0, p1, p2, p3, impl_baseText.q, List.append_nil]
    rw [if_neg (by omega), if_neg (by omega), if_neg (by omega), if_pos (by omega), show (g0 * 65536 + g1 * 256 + 0) / 262144 % 64 = g0 / 4 % 64 by omega, show (g0 * 65536 + g1 * 256 + 0) / 4096 % 64 = g0 % 4 * 16 + g1 / 16 by omega, show (g0 * 65536 + g1 * 256 + 0) / 64 % 64 = g1 % 16 * 4 by omega]
  | a :: b :: c :: rest, hc =>
    have hc' : cs = [a, b, c] := by rw [hc]; rfl
    rcases hval with ⟨h, _⟩ | ⟨h, _⟩ | h <;> rw [hc'] at h <;> cases h
    rw [hc']
    show impl_baseText.dg (g0 / 4 % 64) :: impl_baseText.dg (g0 % 4 * 16 + g1 / 16) :: impl_baseText.dg (g1 % 16 * 4 + g2 / 64) :: impl_baseText.dg (g2 % 64) :: impl_baseText.q rest = [impl_baseText.dk 3 _ 0, impl_baseText.dk 3 _ 1, impl_baseText.dk 3 _ 2, impl_baseText.dk 3 _ 3] ++ impl_baseText.q rest
    simp only [impl_baseText.dk, p0, p1, p2, p3]
    rw [if_neg (by omega), if_neg (by omega), if_neg (by omega), if_neg (by omega), show (g0 * 65536 + g1 * 256 + g2) / 262144 % 64 = g0 / 4 % 64 by omega, show (g0 * 65536 + g1 * 256 + g2) / 4096 % 64 = g0 % 4 * 16 + g1 / 16 by omega, show (g0 * 65536 + g1 * 256 + g2) / 64 % 64 = g1 % 16 * 4 + g2 / 64 by omega, show (g0 * 65536 + g1 * 256 + g2) / 1 % 64 = g2 % 64 by omega]
    rfl
def Cyr (c : Int) : Prop := (0 ≤ c ∧ c ≤ 160) ∨ c = 173 ∨ c = 167 ∨ c = 8470 ∨ ((1025 ≤ c ∧ c ≤ 1119) ∧ c ≠ 1037 ∧ c ≠ 1104 ∧ c ≠ 1117)
instance (c : Int) : Decidable (Cyr c) := by unfold Cyr; infer_instance
def cyrV (c : Int) : Int := if (0 ≤ c ∧ c ≤ 160) ∨ c = 173 then c else if c = 167 then 253 else if c = 8470 then 240 else c - 864
theorem cyr (k : Nat) (c : Int) : ∃ v, spec_l2Cyrillic.f (k + 1) c = some v ∧ (v ≥ 0 ↔ Cyr c) ∧ (Cyr c → v = cyrV c) := by
  simp only [spec_l2Cyrillic.f, spec_l2Cyrillic.j0, in_eq, Option.bind_some, decide_eq_true_eq, beq_iff_eq, if_true]
  unfold wrap64 Cyr cyrV
  by_cases h1 : 0 ≤ c ∧ c ≤ 160
  · rw [if_pos h1, if_pos (Or.inl h1)]; refine ⟨c, rfl, ?_, fun _ => rfl⟩; omega
  · rw [if_neg h1]
    by_cases h2 : c = 173
    · rw [if_pos h2, if_pos (Or.inr h2)]; refine ⟨c, rfl, ?_, fun _ => rfl⟩; omega
    · rw [if_neg h2, if_neg (show ¬ ((0 ≤ c ∧ c ≤ 160) ∨ c = 173) by omega)]
      repeat' split
      all_goals refine ⟨_, rfl, ?_, ?_⟩
      all_goals omega
def hasB (a c : Int) : Bool := if a = 1 then decide (0 ≤ c ∧ c ≤ 127) else if a = 2 then decide (0 ≤ c ∧ c ≤ 255) else if a = 3 then decide (Cyr c) else true
theorem spec_l2Has_eq (k : Nat) (a c : Int) : spec_l2Has.f (k + 1) a c = some (hasB a c) := by
  obtain ⟨v, hv, hp, _⟩ := cyr k c
  simp only [spec_l2Has.f, in_eq, hv, Option.bind_some, hasB]
  repeat' split
  all_goals simp [hp]
def encB (a c : Int) : List Int :=
  if a = 1 ∨ a = 2 then [c % 256] else if a = 3 then [cyrV c % 256] else if a = 5 then [(wrap64 (Int.tdiv c 256)) % 256, (Int.tmod c 256) % 256]
  else if c < 128 then [c % 256] else if c < 2048 then [(wrap64 (192 + (wrap64 (Int.tdiv c 64)))) % 256, (wrap64 (128 + (Int.tmod c 64))) % 256]
  else [(wrap64 (224 + (wrap64 (Int.tdiv c 4096)))) % 256, (wrap64 (128 + (Int.tmod (wrap64 (Int.tdiv c 64)) 64))) % 256, (wrap64 (128 + (Int.tmod c 64))) % 256]
theorem encB_len (a c : Int) : (encB a c).length ≤ 3 := by
  unfold encB
  repeat' split
  all_goals simp
theorem flat_len (a : Int) : ∀ l : List Int, (l.flatMap (encB a)).length ≤ 3 * l.length
  | [] => by simp
  | x :: xs => by
    have h1 := flat_len a xs
    have h2 := encB_len a x
    rw [List.flatMap_cons, List.length_append, List.length_cons]
    omega
theorem spec_l2Bytes_eq (k : Nat) (a c : Int) (ha : 1 ≤ a ∧ a ≤ 5) (hh : hasB a c = true) : spec_l2Bytes.f (k + 2) a c = some (encB a c) := by
  obtain ⟨v, hv, _, hp⟩ := cyr k c
  unfold spec_l2Bytes.f encB
  have : a = 1 ∨ a = 2 ∨ a = 3 ∨ a = 4 ∨ a = 5 := by omega
  rcases this with rfl | rfl | rfl | rfl | rfl
  · simp [spec_l2Bytes.j0]
  · simp [spec_l2Bytes.j0]
  · have hc : Cyr c := by unfold hasB at hh; simpa using hh
    simp [spec_l2Bytes.j0, hv, hp hc]
  · simp [spec_l2Bytes.j0]
    repeat' split
    all_goals rfl
  · simp [spec_l2Bytes.j0]
def enco (a : Int) (acc l : List Int) : List Int × Int :=
  if l.all (hasB a) = true then (if 400 < (acc ++ l.flatMap (encB a)).length then ([], 2) else (acc ++ l.flatMap (encB a), 0)) else ([], 8)
theorem spec_l2Encode.l0_eq (a : Int) (ha : 1 ≤ a ∧ a ≤ 5) (L : List Int) (hb : L.length ≤ 1048576) : ∀ (n k i : Nat) (acc : List Int), L.length = i + n → n + 2 < k → acc.length + 3 * n ≤ 4194304 → spec_l2Encode.l0 k a L acc (i : Int) = some (enco a acc (L.drop i))
  | _, 0, _, _, _, h, _ => absurd h (by omega)
  | 0, k + 1, i, acc, hi, _, _ => by
    have h1 : ¬ ((i : Int) < (L.length : Int)) := by omega
    unfold spec_l2Encode.l0 enco
    rw [if_neg h1, List.drop_eq_nil_of_le (by omega)]
    simp only [List.all_nil, if_true, List.flatMap_nil, List.append_nil]
    by_cases h2 : 400 < acc.length
    · rw [if_pos (by omega), if_pos h2]
    · rw [if_neg (by omega), if_neg h2]
  | n + 1, k + 1, i, acc, hi, h, hc => by
    have h1 : (i : Int) < (L.length : Int) := by omega
    have h2 : (0 : Int) ≤ (i : Int) := by omega
    have h4 : wrap64 ((i : Int) + 1) = ((i + 1 : Nat) : Int) := by rw [wrap64_in (by omega)]; omega
    obtain ⟨k2, rfl⟩ : ∃ k2, k = k2 + 2 := ⟨k - 2, by omega⟩
    unfold spec_l2Encode.l0
    rw [if_pos h1, if_pos h2, rd_at L i (by omega), spec_l2Has_eq (k2 + 1), Option.bind_some, List.drop_eq_getElem_cons (by omega : i < L.length), h4]
    have hl := encB_len a L[i]
    cases hh : hasB a L[i] with
    | true =>
      rw [if_pos rfl, spec_l2Bytes_eq k2 a _ ha hh, Option.bind_some, if_pos (by omega), spec_l2Encode.l0_eq a ha L hb n (k2 + 2) (i + 1) _ (by omega) (by omega) (by rw [List.length_append]; omega)]
      unfold enco
      rw [List.all_cons, hh, Bool.true_and, List.flatMap_cons, List.append_assoc]
    | false =>
      rw [if_neg (by decide)]
      unfold enco
      rw [List.all_cons, hh, Bool.false_and, if_neg (by decide)]
theorem encB_bytes (a c : Int) : ∀ x ∈ encB a c, 0 ≤ x ∧ x ≤ 255 := by
  intro x hx
  unfold encB at hx
  repeat' split at hx
  all_goals simp only [List.mem_cons, List.mem_nil_iff, or_false] at hx
  all_goals omega
def plW (x : Int) : Bool := decide (32 ≤ x ∧ x ≤ 126)
def pairB : Int → List Int → Bool
  | _, [] => true
  | p, x :: r => plW x && !(decide (p = 61) && decide (x = 63)) && pairB x r
def has2 : List Int → Bool
  | [] => false
  | x :: r => (decide (x = 61) && decide (r.head? = some 63)) || has2 r
theorem pairB_eq : ∀ (l : List Int) (p : Int), pairB p l = (l.all plW && !(has2 (p :: l)))
  | [], p => by simp [pairB, has2]
  | x :: r, p => by
    rw [pairB, pairB_eq r x, List.all_cons]
    have h : has2 (p :: x :: r) = ((decide (p = 61) && decide (x = 63)) || has2 (x :: r)) := by
      conv => lhs; rw [has2]
      simp
    rw [h]
    cases plW x <;> cases (decide (p = 61) && decide (x = 63)) <;> cases r.all plW <;> cases has2 (x :: r) <;> rfl
theorem spec_l4Self.l0_eq (L : List Int) (hb : L.length ≤ 1048576) : ∀ (n k i : Nat), L.length = i + n → n < k → spec_l4Self.l0 k L (i : Int) = some (pairB (if i = 0 then 0 else rd L ((i - 1 : Nat) : Int)) (L.drop i))
  | _, 0, _, _, h => absurd h (by omega)
  | 0, k + 1, i, hi, _ => by
    have h1 : ¬ ((i : Int) < (L.length : Int)) := by omega
    rw [spec_l4Self.l0, if_neg h1, List.drop_eq_nil_of_le (by omega)]
    rfl
  | n + 1, k + 1, i, hi, h => by
    have hlt : i < L.length := by omega
    have h1 : (i : Int) < (L.length : Int) := by omega
    have h2 : (0 : Int) ≤ (i : Int) := by omega
    have ih := spec_l4Self.l0_eq L hb n k (i + 1) (by omega) (by omega)
    rw [if_neg (by omega), Nat.add_sub_cancel] at ih
    rw [spec_l4Self.l0, if_pos h1, if_pos h2, in_eq, Option.bind_some, List.drop_eq_getElem_cons hlt, pairB, ← rd_at L i hlt]
    have w1 : wrap64 ((i : Int) + 1) = ((i + 1 : Nat) : Int) := by rw [wrap64_in (by omega)]; omega
    rw [w1, ih]
    unfold plW
    by_cases c : 32 ≤ rd L (i : Int) ∧ rd L (i : Int) ≤ 126
    · rw [decide_eq_true c, if_pos rfl, Bool.true_and]
      by_cases g : i = 0
      · rw [if_neg (by omega), if_pos g]; rfl
      · have w2 : wrap64 ((i : Int) - 1) = ((i - 1 : Nat) : Int) := by rw [wrap64_in (by omega)]; omega
        have g1 : (i : Int) > 0 := by omega
        have g2 : (0 : Int) ≤ ((i - 1 : Nat) : Int) := by omega
        have g3 : ((i - 1 : Nat) : Int) < (L.length : Int) := by omega
        rw [w2, if_pos g1, if_pos g2, if_pos g3, if_neg g]
        by_cases e1 : rd L ((i - 1 : Nat) : Int) = 61 <;> by_cases e2 : rd L (i : Int) = 63 <;> simp [e1, e2]
    · rw [decide_eq_false c]; rfl
theorem spec_l4Self_eq (L : List Int) (hb : L.length ≤ 1048576) (k : Nat) (hk : L.length < k) : spec_l4Self.f k L = some (L.all plW && !(has2 L)) := by
  unfold spec_l4Self.f
  have := spec_l4Self.l0_eq L hb L.length k 0 (by omega) hk
  rw [show ((0 : Nat) : Int) = 0 from rfl, if_pos rfl, List.drop_zero, pairB_eq] at this
  rw [this]
  congr 3
theorem q_len : ∀ (n : Nat) (L : List Int), L.length ≤ n → (impl_baseText.q L).length ≤ 4 * L.length + 4 := by
  intro n
  induction n using Nat.strongRecOn with
  | _ n ih =>
    intro L h
    match L, h with
    | [], _ => simp [impl_baseText.q]
    | [a], _ => simp [impl_baseText.q]
    | [a, b], _ => simp [impl_baseText.q]
    | a :: b :: c :: r, h =>
      simp only [List.length_cons] at h
      have := ih r.length (by omega) r (Nat.le_refl _)
      simp only [impl_baseText.q, List.length_cons]
      omega
theorem flat_bytes (a : Int) (l : List Int) : ∀ x ∈ l.flatMap (encB a), 0 ≤ x ∧ x ≤ 255 := by
  intro x hx
  obtain ⟨c, _, hc⟩ := List.mem_flatMap.1 hx
  exact encB_bytes a c x hc
theorem flat_plain : ∀ (l : List Int), l.all plW = true → l.flatMap (encB 4) = l
  | [], _ => rfl
  | x :: r, h => by
    rw [List.all_cons, Bool.and_eq_true] at h
    have hx : 32 ≤ x ∧ x ≤ 126 := of_decide_eq_true h.1
    rw [List.flatMap_cons, flat_plain r h.2]
    have : encB 4 x = [x] := by
      unfold encB
      rw [if_neg (by decide), if_neg (by decide), if_neg (by decide), if_pos (by omega), show x % 256 = x by omega]
    rw [this]
    rfl
theorem spec_l1Base_eq (n : Int) (h : 0 ≤ n ∧ n < 64) : spec_l1Base.f n = some (impl_baseText.dg n) := by
  unfold spec_l1Base.f impl_baseText.dg
  rw [if_pos h.1, if_pos h.2]
theorem tdw (V d : Int) (hV : 0 ≤ V ∧ V ≤ 16777215) (hd : 0 < d) : wrap64 (Int.tdiv V d) = V / d := by
  rw [Int.tdiv_eq_ediv_of_nonneg hV.1, wrap64_in]
  have h1 := Int.ediv_nonneg hV.1 (by omega : 0 ≤ d)
  have h2 := Int.ediv_le_self d hV.1
  omega
theorem tdwm (V d : Int) (hV : 0 ≤ V ∧ V ≤ 16777215) (hd : 0 < d) : Int.tmod (wrap64 (Int.tdiv V d)) 64 = V / d % 64 := by
  rw [tdw V d hV hd, Int.tmod_eq_emod_of_nonneg (Int.ediv_nonneg hV.1 (by omega))]
theorem tm64 (V : Int) (hV : 0 ≤ V ∧ V ≤ 16777215) : Int.tmod V 64 = V % 64 := Int.tmod_eq_emod_of_nonneg hV.1
theorem mod64 (x : Int) : 0 ≤ x % 64 ∧ x % 64 < 64 := by omega
theorem w123 (i : Nat) (h : i ≤ 1048576) : wrap64 ((i : Int) + 1) = (i : Int) + 1 ∧ wrap64 ((i : Int) + 2) = (i : Int) + 2 ∧ wrap64 ((i : Int) + 3) = ((i + 3 : Nat) : Int) := by
  refine ⟨wrap64_in (by omega), wrap64_in (by omega), ?_⟩
  rw [wrap64_in (by omega)]
  omega
theorem spec_l1Encode.j2_eq (k : Nat) (L x3 : List Int) (i n : Nat) (V : Int) (hb : L.length ≤ 1048576) (hi : i < L.length) (hn : n = min (L.length - i) 3) (hV : 0 ≤ V ∧ V ≤ 16777215) (hx : x3.length + 4 < 140737488355328) :
    spec_l1Encode.j2 (k + 1) L x3 i V = spec_l1Encode.l0 k L (x3 ++ impl_baseText.four n V) ((i + 3 : Nat) : Int) := by
  have e1 := tdw V 262144 hV (by decide)
  have e2 := tdwm V 4096 hV (by decide)
  have e3 := tdwm V 64 hV (by decide)
  have e4 := tm64 V hV
  have v0 : 0 ≤ V / 262144 ∧ V / 262144 < 64 := by clear e1 e2 e3 e4 hx hn; omega
  have v1 := mod64 (V / 4096)
  have v2 := mod64 (V / 64)
  have v3 := mod64 V
  obtain ⟨w1, w2, w3⟩ := w123 i (by omega)
  have p0 : (2 : Int) ^ (18 - 6 * 0) = 262144 := by decide
  have p1 : (2 : Int) ^ (18 - 6 * 1) = 4096 := by decide
  have p2 : (2 : Int) ^ (18 - 6 * 2) = 64 := by decide
  have p3 : (2 : Int) ^ (18 - 6 * 3) = 1 := by decide
  have d0 : V / 262144 % 64 = V / 262144 := Int.emod_eq_of_lt v0.1 v0.2
  have d3 : V / 1 % 64 = V % 64 := by rw [Int.ediv_one]
  unfold spec_l1Encode.j2
  rw [e1, e2, e3, e4, w2, w1, w3, spec_l1Base_eq _ v0, spec_l1Base_eq _ v1, spec_l1Base_eq _ v2, spec_l1Base_eq _ v3]
  simp only [Option.bind_some]
  unfold impl_baseText.four impl_baseText.dk
  rw [p0, p1, p2, p3, d0, d3]
  clear e1 e2 e3 e4 w1 w2 w3 p0 p1 p2 p3 d0 d3 v0 v1 v2 v3 hV
  by_cases h2 : i + 2 < L.length
  · obtain rfl : n = 3 := by omega
    rw [if_neg (by omega), if_neg (by omega), if_pos (by simp; omega)]
    simp
  · by_cases h1 : i + 1 < L.length
    · obtain rfl : n = 2 := by omega
      rw [if_pos (by omega), if_pos (by simp), if_neg (by omega), if_pos (by simp; omega)]
      simp
    · obtain rfl : n = 1 := by omega
      rw [if_pos (by omega), if_pos (by simp), if_pos (by omega), if_pos (by simp), if_pos (by simp; omega)]
      simp
theorem spec_l1Encode.one (k : Nat) (L x3 : List Int) (i : Nat) (hb : L.length ≤ 1048576) (hB : ∀ x ∈ L, 0 ≤ x ∧ x ≤ 255) (hi : i < L.length) (hx : x3.length + 4 < 140737488355328) :
    ∃ four : List Int, impl_baseText.q (L.drop i) = four ++ impl_baseText.q (L.drop (i + 3)) ∧ four.length = 4 ∧ spec_l1Encode.l0 (k + 3) L x3 i = spec_l1Encode.l0 k L (x3 ++ four) ((i + 3 : Nat) : Int) := by
  have hall : L.all (fun x => decide (0 ≤ x ∧ x ≤ 255)) = true := by
    rw [List.all_eq_true]; intro x hx; exact decide_eq_true (hB x hx)
  have h1 : (i : Int) < (L.length : Int) := by omega
  have h2 : (0 : Int) ≤ (i : Int) := by omega
  have w2 : wrap64 ((i : Int) + 2) = ((i + 2 : Nat) : Int) := by rw [wrap64_in (by omega)]; omega
  have w1 : wrap64 ((i : Int) + 1) = ((i + 1 : Nat) : Int) := by rw [wrap64_in (by omega)]; omega
  have ha := hB L[i] (List.getElem_mem hi)
  have ra := rd_at L i hi
  have hd : L.drop i = L[i] :: L.drop (i + 1) := List.drop_eq_getElem_cons hi
  generalize L[i] = a at ha ra hd
  have wa : wrap64 a = a := wrap64_in (by omega)
  have wa2 : wrap64 (a * 65536) = a * 65536 := wrap64_in (by omega)
  by_cases h3 : i + 1 < L.length
  · have hb1 := hB L[i + 1] (List.getElem_mem h3)
    have rb := rd_at L (i + 1) h3
    have hd2 : L.drop (i + 1) = L[i + 1] :: L.drop (i + 2) := List.drop_eq_getElem_cons h3
    generalize L[i + 1] = b at hb1 rb hd2
    have wb : wrap64 b = b := wrap64_in (by omega)
    have wb2 : wrap64 (b * 256) = b * 256 := wrap64_in (by omega)
    have wab : wrap64 (a * 65536 + b * 256) = a * 65536 + b * 256 := wrap64_in (by omega)
    by_cases h4 : i + 2 < L.length
    · have hc1 := hB L[i + 2] (List.getElem_mem h4)
      have rc := rd_at L (i + 2) h4
      have hd3 : L.drop (i + 2) = L[i + 2] :: L.drop (i + 3) := List.drop_eq_getElem_cons h4
      generalize L[i + 2] = c at hc1 rc hd3
      have wc : wrap64 c = c := wrap64_in (by omega)
      have wabc : wrap64 (a * 65536 + b * 256 + c) = a * 65536 + b * 256 + c := wrap64_in (by omega)
      refine ⟨impl_baseText.four 3 (a * 65536 + b * 256 + c), ?_, rfl, ?_⟩
      · have := impl_baseText.q_step L [a, b, c] i a b c hall (by rw [hd, hd2, hd3]; rfl) (.inr (.inr rfl))
        simpa using this
      · conv => lhs; unfold spec_l1Encode.l0
        rw [if_pos h1, if_pos h2, w1, if_pos (by omega), if_pos (by omega), ra, rb, wa, wb, wa2, wb2, wab]
        unfold spec_l1Encode.j1
        rw [w2, if_pos (by omega), if_pos (by omega), rc, wc, wabc]
        exact spec_l1Encode.j2_eq k L x3 i 3 (a * 65536 + b * 256 + c) hb hi (by omega) (by omega) hx
    · refine ⟨impl_baseText.four 2 (a * 65536 + b * 256 + 0), ?_, rfl, ?_⟩
      · have hd3 : L.drop (i + 2) = [] := List.drop_eq_nil_of_le (by omega)
        have := impl_baseText.q_step L [a, b] i a b 0 hall (by rw [hd, hd2, hd3]; rfl) (.inr (.inl ⟨rfl, rfl⟩))
        simpa using this
      · conv => lhs; unfold spec_l1Encode.l0
        rw [if_pos h1, if_pos h2, w1, if_pos (by omega), if_pos (by omega), ra, rb, wa, wb, wa2, wb2, wab]
        unfold spec_l1Encode.j1
        rw [w2, if_neg (by omega), Int.add_zero]
        exact spec_l1Encode.j2_eq k L x3 i 2 (a * 65536 + b * 256) hb hi (by omega) (by omega) hx
  · refine ⟨impl_baseText.four 1 (a * 65536 + 0 * 256 + 0), ?_, rfl, ?_⟩
    · have hd3 : L.drop (i + 1) = [] := List.drop_eq_nil_of_le (by omega)
      have := impl_baseText.q_step L [a] i a 0 0 hall (by rw [hd, hd3]; rfl) (.inl ⟨rfl, rfl, rfl⟩)
      simpa using this
    · conv => lhs; unfold spec_l1Encode.l0
      rw [if_pos h1, if_pos h2, w1, if_neg (by omega), ra, wa, wa2]
      unfold spec_l1Encode.j1
      rw [w2, if_neg (by omega), show a * 65536 + 0 * 256 + 0 = a * 65536 by omega]
      exact spec_l1Encode.j2_eq k L x3 i 1 (a * 65536) hb hi (by omega) (by omega) hx
theorem spec_l1Encode.l0_eq (L : List Int) (hb : L.length ≤ 1048576) (hB : ∀ x ∈ L, 0 ≤ x ∧ x ≤ 255) : ∀ (n k i : Nat) (x3 : List Int), L.length ≤ i + n → L.length + 3 ≤ k + i → i ≤ L.length + 2 → x3.length ≤ 2 * i → spec_l1Encode.l0 k L x3 (i : Int) = some (strOfNums (x3 ++ impl_baseText.q (L.drop i))) := by
  intro n
  induction n using Nat.strongRecOn with
  | _ n ih =>
    intro k i x3 hn hk hi hx
    by_cases h : i < L.length
    · obtain ⟨k, rfl⟩ : ∃ m, k = m + 3 := ⟨k - 3, by omega⟩
      obtain ⟨four, h1, h2, h3⟩ := spec_l1Encode.one k L x3 i hb hB h (by omega)
      rw [h3, h1]
      rw [ih (n - 1) (by omega) k (i + 3) (x3 ++ four) (by omega) (by omega) (by omega) (by simp; omega), List.append_assoc]
    · obtain ⟨k, rfl⟩ : ∃ m, k = m + 1 := ⟨k - 1, by omega⟩
      have h1 : ¬ ((i : Int) < (L.length : Int)) := by omega
      unfold spec_l1Encode.l0
      rw [if_neg h1, List.drop_eq_nil_of_le (by omega)]
      simp [impl_baseText.q]
theorem spec_l1Encode_eq (L : List Int) (k : Nat) (hb : L.length ≤ 1048576) (hB : ∀ x ∈ L, 0 ≤ x ∧ x ≤ 255) (hk : L.length + 3 ≤ k) : spec_l1Encode.f k L = some (strOfNums (impl_baseText.q L)) := by
  unfold spec_l1Encode.f
  have := spec_l1Encode.l0_eq L hb hB L.length k 0 [] (by omega) (by omega) (by omega) (by simp)
  simpa using this
theorem q_plainA : ∀ n : Fin 64, 43 ≤ impl_baseText.dg (n.val : Int) ∧ impl_baseText.dg (n.val : Int) ≤ 122 ∧ impl_baseText.dg (n.val : Int) ≠ 63 := by decide +kernel
theorem dg_plain (n : Int) (h : 0 ≤ n ∧ n < 64) : 43 ≤ impl_baseText.dg n ∧ impl_baseText.dg n ≤ 122 ∧ impl_baseText.dg n ≠ 63 := by
  have := q_plainA ⟨n.toNat, by omega⟩
  rw [show ((⟨n.toNat, by omega⟩ : Fin 64).val : Int) = n from Int.toNat_of_nonneg h.1] at this
  exact this
theorem q_plain : ∀ (n : Nat) (L : List Int), L.length ≤ n → (∀ x ∈ L, 0 ≤ x ∧ x ≤ 255) → ∀ y ∈ impl_baseText.q L, 43 ≤ y ∧ y ≤ 122 ∧ y ≠ 63 := by
  intro n
  induction n using Nat.strongRecOn with
  | _ n ih =>
    intro L hn hb y hy
    match L, hn, hb, hy with
    | [], _, _, hy => simp [impl_baseText.q] at hy
    | [a], _, hb, hy =>
      have ha := hb a (by simp)
      simp only [impl_baseText.q, List.mem_cons, List.not_mem_nil, or_false] at hy
      rcases hy with rfl | rfl | rfl | rfl
      · exact dg_plain _ (by omega)
      · exact dg_plain _ (by omega)
      · decide
      · decide
    | [a, b], _, hb, hy =>
      have ha := hb a (by simp)
      have hb2 := hb b (by simp)
      simp only [impl_baseText.q, List.mem_cons, List.not_mem_nil, or_false] at hy
      rcases hy with rfl | rfl | rfl | rfl
      · exact dg_plain _ (by omega)
      · exact dg_plain _ (by omega)
      · exact dg_plain _ (by omega)
      · decide
    | a :: b :: c :: r, hn, hb, hy =>
      simp only [List.length_cons] at hn
      have ha := hb a (by simp)
      have hb2 := hb b (by simp)
      have hc := hb c (by simp)
      simp only [impl_baseText.q, List.mem_cons] at hy
      rcases hy with rfl | rfl | rfl | rfl | hy
      · exact dg_plain _ (by omega)
      · exact dg_plain _ (by omega)
      · exact dg_plain _ (by omega)
      · exact dg_plain _ (by omega)
      · exact ih r.length (by omega) r (Nat.le_refl _) (fun x hx => hb x (by simp [hx])) y hy
def hx (n : Int) : Int := bt (⟨#[48, 49, 50, 51, 52, 53, 54, 55, 56, 57, 65, 66, 67, 68, 69, 70]⟩ : ByteArray) n
def keepB (b : Int) (rest : List Int) : Bool := (decide (33 ≤ b ∧ b ≤ 126) && b != 61) || b == 10 || ((b == 32 || b == 9) && match rest with | [] => false | c :: _ => c != 10)
def qs : List Int → List Int
  | [] => []
  | b :: rest => if keepB b rest = true then b :: qs rest else 61 :: hx (b / 16) :: hx (b % 16) :: qs rest
theorem qs_len : ∀ l, (qs l).length ≤ 3 * l.length
  | [] => by simp [qs]
  | b :: rest => by
    have := qs_len rest
    unfold qs
    split <;> simp <;> omega
theorem spec_l1Hex_eq (n : Int) (h : 0 ≤ n ∧ n < 16) : spec_l1Hex.f n = some (hx n) := by
  unfold spec_l1Hex.f hx
  rw [if_pos h.1, if_pos h.2]
theorem spec_l1Quoted.j1_eq (k : Nat) (L x3 : List Int) (i b : Int) (x6 : Bool) : spec_l1Quoted.j1 (k + 1) L x3 i b x6 = spec_l1Quoted.j2 k L x3 i b ((decide (33 ≤ b ∧ b ≤ 126) && b != 61) || b == 10 || x6) := by
  unfold spec_l1Quoted.j1
  by_cases h1 : b ≥ 33
  · rw [if_pos h1]
    by_cases h2 : b ≤ 126
    · rw [if_pos h2]
      by_cases h3 : b = 61
      · subst h3
        rw [if_pos rfl, if_neg (by decide)]
        rfl
      · have h4 : (b != 61) = true := by simpa using h3
        rw [if_neg h3, h4, decide_eq_true (⟨h1, h2⟩ : 33 ≤ b ∧ b ≤ 126)]
        rfl
    · have h3 : b ≠ 10 := by omega
      have h4 : (b == 10) = false := by simpa using h3
      rw [if_neg h2, if_neg h3, h4, decide_eq_false (by omega : ¬ (33 ≤ b ∧ b ≤ 126))]
      simp
  · rw [if_neg h1, decide_eq_false (by omega : ¬ (33 ≤ b ∧ b ≤ 126))]
    by_cases h3 : b = 10
    · subst h3
      rw [if_pos rfl]
      rfl
    · have h4 : (b == 10) = false := by simpa using h3
      rw [if_neg h3, h4]
      simp
theorem spec_l1Quoted.l0_eq (L : List Int) (hb : L.length ≤ 1048576) (hB : ∀ x ∈ L, 0 ≤ x ∧ x ≤ 255) : ∀ (n k i : Nat) (x3 : List Int), L.length = i + n → 3 * n < k → x3.length + 3 * n < 140737488355328 → spec_l1Quoted.l0 k L x3 (i : Int) = some (strOfNums (x3 ++ qs (L.drop i)))
  | 0, 0, _, _, _, h, _ => absurd h (by omega)
  | 0, k + 1, i, x3, hi, _, _ => by
    have h1 : ¬ ((i : Int) < (L.length : Int)) := by omega
    unfold spec_l1Quoted.l0
    rw [if_neg h1, List.drop_eq_nil_of_le (by omega)]
    simp [qs]
  | n + 1, 0, _, _, _, h, _ => absurd h (by omega)
  | n + 1, 1, _, _, _, h, _ => absurd h (by omega)
  | n + 1, 2, _, _, _, h, _ => absurd h (by omega)
  | n + 1, k + 3, i, x3, hi, h, hx3 => by
    have h1 : (i : Int) < (L.length : Int) := by omega
    have h2 : (0 : Int) ≤ (i : Int) := by omega
    have h4 : wrap64 ((i : Int) + 1) = ((i + 1 : Nat) : Int) := by rw [wrap64_in (by omega)]; omega
    have hlt : i < L.length := by omega
    have hbb := hB L[i] (List.getElem_mem hlt)
    have ih := fun x => spec_l1Quoted.l0_eq L hb hB n k (i + 1) x (by omega) (by omega)
    have hd : L.drop i = L[i] :: L.drop (i + 1) := List.drop_eq_getElem_cons hlt
    have hrd : rd L (i : Int) = L[i] := rd_at L i hlt
    have hj : spec_l1Quoted.l0 (k + 3) L x3 (i : Int) = spec_l1Quoted.j1 (k + 2) L x3 i L[i] ((L[i] == 32 || L[i] == 9) && match L.drop (i + 1) with | [] => false | c :: _ => c != 10) := by
      conv => lhs; unfold spec_l1Quoted.l0
      rw [if_pos h1, if_pos h2, hrd, h4]
      by_cases h6 : i + 1 < L.length
      · have hd2 : L.drop (i + 1) = L[i + 1] :: L.drop (i + 1 + 1) := List.drop_eq_getElem_cons h6
        have hrd2 : rd L ((i + 1 : Nat) : Int) = L[i + 1] := rd_at L (i + 1) h6
        rw [hd2, hrd2, if_pos (by omega : ((i + 1 : Nat) : Int) < (L.length : Int)), if_pos (by omega : (0 : Int) ≤ ((i + 1 : Nat) : Int))]
        generalize L[i + 1] = c
        generalize L[i] = b
        by_cases h7 : b = 32
        · subst h7; rw [if_pos rfl]; rfl
        · rw [if_neg h7]
          by_cases h8 : b = 9
          · subst h8; rw [if_pos rfl]; rfl
          · have h9 : (b == 32) = false := by simpa using h7
            have h10 : (b == 9) = false := by simpa using h8
            rw [if_neg h8, h9, h10]; rfl
      · have hd2 : L.drop (i + 1) = [] := List.drop_eq_nil_of_le (by omega)
        rw [hd2, if_neg (by omega : ¬ ((i + 1 : Nat) : Int) < (L.length : Int))]
        generalize L[i] = b
        simp
    rw [hj, spec_l1Quoted.j1_eq, hd]
    have hk : ((decide (33 ≤ L[i] ∧ L[i] ≤ 126) && L[i] != 61) || L[i] == 10 || ((L[i] == 32 || L[i] == 9) && match L.drop (i + 1) with | [] => false | c :: _ => c != 10)) = keepB L[i] (L.drop (i + 1)) := rfl
    rw [hk]
    unfold qs
    generalize L[i] = b at hbb
    cases keepB b (L.drop (i + 1)) with
    | true =>
      unfold spec_l1Quoted.j2
      rw [if_pos rfl, if_pos rfl, if_pos (by omega), h4, ih _ (by simp; omega)]
      simp
    | false =>
      have ht : Int.tdiv b 16 % 256 = b / 16 := by rw [Int.tdiv_eq_ediv_of_nonneg hbb.1]; omega
      have hm : Int.tmod b 16 = b % 16 := Int.tmod_eq_emod_of_nonneg hbb.1
      unfold spec_l1Quoted.j2
      rw [if_neg (by decide), if_neg (by decide), ht, hm, spec_l1Hex_eq _ (by omega), spec_l1Hex_eq _ (by omega)]
      simp only [Option.bind_some]
      rw [if_pos (by simp; omega), h4, ih _ (by simp; omega)]
      simp
theorem spec_l1Quoted_eq (L : List Int) (k : Nat) (hb : L.length ≤ 1048576) (hB : ∀ x ∈ L, 0 ≤ x ∧ x ≤ 255) (hk : 3 * L.length < k) : spec_l1Quoted.f k L = some (strOfNums (qs L)) := by
  unfold spec_l1Quoted.f
  have := spec_l1Quoted.l0_eq L hb hB L.length k 0 [] (by omega) hk (by simp; omega)
  simpa using this
theorem byte_wf {l : List Int} (h : ∀ x ∈ l, (Lit.int .u8 x).wf = true) : ∀ x ∈ l, 0 ≤ x ∧ x ≤ 255 := by
  intro x hx
  have h1 := h x hx
  unfold Lit.wf at h1
  rw [Bool.and_eq_true, decide_eq_true_eq, decide_eq_true_eq, show IntKind.u8.min = 0 from by decide, show IntKind.u8.max = 255 from by decide] at h1
  exact h1
theorem rd_byte {l : List Int} (h : ∀ x ∈ l, 0 ≤ x ∧ x ≤ 255) (j : Int) : 0 ≤ rd l j ∧ rd l j ≤ 255 := by
  unfold rd
  rw [List.getD_eq_getElem?_getD]
  cases hg : l[j.toNat]? with
  | none => simp
  | some v =>
    have := h v (List.mem_of_getElem? hg)
    simpa using this
theorem tmod_in (x n : Int) (hx : 0 ≤ x) (hn : 1 ≤ n) : 0 ≤ Int.tmod x n ∧ Int.tmod x n < n :=
  ⟨Int.tmod_nonneg _ hx, Int.tmod_lt_of_pos _ (by omega)⟩
theorem spec_l1Next_eq (l : List Int) (hB : ∀ x ∈ l, 0 ≤ x ∧ x ≤ 255) (hl : l.length ≤ 1048576) (i n : Int) (hi : 0 ≤ i ∧ i ≤ 4294967296) (hn : 1 ≤ n) : ∃ v, spec_l1Next.f l i n = some (v, i + 1) ∧ 0 ≤ v ∧ v < n := by
  unfold spec_l1Next.f
  have a1 : wrap64 (i + 1) = i + 1 := wrap64_in (by omega)
  have a2 : wrap64 (i + 1 - 1) = i := by rw [show i + 1 - 1 = i by omega]; exact wrap64_in (by omega)
  rw [a1, a2, if_neg (by omega)]
  by_cases h0 : (l.length : Int) = 0
  · have a3 : wrap64 (i * 7) = i * 7 := wrap64_in (by omega)
    rw [if_pos h0, if_neg (by omega), a3]
    exact ⟨_, rfl, tmod_in _ _ (by omega) hn⟩
  · rw [if_neg h0]
    have h1 := tmod_in i (l.length : Int) hi.1 (by omega)
    rw [if_pos h1.1, if_pos h1.2]
    have hd : 0 ≤ Int.tdiv i (l.length : Int) ∧ Int.tdiv i (l.length : Int) ≤ i := by
      rw [Int.tdiv_eq_ediv_of_nonneg hi.1]
      exact ⟨Int.ediv_nonneg hi.1 (by omega), Int.ediv_le_self _ hi.1⟩
    have hr1 := rd_byte hB (Int.tmod i (l.length : Int))
    generalize rd l (Int.tmod i (l.length : Int)) = r1 at hr1
    generalize Int.tdiv i (l.length : Int) = q at hd
    have b0 : wrap64 r1 = r1 := wrap64_in (by omega)
    have b1 : wrap64 q = q := wrap64_in (by omega)
    have b2 : wrap64 (q * 37) = q * 37 := wrap64_in (by omega)
    have b3 : wrap64 (r1 + q * 37) = r1 + q * 37 := wrap64_in (by omega)
    rw [b0, b1, b2, b3]
    by_cases h2 : n > 200
    · rw [if_pos h2, a1]
      have h3 := tmod_in (i + 1) (l.length : Int) (by omega) (by omega)
      rw [if_pos h3.1, if_pos h3.2, if_neg (by omega)]
      have hr2 := rd_byte hB (Int.tmod (i + 1) (l.length : Int))
      generalize rd l (Int.tmod (i + 1) (l.length : Int)) = r2 at hr2
      have c0 : wrap64 r2 = r2 := wrap64_in (by omega)
      have c1 : wrap64 ((r1 + q * 37) * 251) = (r1 + q * 37) * 251 := wrap64_in (by omega)
      have c2 : wrap64 (r2 * 13) = r2 * 13 := wrap64_in (by omega)
      have c3 : wrap64 ((r1 + q * 37) * 251 + r2 * 13) = (r1 + q * 37) * 251 + r2 * 13 := wrap64_in (by omega)
      have c4 : wrap64 ((r1 + q * 37) * 251 + r2 * 13 + i) = (r1 + q * 37) * 251 + r2 * 13 + i := wrap64_in (by omega)
      rw [c0, c1, c2, c3, c4]
      exact ⟨_, rfl, tmod_in _ _ (by omega) hn⟩
    · rw [if_neg h2, if_neg (by omega)]
      exact ⟨_, rfl, tmod_in _ _ (by omega) hn⟩
theorem spec_l1Pick_eq (l : List Int) (hB : ∀ x ∈ l, 0 ≤ x ∧ x ≤ 255) (hl : l.length ≤ 1048576) (i : Int) (hi : 0 ≤ i ∧ i ≤ 4294967296) (L : List Int) (hL : 1 ≤ L.length) : ∃ j : Nat, j < L.length ∧ spec_l1Pick.f l i L = some (rd L (j : Int), i + 1) := by
  obtain ⟨v, hv, h0, h1⟩ := spec_l1Next_eq l hB hl i (L.length : Int) hi (by omega)
  unfold spec_l1Pick.f
  rw [hv, Option.bind_some]
  refine ⟨v.toNat, by omega, ?_⟩
  rw [Int.toNat_of_nonneg h0]
  simp only
  rw [if_pos h0, if_pos h1]
theorem spec_l2Codes.l0_eq (l : List Int) (hB : ∀ x ∈ l, 0 ≤ x ∧ x ≤ 255) (hl : l.length ≤ 1048576) : ∀ (n k : Nat) (acc : List Int) (i : Int), n < k → (0 ≤ i ∧ i + n ≤ 4294967296) → acc.length + n ≤ 1000 → (∀ x ∈ acc, x ∈ ([97, 66, 32, 228, 1078, 1046, 8470, 167, 8364, 127, 160, 1037] : List Int)) → ∃ out, spec_l2Codes.l0 k acc (n : Int) l i = some (out, i + n) ∧ out.length = acc.length + n ∧ ∀ x ∈ out, x ∈ ([97, 66, 32, 228, 1078, 1046, 8470, 167, 8364, 127, 160, 1037] : List Int)
  | _, 0, _, _, h, _, _, _ => absurd h (by omega)
  | 0, k + 1, acc, i, _, hi, ha, hx => by
    unfold spec_l2Codes.l0
    rw [if_neg (by omega)]
    exact ⟨acc, by simp, by simp, hx⟩
  | n + 1, k + 1, acc, i, h, hi, ha, hx => by
    obtain ⟨j, hj, hp⟩ := spec_l1Pick_eq l hB hl i (by omega) ([97, 66, 32, 228, 1078, 1046, 8470, 167, 8364, 127, 160, 1037] : List Int) (by decide)
    have hw : wrap64 (((n + 1 : Nat) : Int) - 1) = (n : Int) := by rw [wrap64_in (by omega)]; omega
    have hm : rd [97, 66, 32, 228, 1078, 1046, 8470, 167, 8364, 127, 160, 1037] (j : Int) ∈ ([97, 66, 32, 228, 1078, 1046, 8470, 167, 8364, 127, 160, 1037] : List Int) := by
      rw [rd_at _ j hj]
      exact List.getElem_mem hj
    unfold spec_l2Codes.l0
    rw [if_pos (by omega), hp, Option.bind_some, if_pos (by omega), hw]
    simp only
    generalize rd [97, 66, 32, 228, 1078, 1046, 8470, 167, 8364, 127, 160, 1037] (j : Int) = y at hm
    obtain ⟨out, ho, hlen, hb⟩ := spec_l2Codes.l0_eq l hB hl n k (acc ++ [y]) (i + 1) (by omega) (by omega) (by simp; omega) (by
      intro x hx'
      rcases List.mem_append.1 hx' with h' | h'
      · exact hx x h'
      · rw [List.mem_singleton.1 h']; exact hm)
    refine ⟨out, ?_, by simp at hlen; omega, hb⟩
    rw [ho]
    congr 2
    omega
theorem spec_l2Codes_eq (l : List Int) (hB : ∀ x ∈ l, 0 ≤ x ∧ x ≤ 255) (hl : l.length ≤ 1048576) (k : Nat) (i : Int) (hk : 8 ≤ k) (hi : 0 ≤ i ∧ i ≤ 1000000) : ∃ out j, spec_l2Codes.f k l i = some (out, j) ∧ out.length ≤ 5 ∧ (∀ x ∈ out, x ∈ ([97, 66, 32, 228, 1078, 1046, 8470, 167, 8364, 127, 160, 1037] : List Int)) ∧ i ≤ j ∧ j ≤ i + 6 := by
  obtain ⟨v, hv, h0, h1⟩ := spec_l1Next_eq l hB hl i 6 (by omega) (by omega)
  obtain ⟨n, rfl⟩ := Int.eq_ofNat_of_zero_le h0
  obtain ⟨out, ho, hlen, hm⟩ := spec_l2Codes.l0_eq l hB hl n k [] (i + 1) (by omega) (by omega) (by simp; omega) (by simp)
  unfold spec_l2Codes.f
  rw [hv, Option.bind_some]
  exact ⟨out, _, ho, by simp at hlen; omega, hm, by omega, by omega⟩
theorem spec_l1Some.l0_eq (l : List Int) (hB : ∀ x ∈ l, 0 ≤ x ∧ x ≤ 255) (hl : l.length ≤ 1048576) : ∀ (n k : Nat) (acc : List Int) (i : Int), n < k → (0 ≤ i ∧ i + 2 * n ≤ 4294967296) → acc.length + n ≤ 1000 → (∀ x ∈ acc, 0 ≤ x ∧ x ≤ 255) → ∃ out, spec_l1Some.l0 k (n : Int) acc l i = some (out, i + 2 * n) ∧ out.length = acc.length + n ∧ ∀ x ∈ out, 0 ≤ x ∧ x ≤ 255
  | _, 0, _, _, h, _, _, _ => absurd h (by omega)
  | 0, k + 1, acc, i, _, hi, ha, hx => by
    unfold spec_l1Some.l0
    rw [if_neg (by omega)]
    exact ⟨acc, by simp, by simp, hx⟩
  | n + 1, k + 1, acc, i, h, hi, ha, hx => by
    obtain ⟨v, hv, h0, h1⟩ := spec_l1Next_eq l hB hl i 256 (by omega) (by omega)
    obtain ⟨j, hj, hp⟩ := spec_l1Pick_eq l hB hl (i + 1) (by omega) ([v, 97, 32, 10, 61, 122] : List Int) (by simp)
    have hw : wrap64 (((n + 1 : Nat) : Int) - 1) = (n : Int) := by rw [wrap64_in (by omega)]; omega
    unfold spec_l1Some.l0
    rw [if_pos (by omega), hv, Option.bind_some, hp, Option.bind_some, if_pos (by omega), hw]
    generalize rd [v, 97, 32, 10, 61, 122] (j : Int) = y
    obtain ⟨out, ho, hlen, hb⟩ := spec_l1Some.l0_eq l hB hl n k (acc ++ [y % 256]) (i + 1 + 1) (by omega) (by omega) (by simp; omega) (by
      intro x hx'
      rcases List.mem_append.1 hx' with h' | h'
      · exact hx x h'
      · rw [List.mem_singleton.1 h']; omega)
    refine ⟨out, ?_, by simp at hlen; omega, hb⟩
    rw [ho]
    congr 2
    omega
theorem spec_l1Some_eq (l : List Int) (hB : ∀ x ∈ l, 0 ≤ x ∧ x ≤ 255) (hl : l.length ≤ 1048576) (n k : Nat) (i : Int) (hk : n < k) (hi : 0 ≤ i ∧ i + 2 * n ≤ 4294967296) (hn : n ≤ 1000) : ∃ out, spec_l1Some.f k l i (n : Int) = some (out, i + 2 * n) ∧ out.length = n ∧ ∀ x ∈ out, 0 ≤ x ∧ x ≤ 255 := by
  obtain ⟨out, h1, h2, h3⟩ := spec_l1Some.l0_eq l hB hl n k [] i hk hi (by simpa using hn) (by simp)
  exact ⟨out, h1, by simpa using h2, h3⟩
theorem subT (T : ByteArray) (h : T.size ≤ 400) : ((⟨#[83, 117, 98, 106, 101, 99, 116, 58, 32]⟩ : ByteArray) ++ T).size = 9 + T.size ∧ (((⟨#[83, 117, 98, 106, 101, 99, 116, 58, 32]⟩ : ByteArray) ++ T) ++ (⟨#[10, 10]⟩ : ByteArray)).size = 11 + T.size := by
  have h1 : ((⟨#[83, 117, 98, 106, 101, 99, 116, 58, 32]⟩ : ByteArray) ++ T).size = 9 + T.size := by rw [ByteArray.size_append]; rfl
  refine ⟨h1, ?_⟩
  rw [ByteArray.size_append, h1]
  show 9 + T.size + 2 = _
  omega
theorem bytesOf_app (a b : ByteArray) : bytesOf (a ++ b) = bytesOf a ++ bytesOf b := by
  unfold bytesOf
  rw [ByteArray.data_append, Array.toList_append, List.map_append]
theorem l4Encode_ex (codes : List Int) (hc : codes.length ≤ 5) (k : Nat) (hk : 200 < k) : ∃ t c, spec_l4Encode.f k codes = some (t, c) ∧ t.size ≤ 400 ∧ ∀ x ∈ bytesOf t, x ≠ 10 := by
  have he := spec_l2Encode.l0_eq 4 (by omega) codes (by omega) codes.length k 0 [] (by omega) (by omega) (by simp; omega)
  rw [List.drop_zero] at he
  have he' : spec_l2Encode.l0 k 4 codes [] 0 = some (enco 4 [] codes) := he
  have hfl := flat_len 4 codes
  unfold spec_l4Encode.f spec_l2Encode.f
  rw [he', Option.bind_some]
  unfold enco
  by_cases c : codes.all (hasB 4) = true
  · rw [if_pos c, List.nil_append, if_neg (show ¬ 400 < (codes.flatMap (encB 4)).length by omega)]
    simp only
    rw [if_pos (by first | rfl | trivial), spec_l4Self_eq codes (by omega) k (by omega), Option.bind_some]
    by_cases d : (codes.all plW && !(has2 codes)) = true
    · rw [if_pos d]
      rw [Bool.and_eq_true] at d
      have e := flat_plain codes d.1
      have hr : ∀ x ∈ codes, 32 ≤ x ∧ x ≤ 126 := fun x hx => of_decide_eq_true (List.all_eq_true.1 d.1 x hx)
      rw [e]
      refine ⟨_, _, rfl, by rw [strOfNums_size]; omega, fun x hx => ?_⟩
      rw [bytesOf_strOfNums codes (fun x hx => by have := hr x hx; omega)] at hx
      have := hr x hx
      omega
    · rw [if_neg d]
      have hF := flat_bytes 4 codes
      generalize codes.flatMap (encB 4) = F at hF hfl
      have hq := q_len F.length F (Nat.le_refl _)
      have hp := q_plain F.length F (Nat.le_refl _) hF
      rw [spec_l1Encode_eq F k (by omega) hF (by omega), Option.bind_some]
      have s1 : ((⟨#[61, 63, 117, 116, 102, 45, 56, 63, 66, 63]⟩ : ByteArray) ++ strOfNums (impl_baseText.q F)).size = 10 + (impl_baseText.q F).length := by rw [ByteArray.size_append, strOfNums_size]; rfl
      have s2 : (((⟨#[61, 63, 117, 116, 102, 45, 56, 63, 66, 63]⟩ : ByteArray) ++ strOfNums (impl_baseText.q F)) ++ (⟨#[63, 61]⟩ : ByteArray)).size = 12 + (impl_baseText.q F).length := by
        rw [ByteArray.size_append, s1]
        show 10 + (impl_baseText.q F).length + 2 = _
        omega
      rw [strOfNums_size, if_pos (by omega), s1, if_pos (by omega), s2, if_neg (by omega)]
      refine ⟨_, _, rfl, by rw [s2]; omega, fun x hx => ?_⟩
      rw [bytesOf_app, bytesOf_app, bytesOf_strOfNums _ (fun x hx => by have := hp x hx; omega)] at hx
      rcases List.mem_append.1 hx with g | g
      · rcases List.mem_append.1 g with g | g
        · exact (by decide : ∀ x ∈ ([61, 63, 117, 116, 102, 45, 56, 63, 66, 63] : List Int), x ≠ 10) x g
        · have := hp x g; omega
      · exact (by decide : ∀ x ∈ ([63, 61] : List Int), x ≠ 10) x g
  · rw [if_neg c]
    simp only
    rw [if_neg (by decide)]
    exact ⟨_, _, rfl, by decide, fun x hx => absurd hx (by simp [bytesOf])⟩
def hB0 : List Int := [67, 111, 110, 116, 101, 110, 116, 45, 84, 114, 97, 110, 115, 102, 101, 114, 45, 69, 110, 99, 111, 100, 105, 110, 103, 58, 32, 98, 97, 115, 101, 54, 52, 10, 10]
def hQ0 : List Int := [67, 111, 110, 116, 101, 110, 116, 45, 84, 121, 112, 101, 58, 32, 116, 101, 120, 116, 47, 112, 108, 97, 105, 110, 59, 32, 99, 104, 97, 114, 115, 101, 116, 61, 117, 116, 102, 45, 56, 10, 67, 111, 110, 116, 101, 110, 116, 45, 84, 114, 97, 110, 115, 102, 101, 114, 45, 69, 110, 99, 111, 100, 105, 110, 103, 58, 32, 113, 117, 111, 116, 101, 100, 45, 112, 114, 105, 110, 116, 97, 98, 108, 101, 10, 10]
def hC0 : List Int := [67, 111, 110, 116, 101, 110, 116, 45, 84, 121, 112, 101, 58, 32, 116, 101, 120, 116, 47, 112, 108, 97, 105, 110, 59, 32, 99, 104, 97, 114, 115, 101, 116, 61, 105, 115, 111, 45, 56, 56, 53, 57, 45, 53, 10, 10]
def hI0 : List Int := [67, 111, 110, 116, 101, 110, 116, 45, 84, 121, 112, 101, 58, 32, 105, 109, 97, 103, 101, 47, 120, 10, 10]
def hS0 : List Int := [83, 117, 98, 106, 101, 99, 116, 58, 32]
def leafP (out : List Int) : Prop := (∃ r, out = hB0 ++ r) ∨ (∃ r, out = hQ0 ++ r) ∨ (∃ r, out = hC0 ++ r) ∨ (∃ r, out = hI0 ++ r) ∨ (∃ r, out = 10 :: r) ∨ ∃ T r, (∀ x ∈ T, x ≠ 10 ∧ 0 ≤ x ∧ x ≤ 255) ∧ T.length ≤ 400 ∧ out = hS0 ++ T ++ 10 :: 10 :: r
theorem bytesOf_lenC (a : ByteArray) : (bytesOf a).length = a.size := by simp [bytesOf]
theorem app_in {A B : List Int} (ha : ∀ x ∈ A, 0 ≤ x ∧ x ≤ 255) (hb : ∀ x ∈ B, 0 ≤ x ∧ x ≤ 255) : ∀ x ∈ A ++ B, 0 ≤ x ∧ x ≤ 255 := fun x hx => (List.mem_append.1 hx).elim (ha x) (hb x)
theorem leaf_ex (l : List Int) (hB : ∀ x ∈ l, 0 ≤ x ∧ x ≤ 255) (hl : l.length ≤ 1048576) (i : Int) (hi : 0 ≤ i ∧ i ≤ 100000) (k : Nat) (hk : 1000 < k) : ∃ out j, spec_l5Leaf.f k l i = some (out, j) ∧ i ≤ j ∧ j ≤ i + 100 ∧ out.length ≤ 800 ∧ (∀ x ∈ out, 0 ≤ x ∧ x ≤ 255) ∧ leafP out := by
  obtain ⟨v, v1, v2, v3⟩ := spec_l1Next_eq l hB hl i 8 (by omega) (by omega)
  obtain ⟨n, rfl⟩ : ∃ n : Nat, v = (n : Int) := ⟨v.toNat, by omega⟩
  obtain ⟨bd, b1, b2, b3⟩ := spec_l1Some_eq l hB hl n k (i + 1) (by omega) (by omega) (by omega)
  obtain ⟨w, w1, w2, w3⟩ := spec_l1Next_eq l hB hl (i + 1 + 2 * n) 6 (by omega) (by omega)
  unfold spec_l5Leaf.f
  rw [v1, Option.bind_some]
  simp only
  rw [b1, Option.bind_some]
  simp only
  rw [w1, Option.bind_some]
  simp only
  by_cases c0 : w = 0
  · have hq := q_len bd.length bd (Nat.le_refl _)
    rw [if_pos c0, Option.bind_some, spec_l1Encode_eq bd k (by omega) b3 (by omega), Option.bind_some, strOfNums_size, if_pos (by omega), Option.bind_some]
    have hln : (bytesOf (strOfNums (impl_baseText.q bd))).length = (impl_baseText.q bd).length := by rw [bytesOf_lenC, strOfNums_size]
    have hin := bytesOf_in (strOfNums (impl_baseText.q bd))
    generalize bytesOf (strOfNums (impl_baseText.q bd)) = X at hln hin
    rw [if_pos (by simp; omega)]
    exact ⟨_, _, rfl, by omega, by omega, by simp; omega, app_in (by decide) hin, .inl ⟨X, rfl⟩⟩
  rw [if_neg c0]
  by_cases c1 : w = 1
  · have hq := qs_len bd
    rw [if_pos c1, Option.bind_some, spec_l1Quoted_eq bd k (by omega) b3 (by omega), Option.bind_some, strOfNums_size, if_pos (by omega), Option.bind_some]
    have hln : (bytesOf (strOfNums (qs bd))).length = (qs bd).length := by rw [bytesOf_lenC, strOfNums_size]
    have hin := bytesOf_in (strOfNums (qs bd))
    generalize bytesOf (strOfNums (qs bd)) = X at hln hin
    rw [if_pos (by simp; omega)]
    exact ⟨_, _, rfl, by omega, by omega, by simp; omega, app_in (by decide) hin, .inr (.inl ⟨X, rfl⟩)⟩
  rw [if_neg c1]
  by_cases c2 : w = 2
  · have he := spec_l2Encode.l0_eq 3 (by omega) [1078, 1046, 97] (by simp) 3 k 0 [] (by simp) (by omega) (by simp)
    rw [List.drop_zero] at he
    have he' : spec_l2Encode.f k 3 [1078, 1046, 97] = some (enco 3 [] [1078, 1046, 97]) := he
    have hx : (enco 3 [] [1078, 1046, 97]).1.length ≤ 9 ∧ ∀ x ∈ (enco 3 [] [1078, 1046, 97]).1, 0 ≤ x ∧ x ≤ 255 := by
      have hf := flat_len 3 [1078, 1046, 97]
      have hb := flat_bytes 3 [1078, 1046, 97]
      unfold enco
      rw [List.nil_append]
      split
      · split
        · exact ⟨by simp, fun x hx => by simp at hx⟩
        · exact ⟨by simpa using hf, hb⟩
      · exact ⟨by simp, fun x hx => by simp at hx⟩
    rw [if_pos c2, he', Option.bind_some, Option.bind_some]
    generalize enco 3 [] [1078, 1046, 97] = X at hx
    rw [if_pos (by simp; omega)]
    exact ⟨_, _, rfl, by omega, by omega, by simp; omega, app_in (by decide) hx.2, .inr (.inr (.inl ⟨X.1, rfl⟩))⟩
  rw [if_neg c2]
  by_cases c3 : w = 3
  · rw [if_pos c3, Option.bind_some, if_pos (by simp; omega)]
    exact ⟨_, _, rfl, by omega, by omega, by simp; omega, app_in (by decide) b3, .inr (.inr (.inr (.inl ⟨bd, rfl⟩)))⟩
  rw [if_neg c3]
  by_cases c4 : w = 4
  · rw [if_pos c4, Option.bind_some, Option.bind_some, if_pos (by simp)]
    exact ⟨_, _, rfl, by omega, by omega, by simp, by decide, .inr (.inr (.inr (.inr (.inl ⟨_, rfl⟩))))⟩
  rw [if_neg c4]
  obtain ⟨cs, j, z1, z2, z3⟩ := spec_l2Codes_eq l hB hl k (i + 1 + 2 * n + 1) (by omega) (by omega)
  obtain ⟨T, c, t1, t2, t3⟩ := l4Encode_ex cs z2 k (by omega)
  obtain ⟨s1, s2⟩ := subT T t2
  have hj : i + 1 + 2 * n + 1 ≤ j ∧ j ≤ i + 1 + 2 * n + 10 := by omega
  rw [z1, Option.bind_some]
  simp only
  rw [t1, Option.bind_some]
  simp only
  rw [if_pos (by omega), s1, if_pos (by omega), s2, if_pos (by omega), Option.bind_some]
  have hb : bytesOf (((⟨#[83, 117, 98, 106, 101, 99, 116, 58, 32]⟩ : ByteArray) ++ T) ++ (⟨#[10, 10]⟩ : ByteArray)) = hS0 ++ bytesOf T ++ [10, 10] := by rw [bytesOf_app, bytesOf_app]; rfl
  have hln := bytesOf_lenC T
  have hin := bytesOf_in T
  rw [hb]
  have hL : (hS0 ++ bytesOf T ++ [10, 10]).length = T.size + 11 := by simp [hS0]; omega
  rw [if_pos (by omega)]
  exact ⟨_, _, rfl, by omega, by omega, by rw [List.length_append, hL]; omega, app_in (app_in (app_in (by decide) hin) (by decide)) b3, .inr (.inr (.inr (.inr (.inr ⟨bytesOf T, bd, fun x hx => ⟨t3 x hx, hin x hx⟩, by omega, by simp⟩))))⟩
theorem sinj {a b : ByteArray} (h : a.toList = b.toList) : a = b := by
  rw [Go.ByteArray.toList_eq, Go.ByteArray.toList_eq] at h
  exact ByteArray.ext (Array.ext' h)
theorem lineLen_app (X R : List Int) (h : ∀ x ∈ X, x ≠ 10) : lineLen (X ++ 10 :: R) = X.length := by
  induction X with
  | nil => rw [List.nil_append, lineLen_cons, if_pos rfl]; rfl
  | cons x xs ih => rw [List.cons_append, lineLen_cons, if_neg (h x (by simp)), ih (fun y hy => h y (by simp [hy]))]; rfl
theorem dropX (data X R : List Int) (i : Nat) (h : data.drop i = X ++ R) : data.drop (i + X.length) = R := by rw [← List.drop_drop, h]; simp
theorem lenX (data X R : List Int) (i : Nat) (hX : 0 < X.length) (h : data.drop i = X ++ R) : i + X.length + R.length = data.length := by
  have := congrArg List.length h
  rw [List.length_drop, List.length_append] at this
  omega
theorem parse_line (data L R : List Int) (i n : Nat) (fs : List S151) (h : data.drop i = L ++ 10 :: R) (hL : ∀ x ∈ L, x ≠ 10) (h0 : L ≠ []) : parseF (n + 1) data i fs = match lineF fs (strOfNums L) with
    | none => ([], 0, false)
    | some f => parseF n data (i + L.length + 1) f := by
  have hp : 0 < L.length := List.length_pos_iff.2 h0
  have hl := lenX data L (10 :: R) i hp h
  rw [List.length_cons] at hl
  rw [parseF, if_pos (by omega), h, lineLen_app L R hL, if_neg (by omega), show (L ++ 10 :: R).take L.length = L by simp, show min (i + L.length + 1) data.length = i + L.length + 1 by omega]
  all_goals (cases lineF fs (strOfNums L) <;> rfl)
theorem parse_blank (data R : List Int) (i n : Nat) (fs : List S151) (h : data.drop i = 10 :: R) : parseF (n + 1) data i fs = (fs, ((i + 1 : Nat) : Int), faultF fs == 0) := by
  have hl := lenX data [10] R i (by simp) h
  simp only [List.length_cons, List.length_nil] at hl
  rw [parseF, if_pos (by omega), h, lineLen_cons, if_pos rfl, if_pos rfl]
theorem parse_one (D L R : List Int) (f : List S151) (h : D = L ++ 10 :: 10 :: R) (hL : ∀ x ∈ L, x ≠ 10) (h0 : L ≠ []) (hf : lineF [] (strOfNums L) = some f) : parseF (D.length + 1) D 0 [] = (f, ((L.length + 2 : Nat) : Int), faultF f == 0) := by
  have hp : 0 < L.length := List.length_pos_iff.2 h0
  have hD : D.drop 0 = L ++ 10 :: (10 :: R) := h
  have hl := lenX D L _ 0 hp hD
  simp only [List.length_cons] at hl
  obtain ⟨n, hn⟩ : ∃ n, D.length = n + 1 := ⟨D.length - 1, by omega⟩
  have h2 := dropX D L _ 0 hD
  have h3 : D.drop (0 + L.length + 1) = 10 :: R := by rw [← List.drop_drop, h2]; rfl
  rw [parse_line D L (10 :: R) 0 D.length [] hD hL h0, hf]
  show parseF D.length D (0 + L.length + 1) f = _
  rw [hn, parse_blank D R _ n f h3]
  rw [show 0 + L.length + 1 + 1 = L.length + 2 by omega]
theorem parse_two (D L L2 R : List Int) (f g : List S151) (h : D = L ++ 10 :: (L2 ++ 10 :: 10 :: R)) (hL : ∀ x ∈ L, x ≠ 10) (h0 : L ≠ []) (hL2 : ∀ x ∈ L2, x ≠ 10) (h02 : L2 ≠ []) (hf : lineF [] (strOfNums L) = some f) (hg : lineF f (strOfNums L2) = some g) : ∃ a b, parseF (D.length + 1) D 0 [] = (g, a, b) := by
  have hp : 0 < L.length := List.length_pos_iff.2 h0
  have hp2 : 0 < L2.length := List.length_pos_iff.2 h02
  have hD : D.drop 0 = L ++ 10 :: (L2 ++ 10 :: 10 :: R) := h
  have hl := lenX D L _ 0 hp hD
  simp only [List.length_cons, List.length_append] at hl
  obtain ⟨n, hn⟩ : ∃ n, D.length = n + 2 := ⟨D.length - 2, by omega⟩
  have h2 := dropX D L _ 0 hD
  have h3 : D.drop (0 + L.length + 1) = L2 ++ 10 :: (10 :: R) := by rw [← List.drop_drop, h2]; rfl
  have h4 := dropX D L2 _ _ h3
  have h5 : D.drop (0 + L.length + 1 + L2.length + 1) = 10 :: R := by rw [← List.drop_drop, h4]; rfl
  rw [parse_line D L _ 0 D.length [] hD hL h0, hf]
  show ∃ a b, parseF D.length D (0 + L.length + 1) f = _
  rw [hn, parse_line D L2 _ _ (n + 1) f h3 hL2 h02, hg]
  show ∃ a b, parseF (n + 1) D (0 + L.length + 1 + L2.length + 1) g = _
  rw [parse_blank D R _ n g h5]
  exact ⟨_, _, rfl⟩
theorem map_ex {α β : Type} {o : Option α} {g : α → β} {b : β} (h : o.map g = some b) : ∃ a, o = some a ∧ g a = b := by
  cases o with
  | none => cases h
  | some a => exact ⟨a, rfl, Option.some.inj h⟩
def cteL : List Int := [67, 111, 110, 116, 101, 110, 116, 45, 84, 114, 97, 110, 115, 102, 101, 114, 45, 69, 110, 99, 111, 100, 105, 110, 103, 58, 32, 98, 97, 115, 101, 54, 52]
theorem cteL_of : (lineF [] (strOfNums cteL)).map (fun f => (ofF ctB f).2) = some false := by decide +kernel
def ctQL : List Int := [67, 111, 110, 116, 101, 110, 116, 45, 84, 121, 112, 101, 58, 32, 116, 101, 120, 116, 47, 112, 108, 97, 105, 110, 59, 32, 99, 104, 97, 114, 115, 101, 116, 61, 117, 116, 102, 45, 56]
def cteQ : List Int := [67, 111, 110, 116, 101, 110, 116, 45, 84, 114, 97, 110, 115, 102, 101, 114, 45, 69, 110, 99, 111, 100, 105, 110, 103, 58, 32, 113, 117, 111, 116, 101, 100, 45, 112, 114, 105, 110, 116, 97, 98, 108, 101]
theorem ctQL_of : ((lineF [] (strOfNums ctQL)).bind fun f => (lineF f (strOfNums cteQ)).map fun g => bytesOf (ofF ctB g).1) = some [116, 101, 120, 116, 47, 112, 108, 97, 105, 110, 59, 32, 99, 104, 97, 114, 115, 101, 116, 61, 117, 116, 102, 45, 56] := by decide +kernel
def ctC : List Int := [67, 111, 110, 116, 101, 110, 116, 45, 84, 121, 112, 101, 58, 32, 116, 101, 120, 116, 47, 112, 108, 97, 105, 110, 59, 32, 99, 104, 97, 114, 115, 101, 116, 61, 105, 115, 111, 45, 56, 56, 53, 57, 45, 53]
theorem ctC_of : (lineF [] (strOfNums ctC)).map (fun f => bytesOf (ofF ctB f).1) = some [116, 101, 120, 116, 47, 112, 108, 97, 105, 110, 59, 32, 99, 104, 97, 114, 115, 101, 116, 61, 105, 115, 111, 45, 56, 56, 53, 57, 45, 53] := by decide +kernel
def ctI : List Int := [67, 111, 110, 116, 101, 110, 116, 45, 84, 121, 112, 101, 58, 32, 105, 109, 97, 103, 101, 47, 120]
theorem ctI_of : (lineF [] (strOfNums ctI)).map (fun f => bytesOf (ofF ctB f).1) = some [105, 109, 97, 103, 101, 47, 120] := by decide +kernel
theorem tyQ : (impl_TypeOf.f 200 (strOfNums [116, 101, 120, 116, 47, 112, 108, 97, 105, 110, 59, 32, 99, 104, 97, 114, 115, 101, 116, 61, 117, 116, 102, 45, 56])).map (fun r => r.1 == 2) = some false := by decide +kernel
theorem tyC : (impl_TypeOf.f 200 (strOfNums [116, 101, 120, 116, 47, 112, 108, 97, 105, 110, 59, 32, 99, 104, 97, 114, 115, 101, 116, 61, 105, 115, 111, 45, 56, 56, 53, 57, 45, 53])).map (fun r => r.1 == 2) = some false := by decide +kernel
theorem tyI : (impl_TypeOf.f 200 (strOfNums [105, 109, 97, 103, 101, 47, 120])).map (fun r => r.1 == 2) = some false := by decide +kernel
def hdL (m : List Int) : List Int := [67, 111, 110, 116, 101, 110, 116, 45, 84, 121, 112, 101, 58, 32, 109, 117, 108, 116, 105, 112, 97, 114, 116, 47, 109, 105, 120, 101, 100, 59, 32, 98, 111, 117, 110, 100, 97, 114, 121, 61] ++ m
def vaL (m : List Int) : List Int := [109, 117, 108, 116, 105, 112, 97, 114, 116, 47, 109, 105, 120, 101, 100, 59, 32, 98, 111, 117, 110, 100, 97, 114, 121, 61] ++ m
theorem hd1_of : (lineF [] (strOfNums (hdL [98]))).map (fun f => (bytesOf (ofF ctB f).1, (ofF ctB f).2, faultF f == 0)) = some (vaL [98], true, true) := by decide +kernel
theorem hd2_of : (lineF [] (strOfNums (hdL [109, 97, 114, 107]))).map (fun f => (bytesOf (ofF ctB f).1, (ofF ctB f).2, faultF f == 0)) = some (vaL [109, 97, 114, 107], true, true) := by decide +kernel
theorem ty1 : (impl_TypeOf.f 200 (strOfNums (vaL [98]))).map (fun r => r.1) = some 2 := by decide +kernel
theorem ty2 : (impl_TypeOf.f 200 (strOfNums (vaL [109, 97, 114, 107]))).map (fun r => r.1) = some 2 := by decide +kernel
theorem nm1 : bytesOf (nmF ((piecesB (strOfNums (vaL [98]))).drop 1) bndB).1 = [98] := by decide +kernel
theorem nm2 : bytesOf (nmF ((piecesB (strOfNums (vaL [109, 97, 114, 107]))).drop 1) bndB).1 = [109, 97, 114, 107] := by decide +kernel
theorem typ_low (s : ByteArray) (hs : s.size ≤ 1048576) (r : Int × Int × Int × Int × Int × Int × Int) (h : impl_TypeOf.f 200 s = some r) : typ s = r := by
  obtain ⟨k, hk⟩ : ∃ k, 9000000 < k := ⟨_, Nat.lt_succ_self _⟩
  have h1 := (typ_eq s hs k hk).2
  have h2 := upO (fun k => impl_TypeOf.f k s) (fun k => impl_TypeOf.mono s k) (show 200 ≤ k by omega) h
  exact Option.some.inj (h1.symm.trans h2)
theorem no2 (s : ByteArray) (L : List Int) (hs : bytesOf s = L) (hl : L.length ≤ 1048576) (h : (impl_TypeOf.f 200 (strOfNums L)).map (fun r => r.1 == 2) = some false) : (typ s).1 ≠ 2 := by
  obtain ⟨r, h1, h2⟩ := map_ex h
  have e : s = strOfNums L := by rw [← hs, strOfNums_bytesOf]
  have hz : (strOfNums L).size ≤ 1048576 := by rw [strOfNums_size]; exact hl
  rw [e, typ_low _ hz r h1]
  simpa using h2
theorem kind_of (B : List Int) (f : List S151) (a : Int) (b : Bool) (hp : parseF (B.length + 1) B 0 [] = (f, a, b)) (hk : (ofF ctB f).2 = true → (typ (ofF ctB f).1).1 ≠ 2) : (oneP B 0 B.length).1.f0 ≠ 2 := by
  unfold oneP
  simp only [List.take_length, List.drop_zero]
  rw [hp]
  simp only
  by_cases c : b = true
  · rw [if_pos c]
    by_cases d : (ofF ctB f).2 = true
    · rw [if_pos d]; exact hk d
    · rw [if_neg d]; show (1 : Int) ≠ 2; decide
  · rw [if_neg c]; show (3 : Int) ≠ 2; decide
theorem subj_of (T : List Int) (hT : ∀ x ∈ T, x ≠ 10 ∧ 0 ≤ x ∧ x ≤ 255) : ∃ f, lineF [] (strOfNums (hS0 ++ T)) = some f ∧ (ofF ctB f).2 = false := by
  have hin : ∀ x ∈ hS0 ++ T, 0 ≤ x ∧ x ≤ 255 := app_in (by decide) (fun x hx => (hT x hx).2)
  have hb := bytesOf_strOfNums (hS0 ++ T) hin
  have hz : 0 < (strOfNums (hS0 ++ T)).size := by rw [strOfNums_size]; simp [hS0]
  generalize strOfNums (hS0 ++ T) = s at hb hz
  have hd := drop_bt s 0 hz
  rw [List.drop_zero, hb] at hd
  have h0 : bt s 0 = 83 := ((List.cons.inj hd).1).symm
  have h58 : fst 58 (bytesOf s) = some 7 := by rw [hb]; rfl
  have he : s.extract 0 7 = strOfNums [83, 117, 98, 106, 101, 99, 116] := by
    have := bytesOf_extract s 0 7
    rw [hb] at this
    rw [← strOfNums_bytesOf (s.extract 0 7), this]
    rfl
  refine ⟨[newF s 7], ?_, ?_⟩
  · unfold lineF
    rw [if_neg (by omega), h58]
    rfl
  · unfold newF
    rw [he]
    unfold ofF
    rw [if_neg (by show ¬ (lowS (strOfNums [83, 117, 98, 106, 101, 99, 116])).toList = (lowS ctB).toList; decide +kernel)]
    rfl
theorem leaf_kind (B : List Int) (h : leafP B) : (oneP B 0 B.length).1.f0 ≠ 2 := by
  rcases h with ⟨r, e⟩ | ⟨r, e⟩ | ⟨r, e⟩ | ⟨r, e⟩ | ⟨r, e⟩ | ⟨T, r, hT, _, e⟩
  · obtain ⟨f, h1, h2⟩ := map_ex cteL_of
    exact kind_of B f _ _ (parse_one B cteL r f e (by decide) (by decide) h1) (fun c => absurd c (by rw [h2]; decide))
  · have h := ctQL_of
    obtain ⟨f, h1, h2⟩ := Option.bind_eq_some_iff.1 h
    obtain ⟨g, h3, h4⟩ := map_ex h2
    obtain ⟨a, b, h5⟩ := parse_two B ctQL cteQ r f g e (by decide) (by decide) (by decide) (by decide) h1 h3
    exact kind_of B g _ _ h5 (fun _ => no2 _ _ h4 (by decide) tyQ)
  · obtain ⟨f, h1, h2⟩ := map_ex ctC_of
    exact kind_of B f _ _ (parse_one B ctC r f e (by decide) (by decide) h1) (fun _ => no2 _ _ h2 (by decide) tyC)
  · obtain ⟨f, h1, h2⟩ := map_ex ctI_of
    exact kind_of B f _ _ (parse_one B ctI r f e (by decide) (by decide) h1) (fun _ => no2 _ _ h2 (by decide) tyI)
  · have hp : parseF (B.length + 1) B 0 [] = ([], ((0 + 1 : Nat) : Int), faultF ([] : List S151) == 0) := parse_blank B r 0 B.length [] e
    exact kind_of B [] _ _ hp (fun c => absurd c (by decide))
  · obtain ⟨f, h1, h2⟩ := subj_of T hT
    exact kind_of B f _ _ (parse_one B (hS0 ++ T) r f e (fun x hx => (List.mem_append.1 hx).elim ((by decide : ∀ x ∈ hS0, x ≠ 10) x) (fun g => (hT x g).1)) (by simp [hS0]) h1) (fun c => absurd c (by rw [h2]; decide))
def encM (a : ByteArray) : List (List Int) → List Int
  | [] => finB a
  | x :: r => midB a ++ (x ++ 10 :: encM a r)
theorem buildo_encM (a : ByteArray) : ∀ (l : List (List Int)) (acc : List Int), buildo a l acc = acc ++ encM a l
  | [], acc => rfl
  | x :: r, acc => by rw [buildo, buildo_encM a r, encM]; simp
def dash (a : ByteArray) : List Int := 45 :: 45 :: bytesOf a
theorem dash_b (a : ByteArray) : bytesOf ((⟨#[45, 45]⟩ : ByteArray) ++ a) = dash a := by rw [bytesOf_app]; rfl
theorem mid_dash (a : ByteArray) : midB a = dash a ++ [10] := by unfold midB; rw [bytesOf_app, dash_b]; rfl
theorem fin_dash (a : ByteArray) : finB a = (dash a ++ [45, 45]) ++ [10] := by
  unfold finB; rw [bytesOf_app, dash_b, List.append_assoc]; rfl
theorem dash_len (a : ByteArray) : (dash a).length = a.size + 2 := by simp [dash, bytesOf]
theorem kindP_eq (data : List Int) (i e : Nat) (a : ByteArray) (X : List Int) (hX : (data.take e).drop i = X) (hin : ∀ x ∈ X, 0 ≤ x ∧ x ≤ 255) : kindP data i e a = if X = dash a then 1 else if X = dash a ++ [45, 45] then 2 else 0 := by
  have key : ∀ b : ByteArray, (strOfNums X).toList = b.toList ↔ X = bytesOf b := fun b => ⟨fun h => by rw [← sinj h, bytesOf_strOfNums X hin], fun h => by rw [h, strOfNums_bytesOf]⟩
  have h1 := key ((⟨#[45, 45]⟩ : ByteArray) ++ a)
  have h2 := key (((⟨#[45, 45]⟩ : ByteArray) ++ a) ++ (⟨#[45, 45]⟩ : ByteArray))
  rw [dash_b] at h1
  rw [bytesOf_app, dash_b, show bytesOf (⟨#[45, 45]⟩ : ByteArray) = [45, 45] from rfl] at h2
  unfold kindP
  rw [hX]
  by_cases c : X = dash a
  · rw [if_pos (h1.2 c), if_pos c]
  · rw [if_neg (fun h => c (h1.1 h)), if_neg c]
    by_cases d : X = dash a ++ [45, 45]
    · rw [if_pos (h2.2 d), if_pos d]
    · rw [if_neg (fun h => d (h2.1 h)), if_neg d]
theorem spans_fuel (data : List Int) (a : ByteArray) (t : Nat) : ∀ (n n' i : Nat) (acc : List (Nat × Nat)) (op : Option Nat), t < i + n → t < i + n' → spansP data a t n acc op i = spansP data a t n' acc op i
  | 0, n', i, acc, op, h, _ => by rw [spansP_end data a t 0 acc op i (by omega), spansP_end data a t n' acc op i (by omega)]
  | n + 1, 0, i, acc, op, _, h => by rw [spansP_end data a t (n + 1) acc op i (by omega), spansP_end data a t 0 acc op i (by omega)]
  | n + 1, n' + 1, i, acc, op, h, h' => by
    rw [spansP, spansP]
    by_cases c : i < t
    · rw [if_pos c, if_pos c]
      simp only
      have hm : i < min (i + lineLen ((data.take t).drop i) + 1) t ∨ t ≤ min (i + lineLen ((data.take t).drop i) + 1) t := by omega
      have go : ∀ acc op, spansP data a t n acc op (min (i + lineLen ((data.take t).drop i) + 1) t) = spansP data a t n' acc op (min (i + lineLen ((data.take t).drop i) + 1) t) := by
        intro acc op
        by_cases d : t ≤ min (i + lineLen ((data.take t).drop i) + 1) t
        · rw [spansP_end data a t n acc op _ d, spansP_end data a t n' acc op _ d]
        · exact spans_fuel data a t n n' _ acc op (by omega) (by omega)
      split
      · rfl
      · split
        · exact go _ _
        · exact go _ _
    · rw [if_neg c, if_neg c]
theorem spans_line (data : List Int) (hB : ∀ x ∈ data, 0 ≤ x ∧ x ≤ 255) (a : ByteArray) (X R : List Int) (i n : Nat) (acc : List (Nat × Nat)) (op : Option Nat) (h : data.drop i = X ++ 10 :: R) (hX : ∀ x ∈ X, x ≠ 10) : spansP data a data.length (n + 1) acc op i = if X = dash a then spansP data a data.length n (putP acc i op) (some (i + X.length + 1)) (i + X.length + 1) else if X = dash a ++ [45, 45] then putP acc i op else spansP data a data.length n acc op (i + X.length + 1) := by
  have hl : i + X.length + (R.length + 1) = data.length := by
    have := congrArg List.length h
    rw [List.length_drop, List.length_append, List.length_cons] at this
    omega
  have hc : (data.take (i + X.length)).drop i = X := by
    rw [List.drop_take, h, Nat.add_sub_cancel_left]; simp
  have hin : ∀ x ∈ X, 0 ≤ x ∧ x ≤ 255 := fun x hx => hB x (List.mem_of_mem_drop (i := i) (by rw [h]; simp [hx]))
  rw [spansP, if_pos (by omega)]
  simp only
  rw [List.take_length, h, lineLen_app X R hX, kindP_eq data i _ a X hc hin, show min (i + X.length + 1) data.length = i + X.length + 1 by omega]
  by_cases c : X = dash a
  · rw [if_pos c, if_pos c, if_neg (by decide), if_pos rfl]
  · rw [if_neg c, if_neg c]
    by_cases d : X = dash a ++ [45, 45]
    · rw [if_pos d, if_pos d, if_pos rfl]
    · rw [if_neg d, if_neg d, if_neg (by decide), if_neg (by decide)]
theorem dd_suf (B : List Int) : ∀ (A : List Int), dd (A ++ B) = false → dd B = false
  | [], h => h
  | x :: A, h => by
    rw [List.cons_append, dd, Bool.or_eq_false_iff] at h
    exact dd_suf B A h.2
theorem pre_no (X : List Int) (R : List Int) (h : pre2 (X ++ R) = false) (a : ByteArray) (q : List Int) : X ≠ dash a ++ q := by
  intro e
  rw [e] at h
  simp [pre2, dash] at h
theorem split10 (X : List Int) : (∀ x ∈ X, x ≠ 10) ∨ ∃ A C, X = A ++ 10 :: C ∧ ∀ x ∈ A, x ≠ 10 := by
  induction X with
  | nil => exact .inl (by simp)
  | cons x xs ih =>
    by_cases c : x = 10
    · exact .inr ⟨[], xs, by rw [c]; rfl, by simp⟩
    · rcases ih with h | ⟨A, C, e, h⟩
      · exact .inl (fun y hy => by rcases List.mem_cons.1 hy with rfl | g; exact c; exact h y g)
      · exact .inr ⟨x :: A, C, by rw [e]; rfl, fun y hy => by rcases List.mem_cons.1 hy with rfl | g; exact c; exact h y g⟩
theorem spans_skip (data : List Int) (hB : ∀ x ∈ data, 0 ≤ x ∧ x ≤ 255) (a : ByteArray) (acc : List (Nat × Nat)) (op : Option Nat) (R : List Int) : ∀ (m : Nat) (X : List Int) (i n : Nat), X.length ≤ m → data.drop i = X ++ 10 :: R → dP 10 X = false → data.length < i + n → spansP data a data.length n acc op i = spansP data a data.length (data.length + 1) acc op (i + X.length + 1)
  | m, X, i, n, hm, h, hd, hn => by
    have hl : i + X.length + (R.length + 1) = data.length := by
      have := congrArg List.length h
      rw [List.length_drop, List.length_append, List.length_cons] at this
      omega
    obtain ⟨n, rfl⟩ : ∃ q, n = q + 1 := ⟨n - 1, by omega⟩
    rw [dP_split, Bool.or_eq_false_iff] at hd
    rcases split10 X with h0 | ⟨A, C, e, hA⟩
    · have hp := pre_no X [] (by rw [List.append_nil]; exact hd.1) a
      rw [spans_line data hB a X R i n acc op h h0, if_neg (by have := hp []; rwa [List.append_nil] at this), if_neg (hp _)]
      exact spans_fuel data a _ n (data.length + 1) _ acc op (by omega) (by omega)
    · have hp := pre_no A (10 :: C) (by rw [← e]; exact hd.1) a
      have h' : data.drop i = A ++ 10 :: (C ++ 10 :: R) := by rw [h, e]; simp
      have hlen : X.length = A.length + 1 + C.length := by rw [e]; simp; omega
      have h2 : data.drop (i + A.length + 1) = C ++ 10 :: R := by rw [Nat.add_assoc, ← List.drop_drop, h', show A ++ 10 :: (C ++ 10 :: R) = (A ++ [10]) ++ (C ++ 10 :: R) by simp, show A.length + 1 = (A ++ [10]).length by simp, List.drop_left]
      have hdC : dP 10 C = false := by rw [dP_dd]; exact dd_suf (10 :: C) A (by rw [← e]; exact hd.2)
      match m, hm with
      | 0, hm => omega
      | m + 1, hm =>
        rw [spans_line data hB a A _ i n acc op h' hA, if_neg (by have := hp []; rwa [List.append_nil] at this), if_neg (hp _), spans_skip data hB a acc op R m C (i + A.length + 1) n (by omega) h2 hdC (by omega)]
        rw [show i + A.length + 1 + C.length + 1 = i + X.length + 1 by omega]
def posL (a : ByteArray) : Nat → List (List Int) → List (Nat × Nat)
  | _, [] => []
  | i, x :: r => (i + (a.size + 3), i + (a.size + 3) + x.length) :: posL a (i + (a.size + 3) + x.length + 1) r
theorem spans_enc (data : List Int) (hB : ∀ x ∈ data, 0 ≤ x ∧ x ≤ 255) (a : ByteArray) (ha : ∀ x ∈ bytesOf a, x ≠ 10) : ∀ (l : List (List Int)) (i n : Nat) (acc : List (Nat × Nat)) (op : Option Nat), data.drop i = encM a l → data.length < i + n → (∀ x ∈ l, dP 10 x = false) → spansP data a data.length n acc op i = putP acc i op ++ posL a i l := by
  have hd10 : ∀ x ∈ dash a, x ≠ 10 := fun x hx => by
    rcases List.mem_cons.1 hx with rfl | g
    · decide
    · rcases List.mem_cons.1 g with rfl | g
      · decide
      · exact ha x g
  intro l
  induction l with
  | nil =>
    intro i n acc op h hn _
    have h' : data.drop i = (dash a ++ [45, 45]) ++ 10 :: [] := by rw [h, encM, fin_dash]
    have hl := congrArg List.length h'
    rw [List.length_drop, List.length_append] at hl
    obtain ⟨n, rfl⟩ : ∃ q, n = q + 1 := ⟨n - 1, by simp at hl; omega⟩
    rw [spans_line data hB a _ [] i n acc op h' (fun x hx => by rcases List.mem_append.1 hx with g | g; exact hd10 x g; simp at g; omega), if_neg (by intro e; have := congrArg List.length e; simp at this), if_pos rfl, posL, List.append_nil]
  | cons x r ih =>
    intro i n acc op h hn hx
    have h' : data.drop i = dash a ++ 10 :: (x ++ 10 :: encM a r) := by rw [h, encM, mid_dash]; simp
    have hl := congrArg List.length h'
    simp only [List.length_drop, List.length_append, List.length_cons, dash_len] at hl
    obtain ⟨n, rfl⟩ : ∃ q, n = q + 1 := ⟨n - 1, by omega⟩
    have h2 : data.drop (i + (a.size + 3)) = x ++ 10 :: encM a r := by
      rw [← List.drop_drop, h', show dash a ++ 10 :: (x ++ 10 :: encM a r) = (dash a ++ [10]) ++ (x ++ 10 :: encM a r) by simp, show a.size + 3 = (dash a ++ [10]).length by simp [dash_len], List.drop_left]
    have h3 : data.drop (i + (a.size + 3) + x.length + 1) = encM a r := by
      rw [Nat.add_assoc (i + (a.size + 3)), ← List.drop_drop, h2, show x ++ 10 :: encM a r = (x ++ [10]) ++ encM a r by simp, show x.length + 1 = (x ++ [10]).length by simp, List.drop_left]
    rw [spans_line data hB a _ _ i n acc op h' hd10, if_pos rfl, dash_len, show i + (a.size + 2) + 1 = i + (a.size + 3) by omega, spans_skip data hB a _ _ _ x.length x _ n (Nat.le_refl _) h2 (hx x (by simp)) (by omega), ih _ _ _ _ h3 (by omega) (fun y hy => hx y (by simp [hy])), posL]
    unfold putP
    simp only [List.append_assoc, List.cons_append, List.nil_append]
    rw [show max (i + (a.size + 3)) (i + (a.size + 3) + x.length + 1 - 1) = i + (a.size + 3) + x.length by omega]
theorem oneP_cut (data B : List Int) (f : Nat) (hd : data.length ≤ 1048576) (h : (data.take (f + B.length)).drop f = B) (hl : f + B.length ≤ data.length) : (oneP data f (f + B.length)).1.f0 = (oneP B 0 B.length).1.f0 ∧ ∃ a : Nat, (oneP B 0 B.length).1.f3 = (a : Int) ∧ a ≤ B.length ∧ (oneP data f (f + B.length)).1.f3 = ((f + a : Nat) : Int) ∧ (oneP B 0 B.length).1.f4 = (B.length : Int) ∧ (oneP data f (f + B.length)).1.f4 = ((f + B.length : Nat) : Int) := by
  unfold oneP
  rw [h]
  simp only [List.take_length, List.drop_zero]
  obtain ⟨a, ha, hle⟩ := parseF_at B (B.length + 1) 0 [] (Nat.zero_le _)
  have w0 : wrap64 (((0 : Nat) : Int) + (a : Int)) = (a : Int) := by rw [wrap64_in (by omega)]; omega
  have w1 : wrap64 ((f : Int) + (a : Int)) = ((f + a : Nat) : Int) := by rw [wrap64_in (by omega)]; omega
  by_cases c : (parseF (B.length + 1) B 0 ([] : List S151)).2.2 = true
  · rw [if_pos c, if_pos c, ha, w0, w1]
    clear w0 w1
    by_cases d : (ofF ctB (parseF (B.length + 1) B 0 ([] : List S151)).1).2 = true
    · rw [if_pos d, if_pos d]; exact ⟨rfl, a, rfl, hle, rfl, rfl, rfl⟩
    · rw [if_neg d, if_neg d]; exact ⟨rfl, a, rfl, hle, rfl, rfl, rfl⟩
  · rw [if_neg c, if_neg c]
    exact ⟨rfl, 0, rfl, Nat.zero_le _, rfl, rfl, rfl⟩
def smallM (a : ByteArray) : Prop := a = strOfNums [98] ∨ a = strOfNums [109, 97, 114, 107]
theorem head_hd (a : ByteArray) : headB a = hdL (bytesOf a) ++ 10 :: [10] := by
  unfold headB hdL
  rw [bytesOf_app, bytesOf_app]
  rfl
theorem root_of (a : ByteArray) (m : List Int) (hm : bytesOf a = m) (hm10 : ∀ x ∈ m, x ≠ 10) (hml : m.length ≤ 20) (X : List Int) (h1 : (lineF [] (strOfNums (hdL m))).map (fun f => (bytesOf (ofF ctB f).1, (ofF ctB f).2, faultF f == 0)) = some (vaL m, true, true)) (h2 : (impl_TypeOf.f 200 (strOfNums (vaL m))).map (fun r => r.1) = some 2) (h3 : bytesOf (nmF ((piecesB (strOfNums (vaL m))).drop 1) bndB).1 = m) :
    (oneP (headB a ++ X) 0 (headB a ++ X).length).1.f0 = 2 ∧ (oneP (headB a ++ X) 0 (headB a ++ X).length).1.f3 = ((headB a).length : Int) ∧ (oneP (headB a ++ X) 0 (headB a ++ X).length).2 = a := by
  obtain ⟨f, e1, e2⟩ := map_ex h1
  obtain ⟨q1, q2⟩ := Prod.mk.inj e2
  obtain ⟨q2, q3⟩ := Prod.mk.inj q2
  obtain ⟨r, r1, r2⟩ := map_ex h2
  have hv : (ofF ctB f).1 = strOfNums (vaL m) := by rw [← q1, strOfNums_bytesOf]
  have hvs : (strOfNums (vaL m)).size ≤ 1048576 := by rw [strOfNums_size]; simp [vaL]; omega
  have ht := typ_low _ hvs r r1
  have hD : headB a ++ X = hdL m ++ 10 :: 10 :: X := by rw [head_hd, hm]; simp
  have hp := parse_one (headB a ++ X) (hdL m) X f hD (fun x hx => by
    unfold hdL at hx
    rcases List.mem_append.1 hx with g | g
    · exact (by decide : ∀ x ∈ ([67, 111, 110, 116, 101, 110, 116, 45, 84, 121, 112, 101, 58, 32, 109, 117, 108, 116, 105, 112, 97, 114, 116, 47, 109, 105, 120, 101, 100, 59, 32, 98, 111, 117, 110, 100, 97, 114, 121, 61] : List Int), x ≠ 10) x g
    · exact hm10 x g) (by simp [hdL]) e1
  have hlen : (hdL m).length + 2 = (headB a).length := by rw [head_hd, hm]; simp
  have w : wrap64 (((0 : Nat) : Int) + (((hdL m).length + 2 : Nat) : Int)) = (((hdL m).length + 2 : Nat) : Int) := by
    have : (hdL m).length = 40 + m.length := by simp [hdL]; omega
    rw [wrap64_in (by omega)]; omega
  unfold oneP
  simp only [List.take_length, List.drop_zero]
  rw [hp]
  simp only
  rw [if_pos q3, if_pos q2, hv, ht, r2, w, hlen, if_pos rfl]
  exact ⟨rfl, rfl, by rw [← strOfNums_bytesOf (nmF _ _).1, h3, ← hm, strOfNums_bytesOf]⟩
theorem root_small (a : ByteArray) (h : smallM a) (X : List Int) : (oneP (headB a ++ X) 0 (headB a ++ X).length).1.f0 = 2 ∧ (oneP (headB a ++ X) 0 (headB a ++ X).length).1.f3 = ((headB a).length : Int) ∧ (oneP (headB a ++ X) 0 (headB a ++ X).length).2 = a := by
  rcases h with e | e
  · exact root_of a [98] (by rw [e]; decide) (by decide) (by decide) X hd1_of ty1 nm1
  · exact root_of a [109, 97, 114, 107] (by rw [e]; decide) (by decide) (by decide) X hd2_of ty2 nm2
def kidR (data : List Int) (s : Nat × Nat) (n : Int) : S23 := ⟨(oneP data s.1 s.2).1.f0, (oneP data s.1 s.2).1.f1, (oneP data s.1 s.2).1.f2, (oneP data s.1 s.2).1.f3, (oneP data s.1 s.2).1.f4, 0, n⟩
def kidsR (data : List Int) : List (Nat × Nat) → Nat → List S23
  | [], _ => []
  | s :: ss, i => kidR data s ((i + 1 : Nat) : Int) :: kidsR data ss (i + 1)
theorem kidsR_len (data : List Int) : ∀ (ss : List (Nat × Nat)) (i : Nat), (kidsR data ss i).length = ss.length
  | [], _ => rfl
  | s :: ss, i => by rw [kidsR, List.length_cons, kidsR_len data ss, List.length_cons]
theorem kidsR_at (data : List Int) : ∀ (ss : List (Nat × Nat)) (i j : Nat) (s : Nat × Nat), ss[j]? = some s → (kidsR data ss i)[j]? = some (kidR data s ((i + j + 1 : Nat) : Int))
  | [], _, _, _, h => by simp at h
  | t :: ss, i, 0, s, h => by
    rw [List.getElem?_cons_zero] at h
    rw [kidsR, List.getElem?_cons_zero, Option.some.inj h]
  | t :: ss, i, j + 1, s, h => by
    rw [List.getElem?_cons_succ] at h
    rw [kidsR, List.getElem?_cons_succ, kidsR_at data ss (i + 1) j s h, show i + 1 + j + 1 = i + (j + 1) + 1 by omega]
theorem kidsR_f5 (data : List Int) : ∀ (ss : List (Nat × Nat)) (i : Nat), ∀ x ∈ kidsR data ss i, x.f5 = 0
  | [], _, x, h => by simp [kidsR] at h
  | s :: ss, i, x, h => by
    rw [kidsR] at h
    rcases List.mem_cons.1 h with rfl | g
    · rfl
    · exact kidsR_f5 data ss (i + 1) x g
theorem kidsP_leaves (data : List Int) (d : Nat) : ∀ (ss : List (Nat × Nat)) (i : Nat) (l : List S23), (∀ s ∈ ss, (oneP data s.1 s.2).1.f0 ≠ 2) → l.length + ss.length ≤ 8 → kidsP (addP data (d + 1)) 0 ss i l = l ++ kidsR data ss i
  | [], i, l, _, _ => by rw [kidsP, kidsR, List.append_nil]
  | s :: ss, i, l, h, hl => by
    rw [List.length_cons] at hl
    rw [kidsP, if_pos (by omega), addP, if_neg (fun q => h s (by simp) q.1), nowP, kidsP_leaves data d ss (i + 1) _ (fun t ht => h t (by simp [ht])) (by rw [List.length_append, List.length_singleton]; omega), kidsR]
    unfold kidR
    simp
theorem posL_len (a : ByteArray) : ∀ (l : List (List Int)) (i : Nat), (posL a i l).length = l.length
  | [], _ => rfl
  | x :: r, i => by rw [posL, List.length_cons, posL_len a r, List.length_cons]
theorem posL_at (data : List Int) (a : ByteArray) : ∀ (l : List (List Int)) (i j : Nat) (s : Nat × Nat), data.drop i = encM a l → (posL a i l)[j]? = some s → ∃ B, l[j]? = some B ∧ s.2 = s.1 + B.length ∧ (data.take s.2).drop s.1 = B ∧ s.2 ≤ data.length
  | [], _, _, _, _, h => by simp [posL] at h
  | x :: r, i, j, s, h, hs => by
    have h' : data.drop i = dash a ++ 10 :: (x ++ 10 :: encM a r) := by rw [h, encM, mid_dash]; simp
    have hl := congrArg List.length h'
    simp only [List.length_drop, List.length_append, List.length_cons, dash_len] at hl
    have h2 : data.drop (i + (a.size + 3)) = x ++ 10 :: encM a r := by
      rw [← List.drop_drop, h', show dash a ++ 10 :: (x ++ 10 :: encM a r) = (dash a ++ [10]) ++ (x ++ 10 :: encM a r) by simp, show a.size + 3 = (dash a ++ [10]).length by simp [dash_len], List.drop_left]
    have h3 : data.drop (i + (a.size + 3) + x.length + 1) = encM a r := by
      rw [Nat.add_assoc (i + (a.size + 3)), ← List.drop_drop, h2, show x ++ 10 :: encM a r = (x ++ [10]) ++ encM a r by simp, show x.length + 1 = (x ++ [10]).length by simp, List.drop_left]
    cases j with
    | zero =>
      rw [posL, List.getElem?_cons_zero] at hs
      rw [← Option.some.inj hs]
      refine ⟨x, by simp, rfl, ?_, by show i + (a.size + 3) + x.length ≤ _; omega⟩
      show (data.take (i + (a.size + 3) + x.length)).drop (i + (a.size + 3)) = x
      rw [List.drop_take, h2, Nat.add_sub_cancel_left]
      simp
    | succ j =>
      rw [posL, List.getElem?_cons_succ] at hs
      obtain ⟨B, b1, b2⟩ := posL_at data a r _ j s h3 hs
      exact ⟨B, by rw [List.getElem?_cons_succ]; exact b1, b2⟩
theorem small_10 (a : ByteArray) (h : smallM a) : (∀ x ∈ bytesOf a, x ≠ 10) ∧ 1 ≤ a.size ∧ a.size ≤ 20 := by
  rcases h with e | e <;> rw [e] <;> decide
theorem allP_msg (a : ByteArray) (ha : smallM a) (l : List (List Int)) (hn : l.length ≤ 7) (hk : ∀ B ∈ l, (oneP B 0 B.length).1.f0 ≠ 2 ∧ dP 10 B = false) (data : List Int) (he : data = headB a ++ encM a l) (hB : ∀ x ∈ data, 0 ≤ x ∧ x ≤ 255) (hl : data.length ≤ 1048576) :
    data.drop (headB a).length = encM a l ∧ ∃ r : S23, r.f0 = 2 ∧ r.f5 = -1 ∧ allP data = r :: kidsR data (posL a (headB a).length l) 0 := by
  obtain ⟨s1, s2, s3⟩ := small_10 a ha
  have hr := root_small a ha (encM a l)
  rw [← he] at hr
  obtain ⟨r1, r2, r3⟩ := hr
  have hdr : data.drop (headB a).length = encM a l := by rw [he, List.drop_left]
  have hhl : (headB a).length ≤ data.length := by rw [he]; simp
  have hsp : spP data 0 data.length = posL a (headB a).length l := by
    unfold spP
    rw [r2, r3, Int.toNat_natCast, spans_enc data hB a s1 l _ _ [] none hdr (by omega) (fun x hx => (hk x hx).2)]
    rfl
  refine ⟨hdr, ⟨(oneP data 0 data.length).1.f0, (oneP data 0 data.length).1.f1, (oneP data 0 data.length).1.f2, (oneP data 0 data.length).1.f3, (oneP data 0 data.length).1.f4, -1, 0⟩, r1, rfl, ?_⟩
  unfold allP
  rw [addP, if_pos ⟨r1, by omega, by rw [r3]; omega, by rw [r3]; omega⟩, hsp]
  have := kidsP_leaves data 1 (posL a (headB a).length l) 0 (nowP data [] 0 data.length (-1) 0) (fun s hs => by
    obtain ⟨j, hj, e⟩ := List.mem_iff_getElem.1 hs
    obtain ⟨B, b1, b2, b3, b4⟩ := posL_at data a l _ j s hdr (by rw [List.getElem?_eq_getElem hj, e])
    rw [b2] at b3 b4
    have := (oneP_cut data B s.1 hl b3 b4).1
    rw [b2, this]
    exact (hk B (List.mem_of_getElem? b1)).1) (by rw [nowP_len, posL_len]; simp; omega)
  exact this
theorem ix_kids (data : List Int) : ∀ (ss : List (Nat × Nat)) (i j i0 : Nat), j < ss.length → ixP 0 ((i + j + 1 : Nat) : Int) (kidsR data ss i) i0 = ((i0 + j : Nat) : Int)
  | [], _, _, _, h => by simp at h
  | s :: ss, i, 0, i0, h => by
    rw [kidsR, ixP, if_pos (show hitP 0 ((i + 0 + 1 : Nat) : Int) (kidR data s ((i + 1 : Nat) : Int)) from ⟨rfl, rfl⟩)]
    rfl
  | s :: ss, i, j + 1, i0, h => by
    rw [kidsR, ixP, if_neg (show ¬ hitP 0 ((i + (j + 1) + 1 : Nat) : Int) (kidR data s ((i + 1 : Nat) : Int)) from fun q => by have h_ : ((i + 1 : Nat) : Int) = ((i + (j + 1) + 1 : Nat) : Int) := q.2; omega), show i + (j + 1) + 1 = (i + 1) + j + 1 by omega, ix_kids data ss (i + 1) j (i0 + 1) (by simpa using h)]
    congr 1
    omega
theorem implBody (data : List Int) (hd : data.length ≤ 400) (L : List S23) (hl : L.length ≤ 8) (k : Nat) (hp : impl_partsOf.f k data = some L) (i : Nat) (x : S23) (hx : L[i]? = some x) (p q : Nat) (h3 : x.f3 = (p : Int)) (h4 : x.f4 = (q : Int)) (hpq : p ≤ q) (hq : q ≤ data.length) : impl_BodyOf.f k data (i : Int) = some (0, (data.take q).drop p) := by
  have hi : i < L.length := lt_of_at hx
  have hc := cutD_len data p q hpq hq
  have w : wrap64 ((L.length : Int) - 1) = (L.length : Int) - 1 := wrap64_in (by omega)
  have hin : impl_within.f (i : Int) 0 ((L.length : Int) - 1) = some true := by
    unfold impl_within.f
    rw [if_pos (by omega), decide_eq_true (by omega)]
  have hr : rd_T23 L (i : Int) = x := by
    rw [rdP_drop2 L i hi]
    rw [List.getElem?_eq_getElem hi] at hx
    exact Option.some.inj hx
  unfold impl_BodyOf.f impl_partCode.f impl_Part_85.f slices_Clone_byte_byte.f
  rw [if_neg (by omega), hp, Option.bind_some, Option.bind_some, w, hin, Option.bind_some, if_pos rfl, Option.bind_some, if_pos rfl, if_pos (by omega), if_pos (by show (i : Int) < (L.length : Int); omega), hr, h3, h4, if_pos (by omega), if_pos (by omega), if_pos (by omega), Int.toNat_natCast, Int.toNat_natCast, if_pos (by rw [hc]; omega)]
  rfl
def mk4 (a : ByteArray) : Prop := smallM a ∨ a = (⟨#[]⟩ : ByteArray) ∨ a = (⟨#[66]⟩ : ByteArray)
theorem pick4 (l : List Int) (hB : ∀ x ∈ l, 0 ≤ x ∧ x ≤ 255) (hl : l.length ≤ 1048576) (i : Int) (hi : 0 ≤ i ∧ i ≤ 4294967296) (Bs : List (List Int)) : ∃ a, mk4 a ∧ ((some (([(⟨#[98]⟩ : ByteArray), (⟨#[109, 97, 114, 107]⟩ : ByteArray), (⟨#[]⟩ : ByteArray), (⟨#[66]⟩ : ByteArray)] : List ByteArray) : List ByteArray)).bind fun y479 => ((spec_l1Pick.f l i (([0, 1, 0, 1, 2, 3] : List Int))).bind fun bt485 => (if 0 ≤ bt485.1 then (if bt485.1 < (y479.length : Int) then (some (rdOf ByteArray.empty y479 bt485.1, Bs)) else (none)) else (none)))) = some (a, Bs) := by
  obtain ⟨j, j1, j2⟩ := spec_l1Pick_eq l hB hl i hi [0, 1, 0, 1, 2, 3] (by simp)
  rw [Option.bind_some, j2, Option.bind_some]
  simp only
  match j, j1 with
  | 0, _ => exact ⟨⟨#[98]⟩, .inl (.inl rfl), rfl⟩
  | 1, _ => exact ⟨⟨#[109, 97, 114, 107]⟩, .inl (.inr rfl), rfl⟩
  | 2, _ => exact ⟨⟨#[98]⟩, .inl (.inl rfl), rfl⟩
  | 3, _ => exact ⟨⟨#[109, 97, 114, 107]⟩, .inl (.inr rfl), rfl⟩
  | 4, _ => exact ⟨⟨#[]⟩, .inr (.inl rfl), rfl⟩
  | 5, _ => exact ⟨⟨#[66]⟩, .inr (.inr rfl), rfl⟩
  | j + 6, h => exact absurd h (by simp)
theorem draw_l0 (l : List Int) (hB : ∀ x ∈ l, 0 ≤ x ∧ x ≤ 255) (hl : l.length ≤ 1048576) : ∀ (n k : Nat) (acc : List (List Int)) (i : Int), acc.length + n ≤ 3 → 0 ≤ i ∧ i + 100 * n ≤ 100000 → 1010 + n < k → (∀ B ∈ acc, leafP B ∧ B.length ≤ 800 ∧ ∀ x ∈ B, 0 ≤ x ∧ x ≤ 255) →
    ∃ a Bs, mk4 a ∧ spec_DrawBuildMulti.l0 k acc (n : Int) l i = some (a, Bs) ∧ Bs.length ≤ 7 ∧ (∀ B ∈ Bs, B.length ≤ 800 ∧ ∀ x ∈ B, 0 ≤ x ∧ x ≤ 255) ∧ (((∀ B ∈ Bs, leafP B) ∧ Bs.length ≤ 3) ∨ (∃ B ∈ Bs, dP 10 B = true) ∨ Bs.length = 7)
  | 0, k, acc, i, hn, hi, hk, ha => by
    obtain ⟨k, rfl⟩ : ∃ q, k = q + 1 := ⟨k - 1, by omega⟩
    obtain ⟨v, v1, v2, v3⟩ := spec_l1Next_eq l hB hl i 12 (by omega) (by omega)
    rw [spec_DrawBuildMulti.l0, if_neg (by decide), v1, Option.bind_some]
    simp only
    by_cases c0 : v = 0
    · obtain ⟨a, a1, a2⟩ := pick4 l hB hl (i + 1) (by omega) (acc ++ [[97, 10, 45, 45, 120]])
      rw [if_pos c0, if_pos (by omega), a2]
      refine ⟨a, _, a1, rfl, by rw [List.length_append, List.length_singleton]; omega, fun B hb => ?_, .inr (.inl ⟨[97, 10, 45, 45, 120], by simp, by decide⟩)⟩
      rcases List.mem_append.1 hb with g | g
      · exact (ha B g).2
      · rw [List.mem_singleton.1 g]; exact ⟨by simp, by decide⟩
    rw [if_neg c0]
    by_cases c1 : v = 1
    · obtain ⟨a, a1, a2⟩ := pick4 l hB hl (i + 1) (by omega) (List.replicate 7 [])
      rw [if_pos c1, if_pos (by decide), a2]
      refine ⟨a, _, a1, rfl, by simp, fun B hb => ?_, .inr (.inr (by simp))⟩
      rw [List.eq_of_mem_replicate hb]
      exact ⟨by simp, by simp⟩
    rw [if_neg c1]
    obtain ⟨a, a1, a2⟩ := pick4 l hB hl (i + 1) (by omega) acc
    rw [a2]
    exact ⟨a, acc, a1, rfl, by omega, fun B hb => (ha B hb).2, .inl ⟨fun B hb => (ha B hb).1, by omega⟩⟩
  | n + 1, k, acc, i, hn, hi, hk, ha => by
    obtain ⟨k, rfl⟩ : ∃ q, k = q + 1 := ⟨k - 1, by omega⟩
    obtain ⟨out, j, o1, o2, o3, o4, o5, o6⟩ := leaf_ex l hB hl i (by omega) k (by omega)
    have w : wrap64 (((n + 1 : Nat) : Int) - 1) = (n : Int) := by rw [wrap64_in (by omega)]; omega
    rw [spec_DrawBuildMulti.l0, if_pos (by omega), o1, Option.bind_some]
    simp only
    rw [if_pos (by omega), w]
    clear w
    exact draw_l0 l hB hl n k (acc ++ [out]) j (by rw [List.length_append, List.length_singleton]; omega) (by omega) (by omega) (fun B hb => by
      rcases List.mem_append.1 hb with g | g
      · exact ha B g
      · rw [List.mem_singleton.1 g]; exact ⟨o6, o4, o5⟩)
theorem draw_b (l : List Int) (hB : ∀ x ∈ l, 0 ≤ x ∧ x ≤ 255) (hl : l.length ≤ 1048576) (k : Nat) (hk : 1020 < k) : ∃ a Bs, mk4 a ∧ spec_DrawBuildMulti.f k l = some (a, Bs) ∧ Bs.length ≤ 7 ∧ (∀ B ∈ Bs, B.length ≤ 800 ∧ ∀ x ∈ B, 0 ≤ x ∧ x ≤ 255) ∧ (((∀ B ∈ Bs, leafP B) ∧ Bs.length ≤ 3) ∨ (∃ B ∈ Bs, dP 10 B = true) ∨ Bs.length = 7) := by
  obtain ⟨v, v1, v2, v3⟩ := spec_l1Next_eq l hB hl 0 4 (by omega) (by omega)
  obtain ⟨n, rfl⟩ : ∃ n : Nat, v = (n : Int) := ⟨v.toNat, by omega⟩
  unfold spec_DrawBuildMulti.f spec_l1Source.f
  rw [Option.bind_some]
  simp only
  rw [v1, Option.bind_some]
  exact draw_l0 l hB hl n k [] (0 + 1) (by simp; omega) (by omega) (by omega) (by simp)
theorem mk4_small (a : ByteArray) (h : mk4 a) (k : Nat) (hk : 1048576 < k) (hb : impl_isSmallWord.f k a 20 = some true) : smallM a := by
  have no : ∀ r : ByteArray, impl_isSmallWord.f 10 r 20 = some false → impl_isSmallWord.f k r 20 = some true → False := fun r h1 h2 => by
    have h3 := upO (fun k => impl_isSmallWord.f k r 20) (fun k => impl_isSmallWord.mono r 20 k) (show 10 ≤ k by omega) h1
    have := h3.symm.trans h2
    simp at this
  rcases h with h | h | h
  · exact h
  · rw [h] at hb; exact (no _ (by decide +kernel) hb).elim
  · rw [h] at hb; exact (no _ (by decide +kernel) hb).elim
theorem count_l0 (Bs : List (List Int)) (data : List Int) (L : List S23) (hL : L.length ≤ 1000) : ∀ (m j c k : Nat), L.length = j + m → c + m ≤ 1000000 → (∀ (i : Nat) (x : S23), j ≤ i → L[i]? = some x → x.f5 = 0) → laws_FnBuilds.l0 (k + m + 1) Bs (c : Int) (j : Int) 0 data 0 L = laws_FnBuilds.l1 k Bs ((c + m : Nat) : Int) 0 0 data 0 L
  | 0, j, c, k, h, _, _ => by rw [laws_FnBuilds.l0, if_neg (by omega)]; rfl
  | m + 1, j, c, k, h, hc, hf => by
    have hj : j < L.length := by omega
    have e : (rd_T23 L (j : Int)).f5 = 0 := by rw [rdP_drop2 L j hj]; exact hf j _ (Nat.le_refl _) (List.getElem?_eq_getElem hj)
    rw [show k + (m + 1) + 1 = (k + m + 1) + 1 by omega, laws_FnBuilds.l0, if_pos (by omega), if_pos (by omega), if_pos e, wrap_succ c (by omega), wrap_succ j (by omega), count_l0 Bs data L hL m (j + 1) (c + 1) k (by omega) (by omega) (fun i x h1 h2 => hf i x (by omega) h2), show c + 1 + m = c + (m + 1) by omega]
theorem allP_leaf (B : List Int) (h : (oneP B 0 B.length).1.f0 ≠ 2) : allP B = [⟨(oneP B 0 B.length).1.f0, (oneP B 0 B.length).1.f1, (oneP B 0 B.length).1.f2, (oneP B 0 B.length).1.f3, (oneP B 0 B.length).1.f4, -1, 0⟩] := by
  unfold allP
  rw [addP, if_neg (fun q => h q.1)]
  rfl
theorem builds_l1 (a : ByteArray) (Bs : List (List Int)) (hn : Bs.length ≤ 3) (hk : ∀ B ∈ Bs, (oneP B 0 B.length).1.f0 ≠ 2 ∧ dP 10 B = false) (data : List Int) (hd : data.length ≤ 400) (hB : ∀ x ∈ data, 0 ≤ x ∧ x ≤ 255) (hBs : ∀ B ∈ Bs, ∀ x ∈ B, 0 ≤ x ∧ x ≤ 255) (r : S23) (hr0 : r.f0 = 2) (hr5 : r.f5 = -1) (i0 : Nat) (hdr : data.drop i0 = encM a Bs) (hL : allP data = r :: kidsR data (posL a i0 Bs) 0) :
    ∀ (m j k : Nat), Bs.length = j + m → fuelP 3 + 10 + m < k → laws_FnBuilds.l1 k Bs (Bs.length : Int) (j : Int) 0 data 0 (allP data) = some true
  | 0, j, k, h, hk' => by
    obtain ⟨k, rfl⟩ : ∃ q, k = q + 1 := ⟨k - 1, by omega⟩
    rw [laws_FnBuilds.l1, if_neg (by omega), if_pos rfl, if_pos rfl, hL]
    have h0 : rd_T23 (r :: kidsR data (posL a i0 Bs) 0) 0 = r := rfl
    rw [if_pos (by rw [List.length_cons]; omega), if_pos (by rw [List.length_cons]; omega), h0, if_pos hr0, hr5]
    rfl
  | m + 1, j, k, h, hk' => by
    obtain ⟨k, rfl⟩ : ∃ q, k = q + 1 := ⟨k - 1, by omega⟩
    have f3 : 9000000 < fuelP 3 := by unfold fuelP; omega
    have hj : j < Bs.length := by omega
    have hlen := allP_len data
    have hp := (parts_both data (by omega) hB k (by omega)).2
    have hpl : j < (posL a i0 Bs).length := by rw [posL_len]; exact hj
    obtain ⟨s, hs⟩ : ∃ s, (posL a i0 Bs)[j]? = some s := ⟨_, List.getElem?_eq_getElem hpl⟩
    obtain ⟨B, b1, b2, b3, b4⟩ := posL_at data a Bs i0 j s hdr hs
    have hBm : B ∈ Bs := List.mem_of_getElem? b1
    have hrd : rd_L5 Bs (j : Int) = B := by rw [rdL_at Bs j hj]; rw [List.getElem?_eq_getElem hj] at b1; exact Option.some.inj b1
    have hkid : (allP data)[j + 1]? = some (kidR data s ((0 + j + 1 : Nat) : Int)) := by rw [hL, List.getElem?_cons_succ]; exact kidsR_at data _ 0 j s hs
    have b3' := b3
    have b4' := b4
    rw [b2] at b3' b4'
    obtain ⟨_, at0, q1, q2, q3, q4, q5⟩ := oneP_cut data B s.1 (by omega) b3' b4'
    rw [← b2] at q3 q5
    have hBl : B.length ≤ 400 := by omega
    have body1 := implBody data hd (allP data) hlen k hp (j + 1) _ hkid (s.1 + at0) s.2 q3 (by show (oneP data s.1 s.2).1.f4 = _; rw [q5]) (by omega) b4
    have hpB := (parts_both B (by omega) (hBs B hBm) k (by omega)).2
    have hLB := allP_leaf B (hk B hBm).1
    have body2 := implBody B hBl (allP B) (allP_len B) k hpB 0 ⟨(oneP B 0 B.length).1.f0, (oneP B 0 B.length).1.f1, (oneP B 0 B.length).1.f2, (oneP B 0 B.length).1.f3, (oneP B 0 B.length).1.f4, -1, 0⟩ (by rw [hLB]; rfl) at0 B.length q1 q4 q2 (Nat.le_refl _)
    have heq : (data.take s.2).drop (s.1 + at0) = (B.take B.length).drop at0 := by rw [← List.drop_drop, b3, List.take_length]
    have hix : atP (allP data) [((j + 1 : Nat) : Int)] 0 = ((j + 1 : Nat) : Int) := by
      have hx : ixP 0 ((j + 1 : Nat) : Int) (allP data) 0 = ((j + 1 : Nat) : Int) := by
        have := ix_kids data (posL a i0 Bs) 0 j 1 hpl
        rw [Nat.zero_add] at this
        rw [hL, ixP, if_neg (show ¬ hitP 0 ((j + 1 : Nat) : Int) r from fun q => by have := q.1; omega), this]
        congr 1
        omega
      rw [atP, hx, if_neg (by omega)]
      rfl
    have hat : impl_PartAt.f k data [((j + 1 : Nat) : Int)] = some (0, ((j + 1 : Nat) : Int)) := by
      unfold impl_PartAt.f
      have := atI_l0 (allP data) (by omega) [((j + 1 : Nat) : Int)] (by simp) 1 0 k 0 (by simp) (by omega) (by omega)
      rw [List.drop_zero, hix, if_neg (by omega)] at this
      rw [if_neg (by omega), hp, Option.bind_some]
      exact this
    have hpp : impl_ParseParts.f k B = some (0, allP B) := by unfold impl_ParseParts.f; rw [if_neg (by omega), hpB, Option.bind_some]
    have hsame : laws_lwSame.f ((data.take s.2).drop (s.1 + at0)) ((B.take B.length).drop at0) = some true := by unfold laws_lwSame.f; rw [heq, beq_self_eq_true]
    have ih := builds_l1 a Bs hn hk data hd hB hBs r hr0 hr5 i0 hdr hL m (j + 1) k (by omega) (by omega)
    rw [laws_FnBuilds.l1, if_pos (by omega), wrap_succ j (by omega), hat, Option.bind_some, if_pos (by omega), hrd, hpp, Option.bind_some, body1, Option.bind_some]
    simp only
    rw [if_pos trivial, if_pos trivial, if_neg (by rw [hLB]; show ¬ ((1 : Nat) : Int) = 0; decide), if_pos trivial, show (0 : Int) = ((0 : Nat) : Int) from rfl, body2, Option.bind_some]
    simp only
    rw [hsame, Option.bind_some, if_pos rfl]
    exact ih
theorem FnBuilds : laws_FnBuilds.Pure := by
  intro l hm _ hw
  have hB := byte_wf hw
  obtain ⟨K, hK⟩ : ∃ K, fuelP 3 + 100 < K := ⟨_, Nat.lt_succ_self _⟩
  have f3 : 9000000 < fuelP 3 := by unfold fuelP; omega
  refine ⟨K + 20, ?_⟩
  unfold laws_FnBuilds.f laws_lwBig.f
  rw [Option.bind_some]
  by_cases hb : (l.length : Int) > 1048576
  · rw [if_pos (decide_eq_true hb)]
  rw [if_neg (by rw [decide_eq_false hb]; decide)]
  obtain ⟨a, Bs, m4, d1, d2, d3, d4⟩ := draw_b l hB (by omega) (K + 20) (by omega)
  rw [d1, Option.bind_some]
  simp only
  have hms : ∀ (L : List (List Int)), (∀ B ∈ L, B.length ≤ 800) → sumL L ≤ 800 * L.length := by
    intro L
    induction L with
    | nil => intro _; simp [sumL]
    | cons x xs ih =>
      intro h
      have h1 := ih (fun B hb => h B (by simp [hb]))
      have h2 := h x (by simp)
      unfold sumL at h1 ⊢
      simp only [List.map_cons, List.sum_cons, List.length_cons]
      omega
  have hsum := hms Bs (fun B hb => (d3 B hb).1)
  have ha : a.size ≤ 1048576 := by rcases m4 with (h | h) | h | h <;> rw [h] <;> decide
  obtain ⟨b, w1, w2, w3⟩ := both2 a ha Bs (by omega) (fun B hb => (d3 B hb).2) (K + 20) (by omega)
  rw [w3, Option.bind_some]
  by_cases c : (resB b a Bs).1 = 0
  · rw [if_pos c]
    cases b with
    | false => exact absurd c (by unfold resB; rw [if_neg (by decide)]; decide)
    | true =>
      have hsm := mk4_small a m4 (K + 20) (by omega) w1
      unfold resB at c ⊢
      rw [if_pos rfl] at c ⊢
      by_cases g : (Bs.length : Int) > 6
      · rw [if_pos g] at c; exact absurd c (by decide)
      rw [if_neg g] at c ⊢
      unfold outB at c ⊢
      by_cases e : (Bs.any (dP 10)) = true
      · rw [if_pos e] at c; exact absurd c (by decide)
      rw [if_neg e] at c ⊢
      unfold cutO at c ⊢
      by_cases z : ((buildo a Bs (headB a)).length : Int) > 400
      · rw [if_pos z] at c; exact absurd c (by decide)
      rw [if_neg z]
      simp only
      have hno : ∀ B ∈ Bs, dP 10 B = false := fun B hb => Bool.eq_false_iff.2 (fun q => e (List.any_eq_true.2 ⟨B, hb, q⟩))
      obtain ⟨hlf, hn3⟩ : (∀ B ∈ Bs, leafP B) ∧ Bs.length ≤ 3 := by
        rcases d4 with q | ⟨B, hb, q⟩ | q
        · exact q
        · rw [hno B hb] at q; cases q
        · omega
      have hk : ∀ B ∈ Bs, (oneP B 0 B.length).1.f0 ≠ 2 ∧ dP 10 B = false := fun B hb => ⟨leaf_kind B (hlf B hb), hno B hb⟩
      have he := buildo_encM a Bs (headB a)
      have hin : ∀ x ∈ buildo a Bs (headB a), 0 ≤ x ∧ x ≤ 255 := by
        rw [he]
        have : ∀ L : List (List Int), (∀ B ∈ L, ∀ x ∈ B, 0 ≤ x ∧ x ≤ 255) → ∀ x ∈ encM a L, 0 ≤ x ∧ x ≤ 255 := by
          intro L
          induction L with
          | nil => intro _; exact bytesOf_in _
          | cons y ys ih =>
            intro h
            rw [encM]
            exact app_in (bytesOf_in _) (app_in (h y (by simp)) (fun x hx => by
              rcases List.mem_cons.1 hx with q | q
              · rw [q]; omega
              · exact ih (fun B hb => h B (by simp [hb])) x q))
        exact app_in (bytesOf_in _) (this Bs (fun B hb => (d3 B hb).2))
      obtain ⟨D, hD⟩ : ∃ D, D = buildo a Bs (headB a) := ⟨_, rfl⟩
      rw [← hD] at z he hin ⊢
      obtain ⟨hdr, r, r0, r5, hL⟩ := allP_msg a hsm Bs (by omega) hk D he hin (by omega)
      have hp := (parts_both D (by omega) hin (K + 20) (by omega)).2
      have hpp : impl_ParseParts.f (K + 20) D = some (0, allP D) := by unfold impl_ParseParts.f; rw [if_neg (by omega), hp, Option.bind_some]
      rw [hpp, Option.bind_some]
      simp only
      have hlen := allP_len D
      have hkl : (allP D).length = 1 + Bs.length := by rw [hL, List.length_cons, kidsR_len, posL_len]; omega
      have h0 : (rd_T23 (allP D) ((0 : Nat) : Int)).f5 = -1 := by rw [hL]; exact r5
      have hc := count_l0 Bs D (allP D) (by omega) Bs.length 1 0 (K + 20 - 1 - Bs.length - 1) (by omega) (by omega) (fun i x h1 h2 => by
        obtain ⟨i, rfl⟩ : ∃ q, i = q + 1 := ⟨i - 1, by omega⟩
        rw [hL, List.getElem?_cons_succ] at h2
        exact kidsR_f5 D _ 0 x (List.mem_of_getElem? h2))
      have h1 := builds_l1 a Bs hn3 hk D (by omega) hin (fun B hb => (d3 B hb).2) r r0 r5 _ hdr hL Bs.length 0 (K + 20 - 1 - Bs.length - 1) (by omega) (by omega)
      rw [show K + 20 = (K + 20 - 1 - Bs.length - 1 + Bs.length + 1) + 1 by omega]
      show laws_FnBuilds.l0 ((K + 20 - 1 - Bs.length - 1 + Bs.length + 1) + 1) Bs ((0 : Nat) : Int) ((0 : Nat) : Int) 0 D 0 (allP D) = some true
      rw [laws_FnBuilds.l0, if_pos (by omega), if_pos (by omega), if_neg (by rw [h0]; decide), wrap_succ 0 (by omega)]
      rw [Nat.zero_add] at hc
      exact hc.trans h1
  · rw [if_neg c, w2, Option.bind_some, beq_self_eq_true]
end Go.Proofs.YtecpanfndodjgaaDoor.Pure
