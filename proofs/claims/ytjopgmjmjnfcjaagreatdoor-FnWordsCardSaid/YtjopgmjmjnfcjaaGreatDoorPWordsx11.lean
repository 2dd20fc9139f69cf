/- Part of the proof; words that it uses. -/
import Derived.Test.YtjopgmjmjnfcjaaGreatDoorPWordsx0
import Derived.Test.YtjopgmjmjnfcjaaGreatDoorPWordsx8
import Derived.Test.YtjopgmjmjnfcjaaGreatDoorPWordsx9
import Derived.Test.YtjopgmjmjnfcjaaGreatDoorPWordsx10
namespace Go.Proofs.YtjopgmjmjnfcjaaGreatDoor.PWords
open Go.RowKit Go.Proofs.YtjopgmjmjnfcjaaGreatDoorW.PrintWords Go.Proofs.YtjopgmjmjnfcjaaGreatDoorW.PrintLast
set_option linter.unusedVariables false
set_option linter.unusedSimpArgs false
mutual
def spec_l4Word.j0 : Nat → ByteArray → Int → Bool → Option (List Int × Int)
 | 0, _, _, _ => none
 | k + 1, x0, x1, x30 => if x30 = true then (some (([] : List Int), 0)) else ((spec_l4Mark.f k x0 (wrap64 (x1 + 2))).bind fun t508 => (if t508 < 0 then (spec_l4Word.j1 k x0 x1 t508 true) else (if (wrap64 (t508 + 2)) ≥ (x0.size : Int) then (spec_l4Word.j1 k x0 x1 t508 true) else (if 0 ≤ (wrap64 (t508 + 2)) then (if (wrap64 (t508 + 2)) < (x0.size : Int) then (spec_l4Word.j1 k x0 x1 t508 ((bt x0 (wrap64 (t508 + 2))) != 63)) else (none)) else (none)))))
def spec_l4Word.j1 : Nat → ByteArray → Int → Int → Bool → Option (List Int × Int)
 | 0, _, _, _, _ => none
 | k + 1, x0, x1, x6, x50 => if x50 = true then (some (([] : List Int), 0)) else ((spec_l4Mark.f k x0 (wrap64 (x6 + 3))).bind fun t509 => (if t509 < 0 then (spec_l4Word.j2 k x0 x1 x6 t509 true) else (if (wrap64 (t509 + 1)) ≥ (x0.size : Int) then (spec_l4Word.j2 k x0 x1 x6 t509 true) else (if 0 ≤ (wrap64 (t509 + 1)) then (if (wrap64 (t509 + 1)) < (x0.size : Int) then (spec_l4Word.j2 k x0 x1 x6 t509 ((bt x0 (wrap64 (t509 + 1))) != 61)) else (none)) else (none)))))
def spec_l4Word.j2 : Nat → ByteArray → Int → Int → Int → Bool → Option (List Int × Int)
 | 0, _, _, _, _, _ => none
 | k + 1, x0, x1, x6, x7, x70 => if x70 = true then (some (([] : List Int), 0)) else (if 0 ≤ (wrap64 (x1 + 2)) then (if (wrap64 (x1 + 2)) ≤ x6 then (if x6 ≤ (x0.size : Int) then ((spec_l2Of.f k (x0.extract ((wrap64 (x1 + 2)) : Int).toNat (x6 : Int).toNat)).bind fun t510 => (if 0 ≤ (wrap64 (x6 + 1)) then (if (wrap64 (x6 + 1)) < (x0.size : Int) then (if 0 ≤ (wrap64 (x6 + 3)) then (if (wrap64 (x6 + 3)) ≤ x7 then (if x7 ≤ (x0.size : Int) then ((spec_l4Told.f k (bt x0 (wrap64 (x6 + 1))) (x0.extract ((wrap64 (x6 + 3)) : Int).toNat (x7 : Int).toNat)).bind fun bt511 => (if t510 = 0 then (spec_l4Word.j3 k x1 x7 t510 bt511.1 true) else (spec_l4Word.j3 k x1 x7 t510 bt511.1 (!bt511.2)))) else (none)) else (none)) else (none)) else (none)) else (none))) else (none)) else (none)) else (none))
def spec_l4Word.j3 : Nat → Int → Int → Int → List Int → Bool → Option (List Int × Int)
 | 0, _, _, _, _, _ => none
 | k + 1, x1, x7, x8, x9, x95 => if x95 = true then (some (([] : List Int), 0)) else ((spec_l2Decode.f k x8 x9).bind fun bt515 => (if bt515.2 = true then (some (bt515.1, wrap64 ((wrap64 (x7 + 2)) - x1))) else (some (([] : List Int), 0))))
end
def spec_l4Word.f (k : Nat) (a0 : ByteArray) (a1 : Int) : Option (List Int × Int) := if (wrap64 (a1 + 1)) ≥ (a0.size : Int) then (spec_l4Word.j0 k a0 a1 true) else (if 0 ≤ a1 then (if a1 < (a0.size : Int) then (if (bt a0 a1) = 61 then (if 0 ≤ (wrap64 (a1 + 1)) then (if (wrap64 (a1 + 1)) < (a0.size : Int) then (spec_l4Word.j0 k a0 a1 ((bt a0 (wrap64 (a1 + 1))) != 63)) else (none)) else (none)) else (spec_l4Word.j0 k a0 a1 true)) else (none)) else (none))
def spec_l4Word.T10 : Bool × List (List Nat × List Nat) := (true, [([], []), ([], []), ([1], [1]), ([0, 2], [0, 2]), ([], []), ([], []), ([5], [5]), ([], []), ([4, 6, 7], [4, 6, 7]), ([3, 8], [3, 8]), ([9], [9]), ([10], [10]), ([10], [10]), ([11, 9, 0, 1, 2, 3, 4, 5, 6, 7, 8, 9, 10, 11], [11]), ([12, 13, 0, 1, 2, 3, 4, 5, 6, 7, 8, 9, 10, 11, 12, 13], [12])])
def spec_l4Word.B10 : List Nat := [0, 0, 2, 7, 0, 0, 32, 0, 240, 511, 1023, 2047, 2047, 4095, 16383]
theorem spec_l4Word.tab10 : rtab .any (opsOf Tryz.f56 10) = spec_l4Word.T10 := by kernel_rfl
theorem spec_l4Word.bits10 : waitsOk spec_l4Word.T10.2 spec_l4Word.B10 = true := by kernel_rfl
set_option maxHeartbeats 8000000 in
set_option maxRecDepth 100000 in
theorem spec_l4Word.calls (k : Nat) (a0 : ByteArray) (a1 : Int) (r1 : List Int) (r2 : Int) (w : World) (h : spec_l4Word.f k a0 a1 = some (r1, r2)) :
  Calls Tryz.prog 56 #[.string a0, .int .i64 a1] w fun e w' => ∃ v0_ : Value, e = .returned (.tuple #[v0_, .int .i64 r2]) ∧ Kd.R (Kd.int .i64) 2 w' w.heap.size (fun _ => True) v0_ r1 ∧ Below w.heap.size w w' := by
 have HB := aM (Below.refl w.heap.size w)
 have H : (if (wrap64 (a1 + 1)) ≥ (a0.size : Int) then (spec_l4Word.j0 k a0 a1 true) else (if 0 ≤ a1 then (if a1 < (a0.size : Int) then (if (bt a0 a1) = 61 then (if 0 ≤ (wrap64 (a1 + 1)) then (if (wrap64 (a1 + 1)) < (a0.size : Int) then (spec_l4Word.j0 k a0 a1 ((bt a0 (wrap64 (a1 + 1))) != 63)) else (none)) else (none)) else (spec_l4Word.j0 k a0 a1 true)) else (none)) else (none))) = some (r1, r2) := h
 clear h
 have HC3 := aM H
 clear H
 go_enter Tryz.func56, Tryz.ntmps56
 go_upto_region 1 with (fail)
 go_cut [30] (fun v30 wc => ∃ (kq : Nat) (x30_2 : Bool), v30 = .bool x30_2 ∧ Aside0 (spec_l4Word.j0 kq a0 a1 x30_2 = some (r1, r2)) ∧ Aside0 (kq ≤ k) ∧ Aside0 (Below w.heap.size w wc))
 case first =>
  have H := HC3.out
  clear HC3
  by_cases c4 : (wrap64 (a1 + 1)) ≥ (a0.size : Int)
  ·rw [if_pos c4] at H
   have c4b0 : decide ((a0.size : Int) ≤ (wrap64 (a1 + 1))) = true := decide_eq_true c4
   clear c4
   (first | rw [c4b0] | (simp only [i64_w, i32_w]; rw [c4b0]) | skip)
   have H' := aM H
   clear H
   go_wp2
   go_meet
   case rel => exact ⟨_, (true), bS, H', ⟨z34⟩, ⟨bB⟩⟩
  rw [if_neg c4] at H
  have c4b0 : decide ((a0.size : Int) ≤ (wrap64 (a1 + 1))) = false := decide_eq_false c4
  clear c4
  (first | rw [c4b0] | (simp only [i64_w, i32_w]; rw [c4b0]) | skip)
  by_cases c5 : 0 ≤ a1
  ·rw [if_pos c5] at H
   have c5b0 : decide (0 ≤ a1) = true := decide_eq_true c5
   clear c5
   by_cases c6 : a1 < (a0.size : Int)
   ·rw [if_pos c6] at H
    have c6b0 : decide (a1 < (a0.size : Int)) = true := decide_eq_true c6
    clear c6
    have HQ_ := aM H
    clear H
    have p7 : 0 ≤ (a1 : Int) := pI
    have q7 : a1 < (a0.size : Int) := pI
    have hx7 := bt_at a0 a1
    replace p7 := eq_true p7
    replace q7 := eq_true q7
    have H := HQ_.out
    clear HQ_
    by_cases c8 : (bt a0 a1) = 61
    ·rw [if_pos c8] at H
     have c8b0 : ((bt a0 a1) == 61) = true := beq_iff_eq.mpr c8
     have c8b1 : ((bt a0 a1) != 61) = false := bne_eq_false_iff_eq.mpr c8
     clear c8
     obtain ⟨ji9, hji9⟩ : ∃ j_ : Int, (wrap64 (a1 + 1)) = j_ := ⟨_, rfl⟩
     replace H : (if 0 ≤ (ji9) then (if (ji9) < (a0.size : Int) then (spec_l4Word.j0 k a0 a1 ((bt a0 (ji9)) != 63)) else (none)) else (none)) = some (r1, r2) := by first | (rw [hji9] at H; exact H) | (simp only [hji9] at H ⊢; exact H)
     (try rw [hji9] at c4b0)
     have hji9w : (IntKind.i64.wrap (a1 + 1)) = ji9 := (i64_w _).trans hji9
     (try simp only [c8b0, c8b1])
     by_cases c10 : 0 ≤ (ji9)
     ·rw [if_pos c10] at H
      have c10b0 : decide (0 ≤ (ji9)) = true := decide_eq_true c10
      clear c10
      by_cases c11 : (ji9) < (a0.size : Int)
      ·rw [if_pos c11] at H
       have c11b0 : decide ((ji9) < (a0.size : Int)) = true := decide_eq_true c11
       clear c11
       have H' := aM H
       clear H
       have p12 : 0 ≤ ((ji9) : Int) := pI
       have q12 : (ji9) < (a0.size : Int) := pI
       have hx12 := bt_at a0 (ji9)
       replace p12 := eq_true p12
       replace q12 := eq_true q12
       go_wp2
       go_meet
       case rel => exact ⟨_, (((bt a0 (ji9)) != 63)), (by first | rfl | (simp; done) | (simp only [← hji9] <;> (first | rfl | simp)) | (simp [*]; done)), H', ⟨z34⟩, ⟨bB⟩⟩
      rw [if_neg c11] at H
      exact absurd H (by simp)
     rw [if_neg c10] at H
     exact absurd H (by simp)
    rw [if_neg c8] at H
    have c8b0 : ((bt a0 a1) == 61) = false := beq_eq_false_iff_ne.mpr c8
    have c8b1 : ((bt a0 a1) != 61) = true := bne_iff_ne.mpr c8
    have H' := aM H
    clear H
    (try simp only [c8b0, c8b1])
    go_wp2
    go_meet
    case rel => exact ⟨_, (true), bS, H', ⟨z34⟩, ⟨bB⟩⟩
   rw [if_neg c6] at H
   exact absurd H (by simp)
  rw [if_neg c5] at H
  exact absurd H (by simp)
 case rest =>
  clear HC3
  try clear c1
  try clear p1
  try clear q1
  try clear hx1
  try clear p2
  try clear c4
  try clear c4b0
  try clear c5
  try clear c5b0
  try clear c6
  try clear c6b0
  try clear p6
  try clear p7
  try clear q7
  try clear hx7
  try clear c8
  try clear c8b0
  try clear c8b1
  try clear c10
  try clear c10b0
  try clear c11
  try clear c11b0
  try clear p12
  try clear q12
  try clear hx12
  try clear p12
  try clear p7
  try clear q12
  try clear q7
  obtain ⟨kq, x30_2, rfl, HA, HJ2, HB⟩ := hcut
  cases kq with
  | zero => exact absurd HA.out (by simp [spec_l4Word.j0])
  | succ kj2 =>
   have H := HA.out
   clear HA
   simp only [spec_l4Word.j0] at H
   by_cases c13 : x30_2 = true
   ·subst c13
    have H1 : (some (([] : List Int), 0)) = some (r1, r2) := z16
    clear H
    have H := H1
    clear H1
    simp only [Option.some.injEq, Prod.mk.injEq] at H
    obtain ⟨rfl, rfl⟩ := H
    go_wp2
    go_ret2
    exact ⟨_, bE, z6, bB⟩
   replace c13 := Bool.eq_false_iff.mpr c13
   subst c13
   have H1 : ((spec_l4Mark.f kj2 a0 (wrap64 (a1 + 2))).bind fun t508 => (if t508 < 0 then (spec_l4Word.j1 kj2 a0 a1 t508 true) else (if (wrap64 (t508 + 2)) ≥ (a0.size : Int) then (spec_l4Word.j1 kj2 a0 a1 t508 true) else (if 0 ≤ (wrap64 (t508 + 2)) then (if (wrap64 (t508 + 2)) < (a0.size : Int) then (spec_l4Word.j1 kj2 a0 a1 t508 ((bt a0 (wrap64 (t508 + 2))) != 63)) else (none)) else (none))))) = some (r1, r2) := z7
   clear H
   have H := H1
   clear H1
   replace H := Option.bind_eq_some_iff.mp H
   obtain ⟨t508, A140, H⟩ := H
   replace H : (if t508 < 0 then (spec_l4Word.j1 kj2 a0 a1 t508 true) else (if (wrap64 (t508 + 2)) ≥ (a0.size : Int) then (spec_l4Word.j1 kj2 a0 a1 t508 true) else (if 0 ≤ (wrap64 (t508 + 2)) then (if (wrap64 (t508 + 2)) < (a0.size : Int) then (spec_l4Word.j1 kj2 a0 a1 t508 ((bt a0 (wrap64 (t508 + 2))) != 63)) else (none)) else (none)))) = some (r1, r2) := H
   have A14 := aM A140
   clear A140
   have HC15 := aM H
   clear H
   go_upto_region 4 with (first | ((with_reducible refine gate_callee (f := 89) rfl ?_); refine gL_ (some 34) Tryz.func89 #[.string a0, .int .i64 (wrap64 (a1 + 2))] ?_; (with_reducible refine (spec_l4Mark.calls kj2 a0 (wrap64 (a1 + 2)) t508 _ A14.out).mono ?_); rintro e w' ⟨rfl, ⟨nd, rfl⟩⟩; refine ⟨_, rfl, ?_⟩))
   (try simp only [Act.put, List.setIfInBounds_toArray, List.set_cons_zero, List.set_cons_succ])
   go_cut [50] (fun v50 wc => ∃ (kq : Nat) (x50_14 : Bool), v50 = .bool x50_14 ∧ Aside0 (spec_l4Word.j1 kq a0 a1 t508 x50_14 = some (r1, r2)) ∧ Aside0 (kq ≤ kj2) ∧ Aside0 (Below w.heap.size w wc))
   case first =>
    have H := HC15.out
    clear HC15
    by_cases c16 : t508 < 0
    ·rw [if_pos c16] at H
     have c16b0 : decide (t508 < 0) = true := decide_eq_true c16
     clear c16
     (first | rw [c16b0] | (simp only [i64_w, i32_w]; rw [c16b0]) | skip)
     have H' := aM H
     clear H
     go_wp2
     go_meet
     case rel => exact ⟨_, (true), bS, H', ⟨z31 HJ2.out⟩, ⟨bB⟩⟩
    rw [if_neg c16] at H
    have c16b0 : decide (t508 < 0) = false := decide_eq_false c16
    clear c16
    (first | rw [c16b0] | (simp only [i64_w, i32_w]; rw [c16b0]) | skip)
    by_cases c17 : (wrap64 (t508 + 2)) ≥ (a0.size : Int)
    ·rw [if_pos c17] at H
     have c17b0 : decide ((a0.size : Int) ≤ (wrap64 (t508 + 2))) = true := decide_eq_true c17
     clear c17
     have H' := aM H
     clear H
     go_wp2
     go_meet
     case rel => exact ⟨_, (true), bS, H', ⟨z31 HJ2.out⟩, ⟨bB⟩⟩
    rw [if_neg c17] at H
    have c17b0 : decide ((a0.size : Int) ≤ (wrap64 (t508 + 2))) = false := decide_eq_false c17
    clear c17
    obtain ⟨ji18, hji18⟩ : ∃ j_ : Int, (wrap64 (t508 + 2)) = j_ := ⟨_, rfl⟩
    replace H : (if 0 ≤ (ji18) then (if (ji18) < (a0.size : Int) then (spec_l4Word.j1 kj2 a0 a1 t508 ((bt a0 (ji18)) != 63)) else (none)) else (none)) = some (r1, r2) := by first | (rw [hji18] at H; exact H) | (simp only [hji18] at H ⊢; exact H)
    (try rw [hji18] at c17b0)
    have hji18w : (IntKind.i64.wrap (t508 + 2)) = ji18 := (i64_w _).trans hji18
    by_cases c19 : 0 ≤ (ji18)
    ·rw [if_pos c19] at H
     have c19b0 : decide (0 ≤ (ji18)) = true := decide_eq_true c19
     clear c19
     by_cases c20 : (ji18) < (a0.size : Int)
     ·rw [if_pos c20] at H
      have c20b0 : decide ((ji18) < (a0.size : Int)) = true := decide_eq_true c20
      clear c20
      have H' := aM H
      clear H
      have p21 : 0 ≤ ((ji18) : Int) := pI
      have q21 : (ji18) < (a0.size : Int) := pI
      have hx21 := bt_at a0 (ji18)
      replace p21 := eq_true p21
      replace q21 := eq_true q21
      go_wp2
      go_meet
      case rel => exact ⟨_, (((bt a0 (ji18)) != 63)), (by first | rfl | (simp; done) | (simp only [← hji18] <;> (first | rfl | simp)) | (simp [*]; done)), H', ⟨z31 HJ2.out⟩, ⟨bB⟩⟩
     rw [if_neg c20] at H
     exact absurd H (by simp)
    rw [if_neg c19] at H
    exact absurd H (by simp)
   case rest =>
    clear HC15
    try clear c1
    try clear p1
    try clear q1
    try clear hx1
    try clear c2
    try clear p2
    try clear q2
    try clear hx2
    try clear c4
    try clear c4b0
    try clear c5
    try clear c5b0
    try clear c6
    try clear c6b0
    try clear p6
    try clear p7
    try clear q7
    try clear hx7
    try clear c8
    try clear c8b0
    try clear c8b1
    try clear c10
    try clear c10b0
    try clear c11
    try clear c11b0
    try clear p12
    try clear q12
    try clear hx12
    try clear c13
    try clear c16
    try clear c16b0
    try clear c17
    try clear c17b0
    try clear c19
    try clear c19b0
    try clear c20
    try clear c20b0
    try clear p21
    try clear q21
    try clear hx21
    try clear p1
    try clear p12
    try clear p2
    try clear p21
    try clear p6
    try clear p7
    try clear q1
    try clear q12
    try clear q21
    try clear q7
    obtain ⟨kq, x50_14, rfl, HA, HJ14, HB⟩ := hcut
    cases kq with
    | zero => exact absurd HA.out (by simp [spec_l4Word.j1])
    | succ kj14 =>
     have H := HA.out
     clear HA
     simp only [spec_l4Word.j1] at H
     by_cases c22 : x50_14 = true
     ·subst c22
      have H1 : (some (([] : List Int), 0)) = some (r1, r2) := z16
      clear H
      have H := H1
      clear H1
      simp only [Option.some.injEq, Prod.mk.injEq] at H
      obtain ⟨rfl, rfl⟩ := H
      go_wp2
      go_ret2
      exact ⟨_, bE, z6, bB⟩
     replace c22 := Bool.eq_false_iff.mpr c22
     subst c22
     have H1 : ((spec_l4Mark.f kj14 a0 (wrap64 (t508 + 3))).bind fun t509 => (if t509 < 0 then (spec_l4Word.j2 kj14 a0 a1 t508 t509 true) else (if (wrap64 (t509 + 1)) ≥ (a0.size : Int) then (spec_l4Word.j2 kj14 a0 a1 t508 t509 true) else (if 0 ≤ (wrap64 (t509 + 1)) then (if (wrap64 (t509 + 1)) < (a0.size : Int) then (spec_l4Word.j2 kj14 a0 a1 t508 t509 ((bt a0 (wrap64 (t509 + 1))) != 61)) else (none)) else (none))))) = some (r1, r2) := z7
     clear H
     have H := H1
     clear H1
     replace H := Option.bind_eq_some_iff.mp H
     obtain ⟨t509, A230, H⟩ := H
     replace H : (if t509 < 0 then (spec_l4Word.j2 kj14 a0 a1 t508 t509 true) else (if (wrap64 (t509 + 1)) ≥ (a0.size : Int) then (spec_l4Word.j2 kj14 a0 a1 t508 t509 true) else (if 0 ≤ (wrap64 (t509 + 1)) then (if (wrap64 (t509 + 1)) < (a0.size : Int) then (spec_l4Word.j2 kj14 a0 a1 t508 t509 ((bt a0 (wrap64 (t509 + 1))) != 61)) else (none)) else (none)))) = some (r1, r2) := H
     have A23 := aM A230
     clear A230
     have HC24 := aM H
     clear H
     go_upto_region 7 with (first | ((with_reducible refine gate_callee (f := 89) rfl ?_); refine gL_ (some 54) Tryz.func89 #[.string a0, .int .i64 (wrap64 (t508 + 3))] ?_; (with_reducible refine (spec_l4Mark.calls kj14 a0 (wrap64 (t508 + 3)) t509 _ A23.out).mono ?_); rintro e w' ⟨rfl, ⟨nd, rfl⟩⟩; refine ⟨_, rfl, ?_⟩))
     (try simp only [Act.put, List.setIfInBounds_toArray, List.set_cons_zero, List.set_cons_succ])
     go_cut [70] (fun v70 wc => ∃ (kq : Nat) (x70_23 : Bool), v70 = .bool x70_23 ∧ Aside0 (spec_l4Word.j2 kq a0 a1 t508 t509 x70_23 = some (r1, r2)) ∧ Aside0 (kq ≤ kj14) ∧ Aside0 (Below w.heap.size w wc))
     case first =>
      have H := HC24.out
      clear HC24
      by_cases c25 : t509 < 0
      ·rw [if_pos c25] at H
       have c25b0 : decide (t509 < 0) = true := decide_eq_true c25
       clear c25
       (first | rw [c25b0] | (simp only [i64_w, i32_w]; rw [c25b0]) | skip)
       have H' := aM H
       clear H
       go_wp2
       go_meet
       case rel => exact ⟨_, (true), bS, H', ⟨z23 HJ2.out HJ14.out⟩, ⟨bB⟩⟩
      rw [if_neg c25] at H
      have c25b0 : decide (t509 < 0) = false := decide_eq_false c25
      clear c25
      (first | rw [c25b0] | (simp only [i64_w, i32_w]; rw [c25b0]) | skip)
      by_cases c26 : (wrap64 (t509 + 1)) ≥ (a0.size : Int)
      ·rw [if_pos c26] at H
       have c26b0 : decide ((a0.size : Int) ≤ (wrap64 (t509 + 1))) = true := decide_eq_true c26
       clear c26
       have H' := aM H
       clear H
       go_wp2
       go_meet
       case rel => exact ⟨_, (true), bS, H', ⟨z23 HJ2.out HJ14.out⟩, ⟨bB⟩⟩
      rw [if_neg c26] at H
      have c26b0 : decide ((a0.size : Int) ≤ (wrap64 (t509 + 1))) = false := decide_eq_false c26
      clear c26
      obtain ⟨ji27, hji27⟩ : ∃ j_ : Int, (wrap64 (t509 + 1)) = j_ := ⟨_, rfl⟩
      replace H : (if 0 ≤ (ji27) then (if (ji27) < (a0.size : Int) then (spec_l4Word.j2 kj14 a0 a1 t508 t509 ((bt a0 (ji27)) != 61)) else (none)) else (none)) = some (r1, r2) := by first | (rw [hji27] at H; exact H) | (simp only [hji27] at H ⊢; exact H)
      (try rw [hji27] at c26b0)
      have hji27w : (IntKind.i64.wrap (t509 + 1)) = ji27 := (i64_w _).trans hji27
      by_cases c28 : 0 ≤ (ji27)
      ·rw [if_pos c28] at H
       have c28b0 : decide (0 ≤ (ji27)) = true := decide_eq_true c28
       clear c28
       by_cases c29 : (ji27) < (a0.size : Int)
       ·rw [if_pos c29] at H
        have c29b0 : decide ((ji27) < (a0.size : Int)) = true := decide_eq_true c29
        clear c29
        have H' := aM H
        clear H
        have p30 : 0 ≤ ((ji27) : Int) := pI
        have q30 : (ji27) < (a0.size : Int) := pI
        have hx30 := bt_at a0 (ji27)
        replace p30 := eq_true p30
        replace q30 := eq_true q30
        go_wp2
        go_meet
        case rel => exact ⟨_, (((bt a0 (ji27)) != 61)), (by first | rfl | (simp; done) | (simp only [← hji27] <;> (first | rfl | simp)) | (simp [*]; done)), H', ⟨z23 HJ2.out HJ14.out⟩, ⟨bB⟩⟩
       rw [if_neg c29] at H
       exact absurd H (by simp)
      rw [if_neg c28] at H
      exact absurd H (by simp)
     case rest =>
      clear HC24
      try clear c1
      try clear p1
      try clear q1
      try clear hx1
      try clear c2
      try clear p2
      try clear q2
      try clear hx2
      try clear p3
      try clear q3
      try clear hx3
      try clear c4
      try clear c4b0
      try clear c5
      try clear c5b0
      try clear c6
      try clear c6b0
      try clear p6
      try clear p7
      try clear q7
      try clear hx7
      try clear c8
      try clear c8b0
      try clear c8b1
      try clear c10
      try clear c10b0
      try clear c11
      try clear c11b0
      try clear p12
      try clear q12
      try clear hx12
      try clear c13
      try clear c16
      try clear c16b0
      try clear c17
      try clear c17b0
      try clear c19
      try clear c19b0
      try clear c20
      try clear c20b0
      try clear p21
      try clear q21
      try clear hx21
      try clear c22
      try clear c25
      try clear c25b0
      try clear c26
      try clear c26b0
      try clear c28
      try clear c28b0
      try clear c29
      try clear c29b0
      try clear p30
      try clear q30
      try clear hx30
      try clear p1
      try clear p12
      try clear p2
      try clear p21
      try clear p30
      try clear p6
      try clear p7
      try clear q1
      try clear q12
      try clear q2
      try clear q21
      try clear q30
      try clear q7
      obtain ⟨kq, x70_23, rfl, HA, HJ23, HB⟩ := hcut
      cases kq with
      | zero => exact absurd HA.out (by simp [spec_l4Word.j2])
      | succ kj23 =>
       have H := HA.out
       clear HA
       simp only [spec_l4Word.j2] at H
       by_cases c31 : x70_23 = true
       ·subst c31
        have H1 : (some (([] : List Int), 0)) = some (r1, r2) := z16
        clear H
        have H := H1
        clear H1
        simp only [Option.some.injEq, Prod.mk.injEq] at H
        obtain ⟨rfl, rfl⟩ := H
        go_wp2
        go_ret2
        exact ⟨_, bE, z6, bB⟩
       replace c31 := Bool.eq_false_iff.mpr c31
       subst c31
       have H1 : (if 0 ≤ (wrap64 (a1 + 2)) then (if (wrap64 (a1 + 2)) ≤ t508 then (if t508 ≤ (a0.size : Int) then ((spec_l2Of.f kj23 (a0.extract ((wrap64 (a1 + 2)) : Int).toNat (t508 : Int).toNat)).bind fun t510 => (if 0 ≤ (wrap64 (t508 + 1)) then (if (wrap64 (t508 + 1)) < (a0.size : Int) then (if 0 ≤ (wrap64 (t508 + 3)) then (if (wrap64 (t508 + 3)) ≤ t509 then (if t509 ≤ (a0.size : Int) then ((spec_l4Told.f kj23 (bt a0 (wrap64 (t508 + 1))) (a0.extract ((wrap64 (t508 + 3)) : Int).toNat (t509 : Int).toNat)).bind fun bt511 => (if t510 = 0 then (spec_l4Word.j3 kj23 a1 t509 t510 bt511.1 true) else (spec_l4Word.j3 kj23 a1 t509 t510 bt511.1 (!bt511.2)))) else (none)) else (none)) else (none)) else (none)) else (none))) else (none)) else (none)) else (none)) = some (r1, r2) := z7
       clear H
       have H := H1
       clear H1
       obtain ⟨ji32, hji32⟩ : ∃ j_ : Int, (wrap64 (a1 + 2)) = j_ := ⟨_, rfl⟩
       replace H : (if 0 ≤ (ji32) then (if (ji32) ≤ t508 then (if t508 ≤ (a0.size : Int) then ((spec_l2Of.f kj23 (a0.extract ((ji32) : Int).toNat (t508 : Int).toNat)).bind fun t510 => (if 0 ≤ (wrap64 (t508 + 1)) then (if (wrap64 (t508 + 1)) < (a0.size : Int) then (if 0 ≤ (wrap64 (t508 + 3)) then (if (wrap64 (t508 + 3)) ≤ t509 then (if t509 ≤ (a0.size : Int) then ((spec_l4Told.f kj23 (bt a0 (wrap64 (t508 + 1))) (a0.extract ((wrap64 (t508 + 3)) : Int).toNat (t509 : Int).toNat)).bind fun bt511 => (if t510 = 0 then (spec_l4Word.j3 kj23 a1 t509 t510 bt511.1 true) else (spec_l4Word.j3 kj23 a1 t509 t510 bt511.1 (!bt511.2)))) else (none)) else (none)) else (none)) else (none)) else (none))) else (none)) else (none)) else (none)) = some (r1, r2) := by first | (rw [hji32] at H; exact H) | (simp only [hji32] at H ⊢; exact H)
       have hji32w : (IntKind.i64.wrap (a1 + 2)) = ji32 := (i64_w _).trans hji32
       by_cases c33 : 0 ≤ (ji32)
       ·rw [if_pos c33] at H
        have c33b0 := eq_true c33
        have c33b1 : decide (0 ≤ (ji32)) = true := decide_eq_true c33
        clear c33
        by_cases c34 : (ji32) ≤ t508
        ·rw [if_pos c34] at H
         have c34b0 := eq_true c34
         have c34b1 : decide ((ji32) ≤ t508) = true := decide_eq_true c34
         clear c34
         by_cases c35 : t508 ≤ (a0.size : Int)
         ·rw [if_pos c35] at H
          have c35b0 := eq_true c35
          have c35b1 : decide (t508 ≤ (a0.size : Int)) = true := decide_eq_true c35
          clear c35
          replace H := Option.bind_eq_some_iff.mp H
          obtain ⟨t510, A360, H⟩ := H
          replace H : (if 0 ≤ (wrap64 (t508 + 1)) then (if (wrap64 (t508 + 1)) < (a0.size : Int) then (if 0 ≤ (wrap64 (t508 + 3)) then (if (wrap64 (t508 + 3)) ≤ t509 then (if t509 ≤ (a0.size : Int) then ((spec_l4Told.f kj23 (bt a0 (wrap64 (t508 + 1))) (a0.extract ((wrap64 (t508 + 3)) : Int).toNat (t509 : Int).toNat)).bind fun bt511 => (if t510 = 0 then (spec_l4Word.j3 kj23 a1 t509 t510 bt511.1 true) else (spec_l4Word.j3 kj23 a1 t509 t510 bt511.1 (!bt511.2)))) else (none)) else (none)) else (none)) else (none)) else (none)) = some (r1, r2) := H
          have A36 := aM A360
          clear A360
          obtain ⟨ji37, hji37⟩ : ∃ j_ : Int, (wrap64 (t508 + 1)) = j_ := ⟨_, rfl⟩
          replace H : (if 0 ≤ (ji37) then (if (ji37) < (a0.size : Int) then (if 0 ≤ (wrap64 (t508 + 3)) then (if (wrap64 (t508 + 3)) ≤ t509 then (if t509 ≤ (a0.size : Int) then ((spec_l4Told.f kj23 (bt a0 (ji37)) (a0.extract ((wrap64 (t508 + 3)) : Int).toNat (t509 : Int).toNat)).bind fun bt511 => (if t510 = 0 then (spec_l4Word.j3 kj23 a1 t509 t510 bt511.1 true) else (spec_l4Word.j3 kj23 a1 t509 t510 bt511.1 (!bt511.2)))) else (none)) else (none)) else (none)) else (none)) else (none)) = some (r1, r2) := by first | (rw [hji37] at H; exact H) | (simp only [hji37] at H ⊢; exact H)
          (try rw [hji37] at A36)
          have hji37w : (IntKind.i64.wrap (t508 + 1)) = ji37 := (i64_w _).trans hji37
          by_cases c38 : 0 ≤ (ji37)
          ·rw [if_pos c38] at H
           have c38b0 : decide (0 ≤ (ji37)) = true := decide_eq_true c38
           clear c38
           by_cases c39 : (ji37) < (a0.size : Int)
           ·rw [if_pos c39] at H
            have c39b0 : decide ((ji37) < (a0.size : Int)) = true := decide_eq_true c39
            clear c39
            obtain ⟨ji41, hji41⟩ : ∃ j_ : Int, (wrap64 (t508 + 3)) = j_ := ⟨_, rfl⟩
            replace H : (if 0 ≤ (ji41) then (if (ji41) ≤ t509 then (if t509 ≤ (a0.size : Int) then ((spec_l4Told.f kj23 (bt a0 (ji37)) (a0.extract ((ji41) : Int).toNat (t509 : Int).toNat)).bind fun bt511 => (if t510 = 0 then (spec_l4Word.j3 kj23 a1 t509 t510 bt511.1 true) else (spec_l4Word.j3 kj23 a1 t509 t510 bt511.1 (!bt511.2)))) else (none)) else (none)) else (none)) = some (r1, r2) := by first | (rw [hji41] at H; exact H) | (simp only [hji41] at H ⊢; exact H)
            (try rw [hji41] at A36)
            have hji41w : (IntKind.i64.wrap (t508 + 3)) = ji41 := (i64_w _).trans hji41
            by_cases c42 : 0 ≤ (ji41)
            ·rw [if_pos c42] at H
             have c42b0 := eq_true c42
             have c42b1 : decide (0 ≤ (ji41)) = true := decide_eq_true c42
             clear c42
             by_cases c43 : (ji41) ≤ t509
             ·rw [if_pos c43] at H
              have c43b0 := eq_true c43
              have c43b1 : decide ((ji41) ≤ t509) = true := decide_eq_true c43
              clear c43
              by_cases c44 : t509 ≤ (a0.size : Int)
              ·rw [if_pos c44] at H
               have c44b0 := eq_true c44
               have c44b1 : decide (t509 ≤ (a0.size : Int)) = true := decide_eq_true c44
               clear c44
               replace H := Option.bind_eq_some_iff.mp H
               obtain ⟨⟨t511, t512⟩, A450, H⟩ := H
               replace H : (if t510 = 0 then (spec_l4Word.j3 kj23 a1 t509 t510 t511 true) else (spec_l4Word.j3 kj23 a1 t509 t510 t511 (!t512))) = some (r1, r2) := H
               have A45 := aM A450
               clear A450
               have HC46 := aM H
               clear H
               try go_wp2_with (first | ((with_reducible refine gate_callee (f := 90) rfl ?_); refine goesL_ (some 76) rfl rfl Tryz.func90 (by kernel_rfl) rfl #[.string (a0.extract ((ji32) : Int).toNat (t508 : Int).toNat)] rfl (by (try simp only [List.map_toArray, List.map_cons, List.map_nil]); first | done | (simp only [hji32]; rfl) | rfl | (simp only [List.length_drop, List.length_take]; rfl)) ?_; (with_reducible refine (spec_l2Of.calls kj23 (a0.extract ((ji32) : Int).toNat (t508 : Int).toNat) t510 _ A36.out).mono ?_); rintro e w47 ⟨rfl, hb⟩; refine ⟨_, rfl, ?_⟩; replace HB := aM (below_step bB hb); (try clear hi)))
               replace HB := aM (below_drew1 HB.out)
               have p40 : 0 ≤ ((ji37) : Int) := pI
               have q40 : (ji37) < (a0.size : Int) := pI
               have hx40 := bt_at a0 (ji37)
               replace p40 := eq_true p40
               replace q40 := eq_true q40
               refine start_ (n := 15) (S := fun w' => True) (ds := []) (bsA 15 0) (by kernel_rfl) rfl rfl trivial (fun hHeld => ?_); refine with_tabW spec_l4Word.tab10 spec_l4Word.bits10 (fun HT_ HW_ => ?_)
               generalize w47.drew = w48 at HB hHeld ⊢
               refine pa_ (i := 0) (N := some 78) (bsA 15 1) (h := ?_)
               refine pa_ (i := 1) (N := some 79) (bsA 15 3) (h := ?_)
               refine pa_ (i := 2) (N := some 80) (bsA 15 7) (h := ?_)
               refine pa_ (i := 4) (N := some 82) (bsA 15 23) (h := ?_)
               refine pa_ (i := 5) (N := some 83) (bsA 15 55) (h := ?_)
               refine pa_ (i := 6) (N := some 84) (bsA 15 119) (h := ?_)
               refine pa_ (i := 7) (N := some 85) (bsA 15 247) (h := ?_)
               refine pa_ (i := 8) (N := some 86) (bsA 15 503) (h := ?_)
               refine take_ (i := 3) (N := some 81) (v := ?_) (a' := ?_) (bsA 15 511) rfl rfl (take_ofW HT_.out HW_.out (by kernel_rfl)) (fun _ _ _ h => h) (Or.inl ⟨by rfl, ?_⟩) hHeld ?_ ?_
               rotate_left
               ·intro w' _
                go_simp
                with_reducible rfl
               rotate_left
               ·simp only [Act.put, List.setIfInBounds_toArray, List.set_cons_zero, List.set_cons_succ, i64_w, i32_w]
                rfl
               refine one_ (i := 9) (N := some 87) (bsA 15 1023) rfl rfl (one_of HT_.out (by kernel_rfl)) (by decide) (fun K hK => ?_)
               refine goes_ Tryz.func91 (by kernel_rfl) rfl #[.int .u8 (bt a0 (ji37)), .string (a0.extract ((ji41) : Int).toNat (t509 : Int).toNat)] (by rfl) rfl rfl (by (try simp only [List.map_toArray, List.map_cons, List.map_nil]); first | done | (simp only [hji37, hji41]; rfl) | rfl | (simp only [List.length_drop, List.length_take]; rfl)) ?_
               with_reducible refine (spec_l4Told.calls kj23 (bt a0 (ji37)) (a0.extract ((ji41) : Int).toNat (t509 : Int).toNat) t511 t512 _ A45.out).mono ?_
               rintro e w49 ⟨v513, rfl, ho0, hb⟩
               refine ⟨_, rfl, ?_⟩
               have HO514 := aM (Kd.R_lower ho0 (below_size bB))
               replace HB := aM (below_step bB hb)
               (try clear hb)
               (try clear hb2)
               (try clear hk)
               (try clear hi)
               (try clear ho0)
               refine hK.out _ _ trivial (fun hHeld => ?_)
               clear hK K
               refine na_ (N := some 87) (h := ?_)
               refine pa_ (i := 10) (N := some 77) (bsA 15 2047) (h := ?_)
               refine pa_ (i := 11) (N := some 88) (bsA 15 4095) (h := ?_)
               refine pa_ (i := 12) (N := some 89) (bsA 15 8191) (h := ?_)
               refine pa_ (i := 13) (N := some 9) (bsA 15 16383) (h := ?_)
               refine pa_ (i := 14) (N := some 10) (bsA 15 32767) (h := ?_)
               refine done_ (done_of HT_.out (by kernel_rfl)) ?_
               go_upto_region 11 with (fail)
               go_cut [95] (fun v95 wc => ∃ (kq : Nat) (x95_45 : Bool), v95 = .bool x95_45 ∧ Aside0 (spec_l4Word.j3 kq a1 t509 t510 t511 x95_45 = some (r1, r2)) ∧ Aside0 (kq ≤ kj23) ∧ Aside0 (Kd.R (Kd.int .u8) 5 wc w.heap.size (fun _ => True) v513 t511) ∧ Aside0 (Below w.heap.size w wc))
               case first =>
                have H := HC46.out
                clear HC46
                by_cases c50 : t510 = 0
                ·rw [if_pos c50] at H
                 have c50b0 : (t510 == 0) = true := beq_iff_eq.mpr c50
                 have c50b1 : (t510 != 0) = false := bne_eq_false_iff_eq.mpr c50
                 clear c50
                 (first | rw [c50b0] | (simp only [i64_w, i32_w]; rw [c50b0]) | skip)
                 have H' := aM H
                 clear H
                 go_wp2
                 go_meet
                 case rel => exact ⟨_, (true), bS, H', ⟨z48 HJ2.out HJ14.out HJ23.out⟩, ⟨bR HO514⟩, ⟨bB⟩⟩
                rw [if_neg c50] at H
                have c50b0 : (t510 == 0) = false := beq_eq_false_iff_ne.mpr c50
                have c50b1 : (t510 != 0) = true := bne_iff_ne.mpr c50
                (first | rw [c50b0] | (simp only [i64_w, i32_w]; rw [c50b0]) | skip)
                have H' := aM H
                clear H
                go_wp2
                go_meet
                case rel => exact ⟨_, (!t512), bS, H', ⟨z48 HJ2.out HJ14.out HJ23.out⟩, ⟨bR HO514⟩, ⟨bB⟩⟩
               case rest =>
                clear HC46
                try clear c1
                try clear p1
                try clear q1
                try clear hx1
                try clear c2
                try clear p2
                try clear q2
                try clear hx2
                try clear c3
                try clear p3
                try clear q3
                try clear hx3
                try clear c4
                try clear c4b0
                try clear p4
                try clear q4
                try clear hx4
                try clear c5
                try clear c5b0
                try clear c6
                try clear c6b0
                try clear p6
                try clear p7
                try clear q7
                try clear hx7
                try clear c8
                try clear c8b0
                try clear c8b1
                try clear c9
                try clear c10
                try clear c10b0
                try clear c11
                try clear c11b0
                try clear p12
                try clear q12
                try clear hx12
                try clear c13
                try clear c16
                try clear c16b0
                try clear c17
                try clear c17b0
                try clear c19
                try clear c19b0
                try clear c20
                try clear c20b0
                try clear p21
                try clear q21
                try clear hx21
                try clear c22
                try clear c25
                try clear c25b0
                try clear c26
                try clear c26b0
                try clear c28
                try clear c28b0
                try clear c29
                try clear c29b0
                try clear p30
                try clear q30
                try clear hx30
                try clear c31
                try clear c33
                try clear c33b0
                try clear c33b1
                try clear c34
                try clear c34b0
                try clear c34b1
                try clear c35
                try clear c35b0
                try clear c35b1
                try clear c38
                try clear c38b0
                try clear c39
                try clear c39b0
                try clear p40
                try clear q40
                try clear hx40
                try clear c42
                try clear c42b0
                try clear c42b1
                try clear c43
                try clear c43b0
                try clear c43b1
                try clear c44
                try clear c44b0
                try clear c44b1
                try clear c50
                try clear c50b0
                try clear c50b1
                try clear p1
                try clear p12
                try clear p2
                try clear p21
                try clear p3
                try clear p30
                try clear p40
                try clear p6
                try clear p7
                try clear q1
                try clear q12
                try clear q2
                try clear q21
                try clear q3
                try clear q30
                try clear q40
                try clear q7
                obtain ⟨kq, x95_45, rfl, HA, HJ45, HO_9, HB⟩ := hcut
                cases kq with
                | zero => exact absurd HA.out (by simp [spec_l4Word.j3])
                | succ kj45 =>
                 have H := HA.out
                 clear HA
                 simp only [spec_l4Word.j3] at H
                 by_cases c51 : x95_45 = true
                 ·subst c51
                  have H1 : (some (([] : List Int), 0)) = some (r1, r2) := z16
                  clear H
                  have H := H1
                  clear H1
                  simp only [Option.some.injEq, Prod.mk.injEq] at H
                  obtain ⟨rfl, rfl⟩ := H
                  go_wp2
                  go_ret2
                  exact ⟨_, z38, z6, bB⟩
                 replace c51 := Bool.eq_false_iff.mpr c51
                 subst c51
                 have H1 : ((spec_l2Decode.f kj45 t510 t511).bind fun bt515 => (if bt515.2 = true then (some (bt515.1, wrap64 ((wrap64 (t509 + 2)) - a1))) else (some (([] : List Int), 0)))) = some (r1, r2) := z7
                 clear H
                 have H := H1
                 clear H1
                 replace H := Option.bind_eq_some_iff.mp H
                 obtain ⟨⟨t515, t516⟩, A520, H⟩ := H
                 replace H : (if t516 = true then (some (t515, wrap64 ((wrap64 (t509 + 2)) - a1))) else (some (([] : List Int), 0))) = some (r1, r2) := H
                 have A52 := aM A520
                 clear A520
                 have HQ_ := aM H
                 clear H
                 obtain ⟨Ao54, co54, eo54⟩ := Kd.R_slice HO_9.out
                 subst eo54
                 have H := HQ_.out
                 clear HQ_
                 by_cases c53 : t516 = true
                 ·subst c53
                  have H1 : (some (t515, wrap64 ((wrap64 (t509 + 2)) - a1))) = some (r1, r2) := z16
                  clear H
                  have H := H1
                  clear H1
                  simp only [Option.some.injEq, Prod.mk.injEq] at H
                  obtain ⟨rfl, rfl⟩ := H
                  go_wp2_with (first | ((with_reducible refine gate_callee (f := 92) rfl ?_); refine gL_ (some 99) Tryz.func92 #[.int .i64 t510, .slice Ao54 t511.length co54] ?_; (with_reducible refine (spec_l2Decode.calls kj45 t510 _ _ t511 t515 true _ ?side1 ?side2 A52.out).mono ?_); (case side1 => exact z4 HO_9.out); (case side2 => exact (Kd.R_reads' HO_9.out).2.1); rintro e w55 ⟨v517, rfl, ho0, hb⟩; refine ⟨_, rfl, ?_⟩; replace HO_9 := aM (Kd.R_below (bR HO_9) hb); have HO518 := aM (Kd.R_lower ho0 (below_size bB)); replace HB := aM (below_step bB hb); (try clear ho0)))
                  go_ret2
                  exact ⟨_, z38, bR HO518, bB⟩
                 replace c53 := Bool.eq_false_iff.mpr c53
                 subst c53
                 have H1 : (some (([] : List Int), 0)) = some (r1, r2) := z7
                 clear H
                 have H := H1
                 clear H1
                 simp only [Option.some.injEq, Prod.mk.injEq] at H
                 obtain ⟨rfl, rfl⟩ := H
                 go_wp2_with (first | ((with_reducible refine gate_callee (f := 92) rfl ?_); refine gL_ (some 99) Tryz.func92 #[.int .i64 t510, .slice Ao54 t511.length co54] ?_; (with_reducible refine (spec_l2Decode.calls kj45 t510 _ _ t511 t515 false _ ?side1 ?side2 A52.out).mono ?_); (case side1 => exact z4 HO_9.out); (case side2 => exact (Kd.R_reads' HO_9.out).2.1); rintro e w57 ⟨v517, rfl, ho0, hb⟩; refine ⟨_, rfl, ?_⟩; replace HO_9 := aM (Kd.R_below (bR HO_9) hb); have HO518 := aM (Kd.R_lower ho0 (below_size bB)); replace HB := aM (below_step bB hb); (try clear ho0)))
                 go_ret2
                 exact ⟨_, z38, z6, bB⟩
              rw [if_neg c44] at H
              exact absurd H (by simp)
             rw [if_neg c43] at H
             exact absurd H (by simp)
            rw [if_neg c42] at H
            exact absurd H (by simp)
           rw [if_neg c39] at H
           exact absurd H (by simp)
          rw [if_neg c38] at H
          exact absurd H (by simp)
         rw [if_neg c35] at H
         exact absurd H (by simp)
        rw [if_neg c34] at H
        exact absurd H (by simp)
       rw [if_neg c33] at H
       exact absurd H (by simp)
mutual
def spec_l4Words.l0 : Nat → ByteArray → List Int → Int → Bool → Option (List Int)
 | 0, _, _, _, _ => none
 | k + 1, x0, x3, x4, x5 => if x4 < (x0.size : Int) then ((spec_l4Gap.f k x0 x4).bind fun t522 => (if x5 = true then (spec_l4Words.j1 k x0 x3 x4 t522 (decide (t522 > 0))) else (spec_l4Words.j1 k x0 x3 x4 t522 false))) else (some x3)
def spec_l4Words.j1 : Nat → ByteArray → List Int → Int → Int → Bool → Option (List Int)
 | 0, _, _, _, _, _ => none
 | k + 1, x0, x3, x4, x6, x25 => if x25 = true then ((spec_l4Word.f k x0 (wrap64 (x4 + x6))).bind fun bt523 => (if bt523.2 > 0 then (spec_l4Words.j2 k x0 x3 (wrap64 (x4 + x6))) else (spec_l4Words.j2 k x0 x3 x4))) else (spec_l4Words.j2 k x0 x3 x4)
def spec_l4Words.j2 : Nat → ByteArray → List Int → Int → Option (List Int)
 | 0, _, _, _ => none
 | k + 1, x0, x3, x4 => (spec_l4Word.f k x0 x4).bind fun bt527 => (if bt527.2 > 0 then (if x3.length + bt527.1.length < 17592186044416 then (spec_l4Words.l0 k x0 (x3 ++ bt527.1) (wrap64 (x4 + bt527.2)) (decide (bt527.2 > 0))) else (none)) else (if x0.size ≤ 281474976710656 then ((spec_l2Utf8.f k (bytesOf x0) x4).bind fun bt537 => (if bt537.2 = 0 then (if x3.length < 17592186044416 then (spec_l4Words.l0 k x0 (x3 ++ [65533]) (wrap64 (x4 + 1)) (decide (bt527.2 > 0))) else (none)) else (if x3.length < 17592186044416 then (spec_l4Words.l0 k x0 (x3 ++ [bt537.1]) (wrap64 (x4 + bt537.2)) (decide (bt527.2 > 0))) else (none)))) else (none)))
end
def spec_l4Words.f (k : Nat) (a0 : ByteArray) : Option (List Int) := spec_l4Words.l0 k a0 (([] : List Int)) 0 false
set_option maxHeartbeats 8000000 in
set_option maxRecDepth 100000 in
theorem spec_l4Words.calls (k : Nat) (a0 : ByteArray) (r : List Int) (w : World) (h : spec_l4Words.f k a0 = some r) :
  Calls Tryz.prog 34 #[.string a0] w fun e w' => ∃ v0_ : Value, e = .returned (v0_) ∧ Kd.R (Kd.int .i64) 2 w' w.heap.size (fun _ => True) v0_ r ∧ Below w.heap.size w w' := by
 have HB := aM (Below.refl w.heap.size w)
 have H : (spec_l4Words.l0 k a0 (([] : List Int)) 0 false) = some r := h
 clear h
 obtain ⟨y519, hy519⟩ : ∃ y_ : List Int, y_ = (([] : List Int)) := ⟨_, rfl⟩
 replace H : (spec_l4Words.l0 k a0 y519 0 false) = some r := z0 hy519
 have Ny519 := aM hy519
 clear hy519
 have H' := aM H
 clear H
 go_enter Tryz.func34, Tryz.ntmps34
 go_wp2_with (first | ((with_reducible refine gate_dst (N := 13) rfl ?_); refine Kd.R_lit (Kd.int .i64) _ 2 ?hg (N := 13) ?hd (xs := ([] : List Int)) (inner := []) (ok := fun _ => True) (okp := fun _ => True) ?hr ?hp (fun _ hk => hk) trivial (Below.refl _ _) (Nat.le_refl _) (by simp) ?_; (case hd => rfl); (case hg => rfl); (case hr => exact z10); (case hp => exact (Reps.none _ _)); intro v520 w2 ho3 hb hg_ hnew_; clear hg_ hnew_; (first | rw [← Ny519.out] at ho3 | (simp only [Int.reduceToNat] at ho3; rw [← Ny519.out] at ho3)); have HO521 := aM (Kd.R_lower ho3 (below_size bB)); replace HB := aM (below_step bB hb); clear hb ho3))
 go_loopg [3, 4, 5] k (fun kq v3 v4 v5 w' => ∃ (x3_1 : List Int) (x4_1 : Int) (x5_1 : Bool), v4 = .int .i64 x4_1 ∧ v5 = .bool x5_1 ∧ Aside0 (spec_l4Words.l0 kq a0 x3_1 x4_1 x5_1 = some r) ∧ Aside0 (kq ≤ k) ∧ Aside0 (Kd.R (Kd.int .i64) 2 w' w.heap.size (fun _ => True) v3 x3_1) ∧ Aside0 (Below w.heap.size w w'))
 case atStart => exact ⟨(y519), (0), (false), bS, bS, H', ⟨Nat.le_refl _⟩, ⟨bR HO521⟩, ⟨bB⟩⟩
 case round =>
  clear H'
  try clear p2
  try clear c3
  obtain ⟨x3_1, x4_1, x5_1, rfl, rfl, HA, HK1, HO_3, HB⟩ := hrel
  cases gk with
  | zero => exact absurd HA.out (by simp [spec_l4Words.l0])
  | succ k1 =>
   have H := HA.out
   clear HA
   simp only [spec_l4Words.l0] at H
   by_cases c4 : x4_1 < (a0.size : Int)
   ·rw [if_pos c4] at H
    have c4b0 : decide (x4_1 < (a0.size : Int)) = true := decide_eq_true c4
    clear c4
    replace H := Option.bind_eq_some_iff.mp H
    obtain ⟨t522, A50, H⟩ := H
    replace H : (if x5_1 = true then (spec_l4Words.j1 k1 a0 x3_1 x4_1 t522 (decide (t522 > 0))) else (spec_l4Words.j1 k1 a0 x3_1 x4_1 t522 false)) = some r := H
    have A5 := aM A50
    clear A50
    have HC6 := aM H
    clear H
    go_upto_region 6 with (first | ((with_reducible refine gate_callee (f := 55) rfl ?_); refine gL_ (some 20) Tryz.func55 #[.string a0, .int .i64 x4_1] ?_; (with_reducible refine (spec_l4Gap.calls k1 a0 x4_1 t522 _ A5.out).mono ?_); rintro e w' ⟨rfl, ⟨nd, rfl⟩⟩; refine ⟨_, rfl, ?_⟩))
    (try simp only [Act.put, List.setIfInBounds_toArray, List.set_cons_zero, List.set_cons_succ])
    go_cut [25] (fun v25 wc => ∃ (kq : Nat) (x25_5 : Bool), v25 = .bool x25_5 ∧ Aside0 (spec_l4Words.j1 kq a0 x3_1 x4_1 t522 x25_5 = some r) ∧ Aside0 (kq ≤ k1) ∧ Aside0 (Kd.R (Kd.int .i64) 2 wc w.heap.size (fun _ => True) u3 x3_1) ∧ Aside0 (Below w.heap.size w wc))
    case first =>
     have H := HC6.out
     clear HC6
     by_cases c7 : x5_1 = true
     ·subst c7
      have H1 : (spec_l4Words.j1 k1 a0 x3_1 x4_1 t522 (decide (t522 > 0))) = some r := z16
      clear H
      have H := H1
      clear H1
      have H' := aM H
      clear H
      go_wp2
      go_meet
      case rel => exact ⟨_, (decide (t522 > 0)), bS, H', ⟨z31 HK1.out⟩, ⟨bR HO_3⟩, ⟨bB⟩⟩
     replace c7 := Bool.eq_false_iff.mpr c7
     subst c7
     have H1 : (spec_l4Words.j1 k1 a0 x3_1 x4_1 t522 false) = some r := z7
     clear H
     have H := H1
     clear H1
     have H' := aM H
     clear H
     go_wp2
     go_meet
     case rel => exact ⟨_, (false), bS, H', ⟨z31 HK1.out⟩, ⟨bR HO_3⟩, ⟨bB⟩⟩
    case rest =>
     clear HC6
     try clear p2
     try clear c3
     try clear c4
     try clear c4b0
     try clear c5
     try clear c7
     try clear p2
     obtain ⟨kq, x25_5, rfl, HA, HJ5, HO_3, HB⟩ := hcut
     cases kq with
     | zero => exact absurd HA.out (by simp [spec_l4Words.j1])
     | succ kj5 =>
      have H := HA.out
      clear HA
      simp only [spec_l4Words.j1] at H
      have HC8 := aM H
      clear H
      go_upto_if 25 with (fail)
      go_cut [4] (fun v4 wc => ∃ (kq : Nat) (x4_7 : Int), v4 = .int .i64 x4_7 ∧ Aside0 (spec_l4Words.j2 kq a0 x3_1 x4_7 = some r) ∧ Aside0 (kq ≤ kj5) ∧ Aside0 (Kd.R (Kd.int .i64) 2 wc w.heap.size (fun _ => True) u3 x3_1) ∧ Aside0 (Below w.heap.size w wc))
      case first =>
       have H := HC8.out
       clear HC8
       by_cases c9 : x25_5 = true
       ·subst c9
        have H1 : ((spec_l4Word.f kj5 a0 (wrap64 (x4_1 + t522))).bind fun bt523 => (if bt523.2 > 0 then (spec_l4Words.j2 kj5 a0 x3_1 (wrap64 (x4_1 + t522))) else (spec_l4Words.j2 kj5 a0 x3_1 x4_1))) = some r := z16
        clear H
        have H := H1
        clear H1
        replace H := Option.bind_eq_some_iff.mp H
        obtain ⟨⟨t523, t524⟩, A100, H⟩ := H
        replace H : (if t524 > 0 then (spec_l4Words.j2 kj5 a0 x3_1 (wrap64 (x4_1 + t522))) else (spec_l4Words.j2 kj5 a0 x3_1 x4_1)) = some r := H
        have A10 := aM A100
        clear A100
        by_cases c11 : t524 > 0
        ·rw [if_pos c11] at H
         have c11b0 : decide (0 < t524) = true := decide_eq_true c11
         clear c11
         (first | rw [c11b0] | (simp only [i64_w, i32_w]; rw [c11b0]) | skip)
         have H' := aM H
         clear H
         go_wp2_with (first | ((with_reducible refine gate_callee (f := 56) rfl ?_); refine gL_ (some 31) Tryz.func56 #[.string a0, .int .i64 (wrap64 (x4_1 + t522))] ?_; (with_reducible refine (spec_l4Word.calls kj5 a0 (wrap64 (x4_1 + t522)) t523 t524 _ A10.out).mono ?_); rintro e w12 ⟨v525, rfl, ho0, hb⟩; refine ⟨_, rfl, ?_⟩; have HO526 := aM (Kd.R_lower (Kd.R_new' ho0 (Kd.R_lt (bR HO_3))) (below_size bB)); replace HO_3 := aM (Kd.R_elder' (bR HO_3) (Kd.R_base ho0) hb); replace HB := aM (below_step bB hb); (try clear ho0)))
         go_meet
         case rel => exact ⟨_, (wrap64 (x4_1 + t522)), bS, H', ⟨z23 HK1.out HJ5.out⟩, ⟨z9 HO_3.out⟩, ⟨bB⟩⟩
        rw [if_neg c11] at H
        have c11b0 : decide (0 < t524) = false := decide_eq_false c11
        clear c11
        (first | rw [c11b0] | (simp only [i64_w, i32_w]; rw [c11b0]) | skip)
        have H' := aM H
        clear H
        go_wp2_with (first | ((with_reducible refine gate_callee (f := 56) rfl ?_); refine gL_ (some 31) Tryz.func56 #[.string a0, .int .i64 (wrap64 (x4_1 + t522))] ?_; (with_reducible refine (spec_l4Word.calls kj5 a0 (wrap64 (x4_1 + t522)) t523 t524 _ A10.out).mono ?_); rintro e w13 ⟨v525, rfl, ho0, hb⟩; refine ⟨_, rfl, ?_⟩; have HO526 := aM (Kd.R_lower (Kd.R_new' ho0 (Kd.R_lt (bR HO_3))) (below_size bB)); replace HO_3 := aM (Kd.R_elder' (bR HO_3) (Kd.R_base ho0) hb); replace HB := aM (below_step bB hb); (try clear ho0)))
        go_meet
        case rel => exact ⟨_, (x4_1), bS, H', ⟨z23 HK1.out HJ5.out⟩, ⟨z9 HO_3.out⟩, ⟨bB⟩⟩
       replace c9 := Bool.eq_false_iff.mpr c9
       subst c9
       have H1 : (spec_l4Words.j2 kj5 a0 x3_1 x4_1) = some r := z7
       clear H
       have H := H1
       clear H1
       have H' := aM H
       clear H
       go_wp2
       go_meet
       case rel => exact ⟨_, (x4_1), bS, H', ⟨z23 HK1.out HJ5.out⟩, ⟨bR HO_3⟩, ⟨bB⟩⟩
      case rest =>
       clear HC8
       try clear c1
       try clear p2
       try clear c3
       try clear c4
       try clear c4b0
       try clear c5
       try clear p6
       try clear c7
       try clear c9
       try clear c11
       try clear c11b0
       try clear p2
       obtain ⟨kq, x4_7, rfl, HA, HJ7, HO_3, HB⟩ := hcut
       cases kq with
       | zero => exact absurd HA.out (by simp [spec_l4Words.j2])
       | succ kj7 =>
        have H := HA.out
        clear HA
        simp only [spec_l4Words.j2] at H
        replace H := Option.bind_eq_some_iff.mp H
        obtain ⟨⟨t527, t528⟩, A140, H⟩ := H
        replace H : (if t528 > 0 then (if x3_1.length + t527.length < 17592186044416 then (spec_l4Words.l0 kj7 a0 (x3_1 ++ t527) (wrap64 (x4_7 + t528)) (decide (t528 > 0))) else (none)) else (if a0.size ≤ 281474976710656 then ((spec_l2Utf8.f kj7 (bytesOf a0) x4_7).bind fun bt537 => (if bt537.2 = 0 then (if x3_1.length < 17592186044416 then (spec_l4Words.l0 kj7 a0 (x3_1 ++ [65533]) (wrap64 (x4_7 + 1)) (decide (t528 > 0))) else (none)) else (if x3_1.length < 17592186044416 then (spec_l4Words.l0 kj7 a0 (x3_1 ++ [bt537.1]) (wrap64 (x4_7 + bt537.2)) (decide (t528 > 0))) else (none)))) else (none))) = some r := H
        have A14 := aM A140
        clear A140
        by_cases c15 : t528 > 0
        ·rw [if_pos c15] at H
         have c15b0 : decide (0 < t528) = true := decide_eq_true c15
         clear c15
         by_cases c16 : x3_1.length + t527.length < 17592186044416
         ·rw [if_pos c16] at H
          have LMc16 := aM c16
          clear c16
          obtain ⟨y531, hy531⟩ : ∃ y_ : List Int, y_ = (x3_1 ++ t527) := ⟨_, rfl⟩
          replace H : (spec_l4Words.l0 kj7 a0 y531 (wrap64 (x4_7 + t528)) (decide (t528 > 0))) = some r := z0 hy531
          have Ny531 := aM hy531
          clear hy531
          have H' := aM H
          clear H
          go_wp2_with (first | ((with_reducible refine gate_callee (f := 56) rfl ?_); refine gL_ (some 42) Tryz.func56 #[.string a0, .int .i64 x4_7] ?_; (with_reducible refine (spec_l4Word.calls kj7 a0 x4_7 t527 t528 _ A14.out).mono ?_); rintro e w17 ⟨v529, rfl, ho0, hb⟩; refine ⟨_, rfl, ?_⟩; have HO530 := aM (Kd.R_lower (Kd.R_new' ho0 (Kd.R_lt (bR HO_3))) (below_size bB)); replace HO_3 := aM (Kd.R_elder' (bR HO_3) (Kd.R_base ho0) hb); replace HB := aM (below_step bB hb); (try clear ho0); obtain ⟨Ao19, co19, eo19⟩ := Kd.R_slice HO530.out; subst eo19) | ((with_reducible refine gate_builtin (b := .append) (xs := #[.tmp 48, .tmp 49]) rfl ?_); at_builtin; refine Kd.R_append_rows (Kd.int .i64) (w0 := w) w.heap.size rfl (.tmp 48) (.tmp 49) 23 2 (.int .i64 0) 8 rfl Tryz.underlying23 info2 rfl (by decide) (by omega) u3 x3_1 t527 _ _ _ (fun k_ => some k_ ≠ (.slice Ao19 t527.length co19 : Value).ownBlock) (fun _ => False) rfl rfl ?aO ?aR (fun _ _ h => h) (fun _ h => h.elim) ?aF ?aB ?aS ?aL ?_; (case aR => exact z4 HO530.out); (case aB => exact bB); (case aF => exact (fun k_ hk => Kd.fresh' (Kd.R_lt (bR HO530)) k_ hk)); (case aO => exact z13 HO_3.out); (case aS => exact (below_size bB)); (case aL => have := LMc16.out; omega); intro v532 w18 ho hb hg hat; rw [← Ny531.out] at ho; have n0_ := aM (Kd.R_after (ok := (fun _ => True)) (bR HO530) hg hat); have n1_ := aM (hb); have n2_ := aM (ho); clear HO530; clear HB; clear HO_3; have HO530 := n0_; have HB := n1_; have HO533 := n2_; clear n0_ n1_ n2_; clear ho hb hg hat))
          go_roundg kj7
          case measure => have := HK1.out; have := HJ5.out; have := HJ7.out; omega
          case rel => exact ⟨(y531), (wrap64 (x4_7 + t528)), (decide (t528 > 0)), bS, bS, H', ⟨z46 HK1.out HJ5.out HJ7.out⟩, ⟨z9 HO533.out⟩, ⟨bB⟩⟩
         rw [if_neg c16] at H
         exact absurd H (by simp)
        rw [if_neg c15] at H
        have c15b0 : decide (0 < t528) = false := decide_eq_false c15
        clear c15
        by_cases c20 : a0.size ≤ 281474976710656
        ·rw [if_pos c20] at H
         have c20b0 := eq_true c20
         have c20b1 : decide (a0.size ≤ 281474976710656) = true := decide_eq_true c20
         clear c20
         obtain ⟨y534, hy534⟩ : ∃ y_ : List Int, y_ = (bytesOf a0) := ⟨_, rfl⟩
         replace H : ((spec_l2Utf8.f kj7 y534 x4_7).bind fun bt537 => (if bt537.2 = 0 then (if x3_1.length < 17592186044416 then (spec_l4Words.l0 kj7 a0 (x3_1 ++ [65533]) (wrap64 (x4_7 + 1)) (decide (t528 > 0))) else (none)) else (if x3_1.length < 17592186044416 then (spec_l4Words.l0 kj7 a0 (x3_1 ++ [bt537.1]) (wrap64 (x4_7 + bt537.2)) (decide (t528 > 0))) else (none)))) = some r := z0 hy534
         have Ny534 := aM hy534
         clear hy534
         replace H := Option.bind_eq_some_iff.mp H
         obtain ⟨⟨t537, t538⟩, A210, H⟩ := H
         replace H : (if t538 = 0 then (if x3_1.length < 17592186044416 then (spec_l4Words.l0 kj7 a0 (x3_1 ++ [65533]) (wrap64 (x4_7 + 1)) (decide (t528 > 0))) else (none)) else (if x3_1.length < 17592186044416 then (spec_l4Words.l0 kj7 a0 (x3_1 ++ [t537]) (wrap64 (x4_7 + t538)) (decide (t528 > 0))) else (none))) = some r := H
         have A21 := aM A210
         clear A210
         by_cases c22 : t538 = 0
         ·rw [if_pos c22] at H
          have c22b0 : (t538 == 0) = true := beq_iff_eq.mpr c22
          have c22b1 : (t538 != 0) = false := bne_eq_false_iff_eq.mpr c22
          clear c22
          by_cases c23 : x3_1.length < 17592186044416
          ·rw [if_pos c23] at H
           have LMc23 := aM c23
           clear c23
           obtain ⟨y539, hy539⟩ : ∃ y_ : List Int, y_ = (x3_1 ++ [65533]) := ⟨_, rfl⟩
           replace H : (spec_l4Words.l0 kj7 a0 y539 (wrap64 (x4_7 + 1)) (decide (t528 > 0))) = some r := z0 hy539
           have Ny539 := aM hy539
           clear hy539
           have H' := aM H
           clear H
           go_wp2_with (first | ((with_reducible refine gate_callee (f := 56) rfl ?_); refine gL_ (some 42) Tryz.func56 #[.string a0, .int .i64 x4_7] ?_; (with_reducible refine (spec_l4Word.calls kj7 a0 x4_7 t527 t528 _ A14.out).mono ?_); rintro e w24 ⟨v529, rfl, ho0, hb⟩; refine ⟨_, rfl, ?_⟩; have HO530 := aM (Kd.R_lower (Kd.R_new' ho0 (Kd.R_lt (bR HO_3))) (below_size bB)); replace HO_3 := aM (Kd.R_elder' (bR HO_3) (Kd.R_base ho0) hb); replace HB := aM (below_step bB hb); (try clear ho0)) | ((with_reducible refine gate_dst (N := 56) rfl ?_); refine Kd.R_conv _ 5 rfl (N := 56) rfl 9 22 _ rfl a0 rfl Tryz.underlying9 Tryz.underlying22 Tryz.underlying5 (ok := fun _ => True) trivial (pI) (Below.refl _ _) (Nat.le_refl _) ?_; intro v535 w25 ho26 hb hg_ hnew_; clear hg_ hnew_; (first | rw [← Ny534.out] at ho26 | (simp only [Int.reduceToNat] at ho26; rw [← Ny534.out] at ho26)); replace HO_3 := aM (Kd.R_below (bR HO_3) hb); replace HO530 := aM (Kd.R_below (bR HO530) hb); have HO536 := aM (Kd.R_lower ho26 (below_size bB)); replace HB := aM (below_step bB hb); clear hb ho26; obtain ⟨Ao27, co27, eo27⟩ := Kd.R_slice HO536.out; subst eo27) | ((with_reducible refine gate_callee (f := 57) rfl ?_); refine gL_ (some 58) Tryz.func57 #[.slice Ao27 y534.length co27, .int .i64 x4_7] ?_; (with_reducible refine (spec_l2Utf8.calls kj7 _ _ y534 x4_7 t537 t538 _ ?side1 ?side2 A21.out).mono ?_); (case side1 => exact z4 HO536.out); (case side2 => exact (Kd.R_reads' HO536.out).2.1); rintro e w' ⟨rfl, ⟨nd, rfl⟩⟩; refine ⟨_, rfl, ?_⟩) | ((with_reducible refine gate_builtin (b := .append) (xs := #[.tmp 63, .tmp 65]) rfl ?_); at_builtin; refine Kd.R_append (Kd.int .i64) (w0 := w) w.heap.size rfl (.tmp 63) (.tmp 65) 23 2 (.int .i64 0) 8 rfl Tryz.underlying23 info2 rfl (by decide) (by omega) u3 x3_1 65533 [.int .i64 65533] (fun k_ => some k_ ≠ (v529 : Value).ownBlock) (fun _ => False) rfl rfl ?aP (fun _ hk => hk.elim) ?aF ?aO ?aB ?aS ?aL ?_; (case aP => exact rfl); (case aB => exact bB); (case aF => exact (fun k_ hk => Kd.fresh' (Kd.R_lt (bR HO530)) k_ hk)); (case aO => exact z13 HO_3.out); (case aS => exact (below_size bB)); (case aL => have := LMc23.out; omega); intro v540 w28 ho hb hg hat; rw [← Ny539.out] at ho; have n0_ := aM (Kd.R_after (ok := (fun _ => True)) (bR HO530) hg hat); have n1_ := aM (Kd.R_over' (bR HO536) (Kd.R_typed (bR HO_3)) (by decide) hg); have n2_ := aM (hb); have n3_ := aM (ho); clear HO530; clear HO536; clear HB; clear HO_3; have HO530 := n0_; have HO536 := n1_; have HB := n2_; have HO541 := n3_; clear n0_ n1_ n2_ n3_; clear ho hb hg hat))
           go_roundg kj7
           case measure => have := HK1.out; have := HJ5.out; have := HJ7.out; omega
           case rel => exact ⟨(y539), (wrap64 (x4_7 + 1)), (decide (t528 > 0)), bS, bS, H', ⟨z46 HK1.out HJ5.out HJ7.out⟩, ⟨z9 HO541.out⟩, ⟨bB⟩⟩
          rw [if_neg c23] at H
          exact absurd H (by simp)
         rw [if_neg c22] at H
         have c22b0 : (t538 == 0) = false := beq_eq_false_iff_ne.mpr c22
         have c22b1 : (t538 != 0) = true := bne_iff_ne.mpr c22
         by_cases c29 : x3_1.length < 17592186044416
         ·rw [if_pos c29] at H
          have LMc29 := aM c29
          clear c29
          obtain ⟨y542, hy542⟩ : ∃ y_ : List Int, y_ = (x3_1 ++ [t537]) := ⟨_, rfl⟩
          replace H : (spec_l4Words.l0 kj7 a0 y542 (wrap64 (x4_7 + t538)) (decide (t528 > 0))) = some r := z0 hy542
          have Ny542 := aM hy542
          clear hy542
          have H' := aM H
          clear H
          go_wp2_with (first | ((with_reducible refine gate_callee (f := 56) rfl ?_); refine gL_ (some 42) Tryz.func56 #[.string a0, .int .i64 x4_7] ?_; (with_reducible refine (spec_l4Word.calls kj7 a0 x4_7 t527 t528 _ A14.out).mono ?_); rintro e w30 ⟨v529, rfl, ho0, hb⟩; refine ⟨_, rfl, ?_⟩; have HO530 := aM (Kd.R_lower (Kd.R_new' ho0 (Kd.R_lt (bR HO_3))) (below_size bB)); replace HO_3 := aM (Kd.R_elder' (bR HO_3) (Kd.R_base ho0) hb); replace HB := aM (below_step bB hb); (try clear ho0)) | ((with_reducible refine gate_dst (N := 56) rfl ?_); refine Kd.R_conv _ 5 rfl (N := 56) rfl 9 22 _ rfl a0 rfl Tryz.underlying9 Tryz.underlying22 Tryz.underlying5 (ok := fun _ => True) trivial (pI) (Below.refl _ _) (Nat.le_refl _) ?_; intro v535 w31 ho32 hb hg_ hnew_; clear hg_ hnew_; (first | rw [← Ny534.out] at ho32 | (simp only [Int.reduceToNat] at ho32; rw [← Ny534.out] at ho32)); replace HO_3 := aM (Kd.R_below (bR HO_3) hb); replace HO530 := aM (Kd.R_below (bR HO530) hb); have HO536 := aM (Kd.R_lower ho32 (below_size bB)); replace HB := aM (below_step bB hb); clear hb ho32; obtain ⟨Ao33, co33, eo33⟩ := Kd.R_slice HO536.out; subst eo33) | ((with_reducible refine gate_callee (f := 57) rfl ?_); refine gL_ (some 58) Tryz.func57 #[.slice Ao33 y534.length co33, .int .i64 x4_7] ?_; (with_reducible refine (spec_l2Utf8.calls kj7 _ _ y534 x4_7 t537 t538 _ ?side1 ?side2 A21.out).mono ?_); (case side1 => exact z4 HO536.out); (case side2 => exact (Kd.R_reads' HO536.out).2.1); rintro e w' ⟨rfl, ⟨nd, rfl⟩⟩; refine ⟨_, rfl, ?_⟩) | ((with_reducible refine gate_builtin (b := .append) (xs := #[.tmp 63, .tmp 65]) rfl ?_); at_builtin; refine Kd.R_append (Kd.int .i64) (w0 := w) w.heap.size rfl (.tmp 63) (.tmp 65) 23 2 (.int .i64 0) 8 rfl Tryz.underlying23 info2 rfl (by decide) (by omega) u3 x3_1 t537 [.int .i64 t537] (fun k_ => some k_ ≠ (v529 : Value).ownBlock) (fun _ => False) rfl rfl ?aP (fun _ hk => hk.elim) ?aF ?aO ?aB ?aS ?aL ?_; (case aP => exact rfl); (case aB => exact bB); (case aF => exact (fun k_ hk => Kd.fresh' (Kd.R_lt (bR HO530)) k_ hk)); (case aO => exact z13 HO_3.out); (case aS => exact (below_size bB)); (case aL => have := LMc29.out; omega); intro v543 w34 ho hb hg hat; rw [← Ny542.out] at ho; have n0_ := aM (Kd.R_after (ok := (fun _ => True)) (bR HO530) hg hat); have n1_ := aM (Kd.R_over' (bR HO536) (Kd.R_typed (bR HO_3)) (by decide) hg); have n2_ := aM (hb); have n3_ := aM (ho); clear HO530; clear HO536; clear HB; clear HO_3; have HO530 := n0_; have HO536 := n1_; have HB := n2_; have HO544 := n3_; clear n0_ n1_ n2_ n3_; clear ho hb hg hat))
          go_roundg kj7
          case measure => have := HK1.out; have := HJ5.out; have := HJ7.out; omega
          case rel => exact ⟨(y542), (wrap64 (x4_7 + t538)), (decide (t528 > 0)), bS, bS, H', ⟨z46 HK1.out HJ5.out HJ7.out⟩, ⟨z9 HO544.out⟩, ⟨bB⟩⟩
         rw [if_neg c29] at H
         exact absurd H (by simp)
        rw [if_neg c20] at H
        exact absurd H (by simp)
   rw [if_neg c4] at H
   have c4b0 : decide (x4_1 < (a0.size : Int)) = false := decide_eq_false c4
   clear c4
   obtain rfl := Option.some.inj H
   go_wp2
   go_ret
   exact ⟨_, bE, bR HO_3, bB⟩
def spec_DecodeWords.f (k : Nat) (a0 : ByteArray) : Option (Int × List Int) := if (a0.size : Int) > 400 then (some (2, ([] : List Int))) else ((spec_l4Words.f k a0).bind fun t546 => (if (t546.length : Int) > 400 then (some (2, ([] : List Int))) else (some (0, t546))))
set_option maxHeartbeats 8000000 in
set_option maxRecDepth 100000 in
theorem spec_DecodeWords.calls (k : Nat) (a0 : ByteArray) (r1 : Int) (r2 : List Int) (w : World) (h : spec_DecodeWords.f k a0 = some (r1, r2)) :
  Calls Tryz.prog 16 #[.string a0] w fun e w' => ∃ v1_ : Value, e = .returned (.agg #[.int .i64 r1, v1_]) ∧ Kd.R (Kd.int .i64) 2 w' w.heap.size (fun _ => True) v1_ r2 ∧ Below w.heap.size w w' := by
 have hu25 := Tryz.underlying25
 have HB := aM (Below.refl w.heap.size w)
 have H : (if (a0.size : Int) > 400 then (some (2, ([] : List Int))) else ((spec_l4Words.f k a0).bind fun t546 => (if (t546.length : Int) > 400 then (some (2, ([] : List Int))) else (some (0, t546))))) = some (r1, r2) := h
 clear h
 by_cases c2 : (a0.size : Int) > 400
 ·rw [if_pos c2] at H
  have c2b0 : decide (400 < (a0.size : Int)) = true := decide_eq_true c2
  have c2b1 : decide (400 < a0.size) = true := decide_eq_true (by omega)
  clear c2
  simp only [Option.some.injEq, Prod.mk.injEq] at H
  obtain ⟨rfl, rfl⟩ := H
  go_enter Tryz.func16, Tryz.ntmps16
  go_wp2_with (first | ((with_reducible refine gate_dst (N := 2) rfl ?_); refine box_event ?hg (N := 2) ?hd (cs := #[.int .i64 0, .slice none 0 0]) (t := 25) ?hr ?_; (case hd => rfl); (case hg => rfl); (case hr => exact z10); intro gb545 hg w3 hbox hb; have BK545 := aM (hbox); have GW545 := aM ((z21 : w.heap.size ≤ gb545)); have GE545 := aM ((z21 : w.heap.size ≤ gb545)); replace HB := aM (below_step bB hb); clear hb hbox hg; have hcz4_0 : w3.cell? ⟨gb545, 0, none⟩ = some (.int .i64 0) := (blk_cell BK545.out 0).trans rfl; have hcz4_1 : w3.cell? ⟨gb545, 1, none⟩ = some (.slice none 0 0) := (blk_cell BK545.out 1).trans rfl; have hfz4_0 := blk_frozen BK545.out 0; have hfz4_1 := blk_frozen BK545.out 1))
  refine bodyPost_ret (results_cell_row rfl _ _ gb545 25 #[.int .i64 2, .slice none 0 0] (0, 0) _ rfl (z8 BK545.out) Tryz.underlying25 rfl (by kernel_rfl)) rfl ?_
  exact ⟨_, bE, z6, bG GE545⟩
 rw [if_neg c2] at H
 have c2b0 : decide (400 < (a0.size : Int)) = false := decide_eq_false c2
 have c2b1 : decide (400 < a0.size) = false := decide_eq_false (by omega)
 clear c2
 replace H := Option.bind_eq_some_iff.mp H
 obtain ⟨t546, A50, H⟩ := H
 replace H : (if (t546.length : Int) > 400 then (some (2, ([] : List Int))) else (some (0, t546))) = some (r1, r2) := H
 have A5 := aM A50
 clear A50
 by_cases c6 : (t546.length : Int) > 400
 ·rw [if_pos c6] at H
  have c6b0 : decide (400 < (t546.length : Int)) = true := decide_eq_true c6
  have c6b1 : decide (400 < t546.length) = true := decide_eq_true (by omega)
  clear c6
  simp only [Option.some.injEq, Prod.mk.injEq] at H
  obtain ⟨rfl, rfl⟩ := H
  go_enter Tryz.func16, Tryz.ntmps16
  go_wp2_with (first | ((with_reducible refine gate_dst (N := 2) rfl ?_); refine box_event ?hg (N := 2) ?hd (cs := #[.int .i64 0, .slice none 0 0]) (t := 25) ?hr ?_; (case hd => rfl); (case hg => rfl); (case hr => exact z10); intro gb545 hg w7 hbox hb; have BK545 := aM (hbox); have GW545 := aM ((z21 : w.heap.size ≤ gb545)); have GE545 := aM ((z21 : w.heap.size ≤ gb545)); replace HB := aM (below_step bB hb); clear hb hbox hg) | ((with_reducible refine gate_callee (f := 34) rfl ?_); refine gL_ (some 9) Tryz.func34 #[.string a0] ?_; (with_reducible refine (spec_l4Words.calls k a0 t546 _ A5.out).mono ?_); rintro e w8 ⟨v547, rfl, ho0, hb⟩; refine ⟨_, rfl, ?_⟩; have HO548 := aM (Kd.R_lower ho0 (below_size (bG GE545))); replace BK545 := aM (blk_below (g := gb545) (o := .cells #[.int .i64 0, .slice none 0 0] 25 (0, 0)) (bL BK545) hb); replace HB := aM (below_step (bG GE545) hb); (try clear ho0); obtain ⟨Ao9, co9, eo9⟩ := Kd.R_slice HO548.out; subst eo9; have hcz10_0 : w8.cell? ⟨gb545, 0, none⟩ = some (.int .i64 0) := (blk_cell BK545.out 0).trans rfl; have hcz10_1 : w8.cell? ⟨gb545, 1, none⟩ = some (.slice none 0 0) := (blk_cell BK545.out 1).trans rfl; have hfz10_0 := blk_frozen BK545.out 0; have hfz10_1 := blk_frozen BK545.out 1))
  refine bodyPost_ret (results_cell_row rfl _ _ gb545 25 #[.int .i64 2, .slice none 0 0] (0, 0) _ rfl (z8 BK545.out) Tryz.underlying25 rfl (by kernel_rfl)) rfl ?_
  exact ⟨_, bE, z6, bG GE545⟩
 rw [if_neg c6] at H
 have c6b0 : decide (400 < (t546.length : Int)) = false := decide_eq_false c6
 have c6b1 : decide (400 < t546.length) = false := decide_eq_false (by omega)
 clear c6
 simp only [Option.some.injEq, Prod.mk.injEq] at H
 obtain ⟨rfl, rfl⟩ := H
 go_enter Tryz.func16, Tryz.ntmps16
 go_wp2_with (first | ((with_reducible refine gate_dst (N := 2) rfl ?_); refine box_event ?hg (N := 2) ?hd (cs := #[.int .i64 0, .slice none 0 0]) (t := 25) ?hr ?_; (case hd => rfl); (case hg => rfl); (case hr => exact z10); intro gb545 hg w11 hbox hb; have BK545 := aM (hbox); have GW545 := aM ((z21 : w.heap.size ≤ gb545)); have GE545 := aM ((z21 : w.heap.size ≤ gb545)); replace HB := aM (below_step bB hb); clear hb hbox hg) | ((with_reducible refine gate_callee (f := 34) rfl ?_); refine gL_ (some 9) Tryz.func34 #[.string a0] ?_; (with_reducible refine (spec_l4Words.calls k a0 t546 _ A5.out).mono ?_); rintro e w12 ⟨v547, rfl, ho0, hb⟩; refine ⟨_, rfl, ?_⟩; have HO548 := aM (Kd.R_lower ho0 (below_size (bG GE545))); replace BK545 := aM (blk_below (g := gb545) (o := .cells #[.int .i64 0, .slice none 0 0] 25 (0, 0)) (bL BK545) hb); replace HB := aM (below_step (bG GE545) hb); (try clear ho0); obtain ⟨Ao13, co13, eo13⟩ := Kd.R_slice HO548.out; subst eo13; have hcz14_0 : w12.cell? ⟨gb545, 0, none⟩ = some (.int .i64 0) := (blk_cell BK545.out 0).trans rfl; have hcz14_1 : w12.cell? ⟨gb545, 1, none⟩ = some (.slice none 0 0) := (blk_cell BK545.out 1).trans rfl; have hfz14_0 := blk_frozen BK545.out 0; have hfz14_1 := blk_frozen BK545.out 1))
 refine bodyPost_ret (results_cell_row rfl _ _ gb545 25 #[.int .i64 0, .slice Ao13 t546.length co13] (0, 0) _ rfl (z18 BK545.out) Tryz.underlying25 rfl (by kernel_rfl)) rfl ?_
 exact ⟨_, bE, by (with_reducible repeat (first | apply Kd.R_alloc | apply Kd.R_drewN | apply Kd.R_drew)); exact Kd.R_mono (Kd.R_far (p := ⟨gb545, 1, none⟩) (Kd.R_far (p := ⟨gb545, 0, none⟩) (Kd.R_types HO548.out BK545.out (by decide)) (fun _ hk => hk.2) (.int .i64 0)) (fun _ hk => hk.2) (.slice Ao13 t546.length co13)) (fun _ hk => trivial), bG GE545⟩
end Go.Proofs.YtjopgmjmjnfcjaaGreatDoor.PWords
