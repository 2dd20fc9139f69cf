/- Part of the proof; words that it uses. -/
import Derived.Test.YtjopgmjmjnfcjaaGreatDoorPWordsx0
import Derived.Test.YtjopgmjmjnfcjaaGreatDoorPWordsx4
import Derived.Test.YtjopgmjmjnfcjaaGreatDoorPWordsx5
namespace Go.Proofs.YtjopgmjmjnfcjaaGreatDoor.PWords
open Go.RowKit Go.Proofs.YtjopgmjmjnfcjaaGreatDoorW.PrintWords Go.Proofs.YtjopgmjmjnfcjaaGreatDoorW.PrintLast
set_option linter.unusedVariables false
set_option linter.unusedSimpArgs false
mutual
def impl_firstChar.j1 : Nat → Int → List Int → Int → Int → Option (Int × Int)
 | 0, _, _, _, _ => none
 | k + 1, x0, x1, x6, x7 => if x6 > (x1.length : Int) then (some (0, 0)) else (if x0 = 5 then (if 1 < (x1.length : Int) then (impl_firstChar.j6 k x0 x1 x6 (wrap64 ((wrap64 (x7 * 256)) + (wrap64 (rd x1 1))))) else (none)) else (if x0 = 4 then (impl_firstChar.j2 k x0 x1 x6 x7 x7 (x6 == 2)) else (impl_firstChar.j2 k x0 x1 x6 x7 x7 false)))
def impl_firstChar.j6 : Nat → Int → List Int → Int → Int → Option (Int × Int)
 | 0, _, _, _, _ => none
 | k + 1, x0, x1, x6, x8 => (impl_HasChar.f k x0 x8).bind fun t327 => (if t327 = true then ((impl_encodeChar.f k x0 x8).bind fun t328 => (if 0 ≤ x6 then (if x6 ≤ (x1.length : Int) then ((bytes_Equal.f t328 (x1.take (x6 : Int).toNat)).bind fun t332 => (if t332 = true then (some (x8, x6)) else (some (0, 0)))) else (none)) else (none))) else (some (0, 0)))
def impl_firstChar.j2 : Nat → Int → List Int → Int → Int → Int → Bool → Option (Int × Int)
 | 0, _, _, _, _, _, _ => none
 | k + 1, x0, x1, x6, x7, x8, x46 => if x46 = true then (if 1 < (x1.length : Int) then (impl_firstChar.j6 k x0 x1 x6 (wrap64 ((wrap64 ((Int.tmod x7 32) * 64)) + (Int.tmod (wrap64 (rd x1 1)) 64)))) else (none)) else (if x0 = 4 then (impl_firstChar.j3 k x0 x1 x6 x7 x8 (x6 == 3)) else (impl_firstChar.j3 k x0 x1 x6 x7 x8 false))
def impl_firstChar.j3 : Nat → Int → List Int → Int → Int → Int → Bool → Option (Int × Int)
 | 0, _, _, _, _, _, _ => none
 | k + 1, x0, x1, x6, x7, x8, x62 => if x62 = true then (if 1 < (x1.length : Int) then (if 2 < (x1.length : Int) then (impl_firstChar.j6 k x0 x1 x6 (wrap64 ((wrap64 ((wrap64 ((Int.tmod x7 16) * 4096)) + (wrap64 ((Int.tmod (wrap64 (rd x1 1)) 64) * 64)))) + (Int.tmod (wrap64 (rd x1 2)) 64)))) else (none)) else (none)) else (if x0 = 3 then (impl_firstChar.j4 k x0 x1 x6 x7 x8 (x7 == 253)) else (impl_firstChar.j4 k x0 x1 x6 x7 x8 false))
def impl_firstChar.j4 : Nat → Int → List Int → Int → Int → Int → Bool → Option (Int × Int)
 | 0, _, _, _, _, _, _ => none
 | k + 1, x0, x1, x6, x7, x8, x85 => if x85 = true then (impl_firstChar.j6 k x0 x1 x6 167) else (if x0 = 3 then (impl_firstChar.j5 k x0 x1 x6 x7 x8 (x7 == 240)) else (impl_firstChar.j5 k x0 x1 x6 x7 x8 false))
def impl_firstChar.j5 : Nat → Int → List Int → Int → Int → Int → Bool → Option (Int × Int)
 | 0, _, _, _, _, _, _ => none
 | k + 1, x0, x1, x6, x7, x8, x92 => if x92 = true then (impl_firstChar.j6 k x0 x1 x6 8470) else (if x0 = 3 then (if x7 > 160 then (if x7 = 173 then (impl_firstChar.j6 k x0 x1 x6 x8) else (impl_firstChar.j6 k x0 x1 x6 (wrap64 (x7 + 864)))) else (impl_firstChar.j6 k x0 x1 x6 x8)) else (impl_firstChar.j6 k x0 x1 x6 x8))
def impl_firstChar.j0 : Nat → Int → List Int → Int → Int → Bool → Option (Int × Int)
 | 0, _, _, _, _, _ => none
 | k + 1, x0, x1, x6, x7, x13 => if x13 = true then (impl_firstChar.j1 k x0 x1 2 x7) else (if x0 = 4 then (if x7 ≥ 224 then (impl_firstChar.j1 k x0 x1 3 x7) else (impl_firstChar.j1 k x0 x1 x6 x7)) else (impl_firstChar.j1 k x0 x1 x6 x7))
end
def impl_firstChar.f (k : Nat) (a0 : Int) (l1 : List Int) : Option (Int × Int) := if 0 < (l1.length : Int) then (if a0 = 5 then (impl_firstChar.j0 k a0 l1 1 (wrap64 (rd l1 0)) true) else (if a0 = 4 then ((impl_within.f (wrap64 (rd l1 0)) 192 223).bind fun t322 => (impl_firstChar.j0 k a0 l1 1 (wrap64 (rd l1 0)) t322)) else (impl_firstChar.j0 k a0 l1 1 (wrap64 (rd l1 0)) false))) else (none)
def impl_firstChar.T14 : Bool × List (List Nat × List Nat) := (true, [([], []), ([0], [0]), ([1], [1]), ([], []), ([3], [3]), ([4], [4]), ([5], [5]), ([6], [6]), ([7], [7]), ([2, 8], [2, 8]), ([], []), ([10], [10]), ([11], [11]), ([12], [12]), ([13], [13]), ([9, 14], [9, 14]), ([15, 0, 1, 2, 3, 4, 5, 6, 7, 8, 9, 10, 11, 12, 13, 14, 15], [15])])
def impl_firstChar.B14 : List Nat := [0, 1, 3, 0, 8, 24, 56, 120, 248, 511, 0, 1024, 3072, 7168, 15360, 32767, 65535]
theorem impl_firstChar.tab14 : rtab .any (opsOf Tryz.f54 14) = impl_firstChar.T14 := by kernel_rfl
theorem impl_firstChar.bits14 : waitsOk impl_firstChar.T14.2 impl_firstChar.B14 = true := by kernel_rfl
def impl_firstChar.T21 : Bool × List (List Nat × List Nat) := (true, [([], []), ([], []), ([0, 1], [0, 1]), ([2], [2]), ([3, 2], [3]), ([4], [4]), ([4], [4]), ([5, 6, 4, 4], [4, 5, 6]), ([4], [4]), ([4], [4]), ([8, 9, 4], [4, 8, 9]), ([7, 10, 7, 4], [4, 7, 10]), ([11, 4], [4, 11]), ([4, 12], [4, 12])])
def impl_firstChar.B21 : List Nat := [0, 0, 3, 7, 15, 31, 31, 127, 31, 31, 799, 2047, 4095, 8191]
theorem impl_firstChar.tab21 : rtab .any (opsOf Tryz.f54 21) = impl_firstChar.T21 := by kernel_rfl
theorem impl_firstChar.bits21 : waitsOk impl_firstChar.T21.2 impl_firstChar.B21 = true := by kernel_rfl
set_option maxHeartbeats 8000000 in
set_option maxRecDepth 100000 in
theorem impl_firstChar.calls (k : Nat) (a0 : Int) (A1 : Option Addr) (c1 : Nat) (l1 : List Int) (r1 : Int) (r2 : Int) (w : World) (hr1 : Kd.C (Kd.int .u8) w A1 l1.length l1) (hc1 : l1.length ≤ c1) (h : impl_firstChar.f k a0 l1 = some (r1, r2)) :
  Calls Tryz.prog 54 #[.int .i64 a0, .slice A1 l1.length c1] w fun e w' => e = .returned (.tuple #[.int .i64 r1, .int .i64 r2]) ∧ Below w.heap.size w w' := by
 have HR1 := aM hr1
 have HC1 := aM hc1
 clear hr1 hc1
 have HB := aM (Below.refl w.heap.size w)
 have H : (if 0 < (l1.length : Int) then (if a0 = 5 then (impl_firstChar.j0 k a0 l1 1 (wrap64 (rd l1 0)) true) else (if a0 = 4 then ((impl_within.f (wrap64 (rd l1 0)) 192 223).bind fun t322 => (impl_firstChar.j0 k a0 l1 1 (wrap64 (rd l1 0)) t322)) else (impl_firstChar.j0 k a0 l1 1 (wrap64 (rd l1 0)) false))) else (none)) = some (r1, r2) := h
 clear h
 by_cases c3 : 0 < (l1.length : Int)
 ·rw [if_pos c3] at H
  have c3b0 : decide (0 < (l1.length : Int)) = true := decide_eq_true c3
  have c3b1 : decide (0 < l1.length) = true := decide_eq_true (by omega)
  clear c3
  have HC4 := aM H
  clear H
  go_enter Tryz.func54, Tryz.ntmps54
  try go_wp2
  replace HB := aM (below_drew1 HB.out)
  have p321 : 0 ≤ (0 : Int) := (by omega)
  have q321 : 0 < (l1.length : Int) := pI
  obtain ⟨ad321, e321, hx321_0⟩ := Kd.at_int HR1.out 0 p321 q321
  have hw321_0 := hx321_0
  (try rw [show ((0 : Int)).toNat = 0 from rfl] at hw321_0)
  (try rw [show 0 * 1 = 0 from rfl] at hw321_0)
  (try rw [Addr.add_zero'] at hw321_0)
  cases e321
  have qi321 : (0 < l1.length) = True := eq_true (by omega)
  (try rw [show ((0 : Int)).toNat = 0 from rfl] at hx321_0)
  (try rw [Addr.add_zero'] at hx321_0)
  replace hx321_0 := (HB.out.cell (World.block_lt_of_cell? w _ hx321_0)).trans hx321_0
  replace p321 := eq_true p321
  replace q321 := eq_true q321
  refine start_ (n := 6) (S := fun w' => w'.cell? ad321 = some (.int .u8 (rd l1 0))) (ds := []) #[false, false, false, false, false, false] (by kernel_rfl) rfl rfl (((HB.out.cell (World.block_lt_of_cell? w _ hw321_0)).trans hw321_0)) (fun hHeld => ?_)
  generalize w.drew = w5 at HB hx321_0 hHeld ⊢
  refine pure_ (i := 0) (N := some 9) (v := ?_) (a' := ?_) #[true, false, false, false, false, false] rfl rfl (by kernel_rfl) (fun _ _ _ h => h) (Or.inl ⟨by rfl, ?_⟩) ?_ ?_
  rotate_left
  ·intro w'
   go_simp
   with_reducible rfl
  rotate_left
  ·simp only [Act.put, List.setIfInBounds_toArray, List.set_cons_zero, List.set_cons_succ, i64_w, i32_w]
   rfl
  refine pure_ (i := 1) (N := some 10) (v := ?_) (a' := ?_) #[true, true, false, false, false, false] rfl rfl (by kernel_rfl) (fun _ _ _ h => h) (Or.inl ⟨by rfl, ?_⟩) ?_ ?_
  rotate_left
  ·intro w'
   go_simp
   with_reducible rfl
  rotate_left
  ·simp only [Act.put, List.setIfInBounds_toArray, List.set_cons_zero, List.set_cons_succ, i64_w, i32_w]
   rfl
  refine pure_ (i := 4) (N := some 6) (v := ?_) (a' := ?_) #[true, true, false, false, true, false] rfl rfl (by kernel_rfl) (fun _ _ _ h => h) (Or.inl ⟨by rfl, ?_⟩) ?_ ?_
  rotate_left
  ·intro w'
   go_simp
   with_reducible rfl
  rotate_left
  ·simp only [Act.put, List.setIfInBounds_toArray, List.set_cons_zero, List.set_cons_succ, i64_w, i32_w]
   rfl
  refine take_ (i := 2) (N := some 11) (v := ?_) (a' := ?_) #[true, true, true, false, true, false] rfl rfl (by kernel_rfl) (fun _ _ _ h => h) (Or.inl ⟨by rfl, ?_⟩) hHeld ?_ ?_
  rotate_left
  ·intro w' s0
   go_simp
   with_reducible rfl
  rotate_left
  ·simp only [Act.put, List.setIfInBounds_toArray, List.set_cons_zero, List.set_cons_succ, i64_w, i32_w]
   rfl
  refine pure_ (i := 3) (N := some 12) (v := ?_) (a' := ?_) #[true, true, true, true, true, false] rfl rfl (by kernel_rfl) (fun _ _ _ h => h) (Or.inl ⟨by rfl, ?_⟩) ?_ ?_
  rotate_left
  ·intro w'
   go_simp
   with_reducible rfl
  rotate_left
  ·simp only [Act.put, List.setIfInBounds_toArray, List.set_cons_zero, List.set_cons_succ, i64_w, i32_w]
   rfl
  refine pure_ (i := 5) (N := some 7) (v := ?_) (a' := ?_) #[true, true, true, true, true, true] rfl rfl (by kernel_rfl) (fun _ _ _ h => h) (Or.inl ⟨by rfl, ?_⟩) ?_ ?_
  rotate_left
  ·intro w'
   go_simp
   with_reducible rfl
  rotate_left
  ·simp only [Act.put, List.setIfInBounds_toArray, List.set_cons_zero, List.set_cons_succ, i64_w, i32_w]
   rfl
  refine done_ (by kernel_rfl) ?_
  go_upto_block 0 with (fail)
  go_cut [6] (fun v6 wc => ∃ (kq : Nat) (x6_3 : Int), v6 = .int .i64 x6_3 ∧ Aside0 (impl_firstChar.j1 kq a0 l1 x6_3 (wrap64 (rd l1 0)) = some (r1, r2)) ∧ Aside0 (kq ≤ k) ∧ Aside0 (Below w.heap.size w wc))
  case first =>
   have H := HC4.out
   clear HC4
   have HC6 := aM H
   clear H
   go_upto_region 2 with (fail)
   go_cut [13] (fun v13 wc => ∃ (kq : Nat) (x13_5 : Bool), v13 = .bool x13_5 ∧ Aside0 (impl_firstChar.j0 kq a0 l1 1 (wrap64 (rd l1 0)) x13_5 = some (r1, r2)) ∧ Aside0 (kq ≤ k) ∧ Aside0 (Below w.heap.size w wc))
   case first =>
    have H := HC6.out
    clear HC6
    by_cases c7 : a0 = 5
    ·rw [if_pos c7] at H
     have c7b0 : (a0 == 5) = true := beq_iff_eq.mpr c7
     have c7b1 : (a0 != 5) = false := bne_eq_false_iff_eq.mpr c7
     clear c7
     (first | rw [c7b0] | (simp only [i64_w, i32_w]; rw [c7b0]) | skip)
     have H' := aM H
     clear H
     go_wp2
     go_meet
     case rel => exact ⟨_, (true), bS, H', ⟨z34⟩, ⟨bB⟩⟩
    rw [if_neg c7] at H
    have c7b0 : (a0 == 5) = false := beq_eq_false_iff_ne.mpr c7
    have c7b1 : (a0 != 5) = true := bne_iff_ne.mpr c7
    (first | rw [c7b0] | (simp only [i64_w, i32_w]; rw [c7b0]) | skip)
    by_cases c8 : a0 = 4
    ·rw [if_pos c8] at H
     have c8b0 : (a0 == 4) = true := beq_iff_eq.mpr c8
     have c8b1 : (a0 != 4) = false := bne_eq_false_iff_eq.mpr c8
     clear c8
     replace H := Option.bind_eq_some_iff.mp H
     obtain ⟨t322, A90, H⟩ := H
     replace H : (impl_firstChar.j0 k a0 l1 1 (wrap64 (rd l1 0)) t322) = some (r1, r2) := H
     have A9 := aM A90
     clear A90
     have H' := aM H
     clear H
     go_wp2_with (first | (go_at_call 40; (with_reducible refine (impl_within.calls (wrap64 (rd l1 0)) 192 223 t322 _ A9.out).mono ?_); rintro e w' ⟨rfl, ⟨nd, rfl⟩⟩))
     go_meet
     case rel => exact ⟨_, (t322), bS, H', ⟨z34⟩, ⟨bB⟩⟩
    rw [if_neg c8] at H
    have c8b0 : (a0 == 4) = false := beq_eq_false_iff_ne.mpr c8
    have c8b1 : (a0 != 4) = true := bne_iff_ne.mpr c8
    have H' := aM H
    clear H
    go_wp2
    go_meet
    case rel => exact ⟨_, (false), bS, H', ⟨z34⟩, ⟨bB⟩⟩
   case rest =>
    clear HC6
    try clear c1
    try clear p2
    try clear c3
    try clear c3b0
    try clear c3b1
    try clear p3
    try clear q3
    try clear hx3
    try clear qi3
    try clear c5
    try clear p6
    try clear c7
    try clear c7b0
    try clear c7b1
    try clear c8
    try clear c8b0
    try clear c8b1
    try clear hx321_0
    try clear p321
    try clear q321
    obtain ⟨kq, x13_5, rfl, HA, HJ5, HB⟩ := hcut
    cases kq with
    | zero => exact absurd HA.out (by simp [impl_firstChar.j0])
    | succ kj5 =>
     have H := HA.out
     clear HA
     simp only [impl_firstChar.j0] at H
     by_cases c10 : x13_5 = true
     ·subst c10
      have H1 : (impl_firstChar.j1 kj5 a0 l1 2 (wrap64 (rd l1 0))) = some (r1, r2) := z16
      clear H
      have H := H1
      clear H1
      have H' := aM H
      clear H
      go_wp2
      go_meet
      case rel => exact ⟨_, (2), bS, H', ⟨z31 HJ5.out⟩, ⟨bB⟩⟩
     replace c10 := Bool.eq_false_iff.mpr c10
     subst c10
     have H1 : (if a0 = 4 then (if (wrap64 (rd l1 0)) ≥ 224 then (impl_firstChar.j1 kj5 a0 l1 3 (wrap64 (rd l1 0))) else (impl_firstChar.j1 kj5 a0 l1 1 (wrap64 (rd l1 0)))) else (impl_firstChar.j1 kj5 a0 l1 1 (wrap64 (rd l1 0)))) = some (r1, r2) := z7
     clear H
     have H := H1
     clear H1
     by_cases c11 : a0 = 4
     ·rw [if_pos c11] at H
      have c11b0 : (a0 == 4) = true := beq_iff_eq.mpr c11
      have c11b1 : (a0 != 4) = false := bne_eq_false_iff_eq.mpr c11
      clear c11
      by_cases c12 : (wrap64 (rd l1 0)) ≥ 224
      ·rw [if_pos c12] at H
       have c12b0 : decide (224 ≤ (wrap64 (rd l1 0))) = true := decide_eq_true c12
       clear c12
       have H' := aM H
       clear H
       go_wp2
       go_meet
       case rel => exact ⟨_, (3), bS, H', ⟨z31 HJ5.out⟩, ⟨bB⟩⟩
      rw [if_neg c12] at H
      have c12b0 : decide (224 ≤ (wrap64 (rd l1 0))) = false := decide_eq_false c12
      clear c12
      have H' := aM H
      clear H
      go_wp2
      go_meet
      case rel => exact ⟨_, (1), bS, H', ⟨z31 HJ5.out⟩, ⟨bB⟩⟩
     rw [if_neg c11] at H
     have c11b0 : (a0 == 4) = false := beq_eq_false_iff_ne.mpr c11
     have c11b1 : (a0 != 4) = true := bne_iff_ne.mpr c11
     have H' := aM H
     clear H
     go_wp2
     go_meet
     case rel => exact ⟨_, (1), bS, H', ⟨z31 HJ5.out⟩, ⟨bB⟩⟩
  case rest =>
   clear HC4
   try clear c1
   try clear p2
   try clear c3
   try clear c3b0
   try clear c3b1
   try clear p3
   try clear q3
   try clear hx3
   try clear qi3
   try clear c5
   try clear p6
   try clear c7
   try clear c7b0
   try clear c7b1
   try clear c8
   try clear c8b0
   try clear c8b1
   try clear c10
   try clear c11
   try clear c11b0
   try clear c11b1
   try clear c12
   try clear c12b0
   try clear hx321_0
   try clear p2
   try clear p3
   try clear p321
   try clear p6
   try clear q3
   try clear q321
   obtain ⟨kq, x6_3, rfl, HA, HJ3, HB⟩ := hcut
   cases kq with
   | zero => exact absurd HA.out (by simp [impl_firstChar.j1])
   | succ kj3 =>
    have H := HA.out
    clear HA
    simp only [impl_firstChar.j1] at H
    by_cases c13 : x6_3 > (l1.length : Int)
    ·rw [if_pos c13] at H
     have c13b0 : decide ((l1.length : Int) < x6_3) = true := decide_eq_true c13
     clear c13
     simp only [Option.some.injEq, Prod.mk.injEq] at H
     obtain ⟨rfl, rfl⟩ := H
     go_wp2
     go_ret2
     exact ⟨bE, bB⟩
    rw [if_neg c13] at H
    have c13b0 : decide ((l1.length : Int) < x6_3) = false := decide_eq_false c13
    clear c13
    have HC14 := aM H
    clear H
    go_upto_block 1 with (fail)
    go_cut [8] (fun v8 wc => ∃ (kq : Nat) (x8_13 : Int), v8 = .int .i64 x8_13 ∧ Aside0 (impl_firstChar.j6 kq a0 l1 x6_3 x8_13 = some (r1, r2)) ∧ Aside0 (kq ≤ kj3) ∧ Aside0 (Below w.heap.size w wc))
    case first =>
     have H := HC14.out
     clear HC14
     by_cases c15 : a0 = 5
     ·rw [if_pos c15] at H
      have c15b0 : (a0 == 5) = true := beq_iff_eq.mpr c15
      have c15b1 : (a0 != 5) = false := bne_eq_false_iff_eq.mpr c15
      clear c15
      (first | rw [c15b0] | (simp only [i64_w, i32_w]; rw [c15b0]) | skip)
      by_cases c16 : 1 < (l1.length : Int)
      ·rw [if_pos c16] at H
       have c16b0 : decide (1 < (l1.length : Int)) = true := decide_eq_true c16
       have c16b1 : decide (1 < l1.length) = true := decide_eq_true (by omega)
       clear c16
       have H' := aM H
       clear H
       have p323 : 0 ≤ (1 : Int) := (by omega)
       have q323 : 1 < (l1.length : Int) := pI
       obtain ⟨ad323, e323, hx323_0⟩ := Kd.at_int HR1.out 1 p323 q323
       obtain rfl : ad321 = ad323 := (by injection e323)
       (try simp only [show (1 : Int).toNat = 1 from rfl, Nat.reduceMul, Nat.reduceEqDiff, Go.Addr.add, ↓reduceIte] at hx323_0)
       have qi323 : (1 < l1.length) = True := eq_true (by omega)
       (try rw [show ((1 : Int)).toNat = 1 from rfl] at hx323_0)
       replace hx323_0 := (HB.out.cell (World.block_lt_of_cell? w _ hx323_0)).trans hx323_0
       replace p323 := eq_true p323
       replace q323 := eq_true q323
       go_wp2
       go_meet
       case rel => exact ⟨_, (wrap64 ((wrap64 ((wrap64 (rd l1 0)) * 256)) + (wrap64 (rd l1 1)))), bS, H', ⟨z31 HJ3.out⟩, ⟨bB⟩⟩
      rw [if_neg c16] at H
      exact absurd H (by simp)
     rw [if_neg c15] at H
     have c15b0 : (a0 == 5) = false := beq_eq_false_iff_ne.mpr c15
     have c15b1 : (a0 != 5) = true := bne_iff_ne.mpr c15
     (first | rw [c15b0] | (simp only [i64_w, i32_w]; rw [c15b0]) | skip)
     have HC17 := aM H
     clear H
     go_upto_region 11 with (fail)
     go_cut [46] (fun v46 wc => ∃ (kq : Nat) (x46_16 : Bool), v46 = .bool x46_16 ∧ Aside0 (impl_firstChar.j2 kq a0 l1 x6_3 (wrap64 (rd l1 0)) (wrap64 (rd l1 0)) x46_16 = some (r1, r2)) ∧ Aside0 (kq ≤ kj3) ∧ Aside0 (Below w.heap.size w wc))
     case first =>
      have H := HC17.out
      clear HC17
      by_cases c18 : a0 = 4
      ·rw [if_pos c18] at H
       have c18b0 : (a0 == 4) = true := beq_iff_eq.mpr c18
       have c18b1 : (a0 != 4) = false := bne_eq_false_iff_eq.mpr c18
       clear c18
       (first | rw [c18b0] | (simp only [i64_w, i32_w]; rw [c18b0]) | skip)
       have H' := aM H
       clear H
       go_wp2
       go_meet
       case rel => exact ⟨_, ((x6_3 == 2)), bS, H', ⟨z31 HJ3.out⟩, ⟨bB⟩⟩
      rw [if_neg c18] at H
      have c18b0 : (a0 == 4) = false := beq_eq_false_iff_ne.mpr c18
      have c18b1 : (a0 != 4) = true := bne_iff_ne.mpr c18
      (first | rw [c18b0] | (simp only [i64_w, i32_w]; rw [c18b0]) | skip)
      have H' := aM H
      clear H
      go_wp2
      go_meet
      case rel => exact ⟨_, (false), bS, H', ⟨z31 HJ3.out⟩, ⟨bB⟩⟩
     case rest =>
      clear HC17
      try clear c1
      try clear p2
      try clear c3
      try clear c3b0
      try clear c3b1
      try clear p3
      try clear q3
      try clear hx3
      try clear qi3
      try clear c5
      try clear p6
      try clear c7
      try clear c7b0
      try clear c7b1
      try clear c8
      try clear c8b0
      try clear c8b1
      try clear c10
      try clear c11
      try clear c11b0
      try clear c11b1
      try clear c12
      try clear c12b0
      try clear c13
      try clear c13b0
      try clear c15
      try clear c15b0
      try clear c15b1
      try clear c16
      try clear c16b0
      try clear c16b1
      try clear c18
      try clear c18b0
      try clear c18b1
      try clear hx321_0
      try clear hx323_0
      try clear p2
      try clear p3
      try clear p321
      try clear p323
      try clear p6
      try clear q3
      try clear q321
      try clear q323
      obtain ⟨kq, x46_16, rfl, HA, HJ16, HB⟩ := hcut
      cases kq with
      | zero => exact absurd HA.out (by simp [impl_firstChar.j2])
      | succ kj16 =>
       have H := HA.out
       clear HA
       simp only [impl_firstChar.j2] at H
       by_cases c19 : x46_16 = true
       ·subst c19
        have H1 : (if 1 < (l1.length : Int) then (impl_firstChar.j6 kj16 a0 l1 x6_3 (wrap64 ((wrap64 ((Int.tmod (wrap64 (rd l1 0)) 32) * 64)) + (Int.tmod (wrap64 (rd l1 1)) 64)))) else (none)) = some (r1, r2) := z16
        clear H
        have H := H1
        clear H1
        by_cases c20 : 1 < (l1.length : Int)
        ·rw [if_pos c20] at H
         have c20b0 : decide (1 < (l1.length : Int)) = true := decide_eq_true c20
         have c20b1 : decide (1 < l1.length) = true := decide_eq_true (by omega)
         clear c20
         have H' := aM H
         clear H
         have p324 : 0 ≤ (1 : Int) := (by omega)
         have q324 : 1 < (l1.length : Int) := pI
         obtain ⟨ad324, e324, hx324_0⟩ := Kd.at_int HR1.out 1 p324 q324
         obtain rfl : ad321 = ad324 := (by injection e324)
         (try simp only [show (1 : Int).toNat = 1 from rfl, Nat.reduceMul, Nat.reduceEqDiff, Go.Addr.add, ↓reduceIte] at hx324_0)
         have qi324 : (1 < l1.length) = True := eq_true (by omega)
         (try rw [show ((1 : Int)).toNat = 1 from rfl] at hx324_0)
         replace hx324_0 := (HB.out.cell (World.block_lt_of_cell? w _ hx324_0)).trans hx324_0
         replace p324 := eq_true p324
         replace q324 := eq_true q324
         go_wp2
         go_meet
         case rel => exact ⟨_, (wrap64 ((wrap64 ((Int.tmod (wrap64 (rd l1 0)) 32) * 64)) + (Int.tmod (wrap64 (rd l1 1)) 64))), bS, H', ⟨z23 HJ3.out HJ16.out⟩, ⟨bB⟩⟩
        rw [if_neg c20] at H
        exact absurd H (by simp)
       replace c19 := Bool.eq_false_iff.mpr c19
       subst c19
       have H1 : (if a0 = 4 then (impl_firstChar.j3 kj16 a0 l1 x6_3 (wrap64 (rd l1 0)) (wrap64 (rd l1 0)) (x6_3 == 3)) else (impl_firstChar.j3 kj16 a0 l1 x6_3 (wrap64 (rd l1 0)) (wrap64 (rd l1 0)) false)) = some (r1, r2) := z7
       clear H
       have H := H1
       clear H1
       have HC21 := aM H
       clear H
       go_upto_region 13 with (fail)
       go_cut [62] (fun v62 wc => ∃ (kq : Nat) (x62_20 : Bool), v62 = .bool x62_20 ∧ Aside0 (impl_firstChar.j3 kq a0 l1 x6_3 (wrap64 (rd l1 0)) (wrap64 (rd l1 0)) x62_20 = some (r1, r2)) ∧ Aside0 (kq ≤ kj16) ∧ Aside0 (Below w.heap.size w wc))
       case first =>
        have H := HC21.out
        clear HC21
        by_cases c22 : a0 = 4
        ·rw [if_pos c22] at H
         have c22b0 : (a0 == 4) = true := beq_iff_eq.mpr c22
         have c22b1 : (a0 != 4) = false := bne_eq_false_iff_eq.mpr c22
         clear c22
         (first | rw [c22b0] | (simp only [i64_w, i32_w]; rw [c22b0]) | skip)
         have H' := aM H
         clear H
         go_wp2
         go_meet
         case rel => exact ⟨_, ((x6_3 == 3)), bS, H', ⟨z23 HJ3.out HJ16.out⟩, ⟨bB⟩⟩
        rw [if_neg c22] at H
        have c22b0 : (a0 == 4) = false := beq_eq_false_iff_ne.mpr c22
        have c22b1 : (a0 != 4) = true := bne_iff_ne.mpr c22
        (first | rw [c22b0] | (simp only [i64_w, i32_w]; rw [c22b0]) | skip)
        have H' := aM H
        clear H
        go_wp2
        go_meet
        case rel => exact ⟨_, (false), bS, H', ⟨z23 HJ3.out HJ16.out⟩, ⟨bB⟩⟩
       case rest =>
        clear HC21
        try clear c1
        try clear c2
        try clear p2
        try clear c3
        try clear c3b0
        try clear c3b1
        try clear p3
        try clear q3
        try clear hx3
        try clear qi3
        try clear c5
        try clear p6
        try clear c7
        try clear c7b0
        try clear c7b1
        try clear c8
        try clear c8b0
        try clear c8b1
        try clear c10
        try clear c11
        try clear c11b0
        try clear c11b1
        try clear c12
        try clear c12b0
        try clear c13
        try clear c13b0
        try clear c15
        try clear c15b0
        try clear c15b1
        try clear c16
        try clear c16b0
        try clear c16b1
        try clear c18
        try clear c18b0
        try clear c18b1
        try clear c19
        try clear c20
        try clear c20b0
        try clear c20b1
        try clear c22
        try clear c22b0
        try clear c22b1
        try clear hx321_0
        try clear hx323_0
        try clear hx324_0
        try clear p2
        try clear p3
        try clear p321
        try clear p323
        try clear p324
        try clear p6
        try clear q3
        try clear q321
        try clear q323
        try clear q324
        obtain ⟨kq, x62_20, rfl, HA, HJ20, HB⟩ := hcut
        cases kq with
        | zero => exact absurd HA.out (by simp [impl_firstChar.j3])
        | succ kj20 =>
         have H := HA.out
         clear HA
         simp only [impl_firstChar.j3] at H
         by_cases c23 : x62_20 = true
         ·subst c23
          have H1 : (if 1 < (l1.length : Int) then (if 2 < (l1.length : Int) then (impl_firstChar.j6 kj20 a0 l1 x6_3 (wrap64 ((wrap64 ((wrap64 ((Int.tmod (wrap64 (rd l1 0)) 16) * 4096)) + (wrap64 ((Int.tmod (wrap64 (rd l1 1)) 64) * 64)))) + (Int.tmod (wrap64 (rd l1 2)) 64)))) else (none)) else (none)) = some (r1, r2) := z16
          clear H
          have H := H1
          clear H1
          by_cases c24 : 1 < (l1.length : Int)
          ·rw [if_pos c24] at H
           have c24b0 : decide (1 < (l1.length : Int)) = true := decide_eq_true c24
           have c24b1 : decide (1 < l1.length) = true := decide_eq_true (by omega)
           clear c24
           by_cases c25 : 2 < (l1.length : Int)
           ·rw [if_pos c25] at H
            have c25b0 : decide (2 < (l1.length : Int)) = true := decide_eq_true c25
            have c25b1 : decide (2 < l1.length) = true := decide_eq_true (by omega)
            clear c25
            have H' := aM H
            clear H
            try go_wp2
            replace HB := aM (below_drew1 HB.out)
            have p325 : 0 ≤ (1 : Int) := (by omega)
            have q325 : 1 < (l1.length : Int) := pI
            obtain ⟨ad325, e325, hx325_0⟩ := Kd.at_int HR1.out 1 p325 q325
            have hw325_0 := hx325_0
            (try rw [show ((1 : Int)).toNat = 1 from rfl] at hw325_0)
            (try rw [show 1 * 1 = 1 from rfl] at hw325_0)
            (try simp only [Nat.reduceMul, Nat.reduceEqDiff, Go.Addr.add, ↓reduceIte] at hw325_0)
            obtain rfl : ad321 = ad325 := (by injection e325)
            (try simp only [show (1 : Int).toNat = 1 from rfl, Nat.reduceMul, Nat.reduceEqDiff, Go.Addr.add, ↓reduceIte] at hx325_0)
            have qi325 : (1 < l1.length) = True := eq_true (by omega)
            (try rw [show ((1 : Int)).toNat = 1 from rfl] at hx325_0)
            replace hx325_0 := (HB.out.cell (World.block_lt_of_cell? w _ hx325_0)).trans hx325_0
            replace p325 := eq_true p325
            replace q325 := eq_true q325
            have p326 : 0 ≤ (2 : Int) := (by omega)
            have q326 : 2 < (l1.length : Int) := pI
            obtain ⟨ad326, e326, hx326_0⟩ := Kd.at_int HR1.out 2 p326 q326
            have hw326_0 := hx326_0
            (try rw [show ((2 : Int)).toNat = 2 from rfl] at hw326_0)
            (try rw [show 2 * 1 = 2 from rfl] at hw326_0)
            (try simp only [Nat.reduceMul, Nat.reduceEqDiff, Go.Addr.add, ↓reduceIte] at hw326_0)
            obtain rfl : ad321 = ad326 := (by injection e326)
            (try simp only [show (2 : Int).toNat = 2 from rfl, Nat.reduceMul, Nat.reduceEqDiff, Go.Addr.add, ↓reduceIte] at hx326_0)
            have qi326 : (2 < l1.length) = True := eq_true (by omega)
            (try rw [show ((2 : Int)).toNat = 2 from rfl] at hx326_0)
            replace hx326_0 := (HB.out.cell (World.block_lt_of_cell? w _ hx326_0)).trans hx326_0
            replace p326 := eq_true p326
            replace q326 := eq_true q326
            refine start_ (n := 17) (S := fun w' => w'.cell? ⟨ad321.block, ad321.off + 1, none⟩ = some (.int .u8 (rd l1 1)) ∧ w'.cell? ⟨ad321.block, ad321.off + 2, none⟩ = some (.int .u8 (rd l1 2))) (ds := []) (bsA 17 0) (by kernel_rfl) rfl rfl ⟨((HB.out.cell (World.block_lt_of_cell? w _ hw325_0)).trans hw325_0), ((HB.out.cell (World.block_lt_of_cell? w _ hw326_0)).trans hw326_0)⟩ (fun hHeld => ?_); refine with_tabW impl_firstChar.tab14 impl_firstChar.bits14 (fun HT_ HW_ => ?_)
            generalize wc.drew = w26 at HB hx325_0 hx326_0 hHeld ⊢
            refine pa_ (i := 0) (N := some 69) (bsA 17 1) (h := ?_)
            refine pa_ (i := 1) (N := some 70) (bsA 17 3) (h := ?_)
            refine pa_ (i := 2) (N := some 71) (bsA 17 7) (h := ?_)
            refine pa_ (i := 3) (N := some 72) (bsA 17 15) (h := ?_)
            refine pa_ (i := 4) (N := some 73) (bsA 17 31) (h := ?_)
            refine pa_ (i := 10) (N := some 79) (bsA 17 1055) (h := ?_)
            refine pa_ (i := 11) (N := some 80) (bsA 17 3103) (h := ?_)
            refine take_ (i := 5) (N := some 74) (v := ?_) (a' := ?_) (bsA 17 3135) rfl rfl (take_ofW HT_.out HW_.out (by kernel_rfl)) (fun _ _ _ h => h) (Or.inl ⟨by rfl, ?_⟩) hHeld ?_ ?_
            rotate_left
            ·rintro w' ⟨s0, s1⟩
             go_simp
             with_reducible rfl
            rotate_left
            ·simp only [Act.put, List.setIfInBounds_toArray, List.set_cons_zero, List.set_cons_succ, i64_w, i32_w]
             rfl
            refine pa_ (i := 6) (N := some 75) (bsA 17 3199) (h := ?_)
            refine pa_ (i := 7) (N := some 76) (bsA 17 3327) (h := ?_)
            refine pa_ (i := 8) (N := some 77) (bsA 17 3583) (h := ?_)
            refine pa_ (i := 9) (N := some 78) (bsA 17 4095) (h := ?_)
            refine take_ (i := 12) (N := some 81) (v := ?_) (a' := ?_) (bsA 17 8191) rfl rfl (take_ofW HT_.out HW_.out (by kernel_rfl)) (fun _ _ _ h => h) (Or.inl ⟨by rfl, ?_⟩) hHeld ?_ ?_
            rotate_left
            ·rintro w' ⟨s0, s1⟩
             go_simp
             with_reducible rfl
            rotate_left
            ·simp only [Act.put, List.setIfInBounds_toArray, List.set_cons_zero, List.set_cons_succ, i64_w, i32_w]
             rfl
            refine pa_ (i := 13) (N := some 82) (bsA 17 16383) (h := ?_)
            refine pa_ (i := 14) (N := some 83) (bsA 17 32767) (h := ?_)
            refine pa_ (i := 15) (N := some 84) (bsA 17 65535) (h := ?_)
            refine pa_ (i := 16) (N := some 8) (bsA 17 131071) (h := ?_)
            refine done_ (done_of HT_.out (by kernel_rfl)) ?_
            try go_wp2
            go_meet
            case rel => exact ⟨_, (wrap64 ((wrap64 ((wrap64 ((Int.tmod (wrap64 (rd l1 0)) 16) * 4096)) + (wrap64 ((Int.tmod (wrap64 (rd l1 1)) 64) * 64)))) + (Int.tmod (wrap64 (rd l1 2)) 64))), bS, H', ⟨z48 HJ3.out HJ16.out HJ20.out⟩, ⟨bB⟩⟩
           rw [if_neg c25] at H
           exact absurd H (by simp)
          rw [if_neg c24] at H
          exact absurd H (by simp)
         replace c23 := Bool.eq_false_iff.mpr c23
         subst c23
         have H1 : (if a0 = 3 then (impl_firstChar.j4 kj20 a0 l1 x6_3 (wrap64 (rd l1 0)) (wrap64 (rd l1 0)) ((wrap64 (rd l1 0)) == 253)) else (impl_firstChar.j4 kj20 a0 l1 x6_3 (wrap64 (rd l1 0)) (wrap64 (rd l1 0)) false)) = some (r1, r2) := z7
         clear H
         have H := H1
         clear H1
         have HC27 := aM H
         clear H
         go_upto_region 15 with (fail)
         go_cut [85] (fun v85 wc => ∃ (kq : Nat) (x85_26 : Bool), v85 = .bool x85_26 ∧ Aside0 (impl_firstChar.j4 kq a0 l1 x6_3 (wrap64 (rd l1 0)) (wrap64 (rd l1 0)) x85_26 = some (r1, r2)) ∧ Aside0 (kq ≤ kj20) ∧ Aside0 (Below w.heap.size w wc))
         case first =>
          have H := HC27.out
          clear HC27
          by_cases c28 : a0 = 3
          ·rw [if_pos c28] at H
           have c28b0 : (a0 == 3) = true := beq_iff_eq.mpr c28
           have c28b1 : (a0 != 3) = false := bne_eq_false_iff_eq.mpr c28
           clear c28
           (first | rw [c28b0] | (simp only [i64_w, i32_w]; rw [c28b0]) | skip)
           have H' := aM H
           clear H
           go_wp2
           go_meet
           case rel => exact ⟨_, (((wrap64 (rd l1 0)) == 253)), bS, H', ⟨z48 HJ3.out HJ16.out HJ20.out⟩, ⟨bB⟩⟩
          rw [if_neg c28] at H
          have c28b0 : (a0 == 3) = false := beq_eq_false_iff_ne.mpr c28
          have c28b1 : (a0 != 3) = true := bne_iff_ne.mpr c28
          (first | rw [c28b0] | (simp only [i64_w, i32_w]; rw [c28b0]) | skip)
          have H' := aM H
          clear H
          go_wp2
          go_meet
          case rel => exact ⟨_, (false), bS, H', ⟨z48 HJ3.out HJ16.out HJ20.out⟩, ⟨bB⟩⟩
         case rest =>
          clear HC27
          try clear c1
          try clear c2
          try clear p2
          try clear c3
          try clear c3b0
          try clear c3b1
          try clear p3
          try clear q3
          try clear hx3
          try clear qi3
          try clear c5
          try clear p6
          try clear c7
          try clear c7b0
          try clear c7b1
          try clear c8
          try clear c8b0
          try clear c8b1
          try clear c10
          try clear c11
          try clear c11b0
          try clear c11b1
          try clear c12
          try clear c12b0
          try clear c13
          try clear c13b0
          try clear c15
          try clear c15b0
          try clear c15b1
          try clear c16
          try clear c16b0
          try clear c16b1
          try clear c18
          try clear c18b0
          try clear c18b1
          try clear c19
          try clear c20
          try clear c20b0
          try clear c20b1
          try clear c22
          try clear c22b0
          try clear c22b1
          try clear c23
          try clear c24
          try clear c24b0
          try clear c24b1
          try clear c25
          try clear c25b0
          try clear c25b1
          try clear c28
          try clear c28b0
          try clear c28b1
          try clear hx321_0
          try clear hx323_0
          try clear hx324_0
          try clear hx325_0
          try clear hx326_0
          try clear p2
          try clear p3
          try clear p321
          try clear p323
          try clear p324
          try clear p325
          try clear p326
          try clear p6
          try clear q3
          try clear q321
          try clear q323
          try clear q324
          try clear q325
          try clear q326
          obtain ⟨kq, x85_26, rfl, HA, HJ26, HB⟩ := hcut
          cases kq with
          | zero => exact absurd HA.out (by simp [impl_firstChar.j4])
          | succ kj26 =>
           have H := HA.out
           clear HA
           simp only [impl_firstChar.j4] at H
           by_cases c29 : x85_26 = true
           ·subst c29
            have H1 : (impl_firstChar.j6 kj26 a0 l1 x6_3 167) = some (r1, r2) := z16
            clear H
            have H := H1
            clear H1
            have H' := aM H
            clear H
            go_wp2
            go_meet
            case rel => exact ⟨_, (167), bS, H', ⟨by have := HJ3.out; have := HJ16.out; have := HJ20.out; have := HJ26.out; first | omega | exact Nat.le_refl _⟩, ⟨bB⟩⟩
           replace c29 := Bool.eq_false_iff.mpr c29
           subst c29
           have H1 : (if a0 = 3 then (impl_firstChar.j5 kj26 a0 l1 x6_3 (wrap64 (rd l1 0)) (wrap64 (rd l1 0)) ((wrap64 (rd l1 0)) == 240)) else (impl_firstChar.j5 kj26 a0 l1 x6_3 (wrap64 (rd l1 0)) (wrap64 (rd l1 0)) false)) = some (r1, r2) := z7
           clear H
           have H := H1
           clear H1
           have HC30 := aM H
           clear H
           go_upto_region 17 with (fail)
           go_cut [92] (fun v92 wc => ∃ (kq : Nat) (x92_29 : Bool), v92 = .bool x92_29 ∧ Aside0 (impl_firstChar.j5 kq a0 l1 x6_3 (wrap64 (rd l1 0)) (wrap64 (rd l1 0)) x92_29 = some (r1, r2)) ∧ Aside0 (kq ≤ kj26) ∧ Aside0 (Below w.heap.size w wc))
           case first =>
            have H := HC30.out
            clear HC30
            by_cases c31 : a0 = 3
            ·rw [if_pos c31] at H
             have c31b0 : (a0 == 3) = true := beq_iff_eq.mpr c31
             have c31b1 : (a0 != 3) = false := bne_eq_false_iff_eq.mpr c31
             clear c31
             (first | rw [c31b0] | (simp only [i64_w, i32_w]; rw [c31b0]) | skip)
             have H' := aM H
             clear H
             go_wp2
             go_meet
             case rel => exact ⟨_, (((wrap64 (rd l1 0)) == 240)), bS, H', ⟨by have := HJ3.out; have := HJ16.out; have := HJ20.out; have := HJ26.out; first | omega | exact Nat.le_refl _⟩, ⟨bB⟩⟩
            rw [if_neg c31] at H
            have c31b0 : (a0 == 3) = false := beq_eq_false_iff_ne.mpr c31
            have c31b1 : (a0 != 3) = true := bne_iff_ne.mpr c31
            (first | rw [c31b0] | (simp only [i64_w, i32_w]; rw [c31b0]) | skip)
            have H' := aM H
            clear H
            go_wp2
            go_meet
            case rel => exact ⟨_, (false), bS, H', ⟨by have := HJ3.out; have := HJ16.out; have := HJ20.out; have := HJ26.out; first | omega | exact Nat.le_refl _⟩, ⟨bB⟩⟩
           case rest =>
            clear HC30
            try clear c1
            try clear c2
            try clear p2
            try clear c3
            try clear c3b0
            try clear c3b1
            try clear p3
            try clear q3
            try clear hx3
            try clear qi3
            try clear c5
            try clear p6
            try clear c7
            try clear c7b0
            try clear c7b1
            try clear c8
            try clear c8b0
            try clear c8b1
            try clear c10
            try clear c11
            try clear c11b0
            try clear c11b1
            try clear c12
            try clear c12b0
            try clear c13
            try clear c13b0
            try clear c15
            try clear c15b0
            try clear c15b1
            try clear c16
            try clear c16b0
            try clear c16b1
            try clear c18
            try clear c18b0
            try clear c18b1
            try clear c19
            try clear c20
            try clear c20b0
            try clear c20b1
            try clear c22
            try clear c22b0
            try clear c22b1
            try clear c23
            try clear c24
            try clear c24b0
            try clear c24b1
            try clear c25
            try clear c25b0
            try clear c25b1
            try clear c28
            try clear c28b0
            try clear c28b1
            try clear c29
            try clear c31
            try clear c31b0
            try clear c31b1
            try clear hx321_0
            try clear hx323_0
            try clear hx324_0
            try clear hx325_0
            try clear hx326_0
            try clear p2
            try clear p3
            try clear p321
            try clear p323
            try clear p324
            try clear p325
            try clear p326
            try clear p6
            try clear q3
            try clear q321
            try clear q323
            try clear q324
            try clear q325
            try clear q326
            obtain ⟨kq, x92_29, rfl, HA, HJ29, HB⟩ := hcut
            cases kq with
            | zero => exact absurd HA.out (by simp [impl_firstChar.j5])
            | succ kj29 =>
             have H := HA.out
             clear HA
             simp only [impl_firstChar.j5] at H
             by_cases c32 : x92_29 = true
             ·subst c32
              have H1 : (impl_firstChar.j6 kj29 a0 l1 x6_3 8470) = some (r1, r2) := z16
              clear H
              have H := H1
              clear H1
              have H' := aM H
              clear H
              go_wp2
              go_meet
              case rel => exact ⟨_, (8470), bS, H', ⟨z43 HJ3.out HJ16.out HJ20.out HJ26.out HJ29.out⟩, ⟨bB⟩⟩
             replace c32 := Bool.eq_false_iff.mpr c32
             subst c32
             have H1 : (if a0 = 3 then (if (wrap64 (rd l1 0)) > 160 then (if (wrap64 (rd l1 0)) = 173 then (impl_firstChar.j6 kj29 a0 l1 x6_3 (wrap64 (rd l1 0))) else (impl_firstChar.j6 kj29 a0 l1 x6_3 (wrap64 ((wrap64 (rd l1 0)) + 864)))) else (impl_firstChar.j6 kj29 a0 l1 x6_3 (wrap64 (rd l1 0)))) else (impl_firstChar.j6 kj29 a0 l1 x6_3 (wrap64 (rd l1 0)))) = some (r1, r2) := z7
             clear H
             have H := H1
             clear H1
             by_cases c33 : a0 = 3
             ·rw [if_pos c33] at H
              have c33b0 : (a0 == 3) = true := beq_iff_eq.mpr c33
              have c33b1 : (a0 != 3) = false := bne_eq_false_iff_eq.mpr c33
              clear c33
              by_cases c34 : (wrap64 (rd l1 0)) > 160
              ·rw [if_pos c34] at H
               have c34b0 : decide (160 < (wrap64 (rd l1 0))) = true := decide_eq_true c34
               clear c34
               by_cases c35 : (wrap64 (rd l1 0)) = 173
               ·rw [if_pos c35] at H
                have c35b0 : ((wrap64 (rd l1 0)) == 173) = true := beq_iff_eq.mpr c35
                have c35b1 : ((wrap64 (rd l1 0)) != 173) = false := bne_eq_false_iff_eq.mpr c35
                clear c35
                have H' := aM H
                clear H
                go_wp2
                go_meet
                case rel => exact ⟨_, ((wrap64 (rd l1 0))), bS, H', ⟨z43 HJ3.out HJ16.out HJ20.out HJ26.out HJ29.out⟩, ⟨bB⟩⟩
               rw [if_neg c35] at H
               have c35b0 : ((wrap64 (rd l1 0)) == 173) = false := beq_eq_false_iff_ne.mpr c35
               have c35b1 : ((wrap64 (rd l1 0)) != 173) = true := bne_iff_ne.mpr c35
               have H' := aM H
               clear H
               go_wp2
               go_meet
               case rel => exact ⟨_, (wrap64 ((wrap64 (rd l1 0)) + 864)), bS, H', ⟨z43 HJ3.out HJ16.out HJ20.out HJ26.out HJ29.out⟩, ⟨bB⟩⟩
              rw [if_neg c34] at H
              have c34b0 : decide (160 < (wrap64 (rd l1 0))) = false := decide_eq_false c34
              clear c34
              have H' := aM H
              clear H
              go_wp2
              go_meet
              case rel => exact ⟨_, ((wrap64 (rd l1 0))), bS, H', ⟨z43 HJ3.out HJ16.out HJ20.out HJ26.out HJ29.out⟩, ⟨bB⟩⟩
             rw [if_neg c33] at H
             have c33b0 : (a0 == 3) = false := beq_eq_false_iff_ne.mpr c33
             have c33b1 : (a0 != 3) = true := bne_iff_ne.mpr c33
             have H' := aM H
             clear H
             go_wp2
             go_meet
             case rel => exact ⟨_, ((wrap64 (rd l1 0))), bS, H', ⟨z43 HJ3.out HJ16.out HJ20.out HJ26.out HJ29.out⟩, ⟨bB⟩⟩
    case rest =>
     clear HC14
     try clear c1
     try clear c2
     try clear p2
     try clear c3
     try clear c3b0
     try clear c3b1
     try clear p3
     try clear q3
     try clear hx3
     try clear qi3
     try clear c5
     try clear p6
     try clear c7
     try clear c7b0
     try clear c7b1
     try clear c8
     try clear c8b0
     try clear c8b1
     try clear c10
     try clear c11
     try clear c11b0
     try clear c11b1
     try clear c12
     try clear c12b0
     try clear c13
     try clear c13b0
     try clear c15
     try clear c15b0
     try clear c15b1
     try clear c16
     try clear c16b0
     try clear c16b1
     try clear c18
     try clear c18b0
     try clear c18b1
     try clear c19
     try clear c20
     try clear c20b0
     try clear c20b1
     try clear c22
     try clear c22b0
     try clear c22b1
     try clear c23
     try clear c24
     try clear c24b0
     try clear c24b1
     try clear c25
     try clear c25b0
     try clear c25b1
     try clear c28
     try clear c28b0
     try clear c28b1
     try clear c29
     try clear c31
     try clear c31b0
     try clear c31b1
     try clear c32
     try clear p32
     try clear q32
     try clear hx32
     try clear qi32
     try clear c33
     try clear c33b0
     try clear c33b1
     try clear c34
     try clear c34b0
     try clear c35
     try clear c35b0
     try clear c35b1
     try clear hx321_0
     try clear hx323_0
     try clear hx324_0
     try clear hx325_0
     try clear hx326_0
     try clear p2
     try clear p3
     try clear p321
     try clear p323
     try clear p324
     try clear p325
     try clear p326
     try clear p6
     try clear q3
     try clear q321
     try clear q323
     try clear q324
     try clear q325
     try clear q326
     obtain ⟨kq, x8_13, rfl, HA, HJ13, HB⟩ := hcut
     cases kq with
     | zero => exact absurd HA.out (by simp [impl_firstChar.j6])
     | succ kj13 =>
      have H := HA.out
      clear HA
      simp only [impl_firstChar.j6] at H
      replace H := Option.bind_eq_some_iff.mp H
      obtain ⟨t327, A360, H⟩ := H
      replace H : (if t327 = true then ((impl_encodeChar.f kj13 a0 x8_13).bind fun t328 => (if 0 ≤ x6_3 then (if x6_3 ≤ (l1.length : Int) then ((bytes_Equal.f t328 (l1.take (x6_3 : Int).toNat)).bind fun t332 => (if t332 = true then (some (x8_13, x6_3)) else (some (0, 0)))) else (none)) else (none))) else (some (0, 0))) = some (r1, r2) := H
      have A36 := aM A360
      clear A360
      by_cases c37 : t327 = true
      ·subst c37
       have H1 : ((impl_encodeChar.f kj13 a0 x8_13).bind fun t328 => (if 0 ≤ x6_3 then (if x6_3 ≤ (l1.length : Int) then ((bytes_Equal.f t328 (l1.take (x6_3 : Int).toNat)).bind fun t332 => (if t332 = true then (some (x8_13, x6_3)) else (some (0, 0)))) else (none)) else (none))) = some (r1, r2) := z16
       clear H
       have H := H1
       clear H1
       replace H := Option.bind_eq_some_iff.mp H
       obtain ⟨t328, A380, H⟩ := H
       replace H : (if 0 ≤ x6_3 then (if x6_3 ≤ (l1.length : Int) then ((bytes_Equal.f t328 (l1.take (x6_3 : Int).toNat)).bind fun t332 => (if t332 = true then (some (x8_13, x6_3)) else (some (0, 0)))) else (none)) else (none)) = some (r1, r2) := H
       have A38 := aM A380
       clear A380
       by_cases c39 : 0 ≤ x6_3
       ·rw [if_pos c39] at H
        have c39b0 := eq_true c39
        have c39b1 : decide (0 ≤ x6_3) = true := decide_eq_true c39
        clear c39
        by_cases c40 : x6_3 ≤ (l1.length : Int)
        ·rw [if_pos c40] at H
         have c40b0 := eq_true c40
         have c40b1 : decide (x6_3 ≤ (l1.length : Int)) = true := decide_eq_true c40
         (try have c40z := eq_true (show (x6_3 : Int) ≤ (c1 : Int) from (by have h_ := HC1.out; omega)))
         clear c40
         replace H := Option.bind_eq_some_iff.mp H
         obtain ⟨t332, A410, H⟩ := H
         replace H : (if t332 = true then (some (x8_13, x6_3)) else (some (0, 0))) = some (r1, r2) := H
         have A41 := aM A410
         clear A410
         by_cases c42 : t332 = true
         ·subst c42
          have H1 : (some (x8_13, x6_3)) = some (r1, r2) := z16
          clear H
          have H := H1
          clear H1
          simp only [Option.some.injEq, Prod.mk.injEq] at H
          obtain ⟨rfl, rfl⟩ := H
          try go_wp2
          replace HB := aM (below_drew1 HB.out)
          refine start_ (n := 14) (S := fun w' => True) (ds := []) (bsA 14 0) (by kernel_rfl) rfl rfl trivial (fun hHeld => ?_); refine with_tabW impl_firstChar.tab21 impl_firstChar.bits21 (fun HT_ HW_ => ?_)
          generalize wc.drew = w43 at HB hHeld ⊢
          refine pa_ (i := 0) (N := some 112) (bsA 14 1) (h := ?_)
          refine pa_ (i := 1) (N := some 113) (bsA 14 3) (h := ?_)
          refine one_ (i := 2) (N := some 114) (bsA 14 7) rfl rfl (one_of HT_.out (by kernel_rfl)) (by decide) (fun K hK => ?_)
          refine goes_ Tryz.func87 (by kernel_rfl) rfl #[.int .i64 a0, .int .i64 x8_13] (by rfl) rfl rfl bM ?_
          with_reducible refine (impl_HasChar.calls kj13 a0 x8_13 true _ A36.out).mono ?_
          rintro e w' ⟨rfl, ⟨nd, rfl⟩⟩
          refine ⟨_, rfl, ?_⟩
          refine hK.out _ _ trivial (fun hHeld => ?_)
          clear hK K
          refine na_ (N := some 114) (h := ?_)
          refine pa_ (i := 3) (N := some 115) (bsA 14 15) (h := ?_)
          refine pa_ (i := 4) (N := some 116) (bsA 14 31) (h := ?_)
          refine pa_ (i := 5) (N := some 117) (bsA 14 63) (h := ?_)
          refine pa_ (i := 6) (N := some 118) (bsA 14 127) (h := ?_)
          refine pa_ (i := 8) (N := some 120) (bsA 14 383) (h := ?_)
          refine pa_ (i := 9) (N := some 121) (bsA 14 895) (h := ?_)
          refine pa_ (i := 10) (N := some 122) (bsA 14 1919) (h := ?_)
          refine one_ (i := 7) (N := some 119) (bsA 14 2047) rfl rfl (one_of HT_.out (by kernel_rfl)) (by decide) (fun K hK => ?_)
          refine goes_ Tryz.func60 (by kernel_rfl) rfl #[.int .i64 a0, .int .i64 x8_13] (by rfl) rfl rfl bM ?_
          with_reducible refine (impl_encodeChar.calls kj13 a0 x8_13 t328 _ A38.out).mono ?_
          rintro e w44 ⟨v329, rfl, ho0, hb⟩
          refine ⟨_, rfl, ?_⟩
          have HO330 := aM (Kd.R_lower ho0 (below_size bB))
          replace HB := aM (below_step bB hb)
          (try clear hb)
          (try clear hb2)
          (try clear hk)
          (try clear hi)
          (try clear ho0)
          obtain ⟨i045, hi045, _, hsz45, _⟩ := info_parts info5
          obtain ⟨hcut45, hA45, hC45⟩ := print_take_of (P := Tryz.prog) (Value.int .u8) 0 22 5 .i64 Tryz.underlying22 hi045 hsz45 (some ad321) c1 l1 x6_3 (pI) (pI) HC1.out
          have HR331 := aM (Kd.C_of_reads (h1 := fun _ => rfl) (hA45 _ (Kd.reads_of_C HR1.out)))
          have HC331 := aM hC45
          clear hA45 hC45 hi045 hsz45
          obtain ⟨Ao46, co46, eo46⟩ := Kd.R_slice HO330.out
          (first | subst eo46 | (injection eo46 with f1_ f2_ f3_; have f4_ := f1_.symm; have f5_ := f3_.symm; clear f1_ f2_ f3_; subst f4_; subst f5_))
          refine hK.out _ _ trivial (fun hHeld => ?_)
          clear hK K
          refine na_ (N := some 119) (h := ?_)
          refine one_ (i := 11) (N := some 123) (bsA 14 4095) rfl rfl (one_of HT_.out (by kernel_rfl)) (by decide) (fun K hK => ?_)
          refine goes_ Tryz.func88 (by kernel_rfl) rfl #[.slice Ao46 t328.length co46, .slice (some ad321) (l1.take (x6_3 : Int).toNat).length c1] (by rfl) rfl rfl (by (try simp only [List.map_toArray, List.map_cons, List.map_nil]); first | done | (rw [show (l1.take (x6_3 : Int).toNat).length = x6_3.toNat from (by rw [List.length_take]; have h_ : (x6_3 : Int) ≤ (l1.length : Int) := pI; omega)] <;> rfl) | rfl | (simp only [List.length_drop, List.length_take]; rfl)) ?_
          with_reducible refine (bytes_Equal.calls _ _ t328 _ _ (l1.take (x6_3 : Int).toNat) true _ ?side1 ?side2 ?side3 ?side4 A41.out).mono ?_
          (case side1 => exact z4 HO330.out)
          (case side2 => exact (Kd.R_reads' HO330.out).2.1)
          (case side3 => exact z12 HR331.out)
          (case side4 => exact HC331.out)
          rintro e w' ⟨rfl, ⟨nd, rfl⟩⟩
          refine ⟨_, rfl, ?_⟩
          refine hK.out _ _ trivial (fun hHeld => ?_)
          clear hK K
          refine na_ (N := some 123) (h := ?_)
          refine pa_ (i := 12) (N := some 124) (bsA 14 8191) (h := ?_)
          refine pa_ (i := 13) (N := some 125) (bsA 14 16383) (h := ?_)
          refine done_ (done_of HT_.out (by kernel_rfl)) ?_
          try go_wp2
          go_ret2
          exact ⟨bE, bB⟩
         replace c42 := Bool.eq_false_iff.mpr c42
         subst c42
         have H1 : (some (0, 0)) = some (r1, r2) := z7
         clear H
         have H := H1
         clear H1
         simp only [Option.some.injEq, Prod.mk.injEq] at H
         obtain ⟨rfl, rfl⟩ := H
         try go_wp2
         replace HB := aM (below_drew1 HB.out)
         refine start_ (n := 14) (S := fun w' => True) (ds := []) (bsA 14 0) (by kernel_rfl) rfl rfl trivial (fun hHeld => ?_); refine with_tabW impl_firstChar.tab21 impl_firstChar.bits21 (fun HT_ HW_ => ?_)
         generalize wc.drew = w47 at HB hHeld ⊢
         refine pa_ (i := 0) (N := some 112) (bsA 14 1) (h := ?_)
         refine pa_ (i := 1) (N := some 113) (bsA 14 3) (h := ?_)
         refine one_ (i := 2) (N := some 114) (bsA 14 7) rfl rfl (one_of HT_.out (by kernel_rfl)) (by decide) (fun K hK => ?_)
         refine goes_ Tryz.func87 (by kernel_rfl) rfl #[.int .i64 a0, .int .i64 x8_13] (by rfl) rfl rfl bM ?_
         with_reducible refine (impl_HasChar.calls kj13 a0 x8_13 true _ A36.out).mono ?_
         rintro e w' ⟨rfl, ⟨nd, rfl⟩⟩
         refine ⟨_, rfl, ?_⟩
         refine hK.out _ _ trivial (fun hHeld => ?_)
         clear hK K
         refine na_ (N := some 114) (h := ?_)
         refine pa_ (i := 3) (N := some 115) (bsA 14 15) (h := ?_)
         refine pa_ (i := 4) (N := some 116) (bsA 14 31) (h := ?_)
         refine pa_ (i := 5) (N := some 117) (bsA 14 63) (h := ?_)
         refine pa_ (i := 6) (N := some 118) (bsA 14 127) (h := ?_)
         refine pa_ (i := 8) (N := some 120) (bsA 14 383) (h := ?_)
         refine pa_ (i := 9) (N := some 121) (bsA 14 895) (h := ?_)
         refine pa_ (i := 10) (N := some 122) (bsA 14 1919) (h := ?_)
         refine one_ (i := 7) (N := some 119) (bsA 14 2047) rfl rfl (one_of HT_.out (by kernel_rfl)) (by decide) (fun K hK => ?_)
         refine goes_ Tryz.func60 (by kernel_rfl) rfl #[.int .i64 a0, .int .i64 x8_13] (by rfl) rfl rfl bM ?_
         with_reducible refine (impl_encodeChar.calls kj13 a0 x8_13 t328 _ A38.out).mono ?_
         rintro e w48 ⟨v329, rfl, ho0, hb⟩
         refine ⟨_, rfl, ?_⟩
         have HO330 := aM (Kd.R_lower ho0 (below_size bB))
         replace HB := aM (below_step bB hb)
         (try clear hb)
         (try clear hb2)
         (try clear hk)
         (try clear hi)
         (try clear ho0)
         obtain ⟨i049, hi049, _, hsz49, _⟩ := info_parts info5
         obtain ⟨hcut49, hA49, hC49⟩ := print_take_of (P := Tryz.prog) (Value.int .u8) 0 22 5 .i64 Tryz.underlying22 hi049 hsz49 (some ad321) c1 l1 x6_3 (pI) (pI) HC1.out
         have HR331 := aM (Kd.C_of_reads (h1 := fun _ => rfl) (hA49 _ (Kd.reads_of_C HR1.out)))
         have HC331 := aM hC49
         clear hA49 hC49 hi049 hsz49
         obtain ⟨Ao50, co50, eo50⟩ := Kd.R_slice HO330.out
         (first | subst eo50 | (injection eo50 with f1_ f2_ f3_; have f4_ := f1_.symm; have f5_ := f3_.symm; clear f1_ f2_ f3_; subst f4_; subst f5_))
         refine hK.out _ _ trivial (fun hHeld => ?_)
         clear hK K
         refine na_ (N := some 119) (h := ?_)
         refine one_ (i := 11) (N := some 123) (bsA 14 4095) rfl rfl (one_of HT_.out (by kernel_rfl)) (by decide) (fun K hK => ?_)
         refine goes_ Tryz.func88 (by kernel_rfl) rfl #[.slice Ao50 t328.length co50, .slice (some ad321) (l1.take (x6_3 : Int).toNat).length c1] (by rfl) rfl rfl (by (try simp only [List.map_toArray, List.map_cons, List.map_nil]); first | done | (rw [show (l1.take (x6_3 : Int).toNat).length = x6_3.toNat from (by rw [List.length_take]; have h_ : (x6_3 : Int) ≤ (l1.length : Int) := pI; omega)] <;> rfl) | rfl | (simp only [List.length_drop, List.length_take]; rfl)) ?_
         with_reducible refine (bytes_Equal.calls _ _ t328 _ _ (l1.take (x6_3 : Int).toNat) false _ ?side1 ?side2 ?side3 ?side4 A41.out).mono ?_
         (case side1 => exact z4 HO330.out)
         (case side2 => exact (Kd.R_reads' HO330.out).2.1)
         (case side3 => exact z12 HR331.out)
         (case side4 => exact HC331.out)
         rintro e w' ⟨rfl, ⟨nd, rfl⟩⟩
         refine ⟨_, rfl, ?_⟩
         refine hK.out _ _ trivial (fun hHeld => ?_)
         clear hK K
         refine na_ (N := some 123) (h := ?_)
         refine pa_ (i := 12) (N := some 124) (bsA 14 8191) (h := ?_)
         refine pa_ (i := 13) (N := some 125) (bsA 14 16383) (h := ?_)
         refine done_ (done_of HT_.out (by kernel_rfl)) ?_
         try go_wp2
         go_ret2
         exact ⟨bE, bB⟩
        rw [if_neg c40] at H
        exact absurd H (by simp)
       rw [if_neg c39] at H
       exact absurd H (by simp)
      replace c37 := Bool.eq_false_iff.mpr c37
      subst c37
      have H1 : (some (0, 0)) = some (r1, r2) := z7
      clear H
      have H := H1
      clear H1
      simp only [Option.some.injEq, Prod.mk.injEq] at H
      obtain ⟨rfl, rfl⟩ := H
      try go_wp2
      replace HB := aM (below_drew1 HB.out)
      refine start_ (n := 14) (S := fun w' => True) (ds := []) (bsA 14 0) (by kernel_rfl) rfl rfl trivial (fun hHeld => ?_); refine with_tabW impl_firstChar.tab21 impl_firstChar.bits21 (fun HT_ HW_ => ?_)
      generalize wc.drew = w51 at HB hHeld ⊢
      refine pa_ (i := 0) (N := some 112) (bsA 14 1) (h := ?_)
      refine pa_ (i := 1) (N := some 113) (bsA 14 3) (h := ?_)
      refine one_ (i := 2) (N := some 114) (bsA 14 7) rfl rfl (one_of HT_.out (by kernel_rfl)) (by decide) (fun K hK => ?_)
      refine goes_ Tryz.func87 (by kernel_rfl) rfl #[.int .i64 a0, .int .i64 x8_13] (by rfl) rfl rfl bM ?_
      with_reducible refine (impl_HasChar.calls kj13 a0 x8_13 false _ A36.out).mono ?_
      rintro e w' ⟨rfl, ⟨nd, rfl⟩⟩
      refine ⟨_, rfl, ?_⟩
      refine hK.out _ _ trivial (fun hHeld => ?_)
      clear hK K
      refine na_ (N := some 114) (h := ?_)
      refine pa_ (i := 3) (N := some 115) (bsA 14 15) (h := ?_)
      refine pa_ (i := 4) (N := some 116) (bsA 14 31) (h := ?_)
      refine pu_ (i := 5) (N := some 117) (bsA 14 63) (h := ?_)
      refine pu_ (i := 6) (N := some 118) (bsA 14 127) (h := ?_)
      refine pu_ (i := 7) (N := some 119) (bsA 14 255) (h := ?_)
      refine pu_ (i := 8) (N := some 120) (bsA 14 511) (h := ?_)
      refine pu_ (i := 9) (N := some 121) (bsA 14 1023) (h := ?_)
      refine pu_ (i := 10) (N := some 122) (bsA 14 2047) (h := ?_)
      refine pu_ (i := 11) (N := some 123) (bsA 14 4095) (h := ?_)
      refine pu_ (i := 12) (N := some 124) (bsA 14 8191) (h := ?_)
      refine pa_ (i := 13) (N := some 125) (bsA 14 16383) (h := ?_)
      refine done_ (done_of HT_.out (by kernel_rfl)) ?_
      try go_wp2
      go_ret2
      exact ⟨bE, bB⟩
 rw [if_neg c3] at H
 exact absurd H (by simp)
end Go.Proofs.YtjopgmjmjnfcjaaGreatDoor.PWords
