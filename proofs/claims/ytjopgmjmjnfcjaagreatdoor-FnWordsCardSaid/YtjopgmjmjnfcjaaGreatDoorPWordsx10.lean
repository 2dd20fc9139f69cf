/- Part of the proof; words that it uses. -/
import Derived.Test.YtjopgmjmjnfcjaaGreatDoorPWordsx0
import Derived.Test.YtjopgmjmjnfcjaaGreatDoorPWordsx1
namespace Go.Proofs.YtjopgmjmjnfcjaaGreatDoor.PWords
open Go.RowKit Go.Proofs.YtjopgmjmjnfcjaaGreatDoorW.PrintWords Go.Proofs.YtjopgmjmjnfcjaaGreatDoorW.PrintLast
set_option linter.unusedVariables false
set_option linter.unusedSimpArgs false
def spec_l2Char.f (a0 : Int) : Option (Bool) := (spec_l1In.f a0 0 55295).bind fun t482 => (if t482 = true then (some true) else ((spec_l1In.f a0 57344 65535).bind fun t483 => (some t483)))
set_option maxHeartbeats 8000000 in
set_option maxRecDepth 100000 in
theorem spec_l2Char.calls (a0 : Int) (r : Bool) (w : World) (h : spec_l2Char.f a0 = some r) :
  Calls Tryz.prog 62 #[.int .i64 a0] w fun e w' => e = .returned (.bool r) ∧ Drawn0 w w' := by
 have H : ((spec_l1In.f a0 0 55295).bind fun t482 => (if t482 = true then (some true) else ((spec_l1In.f a0 57344 65535).bind fun t483 => (some t483)))) = some r := h
 clear h
 replace H := Option.bind_eq_some_iff.mp H
 obtain ⟨t482, A20, H⟩ := H
 replace H : (if t482 = true then (some true) else ((spec_l1In.f a0 57344 65535).bind fun t483 => (some t483))) = some r := H
 have A2 := aM A20
 clear A20
 by_cases c3 : t482 = true
 ·subst c3
  have H1 : (some true) = some r := z16
  clear H
  have H := H1
  clear H1
  obtain rfl := Option.some.inj H
  go_enter Tryz.func62, Tryz.ntmps62
  go_wp2_with (first | ((with_reducible refine gate_callee (f := 96) rfl ?_); refine gL_ (some 4) Tryz.func96 #[.int .i64 a0, .int .i64 0, .int .i64 55295] ?_; (with_reducible refine (spec_l1In.calls a0 0 55295 true _ A2.out).mono ?_); rintro e w' ⟨rfl, ⟨nd, rfl⟩⟩; refine ⟨_, rfl, ?_⟩))
  go_ret
  exact ⟨bS, z5⟩
 replace c3 := Bool.eq_false_iff.mpr c3
 subst c3
 have H1 : ((spec_l1In.f a0 57344 65535).bind fun t483 => (some t483)) = some r := z7
 clear H
 have H := H1
 clear H1
 replace H := Option.bind_eq_some_iff.mp H
 obtain ⟨t483, A40, H⟩ := H
 replace H : (some t483) = some r := H
 have A4 := aM A40
 clear A40
 obtain rfl := Option.some.inj H
 go_enter Tryz.func62, Tryz.ntmps62
 go_wp2_with (first | ((with_reducible refine gate_callee (f := 96) rfl ?_); refine gL_ (some 4) Tryz.func96 #[.int .i64 a0, .int .i64 0, .int .i64 55295] ?_; (with_reducible refine (spec_l1In.calls a0 0 55295 false _ A2.out).mono ?_); rintro e w' ⟨rfl, ⟨nd, rfl⟩⟩; refine ⟨_, rfl, ?_⟩) | (go_at_call 96; (with_reducible refine (spec_l1In.calls a0 57344 65535 t483 _ A4.out).mono ?_); rintro e w' ⟨rfl, ⟨nd, rfl⟩⟩))
 go_ret
 exact ⟨bS, z5⟩
def spec_l2More.f (l0 : List Int) (a1 : Int) : Option (Int) := if a1 ≥ (l0.length : Int) then (some (-1)) else (if 0 ≤ a1 then (if a1 < (l0.length : Int) then (if (rd l0 a1) < 128 then (some (-1)) else (if (rd l0 a1) > 191 then (some (-1)) else (some (wrap64 ((wrap64 (rd l0 a1)) - 128))))) else (none)) else (none))
set_option maxHeartbeats 8000000 in
set_option maxRecDepth 100000 in
theorem spec_l2More.calls (A0 : Option Addr) (c0 : Nat) (l0 : List Int) (a1 : Int) (r : Int) (w : World) (hr0 : Kd.C (Kd.int .u8) w A0 l0.length l0) (hc0 : l0.length ≤ c0) (h : spec_l2More.f l0 a1 = some r) :
  Calls Tryz.prog 93 #[.slice A0 l0.length c0, .int .i64 a1] w fun e w' => e = .returned (.int .i64 r) ∧ Drawn0 w w' := by
 have HR0 := aM hr0
 have HC0 := aM hc0
 clear hr0 hc0
 have H : (if a1 ≥ (l0.length : Int) then (some (-1)) else (if 0 ≤ a1 then (if a1 < (l0.length : Int) then (if (rd l0 a1) < 128 then (some (-1)) else (if (rd l0 a1) > 191 then (some (-1)) else (some (wrap64 ((wrap64 (rd l0 a1)) - 128))))) else (none)) else (none))) = some r := h
 clear h
 by_cases c3 : a1 ≥ (l0.length : Int)
 ·rw [if_pos c3] at H
  have c3b0 : decide ((l0.length : Int) ≤ a1) = true := decide_eq_true c3
  clear c3
  obtain rfl := Option.some.inj H
  go_enter Tryz.func93, Tryz.ntmps93
  go_wp2
  go_ret
  exact ⟨bS, z5⟩
 rw [if_neg c3] at H
 have c3b0 : decide ((l0.length : Int) ≤ a1) = false := decide_eq_false c3
 clear c3
 by_cases c4 : 0 ≤ a1
 ·rw [if_pos c4] at H
  have c4b0 : decide (0 ≤ a1) = true := decide_eq_true c4
  clear c4
  by_cases c5 : a1 < (l0.length : Int)
  ·rw [if_pos c5] at H
   have c5b0 : decide (a1 < (l0.length : Int)) = true := decide_eq_true c5
   clear c5
   by_cases c6 : (rd l0 a1) < 128
   ·rw [if_pos c6] at H
    have c6b0 : decide ((rd l0 a1) < 128) = true := decide_eq_true c6
    clear c6
    obtain rfl := Option.some.inj H
    have p484 : 0 ≤ (a1 : Int) := pI
    have q484 : a1 < (l0.length : Int) := pI
    obtain ⟨ad484, e484, hx484_0⟩ := Kd.at_int HR0.out a1 p484 q484
    cases e484
    replace p484 := eq_true p484
    replace q484 := eq_true q484
    go_enter Tryz.func93, Tryz.ntmps93
    go_wp2
    go_ret
    exact ⟨bS, z5⟩
   rw [if_neg c6] at H
   have c6b0 : decide ((rd l0 a1) < 128) = false := decide_eq_false c6
   clear c6
   by_cases c7 : (rd l0 a1) > 191
   ·rw [if_pos c7] at H
    have c7b0 : decide (191 < (rd l0 a1)) = true := decide_eq_true c7
    clear c7
    obtain rfl := Option.some.inj H
    have p484 : 0 ≤ (a1 : Int) := pI
    have q484 : a1 < (l0.length : Int) := pI
    obtain ⟨ad484, e484, hx484_0⟩ := Kd.at_int HR0.out a1 p484 q484
    cases e484
    replace p484 := eq_true p484
    replace q484 := eq_true q484
    have p485 : 0 ≤ (a1 : Int) := pI
    have q485 : a1 < (l0.length : Int) := pI
    obtain ⟨ad485, e485, hx485_0⟩ := Kd.at_int HR0.out a1 p485 q485
    obtain rfl : ad484 = ad485 := (by injection e485)
    replace p485 := eq_true p485
    replace q485 := eq_true q485
    go_enter Tryz.func93, Tryz.ntmps93
    go_wp2
    go_ret
    exact ⟨bS, z5⟩
   rw [if_neg c7] at H
   have c7b0 : decide (191 < (rd l0 a1)) = false := decide_eq_false c7
   clear c7
   obtain rfl := Option.some.inj H
   have p484 : 0 ≤ (a1 : Int) := pI
   have q484 : a1 < (l0.length : Int) := pI
   obtain ⟨ad484, e484, hx484_0⟩ := Kd.at_int HR0.out a1 p484 q484
   cases e484
   replace p484 := eq_true p484
   replace q484 := eq_true q484
   have p485 : 0 ≤ (a1 : Int) := pI
   have q485 : a1 < (l0.length : Int) := pI
   obtain ⟨ad485, e485, hx485_0⟩ := Kd.at_int HR0.out a1 p485 q485
   obtain rfl : ad484 = ad485 := (by injection e485)
   replace p485 := eq_true p485
   replace q485 := eq_true q485
   have p486 : 0 ≤ (a1 : Int) := pI
   have q486 : a1 < (l0.length : Int) := pI
   obtain ⟨ad486, e486, hx486_0⟩ := Kd.at_int HR0.out a1 p486 q486
   obtain rfl : ad484 = ad486 := (by injection e486)
   replace p486 := eq_true p486
   replace q486 := eq_true q486
   go_enter Tryz.func93, Tryz.ntmps93
   go_wp2
   go_ret
   exact ⟨bS, z5⟩
  rw [if_neg c5] at H
  exact absurd H (by simp)
 rw [if_neg c4] at H
 exact absurd H (by simp)
mutual
def spec_l2Utf8.j0 : Nat → List Int → Int → Int → Int → Bool → Option (Int × Int)
 | 0, _, _, _, _, _ => none
 | k + 1, x0, x1, x6, x7, x31 => if x31 = true then (some (wrap64 ((wrap64 ((wrap64 (x6 - 192)) * 64)) + x7), 2)) else ((spec_l2More.f x0 (wrap64 (x1 + 2))).bind fun t489 => (if x6 ≥ 224 then (if x6 < 240 then (if x7 ≥ 0 then (spec_l2Utf8.j1 k x6 x7 t489 (decide (t489 ≥ 0))) else (spec_l2Utf8.j1 k x6 x7 t489 false)) else (spec_l2Utf8.j1 k x6 x7 t489 false)) else (spec_l2Utf8.j1 k x6 x7 t489 false)))
def spec_l2Utf8.j1 : Nat → Int → Int → Int → Bool → Option (Int × Int)
 | 0, _, _, _, _ => none
 | k + 1, x6, x7, x8, x54 => if x54 = true then (if (wrap64 ((wrap64 ((wrap64 ((wrap64 (x6 - 224)) * 4096)) + (wrap64 (x7 * 64)))) + x8)) ≥ 2048 then ((spec_l2Char.f (wrap64 ((wrap64 ((wrap64 ((wrap64 (x6 - 224)) * 4096)) + (wrap64 (x7 * 64)))) + x8))).bind fun t490 => (if t490 = true then (some (wrap64 ((wrap64 ((wrap64 ((wrap64 (x6 - 224)) * 4096)) + (wrap64 (x7 * 64)))) + x8), 3)) else (some (0, 0)))) else (some (0, 0))) else (some (0, 0))
end
def spec_l2Utf8.f (k : Nat) (l0 : List Int) (a1 : Int) : Option (Int × Int) := if 0 ≤ a1 then (if a1 < (l0.length : Int) then (if (wrap64 (rd l0 a1)) < 128 then (some (wrap64 (rd l0 a1), 1)) else ((spec_l2More.f l0 (wrap64 (a1 + 1))).bind fun t488 => (if (wrap64 (rd l0 a1)) ≥ 194 then (if (wrap64 (rd l0 a1)) < 224 then (spec_l2Utf8.j0 k l0 a1 (wrap64 (rd l0 a1)) t488 (decide (t488 ≥ 0))) else (spec_l2Utf8.j0 k l0 a1 (wrap64 (rd l0 a1)) t488 false)) else (spec_l2Utf8.j0 k l0 a1 (wrap64 (rd l0 a1)) t488 false)))) else (none)) else (none)
set_option maxHeartbeats 8000000 in
set_option maxRecDepth 100000 in
theorem spec_l2Utf8.calls (k : Nat) (A0 : Option Addr) (c0 : Nat) (l0 : List Int) (a1 : Int) (r1 : Int) (r2 : Int) (w : World) (hr0 : Kd.C (Kd.int .u8) w A0 l0.length l0) (hc0 : l0.length ≤ c0) (h : spec_l2Utf8.f k l0 a1 = some (r1, r2)) :
  Calls Tryz.prog 57 #[.slice A0 l0.length c0, .int .i64 a1] w fun e w' => e = .returned (.tuple #[.int .i64 r1, .int .i64 r2]) ∧ Drawn0 w w' := by
 have HR0 := aM hr0
 have HC0 := aM hc0
 clear hr0 hc0
 have H : (if 0 ≤ a1 then (if a1 < (l0.length : Int) then (if (wrap64 (rd l0 a1)) < 128 then (some (wrap64 (rd l0 a1), 1)) else ((spec_l2More.f l0 (wrap64 (a1 + 1))).bind fun t488 => (if (wrap64 (rd l0 a1)) ≥ 194 then (if (wrap64 (rd l0 a1)) < 224 then (spec_l2Utf8.j0 k l0 a1 (wrap64 (rd l0 a1)) t488 (decide (t488 ≥ 0))) else (spec_l2Utf8.j0 k l0 a1 (wrap64 (rd l0 a1)) t488 false)) else (spec_l2Utf8.j0 k l0 a1 (wrap64 (rd l0 a1)) t488 false)))) else (none)) else (none)) = some (r1, r2) := h
 clear h
 by_cases c3 : 0 ≤ a1
 ·rw [if_pos c3] at H
  have c3b0 : decide (0 ≤ a1) = true := decide_eq_true c3
  clear c3
  by_cases c4 : a1 < (l0.length : Int)
  ·rw [if_pos c4] at H
   have c4b0 : decide (a1 < (l0.length : Int)) = true := decide_eq_true c4
   clear c4
   have HQ_ := aM H
   clear H
   have p487 : 0 ≤ (a1 : Int) := pI
   have q487 : a1 < (l0.length : Int) := pI
   obtain ⟨ad487, e487, hx487_0⟩ := Kd.at_int HR0.out a1 p487 q487
   cases e487
   replace p487 := eq_true p487
   replace q487 := eq_true q487
   go_enter Tryz.func57, Tryz.ntmps57
   have H := HQ_.out
   clear HQ_
   by_cases c5 : (wrap64 (rd l0 a1)) < 128
   ·rw [if_pos c5] at H
    have c5b0 : decide ((wrap64 (rd l0 a1)) < 128) = true := decide_eq_true c5
    clear c5
    simp only [Option.some.injEq, Prod.mk.injEq] at H
    obtain ⟨rfl, rfl⟩ := H
    (try simp only [c5b0])
    go_wp2
    go_ret2
    exact ⟨bS, z5⟩
   rw [if_neg c5] at H
   have c5b0 : decide ((wrap64 (rd l0 a1)) < 128) = false := decide_eq_false c5
   clear c5
   replace H := Option.bind_eq_some_iff.mp H
   obtain ⟨t488, A60, H⟩ := H
   replace H : (if (wrap64 (rd l0 a1)) ≥ 194 then (if (wrap64 (rd l0 a1)) < 224 then (spec_l2Utf8.j0 k l0 a1 (wrap64 (rd l0 a1)) t488 (decide (t488 ≥ 0))) else (spec_l2Utf8.j0 k l0 a1 (wrap64 (rd l0 a1)) t488 false)) else (spec_l2Utf8.j0 k l0 a1 (wrap64 (rd l0 a1)) t488 false)) = some (r1, r2) := H
   have A6 := aM A60
   clear A60
   have HC7 := aM H
   clear H
   (try simp only [c5b0])
   go_upto_region 5 with (first | ((with_reducible refine gate_callee (f := 93) rfl ?_); refine gL_ (some 21) Tryz.func93 #[.slice (some ad487) l0.length c0, .int .i64 (wrap64 (a1 + 1))] ?_; (with_reducible refine (spec_l2More.calls _ _ l0 (wrap64 (a1 + 1)) t488 _ ?side1 ?side2 A6.out).mono ?_); (case side1 => exact z19 HR0.out); (case side2 => exact HC0.out); rintro e w' ⟨rfl, ⟨nd, rfl⟩⟩; refine ⟨_, rfl, ?_⟩))
   (try simp only [Act.put, List.setIfInBounds_toArray, List.set_cons_zero, List.set_cons_succ])
   go_cut [31] (fun v31 wc => ∃ (kq : Nat) (x31_6 : Bool), v31 = .bool x31_6 ∧ Aside0 (spec_l2Utf8.j0 kq l0 a1 (wrap64 (rd l0 a1)) t488 x31_6 = some (r1, r2)) ∧ Aside0 (kq ≤ k) ∧ Drawn0 w wc)
   case first =>
    have H := HC7.out
    clear HC7
    by_cases c8 : (wrap64 (rd l0 a1)) ≥ 194
    ·rw [if_pos c8] at H
     have c8b0 : decide (194 ≤ (wrap64 (rd l0 a1))) = true := decide_eq_true c8
     clear c8
     (first | rw [c8b0] | (simp only [i64_w, i32_w]; rw [c8b0]) | skip)
     by_cases c9 : (wrap64 (rd l0 a1)) < 224
     ·rw [if_pos c9] at H
      have c9b0 : decide ((wrap64 (rd l0 a1)) < 224) = true := decide_eq_true c9
      clear c9
      have H' := aM H
      clear H
      go_wp2
      go_meet
      case rel => exact ⟨_, (decide (t488 ≥ 0)), bS, H', ⟨z34⟩, z5⟩
     rw [if_neg c9] at H
     have c9b0 : decide ((wrap64 (rd l0 a1)) < 224) = false := decide_eq_false c9
     clear c9
     have H' := aM H
     clear H
     go_wp2
     go_meet
     case rel => exact ⟨_, (false), bS, H', ⟨z34⟩, z5⟩
    rw [if_neg c8] at H
    have c8b0 : decide (194 ≤ (wrap64 (rd l0 a1))) = false := decide_eq_false c8
    clear c8
    (first | rw [c8b0] | (simp only [i64_w, i32_w]; rw [c8b0]) | skip)
    have H' := aM H
    clear H
    go_wp2
    go_meet
    case rel => exact ⟨_, (false), bS, H', ⟨z34⟩, z5⟩
   case rest =>
    clear HC7
    try clear p2
    try clear c3
    try clear c3b0
    try clear c4
    try clear c4b0
    try clear p4
    try clear q4
    try clear hx4
    try clear c5
    try clear c5b0
    try clear p6
    try clear c8
    try clear c8b0
    try clear c9
    try clear c9b0
    try clear hx487_0
    try clear p487
    try clear q487
    obtain ⟨kq, x31_6, rfl, HA, HJ6, ⟨mc6, rfl⟩⟩ := hcut
    cases kq with
    | zero => exact absurd HA.out (by simp [spec_l2Utf8.j0])
    | succ kj6 =>
     have H := HA.out
     clear HA
     simp only [spec_l2Utf8.j0] at H
     by_cases c10 : x31_6 = true
     ·subst c10
      have H1 : (some (wrap64 ((wrap64 ((wrap64 ((wrap64 (rd l0 a1)) - 192)) * 64)) + t488), 2)) = some (r1, r2) := z16
      clear H
      have H := H1
      clear H1
      simp only [Option.some.injEq, Prod.mk.injEq] at H
      obtain ⟨rfl, rfl⟩ := H
      go_wp2
      go_ret2
      exact ⟨bS, z5⟩
     replace c10 := Bool.eq_false_iff.mpr c10
     subst c10
     have H1 : ((spec_l2More.f l0 (wrap64 (a1 + 2))).bind fun t489 => (if (wrap64 (rd l0 a1)) ≥ 224 then (if (wrap64 (rd l0 a1)) < 240 then (if t488 ≥ 0 then (spec_l2Utf8.j1 kj6 (wrap64 (rd l0 a1)) t488 t489 (decide (t489 ≥ 0))) else (spec_l2Utf8.j1 kj6 (wrap64 (rd l0 a1)) t488 t489 false)) else (spec_l2Utf8.j1 kj6 (wrap64 (rd l0 a1)) t488 t489 false)) else (spec_l2Utf8.j1 kj6 (wrap64 (rd l0 a1)) t488 t489 false))) = some (r1, r2) := z7
     clear H
     have H := H1
     clear H1
     replace H := Option.bind_eq_some_iff.mp H
     obtain ⟨t489, A110, H⟩ := H
     replace H : (if (wrap64 (rd l0 a1)) ≥ 224 then (if (wrap64 (rd l0 a1)) < 240 then (if t488 ≥ 0 then (spec_l2Utf8.j1 kj6 (wrap64 (rd l0 a1)) t488 t489 (decide (t489 ≥ 0))) else (spec_l2Utf8.j1 kj6 (wrap64 (rd l0 a1)) t488 t489 false)) else (spec_l2Utf8.j1 kj6 (wrap64 (rd l0 a1)) t488 t489 false)) else (spec_l2Utf8.j1 kj6 (wrap64 (rd l0 a1)) t488 t489 false)) = some (r1, r2) := H
     have A11 := aM A110
     clear A110
     have HC12 := aM H
     clear H
     go_upto_region 8 with (first | ((with_reducible refine gate_callee (f := 93) rfl ?_); refine gL_ (some 40) Tryz.func93 #[.slice (some ad487) l0.length c0, .int .i64 (wrap64 (a1 + 2))] ?_; (with_reducible refine (spec_l2More.calls _ _ l0 (wrap64 (a1 + 2)) t489 _ ?side1 ?side2 A11.out).mono ?_); (case side1 => exact z19 HR0.out); (case side2 => exact HC0.out); rintro e w' ⟨rfl, ⟨nd, rfl⟩⟩; refine ⟨_, rfl, ?_⟩))
     (try simp only [Act.put, List.setIfInBounds_toArray, List.set_cons_zero, List.set_cons_succ])
     go_cut [54] (fun v54 wc => ∃ (kq : Nat) (x54_11 : Bool), v54 = .bool x54_11 ∧ Aside0 (spec_l2Utf8.j1 kq (wrap64 (rd l0 a1)) t488 t489 x54_11 = some (r1, r2)) ∧ Aside0 (kq ≤ kj6) ∧ Drawn0 w wc)
     case first =>
      have H := HC12.out
      clear HC12
      by_cases c13 : (wrap64 (rd l0 a1)) ≥ 224
      ·rw [if_pos c13] at H
       have c13b0 : decide (224 ≤ (wrap64 (rd l0 a1))) = true := decide_eq_true c13
       clear c13
       (first | rw [c13b0] | (simp only [i64_w, i32_w]; rw [c13b0]) | skip)
       by_cases c14 : (wrap64 (rd l0 a1)) < 240
       ·rw [if_pos c14] at H
        have c14b0 : decide ((wrap64 (rd l0 a1)) < 240) = true := decide_eq_true c14
        clear c14
        by_cases c15 : t488 ≥ 0
        ·rw [if_pos c15] at H
         have c15b0 : decide (0 ≤ t488) = true := decide_eq_true c15
         clear c15
         have H' := aM H
         clear H
         go_wp2
         go_meet
         case rel => exact ⟨_, (decide (t489 ≥ 0)), bS, H', ⟨z31 HJ6.out⟩, z5⟩
        rw [if_neg c15] at H
        have c15b0 : decide (0 ≤ t488) = false := decide_eq_false c15
        clear c15
        have H' := aM H
        clear H
        go_wp2
        go_meet
        case rel => exact ⟨_, (false), bS, H', ⟨z31 HJ6.out⟩, z5⟩
       rw [if_neg c14] at H
       have c14b0 : decide ((wrap64 (rd l0 a1)) < 240) = false := decide_eq_false c14
       clear c14
       have H' := aM H
       clear H
       go_wp2
       go_meet
       case rel => exact ⟨_, (false), bS, H', ⟨z31 HJ6.out⟩, z5⟩
      rw [if_neg c13] at H
      have c13b0 : decide (224 ≤ (wrap64 (rd l0 a1))) = false := decide_eq_false c13
      clear c13
      (first | rw [c13b0] | (simp only [i64_w, i32_w]; rw [c13b0]) | skip)
      have H' := aM H
      clear H
      go_wp2
      go_meet
      case rel => exact ⟨_, (false), bS, H', ⟨z31 HJ6.out⟩, z5⟩
     case rest =>
      clear HC12
      try clear c1
      try clear p2
      try clear c3
      try clear c3b0
      try clear c4
      try clear c4b0
      try clear p4
      try clear q4
      try clear hx4
      try clear c5
      try clear c5b0
      try clear c6
      try clear p6
      try clear c8
      try clear c8b0
      try clear c9
      try clear c9b0
      try clear c10
      try clear c13
      try clear c13b0
      try clear c14
      try clear c14b0
      try clear c15
      try clear c15b0
      try clear hx487_0
      try clear p2
      try clear p4
      try clear p487
      try clear p6
      try clear q4
      try clear q487
      obtain ⟨kq, x54_11, rfl, HA, HJ11, ⟨mc11, rfl⟩⟩ := hcut
      cases kq with
      | zero => exact absurd HA.out (by simp [spec_l2Utf8.j1])
      | succ kj11 =>
       have H := HA.out
       clear HA
       simp only [spec_l2Utf8.j1] at H
       by_cases c16 : x54_11 = true
       ·subst c16
        have H1 : (if (wrap64 ((wrap64 ((wrap64 ((wrap64 ((wrap64 (rd l0 a1)) - 224)) * 4096)) + (wrap64 (t488 * 64)))) + t489)) ≥ 2048 then ((spec_l2Char.f (wrap64 ((wrap64 ((wrap64 ((wrap64 ((wrap64 (rd l0 a1)) - 224)) * 4096)) + (wrap64 (t488 * 64)))) + t489))).bind fun t490 => (if t490 = true then (some (wrap64 ((wrap64 ((wrap64 ((wrap64 ((wrap64 (rd l0 a1)) - 224)) * 4096)) + (wrap64 (t488 * 64)))) + t489), 3)) else (some (0, 0)))) else (some (0, 0))) = some (r1, r2) := z16
        clear H
        have H := H1
        clear H1
        by_cases c17 : (wrap64 ((wrap64 ((wrap64 ((wrap64 ((wrap64 (rd l0 a1)) - 224)) * 4096)) + (wrap64 (t488 * 64)))) + t489)) ≥ 2048
        ·rw [if_pos c17] at H
         have c17b0 : decide (2048 ≤ (wrap64 ((wrap64 ((wrap64 ((wrap64 ((wrap64 (rd l0 a1)) - 224)) * 4096)) + (wrap64 (t488 * 64)))) + t489))) = true := decide_eq_true c17
         clear c17
         replace H := Option.bind_eq_some_iff.mp H
         obtain ⟨t490, A180, H⟩ := H
         replace H : (if t490 = true then (some (wrap64 ((wrap64 ((wrap64 ((wrap64 ((wrap64 (rd l0 a1)) - 224)) * 4096)) + (wrap64 (t488 * 64)))) + t489), 3)) else (some (0, 0))) = some (r1, r2) := H
         have A18 := aM A180
         clear A180
         by_cases c19 : t490 = true
         ·subst c19
          have H1 : (some (wrap64 ((wrap64 ((wrap64 ((wrap64 ((wrap64 (rd l0 a1)) - 224)) * 4096)) + (wrap64 (t488 * 64)))) + t489), 3)) = some (r1, r2) := z16
          clear H
          have H := H1
          clear H1
          simp only [Option.some.injEq, Prod.mk.injEq] at H
          obtain ⟨rfl, rfl⟩ := H
          go_wp2_with (first | (go_at_call 62; (with_reducible refine (spec_l2Char.calls (wrap64 ((wrap64 ((wrap64 ((wrap64 ((wrap64 (rd l0 a1)) - 224)) * 4096)) + (wrap64 (t488 * 64)))) + t489)) true _ A18.out).mono ?_); rintro e w' ⟨rfl, ⟨nd, rfl⟩⟩))
          go_ret2
          exact ⟨bS, z5⟩
         replace c19 := Bool.eq_false_iff.mpr c19
         subst c19
         have H1 : (some (0, 0)) = some (r1, r2) := z7
         clear H
         have H := H1
         clear H1
         simp only [Option.some.injEq, Prod.mk.injEq] at H
         obtain ⟨rfl, rfl⟩ := H
         go_wp2_with (first | (go_at_call 62; (with_reducible refine (spec_l2Char.calls (wrap64 ((wrap64 ((wrap64 ((wrap64 ((wrap64 (rd l0 a1)) - 224)) * 4096)) + (wrap64 (t488 * 64)))) + t489)) false _ A18.out).mono ?_); rintro e w' ⟨rfl, ⟨nd, rfl⟩⟩))
         go_ret2
         exact ⟨bS, z5⟩
        rw [if_neg c17] at H
        have c17b0 : decide (2048 ≤ (wrap64 ((wrap64 ((wrap64 ((wrap64 ((wrap64 (rd l0 a1)) - 224)) * 4096)) + (wrap64 (t488 * 64)))) + t489))) = false := decide_eq_false c17
        clear c17
        simp only [Option.some.injEq, Prod.mk.injEq] at H
        obtain ⟨rfl, rfl⟩ := H
        go_wp2
        go_ret2
        exact ⟨bS, z5⟩
       replace c16 := Bool.eq_false_iff.mpr c16
       subst c16
       have H1 : (some (0, 0)) = some (r1, r2) := z7
       clear H
       have H := H1
       clear H1
       simp only [Option.some.injEq, Prod.mk.injEq] at H
       obtain ⟨rfl, rfl⟩ := H
       go_wp2
       go_ret2
       exact ⟨bS, z5⟩
  rw [if_neg c4] at H
  exact absurd H (by simp)
 rw [if_neg c3] at H
 exact absurd H (by simp)
mutual
def spec_l2Single.j0 : Nat → Int → Int → Bool → Option (Int)
 | 0, _, _, _ => none
 | k + 1, x0, x1, x10 => if x10 = true then (some 167) else (if x0 = 3 then (spec_l2Single.j1 k x0 x1 (x1 == 240)) else (spec_l2Single.j1 k x0 x1 false))
def spec_l2Single.j1 : Nat → Int → Int → Bool → Option (Int)
 | 0, _, _, _ => none
 | k + 1, x0, x1, x16 => if x16 = true then (some 8470) else (if x0 = 3 then (if x1 > 160 then (spec_l2Single.j2 k x0 x1 (x1 != 173)) else (spec_l2Single.j2 k x0 x1 false)) else (spec_l2Single.j2 k x0 x1 false))
def spec_l2Single.j2 : Nat → Int → Int → Bool → Option (Int)
 | 0, _, _, _ => none
 | k + 1, x0, x1, x26 => if x26 = true then ((spec_l2Has.f k x0 (wrap64 (x1 + 864))).bind fun t491 => (if t491 = true then (some (wrap64 (x1 + 864))) else (some (-1)))) else ((spec_l2Has.f k x0 x1).bind fun t492 => (if t492 = true then (some x1) else (some (-1))))
end
def spec_l2Single.f (k : Nat) (a0 : Int) (a1 : Int) : Option (Int) := if a0 = 3 then (spec_l2Single.j0 k a0 a1 (a1 == 253)) else (spec_l2Single.j0 k a0 a1 false)
set_option maxHeartbeats 8000000 in
set_option maxRecDepth 100000 in
theorem spec_l2Single.calls (k : Nat) (a0 : Int) (a1 : Int) (r : Int) (w : World) (h : spec_l2Single.f k a0 a1 = some r) :
  Calls Tryz.prog 139 #[.int .i64 a0, .int .i64 a1] w fun e w' => e = .returned (.int .i64 r) ∧ Drawn0 w w' := by
 have H : (if a0 = 3 then (spec_l2Single.j0 k a0 a1 (a1 == 253)) else (spec_l2Single.j0 k a0 a1 false)) = some r := h
 clear h
 have HC3 := aM H
 clear H
 go_enter Tryz.func139, Tryz.ntmps139
 go_upto_region 1 with (fail)
 go_cut [10] (fun v10 wc => ∃ (kq : Nat) (x10_2 : Bool), v10 = .bool x10_2 ∧ Aside0 (spec_l2Single.j0 kq a0 a1 x10_2 = some r) ∧ Aside0 (kq ≤ k) ∧ Drawn0 w wc)
 case first =>
  have H := HC3.out
  clear HC3
  by_cases c4 : a0 = 3
  ·rw [if_pos c4] at H
   have c4b0 : (a0 == 3) = true := beq_iff_eq.mpr c4
   have c4b1 : (a0 != 3) = false := bne_eq_false_iff_eq.mpr c4
   clear c4
   (first | rw [c4b0] | (simp only [i64_w, i32_w]; rw [c4b0]) | skip)
   have H' := aM H
   clear H
   go_wp2
   go_meet
   case rel => exact ⟨_, ((a1 == 253)), bS, H', ⟨z34⟩, z5⟩
  rw [if_neg c4] at H
  have c4b0 : (a0 == 3) = false := beq_eq_false_iff_ne.mpr c4
  have c4b1 : (a0 != 3) = true := bne_iff_ne.mpr c4
  (first | rw [c4b0] | (simp only [i64_w, i32_w]; rw [c4b0]) | skip)
  have H' := aM H
  clear H
  go_wp2
  go_meet
  case rel => exact ⟨_, (false), bS, H', ⟨z34⟩, z5⟩
 case rest =>
  clear HC3
  try clear c1
  try clear p2
  try clear c4
  try clear c4b0
  try clear c4b1
  obtain ⟨kq, x10_2, rfl, HA, HJ2, ⟨mc2, rfl⟩⟩ := hcut
  cases kq with
  | zero => exact absurd HA.out (by simp [spec_l2Single.j0])
  | succ kj2 =>
   have H := HA.out
   clear HA
   simp only [spec_l2Single.j0] at H
   by_cases c5 : x10_2 = true
   ·subst c5
    have H1 : (some 167) = some r := z16
    clear H
    have H := H1
    clear H1
    obtain rfl := Option.some.inj H
    go_wp2
    go_ret
    exact ⟨bS, z5⟩
   replace c5 := Bool.eq_false_iff.mpr c5
   subst c5
   have H1 : (if a0 = 3 then (spec_l2Single.j1 kj2 a0 a1 (a1 == 240)) else (spec_l2Single.j1 kj2 a0 a1 false)) = some r := z7
   clear H
   have H := H1
   clear H1
   have HC6 := aM H
   clear H
   go_upto_region 3 with (fail)
   go_cut [16] (fun v16 wc => ∃ (kq : Nat) (x16_5 : Bool), v16 = .bool x16_5 ∧ Aside0 (spec_l2Single.j1 kq a0 a1 x16_5 = some r) ∧ Aside0 (kq ≤ kj2) ∧ Drawn0 w wc)
   case first =>
    have H := HC6.out
    clear HC6
    by_cases c7 : a0 = 3
    ·rw [if_pos c7] at H
     have c7b0 : (a0 == 3) = true := beq_iff_eq.mpr c7
     have c7b1 : (a0 != 3) = false := bne_eq_false_iff_eq.mpr c7
     clear c7
     (first | rw [c7b0] | (simp only [i64_w, i32_w]; rw [c7b0]) | skip)
     have H' := aM H
     clear H
     go_wp2
     go_meet
     case rel => exact ⟨_, ((a1 == 240)), bS, H', ⟨z31 HJ2.out⟩, z5⟩
    rw [if_neg c7] at H
    have c7b0 : (a0 == 3) = false := beq_eq_false_iff_ne.mpr c7
    have c7b1 : (a0 != 3) = true := bne_iff_ne.mpr c7
    (first | rw [c7b0] | (simp only [i64_w, i32_w]; rw [c7b0]) | skip)
    have H' := aM H
    clear H
    go_wp2
    go_meet
    case rel => exact ⟨_, (false), bS, H', ⟨z31 HJ2.out⟩, z5⟩
   case rest =>
    clear HC6
    try clear c1
    try clear c2
    try clear p2
    try clear c4
    try clear c4b0
    try clear c4b1
    try clear c5
    try clear c7
    try clear c7b0
    try clear c7b1
    try clear p2
    obtain ⟨kq, x16_5, rfl, HA, HJ5, ⟨mc5, rfl⟩⟩ := hcut
    cases kq with
    | zero => exact absurd HA.out (by simp [spec_l2Single.j1])
    | succ kj5 =>
     have H := HA.out
     clear HA
     simp only [spec_l2Single.j1] at H
     by_cases c8 : x16_5 = true
     ·subst c8
      have H1 : (some 8470) = some r := z16
      clear H
      have H := H1
      clear H1
      obtain rfl := Option.some.inj H
      go_wp2
      go_ret
      exact ⟨bS, z5⟩
     replace c8 := Bool.eq_false_iff.mpr c8
     subst c8
     have H1 : (if a0 = 3 then (if a1 > 160 then (spec_l2Single.j2 kj5 a0 a1 (a1 != 173)) else (spec_l2Single.j2 kj5 a0 a1 false)) else (spec_l2Single.j2 kj5 a0 a1 false)) = some r := z7
     clear H
     have H := H1
     clear H1
     have HC9 := aM H
     clear H
     go_upto_region 5 with (fail)
     go_cut [26] (fun v26 wc => ∃ (kq : Nat) (x26_8 : Bool), v26 = .bool x26_8 ∧ Aside0 (spec_l2Single.j2 kq a0 a1 x26_8 = some r) ∧ Aside0 (kq ≤ kj5) ∧ Drawn0 w wc)
     case first =>
      have H := HC9.out
      clear HC9
      by_cases c10 : a0 = 3
      ·rw [if_pos c10] at H
       have c10b0 : (a0 == 3) = true := beq_iff_eq.mpr c10
       have c10b1 : (a0 != 3) = false := bne_eq_false_iff_eq.mpr c10
       clear c10
       (first | rw [c10b0] | (simp only [i64_w, i32_w]; rw [c10b0]) | skip)
       by_cases c11 : a1 > 160
       ·rw [if_pos c11] at H
        have c11b0 : decide (160 < a1) = true := decide_eq_true c11
        clear c11
        have H' := aM H
        clear H
        go_wp2
        go_meet
        case rel => exact ⟨_, ((a1 != 173)), bS, H', ⟨z23 HJ2.out HJ5.out⟩, z5⟩
       rw [if_neg c11] at H
       have c11b0 : decide (160 < a1) = false := decide_eq_false c11
       clear c11
       have H' := aM H
       clear H
       go_wp2
       go_meet
       case rel => exact ⟨_, (false), bS, H', ⟨z23 HJ2.out HJ5.out⟩, z5⟩
      rw [if_neg c10] at H
      have c10b0 : (a0 == 3) = false := beq_eq_false_iff_ne.mpr c10
      have c10b1 : (a0 != 3) = true := bne_iff_ne.mpr c10
      (first | rw [c10b0] | (simp only [i64_w, i32_w]; rw [c10b0]) | skip)
      have H' := aM H
      clear H
      go_wp2
      go_meet
      case rel => exact ⟨_, (false), bS, H', ⟨z23 HJ2.out HJ5.out⟩, z5⟩
     case rest =>
      clear HC9
      try clear c1
      try clear c2
      try clear p2
      try clear c4
      try clear c4b0
      try clear c4b1
      try clear c5
      try clear c7
      try clear c7b0
      try clear c7b1
      try clear c8
      try clear c10
      try clear c10b0
      try clear c10b1
      try clear c11
      try clear c11b0
      try clear p2
      obtain ⟨kq, x26_8, rfl, HA, HJ8, ⟨mc8, rfl⟩⟩ := hcut
      cases kq with
      | zero => exact absurd HA.out (by simp [spec_l2Single.j2])
      | succ kj8 =>
       have H := HA.out
       clear HA
       simp only [spec_l2Single.j2] at H
       by_cases c12 : x26_8 = true
       ·subst c12
        have H1 : ((spec_l2Has.f kj8 a0 (wrap64 (a1 + 864))).bind fun t491 => (if t491 = true then (some (wrap64 (a1 + 864))) else (some (-1)))) = some r := z16
        clear H
        have H := H1
        clear H1
        replace H := Option.bind_eq_some_iff.mp H
        obtain ⟨t491, A130, H⟩ := H
        replace H : (if t491 = true then (some (wrap64 (a1 + 864))) else (some (-1))) = some r := H
        have A13 := aM A130
        clear A130
        by_cases c14 : t491 = true
        ·subst c14
         have H1 : (some (wrap64 (a1 + 864))) = some r := z16
         clear H
         have H := H1
         clear H1
         obtain rfl := Option.some.inj H
         go_wp2_with (first | ((with_reducible refine gate_callee (f := 97) rfl ?_); refine gL_ (some 31) Tryz.func97 #[.int .i64 a0, .int .i64 (wrap64 (a1 + 864))] ?_; (with_reducible refine (spec_l2Has.calls kj8 a0 (wrap64 (a1 + 864)) true _ A13.out).mono ?_); rintro e w' ⟨rfl, ⟨nd, rfl⟩⟩; refine ⟨_, rfl, ?_⟩))
         go_ret
         exact ⟨bS, z5⟩
        replace c14 := Bool.eq_false_iff.mpr c14
        subst c14
        have H1 : (some (-1)) = some r := z7
        clear H
        have H := H1
        clear H1
        obtain rfl := Option.some.inj H
        go_wp2_with (first | ((with_reducible refine gate_callee (f := 97) rfl ?_); refine gL_ (some 31) Tryz.func97 #[.int .i64 a0, .int .i64 (wrap64 (a1 + 864))] ?_; (with_reducible refine (spec_l2Has.calls kj8 a0 (wrap64 (a1 + 864)) false _ A13.out).mono ?_); rintro e w' ⟨rfl, ⟨nd, rfl⟩⟩; refine ⟨_, rfl, ?_⟩))
        go_ret
        exact ⟨bS, z5⟩
       replace c12 := Bool.eq_false_iff.mpr c12
       subst c12
       have H1 : ((spec_l2Has.f kj8 a0 a1).bind fun t492 => (if t492 = true then (some a1) else (some (-1)))) = some r := z7
       clear H
       have H := H1
       clear H1
       replace H := Option.bind_eq_some_iff.mp H
       obtain ⟨t492, A150, H⟩ := H
       replace H : (if t492 = true then (some a1) else (some (-1))) = some r := H
       have A15 := aM A150
       clear A150
       by_cases c16 : t492 = true
       ·subst c16
        have H1 : (some a1) = some r := z16
        clear H
        have H := H1
        clear H1
        obtain rfl := Option.some.inj H
        go_wp2_with (first | ((with_reducible refine gate_callee (f := 97) rfl ?_); refine gL_ (some 31) Tryz.func97 #[.int .i64 a0, .int .i64 a1] ?_; (with_reducible refine (spec_l2Has.calls kj8 a0 a1 true _ A15.out).mono ?_); rintro e w' ⟨rfl, ⟨nd, rfl⟩⟩; refine ⟨_, rfl, ?_⟩))
        go_ret
        exact ⟨bS, z5⟩
       replace c16 := Bool.eq_false_iff.mpr c16
       subst c16
       have H1 : (some (-1)) = some r := z7
       clear H
       have H := H1
       clear H1
       obtain rfl := Option.some.inj H
       go_wp2_with (first | ((with_reducible refine gate_callee (f := 97) rfl ?_); refine gL_ (some 31) Tryz.func97 #[.int .i64 a0, .int .i64 a1] ?_; (with_reducible refine (spec_l2Has.calls kj8 a0 a1 false _ A15.out).mono ?_); rintro e w' ⟨rfl, ⟨nd, rfl⟩⟩; refine ⟨_, rfl, ?_⟩))
       go_ret
       exact ⟨bS, z5⟩
def spec_l2One.f (k : Nat) (a0 : Int) (l1 : List Int) (a2 : Int) : Option (Int × Int) := if a0 = 4 then ((spec_l2Utf8.f k l1 a2).bind fun bt493 => (some (bt493.1, bt493.2))) else (if a0 = 5 then (if (wrap64 (a2 + 1)) ≥ (l1.length : Int) then (some (0, 0)) else (if 0 ≤ a2 then (if a2 < (l1.length : Int) then (if 0 ≤ (wrap64 (a2 + 1)) then (if (wrap64 (a2 + 1)) < (l1.length : Int) then ((spec_l2Char.f (wrap64 ((wrap64 ((wrap64 (rd l1 a2)) * 256)) + (wrap64 (rd l1 (wrap64 (a2 + 1))))))).bind fun t497 => (if t497 = true then (some (wrap64 ((wrap64 ((wrap64 (rd l1 a2)) * 256)) + (wrap64 (rd l1 (wrap64 (a2 + 1))))), 2)) else (some (0, 0)))) else (none)) else (none)) else (none)) else (none))) else (if 0 ≤ a2 then (if a2 < (l1.length : Int) then ((spec_l2Single.f k a0 (wrap64 (rd l1 a2))).bind fun t499 => (if t499 < 0 then (some (0, 0)) else (some (t499, 1)))) else (none)) else (none)))
set_option maxHeartbeats 8000000 in
set_option maxRecDepth 100000 in
theorem spec_l2One.calls (k : Nat) (a0 : Int) (A1 : Option Addr) (c1 : Nat) (l1 : List Int) (a2 : Int) (r1 : Int) (r2 : Int) (w : World) (hr1 : Kd.C (Kd.int .u8) w A1 l1.length l1) (hc1 : l1.length ≤ c1) (h : spec_l2One.f k a0 l1 a2 = some (r1, r2)) :
  Calls Tryz.prog 122 #[.int .i64 a0, .slice A1 l1.length c1, .int .i64 a2] w fun e w' => e = .returned (.tuple #[.int .i64 r1, .int .i64 r2]) ∧ Drawn0 w w' := by
 have HR1 := aM hr1
 have HC1 := aM hc1
 clear hr1 hc1
 have H : (if a0 = 4 then ((spec_l2Utf8.f k l1 a2).bind fun bt493 => (some (bt493.1, bt493.2))) else (if a0 = 5 then (if (wrap64 (a2 + 1)) ≥ (l1.length : Int) then (some (0, 0)) else (if 0 ≤ a2 then (if a2 < (l1.length : Int) then (if 0 ≤ (wrap64 (a2 + 1)) then (if (wrap64 (a2 + 1)) < (l1.length : Int) then ((spec_l2Char.f (wrap64 ((wrap64 ((wrap64 (rd l1 a2)) * 256)) + (wrap64 (rd l1 (wrap64 (a2 + 1))))))).bind fun t497 => (if t497 = true then (some (wrap64 ((wrap64 ((wrap64 (rd l1 a2)) * 256)) + (wrap64 (rd l1 (wrap64 (a2 + 1))))), 2)) else (some (0, 0)))) else (none)) else (none)) else (none)) else (none))) else (if 0 ≤ a2 then (if a2 < (l1.length : Int) then ((spec_l2Single.f k a0 (wrap64 (rd l1 a2))).bind fun t499 => (if t499 < 0 then (some (0, 0)) else (some (t499, 1)))) else (none)) else (none)))) = some (r1, r2) := h
 clear h
 by_cases c4 : a0 = 4
 ·rw [if_pos c4] at H
  have c4b0 : (a0 == 4) = true := beq_iff_eq.mpr c4
  have c4b1 : (a0 != 4) = false := bne_eq_false_iff_eq.mpr c4
  clear c4
  replace H := Option.bind_eq_some_iff.mp H
  obtain ⟨⟨t493, t494⟩, A50, H⟩ := H
  replace H : (some (t493, t494)) = some (r1, r2) := H
  have A5 := aM A50
  clear A50
  simp only [Option.some.injEq, Prod.mk.injEq] at H
  obtain ⟨rfl, rfl⟩ := H
  go_enter Tryz.func122, Tryz.ntmps122
  iterate 8 (go_wp2_with (first | (go_at_call 57; (with_reducible refine (spec_l2Utf8.calls k _ _ l1 a2 t493 t494 _ ?side1 ?side2 A5.out).mono ?_); (case side1 => exact z19 HR1.out); (case side2 => exact HC1.out); rintro e w' ⟨rfl, ⟨nd, rfl⟩⟩; (try first | exact ⟨rfl, _, World.drewN_drewN _ _ _⟩ | exact ⟨rfl, _, Eq.trans (World.drewN_drewN _ _ _) (congrArg (World.drewN _) (Nat.add_assoc _ _ _))⟩))); try go_quiet (first | (go_at_call 57; (with_reducible refine (spec_l2Utf8.calls k _ _ l1 a2 t493 t494 _ ?side1 ?side2 A5.out).mono ?_); (case side1 => exact z19 HR1.out); (case side2 => exact HC1.out); rintro e w' ⟨rfl, ⟨nd, rfl⟩⟩; (try first | exact ⟨rfl, _, World.drewN_drewN _ _ _⟩ | exact ⟨rfl, _, Eq.trans (World.drewN_drewN _ _ _) (congrArg (World.drewN _) (Nat.add_assoc _ _ _))⟩))))
  go_ret2
  exact ⟨bS, z5⟩
 rw [if_neg c4] at H
 have c4b0 : (a0 == 4) = false := beq_eq_false_iff_ne.mpr c4
 have c4b1 : (a0 != 4) = true := bne_iff_ne.mpr c4
 by_cases c6 : a0 = 5
 ·rw [if_pos c6] at H
  have c6b0 : (a0 == 5) = true := beq_iff_eq.mpr c6
  have c6b1 : (a0 != 5) = false := bne_eq_false_iff_eq.mpr c6
  clear c6
  by_cases c7 : (wrap64 (a2 + 1)) ≥ (l1.length : Int)
  ·rw [if_pos c7] at H
   have c7b0 : decide ((l1.length : Int) ≤ (wrap64 (a2 + 1))) = true := decide_eq_true c7
   clear c7
   simp only [Option.some.injEq, Prod.mk.injEq] at H
   obtain ⟨rfl, rfl⟩ := H
   go_enter Tryz.func122, Tryz.ntmps122
   go_wp2
   repeat (go_quiet (fail); try go_wp2)
   go_ret2
   exact ⟨bS, z5⟩
  rw [if_neg c7] at H
  have c7b0 : decide ((l1.length : Int) ≤ (wrap64 (a2 + 1))) = false := decide_eq_false c7
  clear c7
  by_cases c8 : 0 ≤ a2
  ·rw [if_pos c8] at H
   have c8b0 : decide (0 ≤ a2) = true := decide_eq_true c8
   clear c8
   by_cases c9 : a2 < (l1.length : Int)
   ·rw [if_pos c9] at H
    have c9b0 : decide (a2 < (l1.length : Int)) = true := decide_eq_true c9
    clear c9
    obtain ⟨ji10, hji10⟩ : ∃ j_ : Int, (wrap64 (a2 + 1)) = j_ := ⟨_, rfl⟩
    replace H : (if 0 ≤ (ji10) then (if (ji10) < (l1.length : Int) then ((spec_l2Char.f (wrap64 ((wrap64 ((wrap64 (rd l1 a2)) * 256)) + (wrap64 (rd l1 (ji10)))))).bind fun t497 => (if t497 = true then (some (wrap64 ((wrap64 ((wrap64 (rd l1 a2)) * 256)) + (wrap64 (rd l1 (ji10)))), 2)) else (some (0, 0)))) else (none)) else (none)) = some (r1, r2) := by first | (rw [hji10] at H; exact H) | (simp only [hji10] at H ⊢; exact H)
    (try rw [hji10] at c7b0)
    have hji10w : (IntKind.i64.wrap (a2 + 1)) = ji10 := (i64_w _).trans hji10
    by_cases c11 : 0 ≤ (ji10)
    ·rw [if_pos c11] at H
     have c11b0 : decide (0 ≤ (ji10)) = true := decide_eq_true c11
     clear c11
     by_cases c12 : (ji10) < (l1.length : Int)
     ·rw [if_pos c12] at H
      have c12b0 : decide ((ji10) < (l1.length : Int)) = true := decide_eq_true c12
      clear c12
      replace H := Option.bind_eq_some_iff.mp H
      obtain ⟨t497, A130, H⟩ := H
      replace H : (if t497 = true then (some (wrap64 ((wrap64 ((wrap64 (rd l1 a2)) * 256)) + (wrap64 (rd l1 (ji10)))), 2)) else (some (0, 0))) = some (r1, r2) := H
      have A13 := aM A130
      clear A130
      have HQ_ := aM H
      clear H
      have p495 : 0 ≤ (a2 : Int) := pI
      have q495 : a2 < (l1.length : Int) := pI
      obtain ⟨ad495, e495, hx495_0⟩ := Kd.at_int HR1.out a2 p495 q495
      cases e495
      replace p495 := eq_true p495
      replace q495 := eq_true q495
      have p496 : 0 ≤ ((ji10) : Int) := pI
      have q496 : (ji10) < (l1.length : Int) := pI
      obtain ⟨ad496, e496, hx496_0⟩ := Kd.at_int HR1.out (ji10) p496 q496
      obtain rfl : ad495 = ad496 := (by injection e496)
      replace p496 := eq_true p496
      replace q496 := eq_true q496
      go_enter Tryz.func122, Tryz.ntmps122
      have H := HQ_.out
      clear HQ_
      by_cases c14 : t497 = true
      ·subst c14
       have H1 : (some (wrap64 ((wrap64 ((wrap64 (rd l1 a2)) * 256)) + (wrap64 (rd l1 (ji10)))), 2)) = some (r1, r2) := z16
       clear H
       have H := H1
       clear H1
       simp only [Option.some.injEq, Prod.mk.injEq] at H
       obtain ⟨rfl, rfl⟩ := H
       iterate 8 (go_wp2_with (first | (go_at_call 62; (with_reducible refine (spec_l2Char.calls (wrap64 ((wrap64 ((wrap64 (rd l1 a2)) * 256)) + (wrap64 (rd l1 (ji10))))) true _ A13.out).mono ?_); rintro e w' ⟨rfl, ⟨nd, rfl⟩⟩; (try first | exact ⟨rfl, _, World.drewN_drewN _ _ _⟩ | exact ⟨rfl, _, Eq.trans (World.drewN_drewN _ _ _) (congrArg (World.drewN _) (Nat.add_assoc _ _ _))⟩))); try go_quiet (first | (go_at_call 62; (with_reducible refine (spec_l2Char.calls (wrap64 ((wrap64 ((wrap64 (rd l1 a2)) * 256)) + (wrap64 (rd l1 (ji10))))) true _ A13.out).mono ?_); rintro e w' ⟨rfl, ⟨nd, rfl⟩⟩; (try first | exact ⟨rfl, _, World.drewN_drewN _ _ _⟩ | exact ⟨rfl, _, Eq.trans (World.drewN_drewN _ _ _) (congrArg (World.drewN _) (Nat.add_assoc _ _ _))⟩))))
       go_ret2
       exact ⟨by first | rfl | (simp; done) | (simp only [← hji10] <;> (first | rfl | simp)) | (simp [*]; done), z5⟩
      replace c14 := Bool.eq_false_iff.mpr c14
      subst c14
      have H1 : (some (0, 0)) = some (r1, r2) := z7
      clear H
      have H := H1
      clear H1
      simp only [Option.some.injEq, Prod.mk.injEq] at H
      obtain ⟨rfl, rfl⟩ := H
      iterate 8 (go_wp2_with (first | (go_at_call 62; (with_reducible refine (spec_l2Char.calls (wrap64 ((wrap64 ((wrap64 (rd l1 a2)) * 256)) + (wrap64 (rd l1 (ji10))))) false _ A13.out).mono ?_); rintro e w' ⟨rfl, ⟨nd, rfl⟩⟩; (try first | exact ⟨rfl, _, World.drewN_drewN _ _ _⟩ | exact ⟨rfl, _, Eq.trans (World.drewN_drewN _ _ _) (congrArg (World.drewN _) (Nat.add_assoc _ _ _))⟩))); try go_quiet (first | (go_at_call 62; (with_reducible refine (spec_l2Char.calls (wrap64 ((wrap64 ((wrap64 (rd l1 a2)) * 256)) + (wrap64 (rd l1 (ji10))))) false _ A13.out).mono ?_); rintro e w' ⟨rfl, ⟨nd, rfl⟩⟩; (try first | exact ⟨rfl, _, World.drewN_drewN _ _ _⟩ | exact ⟨rfl, _, Eq.trans (World.drewN_drewN _ _ _) (congrArg (World.drewN _) (Nat.add_assoc _ _ _))⟩))))
      go_ret2
      exact ⟨by first | rfl | (simp; done) | (simp only [← hji10] <;> (first | rfl | simp)) | (simp [*]; done), z5⟩
     rw [if_neg c12] at H
     exact absurd H (by simp)
    rw [if_neg c11] at H
    exact absurd H (by simp)
   rw [if_neg c9] at H
   exact absurd H (by simp)
  rw [if_neg c8] at H
  exact absurd H (by simp)
 rw [if_neg c6] at H
 have c6b0 : (a0 == 5) = false := beq_eq_false_iff_ne.mpr c6
 have c6b1 : (a0 != 5) = true := bne_iff_ne.mpr c6
 by_cases c15 : 0 ≤ a2
 ·rw [if_pos c15] at H
  have c15b0 : decide (0 ≤ a2) = true := decide_eq_true c15
  clear c15
  by_cases c16 : a2 < (l1.length : Int)
  ·rw [if_pos c16] at H
   have c16b0 : decide (a2 < (l1.length : Int)) = true := decide_eq_true c16
   clear c16
   replace H := Option.bind_eq_some_iff.mp H
   obtain ⟨t499, A170, H⟩ := H
   replace H : (if t499 < 0 then (some (0, 0)) else (some (t499, 1))) = some (r1, r2) := H
   have A17 := aM A170
   clear A170
   have HQ_ := aM H
   clear H
   have p498 : 0 ≤ (a2 : Int) := pI
   have q498 : a2 < (l1.length : Int) := pI
   obtain ⟨ad498, e498, hx498_0⟩ := Kd.at_int HR1.out a2 p498 q498
   cases e498
   replace p498 := eq_true p498
   replace q498 := eq_true q498
   go_enter Tryz.func122, Tryz.ntmps122
   have H := HQ_.out
   clear HQ_
   by_cases c18 : t499 < 0
   ·rw [if_pos c18] at H
    have c18b0 : decide (t499 < 0) = true := decide_eq_true c18
    clear c18
    simp only [Option.some.injEq, Prod.mk.injEq] at H
    obtain ⟨rfl, rfl⟩ := H
    (try simp only [c18b0])
    iterate 8 (go_wp2_with (first | (go_at_call 139; (with_reducible refine (spec_l2Single.calls k a0 (wrap64 (rd l1 a2)) t499 _ A17.out).mono ?_); rintro e w' ⟨rfl, ⟨nd, rfl⟩⟩; (try first | exact ⟨rfl, _, World.drewN_drewN _ _ _⟩ | exact ⟨rfl, _, Eq.trans (World.drewN_drewN _ _ _) (congrArg (World.drewN _) (Nat.add_assoc _ _ _))⟩))); try go_quiet (first | (go_at_call 139; (with_reducible refine (spec_l2Single.calls k a0 (wrap64 (rd l1 a2)) t499 _ A17.out).mono ?_); rintro e w' ⟨rfl, ⟨nd, rfl⟩⟩; (try first | exact ⟨rfl, _, World.drewN_drewN _ _ _⟩ | exact ⟨rfl, _, Eq.trans (World.drewN_drewN _ _ _) (congrArg (World.drewN _) (Nat.add_assoc _ _ _))⟩))))
    go_ret2
    exact ⟨bS, z5⟩
   rw [if_neg c18] at H
   have c18b0 : decide (t499 < 0) = false := decide_eq_false c18
   clear c18
   simp only [Option.some.injEq, Prod.mk.injEq] at H
   obtain ⟨rfl, rfl⟩ := H
   (try simp only [c18b0])
   iterate 8 (go_wp2_with (first | (go_at_call 139; (with_reducible refine (spec_l2Single.calls k a0 (wrap64 (rd l1 a2)) t499 _ A17.out).mono ?_); rintro e w' ⟨rfl, ⟨nd, rfl⟩⟩; (try first | exact ⟨rfl, _, World.drewN_drewN _ _ _⟩ | exact ⟨rfl, _, Eq.trans (World.drewN_drewN _ _ _) (congrArg (World.drewN _) (Nat.add_assoc _ _ _))⟩))); try go_quiet (first | (go_at_call 139; (with_reducible refine (spec_l2Single.calls k a0 (wrap64 (rd l1 a2)) t499 _ A17.out).mono ?_); rintro e w' ⟨rfl, ⟨nd, rfl⟩⟩; (try first | exact ⟨rfl, _, World.drewN_drewN _ _ _⟩ | exact ⟨rfl, _, Eq.trans (World.drewN_drewN _ _ _) (congrArg (World.drewN _) (Nat.add_assoc _ _ _))⟩))))
   go_ret2
   exact ⟨bS, z5⟩
  rw [if_neg c16] at H
  exact absurd H (by simp)
 rw [if_neg c15] at H
 exact absurd H (by simp)
def spec_l2Decode.l0 : Nat → Int → List Int → List Int → Int → Option (List Int × Bool)
 | 0, _, _, _, _ => none
 | k + 1, x0, x1, x6, x7 => if x7 < (x1.length : Int) then ((spec_l2One.f k x0 x1 x7).bind fun bt503 => (if bt503.2 = 0 then (some (([] : List Int), false)) else (if x6.length < 17592186044416 then (spec_l2Decode.l0 k x0 x1 (x6 ++ [bt503.1]) (wrap64 (x7 + bt503.2))) else (none)))) else (some (x6, true))
def spec_l2Decode.f (k : Nat) (a0 : Int) (l1 : List Int) : Option (List Int × Bool) := spec_l2Decode.l0 k a0 l1 (([] : List Int)) 0
set_option maxHeartbeats 8000000 in
set_option maxRecDepth 100000 in
theorem spec_l2Decode.calls (k : Nat) (a0 : Int) (A1 : Option Addr) (c1 : Nat) (l1 : List Int) (r1 : List Int) (r2 : Bool) (w : World) (hr1 : Kd.C (Kd.int .u8) w A1 l1.length l1) (hc1 : l1.length ≤ c1) (h : spec_l2Decode.f k a0 l1 = some (r1, r2)) :
  Calls Tryz.prog 92 #[.int .i64 a0, .slice A1 l1.length c1] w fun e w' => ∃ v0_ : Value, e = .returned (.tuple #[v0_, .bool r2]) ∧ Kd.R (Kd.int .i64) 2 w' w.heap.size (fun _ => True) v0_ r1 ∧ Below w.heap.size w w' := by
 have HR1 := aM hr1
 have HC1 := aM hc1
 clear hr1 hc1
 have HB := aM (Below.refl w.heap.size w)
 have H : (spec_l2Decode.l0 k a0 l1 (([] : List Int)) 0) = some (r1, r2) := h
 clear h
 obtain ⟨y500, hy500⟩ : ∃ y_ : List Int, y_ = (([] : List Int)) := ⟨_, rfl⟩
 replace H : (spec_l2Decode.l0 k a0 l1 y500 0) = some (r1, r2) := z0 hy500
 have Ny500 := aM hy500
 clear hy500
 have H' := aM H
 clear H
 go_enter Tryz.func92, Tryz.ntmps92
 go_wp2_with (first | ((with_reducible refine gate_dst (N := 10) rfl ?_); refine Kd.R_lit (Kd.int .i64) _ 2 ?hg (N := 10) ?hd (xs := ([] : List Int)) (inner := []) (ok := fun _ => True) (okp := fun _ => True) ?hr ?hp (fun _ hk => hk) trivial (Below.refl _ _) (Nat.le_refl _) (by simp) ?_; (case hd => rfl); (case hg => rfl); (case hr => exact z10); (case hp => exact (Reps.none _ _)); intro v501 w3 ho4 hb hg_ hnew_; clear hg_ hnew_; (first | rw [← Ny500.out] at ho4 | (simp only [Int.reduceToNat] at ho4; rw [← Ny500.out] at ho4)); have HO502 := aM (Kd.R_lower ho4 (below_size bB)); replace HB := aM (below_step bB hb); clear hb ho4))
 go_loopg [6, 7] k (fun kq v6 v7 w' => ∃ (x6_1 : List Int) (x7_1 : Int), v7 = .int .i64 x7_1 ∧ Aside0 (spec_l2Decode.l0 kq a0 l1 x6_1 x7_1 = some (r1, r2)) ∧ Aside0 (kq ≤ k) ∧ Aside0 (Kd.R (Kd.int .i64) 2 w' w.heap.size (fun _ => True) v6 x6_1) ∧ Aside0 (Below w.heap.size w w'))
 case atStart => exact ⟨(y500), (0), bS, H', ⟨Nat.le_refl _⟩, ⟨bR HO502⟩, ⟨bB⟩⟩
 case round =>
  clear H'
  try clear c1
  try clear p2
  obtain ⟨x6_1, x7_1, rfl, HA, HK1, HO_6, HB⟩ := hrel
  cases gk with
  | zero => exact absurd HA.out (by simp [spec_l2Decode.l0])
  | succ k1 =>
   have H := HA.out
   clear HA
   simp only [spec_l2Decode.l0] at H
   by_cases c5 : x7_1 < (l1.length : Int)
   ·rw [if_pos c5] at H
    have c5b0 : decide (x7_1 < (l1.length : Int)) = true := decide_eq_true c5
    clear c5
    replace H := Option.bind_eq_some_iff.mp H
    obtain ⟨⟨t503, t504⟩, A60, H⟩ := H
    replace H : (if t504 = 0 then (some (([] : List Int), false)) else (if x6_1.length < 17592186044416 then (spec_l2Decode.l0 k1 a0 l1 (x6_1 ++ [t503]) (wrap64 (x7_1 + t504))) else (none))) = some (r1, r2) := H
    have A6 := aM A60
    clear A60
    by_cases c7 : t504 = 0
    ·rw [if_pos c7] at H
     have c7b0 : (t504 == 0) = true := beq_iff_eq.mpr c7
     have c7b1 : (t504 != 0) = false := bne_eq_false_iff_eq.mpr c7
     clear c7
     simp only [Option.some.injEq, Prod.mk.injEq] at H
     obtain ⟨rfl, rfl⟩ := H
     go_wp2_with (first | ((with_reducible refine gate_callee (f := 122) rfl ?_); refine gL_ (some 19) Tryz.func122 #[.int .i64 a0, .slice A1 l1.length c1, .int .i64 x7_1] ?_; (with_reducible refine (spec_l2One.calls k1 a0 _ _ l1 x7_1 t503 t504 _ ?side1 ?side2 A6.out).mono ?_); (case side1 => exact z12 HR1.out); (case side2 => exact HC1.out); rintro e w' ⟨rfl, ⟨nd, rfl⟩⟩; refine ⟨_, rfl, ?_⟩))
     go_ret2
     exact ⟨_, bE, z6, bB⟩
    rw [if_neg c7] at H
    have c7b0 : (t504 == 0) = false := beq_eq_false_iff_ne.mpr c7
    have c7b1 : (t504 != 0) = true := bne_iff_ne.mpr c7
    by_cases c8 : x6_1.length < 17592186044416
    ·rw [if_pos c8] at H
     have LMc8 := aM c8
     clear c8
     obtain ⟨y505, hy505⟩ : ∃ y_ : List Int, y_ = (x6_1 ++ [t503]) := ⟨_, rfl⟩
     replace H : (spec_l2Decode.l0 k1 a0 l1 y505 (wrap64 (x7_1 + t504))) = some (r1, r2) := z0 hy505
     have Ny505 := aM hy505
     clear hy505
     have H' := aM H
     clear H
     go_wp2_with (first | ((with_reducible refine gate_callee (f := 122) rfl ?_); refine gL_ (some 19) Tryz.func122 #[.int .i64 a0, .slice A1 l1.length c1, .int .i64 x7_1] ?_; (with_reducible refine (spec_l2One.calls k1 a0 _ _ l1 x7_1 t503 t504 _ ?side1 ?side2 A6.out).mono ?_); (case side1 => exact z12 HR1.out); (case side2 => exact HC1.out); rintro e w' ⟨rfl, ⟨nd, rfl⟩⟩; refine ⟨_, rfl, ?_⟩) | ((with_reducible refine gate_builtin (b := .append) (xs := #[.tmp 24, .tmp 26]) rfl ?_); at_builtin; refine Kd.R_append (Kd.int .i64) (w0 := w) w.heap.size rfl (.tmp 24) (.tmp 26) 23 2 (.int .i64 0) 8 rfl Tryz.underlying23 info2 rfl (by decide) (by omega) u6 x6_1 t503 [.int .i64 t503] (fun _ => True) (fun _ => False) rfl rfl ?aP (fun _ hk => hk.elim) ?aF ?aO ?aB ?aS ?aL ?_; (case aP => exact rfl); (case aB => exact bB); (case aF => exact (fun _ _ => trivial)); (case aO => exact (bR HO_6)); (case aS => exact (below_size bB)); (case aL => have := LMc8.out; omega); intro v506 w9 ho hb hg hat; rw [← Ny505.out] at ho; have n0_ := aM (hb); have n1_ := aM (ho); clear HB; clear HO_6; have HB := n0_; have HO507 := n1_; clear n0_ n1_; clear ho hb hg hat))
     go_roundg k1
     case measure => have := HK1.out; omega
     case rel => exact ⟨(y505), (wrap64 (x7_1 + t504)), bS, H', ⟨by have := HK1.out; omega⟩, ⟨bR HO507⟩, ⟨bB⟩⟩
    rw [if_neg c8] at H
    exact absurd H (by simp)
   rw [if_neg c5] at H
   have c5b0 : decide (x7_1 < (l1.length : Int)) = false := decide_eq_false c5
   clear c5
   simp only [Option.some.injEq, Prod.mk.injEq] at H
   obtain ⟨rfl, rfl⟩ := H
   go_wp2
   go_ret2
   exact ⟨_, bE, bR HO_6, bB⟩
end Go.Proofs.YtjopgmjmjnfcjaaGreatDoor.PWords
