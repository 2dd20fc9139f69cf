/- Part of the proof; words that it uses. -/
import Derived.Test.YtjopgmjmjnfcjaaGreatDoorPSubjectOfx0
import Derived.Test.YtjopgmjmjnfcjaaGreatDoorPSubjectOfx2
namespace Go.Proofs.YtjopgmjmjnfcjaaGreatDoor.PSubjectOf
open Go.RowKit Go.Proofs.YtjopgmjmjnfcjaaGreatDoorW.PrintWords Go.Proofs.YtjopgmjmjnfcjaaGreatDoorW.PrintLast
set_option linter.unusedVariables false
set_option linter.unusedSimpArgs false
def spec_l2Char.f (a0 : Int) : Option (Bool) := (spec_l1In.f a0 0 55295).bind fun t186 => (if t186 = true then (some true) else ((spec_l1In.f a0 57344 65535).bind fun t187 => (some t187)))
set_option maxHeartbeats 8000000 in
set_option maxRecDepth 100000 in
theorem spec_l2Char.calls (a0 : Int) (r : Bool) (w : World) (h : spec_l2Char.f a0 = some r) :
  Calls Tryz.prog 62 #[.int .i64 a0] w fun e w' => e = .returned (.bool r) ∧ Drawn0 w w' := by
 have H : ((spec_l1In.f a0 0 55295).bind fun t186 => (if t186 = true then (some true) else ((spec_l1In.f a0 57344 65535).bind fun t187 => (some t187)))) = some r := h
 clear h
 replace H := Option.bind_eq_some_iff.mp H
 obtain ⟨t186, A20, H⟩ := H
 replace H : (if t186 = true then (some true) else ((spec_l1In.f a0 57344 65535).bind fun t187 => (some t187))) = some r := H
 have A2 := aM A20
 clear A20
 by_cases c3 : t186 = true
 ·subst c3
  have H1 : (some true) = some r := z14
  clear H
  have H := H1
  clear H1
  obtain rfl := Option.some.inj H
  go_enter Tryz.func62, Tryz.ntmps62
  go_wp2_with (first | ((with_reducible refine gate_callee (f := 96) rfl ?_); refine gL_ (some 4) Tryz.func96 #[.int .i64 a0, .int .i64 0, .int .i64 55295] ?_; (with_reducible refine (spec_l1In.calls a0 0 55295 true _ A2.out).mono ?_); rintro e w' ⟨rfl, ⟨nd, rfl⟩⟩; refine ⟨_, rfl, ?_⟩))
  go_ret
  exact ⟨bS, z1⟩
 replace c3 := Bool.eq_false_iff.mpr c3
 subst c3
 have H1 : ((spec_l1In.f a0 57344 65535).bind fun t187 => (some t187)) = some r := z5
 clear H
 have H := H1
 clear H1
 replace H := Option.bind_eq_some_iff.mp H
 obtain ⟨t187, A40, H⟩ := H
 replace H : (some t187) = some r := H
 have A4 := aM A40
 clear A40
 obtain rfl := Option.some.inj H
 go_enter Tryz.func62, Tryz.ntmps62
 go_wp2_with (first | ((with_reducible refine gate_callee (f := 96) rfl ?_); refine gL_ (some 4) Tryz.func96 #[.int .i64 a0, .int .i64 0, .int .i64 55295] ?_; (with_reducible refine (spec_l1In.calls a0 0 55295 false _ A2.out).mono ?_); rintro e w' ⟨rfl, ⟨nd, rfl⟩⟩; refine ⟨_, rfl, ?_⟩) | (go_at_call 96; (with_reducible refine (spec_l1In.calls a0 57344 65535 t187 _ A4.out).mono ?_); rintro e w' ⟨rfl, ⟨nd, rfl⟩⟩))
 go_ret
 exact ⟨bS, z1⟩
def spec_l2More.f (l0 : List Int) (a1 : Int) : Option (Int) := if a1 ≥ (l0.length : Int) then (some (-1)) else (if 0 ≤ a1 then (if a1 < (l0.length : Int) then (if (rd l0 a1) < 128 then (some (-1)) else (if (rd l0 a1) > 191 then (some (-1)) else (some (wrap64 ((wrap64 (rd l0 a1)) - 128))))) else (none)) else (none))
set_option maxHeartbeats 8000000 in
set_option maxRecDepth 100000 in
theorem spec_l2More.calls (A0 : Option Addr) (c0 : Nat) (l0 : List Int) (a1 : Int) (r : Int) (w : World) (hr0 : Kd.C (Kd.int .u8) w A0 l0.length l0) (hc0 : l0.length ≤ c0) (h : spec_l2More.f l0 a1 = some r) :
  Calls Tryz.prog 93 #[.slice A0 l0.length c0, .int .i64 a1] w fun e w' => e = .returned (.int .i64 r) ∧ Drawn0 w w' := by
 have HR0 := aM hr0
 have HC0 := aM hc0
 clear hr0 hc0
 have H : (if a1 ≥ (l0.length : Int) then (some (-1)) else (if 0 ≤ a1 then (if a1 < (l0.length : Int) then (if (rd l0 a1) < 128 then (some (-1)) else (if (rd l0 a1) > 191 then (some (-1)) else (some (wrap64 ((wrap64 (rd l0 a1)) - 128))))) else (none)) else (none))) = some r := h
 clear h
 by_cases c3 : a1 ≥ (l0.length : Int)
 ·rw [if_pos c3] at H
  have c3b0 : decide ((l0.length : Int) ≤ a1) = true := decide_eq_true c3
  clear c3
  obtain rfl := Option.some.inj H
  go_enter Tryz.func93, Tryz.ntmps93
  go_wp2
  go_ret
  exact ⟨bS, z1⟩
 rw [if_neg c3] at H
 have c3b0 : decide ((l0.length : Int) ≤ a1) = false := decide_eq_false c3
 clear c3
 by_cases c4 : 0 ≤ a1
 ·rw [if_pos c4] at H
  have c4b0 : decide (0 ≤ a1) = true := decide_eq_true c4
  clear c4
  by_cases c5 : a1 < (l0.length : Int)
  ·rw [if_pos c5] at H
   have c5b0 : decide (a1 < (l0.length : Int)) = true := decide_eq_true c5
   clear c5
   by_cases c6 : (rd l0 a1) < 128
   ·rw [if_pos c6] at H
    have c6b0 : decide ((rd l0 a1) < 128) = true := decide_eq_true c6
    clear c6
    obtain rfl := Option.some.inj H
    have p188 : 0 ≤ (a1 : Int) := pI
    have q188 : a1 < (l0.length : Int) := pI
    obtain ⟨ad188, e188, hx188_0⟩ := Kd.at_int HR0.out a1 p188 q188
    cases e188
    replace p188 := eq_true p188
    replace q188 := eq_true q188
    go_enter Tryz.func93, Tryz.ntmps93
    go_wp2
    go_ret
    exact ⟨bS, z1⟩
   rw [if_neg c6] at H
   have c6b0 : decide ((rd l0 a1) < 128) = false := decide_eq_false c6
   clear c6
   by_cases c7 : (rd l0 a1) > 191
   ·rw [if_pos c7] at H
    have c7b0 : decide (191 < (rd l0 a1)) = true := decide_eq_true c7
    clear c7
    obtain rfl := Option.some.inj H
    have p188 : 0 ≤ (a1 : Int) := pI
    have q188 : a1 < (l0.length : Int) := pI
    obtain ⟨ad188, e188, hx188_0⟩ := Kd.at_int HR0.out a1 p188 q188
    cases e188
    replace p188 := eq_true p188
    replace q188 := eq_true q188
    have p189 : 0 ≤ (a1 : Int) := pI
    have q189 : a1 < (l0.length : Int) := pI
    obtain ⟨ad189, e189, hx189_0⟩ := Kd.at_int HR0.out a1 p189 q189
    obtain rfl : ad188 = ad189 := (by injection e189)
    replace p189 := eq_true p189
    replace q189 := eq_true q189
    go_enter Tryz.func93, Tryz.ntmps93
    go_wp2
    go_ret
    exact ⟨bS, z1⟩
   rw [if_neg c7] at H
   have c7b0 : decide (191 < (rd l0 a1)) = false := decide_eq_false c7
   clear c7
   obtain rfl := Option.some.inj H
   have p188 : 0 ≤ (a1 : Int) := pI
   have q188 : a1 < (l0.length : Int) := pI
   obtain ⟨ad188, e188, hx188_0⟩ := Kd.at_int HR0.out a1 p188 q188
   cases e188
   replace p188 := eq_true p188
   replace q188 := eq_true q188
   have p189 : 0 ≤ (a1 : Int) := pI
   have q189 : a1 < (l0.length : Int) := pI
   obtain ⟨ad189, e189, hx189_0⟩ := Kd.at_int HR0.out a1 p189 q189
   obtain rfl : ad188 = ad189 := (by injection e189)
   replace p189 := eq_true p189
   replace q189 := eq_true q189
   have p190 : 0 ≤ (a1 : Int) := pI
   have q190 : a1 < (l0.length : Int) := pI
   obtain ⟨ad190, e190, hx190_0⟩ := Kd.at_int HR0.out a1 p190 q190
   obtain rfl : ad188 = ad190 := (by injection e190)
   replace p190 := eq_true p190
   replace q190 := eq_true q190
   go_enter Tryz.func93, Tryz.ntmps93
   go_wp2
   go_ret
   exact ⟨bS, z1⟩
  rw [if_neg c5] at H
  exact absurd H (by simp)
 rw [if_neg c4] at H
 exact absurd H (by simp)
mutual
def spec_l2Utf8.j0 : Nat → List Int → Int → Int → Int → Bool → Option (Int × Int)
 | 0, _, _, _, _, _ => none
 | k + 1, x0, x1, x6, x7, x31 => if x31 = true then (some (wrap64 ((wrap64 ((wrap64 (x6 - 192)) * 64)) + x7), 2)) else ((spec_l2More.f x0 (wrap64 (x1 + 2))).bind fun t193 => (if x6 ≥ 224 then (if x6 < 240 then (if x7 ≥ 0 then (spec_l2Utf8.j1 k x6 x7 t193 (decide (t193 ≥ 0))) else (spec_l2Utf8.j1 k x6 x7 t193 false)) else (spec_l2Utf8.j1 k x6 x7 t193 false)) else (spec_l2Utf8.j1 k x6 x7 t193 false)))
def spec_l2Utf8.j1 : Nat → Int → Int → Int → Bool → Option (Int × Int)
 | 0, _, _, _, _ => none
 | k + 1, x6, x7, x8, x54 => if x54 = true then (if (wrap64 ((wrap64 ((wrap64 ((wrap64 (x6 - 224)) * 4096)) + (wrap64 (x7 * 64)))) + x8)) ≥ 2048 then ((spec_l2Char.f (wrap64 ((wrap64 ((wrap64 ((wrap64 (x6 - 224)) * 4096)) + (wrap64 (x7 * 64)))) + x8))).bind fun t194 => (if t194 = true then (some (wrap64 ((wrap64 ((wrap64 ((wrap64 (x6 - 224)) * 4096)) + (wrap64 (x7 * 64)))) + x8), 3)) else (some (0, 0)))) else (some (0, 0))) else (some (0, 0))
end
def spec_l2Utf8.f (k : Nat) (l0 : List Int) (a1 : Int) : Option (Int × Int) := if 0 ≤ a1 then (if a1 < (l0.length : Int) then (if (wrap64 (rd l0 a1)) < 128 then (some (wrap64 (rd l0 a1), 1)) else ((spec_l2More.f l0 (wrap64 (a1 + 1))).bind fun t192 => (if (wrap64 (rd l0 a1)) ≥ 194 then (if (wrap64 (rd l0 a1)) < 224 then (spec_l2Utf8.j0 k l0 a1 (wrap64 (rd l0 a1)) t192 (decide (t192 ≥ 0))) else (spec_l2Utf8.j0 k l0 a1 (wrap64 (rd l0 a1)) t192 false)) else (spec_l2Utf8.j0 k l0 a1 (wrap64 (rd l0 a1)) t192 false)))) else (none)) else (none)
set_option maxHeartbeats 8000000 in
set_option maxRecDepth 100000 in
theorem spec_l2Utf8.calls (k : Nat) (A0 : Option Addr) (c0 : Nat) (l0 : List Int) (a1 : Int) (r1 : Int) (r2 : Int) (w : World) (hr0 : Kd.C (Kd.int .u8) w A0 l0.length l0) (hc0 : l0.length ≤ c0) (h : spec_l2Utf8.f k l0 a1 = some (r1, r2)) :
  Calls Tryz.prog 57 #[.slice A0 l0.length c0, .int .i64 a1] w fun e w' => e = .returned (.tuple #[.int .i64 r1, .int .i64 r2]) ∧ Drawn0 w w' := by
 have HR0 := aM hr0
 have HC0 := aM hc0
 clear hr0 hc0
 have H : (if 0 ≤ a1 then (if a1 < (l0.length : Int) then (if (wrap64 (rd l0 a1)) < 128 then (some (wrap64 (rd l0 a1), 1)) else ((spec_l2More.f l0 (wrap64 (a1 + 1))).bind fun t192 => (if (wrap64 (rd l0 a1)) ≥ 194 then (if (wrap64 (rd l0 a1)) < 224 then (spec_l2Utf8.j0 k l0 a1 (wrap64 (rd l0 a1)) t192 (decide (t192 ≥ 0))) else (spec_l2Utf8.j0 k l0 a1 (wrap64 (rd l0 a1)) t192 false)) else (spec_l2Utf8.j0 k l0 a1 (wrap64 (rd l0 a1)) t192 false)))) else (none)) else (none)) = some (r1, r2) := h
 clear h
 by_cases c3 : 0 ≤ a1
 ·rw [if_pos c3] at H
  have c3b0 : decide (0 ≤ a1) = true := decide_eq_true c3
  clear c3
  by_cases c4 : a1 < (l0.length : Int)
  ·rw [if_pos c4] at H
   have c4b0 : decide (a1 < (l0.length : Int)) = true := decide_eq_true c4
   clear c4
   have HQ_ := aM H
   clear H
   have p191 : 0 ≤ (a1 : Int) := pI
   have q191 : a1 < (l0.length : Int) := pI
   obtain ⟨ad191, e191, hx191_0⟩ := Kd.at_int HR0.out a1 p191 q191
   cases e191
   replace p191 := eq_true p191
   replace q191 := eq_true q191
   go_enter Tryz.func57, Tryz.ntmps57
   have H := HQ_.out
   clear HQ_
   by_cases c5 : (wrap64 (rd l0 a1)) < 128
   ·rw [if_pos c5] at H
    have c5b0 : decide ((wrap64 (rd l0 a1)) < 128) = true := decide_eq_true c5
    clear c5
    simp only [Option.some.injEq, Prod.mk.injEq] at H
    obtain ⟨rfl, rfl⟩ := H
    (try simp only [c5b0])
    go_wp2
    go_ret2
    exact ⟨bS, z1⟩
   rw [if_neg c5] at H
   have c5b0 : decide ((wrap64 (rd l0 a1)) < 128) = false := decide_eq_false c5
   clear c5
   replace H := Option.bind_eq_some_iff.mp H
   obtain ⟨t192, A60, H⟩ := H
   replace H : (if (wrap64 (rd l0 a1)) ≥ 194 then (if (wrap64 (rd l0 a1)) < 224 then (spec_l2Utf8.j0 k l0 a1 (wrap64 (rd l0 a1)) t192 (decide (t192 ≥ 0))) else (spec_l2Utf8.j0 k l0 a1 (wrap64 (rd l0 a1)) t192 false)) else (spec_l2Utf8.j0 k l0 a1 (wrap64 (rd l0 a1)) t192 false)) = some (r1, r2) := H
   have A6 := aM A60
   clear A60
   have HC7 := aM H
   clear H
   (try simp only [c5b0])
   go_upto_region 5 with (first | ((with_reducible refine gate_callee (f := 93) rfl ?_); refine gL_ (some 21) Tryz.func93 #[.slice (some ad191) l0.length c0, .int .i64 (wrap64 (a1 + 1))] ?_; (with_reducible refine (spec_l2More.calls _ _ l0 (wrap64 (a1 + 1)) t192 _ ?side1 ?side2 A6.out).mono ?_); (case side1 => exact z28 HR0.out); (case side2 => exact HC0.out); rintro e w' ⟨rfl, ⟨nd, rfl⟩⟩; refine ⟨_, rfl, ?_⟩))
   (try simp only [Act.put, List.setIfInBounds_toArray, List.set_cons_zero, List.set_cons_succ])
   go_cut [31] (fun v31 wc => ∃ (kq : Nat) (x31_6 : Bool), v31 = .bool x31_6 ∧ Aside0 (spec_l2Utf8.j0 kq l0 a1 (wrap64 (rd l0 a1)) t192 x31_6 = some (r1, r2)) ∧ Aside0 (kq ≤ k) ∧ Drawn0 w wc)
   case first =>
    have H := HC7.out
    clear HC7
    by_cases c8 : (wrap64 (rd l0 a1)) ≥ 194
    ·rw [if_pos c8] at H
     have c8b0 : decide (194 ≤ (wrap64 (rd l0 a1))) = true := decide_eq_true c8
     clear c8
     (first | rw [c8b0] | (simp only [i64_w, i32_w]; rw [c8b0]) | skip)
     by_cases c9 : (wrap64 (rd l0 a1)) < 224
     ·rw [if_pos c9] at H
      have c9b0 : decide ((wrap64 (rd l0 a1)) < 224) = true := decide_eq_true c9
      clear c9
      have H' := aM H
      clear H
      go_wp2
      go_meet
      case rel => exact ⟨_, (decide (t192 ≥ 0)), bS, H', ⟨z29⟩, z1⟩
     rw [if_neg c9] at H
     have c9b0 : decide ((wrap64 (rd l0 a1)) < 224) = false := decide_eq_false c9
     clear c9
     have H' := aM H
     clear H
     go_wp2
     go_meet
     case rel => exact ⟨_, (false), bS, H', ⟨z29⟩, z1⟩
    rw [if_neg c8] at H
    have c8b0 : decide (194 ≤ (wrap64 (rd l0 a1))) = false := decide_eq_false c8
    clear c8
    (first | rw [c8b0] | (simp only [i64_w, i32_w]; rw [c8b0]) | skip)
    have H' := aM H
    clear H
    go_wp2
    go_meet
    case rel => exact ⟨_, (false), bS, H', ⟨z29⟩, z1⟩
   case rest =>
    clear HC7
    try clear p1
    try clear q1
    try clear hx1
    try clear p2
    try clear c3
    try clear c3b0
    try clear c4
    try clear c4b0
    try clear c5
    try clear c5b0
    try clear p6
    try clear c8
    try clear c8b0
    try clear c9
    try clear c9b0
    try clear hx191_0
    try clear p191
    try clear q191
    obtain ⟨kq, x31_6, rfl, HA, HJ6, ⟨mc6, rfl⟩⟩ := hcut
    cases kq with
    | zero => exact absurd HA.out (by simp [spec_l2Utf8.j0])
    | succ kj6 =>
     have H := HA.out
     clear HA
     simp only [spec_l2Utf8.j0] at H
     by_cases c10 : x31_6 = true
     ·subst c10
      have H1 : (some (wrap64 ((wrap64 ((wrap64 ((wrap64 (rd l0 a1)) - 192)) * 64)) + t192), 2)) = some (r1, r2) := z14
      clear H
      have H := H1
      clear H1
      simp only [Option.some.injEq, Prod.mk.injEq] at H
      obtain ⟨rfl, rfl⟩ := H
      go_wp2
      go_ret2
      exact ⟨bS, z1⟩
     replace c10 := Bool.eq_false_iff.mpr c10
     subst c10
     have H1 : ((spec_l2More.f l0 (wrap64 (a1 + 2))).bind fun t193 => (if (wrap64 (rd l0 a1)) ≥ 224 then (if (wrap64 (rd l0 a1)) < 240 then (if t192 ≥ 0 then (spec_l2Utf8.j1 kj6 (wrap64 (rd l0 a1)) t192 t193 (decide (t193 ≥ 0))) else (spec_l2Utf8.j1 kj6 (wrap64 (rd l0 a1)) t192 t193 false)) else (spec_l2Utf8.j1 kj6 (wrap64 (rd l0 a1)) t192 t193 false)) else (spec_l2Utf8.j1 kj6 (wrap64 (rd l0 a1)) t192 t193 false))) = some (r1, r2) := z5
     clear H
     have H := H1
     clear H1
     replace H := Option.bind_eq_some_iff.mp H
     obtain ⟨t193, A110, H⟩ := H
     replace H : (if (wrap64 (rd l0 a1)) ≥ 224 then (if (wrap64 (rd l0 a1)) < 240 then (if t192 ≥ 0 then (spec_l2Utf8.j1 kj6 (wrap64 (rd l0 a1)) t192 t193 (decide (t193 ≥ 0))) else (spec_l2Utf8.j1 kj6 (wrap64 (rd l0 a1)) t192 t193 false)) else (spec_l2Utf8.j1 kj6 (wrap64 (rd l0 a1)) t192 t193 false)) else (spec_l2Utf8.j1 kj6 (wrap64 (rd l0 a1)) t192 t193 false)) = some (r1, r2) := H
     have A11 := aM A110
     clear A110
     have HC12 := aM H
     clear H
     go_upto_region 8 with (first | ((with_reducible refine gate_callee (f := 93) rfl ?_); refine gL_ (some 40) Tryz.func93 #[.slice (some ad191) l0.length c0, .int .i64 (wrap64 (a1 + 2))] ?_; (with_reducible refine (spec_l2More.calls _ _ l0 (wrap64 (a1 + 2)) t193 _ ?side1 ?side2 A11.out).mono ?_); (case side1 => exact z28 HR0.out); (case side2 => exact HC0.out); rintro e w' ⟨rfl, ⟨nd, rfl⟩⟩; refine ⟨_, rfl, ?_⟩))
     (try simp only [Act.put, List.setIfInBounds_toArray, List.set_cons_zero, List.set_cons_succ])
     go_cut [54] (fun v54 wc => ∃ (kq : Nat) (x54_11 : Bool), v54 = .bool x54_11 ∧ Aside0 (spec_l2Utf8.j1 kq (wrap64 (rd l0 a1)) t192 t193 x54_11 = some (r1, r2)) ∧ Aside0 (kq ≤ kj6) ∧ Drawn0 w wc)
     case first =>
      have H := HC12.out
      clear HC12
      by_cases c13 : (wrap64 (rd l0 a1)) ≥ 224
      ·rw [if_pos c13] at H
       have c13b0 : decide (224 ≤ (wrap64 (rd l0 a1))) = true := decide_eq_true c13
       clear c13
       (first | rw [c13b0] | (simp only [i64_w, i32_w]; rw [c13b0]) | skip)
       by_cases c14 : (wrap64 (rd l0 a1)) < 240
       ·rw [if_pos c14] at H
        have c14b0 : decide ((wrap64 (rd l0 a1)) < 240) = true := decide_eq_true c14
        clear c14
        by_cases c15 : t192 ≥ 0
        ·rw [if_pos c15] at H
         have c15b0 : decide (0 ≤ t192) = true := decide_eq_true c15
         clear c15
         have H' := aM H
         clear H
         go_wp2
         go_meet
         case rel => exact ⟨_, (decide (t193 ≥ 0)), bS, H', ⟨z27 HJ6.out⟩, z1⟩
        rw [if_neg c15] at H
        have c15b0 : decide (0 ≤ t192) = false := decide_eq_false c15
        clear c15
        have H' := aM H
        clear H
        go_wp2
        go_meet
        case rel => exact ⟨_, (false), bS, H', ⟨z27 HJ6.out⟩, z1⟩
       rw [if_neg c14] at H
       have c14b0 : decide ((wrap64 (rd l0 a1)) < 240) = false := decide_eq_false c14
       clear c14
       have H' := aM H
       clear H
       go_wp2
       go_meet
       case rel => exact ⟨_, (false), bS, H', ⟨z27 HJ6.out⟩, z1⟩
      rw [if_neg c13] at H
      have c13b0 : decide (224 ≤ (wrap64 (rd l0 a1))) = false := decide_eq_false c13
      clear c13
      (first | rw [c13b0] | (simp only [i64_w, i32_w]; rw [c13b0]) | skip)
      have H' := aM H
      clear H
      go_wp2
      go_meet
      case rel => exact ⟨_, (false), bS, H', ⟨z27 HJ6.out⟩, z1⟩
     case rest =>
      clear HC12
      try clear c1
      try clear p1
      try clear q1
      try clear hx1
      try clear p2
      try clear c3
      try clear c3b0
      try clear c4
      try clear c4b0
      try clear c5
      try clear c5b0
      try clear c6
      try clear p6
      try clear c8
      try clear c8b0
      try clear c9
      try clear c9b0
      try clear c10
      try clear c13
      try clear c13b0
      try clear c14
      try clear c14b0
      try clear c15
      try clear c15b0
      try clear hx191_0
      try clear p1
      try clear p191
      try clear p2
      try clear p6
      try clear q1
      try clear q191
      obtain ⟨kq, x54_11, rfl, HA, HJ11, ⟨mc11, rfl⟩⟩ := hcut
      cases kq with
      | zero => exact absurd HA.out (by simp [spec_l2Utf8.j1])
      | succ kj11 =>
       have H := HA.out
       clear HA
       simp only [spec_l2Utf8.j1] at H
       by_cases c16 : x54_11 = true
       ·subst c16
        have H1 : (if (wrap64 ((wrap64 ((wrap64 ((wrap64 ((wrap64 (rd l0 a1)) - 224)) * 4096)) + (wrap64 (t192 * 64)))) + t193)) ≥ 2048 then ((spec_l2Char.f (wrap64 ((wrap64 ((wrap64 ((wrap64 ((wrap64 (rd l0 a1)) - 224)) * 4096)) + (wrap64 (t192 * 64)))) + t193))).bind fun t194 => (if t194 = true then (some (wrap64 ((wrap64 ((wrap64 ((wrap64 ((wrap64 (rd l0 a1)) - 224)) * 4096)) + (wrap64 (t192 * 64)))) + t193), 3)) else (some (0, 0)))) else (some (0, 0))) = some (r1, r2) := z14
        clear H
        have H := H1
        clear H1
        by_cases c17 : (wrap64 ((wrap64 ((wrap64 ((wrap64 ((wrap64 (rd l0 a1)) - 224)) * 4096)) + (wrap64 (t192 * 64)))) + t193)) ≥ 2048
        ·rw [if_pos c17] at H
         have c17b0 : decide (2048 ≤ (wrap64 ((wrap64 ((wrap64 ((wrap64 ((wrap64 (rd l0 a1)) - 224)) * 4096)) + (wrap64 (t192 * 64)))) + t193))) = true := decide_eq_true c17
         clear c17
         replace H := Option.bind_eq_some_iff.mp H
         obtain ⟨t194, A180, H⟩ := H
         replace H : (if t194 = true then (some (wrap64 ((wrap64 ((wrap64 ((wrap64 ((wrap64 (rd l0 a1)) - 224)) * 4096)) + (wrap64 (t192 * 64)))) + t193), 3)) else (some (0, 0))) = some (r1, r2) := H
         have A18 := aM A180
         clear A180
         by_cases c19 : t194 = true
         ·subst c19
          have H1 : (some (wrap64 ((wrap64 ((wrap64 ((wrap64 ((wrap64 (rd l0 a1)) - 224)) * 4096)) + (wrap64 (t192 * 64)))) + t193), 3)) = some (r1, r2) := z14
          clear H
          have H := H1
          clear H1
          simp only [Option.some.injEq, Prod.mk.injEq] at H
          obtain ⟨rfl, rfl⟩ := H
          go_wp2_with (first | (go_at_call 62; (with_reducible refine (spec_l2Char.calls (wrap64 ((wrap64 ((wrap64 ((wrap64 ((wrap64 (rd l0 a1)) - 224)) * 4096)) + (wrap64 (t192 * 64)))) + t193)) true _ A18.out).mono ?_); rintro e w' ⟨rfl, ⟨nd, rfl⟩⟩))
          go_ret2
          exact ⟨bS, z1⟩
         replace c19 := Bool.eq_false_iff.mpr c19
         subst c19
         have H1 : (some (0, 0)) = some (r1, r2) := z5
         clear H
         have H := H1
         clear H1
         simp only [Option.some.injEq, Prod.mk.injEq] at H
         obtain ⟨rfl, rfl⟩ := H
         go_wp2_with (first | (go_at_call 62; (with_reducible refine (spec_l2Char.calls (wrap64 ((wrap64 ((wrap64 ((wrap64 ((wrap64 (rd l0 a1)) - 224)) * 4096)) + (wrap64 (t192 * 64)))) + t193)) false _ A18.out).mono ?_); rintro e w' ⟨rfl, ⟨nd, rfl⟩⟩))
         go_ret2
         exact ⟨bS, z1⟩
        rw [if_neg c17] at H
        have c17b0 : decide (2048 ≤ (wrap64 ((wrap64 ((wrap64 ((wrap64 ((wrap64 (rd l0 a1)) - 224)) * 4096)) + (wrap64 (t192 * 64)))) + t193))) = false := decide_eq_false c17
        clear c17
        simp only [Option.some.injEq, Prod.mk.injEq] at H
        obtain ⟨rfl, rfl⟩ := H
        go_wp2
        go_ret2
        exact ⟨bS, z1⟩
       replace c16 := Bool.eq_false_iff.mpr c16
       subst c16
       have H1 : (some (0, 0)) = some (r1, r2) := z5
       clear H
       have H := H1
       clear H1
       simp only [Option.some.injEq, Prod.mk.injEq] at H
       obtain ⟨rfl, rfl⟩ := H
       go_wp2
       go_ret2
       exact ⟨bS, z1⟩
  rw [if_neg c4] at H
  exact absurd H (by simp)
 rw [if_neg c3] at H
 exact absurd H (by simp)
def spec_l2Cyrillic.j0 : Nat → Int → Bool → Option (Int)
 | 0, _, _ => none
 | k + 1, x0, x3 => if x3 = true then (some x0) else (if x0 = 167 then (some 253) else (if x0 = 8470 then (some 240) else ((spec_l1In.f x0 1025 1119).bind fun t196 => (if t196 = true then (if x0 = 1037 then (some (-1)) else (if x0 = 1104 then (some (-1)) else (if x0 = 1117 then (some (-1)) else (some (wrap64 (x0 - 864)))))) else (some (-1))))))
def spec_l2Cyrillic.f (k : Nat) (a0 : Int) : Option (Int) := (spec_l1In.f a0 0 160).bind fun t195 => (if t195 = true then (spec_l2Cyrillic.j0 k a0 true) else (spec_l2Cyrillic.j0 k a0 (a0 == 173)))
set_option maxHeartbeats 8000000 in
set_option maxRecDepth 100000 in
theorem spec_l2Cyrillic.calls (k : Nat) (a0 : Int) (r : Int) (w : World) (h : spec_l2Cyrillic.f k a0 = some r) :
  Calls Tryz.prog 127 #[.int .i64 a0] w fun e w' => e = .returned (.int .i64 r) ∧ Drawn0 w w' := by
 have H : ((spec_l1In.f a0 0 160).bind fun t195 => (if t195 = true then (spec_l2Cyrillic.j0 k a0 true) else (spec_l2Cyrillic.j0 k a0 (a0 == 173)))) = some r := h
 clear h
 have HC2 := aM H
 clear H
 go_enter Tryz.func127, Tryz.ntmps127
 go_upto_region 1 with (fail)
 go_cut [3] (fun v3 wc => ∃ (kq : Nat) (x3_1 : Bool), v3 = .bool x3_1 ∧ Aside0 (spec_l2Cyrillic.j0 kq a0 x3_1 = some r) ∧ Aside0 (kq ≤ k) ∧ Drawn0 w wc)
 case first =>
  have H := HC2.out
  clear HC2
  replace H := Option.bind_eq_some_iff.mp H
  obtain ⟨t195, A30, H⟩ := H
  replace H : (if t195 = true then (spec_l2Cyrillic.j0 k a0 true) else (spec_l2Cyrillic.j0 k a0 (a0 == 173))) = some r := H
  have A3 := aM A30
  clear A30
  by_cases c4 : t195 = true
  ·subst c4
   have H1 : (spec_l2Cyrillic.j0 k a0 true) = some r := z14
   clear H
   have H := H1
   clear H1
   have H' := aM H
   clear H
   go_wp2_with (first | ((with_reducible refine gate_callee (f := 96) rfl ?_); refine gL_ (some 5) Tryz.func96 #[.int .i64 a0, .int .i64 0, .int .i64 160] ?_; (with_reducible refine (spec_l1In.calls a0 0 160 true _ A3.out).mono ?_); rintro e w' ⟨rfl, ⟨nd, rfl⟩⟩; refine ⟨_, rfl, ?_⟩))
   go_meet
   case rel => exact ⟨_, (true), bS, H', ⟨z29⟩, z1⟩
  replace c4 := Bool.eq_false_iff.mpr c4
  subst c4
  have H1 : (spec_l2Cyrillic.j0 k a0 (a0 == 173)) = some r := z5
  clear H
  have H := H1
  clear H1
  have H' := aM H
  clear H
  go_wp2_with (first | ((with_reducible refine gate_callee (f := 96) rfl ?_); refine gL_ (some 5) Tryz.func96 #[.int .i64 a0, .int .i64 0, .int .i64 160] ?_; (with_reducible refine (spec_l1In.calls a0 0 160 false _ A3.out).mono ?_); rintro e w' ⟨rfl, ⟨nd, rfl⟩⟩; refine ⟨_, rfl, ?_⟩))
  go_meet
  case rel => exact ⟨_, ((a0 == 173)), bS, H', ⟨z29⟩, z1⟩
 case rest =>
  clear HC2
  try clear c1
  try clear p2
  try clear c4
  obtain ⟨kq, x3_1, rfl, HA, HJ1, ⟨mc1, rfl⟩⟩ := hcut
  cases kq with
  | zero => exact absurd HA.out (by simp [spec_l2Cyrillic.j0])
  | succ kj1 =>
   have H := HA.out
   clear HA
   simp only [spec_l2Cyrillic.j0] at H
   by_cases c5 : x3_1 = true
   ·subst c5
    have H1 : (some a0) = some r := z14
    clear H
    have H := H1
    clear H1
    obtain rfl := Option.some.inj H
    go_wp2
    go_ret
    exact ⟨bS, z1⟩
   replace c5 := Bool.eq_false_iff.mpr c5
   subst c5
   have H1 : (if a0 = 167 then (some 253) else (if a0 = 8470 then (some 240) else ((spec_l1In.f a0 1025 1119).bind fun t196 => (if t196 = true then (if a0 = 1037 then (some (-1)) else (if a0 = 1104 then (some (-1)) else (if a0 = 1117 then (some (-1)) else (some (wrap64 (a0 - 864)))))) else (some (-1)))))) = some r := z5
   clear H
   have H := H1
   clear H1
   by_cases c6 : a0 = 167
   ·rw [if_pos c6] at H
    have c6b0 : (a0 == 167) = true := beq_iff_eq.mpr c6
    have c6b1 : (a0 != 167) = false := bne_eq_false_iff_eq.mpr c6
    clear c6
    obtain rfl := Option.some.inj H
    go_wp2
    go_ret
    exact ⟨bS, z1⟩
   rw [if_neg c6] at H
   have c6b0 : (a0 == 167) = false := beq_eq_false_iff_ne.mpr c6
   have c6b1 : (a0 != 167) = true := bne_iff_ne.mpr c6
   by_cases c7 : a0 = 8470
   ·rw [if_pos c7] at H
    have c7b0 : (a0 == 8470) = true := beq_iff_eq.mpr c7
    have c7b1 : (a0 != 8470) = false := bne_eq_false_iff_eq.mpr c7
    clear c7
    obtain rfl := Option.some.inj H
    go_wp2
    go_ret
    exact ⟨bS, z1⟩
   rw [if_neg c7] at H
   have c7b0 : (a0 == 8470) = false := beq_eq_false_iff_ne.mpr c7
   have c7b1 : (a0 != 8470) = true := bne_iff_ne.mpr c7
   replace H := Option.bind_eq_some_iff.mp H
   obtain ⟨t196, A80, H⟩ := H
   replace H : (if t196 = true then (if a0 = 1037 then (some (-1)) else (if a0 = 1104 then (some (-1)) else (if a0 = 1117 then (some (-1)) else (some (wrap64 (a0 - 864)))))) else (some (-1))) = some r := H
   have A8 := aM A80
   clear A80
   by_cases c9 : t196 = true
   ·subst c9
    have H1 : (if a0 = 1037 then (some (-1)) else (if a0 = 1104 then (some (-1)) else (if a0 = 1117 then (some (-1)) else (some (wrap64 (a0 - 864)))))) = some r := z14
    clear H
    have H := H1
    clear H1
    by_cases c10 : a0 = 1037
    ·rw [if_pos c10] at H
     have c10b0 : (a0 == 1037) = true := beq_iff_eq.mpr c10
     have c10b1 : (a0 != 1037) = false := bne_eq_false_iff_eq.mpr c10
     clear c10
     obtain rfl := Option.some.inj H
     go_wp2_with (first | ((with_reducible refine gate_callee (f := 96) rfl ?_); refine gL_ (some 19) Tryz.func96 #[.int .i64 a0, .int .i64 1025, .int .i64 1119] ?_; (with_reducible refine (spec_l1In.calls a0 1025 1119 true _ A8.out).mono ?_); rintro e w' ⟨rfl, ⟨nd, rfl⟩⟩; refine ⟨_, rfl, ?_⟩))
     go_ret
     exact ⟨bS, z1⟩
    rw [if_neg c10] at H
    have c10b0 : (a0 == 1037) = false := beq_eq_false_iff_ne.mpr c10
    have c10b1 : (a0 != 1037) = true := bne_iff_ne.mpr c10
    by_cases c11 : a0 = 1104
    ·rw [if_pos c11] at H
     have c11b0 : (a0 == 1104) = true := beq_iff_eq.mpr c11
     have c11b1 : (a0 != 1104) = false := bne_eq_false_iff_eq.mpr c11
     clear c11
     obtain rfl := Option.some.inj H
     go_wp2_with (first | ((with_reducible refine gate_callee (f := 96) rfl ?_); refine gL_ (some 19) Tryz.func96 #[.int .i64 a0, .int .i64 1025, .int .i64 1119] ?_; (with_reducible refine (spec_l1In.calls a0 1025 1119 true _ A8.out).mono ?_); rintro e w' ⟨rfl, ⟨nd, rfl⟩⟩; refine ⟨_, rfl, ?_⟩))
     go_ret
     exact ⟨bS, z1⟩
    rw [if_neg c11] at H
    have c11b0 : (a0 == 1104) = false := beq_eq_false_iff_ne.mpr c11
    have c11b1 : (a0 != 1104) = true := bne_iff_ne.mpr c11
    by_cases c12 : a0 = 1117
    ·rw [if_pos c12] at H
     have c12b0 : (a0 == 1117) = true := beq_iff_eq.mpr c12
     have c12b1 : (a0 != 1117) = false := bne_eq_false_iff_eq.mpr c12
     clear c12
     obtain rfl := Option.some.inj H
     go_wp2_with (first | ((with_reducible refine gate_callee (f := 96) rfl ?_); refine gL_ (some 19) Tryz.func96 #[.int .i64 a0, .int .i64 1025, .int .i64 1119] ?_; (with_reducible refine (spec_l1In.calls a0 1025 1119 true _ A8.out).mono ?_); rintro e w' ⟨rfl, ⟨nd, rfl⟩⟩; refine ⟨_, rfl, ?_⟩))
     go_ret
     exact ⟨bS, z1⟩
    rw [if_neg c12] at H
    have c12b0 : (a0 == 1117) = false := beq_eq_false_iff_ne.mpr c12
    have c12b1 : (a0 != 1117) = true := bne_iff_ne.mpr c12
    obtain rfl := Option.some.inj H
    go_wp2_with (first | ((with_reducible refine gate_callee (f := 96) rfl ?_); refine gL_ (some 19) Tryz.func96 #[.int .i64 a0, .int .i64 1025, .int .i64 1119] ?_; (with_reducible refine (spec_l1In.calls a0 1025 1119 true _ A8.out).mono ?_); rintro e w' ⟨rfl, ⟨nd, rfl⟩⟩; refine ⟨_, rfl, ?_⟩))
    go_ret
    exact ⟨bS, z1⟩
   replace c9 := Bool.eq_false_iff.mpr c9
   subst c9
   have H1 : (some (-1)) = some r := z5
   clear H
   have H := H1
   clear H1
   obtain rfl := Option.some.inj H
   go_wp2_with (first | ((with_reducible refine gate_callee (f := 96) rfl ?_); refine gL_ (some 19) Tryz.func96 #[.int .i64 a0, .int .i64 1025, .int .i64 1119] ?_; (with_reducible refine (spec_l1In.calls a0 1025 1119 false _ A8.out).mono ?_); rintro e w' ⟨rfl, ⟨nd, rfl⟩⟩; refine ⟨_, rfl, ?_⟩))
   go_ret
   exact ⟨bS, z1⟩
def spec_l2Has.f (k : Nat) (a0 : Int) (a1 : Int) : Option (Bool) := if a0 = 1 then ((spec_l1In.f a1 0 127).bind fun t197 => (some t197)) else (if a0 = 2 then ((spec_l1In.f a1 0 255).bind fun t198 => (some t198)) else (if a0 = 3 then ((spec_l2Cyrillic.f k a1).bind fun t199 => (some (decide (t199 ≥ 0)))) else (some true)))
set_option maxHeartbeats 8000000 in
set_option maxRecDepth 100000 in
theorem spec_l2Has.calls (k : Nat) (a0 : Int) (a1 : Int) (r : Bool) (w : World) (h : spec_l2Has.f k a0 a1 = some r) :
  Calls Tryz.prog 97 #[.int .i64 a0, .int .i64 a1] w fun e w' => e = .returned (.bool r) ∧ Drawn0 w w' := by
 have H : (if a0 = 1 then ((spec_l1In.f a1 0 127).bind fun t197 => (some t197)) else (if a0 = 2 then ((spec_l1In.f a1 0 255).bind fun t198 => (some t198)) else (if a0 = 3 then ((spec_l2Cyrillic.f k a1).bind fun t199 => (some (decide (t199 ≥ 0)))) else (some true)))) = some r := h
 clear h
 by_cases c3 : a0 = 1
 ·rw [if_pos c3] at H
  have c3b0 : (a0 == 1) = true := beq_iff_eq.mpr c3
  have c3b1 : (a0 != 1) = false := bne_eq_false_iff_eq.mpr c3
  clear c3
  replace H := Option.bind_eq_some_iff.mp H
  obtain ⟨t197, A40, H⟩ := H
  replace H : (some t197) = some r := H
  have A4 := aM A40
  clear A40
  obtain rfl := Option.some.inj H
  go_enter Tryz.func97, Tryz.ntmps97
  go_wp2_with (first | ((with_reducible refine gate_callee (f := 96) rfl ?_); refine gL_ (some 9) Tryz.func96 #[.int .i64 a1, .int .i64 0, .int .i64 127] ?_; (with_reducible refine (spec_l1In.calls a1 0 127 t197 _ A4.out).mono ?_); rintro e w' ⟨rfl, ⟨nd, rfl⟩⟩; refine ⟨_, rfl, ?_⟩))
  go_ret
  exact ⟨bS, z1⟩
 rw [if_neg c3] at H
 have c3b0 : (a0 == 1) = false := beq_eq_false_iff_ne.mpr c3
 have c3b1 : (a0 != 1) = true := bne_iff_ne.mpr c3
 by_cases c5 : a0 = 2
 ·rw [if_pos c5] at H
  have c5b0 : (a0 == 2) = true := beq_iff_eq.mpr c5
  have c5b1 : (a0 != 2) = false := bne_eq_false_iff_eq.mpr c5
  clear c5
  replace H := Option.bind_eq_some_iff.mp H
  obtain ⟨t198, A60, H⟩ := H
  replace H : (some t198) = some r := H
  have A6 := aM A60
  clear A60
  obtain rfl := Option.some.inj H
  go_enter Tryz.func97, Tryz.ntmps97
  go_wp2_with (first | ((with_reducible refine gate_callee (f := 96) rfl ?_); refine gL_ (some 13) Tryz.func96 #[.int .i64 a1, .int .i64 0, .int .i64 255] ?_; (with_reducible refine (spec_l1In.calls a1 0 255 t198 _ A6.out).mono ?_); rintro e w' ⟨rfl, ⟨nd, rfl⟩⟩; refine ⟨_, rfl, ?_⟩))
  go_ret
  exact ⟨bS, z1⟩
 rw [if_neg c5] at H
 have c5b0 : (a0 == 2) = false := beq_eq_false_iff_ne.mpr c5
 have c5b1 : (a0 != 2) = true := bne_iff_ne.mpr c5
 by_cases c7 : a0 = 3
 ·rw [if_pos c7] at H
  have c7b0 : (a0 == 3) = true := beq_iff_eq.mpr c7
  have c7b1 : (a0 != 3) = false := bne_eq_false_iff_eq.mpr c7
  clear c7
  replace H := Option.bind_eq_some_iff.mp H
  obtain ⟨t199, A80, H⟩ := H
  replace H : (some (decide (t199 ≥ 0))) = some r := H
  have A8 := aM A80
  clear A80
  obtain rfl := Option.some.inj H
  go_enter Tryz.func97, Tryz.ntmps97
  go_wp2_with (first | ((with_reducible refine gate_callee (f := 127) rfl ?_); refine gL_ (some 17) Tryz.func127 #[.int .i64 a1] ?_; (with_reducible refine (spec_l2Cyrillic.calls k a1 t199 _ A8.out).mono ?_); rintro e w' ⟨rfl, ⟨nd, rfl⟩⟩; refine ⟨_, rfl, ?_⟩))
  go_ret
  exact ⟨bS, z1⟩
 rw [if_neg c7] at H
 have c7b0 : (a0 == 3) = false := beq_eq_false_iff_ne.mpr c7
 have c7b1 : (a0 != 3) = true := bne_iff_ne.mpr c7
 obtain rfl := Option.some.inj H
 go_enter Tryz.func97, Tryz.ntmps97
 go_wp2
 go_ret
 exact ⟨bS, z1⟩
mutual
def spec_l2Single.j0 : Nat → Int → Int → Bool → Option (Int)
 | 0, _, _, _ => none
 | k + 1, x0, x1, x10 => if x10 = true then (some 167) else (if x0 = 3 then (spec_l2Single.j1 k x0 x1 (x1 == 240)) else (spec_l2Single.j1 k x0 x1 false))
def spec_l2Single.j1 : Nat → Int → Int → Bool → Option (Int)
 | 0, _, _, _ => none
 | k + 1, x0, x1, x16 => if x16 = true then (some 8470) else (if x0 = 3 then (if x1 > 160 then (spec_l2Single.j2 k x0 x1 (x1 != 173)) else (spec_l2Single.j2 k x0 x1 false)) else (spec_l2Single.j2 k x0 x1 false))
def spec_l2Single.j2 : Nat → Int → Int → Bool → Option (Int)
 | 0, _, _, _ => none
 | k + 1, x0, x1, x26 => if x26 = true then ((spec_l2Has.f k x0 (wrap64 (x1 + 864))).bind fun t200 => (if t200 = true then (some (wrap64 (x1 + 864))) else (some (-1)))) else ((spec_l2Has.f k x0 x1).bind fun t201 => (if t201 = true then (some x1) else (some (-1))))
end
def spec_l2Single.f (k : Nat) (a0 : Int) (a1 : Int) : Option (Int) := if a0 = 3 then (spec_l2Single.j0 k a0 a1 (a1 == 253)) else (spec_l2Single.j0 k a0 a1 false)
set_option maxHeartbeats 8000000 in
set_option maxRecDepth 100000 in
theorem spec_l2Single.calls (k : Nat) (a0 : Int) (a1 : Int) (r : Int) (w : World) (h : spec_l2Single.f k a0 a1 = some r) :
  Calls Tryz.prog 139 #[.int .i64 a0, .int .i64 a1] w fun e w' => e = .returned (.int .i64 r) ∧ Drawn0 w w' := by
 have H : (if a0 = 3 then (spec_l2Single.j0 k a0 a1 (a1 == 253)) else (spec_l2Single.j0 k a0 a1 false)) = some r := h
 clear h
 have HC3 := aM H
 clear H
 go_enter Tryz.func139, Tryz.ntmps139
 go_upto_region 1 with (fail)
 go_cut [10] (fun v10 wc => ∃ (kq : Nat) (x10_2 : Bool), v10 = .bool x10_2 ∧ Aside0 (spec_l2Single.j0 kq a0 a1 x10_2 = some r) ∧ Aside0 (kq ≤ k) ∧ Drawn0 w wc)
 case first =>
  have H := HC3.out
  clear HC3
  by_cases c4 : a0 = 3
  ·rw [if_pos c4] at H
   have c4b0 : (a0 == 3) = true := beq_iff_eq.mpr c4
   have c4b1 : (a0 != 3) = false := bne_eq_false_iff_eq.mpr c4
   clear c4
   (first | rw [c4b0] | (simp only [i64_w, i32_w]; rw [c4b0]) | skip)
   have H' := aM H
   clear H
   go_wp2
   go_meet
   case rel => exact ⟨_, ((a1 == 253)), bS, H', ⟨z29⟩, z1⟩
  rw [if_neg c4] at H
  have c4b0 : (a0 == 3) = false := beq_eq_false_iff_ne.mpr c4
  have c4b1 : (a0 != 3) = true := bne_iff_ne.mpr c4
  (first | rw [c4b0] | (simp only [i64_w, i32_w]; rw [c4b0]) | skip)
  have H' := aM H
  clear H
  go_wp2
  go_meet
  case rel => exact ⟨_, (false), bS, H', ⟨z29⟩, z1⟩
 case rest =>
  clear HC3
  try clear c1
  try clear p2
  try clear c4
  try clear c4b0
  try clear c4b1
  obtain ⟨kq, x10_2, rfl, HA, HJ2, ⟨mc2, rfl⟩⟩ := hcut
  cases kq with
  | zero => exact absurd HA.out (by simp [spec_l2Single.j0])
  | succ kj2 =>
   have H := HA.out
   clear HA
   simp only [spec_l2Single.j0] at H
   by_cases c5 : x10_2 = true
   ·subst c5
    have H1 : (some 167) = some r := z14
    clear H
    have H := H1
    clear H1
    obtain rfl := Option.some.inj H
    go_wp2
    go_ret
    exact ⟨bS, z1⟩
   replace c5 := Bool.eq_false_iff.mpr c5
   subst c5
   have H1 : (if a0 = 3 then (spec_l2Single.j1 kj2 a0 a1 (a1 == 240)) else (spec_l2Single.j1 kj2 a0 a1 false)) = some r := z5
   clear H
   have H := H1
   clear H1
   have HC6 := aM H
   clear H
   go_upto_region 3 with (fail)
   go_cut [16] (fun v16 wc => ∃ (kq : Nat) (x16_5 : Bool), v16 = .bool x16_5 ∧ Aside0 (spec_l2Single.j1 kq a0 a1 x16_5 = some r) ∧ Aside0 (kq ≤ kj2) ∧ Drawn0 w wc)
   case first =>
    have H := HC6.out
    clear HC6
    by_cases c7 : a0 = 3
    ·rw [if_pos c7] at H
     have c7b0 : (a0 == 3) = true := beq_iff_eq.mpr c7
     have c7b1 : (a0 != 3) = false := bne_eq_false_iff_eq.mpr c7
     clear c7
     (first | rw [c7b0] | (simp only [i64_w, i32_w]; rw [c7b0]) | skip)
     have H' := aM H
     clear H
     go_wp2
     go_meet
     case rel => exact ⟨_, ((a1 == 240)), bS, H', ⟨z27 HJ2.out⟩, z1⟩
    rw [if_neg c7] at H
    have c7b0 : (a0 == 3) = false := beq_eq_false_iff_ne.mpr c7
    have c7b1 : (a0 != 3) = true := bne_iff_ne.mpr c7
    (first | rw [c7b0] | (simp only [i64_w, i32_w]; rw [c7b0]) | skip)
    have H' := aM H
    clear H
    go_wp2
    go_meet
    case rel => exact ⟨_, (false), bS, H', ⟨z27 HJ2.out⟩, z1⟩
   case rest =>
    clear HC6
    try clear c1
    try clear c2
    try clear p2
    try clear c4
    try clear c4b0
    try clear c4b1
    try clear c5
    try clear c7
    try clear c7b0
    try clear c7b1
    try clear p2
    obtain ⟨kq, x16_5, rfl, HA, HJ5, ⟨mc5, rfl⟩⟩ := hcut
    cases kq with
    | zero => exact absurd HA.out (by simp [spec_l2Single.j1])
    | succ kj5 =>
     have H := HA.out
     clear HA
     simp only [spec_l2Single.j1] at H
     by_cases c8 : x16_5 = true
     ·subst c8
      have H1 : (some 8470) = some r := z14
      clear H
      have H := H1
      clear H1
      obtain rfl := Option.some.inj H
      go_wp2
      go_ret
      exact ⟨bS, z1⟩
     replace c8 := Bool.eq_false_iff.mpr c8
     subst c8
     have H1 : (if a0 = 3 then (if a1 > 160 then (spec_l2Single.j2 kj5 a0 a1 (a1 != 173)) else (spec_l2Single.j2 kj5 a0 a1 false)) else (spec_l2Single.j2 kj5 a0 a1 false)) = some r := z5
     clear H
     have H := H1
     clear H1
     have HC9 := aM H
     clear H
     go_upto_region 5 with (fail)
     go_cut [26] (fun v26 wc => ∃ (kq : Nat) (x26_8 : Bool), v26 = .bool x26_8 ∧ Aside0 (spec_l2Single.j2 kq a0 a1 x26_8 = some r) ∧ Aside0 (kq ≤ kj5) ∧ Drawn0 w wc)
     case first =>
      have H := HC9.out
      clear HC9
      by_cases c10 : a0 = 3
      ·rw [if_pos c10] at H
       have c10b0 : (a0 == 3) = true := beq_iff_eq.mpr c10
       have c10b1 : (a0 != 3) = false := bne_eq_false_iff_eq.mpr c10
       clear c10
       (first | rw [c10b0] | (simp only [i64_w, i32_w]; rw [c10b0]) | skip)
       by_cases c11 : a1 > 160
       ·rw [if_pos c11] at H
        have c11b0 : decide (160 < a1) = true := decide_eq_true c11
        clear c11
        have H' := aM H
        clear H
        go_wp2
        go_meet
        case rel => exact ⟨_, ((a1 != 173)), bS, H', ⟨z20 HJ2.out HJ5.out⟩, z1⟩
       rw [if_neg c11] at H
       have c11b0 : decide (160 < a1) = false := decide_eq_false c11
       clear c11
       have H' := aM H
       clear H
       go_wp2
       go_meet
       case rel => exact ⟨_, (false), bS, H', ⟨z20 HJ2.out HJ5.out⟩, z1⟩
      rw [if_neg c10] at H
      have c10b0 : (a0 == 3) = false := beq_eq_false_iff_ne.mpr c10
      have c10b1 : (a0 != 3) = true := bne_iff_ne.mpr c10
      (first | rw [c10b0] | (simp only [i64_w, i32_w]; rw [c10b0]) | skip)
      have H' := aM H
      clear H
      go_wp2
      go_meet
      case rel => exact ⟨_, (false), bS, H', ⟨z20 HJ2.out HJ5.out⟩, z1⟩
     case rest =>
      clear HC9
      try clear c1
      try clear c2
      try clear p2
      try clear c4
      try clear c4b0
      try clear c4b1
      try clear c5
      try clear c7
      try clear c7b0
      try clear c7b1
      try clear c8
      try clear c10
      try clear c10b0
      try clear c10b1
      try clear c11
      try clear c11b0
      try clear p2
      obtain ⟨kq, x26_8, rfl, HA, HJ8, ⟨mc8, rfl⟩⟩ := hcut
      cases kq with
      | zero => exact absurd HA.out (by simp [spec_l2Single.j2])
      | succ kj8 =>
       have H := HA.out
       clear HA
       simp only [spec_l2Single.j2] at H
       by_cases c12 : x26_8 = true
       ·subst c12
        have H1 : ((spec_l2Has.f kj8 a0 (wrap64 (a1 + 864))).bind fun t200 => (if t200 = true then (some (wrap64 (a1 + 864))) else (some (-1)))) = some r := z14
        clear H
        have H := H1
        clear H1
        replace H := Option.bind_eq_some_iff.mp H
        obtain ⟨t200, A130, H⟩ := H
        replace H : (if t200 = true then (some (wrap64 (a1 + 864))) else (some (-1))) = some r := H
        have A13 := aM A130
        clear A130
        by_cases c14 : t200 = true
        ·subst c14
         have H1 : (some (wrap64 (a1 + 864))) = some r := z14
         clear H
         have H := H1
         clear H1
         obtain rfl := Option.some.inj H
         go_wp2_with (first | ((with_reducible refine gate_callee (f := 97) rfl ?_); refine gL_ (some 31) Tryz.func97 #[.int .i64 a0, .int .i64 (wrap64 (a1 + 864))] ?_; (with_reducible refine (spec_l2Has.calls kj8 a0 (wrap64 (a1 + 864)) true _ A13.out).mono ?_); rintro e w' ⟨rfl, ⟨nd, rfl⟩⟩; refine ⟨_, rfl, ?_⟩))
         go_ret
         exact ⟨bS, z1⟩
        replace c14 := Bool.eq_false_iff.mpr c14
        subst c14
        have H1 : (some (-1)) = some r := z5
        clear H
        have H := H1
        clear H1
        obtain rfl := Option.some.inj H
        go_wp2_with (first | ((with_reducible refine gate_callee (f := 97) rfl ?_); refine gL_ (some 31) Tryz.func97 #[.int .i64 a0, .int .i64 (wrap64 (a1 + 864))] ?_; (with_reducible refine (spec_l2Has.calls kj8 a0 (wrap64 (a1 + 864)) false _ A13.out).mono ?_); rintro e w' ⟨rfl, ⟨nd, rfl⟩⟩; refine ⟨_, rfl, ?_⟩))
        go_ret
        exact ⟨bS, z1⟩
       replace c12 := Bool.eq_false_iff.mpr c12
       subst c12
       have H1 : ((spec_l2Has.f kj8 a0 a1).bind fun t201 => (if t201 = true then (some a1) else (some (-1)))) = some r := z5
       clear H
       have H := H1
       clear H1
       replace H := Option.bind_eq_some_iff.mp H
       obtain ⟨t201, A150, H⟩ := H
       replace H : (if t201 = true then (some a1) else (some (-1))) = some r := H
       have A15 := aM A150
       clear A150
       by_cases c16 : t201 = true
       ·subst c16
        have H1 : (some a1) = some r := z14
        clear H
        have H := H1
        clear H1
        obtain rfl := Option.some.inj H
        go_wp2_with (first | ((with_reducible refine gate_callee (f := 97) rfl ?_); refine gL_ (some 31) Tryz.func97 #[.int .i64 a0, .int .i64 a1] ?_; (with_reducible refine (spec_l2Has.calls kj8 a0 a1 true _ A15.out).mono ?_); rintro e w' ⟨rfl, ⟨nd, rfl⟩⟩; refine ⟨_, rfl, ?_⟩))
        go_ret
        exact ⟨bS, z1⟩
       replace c16 := Bool.eq_false_iff.mpr c16
       subst c16
       have H1 : (some (-1)) = some r := z5
       clear H
       have H := H1
       clear H1
       obtain rfl := Option.some.inj H
       go_wp2_with (first | ((with_reducible refine gate_callee (f := 97) rfl ?_); refine gL_ (some 31) Tryz.func97 #[.int .i64 a0, .int .i64 a1] ?_; (with_reducible refine (spec_l2Has.calls kj8 a0 a1 false _ A15.out).mono ?_); rintro e w' ⟨rfl, ⟨nd, rfl⟩⟩; refine ⟨_, rfl, ?_⟩))
       go_ret
       exact ⟨bS, z1⟩
def spec_l2One.f (k : Nat) (a0 : Int) (l1 : List Int) (a2 : Int) : Option (Int × Int) := if a0 = 4 then ((spec_l2Utf8.f k l1 a2).bind fun bt202 => (some (bt202.1, bt202.2))) else (if a0 = 5 then (if (wrap64 (a2 + 1)) ≥ (l1.length : Int) then (some (0, 0)) else (if 0 ≤ a2 then (if a2 < (l1.length : Int) then (if 0 ≤ (wrap64 (a2 + 1)) then (if (wrap64 (a2 + 1)) < (l1.length : Int) then ((spec_l2Char.f (wrap64 ((wrap64 ((wrap64 (rd l1 a2)) * 256)) + (wrap64 (rd l1 (wrap64 (a2 + 1))))))).bind fun t206 => (if t206 = true then (some (wrap64 ((wrap64 ((wrap64 (rd l1 a2)) * 256)) + (wrap64 (rd l1 (wrap64 (a2 + 1))))), 2)) else (some (0, 0)))) else (none)) else (none)) else (none)) else (none))) else (if 0 ≤ a2 then (if a2 < (l1.length : Int) then ((spec_l2Single.f k a0 (wrap64 (rd l1 a2))).bind fun t208 => (if t208 < 0 then (some (0, 0)) else (some (t208, 1)))) else (none)) else (none)))
set_option maxHeartbeats 8000000 in
set_option maxRecDepth 100000 in
theorem spec_l2One.calls (k : Nat) (a0 : Int) (A1 : Option Addr) (c1 : Nat) (l1 : List Int) (a2 : Int) (r1 : Int) (r2 : Int) (w : World) (hr1 : Kd.C (Kd.int .u8) w A1 l1.length l1) (hc1 : l1.length ≤ c1) (h : spec_l2One.f k a0 l1 a2 = some (r1, r2)) :
  Calls Tryz.prog 122 #[.int .i64 a0, .slice A1 l1.length c1, .int .i64 a2] w fun e w' => e = .returned (.tuple #[.int .i64 r1, .int .i64 r2]) ∧ Drawn0 w w' := by
 have HR1 := aM hr1
 have HC1 := aM hc1
 clear hr1 hc1
 have H : (if a0 = 4 then ((spec_l2Utf8.f k l1 a2).bind fun bt202 => (some (bt202.1, bt202.2))) else (if a0 = 5 then (if (wrap64 (a2 + 1)) ≥ (l1.length : Int) then (some (0, 0)) else (if 0 ≤ a2 then (if a2 < (l1.length : Int) then (if 0 ≤ (wrap64 (a2 + 1)) then (if (wrap64 (a2 + 1)) < (l1.length : Int) then ((spec_l2Char.f (wrap64 ((wrap64 ((wrap64 (rd l1 a2)) * 256)) + (wrap64 (rd l1 (wrap64 (a2 + 1))))))).bind fun t206 => (if t206 = true then (some (wrap64 ((wrap64 ((wrap64 (rd l1 a2)) * 256)) + (wrap64 (rd l1 (wrap64 (a2 + 1))))), 2)) else (some (0, 0)))) else (none)) else (none)) else (none)) else (none))) else (if 0 ≤ a2 then (if a2 < (l1.length : Int) then ((spec_l2Single.f k a0 (wrap64 (rd l1 a2))).bind fun t208 => (if t208 < 0 then (some (0, 0)) else (some (t208, 1)))) else (none)) else (none)))) = some (r1, r2) := h
 clear h
 by_cases c4 : a0 = 4
 ·rw [if_pos c4] at H
  have c4b0 : (a0 == 4) = true := beq_iff_eq.mpr c4
  have c4b1 : (a0 != 4) = false := bne_eq_false_iff_eq.mpr c4
  clear c4
  replace H := Option.bind_eq_some_iff.mp H
  obtain ⟨⟨t202, t203⟩, A50, H⟩ := H
  replace H : (some (t202, t203)) = some (r1, r2) := H
  have A5 := aM A50
  clear A50
  simp only [Option.some.injEq, Prod.mk.injEq] at H
  obtain ⟨rfl, rfl⟩ := H
  go_enter Tryz.func122, Tryz.ntmps122
  iterate 8 (go_wp2_with (first | (go_at_call 57; (with_reducible refine (spec_l2Utf8.calls k _ _ l1 a2 t202 t203 _ ?side1 ?side2 A5.out).mono ?_); (case side1 => exact z28 HR1.out); (case side2 => exact HC1.out); rintro e w' ⟨rfl, ⟨nd, rfl⟩⟩; (try first | exact ⟨rfl, _, World.drewN_drewN _ _ _⟩ | exact ⟨rfl, _, Eq.trans (World.drewN_drewN _ _ _) (congrArg (World.drewN _) (Nat.add_assoc _ _ _))⟩))); try go_quiet (first | (go_at_call 57; (with_reducible refine (spec_l2Utf8.calls k _ _ l1 a2 t202 t203 _ ?side1 ?side2 A5.out).mono ?_); (case side1 => exact z28 HR1.out); (case side2 => exact HC1.out); rintro e w' ⟨rfl, ⟨nd, rfl⟩⟩; (try first | exact ⟨rfl, _, World.drewN_drewN _ _ _⟩ | exact ⟨rfl, _, Eq.trans (World.drewN_drewN _ _ _) (congrArg (World.drewN _) (Nat.add_assoc _ _ _))⟩))))
  go_ret2
  exact ⟨bS, z1⟩
 rw [if_neg c4] at H
 have c4b0 : (a0 == 4) = false := beq_eq_false_iff_ne.mpr c4
 have c4b1 : (a0 != 4) = true := bne_iff_ne.mpr c4
 by_cases c6 : a0 = 5
 ·rw [if_pos c6] at H
  have c6b0 : (a0 == 5) = true := beq_iff_eq.mpr c6
  have c6b1 : (a0 != 5) = false := bne_eq_false_iff_eq.mpr c6
  clear c6
  by_cases c7 : (wrap64 (a2 + 1)) ≥ (l1.length : Int)
  ·rw [if_pos c7] at H
   have c7b0 : decide ((l1.length : Int) ≤ (wrap64 (a2 + 1))) = true := decide_eq_true c7
   clear c7
   simp only [Option.some.injEq, Prod.mk.injEq] at H
   obtain ⟨rfl, rfl⟩ := H
   go_enter Tryz.func122, Tryz.ntmps122
   go_wp2
   repeat (go_quiet (fail); try go_wp2)
   go_ret2
   exact ⟨bS, z1⟩
  rw [if_neg c7] at H
  have c7b0 : decide ((l1.length : Int) ≤ (wrap64 (a2 + 1))) = false := decide_eq_false c7
  clear c7
  by_cases c8 : 0 ≤ a2
  ·rw [if_pos c8] at H
   have c8b0 : decide (0 ≤ a2) = true := decide_eq_true c8
   clear c8
   by_cases c9 : a2 < (l1.length : Int)
   ·rw [if_pos c9] at H
    have c9b0 : decide (a2 < (l1.length : Int)) = true := decide_eq_true c9
    clear c9
    obtain ⟨ji10, hji10⟩ : ∃ j_ : Int, (wrap64 (a2 + 1)) = j_ := ⟨_, rfl⟩
    replace H : (if 0 ≤ (ji10) then (if (ji10) < (l1.length : Int) then ((spec_l2Char.f (wrap64 ((wrap64 ((wrap64 (rd l1 a2)) * 256)) + (wrap64 (rd l1 (ji10)))))).bind fun t206 => (if t206 = true then (some (wrap64 ((wrap64 ((wrap64 (rd l1 a2)) * 256)) + (wrap64 (rd l1 (ji10)))), 2)) else (some (0, 0)))) else (none)) else (none)) = some (r1, r2) := by first | (rw [hji10] at H; exact H) | (simp only [hji10] at H ⊢; exact H)
    (try rw [hji10] at c7b0)
    have hji10w : (IntKind.i64.wrap (a2 + 1)) = ji10 := (i64_w _).trans hji10
    by_cases c11 : 0 ≤ (ji10)
    ·rw [if_pos c11] at H
     have c11b0 : decide (0 ≤ (ji10)) = true := decide_eq_true c11
     clear c11
     by_cases c12 : (ji10) < (l1.length : Int)
     ·rw [if_pos c12] at H
      have c12b0 : decide ((ji10) < (l1.length : Int)) = true := decide_eq_true c12
      clear c12
      replace H := Option.bind_eq_some_iff.mp H
      obtain ⟨t206, A130, H⟩ := H
      replace H : (if t206 = true then (some (wrap64 ((wrap64 ((wrap64 (rd l1 a2)) * 256)) + (wrap64 (rd l1 (ji10)))), 2)) else (some (0, 0))) = some (r1, r2) := H
      have A13 := aM A130
      clear A130
      have HQ_ := aM H
      clear H
      have p204 : 0 ≤ (a2 : Int) := pI
      have q204 : a2 < (l1.length : Int) := pI
      obtain ⟨ad204, e204, hx204_0⟩ := Kd.at_int HR1.out a2 p204 q204
      cases e204
      replace p204 := eq_true p204
      replace q204 := eq_true q204
      have p205 : 0 ≤ ((ji10) : Int) := pI
      have q205 : (ji10) < (l1.length : Int) := pI
      obtain ⟨ad205, e205, hx205_0⟩ := Kd.at_int HR1.out (ji10) p205 q205
      obtain rfl : ad204 = ad205 := (by injection e205)
      replace p205 := eq_true p205
      replace q205 := eq_true q205
      go_enter Tryz.func122, Tryz.ntmps122
      have H := HQ_.out
      clear HQ_
      by_cases c14 : t206 = true
      ·subst c14
       have H1 : (some (wrap64 ((wrap64 ((wrap64 (rd l1 a2)) * 256)) + (wrap64 (rd l1 (ji10)))), 2)) = some (r1, r2) := z14
       clear H
       have H := H1
       clear H1
       simp only [Option.some.injEq, Prod.mk.injEq] at H
       obtain ⟨rfl, rfl⟩ := H
       iterate 8 (go_wp2_with (first | (go_at_call 62; (with_reducible refine (spec_l2Char.calls (wrap64 ((wrap64 ((wrap64 (rd l1 a2)) * 256)) + (wrap64 (rd l1 (ji10))))) true _ A13.out).mono ?_); rintro e w' ⟨rfl, ⟨nd, rfl⟩⟩; (try first | exact ⟨rfl, _, World.drewN_drewN _ _ _⟩ | exact ⟨rfl, _, Eq.trans (World.drewN_drewN _ _ _) (congrArg (World.drewN _) (Nat.add_assoc _ _ _))⟩))); try go_quiet (first | (go_at_call 62; (with_reducible refine (spec_l2Char.calls (wrap64 ((wrap64 ((wrap64 (rd l1 a2)) * 256)) + (wrap64 (rd l1 (ji10))))) true _ A13.out).mono ?_); rintro e w' ⟨rfl, ⟨nd, rfl⟩⟩; (try first | exact ⟨rfl, _, World.drewN_drewN _ _ _⟩ | exact ⟨rfl, _, Eq.trans (World.drewN_drewN _ _ _) (congrArg (World.drewN _) (Nat.add_assoc _ _ _))⟩))))
       go_ret2
       exact ⟨by first | rfl | (simp; done) | (simp only [← hji10] <;> (first | rfl | simp)) | (simp [*]; done), z1⟩
      replace c14 := Bool.eq_false_iff.mpr c14
      subst c14
      have H1 : (some (0, 0)) = some (r1, r2) := z5
      clear H
      have H := H1
      clear H1
      simp only [Option.some.injEq, Prod.mk.injEq] at H
      obtain ⟨rfl, rfl⟩ := H
      iterate 8 (go_wp2_with (first | (go_at_call 62; (with_reducible refine (spec_l2Char.calls (wrap64 ((wrap64 ((wrap64 (rd l1 a2)) * 256)) + (wrap64 (rd l1 (ji10))))) false _ A13.out).mono ?_); rintro e w' ⟨rfl, ⟨nd, rfl⟩⟩; (try first | exact ⟨rfl, _, World.drewN_drewN _ _ _⟩ | exact ⟨rfl, _, Eq.trans (World.drewN_drewN _ _ _) (congrArg (World.drewN _) (Nat.add_assoc _ _ _))⟩))); try go_quiet (first | (go_at_call 62; (with_reducible refine (spec_l2Char.calls (wrap64 ((wrap64 ((wrap64 (rd l1 a2)) * 256)) + (wrap64 (rd l1 (ji10))))) false _ A13.out).mono ?_); rintro e w' ⟨rfl, ⟨nd, rfl⟩⟩; (try first | exact ⟨rfl, _, World.drewN_drewN _ _ _⟩ | exact ⟨rfl, _, Eq.trans (World.drewN_drewN _ _ _) (congrArg (World.drewN _) (Nat.add_assoc _ _ _))⟩))))
      go_ret2
      exact ⟨by first | rfl | (simp; done) | (simp only [← hji10] <;> (first | rfl | simp)) | (simp [*]; done), z1⟩
     rw [if_neg c12] at H
     exact absurd H (by simp)
    rw [if_neg c11] at H
    exact absurd H (by simp)
   rw [if_neg c9] at H
   exact absurd H (by simp)
  rw [if_neg c8] at H
  exact absurd H (by simp)
 rw [if_neg c6] at H
 have c6b0 : (a0 == 5) = false := beq_eq_false_iff_ne.mpr c6
 have c6b1 : (a0 != 5) = true := bne_iff_ne.mpr c6
 by_cases c15 : 0 ≤ a2
 ·rw [if_pos c15] at H
  have c15b0 : decide (0 ≤ a2) = true := decide_eq_true c15
  clear c15
  by_cases c16 : a2 < (l1.length : Int)
  ·rw [if_pos c16] at H
   have c16b0 : decide (a2 < (l1.length : Int)) = true := decide_eq_true c16
   clear c16
   replace H := Option.bind_eq_some_iff.mp H
   obtain ⟨t208, A170, H⟩ := H
   replace H : (if t208 < 0 then (some (0, 0)) else (some (t208, 1))) = some (r1, r2) := H
   have A17 := aM A170
   clear A170
   have HQ_ := aM H
   clear H
   have p207 : 0 ≤ (a2 : Int) := pI
   have q207 : a2 < (l1.length : Int) := pI
   obtain ⟨ad207, e207, hx207_0⟩ := Kd.at_int HR1.out a2 p207 q207
   cases e207
   replace p207 := eq_true p207
   replace q207 := eq_true q207
   go_enter Tryz.func122, Tryz.ntmps122
   have H := HQ_.out
   clear HQ_
   by_cases c18 : t208 < 0
   ·rw [if_pos c18] at H
    have c18b0 : decide (t208 < 0) = true := decide_eq_true c18
    clear c18
    simp only [Option.some.injEq, Prod.mk.injEq] at H
    obtain ⟨rfl, rfl⟩ := H
    (try simp only [c18b0])
    iterate 8 (go_wp2_with (first | (go_at_call 139; (with_reducible refine (spec_l2Single.calls k a0 (wrap64 (rd l1 a2)) t208 _ A17.out).mono ?_); rintro e w' ⟨rfl, ⟨nd, rfl⟩⟩; (try first | exact ⟨rfl, _, World.drewN_drewN _ _ _⟩ | exact ⟨rfl, _, Eq.trans (World.drewN_drewN _ _ _) (congrArg (World.drewN _) (Nat.add_assoc _ _ _))⟩))); try go_quiet (first | (go_at_call 139; (with_reducible refine (spec_l2Single.calls k a0 (wrap64 (rd l1 a2)) t208 _ A17.out).mono ?_); rintro e w' ⟨rfl, ⟨nd, rfl⟩⟩; (try first | exact ⟨rfl, _, World.drewN_drewN _ _ _⟩ | exact ⟨rfl, _, Eq.trans (World.drewN_drewN _ _ _) (congrArg (World.drewN _) (Nat.add_assoc _ _ _))⟩))))
    go_ret2
    exact ⟨bS, z1⟩
   rw [if_neg c18] at H
   have c18b0 : decide (t208 < 0) = false := decide_eq_false c18
   clear c18
   simp only [Option.some.injEq, Prod.mk.injEq] at H
   obtain ⟨rfl, rfl⟩ := H
   (try simp only [c18b0])
   iterate 8 (go_wp2_with (first | (go_at_call 139; (with_reducible refine (spec_l2Single.calls k a0 (wrap64 (rd l1 a2)) t208 _ A17.out).mono ?_); rintro e w' ⟨rfl, ⟨nd, rfl⟩⟩; (try first | exact ⟨rfl, _, World.drewN_drewN _ _ _⟩ | exact ⟨rfl, _, Eq.trans (World.drewN_drewN _ _ _) (congrArg (World.drewN _) (Nat.add_assoc _ _ _))⟩))); try go_quiet (first | (go_at_call 139; (with_reducible refine (spec_l2Single.calls k a0 (wrap64 (rd l1 a2)) t208 _ A17.out).mono ?_); rintro e w' ⟨rfl, ⟨nd, rfl⟩⟩; (try first | exact ⟨rfl, _, World.drewN_drewN _ _ _⟩ | exact ⟨rfl, _, Eq.trans (World.drewN_drewN _ _ _) (congrArg (World.drewN _) (Nat.add_assoc _ _ _))⟩))))
   go_ret2
   exact ⟨bS, z1⟩
  rw [if_neg c16] at H
  exact absurd H (by simp)
 rw [if_neg c15] at H
 exact absurd H (by simp)
end Go.Proofs.YtjopgmjmjnfcjaaGreatDoor.PSubjectOf
