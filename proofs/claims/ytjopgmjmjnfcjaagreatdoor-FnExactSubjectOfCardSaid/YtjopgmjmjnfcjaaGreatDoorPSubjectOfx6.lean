/- Part of the proof; words that it uses. -/
import Derived.Test.YtjopgmjmjnfcjaaGreatDoorPSubjectOfx0
import Derived.Test.YtjopgmjmjnfcjaaGreatDoorPSubjectOfx1
import Derived.Test.YtjopgmjmjnfcjaaGreatDoorPSubjectOfx2
import Derived.Test.YtjopgmjmjnfcjaaGreatDoorPSubjectOfx5
namespace Go.Proofs.YtjopgmjmjnfcjaaGreatDoor.PSubjectOf
open Go.RowKit Go.Proofs.YtjopgmjmjnfcjaaGreatDoorW.PrintWords Go.Proofs.YtjopgmjmjnfcjaaGreatDoorW.PrintLast
set_option linter.unusedVariables false
set_option linter.unusedSimpArgs false
def spec_l4NameByte.f (a0 : Int) : Option (Bool) := if a0 ≥ 97 then (if a0 ≤ 122 then (some true) else (if a0 ≥ 65 then (if a0 ≤ 90 then (some true) else (if a0 ≥ 48 then (if a0 ≤ 57 then (some true) else (some (a0 == 45))) else (some (a0 == 45)))) else (if a0 ≥ 48 then (if a0 ≤ 57 then (some true) else (some (a0 == 45))) else (some (a0 == 45))))) else (if a0 ≥ 65 then (if a0 ≤ 90 then (some true) else (if a0 ≥ 48 then (if a0 ≤ 57 then (some true) else (some (a0 == 45))) else (some (a0 == 45)))) else (if a0 ≥ 48 then (if a0 ≤ 57 then (some true) else (some (a0 == 45))) else (some (a0 == 45))))
set_option maxHeartbeats 8000000 in
set_option maxRecDepth 100000 in
theorem spec_l4NameByte.calls (a0 : Int) (r : Bool) (w : World) (h : spec_l4NameByte.f a0 = some r) :
  Calls Tryz.prog 128 #[.int .u8 a0] w fun e w' => e = .returned (.bool r) ∧ Drawn0 w w' := by
 have H : (if a0 ≥ 97 then (if a0 ≤ 122 then (some true) else (if a0 ≥ 65 then (if a0 ≤ 90 then (some true) else (if a0 ≥ 48 then (if a0 ≤ 57 then (some true) else (some (a0 == 45))) else (some (a0 == 45)))) else (if a0 ≥ 48 then (if a0 ≤ 57 then (some true) else (some (a0 == 45))) else (some (a0 == 45))))) else (if a0 ≥ 65 then (if a0 ≤ 90 then (some true) else (if a0 ≥ 48 then (if a0 ≤ 57 then (some true) else (some (a0 == 45))) else (some (a0 == 45)))) else (if a0 ≥ 48 then (if a0 ≤ 57 then (some true) else (some (a0 == 45))) else (some (a0 == 45))))) = some r := h
 clear h
 by_cases c2 : a0 ≥ 97
 ·rw [if_pos c2] at H
  have c2b0 : decide (97 ≤ a0) = true := decide_eq_true c2
  clear c2
  by_cases c3 : a0 ≤ 122
  ·rw [if_pos c3] at H
   have c3b0 : decide (a0 ≤ 122) = true := decide_eq_true c3
   clear c3
   obtain rfl := Option.some.inj H
   go_enter Tryz.func128, Tryz.ntmps128
   go_wp2
   go_ret
   exact ⟨bS, z1⟩
  rw [if_neg c3] at H
  have c3b0 : decide (a0 ≤ 122) = false := decide_eq_false c3
  clear c3
  by_cases c4 : a0 ≥ 65
  ·rw [if_pos c4] at H
   have c4b0 : decide (65 ≤ a0) = true := decide_eq_true c4
   clear c4
   by_cases c5 : a0 ≤ 90
   ·rw [if_pos c5] at H
    have c5b0 : decide (a0 ≤ 90) = true := decide_eq_true c5
    clear c5
    obtain rfl := Option.some.inj H
    go_enter Tryz.func128, Tryz.ntmps128
    go_wp2
    go_ret
    exact ⟨bS, z1⟩
   rw [if_neg c5] at H
   have c5b0 : decide (a0 ≤ 90) = false := decide_eq_false c5
   clear c5
   by_cases c6 : a0 ≥ 48
   ·rw [if_pos c6] at H
    have c6b0 : decide (48 ≤ a0) = true := decide_eq_true c6
    clear c6
    by_cases c7 : a0 ≤ 57
    ·rw [if_pos c7] at H
     have c7b0 : decide (a0 ≤ 57) = true := decide_eq_true c7
     clear c7
     obtain rfl := Option.some.inj H
     go_enter Tryz.func128, Tryz.ntmps128
     go_wp2
     go_ret
     exact ⟨bS, z1⟩
    rw [if_neg c7] at H
    have c7b0 : decide (a0 ≤ 57) = false := decide_eq_false c7
    clear c7
    obtain rfl := Option.some.inj H
    go_enter Tryz.func128, Tryz.ntmps128
    go_wp2
    go_ret
    exact ⟨bS, z1⟩
   rw [if_neg c6] at H
   have c6b0 : decide (48 ≤ a0) = false := decide_eq_false c6
   clear c6
   obtain rfl := Option.some.inj H
   go_enter Tryz.func128, Tryz.ntmps128
   go_wp2
   go_ret
   exact ⟨bS, z1⟩
  rw [if_neg c4] at H
  have c4b0 : decide (65 ≤ a0) = false := decide_eq_false c4
  clear c4
  by_cases c8 : a0 ≥ 48
  ·rw [if_pos c8] at H
   have c8b0 : decide (48 ≤ a0) = true := decide_eq_true c8
   clear c8
   by_cases c9 : a0 ≤ 57
   ·rw [if_pos c9] at H
    have c9b0 : decide (a0 ≤ 57) = true := decide_eq_true c9
    clear c9
    obtain rfl := Option.some.inj H
    go_enter Tryz.func128, Tryz.ntmps128
    go_wp2
    go_ret
    exact ⟨bS, z1⟩
   rw [if_neg c9] at H
   have c9b0 : decide (a0 ≤ 57) = false := decide_eq_false c9
   clear c9
   obtain rfl := Option.some.inj H
   go_enter Tryz.func128, Tryz.ntmps128
   go_wp2
   go_ret
   exact ⟨bS, z1⟩
  rw [if_neg c8] at H
  have c8b0 : decide (48 ≤ a0) = false := decide_eq_false c8
  clear c8
  obtain rfl := Option.some.inj H
  go_enter Tryz.func128, Tryz.ntmps128
  go_wp2
  go_ret
  exact ⟨bS, z1⟩
 rw [if_neg c2] at H
 have c2b0 : decide (97 ≤ a0) = false := decide_eq_false c2
 clear c2
 by_cases c10 : a0 ≥ 65
 ·rw [if_pos c10] at H
  have c10b0 : decide (65 ≤ a0) = true := decide_eq_true c10
  clear c10
  by_cases c11 : a0 ≤ 90
  ·rw [if_pos c11] at H
   have c11b0 : decide (a0 ≤ 90) = true := decide_eq_true c11
   clear c11
   obtain rfl := Option.some.inj H
   go_enter Tryz.func128, Tryz.ntmps128
   go_wp2
   go_ret
   exact ⟨bS, z1⟩
  rw [if_neg c11] at H
  have c11b0 : decide (a0 ≤ 90) = false := decide_eq_false c11
  clear c11
  by_cases c12 : a0 ≥ 48
  ·rw [if_pos c12] at H
   have c12b0 : decide (48 ≤ a0) = true := decide_eq_true c12
   clear c12
   by_cases c13 : a0 ≤ 57
   ·rw [if_pos c13] at H
    have c13b0 : decide (a0 ≤ 57) = true := decide_eq_true c13
    clear c13
    obtain rfl := Option.some.inj H
    go_enter Tryz.func128, Tryz.ntmps128
    go_wp2
    go_ret
    exact ⟨bS, z1⟩
   rw [if_neg c13] at H
   have c13b0 : decide (a0 ≤ 57) = false := decide_eq_false c13
   clear c13
   obtain rfl := Option.some.inj H
   go_enter Tryz.func128, Tryz.ntmps128
   go_wp2
   go_ret
   exact ⟨bS, z1⟩
  rw [if_neg c12] at H
  have c12b0 : decide (48 ≤ a0) = false := decide_eq_false c12
  clear c12
  obtain rfl := Option.some.inj H
  go_enter Tryz.func128, Tryz.ntmps128
  go_wp2
  go_ret
  exact ⟨bS, z1⟩
 rw [if_neg c10] at H
 have c10b0 : decide (65 ≤ a0) = false := decide_eq_false c10
 clear c10
 by_cases c14 : a0 ≥ 48
 ·rw [if_pos c14] at H
  have c14b0 : decide (48 ≤ a0) = true := decide_eq_true c14
  clear c14
  by_cases c15 : a0 ≤ 57
  ·rw [if_pos c15] at H
   have c15b0 : decide (a0 ≤ 57) = true := decide_eq_true c15
   clear c15
   obtain rfl := Option.some.inj H
   go_enter Tryz.func128, Tryz.ntmps128
   go_wp2
   go_ret
   exact ⟨bS, z1⟩
  rw [if_neg c15] at H
  have c15b0 : decide (a0 ≤ 57) = false := decide_eq_false c15
  clear c15
  obtain rfl := Option.some.inj H
  go_enter Tryz.func128, Tryz.ntmps128
  go_wp2
  go_ret
  exact ⟨bS, z1⟩
 rw [if_neg c14] at H
 have c14b0 : decide (48 ≤ a0) = false := decide_eq_false c14
 clear c14
 obtain rfl := Option.some.inj H
 go_enter Tryz.func128, Tryz.ntmps128
 go_wp2
 go_ret
 exact ⟨bS, z1⟩
def spec_l4Name.l0 : Nat → ByteArray → Int → Option (Bool)
 | 0, _, _ => none
 | k + 1, x0, x3 => if x3 < (x0.size : Int) then (if 0 ≤ x3 then ((spec_l4NameByte.f (bt x0 x3)).bind fun t303 => (if t303 = true then (spec_l4Name.l0 k x0 (wrap64 (x3 + 1))) else (some false))) else (none)) else ((spec_l1In.f (x0.size : Int) 1 30).bind fun t304 => (some t304))
def spec_l4Name.f (k : Nat) (a0 : ByteArray) : Option (Bool) := spec_l4Name.l0 k a0 0
set_option maxHeartbeats 8000000 in
set_option maxRecDepth 100000 in
theorem spec_l4Name.calls (k : Nat) (a0 : ByteArray) (r : Bool) (w : World) (h : spec_l4Name.f k a0 = some r) :
  Calls Tryz.prog 100 #[.string a0] w fun e w' => e = .returned (.bool r) ∧ Drawn0 w w' := by
 have H : (spec_l4Name.l0 k a0 0) = some r := h
 clear h
 have H' := aM H
 clear H
 go_enter Tryz.func100, Tryz.ntmps100
 go_wp2
 go_loopg [3] k (fun kq v3 w' => ∃ (x3_1 : Int), v3 = .int .i64 x3_1 ∧ Aside0 (spec_l4Name.l0 kq a0 x3_1 = some r) ∧ Aside0 (kq ≤ k) ∧ Drawn0 w w')
 case atStart => exact ⟨(0), bS, H', ⟨Nat.le_refl _⟩, z1⟩
 case round =>
  clear H'
  try clear c1
  obtain ⟨x3_1, rfl, HA, HK1, ⟨m1, rfl⟩⟩ := hrel
  cases gk with
  | zero => exact absurd HA.out (by simp [spec_l4Name.l0])
  | succ k1 =>
   have H := HA.out
   clear HA
   simp only [spec_l4Name.l0] at H
   by_cases c2 : x3_1 < (a0.size : Int)
   ·rw [if_pos c2] at H
    have c2b0 : decide (x3_1 < (a0.size : Int)) = true := decide_eq_true c2
    clear c2
    by_cases c3 : 0 ≤ x3_1
    ·rw [if_pos c3] at H
     have c3b0 : decide (0 ≤ x3_1) = true := decide_eq_true c3
     clear c3
     replace H := Option.bind_eq_some_iff.mp H
     obtain ⟨t303, A50, H⟩ := H
     replace H : (if t303 = true then (spec_l4Name.l0 k1 a0 (wrap64 (x3_1 + 1))) else (some false)) = some r := H
     have A5 := aM A50
     clear A50
     by_cases c6 : t303 = true
     ·subst c6
      have H1 : (spec_l4Name.l0 k1 a0 (wrap64 (x3_1 + 1))) = some r := z14
      clear H
      have H := H1
      clear H1
      have H' := aM H
      clear H
      have p4 : 0 ≤ (x3_1 : Int) := pI
      have q4 : x3_1 < (a0.size : Int) := pI
      have hx4 := bt_at a0 x3_1
      replace p4 := eq_true p4
      replace q4 := eq_true q4
      go_wp2_with (first | ((with_reducible refine gate_callee (f := 128) rfl ?_); refine gL_ (some 13) Tryz.func128 #[.int .u8 (bt a0 x3_1)] ?_; (with_reducible refine (spec_l4NameByte.calls (bt a0 x3_1) true _ A5.out).mono ?_); rintro e w' ⟨rfl, ⟨nd, rfl⟩⟩; refine ⟨_, rfl, ?_⟩))
      go_roundg k1
      case measure => have := HK1.out; omega
      case rel => exact ⟨(wrap64 (x3_1 + 1)), bS, H', ⟨by have := HK1.out; omega⟩, z1⟩
     replace c6 := Bool.eq_false_iff.mpr c6
     subst c6
     have H1 : (some false) = some r := z5
     clear H
     have H := H1
     clear H1
     obtain rfl := Option.some.inj H
     have p4 : 0 ≤ (x3_1 : Int) := pI
     have q4 : x3_1 < (a0.size : Int) := pI
     have hx4 := bt_at a0 x3_1
     replace p4 := eq_true p4
     replace q4 := eq_true q4
     go_wp2_with (first | ((with_reducible refine gate_callee (f := 128) rfl ?_); refine gL_ (some 13) Tryz.func128 #[.int .u8 (bt a0 x3_1)] ?_; (with_reducible refine (spec_l4NameByte.calls (bt a0 x3_1) false _ A5.out).mono ?_); rintro e w' ⟨rfl, ⟨nd, rfl⟩⟩; refine ⟨_, rfl, ?_⟩))
     go_ret
     exact ⟨bS, z1⟩
    rw [if_neg c3] at H
    exact absurd H (by simp)
   rw [if_neg c2] at H
   have c2b0 : decide (x3_1 < (a0.size : Int)) = false := decide_eq_false c2
   clear c2
   replace H := Option.bind_eq_some_iff.mp H
   obtain ⟨t304, A70, H⟩ := H
   replace H : (some t304) = some r := H
   have A7 := aM A70
   clear A70
   obtain rfl := Option.some.inj H
   go_wp2_with (first | ((with_reducible refine gate_callee (f := 96) rfl ?_); refine gL_ (some 17) Tryz.func96 #[.int .i64 (a0.size : Int), .int .i64 1, .int .i64 30] ?_; (with_reducible refine (spec_l1In.calls (a0.size : Int) 1 30 t304 _ A7.out).mono ?_); rintro e w' ⟨rfl, ⟨nd, rfl⟩⟩; refine ⟨_, rfl, ?_⟩))
   go_ret
   exact ⟨bS, z1⟩
def spec_l4Value.l0 : Nat → ByteArray → Int → Option (Bool)
 | 0, _, _ => none
 | k + 1, x0, x3 => if x3 < (x0.size : Int) then (if 0 ≤ x3 then (if (bt x0 x3) < 32 then (some false) else (if (bt x0 x3) = 127 then (some false) else (spec_l4Value.l0 k x0 (wrap64 (x3 + 1))))) else (none)) else (some (decide ((x0.size : Int) ≤ 120)))
def spec_l4Value.f (k : Nat) (a0 : ByteArray) : Option (Bool) := spec_l4Value.l0 k a0 0
set_option maxHeartbeats 8000000 in
set_option maxRecDepth 100000 in
theorem spec_l4Value.calls (k : Nat) (a0 : ByteArray) (r : Bool) (w : World) (h : spec_l4Value.f k a0 = some r) :
  Calls Tryz.prog 101 #[.string a0] w fun e w' => e = .returned (.bool r) ∧ Drawn0 w w' := by
 have H : (spec_l4Value.l0 k a0 0) = some r := h
 clear h
 have H' := aM H
 clear H
 go_enter Tryz.func101, Tryz.ntmps101
 go_wp2
 go_loopg [3] k (fun kq v3 w' => ∃ (x3_1 : Int), v3 = .int .i64 x3_1 ∧ Aside0 (spec_l4Value.l0 kq a0 x3_1 = some r) ∧ Aside0 (kq ≤ k) ∧ Drawn0 w w')
 case atStart => exact ⟨(0), bS, H', ⟨Nat.le_refl _⟩, z1⟩
 case round =>
  clear H'
  try clear c1
  obtain ⟨x3_1, rfl, HA, HK1, ⟨m1, rfl⟩⟩ := hrel
  cases gk with
  | zero => exact absurd HA.out (by simp [spec_l4Value.l0])
  | succ k1 =>
   have H := HA.out
   clear HA
   simp only [spec_l4Value.l0] at H
   by_cases c2 : x3_1 < (a0.size : Int)
   ·rw [if_pos c2] at H
    have c2b0 : decide (x3_1 < (a0.size : Int)) = true := decide_eq_true c2
    clear c2
    by_cases c3 : 0 ≤ x3_1
    ·rw [if_pos c3] at H
     have c3b0 : decide (0 ≤ x3_1) = true := decide_eq_true c3
     clear c3
     by_cases c5 : (bt a0 x3_1) < 32
     ·rw [if_pos c5] at H
      have c5b0 : decide ((bt a0 x3_1) < 32) = true := decide_eq_true c5
      clear c5
      obtain rfl := Option.some.inj H
      have p4 : 0 ≤ (x3_1 : Int) := pI
      have q4 : x3_1 < (a0.size : Int) := pI
      have hx4 := bt_at a0 x3_1
      replace p4 := eq_true p4
      replace q4 := eq_true q4
      go_wp2
      go_ret
      exact ⟨bS, z1⟩
     rw [if_neg c5] at H
     have c5b0 : decide ((bt a0 x3_1) < 32) = false := decide_eq_false c5
     clear c5
     by_cases c7 : (bt a0 x3_1) = 127
     ·rw [if_pos c7] at H
      have c7b0 : ((bt a0 x3_1) == 127) = true := beq_iff_eq.mpr c7
      have c7b1 : ((bt a0 x3_1) != 127) = false := bne_eq_false_iff_eq.mpr c7
      clear c7
      obtain rfl := Option.some.inj H
      have p4 : 0 ≤ (x3_1 : Int) := pI
      have q4 : x3_1 < (a0.size : Int) := pI
      have hx4 := bt_at a0 x3_1
      replace p4 := eq_true p4
      replace q4 := eq_true q4
      have p6 : 0 ≤ (x3_1 : Int) := pI
      have q6 : x3_1 < (a0.size : Int) := pI
      have hx6 := bt_at a0 x3_1
      replace p6 := eq_true p6
      replace q6 := eq_true q6
      go_wp2
      go_ret
      exact ⟨bS, z1⟩
     rw [if_neg c7] at H
     have c7b0 : ((bt a0 x3_1) == 127) = false := beq_eq_false_iff_ne.mpr c7
     have c7b1 : ((bt a0 x3_1) != 127) = true := bne_iff_ne.mpr c7
     have H' := aM H
     clear H
     have p4 : 0 ≤ (x3_1 : Int) := pI
     have q4 : x3_1 < (a0.size : Int) := pI
     have hx4 := bt_at a0 x3_1
     replace p4 := eq_true p4
     replace q4 := eq_true q4
     have p6 : 0 ≤ (x3_1 : Int) := pI
     have q6 : x3_1 < (a0.size : Int) := pI
     have hx6 := bt_at a0 x3_1
     replace p6 := eq_true p6
     replace q6 := eq_true q6
     go_wp2
     go_roundg k1
     case measure => have := HK1.out; omega
     case rel => exact ⟨(wrap64 (x3_1 + 1)), bS, H', ⟨by have := HK1.out; omega⟩, z1⟩
    rw [if_neg c3] at H
    exact absurd H (by simp)
   rw [if_neg c2] at H
   have c2b0 : decide (x3_1 < (a0.size : Int)) = false := decide_eq_false c2
   clear c2
   obtain rfl := Option.some.inj H
   go_wp2
   go_ret
   exact ⟨bS, z1⟩
def spec_l4Fault.l0 : Nat → List (S70) → Int → Option (Int)
 | 0, _, _ => none
 | k + 1, x0, x3 => if x3 < (x0.length : Int) then (if 0 ≤ x3 then ((spec_l4Name.f k ((rd_T70 x0 x3).f0)).bind fun t306 => (if t306 = true then ((spec_l4Value.f k ((rd_T70 x0 x3).f1)).bind fun t308 => (if t308 = true then (spec_l4Fault.l0 k x0 (wrap64 (x3 + 1))) else (some 5))) else (some 5))) else (none)) else (some 0)
def spec_l4Fault.f (k : Nat) (l0 : List (S70)) : Option (Int) := if (l0.length : Int) > 8 then (some 2) else (spec_l4Fault.l0 k l0 0)
set_option maxHeartbeats 8000000 in
set_option maxRecDepth 100000 in
theorem spec_l4Fault.calls (k : Nat) (A0 : Option Addr) (c0 : Nat) (l0 : List (S70)) (r : Int) (w : World) (hr0 : Kd.C k70 w A0 l0.length l0) (hc0 : l0.length ≤ c0) (h : spec_l4Fault.f k l0 = some r) :
  Calls Tryz.prog 69 #[.slice A0 l0.length c0] w fun e w' => e = .returned (.int .i64 r) ∧ Drawn0 w w' := by
 have HR0 := aM hr0
 have HC0 := aM hc0
 clear hr0 hc0
 have H : (if (l0.length : Int) > 8 then (some 2) else (spec_l4Fault.l0 k l0 0)) = some r := h
 clear h
 by_cases c2 : (l0.length : Int) > 8
 ·rw [if_pos c2] at H
  have c2b0 : decide (8 < (l0.length : Int)) = true := decide_eq_true c2
  have c2b1 : decide (8 < l0.length) = true := decide_eq_true (by omega)
  clear c2
  obtain rfl := Option.some.inj H
  go_enter Tryz.func69, Tryz.ntmps69
  go_wp2
  go_ret
  exact ⟨bS, z1⟩
 rw [if_neg c2] at H
 have c2b0 : decide (8 < (l0.length : Int)) = false := decide_eq_false c2
 have c2b1 : decide (8 < l0.length) = false := decide_eq_false (by omega)
 clear c2
 have H' := aM H
 clear H
 go_enter Tryz.func69, Tryz.ntmps69
 go_wp2
 go_loopg [3] k (fun kq v3 w' => ∃ (x3_1 : Int), v3 = .int .i64 x3_1 ∧ Aside0 (spec_l4Fault.l0 kq l0 x3_1 = some r) ∧ Aside0 (kq ≤ k) ∧ Drawn0 w w')
 case atStart => exact ⟨(0), bS, H', ⟨Nat.le_refl _⟩, z1⟩
 case round =>
  clear H'
  try clear c2
  try clear c2b0
  try clear c2b1
  try clear p2
  obtain ⟨x3_1, rfl, HA, HK1, ⟨m1, rfl⟩⟩ := hrel
  cases gk with
  | zero => exact absurd HA.out (by simp [spec_l4Fault.l0])
  | succ k1 =>
   have H := HA.out
   clear HA
   simp only [spec_l4Fault.l0] at H
   by_cases c3 : x3_1 < (l0.length : Int)
   ·rw [if_pos c3] at H
    have c3b0 : decide (x3_1 < (l0.length : Int)) = true := decide_eq_true c3
    clear c3
    by_cases c4 : 0 ≤ x3_1
    ·rw [if_pos c4] at H
     have c4b0 : decide (0 ≤ x3_1) = true := decide_eq_true c4
     clear c4
     replace H := Option.bind_eq_some_iff.mp H
     obtain ⟨t306, A50, H⟩ := H
     replace H : (if t306 = true then ((spec_l4Value.f k1 ((rd_T70 l0 x3_1).f1)).bind fun t308 => (if t308 = true then (spec_l4Fault.l0 k1 l0 (wrap64 (x3_1 + 1))) else (some 5))) else (some 5)) = some r := H
     have A5 := aM A50
     clear A50
     by_cases c6 : t306 = true
     ·subst c6
      have H1 : ((spec_l4Value.f k1 ((rd_T70 l0 x3_1).f1)).bind fun t308 => (if t308 = true then (spec_l4Fault.l0 k1 l0 (wrap64 (x3_1 + 1))) else (some 5))) = some r := z14
      clear H
      have H := H1
      clear H1
      replace H := Option.bind_eq_some_iff.mp H
      obtain ⟨t308, A70, H⟩ := H
      replace H : (if t308 = true then (spec_l4Fault.l0 k1 l0 (wrap64 (x3_1 + 1))) else (some 5)) = some r := H
      have A7 := aM A70
      clear A70
      by_cases c8 : t308 = true
      ·subst c8
       have H1 : (spec_l4Fault.l0 k1 l0 (wrap64 (x3_1 + 1))) = some r := z14
       clear H
       have H := H1
       clear H1
       have H' := aM H
       clear H
       have p305 : 0 ≤ (x3_1 : Int) := pI
       have q305 : x3_1 < (l0.length : Int) := pI
       obtain ⟨ad305, e305, hx305_0, hx305_1⟩ := at_T70 HR0.out x3_1 p305 q305
       cases e305
       replace p305 := eq_true p305
       replace q305 := eq_true q305
       go_wp2_with (first | ((with_reducible refine gate_callee (f := 100) rfl ?_); refine gL_ (some 18) Tryz.func100 #[.string ((rd_T70 l0 x3_1).f0)] ?_; (with_reducible refine (spec_l4Name.calls k1 ((rd_T70 l0 x3_1).f0) true _ A5.out).mono ?_); rintro e w' ⟨rfl, ⟨nd, rfl⟩⟩; refine ⟨_, rfl, ?_⟩; have p307 : 0 ≤ (x3_1 : Int) := pI; have q307 : x3_1 < (l0.length : Int) := pI; obtain ⟨ad307, e307, hx307_0, hx307_1⟩ := at_T70 HR0.out x3_1 p307 q307; obtain rfl : ad305 = ad307 := (by injection e307); replace p307 := eq_true p307; replace q307 := eq_true q307) | (go_at_call 101; (with_reducible refine (spec_l4Value.calls k1 ((rd_T70 l0 x3_1).f1) true _ A7.out).mono ?_); rintro e w' ⟨rfl, ⟨nd, rfl⟩⟩))
       go_roundg k1
       case measure => have := HK1.out; omega
       case rel => exact ⟨(wrap64 (x3_1 + 1)), bS, H', ⟨by have := HK1.out; omega⟩, z1⟩
      replace c8 := Bool.eq_false_iff.mpr c8
      subst c8
      have H1 : (some 5) = some r := z5
      clear H
      have H := H1
      clear H1
      obtain rfl := Option.some.inj H
      have p305 : 0 ≤ (x3_1 : Int) := pI
      have q305 : x3_1 < (l0.length : Int) := pI
      obtain ⟨ad305, e305, hx305_0, hx305_1⟩ := at_T70 HR0.out x3_1 p305 q305
      cases e305
      replace p305 := eq_true p305
      replace q305 := eq_true q305
      go_wp2_with (first | ((with_reducible refine gate_callee (f := 100) rfl ?_); refine gL_ (some 18) Tryz.func100 #[.string ((rd_T70 l0 x3_1).f0)] ?_; (with_reducible refine (spec_l4Name.calls k1 ((rd_T70 l0 x3_1).f0) true _ A5.out).mono ?_); rintro e w' ⟨rfl, ⟨nd, rfl⟩⟩; refine ⟨_, rfl, ?_⟩; have p307 : 0 ≤ (x3_1 : Int) := pI; have q307 : x3_1 < (l0.length : Int) := pI; obtain ⟨ad307, e307, hx307_0, hx307_1⟩ := at_T70 HR0.out x3_1 p307 q307; obtain rfl : ad305 = ad307 := (by injection e307); replace p307 := eq_true p307; replace q307 := eq_true q307) | (go_at_call 101; (with_reducible refine (spec_l4Value.calls k1 ((rd_T70 l0 x3_1).f1) false _ A7.out).mono ?_); rintro e w' ⟨rfl, ⟨nd, rfl⟩⟩))
      go_ret
      exact ⟨bS, z1⟩
     replace c6 := Bool.eq_false_iff.mpr c6
     subst c6
     have H1 : (some 5) = some r := z5
     clear H
     have H := H1
     clear H1
     obtain rfl := Option.some.inj H
     have p305 : 0 ≤ (x3_1 : Int) := pI
     have q305 : x3_1 < (l0.length : Int) := pI
     obtain ⟨ad305, e305, hx305_0, hx305_1⟩ := at_T70 HR0.out x3_1 p305 q305
     cases e305
     replace p305 := eq_true p305
     replace q305 := eq_true q305
     go_wp2_with (first | ((with_reducible refine gate_callee (f := 100) rfl ?_); refine gL_ (some 18) Tryz.func100 #[.string ((rd_T70 l0 x3_1).f0)] ?_; (with_reducible refine (spec_l4Name.calls k1 ((rd_T70 l0 x3_1).f0) false _ A5.out).mono ?_); rintro e w' ⟨rfl, ⟨nd, rfl⟩⟩; refine ⟨_, rfl, ?_⟩))
     go_ret
     exact ⟨bS, z1⟩
    rw [if_neg c4] at H
    exact absurd H (by simp)
   rw [if_neg c3] at H
   have c3b0 : decide (x3_1 < (l0.length : Int)) = false := decide_eq_false c3
   clear c3
   obtain rfl := Option.some.inj H
   go_wp2
   go_ret
   exact ⟨bS, z1⟩
def spec_l4Parse.l0 : Nat → List Int → List (S70) → Int → Option ((List (S70)) × Int × Bool)
 | 0, _, _, _ => none
 | k + 1, x0, x5, x6 => if x6 < (x0.length : Int) then ((spec_l4End.f k x0 x6).bind fun t313 => (if t313 = x6 then ((spec_l4Fault.f k x5).bind fun t314 => (some (x5, wrap64 (x6 + 1), (t314 == 0)))) else (if 0 ≤ x6 then (if x6 ≤ t313 then (if t313 ≤ (x0.length : Int) then ((spec_l4Line.f k x5 (strOfNums ((x0.take (t313 : Int).toNat).drop (x6 : Int).toNat))).bind fun bt316 => (if bt316.2 = true then (if t313 < (x0.length : Int) then (spec_l4Parse.l0 k x0 bt316.1 (wrap64 (t313 + 1))) else (spec_l4Parse.l0 k x0 bt316.1 t313)) else (some (([] : List (S70)), 0, false)))) else (none)) else (none)) else (none)))) else ((spec_l4Fault.f k x5).bind fun t312 => (some (x5, x6, (t312 == 0))))
def spec_l4Parse.f (k : Nat) (l0 : List Int) : Option ((List (S70)) × Int × Bool) := spec_l4Parse.l0 k l0 (([] : List (S70))) 0
set_option maxHeartbeats 8000000 in
set_option maxRecDepth 100000 in
theorem spec_l4Parse.calls (k : Nat) (A0 : Option Addr) (c0 : Nat) (l0 : List Int) (r1 : List (S70)) (r2 : Int) (r3 : Bool) (w : World) (hr0 : Kd.C (Kd.int .u8) w A0 l0.length l0) (hc0 : l0.length ≤ c0) (h : spec_l4Parse.f k l0 = some (r1, r2, r3)) :
  Calls Tryz.prog 47 #[.slice A0 l0.length c0] w fun e w' => ∃ v0_ : Value, e = .returned (.tuple #[v0_, .int .i64 r2, .bool r3]) ∧ Kd.R k70 70 w' w.heap.size (fun _ => True) v0_ r1 ∧ Below w.heap.size w w' := by
 have HR0 := aM hr0
 have HC0 := aM hc0
 clear hr0 hc0
 have HB := aM (Below.refl w.heap.size w)
 have H : (spec_l4Parse.l0 k l0 (([] : List (S70))) 0) = some (r1, r2, r3) := h
 clear h
 obtain ⟨y309, hy309⟩ : ∃ y_ : List (S70), y_ = (([] : List (S70))) := ⟨_, rfl⟩
 replace H : (spec_l4Parse.l0 k l0 y309 0) = some (r1, r2, r3) := z0 hy309
 have Ny309 := aM hy309
 clear hy309
 have H' := aM H
 clear H
 go_enter Tryz.func47, Tryz.ntmps47
 go_wp2_with (first | ((with_reducible refine gate_dst (N := 10) rfl ?_); refine Kd.R_lit k70 _ 70 ?hg (N := 10) ?hd (xs := ([] : List (S70))) (inner := []) (ok := fun _ => True) (okp := fun _ => True) ?hr ?hp (fun _ hk => hk) trivial (Below.refl _ _) (Nat.le_refl _) (by simp) ?_; (case hd => rfl); (case hg => rfl); (case hr => exact z8); (case hp => exact (Reps.none _ _)); intro v310 w2 ho3 hb hg_ hnew_; clear hg_ hnew_; (first | rw [← Ny309.out] at ho3 | (simp only [Int.reduceToNat] at ho3; rw [← Ny309.out] at ho3)); have HO311 := aM (Kd.R_lower ho3 (below_size bB)); replace HB := aM (below_step bB hb); clear hb ho3))
 go_loopg [5, 6] k (fun kq v5 v6 w' => ∃ (x5_1 : List (S70)) (x6_1 : Int), v6 = .int .i64 x6_1 ∧ Aside0 (spec_l4Parse.l0 kq l0 x5_1 x6_1 = some (r1, r2, r3)) ∧ Aside0 (kq ≤ k) ∧ Aside0 (Kd.R k70 70 w' w.heap.size (fun _ => True) v5 x5_1) ∧ Aside0 (Below w.heap.size w w'))
 case atStart => exact ⟨(y309), (0), bS, H', ⟨Nat.le_refl _⟩, ⟨bR HO311⟩, ⟨bB⟩⟩
 case round =>
  clear H'
  try clear p2
  obtain ⟨x5_1, x6_1, rfl, HA, HK1, HO_5, HB⟩ := hrel
  cases gk with
  | zero => exact absurd HA.out (by simp [spec_l4Parse.l0])
  | succ k1 =>
   have H := HA.out
   clear HA
   simp only [spec_l4Parse.l0] at H
   by_cases c4 : x6_1 < (l0.length : Int)
   ·rw [if_pos c4] at H
    have c4b0 : decide (x6_1 < (l0.length : Int)) = true := decide_eq_true c4
    clear c4
    replace H := Option.bind_eq_some_iff.mp H
    obtain ⟨t313, A50, H⟩ := H
    replace H : (if t313 = x6_1 then ((spec_l4Fault.f k1 x5_1).bind fun t314 => (some (x5_1, wrap64 (x6_1 + 1), (t314 == 0)))) else (if 0 ≤ x6_1 then (if x6_1 ≤ t313 then (if t313 ≤ (l0.length : Int) then ((spec_l4Line.f k1 x5_1 (strOfNums ((l0.take (t313 : Int).toNat).drop (x6_1 : Int).toNat))).bind fun bt316 => (if bt316.2 = true then (if t313 < (l0.length : Int) then (spec_l4Parse.l0 k1 l0 bt316.1 (wrap64 (t313 + 1))) else (spec_l4Parse.l0 k1 l0 bt316.1 t313)) else (some (([] : List (S70)), 0, false)))) else (none)) else (none)) else (none))) = some (r1, r2, r3) := H
    have A5 := aM A50
    clear A50
    by_cases c6 : t313 = x6_1
    ·rw [if_pos c6] at H
     have c6b0 : (t313 == x6_1) = true := beq_iff_eq.mpr c6
     have c6b1 : (t313 != x6_1) = false := bne_eq_false_iff_eq.mpr c6
     clear c6
     replace H := Option.bind_eq_some_iff.mp H
     obtain ⟨t314, A70, H⟩ := H
     replace H : (some (x5_1, wrap64 (x6_1 + 1), (t314 == 0))) = some (r1, r2, r3) := H
     have A7 := aM A70
     clear A70
     simp only [Option.some.injEq, Prod.mk.injEq] at H
     obtain ⟨rfl, rfl, rfl⟩ := H
     go_wp2_with (first | ((with_reducible refine gate_callee (f := 67) rfl ?_); refine gL_ (some 17) Tryz.func67 #[.slice A0 l0.length c0, .int .i64 x6_1] ?_; (with_reducible refine (spec_l4End.calls k1 _ _ l0 x6_1 t313 _ ?side1 ?side2 A5.out).mono ?_); (case side1 => exact z4 HR0.out); (case side2 => exact HC0.out); rintro e w' ⟨rfl, ⟨nd, rfl⟩⟩; refine ⟨_, rfl, ?_⟩; obtain ⟨Ao8, co8, eo8⟩ := Kd.R_slice HO_5.out; subst eo8) | ((with_reducible refine gate_callee (f := 69) rfl ?_); refine gL_ (some 46) Tryz.func69 #[.slice Ao8 x5_1.length co8] ?_; (with_reducible refine (spec_l4Fault.calls k1 _ _ x5_1 t314 _ ?side1 ?side2 A7.out).mono ?_); (case side1 => exact z2 HO_5.out); (case side2 => exact (Kd.R_reads' HO_5.out).2.1); rintro e w' ⟨rfl, ⟨nd, rfl⟩⟩; refine ⟨_, rfl, ?_⟩))
     go_ret3
     exact ⟨_, bE, bR HO_5, bB⟩
    rw [if_neg c6] at H
    have c6b0 : (t313 == x6_1) = false := beq_eq_false_iff_ne.mpr c6
    have c6b1 : (t313 != x6_1) = true := bne_iff_ne.mpr c6
    by_cases c9 : 0 ≤ x6_1
    ·rw [if_pos c9] at H
     have c9b0 := eq_true c9
     have c9b1 : decide (0 ≤ x6_1) = true := decide_eq_true c9
     clear c9
     by_cases c10 : x6_1 ≤ t313
     ·rw [if_pos c10] at H
      have c10b0 := eq_true c10
      have c10b1 : decide (x6_1 ≤ t313) = true := decide_eq_true c10
      clear c10
      by_cases c11 : t313 ≤ (l0.length : Int)
      ·rw [if_pos c11] at H
       have c11b0 := eq_true c11
       have c11b1 : decide (t313 ≤ (l0.length : Int)) = true := decide_eq_true c11
       (try have c11z := eq_true (show (t313 : Int) ≤ (c0 : Int) from (by have h_ := HC0.out; omega)))
       clear c11
       replace H := Option.bind_eq_some_iff.mp H
       obtain ⟨⟨t316, t317⟩, A120, H⟩ := H
       replace H : (if t317 = true then (if t313 < (l0.length : Int) then (spec_l4Parse.l0 k1 l0 t316 (wrap64 (t313 + 1))) else (spec_l4Parse.l0 k1 l0 t316 t313)) else (some (([] : List (S70)), 0, false))) = some (r1, r2, r3) := H
       have A12 := aM A120
       clear A120
       by_cases c13 : t317 = true
       ·subst c13
        have H1 : (if t313 < (l0.length : Int) then (spec_l4Parse.l0 k1 l0 t316 (wrap64 (t313 + 1))) else (spec_l4Parse.l0 k1 l0 t316 t313)) = some (r1, r2, r3) := z14
        clear H
        have H := H1
        clear H1
        by_cases c14 : t313 < (l0.length : Int)
        ·rw [if_pos c14] at H
         have c14b0 : decide (t313 < (l0.length : Int)) = true := decide_eq_true c14
         clear c14
         have H' := aM H
         clear H
         go_wp2_with (first | ((with_reducible refine gate_callee (f := 67) rfl ?_); refine gL_ (some 17) Tryz.func67 #[.slice A0 l0.length c0, .int .i64 x6_1] ?_; (with_reducible refine (spec_l4End.calls k1 _ _ l0 x6_1 t313 _ ?side1 ?side2 A5.out).mono ?_); (case side1 => exact z4 HR0.out); (case side2 => exact HC0.out); rintro e w' ⟨rfl, ⟨nd, rfl⟩⟩; refine ⟨_, rfl, ?_⟩; obtain ⟨i015, hi015, _, hsz15, _⟩ := info_parts info5; obtain ⟨A15, hcut15, hA15, hC15⟩ := print_mid_of (P := Tryz.prog) (Value.int .u8) 0 22 5 .i64 .i64 Tryz.underlying22 hi015 hsz15 A0 c0 l0 x6_1 t313 (pI) (by first | omega | exact pI) (pI) HC0.out; have HR315 := aM (Kd.C_of_reads (h1 := fun _ => rfl) (hA15 _ (Kd.reads_of_C HR0.out))); have HC315 := aM hC15; clear hA15 hC15 hi015 hsz15; have hcv16 := Kd.C_string (P := Tryz.prog) (A := A15) (c := (c0 - x6_1.toNat)) Tryz.underlying22 Tryz.underlying5 Tryz.underlying9 (Kd.C_below HR315.out HB.out); (try have hcd17 := fun nq_ : Nat => Kd.C_string (P := Tryz.prog) (A := A15) (c := (c0 - x6_1.toNat)) Tryz.underlying22 Tryz.underlying5 Tryz.underlying9 (Kd.C_drewN (Kd.C_below HR315.out HB.out) nq_)); (try have hce17 := Kd.C_string (P := Tryz.prog) (A := A15) (c := (c0 - x6_1.toNat)) Tryz.underlying22 Tryz.underlying5 Tryz.underlying9 (Kd.C_below HR315.out HB.out)); (try (have hln17 : ((l0.take (t313 : Int).toNat).drop (x6_1 : Int).toNat).length = (t313 : Int).toNat - (x6_1 : Int).toNat := z39)); (try rw [hln17] at hce17); (try simp only [hln17] at hcd17); (try clear hln17); obtain ⟨Ao18, co18, eo18⟩ := Kd.R_slice HO_5.out; subst eo18) | ((with_reducible refine gate_callee (f := 68) rfl ?_); refine gL_ (some 30) Tryz.func68 #[.slice Ao18 x5_1.length co18, .string (strOfNums ((l0.take (t313 : Int).toNat).drop (x6_1 : Int).toNat))] ?_; (with_reducible refine (spec_l4Line.calls k1 _ _ x5_1 (strOfNums ((l0.take (t313 : Int).toNat).drop (x6_1 : Int).toNat)) t316 true _ ?side1 ?side2 A12.out).mono ?_); (case side1 => exact z2 HO_5.out); (case side2 => exact (Kd.R_reads' HO_5.out).2.1); rintro e w19 ⟨v318, rfl, ho0, hb⟩; refine ⟨_, rfl, ?_⟩; have HO319 := aM (Kd.R_lower (Kd.R_new' ho0 (Kd.R_lt (bR HO_5))) (below_size bB)); replace HO_5 := aM (Kd.R_elder' (bR HO_5) (Kd.R_base ho0) hb); replace HB := aM (below_step bB hb); (try clear ho0)))
         go_roundg k1
         case measure => have := HK1.out; omega
         case rel => exact ⟨(t316), (wrap64 (t313 + 1)), bS, H', ⟨by have := HK1.out; omega⟩, ⟨z9 HO319.out⟩, ⟨bB⟩⟩
        rw [if_neg c14] at H
        have c14b0 : decide (t313 < (l0.length : Int)) = false := decide_eq_false c14
        clear c14
        have H' := aM H
        clear H
        go_wp2_with (first | ((with_reducible refine gate_callee (f := 67) rfl ?_); refine gL_ (some 17) Tryz.func67 #[.slice A0 l0.length c0, .int .i64 x6_1] ?_; (with_reducible refine (spec_l4End.calls k1 _ _ l0 x6_1 t313 _ ?side1 ?side2 A5.out).mono ?_); (case side1 => exact z4 HR0.out); (case side2 => exact HC0.out); rintro e w' ⟨rfl, ⟨nd, rfl⟩⟩; refine ⟨_, rfl, ?_⟩; obtain ⟨i020, hi020, _, hsz20, _⟩ := info_parts info5; obtain ⟨A20, hcut20, hA20, hC20⟩ := print_mid_of (P := Tryz.prog) (Value.int .u8) 0 22 5 .i64 .i64 Tryz.underlying22 hi020 hsz20 A0 c0 l0 x6_1 t313 (pI) (by first | omega | exact pI) (pI) HC0.out; have HR315 := aM (Kd.C_of_reads (h1 := fun _ => rfl) (hA20 _ (Kd.reads_of_C HR0.out))); have HC315 := aM hC20; clear hA20 hC20 hi020 hsz20; have hcv21 := Kd.C_string (P := Tryz.prog) (A := A20) (c := (c0 - x6_1.toNat)) Tryz.underlying22 Tryz.underlying5 Tryz.underlying9 (Kd.C_below HR315.out HB.out); (try have hcd22 := fun nq_ : Nat => Kd.C_string (P := Tryz.prog) (A := A20) (c := (c0 - x6_1.toNat)) Tryz.underlying22 Tryz.underlying5 Tryz.underlying9 (Kd.C_drewN (Kd.C_below HR315.out HB.out) nq_)); (try have hce22 := Kd.C_string (P := Tryz.prog) (A := A20) (c := (c0 - x6_1.toNat)) Tryz.underlying22 Tryz.underlying5 Tryz.underlying9 (Kd.C_below HR315.out HB.out)); (try (have hln22 : ((l0.take (t313 : Int).toNat).drop (x6_1 : Int).toNat).length = (t313 : Int).toNat - (x6_1 : Int).toNat := z39)); (try rw [hln22] at hce22); (try simp only [hln22] at hcd22); (try clear hln22); obtain ⟨Ao23, co23, eo23⟩ := Kd.R_slice HO_5.out; subst eo23) | ((with_reducible refine gate_callee (f := 68) rfl ?_); refine gL_ (some 30) Tryz.func68 #[.slice Ao23 x5_1.length co23, .string (strOfNums ((l0.take (t313 : Int).toNat).drop (x6_1 : Int).toNat))] ?_; (with_reducible refine (spec_l4Line.calls k1 _ _ x5_1 (strOfNums ((l0.take (t313 : Int).toNat).drop (x6_1 : Int).toNat)) t316 true _ ?side1 ?side2 A12.out).mono ?_); (case side1 => exact z2 HO_5.out); (case side2 => exact (Kd.R_reads' HO_5.out).2.1); rintro e w24 ⟨v318, rfl, ho0, hb⟩; refine ⟨_, rfl, ?_⟩; have HO319 := aM (Kd.R_lower (Kd.R_new' ho0 (Kd.R_lt (bR HO_5))) (below_size bB)); replace HO_5 := aM (Kd.R_elder' (bR HO_5) (Kd.R_base ho0) hb); replace HB := aM (below_step bB hb); (try clear ho0)))
        go_roundg k1
        case measure => have := HK1.out; omega
        case rel => exact ⟨(t316), (t313), bS, H', ⟨by have := HK1.out; omega⟩, ⟨z9 HO319.out⟩, ⟨bB⟩⟩
       replace c13 := Bool.eq_false_iff.mpr c13
       subst c13
       have H1 : (some (([] : List (S70)), 0, false)) = some (r1, r2, r3) := z5
       clear H
       have H := H1
       clear H1
       simp only [Option.some.injEq, Prod.mk.injEq] at H
       obtain ⟨rfl, rfl, rfl⟩ := H
       go_wp2_with (first | ((with_reducible refine gate_callee (f := 67) rfl ?_); refine gL_ (some 17) Tryz.func67 #[.slice A0 l0.length c0, .int .i64 x6_1] ?_; (with_reducible refine (spec_l4End.calls k1 _ _ l0 x6_1 t313 _ ?side1 ?side2 A5.out).mono ?_); (case side1 => exact z4 HR0.out); (case side2 => exact HC0.out); rintro e w' ⟨rfl, ⟨nd, rfl⟩⟩; refine ⟨_, rfl, ?_⟩; obtain ⟨i025, hi025, _, hsz25, _⟩ := info_parts info5; obtain ⟨A25, hcut25, hA25, hC25⟩ := print_mid_of (P := Tryz.prog) (Value.int .u8) 0 22 5 .i64 .i64 Tryz.underlying22 hi025 hsz25 A0 c0 l0 x6_1 t313 (pI) (by first | omega | exact pI) (pI) HC0.out; have HR315 := aM (Kd.C_of_reads (h1 := fun _ => rfl) (hA25 _ (Kd.reads_of_C HR0.out))); have HC315 := aM hC25; clear hA25 hC25 hi025 hsz25; have hcv26 := Kd.C_string (P := Tryz.prog) (A := A25) (c := (c0 - x6_1.toNat)) Tryz.underlying22 Tryz.underlying5 Tryz.underlying9 (Kd.C_below HR315.out HB.out); (try have hcd27 := fun nq_ : Nat => Kd.C_string (P := Tryz.prog) (A := A25) (c := (c0 - x6_1.toNat)) Tryz.underlying22 Tryz.underlying5 Tryz.underlying9 (Kd.C_drewN (Kd.C_below HR315.out HB.out) nq_)); (try have hce27 := Kd.C_string (P := Tryz.prog) (A := A25) (c := (c0 - x6_1.toNat)) Tryz.underlying22 Tryz.underlying5 Tryz.underlying9 (Kd.C_below HR315.out HB.out)); (try (have hln27 : ((l0.take (t313 : Int).toNat).drop (x6_1 : Int).toNat).length = (t313 : Int).toNat - (x6_1 : Int).toNat := z39)); (try rw [hln27] at hce27); (try simp only [hln27] at hcd27); (try clear hln27); obtain ⟨Ao28, co28, eo28⟩ := Kd.R_slice HO_5.out; subst eo28) | ((with_reducible refine gate_callee (f := 68) rfl ?_); refine gL_ (some 30) Tryz.func68 #[.slice Ao28 x5_1.length co28, .string (strOfNums ((l0.take (t313 : Int).toNat).drop (x6_1 : Int).toNat))] ?_; (with_reducible refine (spec_l4Line.calls k1 _ _ x5_1 (strOfNums ((l0.take (t313 : Int).toNat).drop (x6_1 : Int).toNat)) t316 false _ ?side1 ?side2 A12.out).mono ?_); (case side1 => exact z2 HO_5.out); (case side2 => exact (Kd.R_reads' HO_5.out).2.1); rintro e w29 ⟨v318, rfl, ho0, hb⟩; refine ⟨_, rfl, ?_⟩; have HO319 := aM (Kd.R_lower (Kd.R_new' ho0 (Kd.R_lt (bR HO_5))) (below_size bB)); replace HO_5 := aM (Kd.R_elder' (bR HO_5) (Kd.R_base ho0) hb); replace HB := aM (below_step bB hb); (try clear ho0)))
       go_ret3
       exact ⟨_, bE, z3, bB⟩
      rw [if_neg c11] at H
      exact absurd H (by simp)
     rw [if_neg c10] at H
     exact absurd H (by simp)
    rw [if_neg c9] at H
    exact absurd H (by simp)
   rw [if_neg c4] at H
   have c4b0 : decide (x6_1 < (l0.length : Int)) = false := decide_eq_false c4
   clear c4
   replace H := Option.bind_eq_some_iff.mp H
   obtain ⟨t312, A300, H⟩ := H
   replace H : (some (x5_1, x6_1, (t312 == 0))) = some (r1, r2, r3) := H
   have A30 := aM A300
   clear A300
   simp only [Option.some.injEq, Prod.mk.injEq] at H
   obtain ⟨rfl, rfl, rfl⟩ := H
   obtain ⟨Ao31, co31, eo31⟩ := Kd.R_slice HO_5.out
   subst eo31
   go_wp2_with (first | ((with_reducible refine gate_callee (f := 69) rfl ?_); refine gL_ (some 46) Tryz.func69 #[.slice Ao31 x5_1.length co31] ?_; (with_reducible refine (spec_l4Fault.calls k1 _ _ x5_1 t312 _ ?side1 ?side2 A30.out).mono ?_); (case side1 => exact z2 HO_5.out); (case side2 => exact (Kd.R_reads' HO_5.out).2.1); rintro e w' ⟨rfl, ⟨nd, rfl⟩⟩; refine ⟨_, rfl, ?_⟩))
   go_ret3
   exact ⟨_, bE, bR HO_5, bB⟩
def spec_l4Of.l0 : Nat → List (S70) → ByteArray → Int → Option (ByteArray × Bool)
 | 0, _, _, _ => none
 | k + 1, x0, x1, x6 => if x6 < (x0.length : Int) then (if 0 ≤ x6 then ((spec_l2Lower.f k ((rd_T70 x0 x6).f0)).bind fun t321 => ((spec_l2Lower.f k x1).bind fun t322 => (if t321.toList = t322.toList then (some ((rd_T70 x0 x6).f1, true)) else (spec_l4Of.l0 k x0 x1 (wrap64 (x6 + 1)))))) else (none)) else (some ((⟨#[]⟩ : ByteArray), false))
def spec_l4Of.f (k : Nat) (l0 : List (S70)) (a1 : ByteArray) : Option (ByteArray × Bool) := spec_l4Of.l0 k l0 a1 0
set_option maxHeartbeats 8000000 in
set_option maxRecDepth 100000 in
theorem spec_l4Of.calls (k : Nat) (A0 : Option Addr) (c0 : Nat) (l0 : List (S70)) (a1 : ByteArray) (r1 : ByteArray) (r2 : Bool) (w : World) (hr0 : Kd.C k70 w A0 l0.length l0) (hc0 : l0.length ≤ c0) (h : spec_l4Of.f k l0 a1 = some (r1, r2)) :
  Calls Tryz.prog 48 #[.slice A0 l0.length c0, .string a1] w fun e w' => e = .returned (.tuple #[.string r1, .bool r2]) ∧ Below w.heap.size w w' := by
 have HR0 := aM hr0
 have HC0 := aM hc0
 clear hr0 hc0
 have HB := aM (Below.refl w.heap.size w)
 have H : (spec_l4Of.l0 k l0 a1 0) = some (r1, r2) := h
 clear h
 have H' := aM H
 clear H
 go_enter Tryz.func48, Tryz.ntmps48
 go_wp2
 go_loopg [6] k (fun kq v6 w' => ∃ (x6_1 : Int), v6 = .int .i64 x6_1 ∧ Aside0 (spec_l4Of.l0 kq l0 a1 x6_1 = some (r1, r2)) ∧ Aside0 (kq ≤ k) ∧ Aside0 (Below w.heap.size w w'))
 case atStart => exact ⟨(0), bS, H', ⟨Nat.le_refl _⟩, ⟨bB⟩⟩
 case round =>
  clear H'
  try clear p2
  obtain ⟨x6_1, rfl, HA, HK1, HB⟩ := hrel
  cases gk with
  | zero => exact absurd HA.out (by simp [spec_l4Of.l0])
  | succ k1 =>
   have H := HA.out
   clear HA
   simp only [spec_l4Of.l0] at H
   by_cases c3 : x6_1 < (l0.length : Int)
   ·rw [if_pos c3] at H
    have c3b0 : decide (x6_1 < (l0.length : Int)) = true := decide_eq_true c3
    clear c3
    by_cases c4 : 0 ≤ x6_1
    ·rw [if_pos c4] at H
     have c4b0 : decide (0 ≤ x6_1) = true := decide_eq_true c4
     clear c4
     replace H := Option.bind_eq_some_iff.mp H
     obtain ⟨t321, A50, H⟩ := H
     replace H : ((spec_l2Lower.f k1 a1).bind fun t322 => (if t321.toList = t322.toList then (some ((rd_T70 l0 x6_1).f1, true)) else (spec_l4Of.l0 k1 l0 a1 (wrap64 (x6_1 + 1))))) = some (r1, r2) := H
     have A5 := aM A50
     clear A50
     replace H := Option.bind_eq_some_iff.mp H
     obtain ⟨t322, A60, H⟩ := H
     replace H : (if t321.toList = t322.toList then (some ((rd_T70 l0 x6_1).f1, true)) else (spec_l4Of.l0 k1 l0 a1 (wrap64 (x6_1 + 1)))) = some (r1, r2) := H
     have A6 := aM A60
     clear A60
     by_cases c7 : t321.toList = t322.toList
     ·rw [if_pos c7] at H
      have c7b0 : (t321.toList == t322.toList) = true := beq_iff_eq.mpr c7
      have c7b1 : (t321.toList != t322.toList) = false := bne_eq_false_iff_eq.mpr c7
      clear c7
      simp only [Option.some.injEq, Prod.mk.injEq] at H
      obtain ⟨rfl, rfl⟩ := H
      have p320 : 0 ≤ (x6_1 : Int) := pI
      have q320 : x6_1 < (l0.length : Int) := pI
      obtain ⟨ad320, e320, hx320_0, hx320_1⟩ := at_T70 HR0.out x6_1 p320 q320
      cases e320
      replace hx320_0 := (HB.out.cell (World.block_lt_of_cell? w _ hx320_0)).trans hx320_0
      replace hx320_1 := (HB.out.cell (World.block_lt_of_cell? w _ hx320_1)).trans hx320_1
      replace p320 := eq_true p320
      replace q320 := eq_true q320
      go_wp2_with (first | ((with_reducible refine gate_callee (f := 70) rfl ?_); refine gL_ (some 18) Tryz.func70 #[.string ((rd_T70 l0 x6_1).f0)] ?_; (with_reducible refine (spec_l2Lower.calls k1 ((rd_T70 l0 x6_1).f0) t321 _ A5.out).mono ?_); rintro e w8 ⟨rfl, hb⟩; refine ⟨_, rfl, ?_⟩; replace HB := aM (below_step bB hb); (try clear hi)) | ((with_reducible refine gate_callee (f := 70) rfl ?_); refine gL_ (some 20) Tryz.func70 #[.string a1] ?_; (with_reducible refine (spec_l2Lower.calls k1 a1 t322 _ A6.out).mono ?_); rintro e w9 ⟨rfl, hb⟩; refine ⟨_, rfl, ?_⟩; replace HB := aM (below_step bB hb); have p323 : 0 ≤ (x6_1 : Int) := pI; have q323 : x6_1 < (l0.length : Int) := pI; obtain ⟨ad323, e323, hx323_0, hx323_1⟩ := at_T70 HR0.out x6_1 p323 q323; obtain rfl : ad320 = ad323 := (by injection e323); replace hx323_0 := (HB.out.cell (World.block_lt_of_cell? w _ hx323_0)).trans hx323_0; replace hx323_1 := (HB.out.cell (World.block_lt_of_cell? w _ hx323_1)).trans hx323_1; replace p323 := eq_true p323; replace q323 := eq_true q323))
      go_ret2
      exact ⟨bE, bB⟩
     rw [if_neg c7] at H
     have c7b0 : (t321.toList == t322.toList) = false := beq_eq_false_iff_ne.mpr c7
     have c7b1 : (t321.toList != t322.toList) = true := bne_iff_ne.mpr c7
     have H' := aM H
     clear H
     have p320 : 0 ≤ (x6_1 : Int) := pI
     have q320 : x6_1 < (l0.length : Int) := pI
     obtain ⟨ad320, e320, hx320_0, hx320_1⟩ := at_T70 HR0.out x6_1 p320 q320
     cases e320
     replace hx320_0 := (HB.out.cell (World.block_lt_of_cell? w _ hx320_0)).trans hx320_0
     replace hx320_1 := (HB.out.cell (World.block_lt_of_cell? w _ hx320_1)).trans hx320_1
     replace p320 := eq_true p320
     replace q320 := eq_true q320
     go_wp2_with (first | ((with_reducible refine gate_callee (f := 70) rfl ?_); refine gL_ (some 18) Tryz.func70 #[.string ((rd_T70 l0 x6_1).f0)] ?_; (with_reducible refine (spec_l2Lower.calls k1 ((rd_T70 l0 x6_1).f0) t321 _ A5.out).mono ?_); rintro e w10 ⟨rfl, hb⟩; refine ⟨_, rfl, ?_⟩; replace HB := aM (below_step bB hb); (try clear hi)) | ((with_reducible refine gate_callee (f := 70) rfl ?_); refine gL_ (some 20) Tryz.func70 #[.string a1] ?_; (with_reducible refine (spec_l2Lower.calls k1 a1 t322 _ A6.out).mono ?_); rintro e w11 ⟨rfl, hb⟩; refine ⟨_, rfl, ?_⟩; replace HB := aM (below_step bB hb); (try clear hi)))
     go_roundg k1
     case measure => have := HK1.out; omega
     case rel => exact ⟨(wrap64 (x6_1 + 1)), bS, H', ⟨by have := HK1.out; omega⟩, ⟨bB⟩⟩
    rw [if_neg c4] at H
    exact absurd H (by simp)
   rw [if_neg c3] at H
   have c3b0 : decide (x6_1 < (l0.length : Int)) = false := decide_eq_false c3
   clear c3
   simp only [Option.some.injEq, Prod.mk.injEq] at H
   obtain ⟨rfl, rfl⟩ := H
   go_wp2
   go_ret2
   exact ⟨bE, bB⟩
def spec_l6Subject.f (k : Nat) (l0 : List Int) : Option (List Int × Int) := (spec_l4Parse.f k l0).bind fun bt324 => (if bt324.2.2 = true then ((spec_l4Of.f k bt324.1 (⟨#[115, 117, 98, 106, 101, 99, 116]⟩ : ByteArray)).bind fun bt329 => (if bt329.2 = true then ((spec_DecodeWords.f k bt329.1).bind fun bt331 => (some (bt331.2, bt331.1))) else (some (([] : List Int), 4)))) else (some (([] : List Int), 1)))
set_option maxHeartbeats 8000000 in
set_option maxRecDepth 100000 in
theorem spec_l6Subject.calls (k : Nat) (A0 : Option Addr) (c0 : Nat) (l0 : List Int) (r1 : List Int) (r2 : Int) (w : World) (hr0 : Kd.C (Kd.int .u8) w A0 l0.length l0) (hc0 : l0.length ≤ c0) (h : spec_l6Subject.f k l0 = some (r1, r2)) :
  Calls Tryz.prog 23 #[.slice A0 l0.length c0] w fun e w' => ∃ v0_ : Value, e = .returned (.tuple #[v0_, .int .i64 r2]) ∧ Kd.R (Kd.int .i64) 2 w' w.heap.size (fun _ => True) v0_ r1 ∧ Below w.heap.size w w' := by
 have hu25 := Tryz.underlying25
 have HR0 := aM hr0
 have HC0 := aM hc0
 clear hr0 hc0
 have HB := aM (Below.refl w.heap.size w)
 have H : ((spec_l4Parse.f k l0).bind fun bt324 => (if bt324.2.2 = true then ((spec_l4Of.f k bt324.1 (⟨#[115, 117, 98, 106, 101, 99, 116]⟩ : ByteArray)).bind fun bt329 => (if bt329.2 = true then ((spec_DecodeWords.f k bt329.1).bind fun bt331 => (some (bt331.2, bt331.1))) else (some (([] : List Int), 4)))) else (some (([] : List Int), 1)))) = some (r1, r2) := h
 clear h
 replace H := Option.bind_eq_some_iff.mp H
 obtain ⟨⟨t324, t325, t326⟩, A20, H⟩ := H
 replace H : (if t326 = true then ((spec_l4Of.f k t324 (⟨#[115, 117, 98, 106, 101, 99, 116]⟩ : ByteArray)).bind fun bt329 => (if bt329.2 = true then ((spec_DecodeWords.f k bt329.1).bind fun bt331 => (some (bt331.2, bt331.1))) else (some (([] : List Int), 4)))) else (some (([] : List Int), 1))) = some (r1, r2) := H
 have A2 := aM A20
 clear A20
 have HQ_ := aM H
 clear H
 go_enter Tryz.func23, Tryz.ntmps23
 have H := HQ_.out
 clear HQ_
 by_cases c3 : t326 = true
 ·subst c3
  have H1 : ((spec_l4Of.f k t324 (⟨#[115, 117, 98, 106, 101, 99, 116]⟩ : ByteArray)).bind fun bt329 => (if bt329.2 = true then ((spec_DecodeWords.f k bt329.1).bind fun bt331 => (some (bt331.2, bt331.1))) else (some (([] : List Int), 4)))) = some (r1, r2) := z14
  clear H
  have H := H1
  clear H1
  replace H := Option.bind_eq_some_iff.mp H
  obtain ⟨⟨t329, t330⟩, A40, H⟩ := H
  replace H : (if t330 = true then ((spec_DecodeWords.f k t329).bind fun bt331 => (some (bt331.2, bt331.1))) else (some (([] : List Int), 4))) = some (r1, r2) := H
  have A4 := aM A40
  clear A40
  by_cases c5 : t330 = true
  ·subst c5
   have H1 : ((spec_DecodeWords.f k t329).bind fun bt331 => (some (bt331.2, bt331.1))) = some (r1, r2) := z14
   clear H
   have H := H1
   clear H1
   replace H := Option.bind_eq_some_iff.mp H
   obtain ⟨⟨t331, t332⟩, A60, H⟩ := H
   replace H : (some (t332, t331)) = some (r1, r2) := H
   have A6 := aM A60
   clear A60
   simp only [Option.some.injEq, Prod.mk.injEq] at H
   obtain ⟨rfl, rfl⟩ := H
   iterate 8 (go_wp2_with (first | (go_at_call 47; (with_reducible refine (spec_l4Parse.calls k _ _ l0 t324 t325 true _ ?side1 ?side2 A2.out).mono ?_); (case side1 => exact z28 HR0.out); (case side2 => exact HC0.out); rintro e w7 ⟨v327, rfl, ho0, hb⟩; have HO328 := aM (Kd.R_lower ho0 (below_size bB)); replace HB := aM (below_step bB hb); (try clear ho0); obtain ⟨Ao8, co8, eo8⟩ := Kd.R_slice HO328.out; subst eo8) | (go_at_call 48; (with_reducible refine (spec_l4Of.calls k _ _ t324 (⟨#[115, 117, 98, 106, 101, 99, 116]⟩ : ByteArray) t329 true _ ?side1 ?side2 A4.out).mono ?_); (case side1 => exact z2 HO328.out); (case side2 => exact (Kd.R_reads' HO328.out).2.1); rintro e w9 ⟨rfl, hb⟩; replace HO328 := aM (Kd.R_below (bR HO328) hb); replace HB := aM (below_step bB hb); (try clear hi)) | (go_at_call 16; (with_reducible refine (spec_DecodeWords.calls k t329 t331 t332 _ A6.out).mono ?_); rintro e w10 ⟨v333, rfl, ho0, hb⟩; replace HO328 := aM (Kd.R_below (bR HO328) hb); have HO334 := aM (Kd.R_lower ho0 (below_size bB)); replace HB := aM (below_step bB hb); (try clear ho0)) | ((with_reducible refine gate_dst (N := 9) rfl ?_); refine box_event ?hg (N := 9) ?hd (cs := #[.int .i64 0, .slice none 0 0]) (t := 25) ?hr ?_; (case hd => rfl); (case hg => rfl); (case hr => exact z8); intro gb335 hg w11 hbox hb; replace HO328 := aM (Kd.R_below (bR HO328) hb); replace HO334 := aM (Kd.R_below (bR HO334) hb); have BK335 := aM (hbox); have GW335 := aM ((z11 : w.heap.size ≤ gb335)); have GE335 := aM ((z11 : w.heap.size ≤ gb335)); replace HB := aM (below_step bB hb); clear hb hbox hg; have hcz12_0 : w11.cell? ⟨gb335, 0, none⟩ = some (.int .i64 0) := (blk_cell BK335.out 0).trans rfl; have hcz12_1 : w11.cell? ⟨gb335, 1, none⟩ = some (.slice none 0 0) := (blk_cell BK335.out 1).trans rfl; have hfz12_0 := blk_frozen BK335.out 0; have hfz12_1 := blk_frozen BK335.out 1; obtain ⟨Ao13, co13, eo13⟩ := Kd.R_slice HO334.out; subst eo13)); try go_quiet (fail))
   go_ret2
   exact ⟨_, bE, by (with_reducible repeat (first | apply Kd.R_alloc | apply Kd.R_drewN | apply Kd.R_drew)); exact Kd.R_mono (Kd.R_far (p := ⟨gb335, 1, none⟩) (Kd.R_far (p := ⟨gb335, 0, none⟩) (Kd.R_types HO334.out BK335.out (by decide)) (fun _ hk => hk.2) (.int .i64 t331)) (fun _ hk => hk.2) (.slice Ao13 t332.length co13)) (fun _ hk => trivial), bG GE335⟩
  replace c5 := Bool.eq_false_iff.mpr c5
  subst c5
  have H1 : (some (([] : List Int), 4)) = some (r1, r2) := z5
  clear H
  have H := H1
  clear H1
  simp only [Option.some.injEq, Prod.mk.injEq] at H
  obtain ⟨rfl, rfl⟩ := H
  iterate 8 (go_wp2_with (first | (go_at_call 47; (with_reducible refine (spec_l4Parse.calls k _ _ l0 t324 t325 true _ ?side1 ?side2 A2.out).mono ?_); (case side1 => exact z28 HR0.out); (case side2 => exact HC0.out); rintro e w14 ⟨v327, rfl, ho0, hb⟩; have HO328 := aM (Kd.R_lower ho0 (below_size bB)); replace HB := aM (below_step bB hb); (try clear ho0); obtain ⟨Ao15, co15, eo15⟩ := Kd.R_slice HO328.out; subst eo15) | (go_at_call 48; (with_reducible refine (spec_l4Of.calls k _ _ t324 (⟨#[115, 117, 98, 106, 101, 99, 116]⟩ : ByteArray) t329 false _ ?side1 ?side2 A4.out).mono ?_); (case side1 => exact z2 HO328.out); (case side2 => exact (Kd.R_reads' HO328.out).2.1); rintro e w16 ⟨rfl, hb⟩; replace HO328 := aM (Kd.R_below (bR HO328) hb); replace HB := aM (below_step bB hb); (try clear hi))); try go_quiet (fail))
  go_ret2
  exact ⟨_, bE, z3, bB⟩
 replace c3 := Bool.eq_false_iff.mpr c3
 subst c3
 have H1 : (some (([] : List Int), 1)) = some (r1, r2) := z5
 clear H
 have H := H1
 clear H1
 simp only [Option.some.injEq, Prod.mk.injEq] at H
 obtain ⟨rfl, rfl⟩ := H
 iterate 8 (go_wp2_with (first | (go_at_call 47; (with_reducible refine (spec_l4Parse.calls k _ _ l0 t324 t325 false _ ?side1 ?side2 A2.out).mono ?_); (case side1 => exact z28 HR0.out); (case side2 => exact HC0.out); rintro e w17 ⟨v327, rfl, ho0, hb⟩; have HO328 := aM (Kd.R_lower ho0 (below_size bB)); replace HB := aM (below_step bB hb); (try clear ho0))); try go_quiet (fail))
 go_ret2
 exact ⟨_, bE, z3, bB⟩
def spec_SubjectOf.f (k : Nat) (l0 : List Int) : Option (Int × List Int) := if (l0.length : Int) > 400 then (some (2, ([] : List Int))) else ((spec_l6Subject.f k l0).bind fun bt337 => (some (bt337.2, bt337.1)))
set_option maxHeartbeats 8000000 in
set_option maxRecDepth 100000 in
theorem spec_SubjectOf.calls (k : Nat) (A0 : Option Addr) (c0 : Nat) (l0 : List Int) (r1 : Int) (r2 : List Int) (w : World) (hr0 : Kd.C (Kd.int .u8) w A0 l0.length l0) (hc0 : l0.length ≤ c0) (h : spec_SubjectOf.f k l0 = some (r1, r2)) :
  Calls Tryz.prog 5 #[.slice A0 l0.length c0] w fun e w' => ∃ v1_ : Value, e = .returned (.agg #[.int .i64 r1, v1_]) ∧ Kd.R (Kd.int .i64) 2 w' w.heap.size (fun _ => True) v1_ r2 ∧ Below w.heap.size w w' := by
 have hu25 := Tryz.underlying25
 have HR0 := aM hr0
 have HC0 := aM hc0
 clear hr0 hc0
 have HB := aM (Below.refl w.heap.size w)
 have H : (if (l0.length : Int) > 400 then (some (2, ([] : List Int))) else ((spec_l6Subject.f k l0).bind fun bt337 => (some (bt337.2, bt337.1)))) = some (r1, r2) := h
 clear h
 by_cases c2 : (l0.length : Int) > 400
 ·rw [if_pos c2] at H
  have c2b0 : decide (400 < (l0.length : Int)) = true := decide_eq_true c2
  have c2b1 : decide (400 < l0.length) = true := decide_eq_true (by omega)
  clear c2
  simp only [Option.some.injEq, Prod.mk.injEq] at H
  obtain ⟨rfl, rfl⟩ := H
  go_enter Tryz.func5, Tryz.ntmps5
  go_wp2_with (first | ((with_reducible refine gate_dst (N := 2) rfl ?_); refine box_event ?hg (N := 2) ?hd (cs := #[.int .i64 0, .slice none 0 0]) (t := 25) ?hr ?_; (case hd => rfl); (case hg => rfl); (case hr => exact z8); intro gb336 hg w3 hbox hb; have BK336 := aM (hbox); have GW336 := aM ((z11 : w.heap.size ≤ gb336)); have GE336 := aM ((z11 : w.heap.size ≤ gb336)); replace HB := aM (below_step bB hb); clear hb hbox hg; have hcz4_0 : w3.cell? ⟨gb336, 0, none⟩ = some (.int .i64 0) := (blk_cell BK336.out 0).trans rfl; have hcz4_1 : w3.cell? ⟨gb336, 1, none⟩ = some (.slice none 0 0) := (blk_cell BK336.out 1).trans rfl; have hfz4_0 := blk_frozen BK336.out 0; have hfz4_1 := blk_frozen BK336.out 1))
  refine bodyPost_ret (results_cell_row rfl _ _ gb336 25 #[.int .i64 2, .slice none 0 0] (0, 0) _ rfl (z7 BK336.out) Tryz.underlying25 rfl (by kernel_rfl)) rfl ?_
  exact ⟨_, bE, z3, bG GE336⟩
 rw [if_neg c2] at H
 have c2b0 : decide (400 < (l0.length : Int)) = false := decide_eq_false c2
 have c2b1 : decide (400 < l0.length) = false := decide_eq_false (by omega)
 clear c2
 replace H := Option.bind_eq_some_iff.mp H
 obtain ⟨⟨t337, t338⟩, A50, H⟩ := H
 replace H : (some (t338, t337)) = some (r1, r2) := H
 have A5 := aM A50
 clear A50
 simp only [Option.some.injEq, Prod.mk.injEq] at H
 obtain ⟨rfl, rfl⟩ := H
 go_enter Tryz.func5, Tryz.ntmps5
 go_wp2_with (first | ((with_reducible refine gate_dst (N := 2) rfl ?_); refine box_event ?hg (N := 2) ?hd (cs := #[.int .i64 0, .slice none 0 0]) (t := 25) ?hr ?_; (case hd => rfl); (case hg => rfl); (case hr => exact z8); intro gb336 hg w6 hbox hb; have BK336 := aM (hbox); have GW336 := aM ((z11 : w.heap.size ≤ gb336)); have GE336 := aM ((z11 : w.heap.size ≤ gb336)); replace HB := aM (below_step bB hb); clear hb hbox hg) | ((with_reducible refine gate_callee (f := 23) rfl ?_); refine gL_ (some 11) Tryz.func23 #[.slice A0 l0.length c0] ?_; (with_reducible refine (spec_l6Subject.calls k _ _ l0 t337 t338 _ ?side1 ?side2 A5.out).mono ?_); (case side1 => exact z4 HR0.out); (case side2 => exact HC0.out); rintro e w7 ⟨v339, rfl, ho0, hb⟩; refine ⟨_, rfl, ?_⟩; have HO340 := aM (Kd.R_lower ho0 (below_size (bG GE336))); replace BK336 := aM (blk_below (g := gb336) (o := .cells #[.int .i64 0, .slice none 0 0] 25 (0, 0)) (bL BK336) hb); replace HB := aM (below_step (bG GE336) hb); (try clear ho0); obtain ⟨Ao8, co8, eo8⟩ := Kd.R_slice HO340.out; subst eo8; have hcz9_0 : w7.cell? ⟨gb336, 0, none⟩ = some (.int .i64 0) := (blk_cell BK336.out 0).trans rfl; have hcz9_1 : w7.cell? ⟨gb336, 1, none⟩ = some (.slice none 0 0) := (blk_cell BK336.out 1).trans rfl; have hfz9_0 := blk_frozen BK336.out 0; have hfz9_1 := blk_frozen BK336.out 1))
 refine bodyPost_ret (results_cell_row rfl _ _ gb336 25 #[.int .i64 t338, .slice Ao8 t337.length co8] (0, 0) _ rfl (by (with_reducible repeat (first | refine blk_drewN ?_ _ | refine blk_drew ?_ | refine blk_alloc ?_ _)); refine blk_put (cs := #[.int .i64 t338, .slice none 0 0]) ?_ 1 _ rfl; (with_reducible repeat (first | refine blk_drewN ?_ _ | refine blk_drew ?_ | refine blk_alloc ?_ _)); refine blk_put (cs := #[.int .i64 0, .slice none 0 0]) ?_ 0 _ rfl; (with_reducible repeat (first | refine blk_drewN ?_ _ | refine blk_drew ?_ | refine blk_alloc ?_ _)); exact BK336.out) Tryz.underlying25 rfl (by kernel_rfl)) rfl ?_
 exact ⟨_, bE, by (with_reducible repeat (first | apply Kd.R_alloc | apply Kd.R_drewN | apply Kd.R_drew)); exact Kd.R_mono (Kd.R_far (p := ⟨gb336, 1, none⟩) (Kd.R_far (p := ⟨gb336, 0, none⟩) (Kd.R_types HO340.out BK336.out (by decide)) (fun _ hk => hk.2) (.int .i64 t338)) (fun _ hk => hk.2) (.slice Ao8 t337.length co8)) (fun _ hk => trivial), bG GE336⟩
def laws_toByteS.l0 : Nat → List Int → List Int → Int → Option (List Int)
 | 0, _, _, _ => none
 | k + 1, x0, x3, x4 => if x4 < (x0.length : Int) then (if 0 ≤ x4 then (if x4 < (x3.length : Int) then (laws_toByteS.l0 k x0 (x3.set (x4 : Int).toNat (rd x0 x4)) (wrap64 (x4 + 1))) else (none)) else (none)) else (some x3)
def laws_toByteS.f (k : Nat) (l0 : List Int) : Option (List Int) := if 0 ≤ (l0.length : Int) then (if ((l0.length : Int) : Int).toNat ≤ 281474976710656 then (laws_toByteS.l0 k l0 (List.replicate ((l0.length : Int) : Int).toNat 0) 0) else (none)) else (none)
set_option maxHeartbeats 8000000 in
set_option maxRecDepth 100000 in
theorem laws_toByteS.calls (k : Nat) (A0 : Option Addr) (c0 : Nat) (l0 : List Int) (r : List Int) (w : World) (hr0 : Kd.C (Kd.int .u8) w A0 l0.length l0) (hc0 : l0.length ≤ c0) (h : laws_toByteS.f k l0 = some r) :
  Calls Tryz.prog 6 #[.slice A0 l0.length c0] w fun e w' => ∃ v0_ : Value, e = .returned (v0_) ∧ Kd.R (Kd.int .u8) 5 w' w.heap.size (fun _ => True) v0_ r ∧ Below w.heap.size w w' := by
 have HR0 := aM hr0
 have HC0 := aM hc0
 clear hr0 hc0
 have HB := aM (Below.refl w.heap.size w)
 have H : (if 0 ≤ (l0.length : Int) then (if ((l0.length : Int) : Int).toNat ≤ 281474976710656 then (laws_toByteS.l0 k l0 (List.replicate ((l0.length : Int) : Int).toNat 0) 0) else (none)) else (none)) = some r := h
 clear h
 by_cases c2 : 0 ≤ (l0.length : Int)
 ·rw [if_pos c2] at H
  have c2b0 := eq_true c2
  have c2b1 : decide (0 ≤ (l0.length : Int)) = true := decide_eq_true c2
  (try have c2z := eq_true (show (0 : Int) ≤ (c0 : Int) from (by have h_ := HC0.out; omega)))
  clear c2
  by_cases c3 : ((l0.length : Int) : Int).toNat ≤ 281474976710656
  ·rw [if_pos c3] at H
   have c3b0 := eq_true c3
   have c3b1 : decide (((l0.length : Int) : Int).toNat ≤ 281474976710656) = true := decide_eq_true c3
   clear c3
   obtain ⟨y341, hy341⟩ : ∃ y_ : List Int, y_ = (List.replicate ((l0.length : Int) : Int).toNat 0) := ⟨_, rfl⟩
   replace H : (laws_toByteS.l0 k l0 y341 0) = some r := z0 hy341
   have Ny341 := aM hy341
   clear hy341
   have H' := aM H
   clear H
   go_enter Tryz.func6, Tryz.ntmps6
   go_wp2_with (first | ((with_reducible refine gate_dst (N := 7) rfl ?_); refine Kd.R_make (Kd.int .u8) _ 5 rfl (N := 7) rfl 22 _ _ rfl (l0.length : Int) rfl rfl Tryz.underlying22 (.int .u8 0) 1 info5 rfl (by decide) (by omega) 0 (ok := fun _ => True) (okp := fun _ => True) rfl (fun _ hk => hk) trivial (pI) (Nat.le_trans (Nat.mul_le_mul_right _ (pI : (l0.length : Int).toNat ≤ 281474976710656)) (by omega)) (Below.refl _ _) (Nat.le_refl _) ?_; intro v342 w4 ho5 hb hg_ hnew_; clear hg_ hnew_; (first | rw [← Ny341.out] at ho5 | (simp only [Int.reduceToNat] at ho5; rw [← Ny341.out] at ho5)); have HO343 := aM (Kd.R_lower ho5 (below_size bB)); replace HB := aM (below_step bB hb); clear hb ho5))
   go_loopg [4] k (fun kq v4 w' => ∃ (x3_1 : List Int) (x4_1 : Int), v4 = .int .i64 x4_1 ∧ Aside0 (laws_toByteS.l0 kq l0 x3_1 x4_1 = some r) ∧ Aside0 (kq ≤ k) ∧ Aside0 (Kd.R (Kd.int .u8) 5 w' w.heap.size (fun _ => True) v342 x3_1) ∧ Aside0 (Below w.heap.size w w'))
   case atStart => exact ⟨(y341), (0), bS, H', ⟨Nat.le_refl _⟩, ⟨bR HO343⟩, ⟨bB⟩⟩
   case round =>
    clear H'
    try clear c2
    try clear c2b0
    try clear c2b1
    try clear p2
    try clear c3
    try clear c3b0
    try clear c3b1
    obtain ⟨x3_1, x4_1, rfl, HA, HK1, HO_3, HB⟩ := hrel
    cases gk with
    | zero => exact absurd HA.out (by simp [laws_toByteS.l0])
    | succ k1 =>
     have H := HA.out
     clear HA
     simp only [laws_toByteS.l0] at H
     by_cases c6 : x4_1 < (l0.length : Int)
     ·rw [if_pos c6] at H
      have c6b0 : decide (x4_1 < (l0.length : Int)) = true := decide_eq_true c6
      clear c6
      by_cases c7 : 0 ≤ x4_1
      ·rw [if_pos c7] at H
       have c7b0 : decide (0 ≤ x4_1) = true := decide_eq_true c7
       clear c7
       by_cases c8 : x4_1 < (x3_1.length : Int)
       ·rw [if_pos c8] at H
        have c8b0 : decide (x4_1 < (x3_1.length : Int)) = true := decide_eq_true c8
        clear c8
        obtain ⟨y345, hy345⟩ : ∃ y_ : List Int, y_ = (x3_1.set (x4_1 : Int).toNat (rd l0 x4_1)) := ⟨_, rfl⟩
        replace H : (laws_toByteS.l0 k1 l0 y345 (wrap64 (x4_1 + 1))) = some r := z0 hy345
        have Ny345 := aM hy345
        clear hy345
        have H' := aM H
        clear H
        have p344 : 0 ≤ (x4_1 : Int) := pI
        have q344 : x4_1 < (l0.length : Int) := pI
        obtain ⟨ad344, e344, hx344_0⟩ := Kd.at_int HR0.out x4_1 p344 q344
        cases e344
        replace hx344_0 := (HB.out.cell (World.block_lt_of_cell? w _ hx344_0)).trans hx344_0
        replace p344 := eq_true p344
        replace q344 := eq_true q344
        have p9 : 0 ≤ (x4_1 : Int) := pI
        have q9 : (x4_1 : Int) < ((x3_1.length : Int) : Int) := pI
        obtain ⟨go9, co9, eo9, gb9, gl9, cl9, HG9⟩ := Kd.R_form HO_3.out (by omega)
        (first | cases eo9 | (injection eo9 with ea_ en_ ec_; (first | subst ea_ | (injection ea_ with ea_; subst ea_)); subst ec_; clear en_))
        have GB9 := aM gb9
        have GG9 := aM HG9
        clear gb9 gl9 HG9
        obtain ⟨hx9_0, hf9_0⟩ := Kd.R_celln 0 HO_3.out (x4_1 : Int) p9 q9
        replace p9 := eq_true p9
        replace q9 := eq_true q9
        have HP10 := Kd.R_putg HO_3.out (x4_1 : Int) (rd l0 x4_1)
        go_wp2_with (first | ((with_reducible refine gate_store (t := 5) (p := 20) rfl ?_); refine store_event (t := 5) (p := 20) (v := ?vo_w11) (w1 := (wr.setCell ⟨go9, (x4_1 : Int).toNat, none⟩ (.int .u8 (rd l0 x4_1)))) ?hg ?ho ?hn ?hr ?_; (case ho => rfl); (case hg => rfl); (case hn => rfl); (case hr => exact z8); intro w11 hw; have hg : wr.grownBy w11 (some go9) := (by rw [hw]; exact HP10.2); have hp_ : Kd.R (Kd.int .u8) 5 w11 w.heap.size (fun _ => True) (.slice (some ⟨go9, 0, none⟩) x3_1.length co9) y345 := (by rw [hw, Ny345.out]; exact HP10.1); clear HP10; replace HO_3 := aM (hp_); replace HB := aM ((z48 GB9.out : Below w.heap.size w w11)); clear hg hw hp_))
        go_roundg k1
        case measure => have := HK1.out; omega
        case rel => exact ⟨(y345), (wrap64 (x4_1 + 1)), bS, H', ⟨by have := HK1.out; omega⟩, ⟨bR HO_3⟩, ⟨bB⟩⟩
       rw [if_neg c8] at H
       exact absurd H (by simp)
      rw [if_neg c7] at H
      exact absurd H (by simp)
     rw [if_neg c6] at H
     have c6b0 : decide (x4_1 < (l0.length : Int)) = false := decide_eq_false c6
     clear c6
     obtain rfl := Option.some.inj H
     go_wp2
     go_ret
     exact ⟨_, bE, bR HO_3, bB⟩
  rw [if_neg c3] at H
  exact absurd H (by simp)
 rw [if_neg c2] at H
 exact absurd H (by simp)
def stringslite_HasPrefix.f (a0 : ByteArray) (a1 : ByteArray) : Option (Bool) := if (a0.size : Int) ≥ (a1.size : Int) then (if 0 ≤ (a1.size : Int) then (if (a1.size : Int) ≤ (a0.size : Int) then (some ((a0.extract 0 ((a1.size : Int) : Int).toNat).toList == a1.toList)) else (none)) else (none)) else (some false)
set_option maxHeartbeats 8000000 in
set_option maxRecDepth 100000 in
theorem stringslite_HasPrefix.calls (a0 : ByteArray) (a1 : ByteArray) (r : Bool) (w : World) (h : stringslite_HasPrefix.f a0 a1 = some r) :
  Calls Tryz.prog 108 #[.string a0, .string a1] w fun e w' => e = .returned (.bool r) ∧ Drawn0 w w' := by
 have H : (if (a0.size : Int) ≥ (a1.size : Int) then (if 0 ≤ (a1.size : Int) then (if (a1.size : Int) ≤ (a0.size : Int) then (some ((a0.extract 0 ((a1.size : Int) : Int).toNat).toList == a1.toList)) else (none)) else (none)) else (some false)) = some r := h
 clear h
 by_cases c3 : (a0.size : Int) ≥ (a1.size : Int)
 ·rw [if_pos c3] at H
  have c3b0 : decide ((a1.size : Int) ≤ (a0.size : Int)) = true := decide_eq_true c3
  have c3b1 : decide (a1.size ≤ a0.size) = true := decide_eq_true (Int.ofNat_le.mp c3)
  clear c3
  by_cases c4 : 0 ≤ (a1.size : Int)
  ·rw [if_pos c4] at H
   have c4b0 := eq_true c4
   have c4b1 : decide (0 ≤ (a1.size : Int)) = true := decide_eq_true c4
   clear c4
   by_cases c5 : (a1.size : Int) ≤ (a0.size : Int)
   ·rw [if_pos c5] at H
    have c5b0 := eq_true c5
    have c5b1 : decide ((a1.size : Int) ≤ (a0.size : Int)) = true := decide_eq_true c5
    clear c5
    obtain rfl := Option.some.inj H
    go_enter Tryz.func108, Tryz.ntmps108
    go_wp2
    go_ret
    exact ⟨bS, z1⟩
   rw [if_neg c5] at H
   exact absurd H (by simp)
  rw [if_neg c4] at H
  exact absurd H (by simp)
 rw [if_neg c3] at H
 have c3b0 : decide ((a1.size : Int) ≤ (a0.size : Int)) = false := decide_eq_false c3
 have c3b1 : decide (a1.size ≤ a0.size) = false := decide_eq_false (fun h => c3 (Int.ofNat_le.mpr h))
 clear c3
 obtain rfl := Option.some.inj H
 go_enter Tryz.func108, Tryz.ntmps108
 go_wp2
 go_ret
 exact ⟨bS, z1⟩
def stringslite_CutPrefix.f (a0 : ByteArray) (a1 : ByteArray) : Option (ByteArray × Bool) := (stringslite_HasPrefix.f a0 a1).bind fun t346 => (if t346 = true then (if 0 ≤ (a1.size : Int) then (if (a1.size : Int) ≤ (a0.size : Int) then (some (a0.extract ((a1.size : Int) : Int).toNat a0.size, true)) else (none)) else (none)) else (some (a0, false)))
set_option maxHeartbeats 8000000 in
set_option maxRecDepth 100000 in
theorem stringslite_CutPrefix.calls (a0 : ByteArray) (a1 : ByteArray) (r1 : ByteArray) (r2 : Bool) (w : World) (h : stringslite_CutPrefix.f a0 a1 = some (r1, r2)) :
  Calls Tryz.prog 106 #[.string a0, .string a1] w fun e w' => e = .returned (.tuple #[.string r1, .bool r2]) ∧ Drawn0 w w' := by
 have H : ((stringslite_HasPrefix.f a0 a1).bind fun t346 => (if t346 = true then (if 0 ≤ (a1.size : Int) then (if (a1.size : Int) ≤ (a0.size : Int) then (some (a0.extract ((a1.size : Int) : Int).toNat a0.size, true)) else (none)) else (none)) else (some (a0, false)))) = some (r1, r2) := h
 clear h
 replace H := Option.bind_eq_some_iff.mp H
 obtain ⟨t346, A30, H⟩ := H
 replace H : (if t346 = true then (if 0 ≤ (a1.size : Int) then (if (a1.size : Int) ≤ (a0.size : Int) then (some (a0.extract ((a1.size : Int) : Int).toNat a0.size, true)) else (none)) else (none)) else (some (a0, false))) = some (r1, r2) := H
 have A3 := aM A30
 clear A30
 by_cases c4 : t346 = true
 ·subst c4
  have H1 : (if 0 ≤ (a1.size : Int) then (if (a1.size : Int) ≤ (a0.size : Int) then (some (a0.extract ((a1.size : Int) : Int).toNat a0.size, true)) else (none)) else (none)) = some (r1, r2) := z14
  clear H
  have H := H1
  clear H1
  by_cases c5 : 0 ≤ (a1.size : Int)
  ·rw [if_pos c5] at H
   have c5b0 := eq_true c5
   have c5b1 : decide (0 ≤ (a1.size : Int)) = true := decide_eq_true c5
   clear c5
   by_cases c6 : (a1.size : Int) ≤ (a0.size : Int)
   ·rw [if_pos c6] at H
    have c6b0 := eq_true c6
    have c6b1 : decide ((a1.size : Int) ≤ (a0.size : Int)) = true := decide_eq_true c6
    clear c6
    simp only [Option.some.injEq, Prod.mk.injEq] at H
    obtain ⟨rfl, rfl⟩ := H
    go_enter Tryz.func106, Tryz.ntmps106
    go_wp2_with (first | ((with_reducible refine gate_callee (f := 108) rfl ?_); refine gL_ (some 8) Tryz.func108 #[.string a0, .string a1] ?_; (with_reducible refine (stringslite_HasPrefix.calls a0 a1 true _ A3.out).mono ?_); rintro e w' ⟨rfl, ⟨nd, rfl⟩⟩; refine ⟨_, rfl, ?_⟩))
    go_ret2
    exact ⟨bS, z1⟩
   rw [if_neg c6] at H
   exact absurd H (by simp)
  rw [if_neg c5] at H
  exact absurd H (by simp)
 replace c4 := Bool.eq_false_iff.mpr c4
 subst c4
 have H1 : (some (a0, false)) = some (r1, r2) := z5
 clear H
 have H := H1
 clear H1
 simp only [Option.some.injEq, Prod.mk.injEq] at H
 obtain ⟨rfl, rfl⟩ := H
 go_enter Tryz.func106, Tryz.ntmps106
 go_wp2_with (first | ((with_reducible refine gate_callee (f := 108) rfl ?_); refine gL_ (some 8) Tryz.func108 #[.string a0, .string a1] ?_; (with_reducible refine (stringslite_HasPrefix.calls a0 a1 false _ A3.out).mono ?_); rintro e w' ⟨rfl, ⟨nd, rfl⟩⟩; refine ⟨_, rfl, ?_⟩))
 go_ret2
 exact ⟨bS, z1⟩
def strings_CutPrefix.f (a0 : ByteArray) (a1 : ByteArray) : Option (ByteArray × Bool) := (stringslite_CutPrefix.f a0 a1).bind fun bt347 => (some (bt347.1, bt347.2))
set_option maxHeartbeats 8000000 in
set_option maxRecDepth 100000 in
theorem strings_CutPrefix.calls (a0 : ByteArray) (a1 : ByteArray) (r1 : ByteArray) (r2 : Bool) (w : World) (h : strings_CutPrefix.f a0 a1 = some (r1, r2)) :
  Calls Tryz.prog 76 #[.string a0, .string a1] w fun e w' => e = .returned (.tuple #[.string r1, .bool r2]) ∧ Drawn0 w w' := by
 have H : ((stringslite_CutPrefix.f a0 a1).bind fun bt347 => (some (bt347.1, bt347.2))) = some (r1, r2) := h
 clear h
 replace H := Option.bind_eq_some_iff.mp H
 obtain ⟨⟨t347, t348⟩, A30, H⟩ := H
 replace H : (some (t347, t348)) = some (r1, r2) := H
 have A3 := aM A30
 clear A30
 simp only [Option.some.injEq, Prod.mk.injEq] at H
 obtain ⟨rfl, rfl⟩ := H
 go_enter Tryz.func76, Tryz.ntmps76
 go_wp2_with (first | ((with_reducible refine gate_callee (f := 106) rfl ?_); refine gL_ (some 8) Tryz.func106 #[.string a0, .string a1] ?_; (with_reducible refine (stringslite_CutPrefix.calls a0 a1 t347 t348 _ A3.out).mono ?_); rintro e w' ⟨rfl, ⟨nd, rfl⟩⟩; refine ⟨_, rfl, ?_⟩))
 go_ret2
 exact ⟨bS, z1⟩
end Go.Proofs.YtjopgmjmjnfcjaaGreatDoor.PSubjectOf
