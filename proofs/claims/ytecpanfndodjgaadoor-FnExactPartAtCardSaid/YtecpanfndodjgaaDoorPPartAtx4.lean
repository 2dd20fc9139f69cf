/- Part of the proof; words that it uses. -/
import Derived.Test.YtecpanfndodjgaaDoorPPartAtx0
import Derived.Test.YtecpanfndodjgaaDoorPPartAtx1
import Derived.Test.YtecpanfndodjgaaDoorPPartAtx2
import Derived.Test.YtecpanfndodjgaaDoorPPartAtx3
namespace Go.Proofs.YtecpanfndodjgaaDoor.PPartAt
open Go.RowKit Go.Proofs.YtecpanfndodjgaaDoorW.PrintWords Go.Proofs.YtecpanfndodjgaaDoorW.PrintLast Go.Proofs.YtecpanfndodjgaaDoorW.PrintMore
attribute [local go_sem] max2_int max_two
set_option linter.unusedVariables false
set_option linter.unusedSimpArgs false
def spec_l4Name.l0 : Nat → ByteArray → Int → Option (Bool)
 | 0, _, _ => none
 | k + 1, x0, x3 => if x3 < (x0.size : Int) then (if 0 ≤ x3 then ((spec_l4NameByte.f (bt x0 x3)).bind fun t189 => (if t189 = true then (spec_l4Name.l0 k x0 (wrap64 (x3 + 1))) else (some false))) else (none)) else ((spec_l1In.f (x0.size : Int) 1 30).bind fun t190 => (some t190))
def spec_l4Name.f (k : Nat) (a0 : ByteArray) : Option (Bool) := spec_l4Name.l0 k a0 0
set_option maxHeartbeats 8000000 in
set_option maxRecDepth 100000 in
theorem spec_l4Name.calls (k : Nat) (a0 : ByteArray) (r : Bool) (w : World) (h : spec_l4Name.f k a0 = some r) :
  Calls Tryd.prog 150 #[.string a0] w fun e w' => e = .returned (.bool r) ∧ Drawn0 w w' := by
 have H : (spec_l4Name.l0 k a0 0) = some r := h
 clear h
 have H' := aM H
 clear H
 go_enter Tryd.func150, Tryd.ntmps150
 go_wp2
 go_loopg [3] k (fun kq v3 w' => ∃ (x3_1 : Int), v3 = .int .i64 x3_1 ∧ Aside0 (spec_l4Name.l0 kq a0 x3_1 = some r) ∧ Aside0 (kq ≤ k) ∧ Drawn0 w w')
 case atStart => exact ⟨(0), bS, H', ⟨Nat.le_refl _⟩, zz5⟩
 case round =>
  clear H'
  try clear c1
  obtain ⟨x3_1, rfl, HA, HK1, ⟨m1, rfl⟩⟩ := hrel
  cases gk with
  | zero => exact absurd HA.out (by simp [spec_l4Name.l0])
  | succ k1 =>
   have H := HA.out
   clear HA
   simp only [spec_l4Name.l0] at H
   by_cases c2 : x3_1 < (a0.size : Int)
   ·rw [if_pos c2] at H
    have c2b0 : decide (x3_1 < (a0.size : Int)) = true := decide_eq_true c2
    clear c2
    by_cases c3 : 0 ≤ x3_1
    ·rw [if_pos c3] at H
     have c3b0 : decide (0 ≤ x3_1) = true := decide_eq_true c3
     clear c3
     replace H := Option.bind_eq_some_iff.mp H
     obtain ⟨t189, A50, H⟩ := H
     replace H : (if t189 = true then (spec_l4Name.l0 k1 a0 (wrap64 (x3_1 + 1))) else (some false)) = some r := H
     have A5 := aM A50
     clear A50
     by_cases c6 : t189 = true
     ·subst c6
      have H1 : (spec_l4Name.l0 k1 a0 (wrap64 (x3_1 + 1))) = some r := zz29
      clear H
      have H := H1
      clear H1
      have H' := aM H
      clear H
      have p4 : 0 ≤ (x3_1 : Int) := pI
      have q4 : x3_1 < (a0.size : Int) := pI
      have hx4 := bt_at a0 x3_1
      replace p4 := eq_true p4
      replace q4 := eq_true q4
      go_wp2_with (first | ((with_reducible refine gate_callee (f := 156) rfl ?_); refine gL_ (some 13) Tryd.func156 #[.int .u8 (bt a0 x3_1)] ?_; (with_reducible refine (spec_l4NameByte.calls (bt a0 x3_1) true _ A5.out).mono ?_); rintro e w' ⟨rfl, ⟨nd, rfl⟩⟩; refine ⟨_, rfl, ?_⟩))
      go_roundg k1
      case measure => have := HK1.out; omega
      case rel => exact ⟨(wrap64 (x3_1 + 1)), bS, H', ⟨by have := HK1.out; omega⟩, zz5⟩
     replace c6 := Bool.eq_false_iff.mpr c6
     subst c6
     have H1 : (some false) = some r := zz15
     clear H
     have H := H1
     clear H1
     obtain rfl := Option.some.inj H
     have p4 : 0 ≤ (x3_1 : Int) := pI
     have q4 : x3_1 < (a0.size : Int) := pI
     have hx4 := bt_at a0 x3_1
     replace p4 := eq_true p4
     replace q4 := eq_true q4
     go_wp2_with (first | ((with_reducible refine gate_callee (f := 156) rfl ?_); refine gL_ (some 13) Tryd.func156 #[.int .u8 (bt a0 x3_1)] ?_; (with_reducible refine (spec_l4NameByte.calls (bt a0 x3_1) false _ A5.out).mono ?_); rintro e w' ⟨rfl, ⟨nd, rfl⟩⟩; refine ⟨_, rfl, ?_⟩))
     go_ret
     exact ⟨bS, zz5⟩
    rw [if_neg c3] at H
    exact absurd H (by simp)
   rw [if_neg c2] at H
   have c2b0 : decide (x3_1 < (a0.size : Int)) = false := decide_eq_false c2
   clear c2
   replace H := Option.bind_eq_some_iff.mp H
   obtain ⟨t190, A70, H⟩ := H
   replace H : (some t190) = some r := H
   have A7 := aM A70
   clear A70
   obtain rfl := Option.some.inj H
   go_wp2_with (first | ((with_reducible refine gate_callee (f := 47) rfl ?_); refine gL_ (some 17) Tryd.func47 #[.int .i64 (a0.size : Int), .int .i64 1, .int .i64 30] ?_; (with_reducible refine (spec_l1In.calls (a0.size : Int) 1 30 t190 _ A7.out).mono ?_); rintro e w' ⟨rfl, ⟨nd, rfl⟩⟩; refine ⟨_, rfl, ?_⟩))
   go_ret
   exact ⟨bS, zz5⟩
def spec_l4Value.l0 : Nat → ByteArray → Int → Option (Bool)
 | 0, _, _ => none
 | k + 1, x0, x3 => if x3 < (x0.size : Int) then (if 0 ≤ x3 then (if (bt x0 x3) < 32 then (some false) else (if (bt x0 x3) = 127 then (some false) else (spec_l4Value.l0 k x0 (wrap64 (x3 + 1))))) else (none)) else (some (decide ((x0.size : Int) ≤ 120)))
def spec_l4Value.f (k : Nat) (a0 : ByteArray) : Option (Bool) := spec_l4Value.l0 k a0 0
set_option maxHeartbeats 8000000 in
set_option maxRecDepth 100000 in
theorem spec_l4Value.calls (k : Nat) (a0 : ByteArray) (r : Bool) (w : World) (h : spec_l4Value.f k a0 = some r) :
  Calls Tryd.prog 151 #[.string a0] w fun e w' => e = .returned (.bool r) ∧ Drawn0 w w' := by
 have H : (spec_l4Value.l0 k a0 0) = some r := h
 clear h
 have H' := aM H
 clear H
 go_enter Tryd.func151, Tryd.ntmps151
 go_wp2
 go_loopg [3] k (fun kq v3 w' => ∃ (x3_1 : Int), v3 = .int .i64 x3_1 ∧ Aside0 (spec_l4Value.l0 kq a0 x3_1 = some r) ∧ Aside0 (kq ≤ k) ∧ Drawn0 w w')
 case atStart => exact ⟨(0), bS, H', ⟨Nat.le_refl _⟩, zz5⟩
 case round =>
  clear H'
  try clear c1
  obtain ⟨x3_1, rfl, HA, HK1, ⟨m1, rfl⟩⟩ := hrel
  cases gk with
  | zero => exact absurd HA.out (by simp [spec_l4Value.l0])
  | succ k1 =>
   have H := HA.out
   clear HA
   simp only [spec_l4Value.l0] at H
   by_cases c2 : x3_1 < (a0.size : Int)
   ·rw [if_pos c2] at H
    have c2b0 : decide (x3_1 < (a0.size : Int)) = true := decide_eq_true c2
    clear c2
    by_cases c3 : 0 ≤ x3_1
    ·rw [if_pos c3] at H
     have c3b0 : decide (0 ≤ x3_1) = true := decide_eq_true c3
     clear c3
     by_cases c5 : (bt a0 x3_1) < 32
     ·rw [if_pos c5] at H
      have c5b0 : decide ((bt a0 x3_1) < 32) = true := decide_eq_true c5
      clear c5
      obtain rfl := Option.some.inj H
      have p4 : 0 ≤ (x3_1 : Int) := pI
      have q4 : x3_1 < (a0.size : Int) := pI
      have hx4 := bt_at a0 x3_1
      replace p4 := eq_true p4
      replace q4 := eq_true q4
      go_wp2
      go_ret
      exact ⟨bS, zz5⟩
     rw [if_neg c5] at H
     have c5b0 : decide ((bt a0 x3_1) < 32) = false := decide_eq_false c5
     clear c5
     by_cases c7 : (bt a0 x3_1) = 127
     ·rw [if_pos c7] at H
      have c7b0 : ((bt a0 x3_1) == 127) = true := beq_iff_eq.mpr c7
      have c7b1 : ((bt a0 x3_1) != 127) = false := bne_eq_false_iff_eq.mpr c7
      clear c7
      obtain rfl := Option.some.inj H
      have p4 : 0 ≤ (x3_1 : Int) := pI
      have q4 : x3_1 < (a0.size : Int) := pI
      have hx4 := bt_at a0 x3_1
      replace p4 := eq_true p4
      replace q4 := eq_true q4
      have p6 : 0 ≤ (x3_1 : Int) := pI
      have q6 : x3_1 < (a0.size : Int) := pI
      have hx6 := bt_at a0 x3_1
      replace p6 := eq_true p6
      replace q6 := eq_true q6
      go_wp2
      go_ret
      exact ⟨bS, zz5⟩
     rw [if_neg c7] at H
     have c7b0 : ((bt a0 x3_1) == 127) = false := beq_eq_false_iff_ne.mpr c7
     have c7b1 : ((bt a0 x3_1) != 127) = true := bne_iff_ne.mpr c7
     have H' := aM H
     clear H
     have p4 : 0 ≤ (x3_1 : Int) := pI
     have q4 : x3_1 < (a0.size : Int) := pI
     have hx4 := bt_at a0 x3_1
     replace p4 := eq_true p4
     replace q4 := eq_true q4
     have p6 : 0 ≤ (x3_1 : Int) := pI
     have q6 : x3_1 < (a0.size : Int) := pI
     have hx6 := bt_at a0 x3_1
     replace p6 := eq_true p6
     replace q6 := eq_true q6
     go_wp2
     go_roundg k1
     case measure => have := HK1.out; omega
     case rel => exact ⟨(wrap64 (x3_1 + 1)), bS, H', ⟨by have := HK1.out; omega⟩, zz5⟩
    rw [if_neg c3] at H
    exact absurd H (by simp)
   rw [if_neg c2] at H
   have c2b0 : decide (x3_1 < (a0.size : Int)) = false := decide_eq_false c2
   clear c2
   obtain rfl := Option.some.inj H
   go_wp2
   go_ret
   exact ⟨bS, zz5⟩
def spec_l4Fault.l0 : Nat → List (S151) → Int → Option (Int)
 | 0, _, _ => none
 | k + 1, x0, x3 => if x3 < (x0.length : Int) then (if 0 ≤ x3 then ((spec_l4Name.f k ((rd_T151 x0 x3).f0)).bind fun t192 => (if t192 = true then ((spec_l4Value.f k ((rd_T151 x0 x3).f1)).bind fun t194 => (if t194 = true then (spec_l4Fault.l0 k x0 (wrap64 (x3 + 1))) else (some 5))) else (some 5))) else (none)) else (some 0)
def spec_l4Fault.f (k : Nat) (l0 : List (S151)) : Option (Int) := if (l0.length : Int) > 8 then (some 2) else (spec_l4Fault.l0 k l0 0)
set_option maxHeartbeats 8000000 in
set_option maxRecDepth 100000 in
theorem spec_l4Fault.calls (k : Nat) (A0 : Option Addr) (c0 : Nat) (l0 : List (S151)) (r : Int) (w : World) (hr0 : Kd.C k151 w A0 l0.length l0) (hc0 : l0.length ≤ c0) (h : spec_l4Fault.f k l0 = some r) :
  Calls Tryd.prog 143 #[.slice A0 l0.length c0] w fun e w' => e = .returned (.int .i64 r) ∧ Drawn0 w w' := by
 have HR0 := aM hr0
 have HC0 := aM hc0
 clear hr0 hc0
 have H : (if (l0.length : Int) > 8 then (some 2) else (spec_l4Fault.l0 k l0 0)) = some r := h
 clear h
 by_cases c2 : (l0.length : Int) > 8
 ·rw [if_pos c2] at H
  have c2b0 : decide (8 < (l0.length : Int)) = true := decide_eq_true c2
  have c2b1 : decide (8 < l0.length) = true := decide_eq_true (by omega)
  clear c2
  obtain rfl := Option.some.inj H
  go_enter Tryd.func143, Tryd.ntmps143
  go_wp2
  go_ret
  exact ⟨bS, zz5⟩
 rw [if_neg c2] at H
 have c2b0 : decide (8 < (l0.length : Int)) = false := decide_eq_false c2
 have c2b1 : decide (8 < l0.length) = false := decide_eq_false (by omega)
 clear c2
 have H' := aM H
 clear H
 go_enter Tryd.func143, Tryd.ntmps143
 go_wp2
 go_loopg [3] k (fun kq v3 w' => ∃ (x3_1 : Int), v3 = .int .i64 x3_1 ∧ Aside0 (spec_l4Fault.l0 kq l0 x3_1 = some r) ∧ Aside0 (kq ≤ k) ∧ Drawn0 w w')
 case atStart => exact ⟨(0), bS, H', ⟨Nat.le_refl _⟩, zz5⟩
 case round =>
  clear H'
  try clear c1
  try clear c2
  try clear c2b0
  try clear c2b1
  try clear p2
  obtain ⟨x3_1, rfl, HA, HK1, ⟨m1, rfl⟩⟩ := hrel
  cases gk with
  | zero => exact absurd HA.out (by simp [spec_l4Fault.l0])
  | succ k1 =>
   have H := HA.out
   clear HA
   simp only [spec_l4Fault.l0] at H
   by_cases c3 : x3_1 < (l0.length : Int)
   ·rw [if_pos c3] at H
    have c3b0 : decide (x3_1 < (l0.length : Int)) = true := decide_eq_true c3
    clear c3
    by_cases c4 : 0 ≤ x3_1
    ·rw [if_pos c4] at H
     have c4b0 : decide (0 ≤ x3_1) = true := decide_eq_true c4
     clear c4
     replace H := Option.bind_eq_some_iff.mp H
     obtain ⟨t192, A50, H⟩ := H
     replace H : (if t192 = true then ((spec_l4Value.f k1 ((rd_T151 l0 x3_1).f1)).bind fun t194 => (if t194 = true then (spec_l4Fault.l0 k1 l0 (wrap64 (x3_1 + 1))) else (some 5))) else (some 5)) = some r := H
     have A5 := aM A50
     clear A50
     by_cases c6 : t192 = true
     ·subst c6
      have H1 : ((spec_l4Value.f k1 ((rd_T151 l0 x3_1).f1)).bind fun t194 => (if t194 = true then (spec_l4Fault.l0 k1 l0 (wrap64 (x3_1 + 1))) else (some 5))) = some r := zz29
      clear H
      have H := H1
      clear H1
      replace H := Option.bind_eq_some_iff.mp H
      obtain ⟨t194, A70, H⟩ := H
      replace H : (if t194 = true then (spec_l4Fault.l0 k1 l0 (wrap64 (x3_1 + 1))) else (some 5)) = some r := H
      have A7 := aM A70
      clear A70
      by_cases c8 : t194 = true
      ·subst c8
       have H1 : (spec_l4Fault.l0 k1 l0 (wrap64 (x3_1 + 1))) = some r := zz29
       clear H
       have H := H1
       clear H1
       have H' := aM H
       clear H
       have p191 : 0 ≤ (x3_1 : Int) := pI
       have q191 : x3_1 < (l0.length : Int) := pI
       obtain ⟨ad191, e191, hx191_0, hx191_1⟩ := at_T151 HR0.out x3_1 p191 q191
       cases e191
       replace p191 := eq_true p191
       replace q191 := eq_true q191
       go_wp2_with (first | ((with_reducible refine gate_callee (f := 150) rfl ?_); refine gL_ (some 18) Tryd.func150 #[.string ((rd_T151 l0 x3_1).f0)] ?_; (with_reducible refine (spec_l4Name.calls k1 ((rd_T151 l0 x3_1).f0) true _ A5.out).mono ?_); rintro e w' ⟨rfl, ⟨nd, rfl⟩⟩; refine ⟨_, rfl, ?_⟩; have p193 : 0 ≤ (x3_1 : Int) := pI; have q193 : x3_1 < (l0.length : Int) := pI; obtain ⟨ad193, e193, hx193_0, hx193_1⟩ := at_T151 HR0.out x3_1 p193 q193; obtain rfl : ad191 = ad193 := (by injection e193); replace p193 := eq_true p193; replace q193 := eq_true q193) | (go_at_call 151; (with_reducible refine (spec_l4Value.calls k1 ((rd_T151 l0 x3_1).f1) true _ A7.out).mono ?_); rintro e w' ⟨rfl, ⟨nd, rfl⟩⟩))
       go_roundg k1
       case measure => have := HK1.out; omega
       case rel => exact ⟨(wrap64 (x3_1 + 1)), bS, H', ⟨by have := HK1.out; omega⟩, zz5⟩
      replace c8 := Bool.eq_false_iff.mpr c8
      subst c8
      have H1 : (some 5) = some r := zz15
      clear H
      have H := H1
      clear H1
      obtain rfl := Option.some.inj H
      have p191 : 0 ≤ (x3_1 : Int) := pI
      have q191 : x3_1 < (l0.length : Int) := pI
      obtain ⟨ad191, e191, hx191_0, hx191_1⟩ := at_T151 HR0.out x3_1 p191 q191
      cases e191
      replace p191 := eq_true p191
      replace q191 := eq_true q191
      go_wp2_with (first | ((with_reducible refine gate_callee (f := 150) rfl ?_); refine gL_ (some 18) Tryd.func150 #[.string ((rd_T151 l0 x3_1).f0)] ?_; (with_reducible refine (spec_l4Name.calls k1 ((rd_T151 l0 x3_1).f0) true _ A5.out).mono ?_); rintro e w' ⟨rfl, ⟨nd, rfl⟩⟩; refine ⟨_, rfl, ?_⟩; have p193 : 0 ≤ (x3_1 : Int) := pI; have q193 : x3_1 < (l0.length : Int) := pI; obtain ⟨ad193, e193, hx193_0, hx193_1⟩ := at_T151 HR0.out x3_1 p193 q193; obtain rfl : ad191 = ad193 := (by injection e193); replace p193 := eq_true p193; replace q193 := eq_true q193) | (go_at_call 151; (with_reducible refine (spec_l4Value.calls k1 ((rd_T151 l0 x3_1).f1) false _ A7.out).mono ?_); rintro e w' ⟨rfl, ⟨nd, rfl⟩⟩))
      go_ret
      exact ⟨bS, zz5⟩
     replace c6 := Bool.eq_false_iff.mpr c6
     subst c6
     have H1 : (some 5) = some r := zz15
     clear H
     have H := H1
     clear H1
     obtain rfl := Option.some.inj H
     have p191 : 0 ≤ (x3_1 : Int) := pI
     have q191 : x3_1 < (l0.length : Int) := pI
     obtain ⟨ad191, e191, hx191_0, hx191_1⟩ := at_T151 HR0.out x3_1 p191 q191
     cases e191
     replace p191 := eq_true p191
     replace q191 := eq_true q191
     go_wp2_with (first | ((with_reducible refine gate_callee (f := 150) rfl ?_); refine gL_ (some 18) Tryd.func150 #[.string ((rd_T151 l0 x3_1).f0)] ?_; (with_reducible refine (spec_l4Name.calls k1 ((rd_T151 l0 x3_1).f0) false _ A5.out).mono ?_); rintro e w' ⟨rfl, ⟨nd, rfl⟩⟩; refine ⟨_, rfl, ?_⟩))
     go_ret
     exact ⟨bS, zz5⟩
    rw [if_neg c4] at H
    exact absurd H (by simp)
   rw [if_neg c3] at H
   have c3b0 : decide (x3_1 < (l0.length : Int)) = false := decide_eq_false c3
   clear c3
   obtain rfl := Option.some.inj H
   go_wp2
   go_ret
   exact ⟨bS, zz5⟩
def spec_l4Parse.l0 : Nat → List Int → List (S151) → Int → Option ((List (S151)) × Int × Bool)
 | 0, _, _, _ => none
 | k + 1, x0, x5, x6 => if x6 < (x0.length : Int) then ((spec_l4End.f k x0 x6).bind fun t199 => (if t199 = x6 then ((spec_l4Fault.f k x5).bind fun t200 => (some (x5, wrap64 (x6 + 1), (t200 == 0)))) else (if 0 ≤ x6 then (if x6 ≤ t199 then (if t199 ≤ (x0.length : Int) then ((spec_l4Line.f k x5 (strOfNums ((x0.take (t199 : Int).toNat).drop (x6 : Int).toNat))).bind fun bt202 => (if bt202.2 = true then (if t199 < (x0.length : Int) then (spec_l4Parse.l0 k x0 bt202.1 (wrap64 (t199 + 1))) else (spec_l4Parse.l0 k x0 bt202.1 t199)) else (some (([] : List (S151)), 0, false)))) else (none)) else (none)) else (none)))) else ((spec_l4Fault.f k x5).bind fun t198 => (some (x5, x6, (t198 == 0))))
def spec_l4Parse.f (k : Nat) (l0 : List Int) : Option ((List (S151)) × Int × Bool) := spec_l4Parse.l0 k l0 (([] : List (S151))) 0
set_option maxHeartbeats 8000000 in
set_option maxRecDepth 100000 in
theorem spec_l4Parse.calls (k : Nat) (A0 : Option Addr) (c0 : Nat) (l0 : List Int) (r1 : List (S151)) (r2 : Int) (r3 : Bool) (w : World) (hr0 : Kd.C (Kd.int .u8) w A0 l0.length l0) (hc0 : l0.length ≤ c0) (h : spec_l4Parse.f k l0 = some (r1, r2, r3)) :
  Calls Tryd.prog 125 #[.slice A0 l0.length c0] w fun e w' => ∃ v0_ : Value, e = .returned (.tuple #[v0_, .int .i64 r2, .bool r3]) ∧ Kd.R k151 151 w' w.heap.size (fun _ => True) v0_ r1 ∧ Below w.heap.size w w' := by
 have HR0 := aM hr0
 have HC0 := aM hc0
 clear hr0 hc0
 have HB := aM (Below.refl w.heap.size w)
 have H : (spec_l4Parse.l0 k l0 (([] : List (S151))) 0) = some (r1, r2, r3) := h
 clear h
 obtain ⟨y195, hy195⟩ : ∃ y_ : List (S151), y_ = (([] : List (S151))) := ⟨_, rfl⟩
 replace H : (spec_l4Parse.l0 k l0 y195 0) = some (r1, r2, r3) := zz2 hy195
 have Ny195 := aM hy195
 clear hy195
 have H' := aM H
 clear H
 go_enter Tryd.func125, Tryd.ntmps125
 go_wp2_with (first | ((with_reducible refine gate_dst (N := 10) rfl ?_); refine Kd.R_lit k151 _ 151 ?hg (N := 10) ?hd (xs := ([] : List (S151))) (inner := []) (ok := fun _ => True) (okp := fun _ => True) ?hr ?hp (fun _ hk => hk) trivial (Below.refl _ _) (Nat.le_refl _) (by simp) ?_; (case hd => rfl); (case hg => rfl); (case hr => exact zz13); (case hp => exact (Reps.none _ _)); intro v196 w2 ho3 hb hg_ hnew_; clear hg_ hnew_; (first | rw [← Ny195.out] at ho3 | (simp only [Int.reduceToNat] at ho3; rw [← Ny195.out] at ho3)); have HO197 := aM (Kd.R_lower ho3 (below_size bB)); replace HB := aM (below_step bB hb); clear hb ho3))
 go_loopg [5, 6] k (fun kq v5 v6 w' => ∃ (x5_1 : List (S151)) (x6_1 : Int), v6 = .int .i64 x6_1 ∧ Aside0 (spec_l4Parse.l0 kq l0 x5_1 x6_1 = some (r1, r2, r3)) ∧ Aside0 (kq ≤ k) ∧ Aside0 (Kd.R k151 151 w' w.heap.size (fun _ => True) v5 x5_1) ∧ Aside0 (Below w.heap.size w w'))
 case atStart => exact ⟨(y195), (0), bS, H', ⟨Nat.le_refl _⟩, ⟨bR HO197⟩, ⟨bB⟩⟩
 case round =>
  clear H'
  try clear c1
  try clear p2
  obtain ⟨x5_1, x6_1, rfl, HA, HK1, HO_5, HB⟩ := hrel
  cases gk with
  | zero => exact absurd HA.out (by simp [spec_l4Parse.l0])
  | succ k1 =>
   have H := HA.out
   clear HA
   simp only [spec_l4Parse.l0] at H
   by_cases c4 : x6_1 < (l0.length : Int)
   ·rw [if_pos c4] at H
    have c4b0 : decide (x6_1 < (l0.length : Int)) = true := decide_eq_true c4
    clear c4
    replace H := Option.bind_eq_some_iff.mp H
    obtain ⟨t199, A50, H⟩ := H
    replace H : (if t199 = x6_1 then ((spec_l4Fault.f k1 x5_1).bind fun t200 => (some (x5_1, wrap64 (x6_1 + 1), (t200 == 0)))) else (if 0 ≤ x6_1 then (if x6_1 ≤ t199 then (if t199 ≤ (l0.length : Int) then ((spec_l4Line.f k1 x5_1 (strOfNums ((l0.take (t199 : Int).toNat).drop (x6_1 : Int).toNat))).bind fun bt202 => (if bt202.2 = true then (if t199 < (l0.length : Int) then (spec_l4Parse.l0 k1 l0 bt202.1 (wrap64 (t199 + 1))) else (spec_l4Parse.l0 k1 l0 bt202.1 t199)) else (some (([] : List (S151)), 0, false)))) else (none)) else (none)) else (none))) = some (r1, r2, r3) := H
    have A5 := aM A50
    clear A50
    by_cases c6 : t199 = x6_1
    ·rw [if_pos c6] at H
     have c6b0 : (t199 == x6_1) = true := beq_iff_eq.mpr c6
     have c6b1 : (t199 != x6_1) = false := bne_eq_false_iff_eq.mpr c6
     clear c6
     replace H := Option.bind_eq_some_iff.mp H
     obtain ⟨t200, A70, H⟩ := H
     replace H : (some (x5_1, wrap64 (x6_1 + 1), (t200 == 0))) = some (r1, r2, r3) := H
     have A7 := aM A70
     clear A70
     simp only [Option.some.injEq, Prod.mk.injEq] at H
     obtain ⟨rfl, rfl, rfl⟩ := H
     go_wp2_with (first | ((with_reducible refine gate_callee (f := 128) rfl ?_); refine gL_ (some 17) Tryd.func128 #[.slice A0 l0.length c0, .int .i64 x6_1] ?_; (with_reducible refine (spec_l4End.calls k1 _ _ l0 x6_1 t199 _ ?side1 ?side2 A5.out).mono ?_); (case side1 => exact zz6 HR0.out); (case side2 => exact HC0.out); rintro e w' ⟨rfl, ⟨nd, rfl⟩⟩; refine ⟨_, rfl, ?_⟩; obtain ⟨Ao8, co8, eo8⟩ := Kd.R_slice HO_5.out; subst eo8) | ((with_reducible refine gate_callee (f := 143) rfl ?_); refine gL_ (some 46) Tryd.func143 #[.slice Ao8 x5_1.length co8] ?_; (with_reducible refine (spec_l4Fault.calls k1 _ _ x5_1 t200 _ ?side1 ?side2 A7.out).mono ?_); (case side1 => exact zz7 HO_5.out); (case side2 => exact (Kd.R_reads' HO_5.out).2.1); rintro e w' ⟨rfl, ⟨nd, rfl⟩⟩; refine ⟨_, rfl, ?_⟩))
     go_ret3
     exact ⟨_, bE, bR HO_5, bB⟩
    rw [if_neg c6] at H
    have c6b0 : (t199 == x6_1) = false := beq_eq_false_iff_ne.mpr c6
    have c6b1 : (t199 != x6_1) = true := bne_iff_ne.mpr c6
    by_cases c9 : 0 ≤ x6_1
    ·rw [if_pos c9] at H
     have c9b0 := eq_true c9
     have c9b1 : decide (0 ≤ x6_1) = true := decide_eq_true c9
     clear c9
     by_cases c10 : x6_1 ≤ t199
     ·rw [if_pos c10] at H
      have c10b0 := eq_true c10
      have c10b1 : decide (x6_1 ≤ t199) = true := decide_eq_true c10
      clear c10
      by_cases c11 : t199 ≤ (l0.length : Int)
      ·rw [if_pos c11] at H
       have c11b0 := eq_true c11
       have c11b1 : decide (t199 ≤ (l0.length : Int)) = true := decide_eq_true c11
       (try have c11z := eq_true (show (t199 : Int) ≤ (c0 : Int) from (by have h_ := HC0.out; omega)))
       clear c11
       replace H := Option.bind_eq_some_iff.mp H
       obtain ⟨⟨t202, t203⟩, A120, H⟩ := H
       replace H : (if t203 = true then (if t199 < (l0.length : Int) then (spec_l4Parse.l0 k1 l0 t202 (wrap64 (t199 + 1))) else (spec_l4Parse.l0 k1 l0 t202 t199)) else (some (([] : List (S151)), 0, false))) = some (r1, r2, r3) := H
       have A12 := aM A120
       clear A120
       by_cases c13 : t203 = true
       ·subst c13
        have H1 : (if t199 < (l0.length : Int) then (spec_l4Parse.l0 k1 l0 t202 (wrap64 (t199 + 1))) else (spec_l4Parse.l0 k1 l0 t202 t199)) = some (r1, r2, r3) := zz29
        clear H
        have H := H1
        clear H1
        by_cases c14 : t199 < (l0.length : Int)
        ·rw [if_pos c14] at H
         have c14b0 : decide (t199 < (l0.length : Int)) = true := decide_eq_true c14
         clear c14
         have H' := aM H
         clear H
         go_wp2_with (first | ((with_reducible refine gate_callee (f := 128) rfl ?_); refine gL_ (some 17) Tryd.func128 #[.slice A0 l0.length c0, .int .i64 x6_1] ?_; (with_reducible refine (spec_l4End.calls k1 _ _ l0 x6_1 t199 _ ?side1 ?side2 A5.out).mono ?_); (case side1 => exact zz6 HR0.out); (case side2 => exact HC0.out); rintro e w' ⟨rfl, ⟨nd, rfl⟩⟩; refine ⟨_, rfl, ?_⟩; obtain ⟨i015, hi015, _, hsz15, _⟩ := info_parts info5; obtain ⟨A15, hcut15, hA15, hC15⟩ := print_mid_of (P := Tryd.prog) (Value.int .u8) 0 27 5 .i64 .i64 Tryd.underlying27 hi015 hsz15 A0 c0 l0 x6_1 t199 (pI) (by first | omega | exact pI) (pI) HC0.out; have HR201 := aM (Kd.C_of_reads (h1 := fun _ => rfl) (hA15 _ (Kd.reads_of_C HR0.out))); have HC201 := aM hC15; clear hA15 hC15 hi015 hsz15; have hcv16 := Kd.C_string (P := Tryd.prog) (A := A15) (c := (c0 - x6_1.toNat)) Tryd.underlying27 Tryd.underlying5 Tryd.underlying9 (Kd.C_below HR201.out HB.out); (try have hcd17 := fun nq_ : Nat => Kd.C_string (P := Tryd.prog) (A := A15) (c := (c0 - x6_1.toNat)) Tryd.underlying27 Tryd.underlying5 Tryd.underlying9 (Kd.C_drewN (Kd.C_below HR201.out HB.out) nq_)); (try have hce17 := Kd.C_string (P := Tryd.prog) (A := A15) (c := (c0 - x6_1.toNat)) Tryd.underlying27 Tryd.underlying5 Tryd.underlying9 (Kd.C_below HR201.out HB.out)); (try (have hln17 : ((l0.take (t199 : Int).toNat).drop (x6_1 : Int).toNat).length = (t199 : Int).toNat - (x6_1 : Int).toNat := zz47)); (try rw [hln17] at hce17); (try simp only [hln17] at hcd17); (try clear hln17); obtain ⟨Ao18, co18, eo18⟩ := Kd.R_slice HO_5.out; subst eo18) | ((with_reducible refine gate_callee (f := 142) rfl ?_); refine gL_ (some 30) Tryd.func142 #[.slice Ao18 x5_1.length co18, .string (strOfNums ((l0.take (t199 : Int).toNat).drop (x6_1 : Int).toNat))] ?_; (with_reducible refine (spec_l4Line.calls k1 _ _ x5_1 (strOfNums ((l0.take (t199 : Int).toNat).drop (x6_1 : Int).toNat)) t202 true _ ?side1 ?side2 A12.out).mono ?_); (case side1 => exact zz7 HO_5.out); (case side2 => exact (Kd.R_reads' HO_5.out).2.1); rintro e w19 ⟨v204, rfl, ho0, hb⟩; refine ⟨_, rfl, ?_⟩; have HO205 := aM (Kd.R_lower (Kd.R_new' ho0 (Kd.R_lt (bR HO_5))) (below_size bB)); replace HO_5 := aM (Kd.R_elder' (bR HO_5) (Kd.R_base ho0) hb); replace HB := aM (below_step bB hb); (try clear ho0)))
         go_roundg k1
         case measure => have := HK1.out; omega
         case rel => exact ⟨(t202), (wrap64 (t199 + 1)), bS, H', ⟨by have := HK1.out; omega⟩, ⟨zz37 HO205.out⟩, ⟨bB⟩⟩
        rw [if_neg c14] at H
        have c14b0 : decide (t199 < (l0.length : Int)) = false := decide_eq_false c14
        clear c14
        have H' := aM H
        clear H
        go_wp2_with (first | ((with_reducible refine gate_callee (f := 128) rfl ?_); refine gL_ (some 17) Tryd.func128 #[.slice A0 l0.length c0, .int .i64 x6_1] ?_; (with_reducible refine (spec_l4End.calls k1 _ _ l0 x6_1 t199 _ ?side1 ?side2 A5.out).mono ?_); (case side1 => exact zz6 HR0.out); (case side2 => exact HC0.out); rintro e w' ⟨rfl, ⟨nd, rfl⟩⟩; refine ⟨_, rfl, ?_⟩; obtain ⟨i020, hi020, _, hsz20, _⟩ := info_parts info5; obtain ⟨A20, hcut20, hA20, hC20⟩ := print_mid_of (P := Tryd.prog) (Value.int .u8) 0 27 5 .i64 .i64 Tryd.underlying27 hi020 hsz20 A0 c0 l0 x6_1 t199 (pI) (by first | omega | exact pI) (pI) HC0.out; have HR201 := aM (Kd.C_of_reads (h1 := fun _ => rfl) (hA20 _ (Kd.reads_of_C HR0.out))); have HC201 := aM hC20; clear hA20 hC20 hi020 hsz20; have hcv21 := Kd.C_string (P := Tryd.prog) (A := A20) (c := (c0 - x6_1.toNat)) Tryd.underlying27 Tryd.underlying5 Tryd.underlying9 (Kd.C_below HR201.out HB.out); (try have hcd22 := fun nq_ : Nat => Kd.C_string (P := Tryd.prog) (A := A20) (c := (c0 - x6_1.toNat)) Tryd.underlying27 Tryd.underlying5 Tryd.underlying9 (Kd.C_drewN (Kd.C_below HR201.out HB.out) nq_)); (try have hce22 := Kd.C_string (P := Tryd.prog) (A := A20) (c := (c0 - x6_1.toNat)) Tryd.underlying27 Tryd.underlying5 Tryd.underlying9 (Kd.C_below HR201.out HB.out)); (try (have hln22 : ((l0.take (t199 : Int).toNat).drop (x6_1 : Int).toNat).length = (t199 : Int).toNat - (x6_1 : Int).toNat := zz47)); (try rw [hln22] at hce22); (try simp only [hln22] at hcd22); (try clear hln22); obtain ⟨Ao23, co23, eo23⟩ := Kd.R_slice HO_5.out; subst eo23) | ((with_reducible refine gate_callee (f := 142) rfl ?_); refine gL_ (some 30) Tryd.func142 #[.slice Ao23 x5_1.length co23, .string (strOfNums ((l0.take (t199 : Int).toNat).drop (x6_1 : Int).toNat))] ?_; (with_reducible refine (spec_l4Line.calls k1 _ _ x5_1 (strOfNums ((l0.take (t199 : Int).toNat).drop (x6_1 : Int).toNat)) t202 true _ ?side1 ?side2 A12.out).mono ?_); (case side1 => exact zz7 HO_5.out); (case side2 => exact (Kd.R_reads' HO_5.out).2.1); rintro e w24 ⟨v204, rfl, ho0, hb⟩; refine ⟨_, rfl, ?_⟩; have HO205 := aM (Kd.R_lower (Kd.R_new' ho0 (Kd.R_lt (bR HO_5))) (below_size bB)); replace HO_5 := aM (Kd.R_elder' (bR HO_5) (Kd.R_base ho0) hb); replace HB := aM (below_step bB hb); (try clear ho0)))
        go_roundg k1
        case measure => have := HK1.out; omega
        case rel => exact ⟨(t202), (t199), bS, H', ⟨by have := HK1.out; omega⟩, ⟨zz37 HO205.out⟩, ⟨bB⟩⟩
       replace c13 := Bool.eq_false_iff.mpr c13
       subst c13
       have H1 : (some (([] : List (S151)), 0, false)) = some (r1, r2, r3) := zz15
       clear H
       have H := H1
       clear H1
       simp only [Option.some.injEq, Prod.mk.injEq] at H
       obtain ⟨rfl, rfl, rfl⟩ := H
       go_wp2_with (first | ((with_reducible refine gate_callee (f := 128) rfl ?_); refine gL_ (some 17) Tryd.func128 #[.slice A0 l0.length c0, .int .i64 x6_1] ?_; (with_reducible refine (spec_l4End.calls k1 _ _ l0 x6_1 t199 _ ?side1 ?side2 A5.out).mono ?_); (case side1 => exact zz6 HR0.out); (case side2 => exact HC0.out); rintro e w' ⟨rfl, ⟨nd, rfl⟩⟩; refine ⟨_, rfl, ?_⟩; obtain ⟨i025, hi025, _, hsz25, _⟩ := info_parts info5; obtain ⟨A25, hcut25, hA25, hC25⟩ := print_mid_of (P := Tryd.prog) (Value.int .u8) 0 27 5 .i64 .i64 Tryd.underlying27 hi025 hsz25 A0 c0 l0 x6_1 t199 (pI) (by first | omega | exact pI) (pI) HC0.out; have HR201 := aM (Kd.C_of_reads (h1 := fun _ => rfl) (hA25 _ (Kd.reads_of_C HR0.out))); have HC201 := aM hC25; clear hA25 hC25 hi025 hsz25; have hcv26 := Kd.C_string (P := Tryd.prog) (A := A25) (c := (c0 - x6_1.toNat)) Tryd.underlying27 Tryd.underlying5 Tryd.underlying9 (Kd.C_below HR201.out HB.out); (try have hcd27 := fun nq_ : Nat => Kd.C_string (P := Tryd.prog) (A := A25) (c := (c0 - x6_1.toNat)) Tryd.underlying27 Tryd.underlying5 Tryd.underlying9 (Kd.C_drewN (Kd.C_below HR201.out HB.out) nq_)); (try have hce27 := Kd.C_string (P := Tryd.prog) (A := A25) (c := (c0 - x6_1.toNat)) Tryd.underlying27 Tryd.underlying5 Tryd.underlying9 (Kd.C_below HR201.out HB.out)); (try (have hln27 : ((l0.take (t199 : Int).toNat).drop (x6_1 : Int).toNat).length = (t199 : Int).toNat - (x6_1 : Int).toNat := zz47)); (try rw [hln27] at hce27); (try simp only [hln27] at hcd27); (try clear hln27); obtain ⟨Ao28, co28, eo28⟩ := Kd.R_slice HO_5.out; subst eo28) | ((with_reducible refine gate_callee (f := 142) rfl ?_); refine gL_ (some 30) Tryd.func142 #[.slice Ao28 x5_1.length co28, .string (strOfNums ((l0.take (t199 : Int).toNat).drop (x6_1 : Int).toNat))] ?_; (with_reducible refine (spec_l4Line.calls k1 _ _ x5_1 (strOfNums ((l0.take (t199 : Int).toNat).drop (x6_1 : Int).toNat)) t202 false _ ?side1 ?side2 A12.out).mono ?_); (case side1 => exact zz7 HO_5.out); (case side2 => exact (Kd.R_reads' HO_5.out).2.1); rintro e w29 ⟨v204, rfl, ho0, hb⟩; refine ⟨_, rfl, ?_⟩; have HO205 := aM (Kd.R_lower (Kd.R_new' ho0 (Kd.R_lt (bR HO_5))) (below_size bB)); replace HO_5 := aM (Kd.R_elder' (bR HO_5) (Kd.R_base ho0) hb); replace HB := aM (below_step bB hb); (try clear ho0)))
       go_ret3
       exact ⟨_, bE, zz38, bB⟩
      rw [if_neg c11] at H
      exact absurd H (by simp)
     rw [if_neg c10] at H
     exact absurd H (by simp)
    rw [if_neg c9] at H
    exact absurd H (by simp)
   rw [if_neg c4] at H
   have c4b0 : decide (x6_1 < (l0.length : Int)) = false := decide_eq_false c4
   clear c4
   replace H := Option.bind_eq_some_iff.mp H
   obtain ⟨t198, A300, H⟩ := H
   replace H : (some (x5_1, x6_1, (t198 == 0))) = some (r1, r2, r3) := H
   have A30 := aM A300
   clear A300
   simp only [Option.some.injEq, Prod.mk.injEq] at H
   obtain ⟨rfl, rfl, rfl⟩ := H
   obtain ⟨Ao31, co31, eo31⟩ := Kd.R_slice HO_5.out
   subst eo31
   go_wp2_with (first | ((with_reducible refine gate_callee (f := 143) rfl ?_); refine gL_ (some 46) Tryd.func143 #[.slice Ao31 x5_1.length co31] ?_; (with_reducible refine (spec_l4Fault.calls k1 _ _ x5_1 t198 _ ?side1 ?side2 A30.out).mono ?_); (case side1 => exact zz7 HO_5.out); (case side2 => exact (Kd.R_reads' HO_5.out).2.1); rintro e w' ⟨rfl, ⟨nd, rfl⟩⟩; refine ⟨_, rfl, ?_⟩))
   go_ret3
   exact ⟨_, bE, bR HO_5, bB⟩
def spec_l4Of.l0 : Nat → List (S151) → ByteArray → Int → Option (ByteArray × Bool)
 | 0, _, _, _ => none
 | k + 1, x0, x1, x6 => if x6 < (x0.length : Int) then (if 0 ≤ x6 then ((spec_l2Lower.f k ((rd_T151 x0 x6).f0)).bind fun t207 => ((spec_l2Lower.f k x1).bind fun t208 => (if t207.toList = t208.toList then (some ((rd_T151 x0 x6).f1, true)) else (spec_l4Of.l0 k x0 x1 (wrap64 (x6 + 1)))))) else (none)) else (some ((⟨#[]⟩ : ByteArray), false))
def spec_l4Of.f (k : Nat) (l0 : List (S151)) (a1 : ByteArray) : Option (ByteArray × Bool) := spec_l4Of.l0 k l0 a1 0
set_option maxHeartbeats 8000000 in
set_option maxRecDepth 100000 in
theorem spec_l4Of.calls (k : Nat) (A0 : Option Addr) (c0 : Nat) (l0 : List (S151)) (a1 : ByteArray) (r1 : ByteArray) (r2 : Bool) (w : World) (hr0 : Kd.C k151 w A0 l0.length l0) (hc0 : l0.length ≤ c0) (h : spec_l4Of.f k l0 a1 = some (r1, r2)) :
  Calls Tryd.prog 126 #[.slice A0 l0.length c0, .string a1] w fun e w' => e = .returned (.tuple #[.string r1, .bool r2]) ∧ Below w.heap.size w w' := by
 have HR0 := aM hr0
 have HC0 := aM hc0
 clear hr0 hc0
 have HB := aM (Below.refl w.heap.size w)
 have H : (spec_l4Of.l0 k l0 a1 0) = some (r1, r2) := h
 clear h
 have H' := aM H
 clear H
 go_enter Tryd.func126, Tryd.ntmps126
 go_wp2
 go_loopg [6] k (fun kq v6 w' => ∃ (x6_1 : Int), v6 = .int .i64 x6_1 ∧ Aside0 (spec_l4Of.l0 kq l0 a1 x6_1 = some (r1, r2)) ∧ Aside0 (kq ≤ k) ∧ Aside0 (Below w.heap.size w w'))
 case atStart => exact ⟨(0), bS, H', ⟨Nat.le_refl _⟩, ⟨bB⟩⟩
 case round =>
  clear H'
  try clear c1
  try clear p2
  obtain ⟨x6_1, rfl, HA, HK1, HB⟩ := hrel
  cases gk with
  | zero => exact absurd HA.out (by simp [spec_l4Of.l0])
  | succ k1 =>
   have H := HA.out
   clear HA
   simp only [spec_l4Of.l0] at H
   by_cases c3 : x6_1 < (l0.length : Int)
   ·rw [if_pos c3] at H
    have c3b0 : decide (x6_1 < (l0.length : Int)) = true := decide_eq_true c3
    clear c3
    by_cases c4 : 0 ≤ x6_1
    ·rw [if_pos c4] at H
     have c4b0 : decide (0 ≤ x6_1) = true := decide_eq_true c4
     clear c4
     replace H := Option.bind_eq_some_iff.mp H
     obtain ⟨t207, A50, H⟩ := H
     replace H : ((spec_l2Lower.f k1 a1).bind fun t208 => (if t207.toList = t208.toList then (some ((rd_T151 l0 x6_1).f1, true)) else (spec_l4Of.l0 k1 l0 a1 (wrap64 (x6_1 + 1))))) = some (r1, r2) := H
     have A5 := aM A50
     clear A50
     replace H := Option.bind_eq_some_iff.mp H
     obtain ⟨t208, A60, H⟩ := H
     replace H : (if t207.toList = t208.toList then (some ((rd_T151 l0 x6_1).f1, true)) else (spec_l4Of.l0 k1 l0 a1 (wrap64 (x6_1 + 1)))) = some (r1, r2) := H
     have A6 := aM A60
     clear A60
     by_cases c7 : t207.toList = t208.toList
     ·rw [if_pos c7] at H
      have c7b0 : (t207.toList == t208.toList) = true := beq_iff_eq.mpr c7
      have c7b1 : (t207.toList != t208.toList) = false := bne_eq_false_iff_eq.mpr c7
      clear c7
      simp only [Option.some.injEq, Prod.mk.injEq] at H
      obtain ⟨rfl, rfl⟩ := H
      have p206 : 0 ≤ (x6_1 : Int) := pI
      have q206 : x6_1 < (l0.length : Int) := pI
      obtain ⟨ad206, e206, hx206_0, hx206_1⟩ := at_T151 HR0.out x6_1 p206 q206
      cases e206
      replace hx206_0 := (HB.out.cell (World.block_lt_of_cell? w _ hx206_0)).trans hx206_0
      replace hx206_1 := (HB.out.cell (World.block_lt_of_cell? w _ hx206_1)).trans hx206_1
      replace p206 := eq_true p206
      replace q206 := eq_true q206
      go_wp2_with (first | ((with_reducible refine gate_callee (f := 97) rfl ?_); refine gL_ (some 18) Tryd.func97 #[.string ((rd_T151 l0 x6_1).f0)] ?_; (with_reducible refine (spec_l2Lower.calls k1 ((rd_T151 l0 x6_1).f0) t207 _ A5.out).mono ?_); rintro e w8 ⟨rfl, hb⟩; refine ⟨_, rfl, ?_⟩; replace HB := aM (below_step bB hb); (try clear hi)) | ((with_reducible refine gate_callee (f := 97) rfl ?_); refine gL_ (some 20) Tryd.func97 #[.string a1] ?_; (with_reducible refine (spec_l2Lower.calls k1 a1 t208 _ A6.out).mono ?_); rintro e w9 ⟨rfl, hb⟩; refine ⟨_, rfl, ?_⟩; replace HB := aM (below_step bB hb); have p209 : 0 ≤ (x6_1 : Int) := pI; have q209 : x6_1 < (l0.length : Int) := pI; obtain ⟨ad209, e209, hx209_0, hx209_1⟩ := at_T151 HR0.out x6_1 p209 q209; obtain rfl : ad206 = ad209 := (by injection e209); replace hx209_0 := (HB.out.cell (World.block_lt_of_cell? w _ hx209_0)).trans hx209_0; replace hx209_1 := (HB.out.cell (World.block_lt_of_cell? w _ hx209_1)).trans hx209_1; replace p209 := eq_true p209; replace q209 := eq_true q209))
      go_ret2
      exact ⟨bE, bB⟩
     rw [if_neg c7] at H
     have c7b0 : (t207.toList == t208.toList) = false := beq_eq_false_iff_ne.mpr c7
     have c7b1 : (t207.toList != t208.toList) = true := bne_iff_ne.mpr c7
     have H' := aM H
     clear H
     have p206 : 0 ≤ (x6_1 : Int) := pI
     have q206 : x6_1 < (l0.length : Int) := pI
     obtain ⟨ad206, e206, hx206_0, hx206_1⟩ := at_T151 HR0.out x6_1 p206 q206
     cases e206
     replace hx206_0 := (HB.out.cell (World.block_lt_of_cell? w _ hx206_0)).trans hx206_0
     replace hx206_1 := (HB.out.cell (World.block_lt_of_cell? w _ hx206_1)).trans hx206_1
     replace p206 := eq_true p206
     replace q206 := eq_true q206
     go_wp2_with (first | ((with_reducible refine gate_callee (f := 97) rfl ?_); refine gL_ (some 18) Tryd.func97 #[.string ((rd_T151 l0 x6_1).f0)] ?_; (with_reducible refine (spec_l2Lower.calls k1 ((rd_T151 l0 x6_1).f0) t207 _ A5.out).mono ?_); rintro e w10 ⟨rfl, hb⟩; refine ⟨_, rfl, ?_⟩; replace HB := aM (below_step bB hb); (try clear hi)) | ((with_reducible refine gate_callee (f := 97) rfl ?_); refine gL_ (some 20) Tryd.func97 #[.string a1] ?_; (with_reducible refine (spec_l2Lower.calls k1 a1 t208 _ A6.out).mono ?_); rintro e w11 ⟨rfl, hb⟩; refine ⟨_, rfl, ?_⟩; replace HB := aM (below_step bB hb); (try clear hi)))
     go_roundg k1
     case measure => have := HK1.out; omega
     case rel => exact ⟨(wrap64 (x6_1 + 1)), bS, H', ⟨by have := HK1.out; omega⟩, ⟨bB⟩⟩
    rw [if_neg c4] at H
    exact absurd H (by simp)
   rw [if_neg c3] at H
   have c3b0 : decide (x6_1 < (l0.length : Int)) = false := decide_eq_false c3
   clear c3
   simp only [Option.some.injEq, Prod.mk.injEq] at H
   obtain ⟨rfl, rfl⟩ := H
   go_wp2
   go_ret2
   exact ⟨bE, bB⟩
def spec_l5Coding.f (k : Nat) (l0 : List (S151)) : Option (Int) := (spec_l4Of.f k l0 (⟨#[99, 111, 110, 116, 101, 110, 116, 45, 116, 114, 97, 110, 115, 102, 101, 114, 45, 101, 110, 99, 111, 100, 105, 110, 103]⟩ : ByteArray)).bind fun bt210 => ((spec_l2Lower.f k bt210.1).bind fun t212 => (if t212.toList = ([98, 97, 115, 101, 54, 52] : List UInt8) then (some 2) else (if t212.toList = ([113, 117, 111, 116, 101, 100, 45, 112, 114, 105, 110, 116, 97, 98, 108, 101] : List UInt8) then (some 3) else (some 1))))
set_option maxHeartbeats 8000000 in
set_option maxRecDepth 100000 in
theorem spec_l5Coding.calls (k : Nat) (A0 : Option Addr) (c0 : Nat) (l0 : List (S151)) (r : Int) (w : World) (hr0 : Kd.C k151 w A0 l0.length l0) (hc0 : l0.length ≤ c0) (h : spec_l5Coding.f k l0 = some r) :
  Calls Tryd.prog 127 #[.slice A0 l0.length c0] w fun e w' => e = .returned (.int .i64 r) ∧ Below w.heap.size w w' := by
 have HR0 := aM hr0
 have HC0 := aM hc0
 clear hr0 hc0
 have HB := aM (Below.refl w.heap.size w)
 have H : ((spec_l4Of.f k l0 (⟨#[99, 111, 110, 116, 101, 110, 116, 45, 116, 114, 97, 110, 115, 102, 101, 114, 45, 101, 110, 99, 111, 100, 105, 110, 103]⟩ : ByteArray)).bind fun bt210 => ((spec_l2Lower.f k bt210.1).bind fun t212 => (if t212.toList = ([98, 97, 115, 101, 54, 52] : List UInt8) then (some 2) else (if t212.toList = ([113, 117, 111, 116, 101, 100, 45, 112, 114, 105, 110, 116, 97, 98, 108, 101] : List UInt8) then (some 3) else (some 1))))) = some r := h
 clear h
 replace H := Option.bind_eq_some_iff.mp H
 obtain ⟨⟨t210, t211⟩, A20, H⟩ := H
 replace H : ((spec_l2Lower.f k t210).bind fun t212 => (if t212.toList = ([98, 97, 115, 101, 54, 52] : List UInt8) then (some 2) else (if t212.toList = ([113, 117, 111, 116, 101, 100, 45, 112, 114, 105, 110, 116, 97, 98, 108, 101] : List UInt8) then (some 3) else (some 1)))) = some r := H
 have A2 := aM A20
 clear A20
 replace H := Option.bind_eq_some_iff.mp H
 obtain ⟨t212, A30, H⟩ := H
 replace H : (if t212.toList = ([98, 97, 115, 101, 54, 52] : List UInt8) then (some 2) else (if t212.toList = ([113, 117, 111, 116, 101, 100, 45, 112, 114, 105, 110, 116, 97, 98, 108, 101] : List UInt8) then (some 3) else (some 1))) = some r := H
 have A3 := aM A30
 clear A30
 by_cases c4 : t212.toList = ([98, 97, 115, 101, 54, 52] : List UInt8)
 ·rw [if_pos c4] at H
  have c4b0 : (t212.toList == ([98, 97, 115, 101, 54, 52] : List UInt8)) = true := beq_iff_eq.mpr c4
  have c4b1 : (t212.toList != ([98, 97, 115, 101, 54, 52] : List UInt8)) = false := bne_eq_false_iff_eq.mpr c4
  clear c4
  obtain rfl := Option.some.inj H
  go_enter Tryd.func127, Tryd.ntmps127
  go_wp2_with (first | ((with_reducible refine gate_callee (f := 126) rfl ?_); refine gL_ (some 7) Tryd.func126 #[.slice A0 l0.length c0, .string (⟨#[99, 111, 110, 116, 101, 110, 116, 45, 116, 114, 97, 110, 115, 102, 101, 114, 45, 101, 110, 99, 111, 100, 105, 110, 103]⟩ : ByteArray)] ?_; (with_reducible refine (spec_l4Of.calls k _ _ l0 (⟨#[99, 111, 110, 116, 101, 110, 116, 45, 116, 114, 97, 110, 115, 102, 101, 114, 45, 101, 110, 99, 111, 100, 105, 110, 103]⟩ : ByteArray) t210 t211 _ ?side1 ?side2 A2.out).mono ?_); (case side1 => exact zz40 HR0.out); (case side2 => exact HC0.out); rintro e w5 ⟨rfl, hb⟩; refine ⟨_, rfl, ?_⟩; replace HB := aM (below_step bB hb); (try clear hi)) | ((with_reducible refine gate_callee (f := 97) rfl ?_); refine gL_ (some 11) Tryd.func97 #[.string t210] ?_; (with_reducible refine (spec_l2Lower.calls k t210 t212 _ A3.out).mono ?_); rintro e w6 ⟨rfl, hb⟩; refine ⟨_, rfl, ?_⟩; replace HB := aM (below_step bB hb); (try clear hi)))
  go_ret
  exact ⟨bE, bB⟩
 rw [if_neg c4] at H
 have c4b0 : (t212.toList == ([98, 97, 115, 101, 54, 52] : List UInt8)) = false := beq_eq_false_iff_ne.mpr c4
 have c4b1 : (t212.toList != ([98, 97, 115, 101, 54, 52] : List UInt8)) = true := bne_iff_ne.mpr c4
 by_cases c7 : t212.toList = ([113, 117, 111, 116, 101, 100, 45, 112, 114, 105, 110, 116, 97, 98, 108, 101] : List UInt8)
 ·rw [if_pos c7] at H
  have c7b0 : (t212.toList == ([113, 117, 111, 116, 101, 100, 45, 112, 114, 105, 110, 116, 97, 98, 108, 101] : List UInt8)) = true := beq_iff_eq.mpr c7
  have c7b1 : (t212.toList != ([113, 117, 111, 116, 101, 100, 45, 112, 114, 105, 110, 116, 97, 98, 108, 101] : List UInt8)) = false := bne_eq_false_iff_eq.mpr c7
  clear c7
  obtain rfl := Option.some.inj H
  go_enter Tryd.func127, Tryd.ntmps127
  go_wp2_with (first | ((with_reducible refine gate_callee (f := 126) rfl ?_); refine gL_ (some 7) Tryd.func126 #[.slice A0 l0.length c0, .string (⟨#[99, 111, 110, 116, 101, 110, 116, 45, 116, 114, 97, 110, 115, 102, 101, 114, 45, 101, 110, 99, 111, 100, 105, 110, 103]⟩ : ByteArray)] ?_; (with_reducible refine (spec_l4Of.calls k _ _ l0 (⟨#[99, 111, 110, 116, 101, 110, 116, 45, 116, 114, 97, 110, 115, 102, 101, 114, 45, 101, 110, 99, 111, 100, 105, 110, 103]⟩ : ByteArray) t210 t211 _ ?side1 ?side2 A2.out).mono ?_); (case side1 => exact zz40 HR0.out); (case side2 => exact HC0.out); rintro e w8 ⟨rfl, hb⟩; refine ⟨_, rfl, ?_⟩; replace HB := aM (below_step bB hb); (try clear hi)) | ((with_reducible refine gate_callee (f := 97) rfl ?_); refine gL_ (some 11) Tryd.func97 #[.string t210] ?_; (with_reducible refine (spec_l2Lower.calls k t210 t212 _ A3.out).mono ?_); rintro e w9 ⟨rfl, hb⟩; refine ⟨_, rfl, ?_⟩; replace HB := aM (below_step bB hb); (try clear hi)))
  go_ret
  exact ⟨bE, bB⟩
 rw [if_neg c7] at H
 have c7b0 : (t212.toList == ([113, 117, 111, 116, 101, 100, 45, 112, 114, 105, 110, 116, 97, 98, 108, 101] : List UInt8)) = false := beq_eq_false_iff_ne.mpr c7
 have c7b1 : (t212.toList != ([113, 117, 111, 116, 101, 100, 45, 112, 114, 105, 110, 116, 97, 98, 108, 101] : List UInt8)) = true := bne_iff_ne.mpr c7
 obtain rfl := Option.some.inj H
 go_enter Tryd.func127, Tryd.ntmps127
 go_wp2_with (first | ((with_reducible refine gate_callee (f := 126) rfl ?_); refine gL_ (some 7) Tryd.func126 #[.slice A0 l0.length c0, .string (⟨#[99, 111, 110, 116, 101, 110, 116, 45, 116, 114, 97, 110, 115, 102, 101, 114, 45, 101, 110, 99, 111, 100, 105, 110, 103]⟩ : ByteArray)] ?_; (with_reducible refine (spec_l4Of.calls k _ _ l0 (⟨#[99, 111, 110, 116, 101, 110, 116, 45, 116, 114, 97, 110, 115, 102, 101, 114, 45, 101, 110, 99, 111, 100, 105, 110, 103]⟩ : ByteArray) t210 t211 _ ?side1 ?side2 A2.out).mono ?_); (case side1 => exact zz40 HR0.out); (case side2 => exact HC0.out); rintro e w10 ⟨rfl, hb⟩; refine ⟨_, rfl, ?_⟩; replace HB := aM (below_step bB hb); (try clear hi)) | ((with_reducible refine gate_callee (f := 97) rfl ?_); refine gL_ (some 11) Tryd.func97 #[.string t210] ?_; (with_reducible refine (spec_l2Lower.calls k t210 t212 _ A3.out).mono ?_); rintro e w11 ⟨rfl, hb⟩; refine ⟨_, rfl, ?_⟩; replace HB := aM (below_step bB hb); (try clear hi)))
 go_ret
 exact ⟨bE, bB⟩
def spec_l5One.f (k : Nat) (l0 : List Int) (a1 : Int) (a2 : Int) : Option (Int × Int × Int × Int × Int × Int × Int × ByteArray) := if 0 ≤ a1 then (if a1 ≤ a2 then (if a2 ≤ (l0.length : Int) then ((spec_l4Parse.f k ((l0.take (a2 : Int).toNat).drop (a1 : Int).toNat)).bind fun bt215 => (if bt215.2.2 = true then ((spec_l4Of.f k bt215.1 (⟨#[99, 111, 110, 116, 101, 110, 116, 45, 116, 121, 112, 101]⟩ : ByteArray)).bind fun bt221 => (if bt221.2 = true then ((spec_l5Type.f k bt221.1).bind fun bt223 => (if bt223.1 = 2 then ((spec_l5Pieces.f k bt221.1).bind fun t230 => ((spec_l5Named.f k t230 (⟨#[98, 111, 117, 110, 100, 97, 114, 121, 61]⟩ : ByteArray)).bind fun bt233 => ((spec_l5Coding.f k bt215.1).bind fun t235 => (some (bt223.1, bt223.2.1, t235, wrap64 (a1 + bt215.2.1), a2, bt223.2.2.2.2.2.1, bt223.2.2.2.2.2.2, bt233.1))))) else ((spec_l5Coding.f k bt215.1).bind fun t236 => (some (bt223.1, bt223.2.1, t236, wrap64 (a1 + bt215.2.1), a2, bt223.2.2.2.2.2.1, bt223.2.2.2.2.2.2, (⟨#[]⟩ : ByteArray)))))) else ((spec_l5Coding.f k bt215.1).bind fun t237 => (some (1, 1, t237, wrap64 (a1 + bt215.2.1), a2, 0, 0, (⟨#[]⟩ : ByteArray)))))) else (some (3, 0, 1, a1, a2, 0, 0, (⟨#[]⟩ : ByteArray))))) else (none)) else (none)) else (none)
set_option maxHeartbeats 8000000 in
set_option maxRecDepth 100000 in
theorem spec_l5One.calls (k : Nat) (A0 : Option Addr) (c0 : Nat) (l0 : List Int) (a1 : Int) (a2 : Int) (r1 : Int) (r2 : Int) (r3 : Int) (r4 : Int) (r5 : Int) (r6 : Int) (r7 : Int) (r8 : ByteArray) (w : World) (hr0 : Kd.C (Kd.int .u8) w A0 l0.length l0) (hc0 : l0.length ≤ c0) (h : spec_l5One.f k l0 a1 a2 = some (r1, r2, r3, r4, r5, r6, r7, r8)) :
  Calls Tryd.prog 106 #[.slice A0 l0.length c0, .int .i64 a1, .int .i64 a2] w fun e w' => e = .returned (.tuple #[.agg #[.int .i64 r1, .int .i64 r2, .int .i64 r3, .int .i64 r4, .int .i64 r5, .int .i64 r6, .int .i64 r7], .string r8]) ∧ Below w.heap.size w w' := by
 have hu23 := Tryd.underlying23
 have HR0 := aM hr0
 have HC0 := aM hc0
 clear hr0 hc0
 have HB := aM (Below.refl w.heap.size w)
 have H : (if 0 ≤ a1 then (if a1 ≤ a2 then (if a2 ≤ (l0.length : Int) then ((spec_l4Parse.f k ((l0.take (a2 : Int).toNat).drop (a1 : Int).toNat)).bind fun bt215 => (if bt215.2.2 = true then ((spec_l4Of.f k bt215.1 (⟨#[99, 111, 110, 116, 101, 110, 116, 45, 116, 121, 112, 101]⟩ : ByteArray)).bind fun bt221 => (if bt221.2 = true then ((spec_l5Type.f k bt221.1).bind fun bt223 => (if bt223.1 = 2 then ((spec_l5Pieces.f k bt221.1).bind fun t230 => ((spec_l5Named.f k t230 (⟨#[98, 111, 117, 110, 100, 97, 114, 121, 61]⟩ : ByteArray)).bind fun bt233 => ((spec_l5Coding.f k bt215.1).bind fun t235 => (some (bt223.1, bt223.2.1, t235, wrap64 (a1 + bt215.2.1), a2, bt223.2.2.2.2.2.1, bt223.2.2.2.2.2.2, bt233.1))))) else ((spec_l5Coding.f k bt215.1).bind fun t236 => (some (bt223.1, bt223.2.1, t236, wrap64 (a1 + bt215.2.1), a2, bt223.2.2.2.2.2.1, bt223.2.2.2.2.2.2, (⟨#[]⟩ : ByteArray)))))) else ((spec_l5Coding.f k bt215.1).bind fun t237 => (some (1, 1, t237, wrap64 (a1 + bt215.2.1), a2, 0, 0, (⟨#[]⟩ : ByteArray)))))) else (some (3, 0, 1, a1, a2, 0, 0, (⟨#[]⟩ : ByteArray))))) else (none)) else (none)) else (none)) = some (r1, r2, r3, r4, r5, r6, r7, r8) := h
 clear h
 by_cases c4 : 0 ≤ a1
 ·rw [if_pos c4] at H
  have c4b0 := eq_true c4
  have c4b1 : decide (0 ≤ a1) = true := decide_eq_true c4
  clear c4
  by_cases c5 : a1 ≤ a2
  ·rw [if_pos c5] at H
   have c5b0 := eq_true c5
   have c5b1 : decide (a1 ≤ a2) = true := decide_eq_true c5
   clear c5
   by_cases c6 : a2 ≤ (l0.length : Int)
   ·rw [if_pos c6] at H
    have c6b0 := eq_true c6
    have c6b1 : decide (a2 ≤ (l0.length : Int)) = true := decide_eq_true c6
    (try have c6z := eq_true (show (a2 : Int) ≤ (c0 : Int) from (by have h_ := HC0.out; omega)))
    clear c6
    replace H := Option.bind_eq_some_iff.mp H
    obtain ⟨⟨t215, t216, t217⟩, A70, H⟩ := H
    replace H : (if t217 = true then ((spec_l4Of.f k t215 (⟨#[99, 111, 110, 116, 101, 110, 116, 45, 116, 121, 112, 101]⟩ : ByteArray)).bind fun bt221 => (if bt221.2 = true then ((spec_l5Type.f k bt221.1).bind fun bt223 => (if bt223.1 = 2 then ((spec_l5Pieces.f k bt221.1).bind fun t230 => ((spec_l5Named.f k t230 (⟨#[98, 111, 117, 110, 100, 97, 114, 121, 61]⟩ : ByteArray)).bind fun bt233 => ((spec_l5Coding.f k t215).bind fun t235 => (some (bt223.1, bt223.2.1, t235, wrap64 (a1 + t216), a2, bt223.2.2.2.2.2.1, bt223.2.2.2.2.2.2, bt233.1))))) else ((spec_l5Coding.f k t215).bind fun t236 => (some (bt223.1, bt223.2.1, t236, wrap64 (a1 + t216), a2, bt223.2.2.2.2.2.1, bt223.2.2.2.2.2.2, (⟨#[]⟩ : ByteArray)))))) else ((spec_l5Coding.f k t215).bind fun t237 => (some (1, 1, t237, wrap64 (a1 + t216), a2, 0, 0, (⟨#[]⟩ : ByteArray)))))) else (some (3, 0, 1, a1, a2, 0, 0, (⟨#[]⟩ : ByteArray)))) = some (r1, r2, r3, r4, r5, r6, r7, r8) := H
    have A7 := aM A70
    clear A70
    have HQ_ := aM H
    clear H
    go_enter Tryd.func106, Tryd.ntmps106
    have H := HQ_.out
    clear HQ_
    by_cases c8 : t217 = true
    ·subst c8
     have H1 : ((spec_l4Of.f k t215 (⟨#[99, 111, 110, 116, 101, 110, 116, 45, 116, 121, 112, 101]⟩ : ByteArray)).bind fun bt221 => (if bt221.2 = true then ((spec_l5Type.f k bt221.1).bind fun bt223 => (if bt223.1 = 2 then ((spec_l5Pieces.f k bt221.1).bind fun t230 => ((spec_l5Named.f k t230 (⟨#[98, 111, 117, 110, 100, 97, 114, 121, 61]⟩ : ByteArray)).bind fun bt233 => ((spec_l5Coding.f k t215).bind fun t235 => (some (bt223.1, bt223.2.1, t235, wrap64 (a1 + t216), a2, bt223.2.2.2.2.2.1, bt223.2.2.2.2.2.2, bt233.1))))) else ((spec_l5Coding.f k t215).bind fun t236 => (some (bt223.1, bt223.2.1, t236, wrap64 (a1 + t216), a2, bt223.2.2.2.2.2.1, bt223.2.2.2.2.2.2, (⟨#[]⟩ : ByteArray)))))) else ((spec_l5Coding.f k t215).bind fun t237 => (some (1, 1, t237, wrap64 (a1 + t216), a2, 0, 0, (⟨#[]⟩ : ByteArray)))))) = some (r1, r2, r3, r4, r5, r6, r7, r8) := zz29
     clear H
     have H := H1
     clear H1
     replace H := Option.bind_eq_some_iff.mp H
     obtain ⟨⟨t221, t222⟩, A90, H⟩ := H
     replace H : (if t222 = true then ((spec_l5Type.f k t221).bind fun bt223 => (if bt223.1 = 2 then ((spec_l5Pieces.f k t221).bind fun t230 => ((spec_l5Named.f k t230 (⟨#[98, 111, 117, 110, 100, 97, 114, 121, 61]⟩ : ByteArray)).bind fun bt233 => ((spec_l5Coding.f k t215).bind fun t235 => (some (bt223.1, bt223.2.1, t235, wrap64 (a1 + t216), a2, bt223.2.2.2.2.2.1, bt223.2.2.2.2.2.2, bt233.1))))) else ((spec_l5Coding.f k t215).bind fun t236 => (some (bt223.1, bt223.2.1, t236, wrap64 (a1 + t216), a2, bt223.2.2.2.2.2.1, bt223.2.2.2.2.2.2, (⟨#[]⟩ : ByteArray)))))) else ((spec_l5Coding.f k t215).bind fun t237 => (some (1, 1, t237, wrap64 (a1 + t216), a2, 0, 0, (⟨#[]⟩ : ByteArray))))) = some (r1, r2, r3, r4, r5, r6, r7, r8) := H
     have A9 := aM A90
     clear A90
     by_cases c10 : t222 = true
     ·subst c10
      have H1 : ((spec_l5Type.f k t221).bind fun bt223 => (if bt223.1 = 2 then ((spec_l5Pieces.f k t221).bind fun t230 => ((spec_l5Named.f k t230 (⟨#[98, 111, 117, 110, 100, 97, 114, 121, 61]⟩ : ByteArray)).bind fun bt233 => ((spec_l5Coding.f k t215).bind fun t235 => (some (bt223.1, bt223.2.1, t235, wrap64 (a1 + t216), a2, bt223.2.2.2.2.2.1, bt223.2.2.2.2.2.2, bt233.1))))) else ((spec_l5Coding.f k t215).bind fun t236 => (some (bt223.1, bt223.2.1, t236, wrap64 (a1 + t216), a2, bt223.2.2.2.2.2.1, bt223.2.2.2.2.2.2, (⟨#[]⟩ : ByteArray)))))) = some (r1, r2, r3, r4, r5, r6, r7, r8) := zz29
      clear H
      have H := H1
      clear H1
      replace H := Option.bind_eq_some_iff.mp H
      obtain ⟨⟨t223, t224, t225, t226, t227, t228, t229⟩, A110, H⟩ := H
      replace H : (if t223 = 2 then ((spec_l5Pieces.f k t221).bind fun t230 => ((spec_l5Named.f k t230 (⟨#[98, 111, 117, 110, 100, 97, 114, 121, 61]⟩ : ByteArray)).bind fun bt233 => ((spec_l5Coding.f k t215).bind fun t235 => (some (t223, t224, t235, wrap64 (a1 + t216), a2, t228, t229, bt233.1))))) else ((spec_l5Coding.f k t215).bind fun t236 => (some (t223, t224, t236, wrap64 (a1 + t216), a2, t228, t229, (⟨#[]⟩ : ByteArray))))) = some (r1, r2, r3, r4, r5, r6, r7, r8) := H
      have A11 := aM A110
      clear A110
      by_cases c12 : t223 = 2
      ·rw [if_pos c12] at H
       have c12b0 : (t223 == 2) = true := beq_iff_eq.mpr c12
       have c12b1 : (t223 != 2) = false := bne_eq_false_iff_eq.mpr c12
       clear c12
       replace H := Option.bind_eq_some_iff.mp H
       obtain ⟨t230, A130, H⟩ := H
       replace H : ((spec_l5Named.f k t230 (⟨#[98, 111, 117, 110, 100, 97, 114, 121, 61]⟩ : ByteArray)).bind fun bt233 => ((spec_l5Coding.f k t215).bind fun t235 => (some (t223, t224, t235, wrap64 (a1 + t216), a2, t228, t229, bt233.1)))) = some (r1, r2, r3, r4, r5, r6, r7, r8) := H
       have A13 := aM A130
       clear A130
       replace H := Option.bind_eq_some_iff.mp H
       obtain ⟨⟨t233, t234⟩, A140, H⟩ := H
       replace H : ((spec_l5Coding.f k t215).bind fun t235 => (some (t223, t224, t235, wrap64 (a1 + t216), a2, t228, t229, t233))) = some (r1, r2, r3, r4, r5, r6, r7, r8) := H
       have A14 := aM A140
       clear A140
       replace H := Option.bind_eq_some_iff.mp H
       obtain ⟨t235, A150, H⟩ := H
       replace H : (some (t223, t224, t235, wrap64 (a1 + t216), a2, t228, t229, t233)) = some (r1, r2, r3, r4, r5, r6, r7, r8) := H
       have A15 := aM A150
       clear A150
       simp only [Option.some.injEq, Prod.mk.injEq] at H
       obtain ⟨rfl, rfl, rfl, rfl, rfl, rfl, rfl, rfl⟩ := H
       (try simp only [c12b0, c12b1])
       go_wp2_with (first | ((with_reducible refine gate_dst (N := 6) rfl ?_); refine box_event ?hg (N := 6) ?hd (cs := #[.int .i64 0, .int .i64 0, .int .i64 0, .int .i64 0, .int .i64 0, .int .i64 0, .int .i64 0]) (t := 23) ?hr ?_; (case hd => rfl); (case hg => rfl); (case hr => exact zz13); intro gb213 hg w16 hbox hb; have BK213 := aM (hbox); have GW213 := aM ((zz18 : w.heap.size ≤ gb213)); have GE213 := aM ((zz18 : w.heap.size ≤ gb213)); replace HB := aM (below_step bB hb); clear hb hbox hg; obtain ⟨i017, hi017, _, hsz17, _⟩ := info_parts info5; obtain ⟨A17, hcut17, hA17, hC17⟩ := print_mid_of (P := Tryd.prog) (Value.int .u8) 0 27 5 .i64 .i64 Tryd.underlying27 hi017 hsz17 A0 c0 l0 a1 a2 (pI) (by first | omega | exact pI) (pI) HC0.out; have HR214 := aM (Kd.C_of_reads (h1 := fun _ => rfl) (hA17 _ (Kd.reads_of_C HR0.out))); have HC214 := aM hC17; clear hA17 hC17 hi017 hsz17) | ((with_reducible refine gate_callee (f := 125) rfl ?_); refine goesL_ (some 20) rfl rfl Tryd.func125 (by kernel_rfl) rfl #[.slice A17 ((l0.take (a2 : Int).toNat).drop (a1 : Int).toNat).length (c0 - a1.toNat)] rfl zz20 ?_; (with_reducible refine (spec_l4Parse.calls k _ _ ((l0.take (a2 : Int).toNat).drop (a1 : Int).toNat) t215 t216 true _ ?side1 ?side2 A7.out).mono ?_); (case side1 => exact zz6 HR214.out); (case side2 => exact HC214.out); rintro e w18 ⟨v218, rfl, ho0, hb⟩; refine ⟨_, rfl, ?_⟩; have HO219 := aM (Kd.R_lower ho0 (below_size (bG GE213))); replace BK213 := aM (blk_below (g := gb213) (o := .cells #[.int .i64 0, .int .i64 0, .int .i64 0, .int .i64 0, .int .i64 0, .int .i64 0, .int .i64 0] 23 (0, 0)) (bL BK213) hb); replace HB := aM (below_step (bG GE213) hb); (try clear ho0)) | ((with_reducible refine gate_dst (N := 11) rfl ?_); refine box_event ?hg (N := 11) ?hd (cs := #[.int .i64 0, .int .i64 0, .int .i64 0, .int .i64 0, .int .i64 0, .int .i64 0, .int .i64 0]) (t := 23) ?hr ?_; (case hd => rfl); (case hg => rfl); (case hr => exact zz13); intro gb220 hg w19 hbox hb; replace HO219 := aM (Kd.R_below (bR HO219) hb); have BK220 := aM (hbox); have GW220 := aM ((zz57 : w.heap.size ≤ gb220)); have GE220 := aM ((zz57 : w.heap.size ≤ gb220)); replace HB := aM (below_step (bG GE213) hb); have NB213_220 := aM ((zz42 : gb213 ≠ gb220)); have NB220_213 := aM ((zz41 : gb220 ≠ gb213)); replace BK213 := aM (blk_below (g := gb213) (o := .cells #[.int .i64 0, .int .i64 0, .int .i64 0, .int .i64 0, .int .i64 0, .int .i64 0, .int .i64 0] 23 (0, 0)) (bL BK213) hb); clear hb hbox hg; have hnb20 := NB220_213.out; have hnc20 := NB213_220.out; have hcz21_0 : w19.cell? ⟨gb220, 0, none⟩ = some (.int .i64 0) := (blk_cell BK220.out 0).trans rfl; have hcz21_1 : w19.cell? ⟨gb220, 1, none⟩ = some (.int .i64 0) := (blk_cell BK220.out 1).trans rfl; have hcz21_2 : w19.cell? ⟨gb220, 2, none⟩ = some (.int .i64 0) := (blk_cell BK220.out 2).trans rfl; have hcz21_3 : w19.cell? ⟨gb220, 3, none⟩ = some (.int .i64 0) := (blk_cell BK220.out 3).trans rfl; have hcz21_4 : w19.cell? ⟨gb220, 4, none⟩ = some (.int .i64 0) := (blk_cell BK220.out 4).trans rfl; have hcz21_5 : w19.cell? ⟨gb220, 5, none⟩ = some (.int .i64 0) := (blk_cell BK220.out 5).trans rfl; have hcz21_6 : w19.cell? ⟨gb220, 6, none⟩ = some (.int .i64 0) := (blk_cell BK220.out 6).trans rfl; have hfz21_0 := blk_frozen BK220.out 0; have hfz21_1 := blk_frozen BK220.out 1; have hfz21_2 := blk_frozen BK220.out 2; have hfz21_3 := blk_frozen BK220.out 3; have hfz21_4 := blk_frozen BK220.out 4; have hfz21_5 := blk_frozen BK220.out 5; have hfz21_6 := blk_frozen BK220.out 6; obtain ⟨Ao22, co22, eo22⟩ := Kd.R_slice HO219.out; subst eo22) | ((with_reducible refine gate_callee (f := 126) rfl ?_); refine gL_ (some 32) Tryd.func126 #[.slice Ao22 t215.length co22, .string (⟨#[99, 111, 110, 116, 101, 110, 116, 45, 116, 121, 112, 101]⟩ : ByteArray)] ?_; (with_reducible refine (spec_l4Of.calls k _ _ t215 (⟨#[99, 111, 110, 116, 101, 110, 116, 45, 116, 121, 112, 101]⟩ : ByteArray) t221 true _ ?side1 ?side2 A9.out).mono ?_); (case side1 => refine (Kd.R_reads' (e := 151) (base := w.heap.size) (ok := fun k_ => True) (n := t215.length) (c := co22) ?_).2.2; exact (zz9 HO219.out BK220.out)); (case side2 => exact (Kd.R_reads' HO219.out).2.1); rintro e w23 ⟨rfl, hb⟩; refine ⟨_, rfl, ?_⟩; replace HO219 := aM (Kd.R_below (zz9 HO219.out BK220.out) hb); replace BK213 := aM (blk_below (g := gb213) (o := .cells #[.int .i64 0, .int .i64 0, .int .i64 0, .int .i64 0, .int .i64 0, .int .i64 0, .int .i64 0] 23 (0, 0)) (zz1 NB213_220.out BK213.out) hb); replace BK220 := aM (blk_below (g := gb220) (o := .cells #[.int .i64 1, .int .i64 1, .int .i64 0, .int .i64 0, .int .i64 0, .int .i64 0, .int .i64 0] 23 (0, 0)) (zz0 BK220.out) hb); replace HB := aM (below_step (bG2 GE213 GE220) hb); (try clear hi)) | ((with_reducible refine gate_callee (f := 40) rfl ?_); refine gL_ (some 37) Tryd.func40 #[.string t221] ?_; (with_reducible refine (spec_l5Type.calls k t221 t223 t224 t225 t226 t227 t228 t229 _ A11.out).mono ?_); rintro e w24 ⟨rfl, hb⟩; refine ⟨_, rfl, ?_⟩; replace HO219 := aM (Kd.R_below (bR HO219) hb); replace BK213 := aM (blk_below (g := gb213) (o := .cells #[.int .i64 0, .int .i64 0, .int .i64 0, .int .i64 0, .int .i64 0, .int .i64 0, .int .i64 0] 23 (0, 0)) (bL BK213) hb); replace BK220 := aM (blk_below (g := gb220) (o := .cells #[.int .i64 1, .int .i64 1, .int .i64 0, .int .i64 0, .int .i64 0, .int .i64 0, .int .i64 0] 23 (0, 0)) (bL BK220) hb); replace HB := aM (below_step (bG2 GE213 GE220) hb); have hcz25_0 : w24.cell? ⟨gb220, 0, none⟩ = some (.int .i64 1) := (blk_cell BK220.out 0).trans rfl; have hcz25_1 : w24.cell? ⟨gb220, 1, none⟩ = some (.int .i64 1) := (blk_cell BK220.out 1).trans rfl; have hcz25_2 : w24.cell? ⟨gb220, 2, none⟩ = some (.int .i64 0) := (blk_cell BK220.out 2).trans rfl; have hcz25_3 : w24.cell? ⟨gb220, 3, none⟩ = some (.int .i64 0) := (blk_cell BK220.out 3).trans rfl; have hcz25_4 : w24.cell? ⟨gb220, 4, none⟩ = some (.int .i64 0) := (blk_cell BK220.out 4).trans rfl; have hcz25_5 : w24.cell? ⟨gb220, 5, none⟩ = some (.int .i64 0) := (blk_cell BK220.out 5).trans rfl; have hcz25_6 : w24.cell? ⟨gb220, 6, none⟩ = some (.int .i64 0) := (blk_cell BK220.out 6).trans rfl; have hfz25_0 := blk_frozen BK220.out 0; have hfz25_1 := blk_frozen BK220.out 1; have hfz25_2 := blk_frozen BK220.out 2; have hfz25_3 := blk_frozen BK220.out 3; have hfz25_4 := blk_frozen BK220.out 4; have hfz25_5 := blk_frozen BK220.out 5; have hfz25_6 := blk_frozen BK220.out 6) | ((with_reducible refine gate_callee (f := 73) rfl ?_); refine gL_ (some 43) Tryd.func73 #[.string t221] ?_; (with_reducible refine (spec_l5Pieces.calls k t221 t230 _ A13.out).mono ?_); rintro e w26 ⟨v231, rfl, ho0, hb⟩; refine ⟨_, rfl, ?_⟩; replace HO219 := aM (Kd.R_below (zz17 HO219.out BK220.out) hb); have HO232 := aM (Kd.R_lower ho0 (below_size (bG2 GE213 GE220))); replace BK213 := aM (blk_below (g := gb213) (o := .cells #[.int .i64 0, .int .i64 0, .int .i64 0, .int .i64 0, .int .i64 0, .int .i64 0, .int .i64 0] 23 (0, 0)) (zz1 NB213_220.out BK213.out) hb); replace BK220 := aM (blk_below (g := gb220) (o := .cells #[.int .i64 t223, .int .i64 t224, .int .i64 t225, .int .i64 t226, .int .i64 t227, .int .i64 t228, .int .i64 t229] 23 (0, 0)) (by (with_reducible repeat (first | refine blk_drewN ?_ _ | refine blk_drew ?_ | refine blk_alloc ?_ _)); refine blk_put (cs := #[.int .i64 t223, .int .i64 t224, .int .i64 t225, .int .i64 t226, .int .i64 t227, .int .i64 t228, .int .i64 0]) ?_ 6 _ rfl; (with_reducible repeat (first | refine blk_drewN ?_ _ | refine blk_drew ?_ | refine blk_alloc ?_ _)); refine blk_put (cs := #[.int .i64 t223, .int .i64 t224, .int .i64 t225, .int .i64 t226, .int .i64 t227, .int .i64 0, .int .i64 0]) ?_ 5 _ rfl; (with_reducible repeat (first | refine blk_drewN ?_ _ | refine blk_drew ?_ | refine blk_alloc ?_ _)); refine blk_put (cs := #[.int .i64 t223, .int .i64 t224, .int .i64 t225, .int .i64 t226, .int .i64 0, .int .i64 0, .int .i64 0]) ?_ 4 _ rfl; (with_reducible repeat (first | refine blk_drewN ?_ _ | refine blk_drew ?_ | refine blk_alloc ?_ _)); refine blk_put (cs := #[.int .i64 t223, .int .i64 t224, .int .i64 t225, .int .i64 0, .int .i64 0, .int .i64 0, .int .i64 0]) ?_ 3 _ rfl; (with_reducible repeat (first | refine blk_drewN ?_ _ | refine blk_drew ?_ | refine blk_alloc ?_ _)); refine blk_put (cs := #[.int .i64 t223, .int .i64 t224, .int .i64 0, .int .i64 0, .int .i64 0, .int .i64 0, .int .i64 0]) ?_ 2 _ rfl; (with_reducible repeat (first | refine blk_drewN ?_ _ | refine blk_drew ?_ | refine blk_alloc ?_ _)); refine blk_put (cs := #[.int .i64 t223, .int .i64 1, .int .i64 0, .int .i64 0, .int .i64 0, .int .i64 0, .int .i64 0]) ?_ 1 _ rfl; (with_reducible repeat (first | refine blk_drewN ?_ _ | refine blk_drew ?_ | refine blk_alloc ?_ _)); refine blk_put (cs := #[.int .i64 1, .int .i64 1, .int .i64 0, .int .i64 0, .int .i64 0, .int .i64 0, .int .i64 0]) ?_ 0 _ rfl; (with_reducible repeat (first | refine blk_drewN ?_ _ | refine blk_drew ?_ | refine blk_alloc ?_ _)); exact BK220.out) hb); replace HB := aM (below_step (bG2 GE213 GE220) hb); (try clear ho0); obtain ⟨Ao27, co27, eo27⟩ := Kd.R_slice HO232.out; subst eo27) | ((with_reducible refine gate_callee (f := 75) rfl ?_); refine gL_ (some 44) Tryd.func75 #[.slice Ao27 t230.length co27, .string (⟨#[98, 111, 117, 110, 100, 97, 114, 121, 61]⟩ : ByteArray)] ?_; (with_reducible refine (spec_l5Named.calls k _ _ t230 (⟨#[98, 111, 117, 110, 100, 97, 114, 121, 61]⟩ : ByteArray) t233 t234 _ ?side1 ?side2 A14.out).mono ?_); (case side1 => exact zz7 HO232.out); (case side2 => exact (Kd.R_reads' HO232.out).2.1); rintro e w28 ⟨rfl, hb⟩; refine ⟨_, rfl, ?_⟩; replace HO219 := aM (Kd.R_below (bR HO219) hb); replace HO232 := aM (Kd.R_below (bR HO232) hb); replace BK213 := aM (blk_below (g := gb213) (o := .cells #[.int .i64 0, .int .i64 0, .int .i64 0, .int .i64 0, .int .i64 0, .int .i64 0, .int .i64 0] 23 (0, 0)) (bL BK213) hb); replace BK220 := aM (blk_below (g := gb220) (o := .cells #[.int .i64 t223, .int .i64 t224, .int .i64 t225, .int .i64 t226, .int .i64 t227, .int .i64 t228, .int .i64 t229] 23 (0, 0)) (bL BK220) hb); replace HB := aM (below_step (bG2 GE213 GE220) hb); (try clear hi)) | ((with_reducible refine gate_callee (f := 127) rfl ?_); refine gL_ (some 48) Tryd.func127 #[.slice Ao22 t215.length co22] ?_; (with_reducible refine (spec_l5Coding.calls k _ _ t215 t235 _ ?side1 ?side2 A15.out).mono ?_); (case side1 => exact zz7 HO219.out); (case side2 => exact (Kd.R_reads' HO219.out).2.1); rintro e w29 ⟨rfl, hb⟩; refine ⟨_, rfl, ?_⟩; replace HO219 := aM (Kd.R_below (bR HO219) hb); replace HO232 := aM (Kd.R_below (bR HO232) hb); replace BK213 := aM (blk_below (g := gb213) (o := .cells #[.int .i64 0, .int .i64 0, .int .i64 0, .int .i64 0, .int .i64 0, .int .i64 0, .int .i64 0] 23 (0, 0)) (bL BK213) hb); replace BK220 := aM (blk_below (g := gb220) (o := .cells #[.int .i64 t223, .int .i64 t224, .int .i64 t225, .int .i64 t226, .int .i64 t227, .int .i64 t228, .int .i64 t229] 23 (0, 0)) (bL BK220) hb); replace HB := aM (below_step (bG2 GE213 GE220) hb); have hcz30_0 : w29.cell? ⟨gb220, 0, none⟩ = some (.int .i64 t223) := (blk_cell BK220.out 0).trans rfl; have hcz30_1 : w29.cell? ⟨gb220, 1, none⟩ = some (.int .i64 t224) := (blk_cell BK220.out 1).trans rfl; have hcz30_2 : w29.cell? ⟨gb220, 2, none⟩ = some (.int .i64 t225) := (blk_cell BK220.out 2).trans rfl; have hcz30_3 : w29.cell? ⟨gb220, 3, none⟩ = some (.int .i64 t226) := (blk_cell BK220.out 3).trans rfl; have hcz30_4 : w29.cell? ⟨gb220, 4, none⟩ = some (.int .i64 t227) := (blk_cell BK220.out 4).trans rfl; have hcz30_5 : w29.cell? ⟨gb220, 5, none⟩ = some (.int .i64 t228) := (blk_cell BK220.out 5).trans rfl; have hcz30_6 : w29.cell? ⟨gb220, 6, none⟩ = some (.int .i64 t229) := (blk_cell BK220.out 6).trans rfl; have hfz30_0 := blk_frozen BK220.out 0; have hfz30_1 := blk_frozen BK220.out 1; have hfz30_2 := blk_frozen BK220.out 2; have hfz30_3 := blk_frozen BK220.out 3; have hfz30_4 := blk_frozen BK220.out 4; have hfz30_5 := blk_frozen BK220.out 5; have hfz30_6 := blk_frozen BK220.out 6; have hcz31_0 : w29.cell? ⟨gb213, 0, none⟩ = some (.int .i64 0) := (blk_cell BK213.out 0).trans rfl; have hcz31_1 : w29.cell? ⟨gb213, 1, none⟩ = some (.int .i64 0) := (blk_cell BK213.out 1).trans rfl; have hcz31_2 : w29.cell? ⟨gb213, 2, none⟩ = some (.int .i64 0) := (blk_cell BK213.out 2).trans rfl; have hcz31_3 : w29.cell? ⟨gb213, 3, none⟩ = some (.int .i64 0) := (blk_cell BK213.out 3).trans rfl; have hcz31_4 : w29.cell? ⟨gb213, 4, none⟩ = some (.int .i64 0) := (blk_cell BK213.out 4).trans rfl; have hcz31_5 : w29.cell? ⟨gb213, 5, none⟩ = some (.int .i64 0) := (blk_cell BK213.out 5).trans rfl; have hcz31_6 : w29.cell? ⟨gb213, 6, none⟩ = some (.int .i64 0) := (blk_cell BK213.out 6).trans rfl; have hfz31_0 := blk_frozen BK213.out 0; have hfz31_1 := blk_frozen BK213.out 1; have hfz31_2 := blk_frozen BK213.out 2; have hfz31_3 := blk_frozen BK213.out 3; have hfz31_4 := blk_frozen BK213.out 4; have hfz31_5 := blk_frozen BK213.out 5; have hfz31_6 := blk_frozen BK213.out 6))
       refine bodyPost_ret (results_ct rfl _ _ gb213 23 #[.int .i64 t223, .int .i64 t224, .int .i64 t235, .int .i64 (wrap64 (a1 + t216)), .int .i64 a2, .int .i64 t228, .int .i64 t229] (0, 0) _ rfl (by (with_reducible repeat (first | refine blk_drewN ?_ _ | refine blk_drew ?_ | refine blk_alloc ?_ _)); refine blk_put (cs := #[.int .i64 t223, .int .i64 t224, .int .i64 t235, .int .i64 (wrap64 (a1 + t216)), .int .i64 a2, .int .i64 t228, .int .i64 0]) ?_ 6 _ rfl; (with_reducible repeat (first | refine blk_drewN ?_ _ | refine blk_drew ?_ | refine blk_alloc ?_ _)); refine blk_put (cs := #[.int .i64 t223, .int .i64 t224, .int .i64 t235, .int .i64 (wrap64 (a1 + t216)), .int .i64 a2, .int .i64 0, .int .i64 0]) ?_ 5 _ rfl; (with_reducible repeat (first | refine blk_drewN ?_ _ | refine blk_drew ?_ | refine blk_alloc ?_ _)); refine blk_put (cs := #[.int .i64 t223, .int .i64 t224, .int .i64 t235, .int .i64 (wrap64 (a1 + t216)), .int .i64 0, .int .i64 0, .int .i64 0]) ?_ 4 _ rfl; (with_reducible repeat (first | refine blk_drewN ?_ _ | refine blk_drew ?_ | refine blk_alloc ?_ _)); refine blk_put (cs := #[.int .i64 t223, .int .i64 t224, .int .i64 t235, .int .i64 0, .int .i64 0, .int .i64 0, .int .i64 0]) ?_ 3 _ rfl; (with_reducible repeat (first | refine blk_drewN ?_ _ | refine blk_drew ?_ | refine blk_alloc ?_ _)); refine blk_put (cs := #[.int .i64 t223, .int .i64 t224, .int .i64 0, .int .i64 0, .int .i64 0, .int .i64 0, .int .i64 0]) ?_ 2 _ rfl; (with_reducible repeat (first | refine blk_drewN ?_ _ | refine blk_drew ?_ | refine blk_alloc ?_ _)); refine blk_put (cs := #[.int .i64 t223, .int .i64 0, .int .i64 0, .int .i64 0, .int .i64 0, .int .i64 0, .int .i64 0]) ?_ 1 _ rfl; (with_reducible repeat (first | refine blk_drewN ?_ _ | refine blk_drew ?_ | refine blk_alloc ?_ _)); refine blk_put (cs := #[.int .i64 0, .int .i64 0, .int .i64 0, .int .i64 0, .int .i64 0, .int .i64 0, .int .i64 0]) ?_ 0 _ rfl; (with_reducible repeat (first | refine blk_drewN ?_ _ | refine blk_drew ?_ | refine blk_alloc ?_ _)); refine blk_far ?_ NB213_220.out _; (with_reducible repeat (first | refine blk_drewN ?_ _ | refine blk_drew ?_ | refine blk_alloc ?_ _)); refine blk_far ?_ NB213_220.out _; (with_reducible repeat (first | refine blk_drewN ?_ _ | refine blk_drew ?_ | refine blk_alloc ?_ _)); refine blk_far ?_ NB213_220.out _; (with_reducible repeat (first | refine blk_drewN ?_ _ | refine blk_drew ?_ | refine blk_alloc ?_ _)); exact BK213.out) Tryd.underlying23 rfl (by kernel_rfl)) rfl ?_
       exact ⟨bE, bG2 GE213 GE220⟩
      rw [if_neg c12] at H
      have c12b0 : (t223 == 2) = false := beq_eq_false_iff_ne.mpr c12
      have c12b1 : (t223 != 2) = true := bne_iff_ne.mpr c12
      replace H := Option.bind_eq_some_iff.mp H
      obtain ⟨t236, A320, H⟩ := H
      replace H : (some (t223, t224, t236, wrap64 (a1 + t216), a2, t228, t229, (⟨#[]⟩ : ByteArray))) = some (r1, r2, r3, r4, r5, r6, r7, r8) := H
      have A32 := aM A320
      clear A320
      simp only [Option.some.injEq, Prod.mk.injEq] at H
      obtain ⟨rfl, rfl, rfl, rfl, rfl, rfl, rfl, rfl⟩ := H
      (try simp only [c12b0, c12b1])
      go_wp2_with (first | ((with_reducible refine gate_dst (N := 6) rfl ?_); refine box_event ?hg (N := 6) ?hd (cs := #[.int .i64 0, .int .i64 0, .int .i64 0, .int .i64 0, .int .i64 0, .int .i64 0, .int .i64 0]) (t := 23) ?hr ?_; (case hd => rfl); (case hg => rfl); (case hr => exact zz13); intro gb213 hg w33 hbox hb; have BK213 := aM (hbox); have GW213 := aM ((zz18 : w.heap.size ≤ gb213)); have GE213 := aM ((zz18 : w.heap.size ≤ gb213)); replace HB := aM (below_step bB hb); clear hb hbox hg; obtain ⟨i034, hi034, _, hsz34, _⟩ := info_parts info5; obtain ⟨A34, hcut34, hA34, hC34⟩ := print_mid_of (P := Tryd.prog) (Value.int .u8) 0 27 5 .i64 .i64 Tryd.underlying27 hi034 hsz34 A0 c0 l0 a1 a2 (pI) (by first | omega | exact pI) (pI) HC0.out; have HR214 := aM (Kd.C_of_reads (h1 := fun _ => rfl) (hA34 _ (Kd.reads_of_C HR0.out))); have HC214 := aM hC34; clear hA34 hC34 hi034 hsz34) | ((with_reducible refine gate_callee (f := 125) rfl ?_); refine goesL_ (some 20) rfl rfl Tryd.func125 (by kernel_rfl) rfl #[.slice A34 ((l0.take (a2 : Int).toNat).drop (a1 : Int).toNat).length (c0 - a1.toNat)] rfl zz20 ?_; (with_reducible refine (spec_l4Parse.calls k _ _ ((l0.take (a2 : Int).toNat).drop (a1 : Int).toNat) t215 t216 true _ ?side1 ?side2 A7.out).mono ?_); (case side1 => exact zz6 HR214.out); (case side2 => exact HC214.out); rintro e w35 ⟨v218, rfl, ho0, hb⟩; refine ⟨_, rfl, ?_⟩; have HO219 := aM (Kd.R_lower ho0 (below_size (bG GE213))); replace BK213 := aM (blk_below (g := gb213) (o := .cells #[.int .i64 0, .int .i64 0, .int .i64 0, .int .i64 0, .int .i64 0, .int .i64 0, .int .i64 0] 23 (0, 0)) (bL BK213) hb); replace HB := aM (below_step (bG GE213) hb); (try clear ho0)) | ((with_reducible refine gate_dst (N := 11) rfl ?_); refine box_event ?hg (N := 11) ?hd (cs := #[.int .i64 0, .int .i64 0, .int .i64 0, .int .i64 0, .int .i64 0, .int .i64 0, .int .i64 0]) (t := 23) ?hr ?_; (case hd => rfl); (case hg => rfl); (case hr => exact zz13); intro gb220 hg w36 hbox hb; replace HO219 := aM (Kd.R_below (bR HO219) hb); have BK220 := aM (hbox); have GW220 := aM ((zz57 : w.heap.size ≤ gb220)); have GE220 := aM ((zz57 : w.heap.size ≤ gb220)); replace HB := aM (below_step (bG GE213) hb); have NB213_220 := aM ((zz42 : gb213 ≠ gb220)); have NB220_213 := aM ((zz41 : gb220 ≠ gb213)); replace BK213 := aM (blk_below (g := gb213) (o := .cells #[.int .i64 0, .int .i64 0, .int .i64 0, .int .i64 0, .int .i64 0, .int .i64 0, .int .i64 0] 23 (0, 0)) (bL BK213) hb); clear hb hbox hg; have hnb37 := NB220_213.out; have hnc37 := NB213_220.out; have hcz38_0 : w36.cell? ⟨gb220, 0, none⟩ = some (.int .i64 0) := (blk_cell BK220.out 0).trans rfl; have hcz38_1 : w36.cell? ⟨gb220, 1, none⟩ = some (.int .i64 0) := (blk_cell BK220.out 1).trans rfl; have hcz38_2 : w36.cell? ⟨gb220, 2, none⟩ = some (.int .i64 0) := (blk_cell BK220.out 2).trans rfl; have hcz38_3 : w36.cell? ⟨gb220, 3, none⟩ = some (.int .i64 0) := (blk_cell BK220.out 3).trans rfl; have hcz38_4 : w36.cell? ⟨gb220, 4, none⟩ = some (.int .i64 0) := (blk_cell BK220.out 4).trans rfl; have hcz38_5 : w36.cell? ⟨gb220, 5, none⟩ = some (.int .i64 0) := (blk_cell BK220.out 5).trans rfl; have hcz38_6 : w36.cell? ⟨gb220, 6, none⟩ = some (.int .i64 0) := (blk_cell BK220.out 6).trans rfl; have hfz38_0 := blk_frozen BK220.out 0; have hfz38_1 := blk_frozen BK220.out 1; have hfz38_2 := blk_frozen BK220.out 2; have hfz38_3 := blk_frozen BK220.out 3; have hfz38_4 := blk_frozen BK220.out 4; have hfz38_5 := blk_frozen BK220.out 5; have hfz38_6 := blk_frozen BK220.out 6; obtain ⟨Ao39, co39, eo39⟩ := Kd.R_slice HO219.out; subst eo39) | ((with_reducible refine gate_callee (f := 126) rfl ?_); refine gL_ (some 32) Tryd.func126 #[.slice Ao39 t215.length co39, .string (⟨#[99, 111, 110, 116, 101, 110, 116, 45, 116, 121, 112, 101]⟩ : ByteArray)] ?_; (with_reducible refine (spec_l4Of.calls k _ _ t215 (⟨#[99, 111, 110, 116, 101, 110, 116, 45, 116, 121, 112, 101]⟩ : ByteArray) t221 true _ ?side1 ?side2 A9.out).mono ?_); (case side1 => refine (Kd.R_reads' (e := 151) (base := w.heap.size) (ok := fun k_ => True) (n := t215.length) (c := co39) ?_).2.2; exact (zz9 HO219.out BK220.out)); (case side2 => exact (Kd.R_reads' HO219.out).2.1); rintro e w40 ⟨rfl, hb⟩; refine ⟨_, rfl, ?_⟩; replace HO219 := aM (Kd.R_below (zz9 HO219.out BK220.out) hb); replace BK213 := aM (blk_below (g := gb213) (o := .cells #[.int .i64 0, .int .i64 0, .int .i64 0, .int .i64 0, .int .i64 0, .int .i64 0, .int .i64 0] 23 (0, 0)) (zz1 NB213_220.out BK213.out) hb); replace BK220 := aM (blk_below (g := gb220) (o := .cells #[.int .i64 1, .int .i64 1, .int .i64 0, .int .i64 0, .int .i64 0, .int .i64 0, .int .i64 0] 23 (0, 0)) (zz0 BK220.out) hb); replace HB := aM (below_step (bG2 GE213 GE220) hb); (try clear hi)) | ((with_reducible refine gate_callee (f := 40) rfl ?_); refine gL_ (some 37) Tryd.func40 #[.string t221] ?_; (with_reducible refine (spec_l5Type.calls k t221 t223 t224 t225 t226 t227 t228 t229 _ A11.out).mono ?_); rintro e w41 ⟨rfl, hb⟩; refine ⟨_, rfl, ?_⟩; replace HO219 := aM (Kd.R_below (bR HO219) hb); replace BK213 := aM (blk_below (g := gb213) (o := .cells #[.int .i64 0, .int .i64 0, .int .i64 0, .int .i64 0, .int .i64 0, .int .i64 0, .int .i64 0] 23 (0, 0)) (bL BK213) hb); replace BK220 := aM (blk_below (g := gb220) (o := .cells #[.int .i64 1, .int .i64 1, .int .i64 0, .int .i64 0, .int .i64 0, .int .i64 0, .int .i64 0] 23 (0, 0)) (bL BK220) hb); replace HB := aM (below_step (bG2 GE213 GE220) hb); have hcz42_0 : w41.cell? ⟨gb220, 0, none⟩ = some (.int .i64 1) := (blk_cell BK220.out 0).trans rfl; have hcz42_1 : w41.cell? ⟨gb220, 1, none⟩ = some (.int .i64 1) := (blk_cell BK220.out 1).trans rfl; have hcz42_2 : w41.cell? ⟨gb220, 2, none⟩ = some (.int .i64 0) := (blk_cell BK220.out 2).trans rfl; have hcz42_3 : w41.cell? ⟨gb220, 3, none⟩ = some (.int .i64 0) := (blk_cell BK220.out 3).trans rfl; have hcz42_4 : w41.cell? ⟨gb220, 4, none⟩ = some (.int .i64 0) := (blk_cell BK220.out 4).trans rfl; have hcz42_5 : w41.cell? ⟨gb220, 5, none⟩ = some (.int .i64 0) := (blk_cell BK220.out 5).trans rfl; have hcz42_6 : w41.cell? ⟨gb220, 6, none⟩ = some (.int .i64 0) := (blk_cell BK220.out 6).trans rfl; have hfz42_0 := blk_frozen BK220.out 0; have hfz42_1 := blk_frozen BK220.out 1; have hfz42_2 := blk_frozen BK220.out 2; have hfz42_3 := blk_frozen BK220.out 3; have hfz42_4 := blk_frozen BK220.out 4; have hfz42_5 := blk_frozen BK220.out 5; have hfz42_6 := blk_frozen BK220.out 6) | ((with_reducible refine gate_callee (f := 127) rfl ?_); refine gL_ (some 48) Tryd.func127 #[.slice Ao39 t215.length co39] ?_; (with_reducible refine (spec_l5Coding.calls k _ _ t215 t236 _ ?side1 ?side2 A32.out).mono ?_); (case side1 => refine (Kd.R_reads' (e := 151) (base := w.heap.size) (ok := fun k_ => True) (n := t215.length) (c := co39) ?_).2.2; exact (zz17 HO219.out BK220.out)); (case side2 => exact (Kd.R_reads' HO219.out).2.1); rintro e w43 ⟨rfl, hb⟩; refine ⟨_, rfl, ?_⟩; replace HO219 := aM (Kd.R_below (zz17 HO219.out BK220.out) hb); replace BK213 := aM (blk_below (g := gb213) (o := .cells #[.int .i64 0, .int .i64 0, .int .i64 0, .int .i64 0, .int .i64 0, .int .i64 0, .int .i64 0] 23 (0, 0)) (zz1 NB213_220.out BK213.out) hb); replace BK220 := aM (blk_below (g := gb220) (o := .cells #[.int .i64 t223, .int .i64 t224, .int .i64 t225, .int .i64 t226, .int .i64 t227, .int .i64 t228, .int .i64 t229] 23 (0, 0)) (by (with_reducible repeat (first | refine blk_drewN ?_ _ | refine blk_drew ?_ | refine blk_alloc ?_ _)); refine blk_put (cs := #[.int .i64 t223, .int .i64 t224, .int .i64 t225, .int .i64 t226, .int .i64 t227, .int .i64 t228, .int .i64 0]) ?_ 6 _ rfl; (with_reducible repeat (first | refine blk_drewN ?_ _ | refine blk_drew ?_ | refine blk_alloc ?_ _)); refine blk_put (cs := #[.int .i64 t223, .int .i64 t224, .int .i64 t225, .int .i64 t226, .int .i64 t227, .int .i64 0, .int .i64 0]) ?_ 5 _ rfl; (with_reducible repeat (first | refine blk_drewN ?_ _ | refine blk_drew ?_ | refine blk_alloc ?_ _)); refine blk_put (cs := #[.int .i64 t223, .int .i64 t224, .int .i64 t225, .int .i64 t226, .int .i64 0, .int .i64 0, .int .i64 0]) ?_ 4 _ rfl; (with_reducible repeat (first | refine blk_drewN ?_ _ | refine blk_drew ?_ | refine blk_alloc ?_ _)); refine blk_put (cs := #[.int .i64 t223, .int .i64 t224, .int .i64 t225, .int .i64 0, .int .i64 0, .int .i64 0, .int .i64 0]) ?_ 3 _ rfl; (with_reducible repeat (first | refine blk_drewN ?_ _ | refine blk_drew ?_ | refine blk_alloc ?_ _)); refine blk_put (cs := #[.int .i64 t223, .int .i64 t224, .int .i64 0, .int .i64 0, .int .i64 0, .int .i64 0, .int .i64 0]) ?_ 2 _ rfl; (with_reducible repeat (first | refine blk_drewN ?_ _ | refine blk_drew ?_ | refine blk_alloc ?_ _)); refine blk_put (cs := #[.int .i64 t223, .int .i64 1, .int .i64 0, .int .i64 0, .int .i64 0, .int .i64 0, .int .i64 0]) ?_ 1 _ rfl; (with_reducible repeat (first | refine blk_drewN ?_ _ | refine blk_drew ?_ | refine blk_alloc ?_ _)); refine blk_put (cs := #[.int .i64 1, .int .i64 1, .int .i64 0, .int .i64 0, .int .i64 0, .int .i64 0, .int .i64 0]) ?_ 0 _ rfl; (with_reducible repeat (first | refine blk_drewN ?_ _ | refine blk_drew ?_ | refine blk_alloc ?_ _)); exact BK220.out) hb); replace HB := aM (below_step (bG2 GE213 GE220) hb); have hcz44_0 : w43.cell? ⟨gb220, 0, none⟩ = some (.int .i64 t223) := (blk_cell BK220.out 0).trans rfl; have hcz44_1 : w43.cell? ⟨gb220, 1, none⟩ = some (.int .i64 t224) := (blk_cell BK220.out 1).trans rfl; have hcz44_2 : w43.cell? ⟨gb220, 2, none⟩ = some (.int .i64 t225) := (blk_cell BK220.out 2).trans rfl; have hcz44_3 : w43.cell? ⟨gb220, 3, none⟩ = some (.int .i64 t226) := (blk_cell BK220.out 3).trans rfl; have hcz44_4 : w43.cell? ⟨gb220, 4, none⟩ = some (.int .i64 t227) := (blk_cell BK220.out 4).trans rfl; have hcz44_5 : w43.cell? ⟨gb220, 5, none⟩ = some (.int .i64 t228) := (blk_cell BK220.out 5).trans rfl; have hcz44_6 : w43.cell? ⟨gb220, 6, none⟩ = some (.int .i64 t229) := (blk_cell BK220.out 6).trans rfl; have hfz44_0 := blk_frozen BK220.out 0; have hfz44_1 := blk_frozen BK220.out 1; have hfz44_2 := blk_frozen BK220.out 2; have hfz44_3 := blk_frozen BK220.out 3; have hfz44_4 := blk_frozen BK220.out 4; have hfz44_5 := blk_frozen BK220.out 5; have hfz44_6 := blk_frozen BK220.out 6; have hcz45_0 : w43.cell? ⟨gb213, 0, none⟩ = some (.int .i64 0) := (blk_cell BK213.out 0).trans rfl; have hcz45_1 : w43.cell? ⟨gb213, 1, none⟩ = some (.int .i64 0) := (blk_cell BK213.out 1).trans rfl; have hcz45_2 : w43.cell? ⟨gb213, 2, none⟩ = some (.int .i64 0) := (blk_cell BK213.out 2).trans rfl; have hcz45_3 : w43.cell? ⟨gb213, 3, none⟩ = some (.int .i64 0) := (blk_cell BK213.out 3).trans rfl; have hcz45_4 : w43.cell? ⟨gb213, 4, none⟩ = some (.int .i64 0) := (blk_cell BK213.out 4).trans rfl; have hcz45_5 : w43.cell? ⟨gb213, 5, none⟩ = some (.int .i64 0) := (blk_cell BK213.out 5).trans rfl; have hcz45_6 : w43.cell? ⟨gb213, 6, none⟩ = some (.int .i64 0) := (blk_cell BK213.out 6).trans rfl; have hfz45_0 := blk_frozen BK213.out 0; have hfz45_1 := blk_frozen BK213.out 1; have hfz45_2 := blk_frozen BK213.out 2; have hfz45_3 := blk_frozen BK213.out 3; have hfz45_4 := blk_frozen BK213.out 4; have hfz45_5 := blk_frozen BK213.out 5; have hfz45_6 := blk_frozen BK213.out 6))
      refine bodyPost_ret (results_ct rfl _ _ gb213 23 #[.int .i64 t223, .int .i64 t224, .int .i64 t236, .int .i64 (wrap64 (a1 + t216)), .int .i64 a2, .int .i64 t228, .int .i64 t229] (0, 0) _ rfl (by (with_reducible repeat (first | refine blk_drewN ?_ _ | refine blk_drew ?_ | refine blk_alloc ?_ _)); refine blk_put (cs := #[.int .i64 t223, .int .i64 t224, .int .i64 t236, .int .i64 (wrap64 (a1 + t216)), .int .i64 a2, .int .i64 t228, .int .i64 0]) ?_ 6 _ rfl; (with_reducible repeat (first | refine blk_drewN ?_ _ | refine blk_drew ?_ | refine blk_alloc ?_ _)); refine blk_put (cs := #[.int .i64 t223, .int .i64 t224, .int .i64 t236, .int .i64 (wrap64 (a1 + t216)), .int .i64 a2, .int .i64 0, .int .i64 0]) ?_ 5 _ rfl; (with_reducible repeat (first | refine blk_drewN ?_ _ | refine blk_drew ?_ | refine blk_alloc ?_ _)); refine blk_put (cs := #[.int .i64 t223, .int .i64 t224, .int .i64 t236, .int .i64 (wrap64 (a1 + t216)), .int .i64 0, .int .i64 0, .int .i64 0]) ?_ 4 _ rfl; (with_reducible repeat (first | refine blk_drewN ?_ _ | refine blk_drew ?_ | refine blk_alloc ?_ _)); refine blk_put (cs := #[.int .i64 t223, .int .i64 t224, .int .i64 t236, .int .i64 0, .int .i64 0, .int .i64 0, .int .i64 0]) ?_ 3 _ rfl; (with_reducible repeat (first | refine blk_drewN ?_ _ | refine blk_drew ?_ | refine blk_alloc ?_ _)); refine blk_put (cs := #[.int .i64 t223, .int .i64 t224, .int .i64 0, .int .i64 0, .int .i64 0, .int .i64 0, .int .i64 0]) ?_ 2 _ rfl; (with_reducible repeat (first | refine blk_drewN ?_ _ | refine blk_drew ?_ | refine blk_alloc ?_ _)); refine blk_put (cs := #[.int .i64 t223, .int .i64 0, .int .i64 0, .int .i64 0, .int .i64 0, .int .i64 0, .int .i64 0]) ?_ 1 _ rfl; (with_reducible repeat (first | refine blk_drewN ?_ _ | refine blk_drew ?_ | refine blk_alloc ?_ _)); refine blk_put (cs := #[.int .i64 0, .int .i64 0, .int .i64 0, .int .i64 0, .int .i64 0, .int .i64 0, .int .i64 0]) ?_ 0 _ rfl; (with_reducible repeat (first | refine blk_drewN ?_ _ | refine blk_drew ?_ | refine blk_alloc ?_ _)); refine blk_far ?_ NB213_220.out _; (with_reducible repeat (first | refine blk_drewN ?_ _ | refine blk_drew ?_ | refine blk_alloc ?_ _)); refine blk_far ?_ NB213_220.out _; (with_reducible repeat (first | refine blk_drewN ?_ _ | refine blk_drew ?_ | refine blk_alloc ?_ _)); refine blk_far ?_ NB213_220.out _; (with_reducible repeat (first | refine blk_drewN ?_ _ | refine blk_drew ?_ | refine blk_alloc ?_ _)); exact BK213.out) Tryd.underlying23 rfl (by kernel_rfl)) rfl ?_
      exact ⟨bE, bG2 GE213 GE220⟩
     replace c10 := Bool.eq_false_iff.mpr c10
     subst c10
     have H1 : ((spec_l5Coding.f k t215).bind fun t237 => (some (1, 1, t237, wrap64 (a1 + t216), a2, 0, 0, (⟨#[]⟩ : ByteArray)))) = some (r1, r2, r3, r4, r5, r6, r7, r8) := zz15
     clear H
     have H := H1
     clear H1
     replace H := Option.bind_eq_some_iff.mp H
     obtain ⟨t237, A460, H⟩ := H
     replace H : (some (1, 1, t237, wrap64 (a1 + t216), a2, 0, 0, (⟨#[]⟩ : ByteArray))) = some (r1, r2, r3, r4, r5, r6, r7, r8) := H
     have A46 := aM A460
     clear A460
     simp only [Option.some.injEq, Prod.mk.injEq] at H
     obtain ⟨rfl, rfl, rfl, rfl, rfl, rfl, rfl, rfl⟩ := H
     go_wp2_with (first | ((with_reducible refine gate_dst (N := 6) rfl ?_); refine box_event ?hg (N := 6) ?hd (cs := #[.int .i64 0, .int .i64 0, .int .i64 0, .int .i64 0, .int .i64 0, .int .i64 0, .int .i64 0]) (t := 23) ?hr ?_; (case hd => rfl); (case hg => rfl); (case hr => exact zz13); intro gb213 hg w47 hbox hb; have BK213 := aM (hbox); have GW213 := aM ((zz18 : w.heap.size ≤ gb213)); have GE213 := aM ((zz18 : w.heap.size ≤ gb213)); replace HB := aM (below_step bB hb); clear hb hbox hg; obtain ⟨i048, hi048, _, hsz48, _⟩ := info_parts info5; obtain ⟨A48, hcut48, hA48, hC48⟩ := print_mid_of (P := Tryd.prog) (Value.int .u8) 0 27 5 .i64 .i64 Tryd.underlying27 hi048 hsz48 A0 c0 l0 a1 a2 (pI) (by first | omega | exact pI) (pI) HC0.out; have HR214 := aM (Kd.C_of_reads (h1 := fun _ => rfl) (hA48 _ (Kd.reads_of_C HR0.out))); have HC214 := aM hC48; clear hA48 hC48 hi048 hsz48) | ((with_reducible refine gate_callee (f := 125) rfl ?_); refine goesL_ (some 20) rfl rfl Tryd.func125 (by kernel_rfl) rfl #[.slice A48 ((l0.take (a2 : Int).toNat).drop (a1 : Int).toNat).length (c0 - a1.toNat)] rfl zz20 ?_; (with_reducible refine (spec_l4Parse.calls k _ _ ((l0.take (a2 : Int).toNat).drop (a1 : Int).toNat) t215 t216 true _ ?side1 ?side2 A7.out).mono ?_); (case side1 => exact zz6 HR214.out); (case side2 => exact HC214.out); rintro e w49 ⟨v218, rfl, ho0, hb⟩; refine ⟨_, rfl, ?_⟩; have HO219 := aM (Kd.R_lower ho0 (below_size (bG GE213))); replace BK213 := aM (blk_below (g := gb213) (o := .cells #[.int .i64 0, .int .i64 0, .int .i64 0, .int .i64 0, .int .i64 0, .int .i64 0, .int .i64 0] 23 (0, 0)) (bL BK213) hb); replace HB := aM (below_step (bG GE213) hb); (try clear ho0)) | ((with_reducible refine gate_dst (N := 11) rfl ?_); refine box_event ?hg (N := 11) ?hd (cs := #[.int .i64 0, .int .i64 0, .int .i64 0, .int .i64 0, .int .i64 0, .int .i64 0, .int .i64 0]) (t := 23) ?hr ?_; (case hd => rfl); (case hg => rfl); (case hr => exact zz13); intro gb220 hg w50 hbox hb; replace HO219 := aM (Kd.R_below (bR HO219) hb); have BK220 := aM (hbox); have GW220 := aM ((zz57 : w.heap.size ≤ gb220)); have GE220 := aM ((zz57 : w.heap.size ≤ gb220)); replace HB := aM (below_step (bG GE213) hb); have NB213_220 := aM ((zz42 : gb213 ≠ gb220)); have NB220_213 := aM ((zz41 : gb220 ≠ gb213)); replace BK213 := aM (blk_below (g := gb213) (o := .cells #[.int .i64 0, .int .i64 0, .int .i64 0, .int .i64 0, .int .i64 0, .int .i64 0, .int .i64 0] 23 (0, 0)) (bL BK213) hb); clear hb hbox hg; have hnb51 := NB220_213.out; have hnc51 := NB213_220.out; have hcz52_0 : w50.cell? ⟨gb220, 0, none⟩ = some (.int .i64 0) := (blk_cell BK220.out 0).trans rfl; have hcz52_1 : w50.cell? ⟨gb220, 1, none⟩ = some (.int .i64 0) := (blk_cell BK220.out 1).trans rfl; have hcz52_2 : w50.cell? ⟨gb220, 2, none⟩ = some (.int .i64 0) := (blk_cell BK220.out 2).trans rfl; have hcz52_3 : w50.cell? ⟨gb220, 3, none⟩ = some (.int .i64 0) := (blk_cell BK220.out 3).trans rfl; have hcz52_4 : w50.cell? ⟨gb220, 4, none⟩ = some (.int .i64 0) := (blk_cell BK220.out 4).trans rfl; have hcz52_5 : w50.cell? ⟨gb220, 5, none⟩ = some (.int .i64 0) := (blk_cell BK220.out 5).trans rfl; have hcz52_6 : w50.cell? ⟨gb220, 6, none⟩ = some (.int .i64 0) := (blk_cell BK220.out 6).trans rfl; have hfz52_0 := blk_frozen BK220.out 0; have hfz52_1 := blk_frozen BK220.out 1; have hfz52_2 := blk_frozen BK220.out 2; have hfz52_3 := blk_frozen BK220.out 3; have hfz52_4 := blk_frozen BK220.out 4; have hfz52_5 := blk_frozen BK220.out 5; have hfz52_6 := blk_frozen BK220.out 6; obtain ⟨Ao53, co53, eo53⟩ := Kd.R_slice HO219.out; subst eo53) | ((with_reducible refine gate_callee (f := 126) rfl ?_); refine gL_ (some 32) Tryd.func126 #[.slice Ao53 t215.length co53, .string (⟨#[99, 111, 110, 116, 101, 110, 116, 45, 116, 121, 112, 101]⟩ : ByteArray)] ?_; (with_reducible refine (spec_l4Of.calls k _ _ t215 (⟨#[99, 111, 110, 116, 101, 110, 116, 45, 116, 121, 112, 101]⟩ : ByteArray) t221 false _ ?side1 ?side2 A9.out).mono ?_); (case side1 => refine (Kd.R_reads' (e := 151) (base := w.heap.size) (ok := fun k_ => True) (n := t215.length) (c := co53) ?_).2.2; exact (zz9 HO219.out BK220.out)); (case side2 => exact (Kd.R_reads' HO219.out).2.1); rintro e w54 ⟨rfl, hb⟩; refine ⟨_, rfl, ?_⟩; replace HO219 := aM (Kd.R_below (zz9 HO219.out BK220.out) hb); replace BK213 := aM (blk_below (g := gb213) (o := .cells #[.int .i64 0, .int .i64 0, .int .i64 0, .int .i64 0, .int .i64 0, .int .i64 0, .int .i64 0] 23 (0, 0)) (zz1 NB213_220.out BK213.out) hb); replace BK220 := aM (blk_below (g := gb220) (o := .cells #[.int .i64 1, .int .i64 1, .int .i64 0, .int .i64 0, .int .i64 0, .int .i64 0, .int .i64 0] 23 (0, 0)) (zz0 BK220.out) hb); replace HB := aM (below_step (bG2 GE213 GE220) hb); (try clear hi)) | ((with_reducible refine gate_callee (f := 127) rfl ?_); refine gL_ (some 48) Tryd.func127 #[.slice Ao53 t215.length co53] ?_; (with_reducible refine (spec_l5Coding.calls k _ _ t215 t237 _ ?side1 ?side2 A46.out).mono ?_); (case side1 => exact zz7 HO219.out); (case side2 => exact (Kd.R_reads' HO219.out).2.1); rintro e w55 ⟨rfl, hb⟩; refine ⟨_, rfl, ?_⟩; replace HO219 := aM (Kd.R_below (bR HO219) hb); replace BK213 := aM (blk_below (g := gb213) (o := .cells #[.int .i64 0, .int .i64 0, .int .i64 0, .int .i64 0, .int .i64 0, .int .i64 0, .int .i64 0] 23 (0, 0)) (bL BK213) hb); replace BK220 := aM (blk_below (g := gb220) (o := .cells #[.int .i64 1, .int .i64 1, .int .i64 0, .int .i64 0, .int .i64 0, .int .i64 0, .int .i64 0] 23 (0, 0)) (bL BK220) hb); replace HB := aM (below_step (bG2 GE213 GE220) hb); have hcz56_0 : w55.cell? ⟨gb220, 0, none⟩ = some (.int .i64 1) := (blk_cell BK220.out 0).trans rfl; have hcz56_1 : w55.cell? ⟨gb220, 1, none⟩ = some (.int .i64 1) := (blk_cell BK220.out 1).trans rfl; have hcz56_2 : w55.cell? ⟨gb220, 2, none⟩ = some (.int .i64 0) := (blk_cell BK220.out 2).trans rfl; have hcz56_3 : w55.cell? ⟨gb220, 3, none⟩ = some (.int .i64 0) := (blk_cell BK220.out 3).trans rfl; have hcz56_4 : w55.cell? ⟨gb220, 4, none⟩ = some (.int .i64 0) := (blk_cell BK220.out 4).trans rfl; have hcz56_5 : w55.cell? ⟨gb220, 5, none⟩ = some (.int .i64 0) := (blk_cell BK220.out 5).trans rfl; have hcz56_6 : w55.cell? ⟨gb220, 6, none⟩ = some (.int .i64 0) := (blk_cell BK220.out 6).trans rfl; have hfz56_0 := blk_frozen BK220.out 0; have hfz56_1 := blk_frozen BK220.out 1; have hfz56_2 := blk_frozen BK220.out 2; have hfz56_3 := blk_frozen BK220.out 3; have hfz56_4 := blk_frozen BK220.out 4; have hfz56_5 := blk_frozen BK220.out 5; have hfz56_6 := blk_frozen BK220.out 6; have hcz57_0 : w55.cell? ⟨gb213, 0, none⟩ = some (.int .i64 0) := (blk_cell BK213.out 0).trans rfl; have hcz57_1 : w55.cell? ⟨gb213, 1, none⟩ = some (.int .i64 0) := (blk_cell BK213.out 1).trans rfl; have hcz57_2 : w55.cell? ⟨gb213, 2, none⟩ = some (.int .i64 0) := (blk_cell BK213.out 2).trans rfl; have hcz57_3 : w55.cell? ⟨gb213, 3, none⟩ = some (.int .i64 0) := (blk_cell BK213.out 3).trans rfl; have hcz57_4 : w55.cell? ⟨gb213, 4, none⟩ = some (.int .i64 0) := (blk_cell BK213.out 4).trans rfl; have hcz57_5 : w55.cell? ⟨gb213, 5, none⟩ = some (.int .i64 0) := (blk_cell BK213.out 5).trans rfl; have hcz57_6 : w55.cell? ⟨gb213, 6, none⟩ = some (.int .i64 0) := (blk_cell BK213.out 6).trans rfl; have hfz57_0 := blk_frozen BK213.out 0; have hfz57_1 := blk_frozen BK213.out 1; have hfz57_2 := blk_frozen BK213.out 2; have hfz57_3 := blk_frozen BK213.out 3; have hfz57_4 := blk_frozen BK213.out 4; have hfz57_5 := blk_frozen BK213.out 5; have hfz57_6 := blk_frozen BK213.out 6))
     refine bodyPost_ret (results_ct rfl _ _ gb213 23 #[.int .i64 1, .int .i64 1, .int .i64 t237, .int .i64 (wrap64 (a1 + t216)), .int .i64 a2, .int .i64 0, .int .i64 0] (0, 0) _ rfl (by (with_reducible repeat (first | refine blk_drewN ?_ _ | refine blk_drew ?_ | refine blk_alloc ?_ _)); refine blk_put (cs := #[.int .i64 1, .int .i64 1, .int .i64 t237, .int .i64 (wrap64 (a1 + t216)), .int .i64 a2, .int .i64 0, .int .i64 0]) ?_ 6 _ rfl; (with_reducible repeat (first | refine blk_drewN ?_ _ | refine blk_drew ?_ | refine blk_alloc ?_ _)); refine blk_put (cs := #[.int .i64 1, .int .i64 1, .int .i64 t237, .int .i64 (wrap64 (a1 + t216)), .int .i64 a2, .int .i64 0, .int .i64 0]) ?_ 5 _ rfl; (with_reducible repeat (first | refine blk_drewN ?_ _ | refine blk_drew ?_ | refine blk_alloc ?_ _)); refine blk_put (cs := #[.int .i64 1, .int .i64 1, .int .i64 t237, .int .i64 (wrap64 (a1 + t216)), .int .i64 0, .int .i64 0, .int .i64 0]) ?_ 4 _ rfl; (with_reducible repeat (first | refine blk_drewN ?_ _ | refine blk_drew ?_ | refine blk_alloc ?_ _)); refine blk_put (cs := #[.int .i64 1, .int .i64 1, .int .i64 t237, .int .i64 0, .int .i64 0, .int .i64 0, .int .i64 0]) ?_ 3 _ rfl; (with_reducible repeat (first | refine blk_drewN ?_ _ | refine blk_drew ?_ | refine blk_alloc ?_ _)); refine blk_put (cs := #[.int .i64 1, .int .i64 1, .int .i64 0, .int .i64 0, .int .i64 0, .int .i64 0, .int .i64 0]) ?_ 2 _ rfl; (with_reducible repeat (first | refine blk_drewN ?_ _ | refine blk_drew ?_ | refine blk_alloc ?_ _)); refine blk_put (cs := #[.int .i64 1, .int .i64 0, .int .i64 0, .int .i64 0, .int .i64 0, .int .i64 0, .int .i64 0]) ?_ 1 _ rfl; (with_reducible repeat (first | refine blk_drewN ?_ _ | refine blk_drew ?_ | refine blk_alloc ?_ _)); refine blk_put (cs := #[.int .i64 0, .int .i64 0, .int .i64 0, .int .i64 0, .int .i64 0, .int .i64 0, .int .i64 0]) ?_ 0 _ rfl; (with_reducible repeat (first | refine blk_drewN ?_ _ | refine blk_drew ?_ | refine blk_alloc ?_ _)); refine blk_far ?_ NB213_220.out _; (with_reducible repeat (first | refine blk_drewN ?_ _ | refine blk_drew ?_ | refine blk_alloc ?_ _)); refine blk_far ?_ NB213_220.out _; (with_reducible repeat (first | refine blk_drewN ?_ _ | refine blk_drew ?_ | refine blk_alloc ?_ _)); refine blk_far ?_ NB213_220.out _; (with_reducible repeat (first | refine blk_drewN ?_ _ | refine blk_drew ?_ | refine blk_alloc ?_ _)); exact BK213.out) Tryd.underlying23 rfl (by kernel_rfl)) rfl ?_
     exact ⟨bE, bG2 GE213 GE220⟩
    replace c8 := Bool.eq_false_iff.mpr c8
    subst c8
    have H1 : (some (3, 0, 1, a1, a2, 0, 0, (⟨#[]⟩ : ByteArray))) = some (r1, r2, r3, r4, r5, r6, r7, r8) := zz15
    clear H
    have H := H1
    clear H1
    simp only [Option.some.injEq, Prod.mk.injEq] at H
    obtain ⟨rfl, rfl, rfl, rfl, rfl, rfl, rfl, rfl⟩ := H
    go_wp2_with (first | ((with_reducible refine gate_dst (N := 6) rfl ?_); refine box_event ?hg (N := 6) ?hd (cs := #[.int .i64 0, .int .i64 0, .int .i64 0, .int .i64 0, .int .i64 0, .int .i64 0, .int .i64 0]) (t := 23) ?hr ?_; (case hd => rfl); (case hg => rfl); (case hr => exact zz13); intro gb213 hg w58 hbox hb; have BK213 := aM (hbox); have GW213 := aM ((zz18 : w.heap.size ≤ gb213)); have GE213 := aM ((zz18 : w.heap.size ≤ gb213)); replace HB := aM (below_step bB hb); clear hb hbox hg; obtain ⟨i059, hi059, _, hsz59, _⟩ := info_parts info5; obtain ⟨A59, hcut59, hA59, hC59⟩ := print_mid_of (P := Tryd.prog) (Value.int .u8) 0 27 5 .i64 .i64 Tryd.underlying27 hi059 hsz59 A0 c0 l0 a1 a2 (pI) (by first | omega | exact pI) (pI) HC0.out; have HR214 := aM (Kd.C_of_reads (h1 := fun _ => rfl) (hA59 _ (Kd.reads_of_C HR0.out))); have HC214 := aM hC59; clear hA59 hC59 hi059 hsz59) | ((with_reducible refine gate_callee (f := 125) rfl ?_); refine goesL_ (some 20) rfl rfl Tryd.func125 (by kernel_rfl) rfl #[.slice A59 ((l0.take (a2 : Int).toNat).drop (a1 : Int).toNat).length (c0 - a1.toNat)] rfl zz20 ?_; (with_reducible refine (spec_l4Parse.calls k _ _ ((l0.take (a2 : Int).toNat).drop (a1 : Int).toNat) t215 t216 false _ ?side1 ?side2 A7.out).mono ?_); (case side1 => exact zz6 HR214.out); (case side2 => exact HC214.out); rintro e w60 ⟨v218, rfl, ho0, hb⟩; refine ⟨_, rfl, ?_⟩; have HO219 := aM (Kd.R_lower ho0 (below_size (bG GE213))); replace BK213 := aM (blk_below (g := gb213) (o := .cells #[.int .i64 0, .int .i64 0, .int .i64 0, .int .i64 0, .int .i64 0, .int .i64 0, .int .i64 0] 23 (0, 0)) (bL BK213) hb); replace HB := aM (below_step (bG GE213) hb); (try clear ho0); have hcz61_0 : w60.cell? ⟨gb213, 0, none⟩ = some (.int .i64 0) := (blk_cell BK213.out 0).trans rfl; have hcz61_1 : w60.cell? ⟨gb213, 1, none⟩ = some (.int .i64 0) := (blk_cell BK213.out 1).trans rfl; have hcz61_2 : w60.cell? ⟨gb213, 2, none⟩ = some (.int .i64 0) := (blk_cell BK213.out 2).trans rfl; have hcz61_3 : w60.cell? ⟨gb213, 3, none⟩ = some (.int .i64 0) := (blk_cell BK213.out 3).trans rfl; have hcz61_4 : w60.cell? ⟨gb213, 4, none⟩ = some (.int .i64 0) := (blk_cell BK213.out 4).trans rfl; have hcz61_5 : w60.cell? ⟨gb213, 5, none⟩ = some (.int .i64 0) := (blk_cell BK213.out 5).trans rfl; have hcz61_6 : w60.cell? ⟨gb213, 6, none⟩ = some (.int .i64 0) := (blk_cell BK213.out 6).trans rfl; have hfz61_0 := blk_frozen BK213.out 0; have hfz61_1 := blk_frozen BK213.out 1; have hfz61_2 := blk_frozen BK213.out 2; have hfz61_3 := blk_frozen BK213.out 3; have hfz61_4 := blk_frozen BK213.out 4; have hfz61_5 := blk_frozen BK213.out 5; have hfz61_6 := blk_frozen BK213.out 6))
    refine bodyPost_ret (results_ct rfl _ _ gb213 23 #[.int .i64 3, .int .i64 0, .int .i64 1, .int .i64 a1, .int .i64 a2, .int .i64 0, .int .i64 0] (0, 0) _ rfl (by (with_reducible repeat (first | refine blk_drewN ?_ _ | refine blk_drew ?_ | refine blk_alloc ?_ _)); refine blk_put (cs := #[.int .i64 3, .int .i64 0, .int .i64 1, .int .i64 a1, .int .i64 a2, .int .i64 0, .int .i64 0]) ?_ 6 _ rfl; (with_reducible repeat (first | refine blk_drewN ?_ _ | refine blk_drew ?_ | refine blk_alloc ?_ _)); refine blk_put (cs := #[.int .i64 3, .int .i64 0, .int .i64 1, .int .i64 a1, .int .i64 a2, .int .i64 0, .int .i64 0]) ?_ 5 _ rfl; (with_reducible repeat (first | refine blk_drewN ?_ _ | refine blk_drew ?_ | refine blk_alloc ?_ _)); refine blk_put (cs := #[.int .i64 3, .int .i64 0, .int .i64 1, .int .i64 a1, .int .i64 0, .int .i64 0, .int .i64 0]) ?_ 4 _ rfl; (with_reducible repeat (first | refine blk_drewN ?_ _ | refine blk_drew ?_ | refine blk_alloc ?_ _)); refine blk_put (cs := #[.int .i64 3, .int .i64 0, .int .i64 1, .int .i64 0, .int .i64 0, .int .i64 0, .int .i64 0]) ?_ 3 _ rfl; (with_reducible repeat (first | refine blk_drewN ?_ _ | refine blk_drew ?_ | refine blk_alloc ?_ _)); refine blk_put (cs := #[.int .i64 3, .int .i64 0, .int .i64 0, .int .i64 0, .int .i64 0, .int .i64 0, .int .i64 0]) ?_ 2 _ rfl; (with_reducible repeat (first | refine blk_drewN ?_ _ | refine blk_drew ?_ | refine blk_alloc ?_ _)); refine blk_put (cs := #[.int .i64 3, .int .i64 0, .int .i64 0, .int .i64 0, .int .i64 0, .int .i64 0, .int .i64 0]) ?_ 1 _ rfl; (with_reducible repeat (first | refine blk_drewN ?_ _ | refine blk_drew ?_ | refine blk_alloc ?_ _)); refine blk_put (cs := #[.int .i64 0, .int .i64 0, .int .i64 0, .int .i64 0, .int .i64 0, .int .i64 0, .int .i64 0]) ?_ 0 _ rfl; (with_reducible repeat (first | refine blk_drewN ?_ _ | refine blk_drew ?_ | refine blk_alloc ?_ _)); exact BK213.out) Tryd.underlying23 rfl (by kernel_rfl)) rfl ?_
    exact ⟨bE, bG GE213⟩
   rw [if_neg c6] at H
   exact absurd H (by simp)
  rw [if_neg c5] at H
  exact absurd H (by simp)
 rw [if_neg c4] at H
 exact absurd H (by simp)
def spec_l5Line.f (l0 : List Int) (a1 : Int) (a2 : Int) (a3 : ByteArray) : Option (Int) := if 0 ≤ a1 then (if a1 ≤ a2 then (if a2 ≤ (l0.length : Int) then (if 2 + a3.size ≤ 9223372036854775807 then (if (strOfNums ((l0.take (a2 : Int).toNat).drop (a1 : Int).toNat)).toList = ((⟨#[45, 45]⟩ : ByteArray) ++ a3).toList then (some 1) else (if ((⟨#[45, 45]⟩ : ByteArray) ++ a3).size + 2 ≤ 9223372036854775807 then (if (strOfNums ((l0.take (a2 : Int).toNat).drop (a1 : Int).toNat)).toList = (((⟨#[45, 45]⟩ : ByteArray) ++ a3) ++ (⟨#[45, 45]⟩ : ByteArray)).toList then (some 2) else (some 0)) else (none))) else (none)) else (none)) else (none)) else (none)
set_option maxHeartbeats 8000000 in
set_option maxRecDepth 100000 in
theorem spec_l5Line.calls (A0 : Option Addr) (c0 : Nat) (l0 : List Int) (a1 : Int) (a2 : Int) (a3 : ByteArray) (r : Int) (w : World) (hr0 : Kd.C (Kd.int .u8) w A0 l0.length l0) (hc0 : l0.length ≤ c0) (h : spec_l5Line.f l0 a1 a2 a3 = some r) :
  Calls Tryd.prog 129 #[.slice A0 l0.length c0, .int .i64 a1, .int .i64 a2, .string a3] w fun e w' => e = .returned (.int .i64 r) ∧ Drawn0 w w' := by
 have HR0 := aM hr0
 have HC0 := aM hc0
 clear hr0 hc0
 have H : (if 0 ≤ a1 then (if a1 ≤ a2 then (if a2 ≤ (l0.length : Int) then (if 2 + a3.size ≤ 9223372036854775807 then (if (strOfNums ((l0.take (a2 : Int).toNat).drop (a1 : Int).toNat)).toList = ((⟨#[45, 45]⟩ : ByteArray) ++ a3).toList then (some 1) else (if ((⟨#[45, 45]⟩ : ByteArray) ++ a3).size + 2 ≤ 9223372036854775807 then (if (strOfNums ((l0.take (a2 : Int).toNat).drop (a1 : Int).toNat)).toList = (((⟨#[45, 45]⟩ : ByteArray) ++ a3) ++ (⟨#[45, 45]⟩ : ByteArray)).toList then (some 2) else (some 0)) else (none))) else (none)) else (none)) else (none)) else (none)) = some r := h
 clear h
 by_cases c5 : 0 ≤ a1
 ·rw [if_pos c5] at H
  have c5b0 := eq_true c5
  have c5b1 : decide (0 ≤ a1) = true := decide_eq_true c5
  clear c5
  by_cases c6 : a1 ≤ a2
  ·rw [if_pos c6] at H
   have c6b0 := eq_true c6
   have c6b1 : decide (a1 ≤ a2) = true := decide_eq_true c6
   clear c6
   by_cases c7 : a2 ≤ (l0.length : Int)
   ·rw [if_pos c7] at H
    have c7b0 := eq_true c7
    have c7b1 : decide (a2 ≤ (l0.length : Int)) = true := decide_eq_true c7
    (try have c7z := eq_true (show (a2 : Int) ≤ (c0 : Int) from (by have h_ := HC0.out; omega)))
    clear c7
    by_cases c8 : 2 + a3.size ≤ 9223372036854775807
    ·rw [if_pos c8] at H
     have c8b0 := eq_true c8
     have c8b1 : decide (2 + a3.size ≤ 9223372036854775807) = true := decide_eq_true c8
     try have c8b2 : (9223372036854775807 < 2 + a3.size) = False := eq_false (Nat.not_lt.2 c8)
     by_cases c9 : (strOfNums ((l0.take (a2 : Int).toNat).drop (a1 : Int).toNat)).toList = ((⟨#[45, 45]⟩ : ByteArray) ++ a3).toList
     ·rw [if_pos c9] at H
      have c9b0 : ((strOfNums ((l0.take (a2 : Int).toNat).drop (a1 : Int).toNat)).toList == ((⟨#[45, 45]⟩ : ByteArray) ++ a3).toList) = true := beq_iff_eq.mpr c9
      have c9b1 : ((strOfNums ((l0.take (a2 : Int).toNat).drop (a1 : Int).toNat)).toList != ((⟨#[45, 45]⟩ : ByteArray) ++ a3).toList) = false := bne_eq_false_iff_eq.mpr c9
      clear c9
      obtain rfl := Option.some.inj H
      obtain ⟨i010, hi010, _, hsz10, _⟩ := info_parts info5
      obtain ⟨A10, hcut10, hA10, hC10⟩ := print_mid_of (P := Tryd.prog) (Value.int .u8) 0 27 5 .i64 .i64 Tryd.underlying27 hi010 hsz10 A0 c0 l0 a1 a2 (pI) (by first | omega | exact pI) (pI) HC0.out
      have HR238 := aM (Kd.C_of_reads (h1 := fun _ => rfl) (hA10 _ (Kd.reads_of_C HR0.out)))
      have HC238 := aM hC10
      clear hA10 hC10 hi010 hsz10
      have hcv11 := Kd.C_string (P := Tryd.prog) (A := A10) (c := (c0 - a1.toNat)) Tryd.underlying27 Tryd.underlying5 Tryd.underlying9 HR238.out
      (try have hcd12 := fun nq_ : Nat => Kd.C_string (P := Tryd.prog) (A := A10) (c := (c0 - a1.toNat)) Tryd.underlying27 Tryd.underlying5 Tryd.underlying9 (Kd.C_drewN HR238.out nq_))
      (try have hce12 := Kd.C_string (P := Tryd.prog) (A := A10) (c := (c0 - a1.toNat)) Tryd.underlying27 Tryd.underlying5 Tryd.underlying9 HR238.out)
      (try (have hln12 : ((l0.take (a2 : Int).toNat).drop (a1 : Int).toNat).length = (a2 : Int).toNat - (a1 : Int).toNat := zz48))
      (try rw [hln12] at hce12)
      (try simp only [hln12] at hcd12)
      (try clear hln12)
      go_enter Tryd.func129, Tryd.ntmps129
      go_wp2
      go_ret
      exact ⟨bS, zz5⟩
     rw [if_neg c9] at H
     have c9b0 : ((strOfNums ((l0.take (a2 : Int).toNat).drop (a1 : Int).toNat)).toList == ((⟨#[45, 45]⟩ : ByteArray) ++ a3).toList) = false := beq_eq_false_iff_ne.mpr c9
     have c9b1 : ((strOfNums ((l0.take (a2 : Int).toNat).drop (a1 : Int).toNat)).toList != ((⟨#[45, 45]⟩ : ByteArray) ++ a3).toList) = true := bne_iff_ne.mpr c9
     by_cases c13 : ((⟨#[45, 45]⟩ : ByteArray) ++ a3).size + 2 ≤ 9223372036854775807
     ·rw [if_pos c13] at H
      have c13b0 := eq_true c13
      have c13b1 : decide (((⟨#[45, 45]⟩ : ByteArray) ++ a3).size + 2 ≤ 9223372036854775807) = true := decide_eq_true c13
      try have c13b2 : (9223372036854775807 < ((⟨#[45, 45]⟩ : ByteArray) ++ a3).size + 2) = False := eq_false (Nat.not_lt.2 c13)
      (try (have c13b3 : (9223372036854775807 < 2 + a3.size + 2) = False := by have h_ := c13b2; simp only [ByteArray.size_append] at h_; exact h_))
      by_cases c14 : (strOfNums ((l0.take (a2 : Int).toNat).drop (a1 : Int).toNat)).toList = (((⟨#[45, 45]⟩ : ByteArray) ++ a3) ++ (⟨#[45, 45]⟩ : ByteArray)).toList
      ·rw [if_pos c14] at H
       have c14b0 : ((strOfNums ((l0.take (a2 : Int).toNat).drop (a1 : Int).toNat)).toList == (((⟨#[45, 45]⟩ : ByteArray) ++ a3) ++ (⟨#[45, 45]⟩ : ByteArray)).toList) = true := beq_iff_eq.mpr c14
       have c14b1 : ((strOfNums ((l0.take (a2 : Int).toNat).drop (a1 : Int).toNat)).toList != (((⟨#[45, 45]⟩ : ByteArray) ++ a3) ++ (⟨#[45, 45]⟩ : ByteArray)).toList) = false := bne_eq_false_iff_eq.mpr c14
       clear c14
       obtain rfl := Option.some.inj H
       obtain ⟨i015, hi015, _, hsz15, _⟩ := info_parts info5
       obtain ⟨A15, hcut15, hA15, hC15⟩ := print_mid_of (P := Tryd.prog) (Value.int .u8) 0 27 5 .i64 .i64 Tryd.underlying27 hi015 hsz15 A0 c0 l0 a1 a2 (pI) (by first | omega | exact pI) (pI) HC0.out
       have HR238 := aM (Kd.C_of_reads (h1 := fun _ => rfl) (hA15 _ (Kd.reads_of_C HR0.out)))
       have HC238 := aM hC15
       clear hA15 hC15 hi015 hsz15
       have hcv16 := Kd.C_string (P := Tryd.prog) (A := A15) (c := (c0 - a1.toNat)) Tryd.underlying27 Tryd.underlying5 Tryd.underlying9 HR238.out
       (try have hcd17 := fun nq_ : Nat => Kd.C_string (P := Tryd.prog) (A := A15) (c := (c0 - a1.toNat)) Tryd.underlying27 Tryd.underlying5 Tryd.underlying9 (Kd.C_drewN HR238.out nq_))
       (try have hce17 := Kd.C_string (P := Tryd.prog) (A := A15) (c := (c0 - a1.toNat)) Tryd.underlying27 Tryd.underlying5 Tryd.underlying9 HR238.out)
       (try (have hln17 : ((l0.take (a2 : Int).toNat).drop (a1 : Int).toNat).length = (a2 : Int).toNat - (a1 : Int).toNat := zz48))
       (try rw [hln17] at hce17)
       (try simp only [hln17] at hcd17)
       (try clear hln17)
       go_enter Tryd.func129, Tryd.ntmps129
       go_wp2
       go_ret
       exact ⟨bS, zz5⟩
      rw [if_neg c14] at H
      have c14b0 : ((strOfNums ((l0.take (a2 : Int).toNat).drop (a1 : Int).toNat)).toList == (((⟨#[45, 45]⟩ : ByteArray) ++ a3) ++ (⟨#[45, 45]⟩ : ByteArray)).toList) = false := beq_eq_false_iff_ne.mpr c14
      have c14b1 : ((strOfNums ((l0.take (a2 : Int).toNat).drop (a1 : Int).toNat)).toList != (((⟨#[45, 45]⟩ : ByteArray) ++ a3) ++ (⟨#[45, 45]⟩ : ByteArray)).toList) = true := bne_iff_ne.mpr c14
      obtain rfl := Option.some.inj H
      obtain ⟨i018, hi018, _, hsz18, _⟩ := info_parts info5
      obtain ⟨A18, hcut18, hA18, hC18⟩ := print_mid_of (P := Tryd.prog) (Value.int .u8) 0 27 5 .i64 .i64 Tryd.underlying27 hi018 hsz18 A0 c0 l0 a1 a2 (pI) (by first | omega | exact pI) (pI) HC0.out
      have HR238 := aM (Kd.C_of_reads (h1 := fun _ => rfl) (hA18 _ (Kd.reads_of_C HR0.out)))
      have HC238 := aM hC18
      clear hA18 hC18 hi018 hsz18
      have hcv19 := Kd.C_string (P := Tryd.prog) (A := A18) (c := (c0 - a1.toNat)) Tryd.underlying27 Tryd.underlying5 Tryd.underlying9 HR238.out
      (try have hcd20 := fun nq_ : Nat => Kd.C_string (P := Tryd.prog) (A := A18) (c := (c0 - a1.toNat)) Tryd.underlying27 Tryd.underlying5 Tryd.underlying9 (Kd.C_drewN HR238.out nq_))
      (try have hce20 := Kd.C_string (P := Tryd.prog) (A := A18) (c := (c0 - a1.toNat)) Tryd.underlying27 Tryd.underlying5 Tryd.underlying9 HR238.out)
      (try (have hln20 : ((l0.take (a2 : Int).toNat).drop (a1 : Int).toNat).length = (a2 : Int).toNat - (a1 : Int).toNat := zz48))
      (try rw [hln20] at hce20)
      (try simp only [hln20] at hcd20)
      (try clear hln20)
      go_enter Tryd.func129, Tryd.ntmps129
      go_wp2
      go_ret
      exact ⟨bS, zz5⟩
     rw [if_neg c13] at H
     exact absurd H (by simp)
    rw [if_neg c8] at H
    exact absurd H (by simp)
   rw [if_neg c7] at H
   exact absurd H (by simp)
  rw [if_neg c6] at H
  exact absurd H (by simp)
 rw [if_neg c5] at H
 exact absurd H (by simp)
def spec_l1Max.f (a0 : Int) (a1 : Int) : Option (Int) := if a0 > a1 then (some a0) else (some a1)
set_option maxHeartbeats 8000000 in
set_option maxRecDepth 100000 in
theorem spec_l1Max.calls (a0 : Int) (a1 : Int) (r : Int) (w : World) (h : spec_l1Max.f a0 a1 = some r) :
  Calls Tryd.prog 130 #[.int .i64 a0, .int .i64 a1] w fun e w' => e = .returned (.int .i64 r) ∧ Drawn0 w w' := by
 have H : (if a0 > a1 then (some a0) else (some a1)) = some r := h
 clear h
 by_cases c3 : a0 > a1
 ·rw [if_pos c3] at H
  have c3b0 : decide (a1 < a0) = true := decide_eq_true c3
  clear c3
  obtain rfl := Option.some.inj H
  go_enter Tryd.func130, Tryd.ntmps130
  go_wp2
  go_ret
  exact ⟨bS, zz5⟩
 rw [if_neg c3] at H
 have c3b0 : decide (a1 < a0) = false := decide_eq_false c3
 clear c3
 obtain rfl := Option.some.inj H
 go_enter Tryd.func130, Tryd.ntmps130
 go_wp2
 go_ret
 exact ⟨bS, zz5⟩
def spec_l1Min.f (a0 : Int) (a1 : Int) : Option (Int) := if a0 < a1 then (some a0) else (some a1)
set_option maxHeartbeats 8000000 in
set_option maxRecDepth 100000 in
theorem spec_l1Min.calls (a0 : Int) (a1 : Int) (r : Int) (w : World) (h : spec_l1Min.f a0 a1 = some r) :
  Calls Tryd.prog 131 #[.int .i64 a0, .int .i64 a1] w fun e w' => e = .returned (.int .i64 r) ∧ Drawn0 w w' := by
 have H : (if a0 < a1 then (some a0) else (some a1)) = some r := h
 clear h
 by_cases c3 : a0 < a1
 ·rw [if_pos c3] at H
  have c3b0 : decide (a0 < a1) = true := decide_eq_true c3
  clear c3
  obtain rfl := Option.some.inj H
  go_enter Tryd.func131, Tryd.ntmps131
  go_wp2
  go_ret
  exact ⟨bS, zz5⟩
 rw [if_neg c3] at H
 have c3b0 : decide (a0 < a1) = false := decide_eq_false c3
 clear c3
 obtain rfl := Option.some.inj H
 go_enter Tryd.func131, Tryd.ntmps131
 go_wp2
 go_ret
 exact ⟨bS, zz5⟩
end Go.Proofs.YtecpanfndodjgaaDoor.PPartAt
