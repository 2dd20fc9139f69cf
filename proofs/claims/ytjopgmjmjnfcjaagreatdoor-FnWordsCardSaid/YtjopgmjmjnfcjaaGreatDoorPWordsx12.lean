/- Part of the proof; words that it uses. -/
import Derived.Test.YtjopgmjmjnfcjaaGreatDoorPWordsx0
import Derived.Test.YtjopgmjmjnfcjaaGreatDoorPWordsx1
import Derived.Test.YtjopgmjmjnfcjaaGreatDoorPWordsx2
import Derived.Test.YtjopgmjmjnfcjaaGreatDoorPWordsx4
import Derived.Test.YtjopgmjmjnfcjaaGreatDoorPWordsx5
import Derived.Test.YtjopgmjmjnfcjaaGreatDoorPWordsx10
namespace Go.Proofs.YtjopgmjmjnfcjaaGreatDoor.PWords
open Go.RowKit Go.Proofs.YtjopgmjmjnfcjaaGreatDoorW.PrintWords Go.Proofs.YtjopgmjmjnfcjaaGreatDoorW.PrintLast
set_option linter.unusedVariables false
set_option linter.unusedSimpArgs false
def laws_lwNums.l0 : Nat → List Int → List Int → Int → Option (Bool)
 | 0, _, _, _ => none
 | k + 1, x0, x1, x5 => if x5 < (x0.length : Int) then (if 0 ≤ x5 then (if x5 < (x1.length : Int) then (if (rd x0 x5) = (rd x1 x5) then (laws_lwNums.l0 k x0 x1 (wrap64 (x5 + 1))) else (some false)) else (none)) else (none)) else (some true)
def laws_lwNums.f (k : Nat) (l0 : List Int) (l1 : List Int) : Option (Bool) := if (l0.length : Int) = (l1.length : Int) then (laws_lwNums.l0 k l0 l1 0) else (some false)
set_option maxHeartbeats 8000000 in
set_option maxRecDepth 100000 in
theorem laws_lwNums.calls (k : Nat) (A0 : Option Addr) (c0 : Nat) (l0 : List Int) (A1 : Option Addr) (c1 : Nat) (l1 : List Int) (r : Bool) (w : World) (hr0 : Kd.C (Kd.int .i64) w A0 l0.length l0) (hc0 : l0.length ≤ c0) (hr1 : Kd.C (Kd.int .i64) w A1 l1.length l1) (hc1 : l1.length ≤ c1) (h : laws_lwNums.f k l0 l1 = some r) :
  Calls Tryz.prog 17 #[.slice A0 l0.length c0, .slice A1 l1.length c1] w fun e w' => e = .returned (.bool r) ∧ Drawn0 w w' := by
 have HR0 := aM hr0
 have HC0 := aM hc0
 clear hr0 hc0
 have HR1 := aM hr1
 have HC1 := aM hc1
 clear hr1 hc1
 have H : (if (l0.length : Int) = (l1.length : Int) then (laws_lwNums.l0 k l0 l1 0) else (some false)) = some r := h
 clear h
 by_cases c3 : (l0.length : Int) = (l1.length : Int)
 ·rw [if_pos c3] at H
  have c3b0 : ((l0.length : Int) == (l1.length : Int)) = true := beq_iff_eq.mpr c3
  have c3b1 : ((l0.length : Int) != (l1.length : Int)) = false := bne_eq_false_iff_eq.mpr c3
  have c3b2 : (l0.length == l1.length) = true := by first | simpa using c3 | (simp at c3 ⊢; omega)
  clear c3
  have H' := aM H
  clear H
  go_enter Tryz.func17, Tryz.ntmps17
  go_wp2
  repeat (go_quiet (fail); try go_wp2)
  go_loopg [5] k (fun kq v5 w' => ∃ (x5_1 : Int), v5 = .int .i64 x5_1 ∧ Aside0 (laws_lwNums.l0 kq l0 l1 x5_1 = some r) ∧ Aside0 (kq ≤ k) ∧ Drawn0 w w')
  case atStart => exact ⟨(0), bS, H', ⟨Nat.le_refl _⟩, z5⟩
  case round =>
   clear H'
   try clear c1
   try clear p2
   try clear c3
   try clear c3b0
   try clear c3b1
   try clear c3b2
   obtain ⟨x5_1, rfl, HA, HK1, ⟨m1, rfl⟩⟩ := hrel
   cases gk with
   | zero => exact absurd HA.out (by simp [laws_lwNums.l0])
   | succ k1 =>
    have H := HA.out
    clear HA
    simp only [laws_lwNums.l0] at H
    by_cases c4 : x5_1 < (l0.length : Int)
    ·rw [if_pos c4] at H
     have c4b0 : decide (x5_1 < (l0.length : Int)) = true := decide_eq_true c4
     clear c4
     by_cases c5 : 0 ≤ x5_1
     ·rw [if_pos c5] at H
      have c5b0 : decide (0 ≤ x5_1) = true := decide_eq_true c5
      clear c5
      by_cases c6 : x5_1 < (l1.length : Int)
      ·rw [if_pos c6] at H
       have c6b0 : decide (x5_1 < (l1.length : Int)) = true := decide_eq_true c6
       clear c6
       by_cases c7 : (rd l0 x5_1) = (rd l1 x5_1)
       ·rw [if_pos c7] at H
        have c7b0 : ((rd l0 x5_1) == (rd l1 x5_1)) = true := beq_iff_eq.mpr c7
        have c7b1 : ((rd l0 x5_1) != (rd l1 x5_1)) = false := bne_eq_false_iff_eq.mpr c7
        clear c7
        have H' := aM H
        clear H
        have p549 : 0 ≤ (x5_1 : Int) := pI
        have q549 : x5_1 < (l0.length : Int) := pI
        obtain ⟨ad549, e549, hx549_0⟩ := Kd.at_int HR0.out x5_1 p549 q549
        cases e549
        replace p549 := eq_true p549
        replace q549 := eq_true q549
        have p550 : 0 ≤ (x5_1 : Int) := pI
        have q550 : x5_1 < (l1.length : Int) := pI
        obtain ⟨ad550, e550, hx550_0⟩ := Kd.at_int HR1.out x5_1 p550 q550
        cases e550
        replace p550 := eq_true p550
        replace q550 := eq_true q550
        go_wp2
        repeat (go_quiet (fail); try go_wp2)
        go_roundg k1
        case measure => have := HK1.out; omega
        case rel => exact ⟨(wrap64 (x5_1 + 1)), bS, H', ⟨by have := HK1.out; omega⟩, z5⟩
       rw [if_neg c7] at H
       have c7b0 : ((rd l0 x5_1) == (rd l1 x5_1)) = false := beq_eq_false_iff_ne.mpr c7
       have c7b1 : ((rd l0 x5_1) != (rd l1 x5_1)) = true := bne_iff_ne.mpr c7
       obtain rfl := Option.some.inj H
       have p549 : 0 ≤ (x5_1 : Int) := pI
       have q549 : x5_1 < (l0.length : Int) := pI
       obtain ⟨ad549, e549, hx549_0⟩ := Kd.at_int HR0.out x5_1 p549 q549
       cases e549
       replace p549 := eq_true p549
       replace q549 := eq_true q549
       have p550 : 0 ≤ (x5_1 : Int) := pI
       have q550 : x5_1 < (l1.length : Int) := pI
       obtain ⟨ad550, e550, hx550_0⟩ := Kd.at_int HR1.out x5_1 p550 q550
       cases e550
       replace p550 := eq_true p550
       replace q550 := eq_true q550
       go_wp2
       repeat (go_quiet (fail); try go_wp2)
       go_ret
       exact ⟨bS, z5⟩
      rw [if_neg c6] at H
      exact absurd H (by simp)
     rw [if_neg c5] at H
     exact absurd H (by simp)
    rw [if_neg c4] at H
    have c4b0 : decide (x5_1 < (l0.length : Int)) = false := decide_eq_false c4
    clear c4
    obtain rfl := Option.some.inj H
    go_wp2
    repeat (go_quiet (fail); try go_wp2)
    go_ret
    exact ⟨bS, z5⟩
 rw [if_neg c3] at H
 have c3b0 : ((l0.length : Int) == (l1.length : Int)) = false := beq_eq_false_iff_ne.mpr c3
 have c3b1 : ((l0.length : Int) != (l1.length : Int)) = true := bne_iff_ne.mpr c3
 have c3b2 : (l0.length == l1.length) = false := by first | simpa using c3 | (simp at c3 ⊢; omega)
 obtain rfl := Option.some.inj H
 go_enter Tryz.func17, Tryz.ntmps17
 go_wp2
 repeat (go_quiet (fail); try go_wp2)
 go_ret
 exact ⟨bS, z5⟩
def impl_CodesFault.p (c : Int) : Bool := !(decide (0 ≤ c ∧ c ≤ 65535) && !decide (55296 ≤ c ∧ c ≤ 57343))
def impl_CodesFault.f (l0 : List Int) : Option Int := some (if 400 < l0.length then 2 else if l0.any impl_CodesFault.p = true then 3 else 0)
theorem impl_CodesFault.char (x : Int) : impl_isChar.f x = some (!impl_CodesFault.p x) := by
  unfold impl_isChar.f impl_CodesFault.p
  have hw : ∀ a b c : Int, impl_within.f a b c = some (decide (b ≤ a ∧ a ≤ c)) := by
    intro a b c
    unfold impl_within.f
    by_cases h : a ≥ b
    · rw [if_pos h]; simp [show b ≤ a from h]
    · rw [if_neg h]; simp [show ¬ b ≤ a from h]
  simp only [hw, Option.bind_some, Bool.not_not]
  cases decide (0 ≤ x ∧ x ≤ 65535) <;> simp
theorem impl_CodesFault.clo (x : Int) (w : World) : Calls Tryz.prog 36 #[.int .i64 x] w fun e w' => e = .returned (.bool (impl_CodesFault.p x)) ∧ Drawn0 w w' := by
  have hc := aM (impl_isChar.calls x _ w (impl_CodesFault.char x))
  generalize impl_CodesFault.p x = y at hc ⊢
  go_enter Tryz.func36, Tryz.ntmps36
  go_wp2_with (go_at_call 37; refine hc.out.mono ?_; rintro e w' ⟨rfl, ⟨n, rfl⟩⟩)
  go_ret
  exact ⟨by simp, ⟨⟨n, rfl⟩⟩⟩
def impl_CodesFault.ix : List Int → Int → Int
  | [], _ => -1
  | x :: xs, i => if impl_CodesFault.p x then i else impl_CodesFault.ix xs (i + 1)
theorem impl_CodesFault.ix_any : ∀ (l : List Int) (i : Int), 0 ≤ i → decide (0 ≤ impl_CodesFault.ix l i) = l.any impl_CodesFault.p
  | [], i, _ => by simp [impl_CodesFault.ix]
  | x :: xs, i, h => by
    cases hp : impl_CodesFault.p x with
    | true => simp [impl_CodesFault.ix, hp, h]
    | false => simp [impl_CodesFault.ix, hp, impl_CodesFault.ix_any xs (i + 1) (by omega)]
theorem impl_CodesFault.ix_lt : ∀ (l : List Int) (i : Int), 0 ≤ i → i + l.length ≤ 9223372036854775807 → -1 ≤ impl_CodesFault.ix l i ∧ impl_CodesFault.ix l i ≤ 9223372036854775807
  | [], i, h, h2 => by simp [impl_CodesFault.ix]
  | x :: xs, i, h, h2 => by
    simp only [List.length_cons] at h2
    have ih := impl_CodesFault.ix_lt xs (i + 1) (by omega) (by omega)
    simp only [impl_CodesFault.ix]
    split <;> omega
set_option maxHeartbeats 1000000 in
theorem impl_CodesFault.index (A0 : Option Addr) (c0 : Nat) (l0 : List Int) (w : World) (hr0 : Kd.C (Kd.int .i64) w A0 l0.length l0) :
    Calls Tryz.prog 58 #[.slice A0 l0.length c0, .func (.func 36) #[] #[]] w fun e w' => e = .returned (.int .i64 (impl_CodesFault.ix l0 0)) ∧ Drawn0 w w' := by
  have hbig : l0.length ≤ 9223372036854775807 := (Kd.reads_of_C (d := 0) hr0).2.1
  have HR0 := aM hr0
  clear hr0
  go_enter Tryz.func58, Tryz.ntmps58
  go_wp2
  go_loopg [5, 8] l0.length (fun gg _ s8 wr => ∃ kk : Nat, kk ≤ l0.length ∧ l0.length - kk ≤ gg ∧ s8 = .int .i64 kk ∧ Aside0 (Drawn0 w wr) ∧ Aside0 (impl_CodesFault.ix l0 0 = impl_CodesFault.ix (l0.drop kk) kk))
  case atStart => exact ⟨0, Nat.zero_le _, by omega, rfl, ⟨Drawn0.refl _⟩, ⟨by simp⟩⟩
  case round =>
    obtain ⟨kk, hkk, hg, rfl, HD, HX⟩ := hrel
    by_cases hlt : kk < l0.length
    · have hltz : (kk : Int) < (l0.length : Int) := by omega
      obtain ⟨ad, rfl, hcell⟩ := Kd.at_int HR0.out (kk : Int) (by omega) (by omega)
      have hcell1 : wr.cell? (ad.add kk) = some (.int .i64 (rd l0 (kk : Int))) := by
        obtain ⟨n, rfl⟩ := HD.out.out
        simpa using hcell
      clear hcell
      have HY : Aside0 (l0.drop kk = rd l0 (kk : Int) :: l0.drop (kk + 1)) := ⟨by
        rw [List.drop_eq_getElem_cons hlt]
        simp [rd, List.getD_eq_getElem?_getD, hlt]⟩
      generalize rd l0 (kk : Int) = y at hcell1 HY
      have hclo := impl_CodesFault.clo y
      cases hq : impl_CodesFault.p y with
      | true =>
        rw [hq] at hclo
        go_wp2_with (go_at_call 36; refine (hclo _).mono ?_; rintro e w' ⟨rfl, HD2⟩)
        go_ret
        refine ⟨?_, drawn_trans HD.out HD2⟩
        rw [HX.out, HY.out]
        simp [impl_CodesFault.ix, hq]
      | false =>
        rw [hq] at hclo
        go_wp2_with (go_at_call 36; refine (hclo _).mono ?_; rintro e w' ⟨rfl, HD2⟩)
        go_roundg (l0.length - (kk + 1))
        case measure => omega
        case rel =>
          refine ⟨kk + 1, by omega, by omega, by go_num, ⟨drawn_trans HD.out HD2⟩, ⟨?_⟩⟩
          rw [HX.out, HY.out]
          simp [impl_CodesFault.ix, hq]
    · have hltz : ¬ (kk : Int) < (l0.length : Int) := by omega
      have HZ : Aside0 (l0.drop kk = []) := ⟨List.drop_eq_nil_of_le (by omega)⟩
      go_wp2
      go_ret
      refine ⟨?_, HD.out⟩
      rw [HX.out, HZ.out]
      rfl
set_option maxHeartbeats 1000000 in
theorem impl_CodesFault.contains (A0 : Option Addr) (c0 : Nat) (l0 : List Int) (w : World) (hr0 : Kd.C (Kd.int .i64) w A0 l0.length l0) :
    Calls Tryz.prog 35 #[.slice A0 l0.length c0, .func (.func 36) #[] #[]] w fun e w' => e = .returned (.bool (l0.any impl_CodesFault.p)) ∧ Drawn0 w w' := by
  have hbig : l0.length ≤ 9223372036854775807 := (Kd.reads_of_C (d := 0) hr0).2.1
  have hlt := impl_CodesFault.ix_lt l0 0 (by omega) (by omega)
  have hany := impl_CodesFault.ix_any l0 0 (by omega)
  have HI := aM (impl_CodesFault.index A0 c0 l0 w hr0)
  rw [← hany]
  clear hany
  generalize impl_CodesFault.ix l0 0 = y at HI hlt
  obtain ⟨h1, h2⟩ := hlt
  go_enter Tryz.func35, Tryz.ntmps35
  go_wp2_with (go_at_call 58; refine HI.out.mono ?_; rintro e w' ⟨rfl, ⟨n, rfl⟩⟩)
  go_ret
  exact ⟨rfl, ⟨⟨n, rfl⟩⟩⟩
set_option maxHeartbeats 1000000 in
theorem impl_CodesFault.calls (A0 : Option Addr) (c0 : Nat) (l0 : List Int) (r : Int) (w : World) (hr0 : Kd.C (Kd.int .i64) w A0 l0.length l0) (hc0 : l0.length ≤ c0) (h : impl_CodesFault.f l0 = some r) :
    Calls Tryz.prog 18 #[.slice A0 l0.length c0] w fun e w' => e = .returned (.int .i64 r) ∧ Drawn0 w w' := by
  obtain rfl := Option.some.inj h
  have HI := aM (impl_CodesFault.contains A0 c0 l0 w hr0)
  clear hr0 h
  by_cases hl : 400 < l0.length
  · rw [if_pos hl]
    have hl1 : ((400 : Int) < (l0.length : Int)) := by omega
    go_enter Tryz.func18, Tryz.ntmps18
    go_wp2
    go_ret
    exact ⟨rfl, Drawn0.refl _⟩
  rw [if_neg hl]
  have hl1 : ¬ ((400 : Int) < (l0.length : Int)) := by omega
  generalize l0.any impl_CodesFault.p = y at HI ⊢
  cases y with
  | true =>
    go_enter Tryz.func18, Tryz.ntmps18
    go_wp2_with (go_at_call 35; refine HI.out.mono ?_; rintro e w' ⟨rfl, ⟨n, rfl⟩⟩)
    go_ret
    exact ⟨rfl, ⟨⟨n, rfl⟩⟩⟩
  | false =>
    go_enter Tryz.func18, Tryz.ntmps18
    go_wp2_with (go_at_call 35; refine HI.out.mono ?_; rintro e w' ⟨rfl, ⟨n, rfl⟩⟩)
    go_ret
    exact ⟨rfl, ⟨⟨n, rfl⟩⟩⟩
def spec_l2Bent.f (k : Nat) (s0_0 : List Int) (s0_1 : Int) : Option (List Int × Int) := (spec_l2Codes.f k s0_0 s0_1).bind fun bt551 => ((spec_l1Next.f s0_0 bt551.2 10).bind fun bt555 => (if bt555.1 = 0 then ((spec_l1Pick.f s0_0 bt555.2 (([(-1), 55296, 57343, 65535, 65536] : List Int))).bind fun bt560 => (if bt551.1.length < 17592186044416 then (some ((bt551.1 ++ [bt560.1]), bt560.2)) else (none))) else (if bt555.1 = 1 then ((spec_l1Pick.f s0_0 bt555.2 (([400, 401, 300] : List Int))).bind fun bt568 => (if 0 ≤ bt568.1 then (if (bt568.1 : Int).toNat ≤ 35184372088832 then (some ((List.replicate (bt568.1 : Int).toNat 0), bt568.2)) else (none)) else (none))) else (some (bt551.1, bt555.2)))))
set_option maxHeartbeats 8000000 in
set_option maxRecDepth 100000 in
theorem spec_l2Bent.calls (k : Nat) (g : Nat) (s0_0 : List Int) (s0_1 : Int) (r1 : List Int) (r2 : Int) (w0 w : World) (hI : IsS73 w0 w g s0_0 s0_1) (hB : Below w0.heap.size w0 w) (h : spec_l2Bent.f k s0_0 s0_1 = some (r1, r2)) :
  Calls Tryz.prog 38 #[.pointer (some ⟨g, 0, none⟩)] w fun e w' => ∃ v0_ : Value, e = .returned (v0_) ∧ Kd.R (Kd.int .i64) 2 w' w.heap.size (fun _ => True) v0_ r1 ∧ IsS73 w0 w' g s0_0 r2 ∧ Below w0.heap.size w0 w' ∧ KeepBut w w' g none := by
 have HI0 := aM hI
 have HK := aM (KeepBut.refl w g none)
 have HL := aM hB.size
 clear hI
 have HW0 := aM hB.size
 have HB := aM hB
 clear hB
 have H : ((spec_l2Codes.f k s0_0 s0_1).bind fun bt551 => ((spec_l1Next.f s0_0 bt551.2 10).bind fun bt555 => (if bt555.1 = 0 then ((spec_l1Pick.f s0_0 bt555.2 (([(-1), 55296, 57343, 65535, 65536] : List Int))).bind fun bt560 => (if bt551.1.length < 17592186044416 then (some ((bt551.1 ++ [bt560.1]), bt560.2)) else (none))) else (if bt555.1 = 1 then ((spec_l1Pick.f s0_0 bt555.2 (([400, 401, 300] : List Int))).bind fun bt568 => (if 0 ≤ bt568.1 then (if (bt568.1 : Int).toNat ≤ 35184372088832 then (some ((List.replicate (bt568.1 : Int).toNat 0), bt568.2)) else (none)) else (none))) else (some (bt551.1, bt555.2)))))) = some (r1, r2) := h
 clear h
 replace H := Option.bind_eq_some_iff.mp H
 obtain ⟨⟨t551, t554⟩, A20, H⟩ := H
 replace H : ((spec_l1Next.f s0_0 t554 10).bind fun bt555 => (if bt555.1 = 0 then ((spec_l1Pick.f s0_0 bt555.2 (([(-1), 55296, 57343, 65535, 65536] : List Int))).bind fun bt560 => (if t551.length < 17592186044416 then (some ((t551 ++ [bt560.1]), bt560.2)) else (none))) else (if bt555.1 = 1 then ((spec_l1Pick.f s0_0 bt555.2 (([400, 401, 300] : List Int))).bind fun bt568 => (if 0 ≤ bt568.1 then (if (bt568.1 : Int).toNat ≤ 35184372088832 then (some ((List.replicate (bt568.1 : Int).toNat 0), bt568.2)) else (none)) else (none))) else (some (t551, bt555.2))))) = some (r1, r2) := H
 have A2 := aM A20
 clear A20
 replace H := Option.bind_eq_some_iff.mp H
 obtain ⟨⟨t555, t556⟩, A30, H⟩ := H
 replace H : (if t555 = 0 then ((spec_l1Pick.f s0_0 t556 (([(-1), 55296, 57343, 65535, 65536] : List Int))).bind fun bt560 => (if t551.length < 17592186044416 then (some ((t551 ++ [bt560.1]), bt560.2)) else (none))) else (if t555 = 1 then ((spec_l1Pick.f s0_0 t556 (([400, 401, 300] : List Int))).bind fun bt568 => (if 0 ≤ bt568.1 then (if (bt568.1 : Int).toNat ≤ 35184372088832 then (some ((List.replicate (bt568.1 : Int).toNat 0), bt568.2)) else (none)) else (none))) else (some (t551, t556)))) = some (r1, r2) := H
 have A3 := aM A30
 clear A30
 have HQ_ := aM H
 clear H
 go_enter Tryz.func38, Tryz.ntmps38
 have H := HQ_.out
 clear HQ_
 by_cases c4 : t555 = 0
 ·rw [if_pos c4] at H
  have c4b0 : (t555 == 0) = true := beq_iff_eq.mpr c4
  have c4b1 : (t555 != 0) = false := bne_eq_false_iff_eq.mpr c4
  clear c4
  obtain ⟨y557, hy557⟩ : ∃ y_ : List Int, y_ = (([(-1), 55296, 57343, 65535, 65536] : List Int)) := ⟨_, rfl⟩
  replace H : ((spec_l1Pick.f s0_0 t556 y557).bind fun bt560 => (if t551.length < 17592186044416 then (some ((t551 ++ [bt560.1]), bt560.2)) else (none))) = some (r1, r2) := z0 hy557
  have Ny557 := aM hy557
  clear hy557
  replace H := Option.bind_eq_some_iff.mp H
  obtain ⟨⟨t560, t561⟩, A50, H⟩ := H
  replace H : (if t551.length < 17592186044416 then (some ((t551 ++ [t560]), t561)) else (none)) = some (r1, r2) := H
  have A5 := aM A50
  clear A50
  (try simp only [c4b0, c4b1])
  by_cases c6 : t551.length < 17592186044416
  ·rw [if_pos c6] at H
   have LMc6 := aM c6
   clear c6
   obtain ⟨y562, hy562⟩ : ∃ y_ : List Int, y_ = (t551 ++ [t560]) := ⟨_, rfl⟩
   replace H : (some (y562, t561)) = some (r1, r2) := z0 hy562
   have Ny562 := aM hy562
   clear hy562
   simp only [Option.some.injEq, Prod.mk.injEq] at H
   obtain ⟨rfl, rfl⟩ := H
   go_wp2_with (first | ((with_reducible refine gate_callee (f := 51) rfl ?_); refine gL_ (some 5) Tryz.func51 #[.pointer (some ⟨g, 0, none⟩)] ?_; (with_reducible refine (spec_l2Codes.calls k g s0_0 s0_1 t551 t554 w0 _ ?side1 ?side2 A2.out).mono ?_); (case side1 => exact z2 HI0.out); (case side2 => exact z1 HI0.out); rintro e w7 ⟨v552, rfl, ho0, hi, hb, hk⟩; refine ⟨_, rfl, ?_⟩; have HO553 := aM (Kd.R_lower ho0 (keep_size (w := w) (g := g) (row := none) z3)); replace HK := aM (KeepBut.trans z3 hk (.inl rfl)); replace HB := aM (hb); replace HI0 := aM (hi); (try clear ho0)) | ((with_reducible refine gate_callee (f := 32) rfl ?_); refine gL_ (some 7) Tryz.func32 #[.pointer (some ⟨g, 0, none⟩), .int .i64 10] ?_; (with_reducible refine (spec_l1Next.calls g s0_0 t554 10 t555 t556 w0 _ ?side1 ?side2 A3.out).mono ?_); (case side1 => exact z2 HI0.out); (case side2 => exact z1 HI0.out); rintro e w8 ⟨rfl, hi, hb, hk⟩; refine ⟨_, rfl, ?_⟩; replace HO553 := aM (Kd.R_mono (Kd.R_keep (IsS73.apart (show IsS73 w0 _ g s0_0 t554 from z2 HI0.out) (bR HO553) (by decide)) hk (fun _ h => h.2)) (fun _ h => h.1)); replace HK := aM (KeepBut.trans z3 hk (.inl rfl)); replace HB := aM (hb); replace HI0 := aM (hi); (try clear hi)) | ((with_reducible refine gate_dst (N := 12) rfl ?_); refine Kd.R_lit (Kd.int .i64) _ 2 ?hg (N := 12) ?hd (xs := ([(-1), 55296, 57343, 65535, 65536] : List Int)) (inner := [.int .i64 (-1), .int .i64 55296, .int .i64 57343, .int .i64 65535, .int .i64 65536]) (ok := fun _ => True) (okp := fun _ => True) ?hr ?hp (fun _ hk => hk) trivial (Below.refl _ _) (Nat.le_refl _) (by simp) ?_; (case hd => rfl); (case hg => rfl); (case hr => exact z10); (case hp => exact (Reps.one (show Kd.M (Kd.int .i64) _ _ _ (-1) [.int .i64 (-1)] from rfl) (Reps.one (show Kd.M (Kd.int .i64) _ _ _ 55296 [.int .i64 55296] from rfl) (Reps.one (show Kd.M (Kd.int .i64) _ _ _ 57343 [.int .i64 57343] from rfl) (Reps.one (show Kd.M (Kd.int .i64) _ _ _ 65535 [.int .i64 65535] from rfl) (Reps.one (show Kd.M (Kd.int .i64) _ _ _ 65536 [.int .i64 65536] from rfl) (Reps.none _ _))))))); intro v558 w9 ho10 hb hg_ hnew_; clear hg_ hnew_; (first | rw [← Ny557.out] at ho10 | (simp only [Int.reduceToNat] at ho10; rw [← Ny557.out] at ho10)); have HO559 := aM (Kd.R_lower (Kd.R_new' ho10 (Kd.R_lt (bR HO553))) (keep_size (w := w) (g := g) (row := none) z3)); replace HO553 := aM (Kd.R_elder' (bR HO553) (Kd.R_base ho10) hb); replace HK := aM (KeepBut.trans z3 (KeepBut.of_below hb g none) (.inl rfl)); replace HB := aM (below_step (z1 HI0.out) hb); replace HI0 := aM (IsS73.below (z2 HI0.out) hb); clear hb ho10; obtain ⟨Ao11, co11, eo11⟩ := Kd.R_slice HO559.out; subst eo11) | ((with_reducible refine gate_callee (f := 59) rfl ?_); refine gL_ (some 13) Tryz.func59 #[.pointer (some ⟨g, 0, none⟩), .slice Ao11 y557.length co11] ?_; (with_reducible refine (spec_l1Pick.calls g s0_0 t556 _ _ y557 t560 t561 w0 _ ?side1 ?side2 ?side3 ?side4 ?side5 A5.out).mono ?_); (case side1 => exact z2 HI0.out); (case side2 => exact z1 HI0.out); (case side3 => exact z4 HO559.out); (case side4 => exact (Kd.R_reads' HO559.out).2.1); (case side5 => exact far_slice (IsS73.own_ne HI0.out HO559.out (by decide))); rintro e w12 ⟨rfl, hi, hb, hk⟩; refine ⟨_, rfl, ?_⟩; replace HO553 := aM (Kd.R_mono (Kd.R_keep (IsS73.apart (show IsS73 w0 _ g s0_0 t556 from z2 HI0.out) (bR HO553) (by decide)) hk (fun _ h => h.2)) (fun _ h => h.1)); replace HO559 := aM (Kd.R_mono (Kd.R_keep (IsS73.apart (show IsS73 w0 _ g s0_0 t556 from z2 HI0.out) (bR HO559) (by decide)) hk (fun _ h => h.2)) (fun _ h => h.1)); replace HK := aM (KeepBut.trans z3 hk (.inl rfl)); replace HB := aM (hb); replace HI0 := aM (hi); (try clear hi)) | ((with_reducible refine gate_builtin (b := .append) (xs := #[.tmp 10, .tmp 14]) rfl ?_); at_builtin; refine Kd.R_append (Kd.int .i64) w.heap.size rfl (.tmp 10) (.tmp 14) 23 2 (.int .i64 0) 8 rfl Tryz.underlying23 info2 rfl (by decide) (by omega) v552 t551 t560 [.int .i64 t560] (fun k_ => some k_ ≠ (.slice Ao11 y557.length co11 : Value).ownBlock) (fun _ => False) rfl rfl ?aP (fun _ hk => hk.elim) ?aF ?aO (Below.refl _ _) ?aS ?aL ?_; (case aP => exact rfl); (case aF => exact (fun k_ hk => Kd.fresh' (Kd.R_lt (bR HO559)) k_ hk)); (case aO => exact z13 HO553.out); (case aS => exact (keep_size (w := w) (g := g) (row := none) z3)); (case aL => have := LMc6.out; omega); intro v563 w13 ho hb hg hat; rw [← Ny562.out] at ho; have n0_ := aM (IsS73.grown (z2 HI0.out) hg (IsS73.own_ne HI0.out HO553.out (by decide))); have n1_ := aM (Kd.R_after (ok := (fun _ => True)) (bR HO559) hg hat); have n2_ := aM (below_weaken (z1 HI0.out) HL.out hb); have n3_ := aM (KeepBut.trans z3 (KeepBut.of_grown hg g) (Kd.R_base2 HO553.out)); have n4_ := aM (ho); clear HI0; clear HO559; clear HB; clear HK; clear HO553; have HI0 := n0_; have HO559 := n1_; have HB := n2_; have HK := n3_; have HO564 := n4_; clear n0_ n1_ n2_ n3_ n4_; clear ho hb hg hat))
   go_ret
   exact ⟨_, bE, z9 HO564.out, z2 HI0.out, z1 HI0.out, z3⟩
  rw [if_neg c6] at H
  exact absurd H (by simp)
 rw [if_neg c4] at H
 have c4b0 : (t555 == 0) = false := beq_eq_false_iff_ne.mpr c4
 have c4b1 : (t555 != 0) = true := bne_iff_ne.mpr c4
 (try simp only [c4b0, c4b1])
 by_cases c14 : t555 = 1
 ·rw [if_pos c14] at H
  have c14b0 : (t555 == 1) = true := beq_iff_eq.mpr c14
  have c14b1 : (t555 != 1) = false := bne_eq_false_iff_eq.mpr c14
  clear c14
  obtain ⟨y565, hy565⟩ : ∃ y_ : List Int, y_ = (([400, 401, 300] : List Int)) := ⟨_, rfl⟩
  replace H : ((spec_l1Pick.f s0_0 t556 y565).bind fun bt568 => (if 0 ≤ bt568.1 then (if (bt568.1 : Int).toNat ≤ 35184372088832 then (some ((List.replicate (bt568.1 : Int).toNat 0), bt568.2)) else (none)) else (none))) = some (r1, r2) := z0 hy565
  have Ny565 := aM hy565
  clear hy565
  replace H := Option.bind_eq_some_iff.mp H
  obtain ⟨⟨t568, t569⟩, A150, H⟩ := H
  replace H : (if 0 ≤ t568 then (if (t568 : Int).toNat ≤ 35184372088832 then (some ((List.replicate (t568 : Int).toNat 0), t569)) else (none)) else (none)) = some (r1, r2) := H
  have A15 := aM A150
  clear A150
  (try simp only [c14b0, c14b1])
  by_cases c16 : 0 ≤ t568
  ·rw [if_pos c16] at H
   have c16b0 := eq_true c16
   have c16b1 : decide (0 ≤ t568) = true := decide_eq_true c16
   clear c16
   by_cases c17 : (t568 : Int).toNat ≤ 35184372088832
   ·rw [if_pos c17] at H
    have c17b0 := eq_true c17
    have c17b1 : decide ((t568 : Int).toNat ≤ 35184372088832) = true := decide_eq_true c17
    clear c17
    obtain ⟨y570, hy570⟩ : ∃ y_ : List Int, y_ = (List.replicate (t568 : Int).toNat 0) := ⟨_, rfl⟩
    replace H : (some (y570, t569)) = some (r1, r2) := z0 hy570
    have Ny570 := aM hy570
    clear hy570
    simp only [Option.some.injEq, Prod.mk.injEq] at H
    obtain ⟨rfl, rfl⟩ := H
    go_wp2_with (first | ((with_reducible refine gate_callee (f := 51) rfl ?_); refine gL_ (some 5) Tryz.func51 #[.pointer (some ⟨g, 0, none⟩)] ?_; (with_reducible refine (spec_l2Codes.calls k g s0_0 s0_1 t551 t554 w0 _ ?side1 ?side2 A2.out).mono ?_); (case side1 => exact z2 HI0.out); (case side2 => exact z1 HI0.out); rintro e w18 ⟨v552, rfl, ho0, hi, hb, hk⟩; refine ⟨_, rfl, ?_⟩; have HO553 := aM (Kd.R_lower ho0 (keep_size (w := w) (g := g) (row := none) z3)); replace HK := aM (KeepBut.trans z3 hk (.inl rfl)); replace HB := aM (hb); replace HI0 := aM (hi); (try clear ho0)) | ((with_reducible refine gate_callee (f := 32) rfl ?_); refine gL_ (some 7) Tryz.func32 #[.pointer (some ⟨g, 0, none⟩), .int .i64 10] ?_; (with_reducible refine (spec_l1Next.calls g s0_0 t554 10 t555 t556 w0 _ ?side1 ?side2 A3.out).mono ?_); (case side1 => exact z2 HI0.out); (case side2 => exact z1 HI0.out); rintro e w19 ⟨rfl, hi, hb, hk⟩; refine ⟨_, rfl, ?_⟩; replace HO553 := aM (Kd.R_mono (Kd.R_keep (IsS73.apart (show IsS73 w0 _ g s0_0 t554 from z2 HI0.out) (bR HO553) (by decide)) hk (fun _ h => h.2)) (fun _ h => h.1)); replace HK := aM (KeepBut.trans z3 hk (.inl rfl)); replace HB := aM (hb); replace HI0 := aM (hi); (try clear hi)) | ((with_reducible refine gate_dst (N := 19) rfl ?_); refine Kd.R_lit (Kd.int .i64) _ 2 ?hg (N := 19) ?hd (xs := ([400, 401, 300] : List Int)) (inner := [.int .i64 400, .int .i64 401, .int .i64 300]) (ok := fun _ => True) (okp := fun _ => True) ?hr ?hp (fun _ hk => hk) trivial (Below.refl _ _) (Nat.le_refl _) (by simp) ?_; (case hd => rfl); (case hg => rfl); (case hr => exact z10); (case hp => exact (Reps.one (show Kd.M (Kd.int .i64) _ _ _ 400 [.int .i64 400] from rfl) (Reps.one (show Kd.M (Kd.int .i64) _ _ _ 401 [.int .i64 401] from rfl) (Reps.one (show Kd.M (Kd.int .i64) _ _ _ 300 [.int .i64 300] from rfl) (Reps.none _ _))))); intro v566 w20 ho21 hb hg_ hnew_; clear hg_ hnew_; (first | rw [← Ny565.out] at ho21 | (simp only [Int.reduceToNat] at ho21; rw [← Ny565.out] at ho21)); have HO567 := aM (Kd.R_lower (Kd.R_new' ho21 (Kd.R_lt (bR HO553))) (keep_size (w := w) (g := g) (row := none) z3)); replace HO553 := aM (Kd.R_elder' (bR HO553) (Kd.R_base ho21) hb); replace HK := aM (KeepBut.trans z3 (KeepBut.of_below hb g none) (.inl rfl)); replace HB := aM (below_step (z1 HI0.out) hb); replace HI0 := aM (IsS73.below (z2 HI0.out) hb); clear hb ho21; obtain ⟨Ao22, co22, eo22⟩ := Kd.R_slice HO567.out; subst eo22) | ((with_reducible refine gate_callee (f := 59) rfl ?_); refine gL_ (some 20) Tryz.func59 #[.pointer (some ⟨g, 0, none⟩), .slice Ao22 y565.length co22] ?_; (with_reducible refine (spec_l1Pick.calls g s0_0 t556 _ _ y565 t568 t569 w0 _ ?side1 ?side2 ?side3 ?side4 ?side5 A15.out).mono ?_); (case side1 => exact z2 HI0.out); (case side2 => exact z1 HI0.out); (case side3 => exact z4 HO567.out); (case side4 => exact (Kd.R_reads' HO567.out).2.1); (case side5 => exact far_slice (IsS73.own_ne HI0.out HO567.out (by decide))); rintro e w23 ⟨rfl, hi, hb, hk⟩; refine ⟨_, rfl, ?_⟩; replace HO553 := aM (Kd.R_mono (Kd.R_keep (IsS73.apart (show IsS73 w0 _ g s0_0 t556 from z2 HI0.out) (bR HO553) (by decide)) hk (fun _ h => h.2)) (fun _ h => h.1)); replace HO567 := aM (Kd.R_mono (Kd.R_keep (IsS73.apart (show IsS73 w0 _ g s0_0 t556 from z2 HI0.out) (bR HO567) (by decide)) hk (fun _ h => h.2)) (fun _ h => h.1)); replace HK := aM (KeepBut.trans z3 hk (.inl rfl)); replace HB := aM (hb); replace HI0 := aM (hi); (try clear hi)) | ((with_reducible refine gate_dst (N := 21) rfl ?_); refine Kd.R_make (Kd.int .i64) _ 2 rfl (N := 21) rfl 23 _ _ rfl t568 rfl rfl Tryz.underlying23 (.int .i64 0) 8 info2 rfl (by decide) (by omega) 0 (ok := fun _ => True) (okp := fun _ => True) rfl (fun _ hk => hk) trivial (pI) (Nat.le_trans (Nat.mul_le_mul_right _ (pI : t568.toNat ≤ 35184372088832)) (by omega)) (Below.refl _ _) (Nat.le_refl _) ?_; intro v571 w24 ho25 hb hg_ hnew_; clear hg_ hnew_; (first | rw [← Ny570.out] at ho25 | (simp only [Int.reduceToNat] at ho25; rw [← Ny570.out] at ho25)); have HO572 := aM (Kd.R_lower (Kd.R_new' (Kd.R_new' ho25 (Kd.R_lt (bR HO553))) (Kd.R_lt (bR HO567))) (keep_size (w := w) (g := g) (row := none) z3)); replace HO553 := aM (Kd.R_elder' (bR HO553) (Kd.R_base ho25) hb); replace HO567 := aM (Kd.R_elder' (bR HO567) (Kd.R_base ho25) hb); replace HK := aM (KeepBut.trans z3 (KeepBut.of_below hb g none) (.inl rfl)); replace HB := aM (below_step (z1 HI0.out) hb); replace HI0 := aM (IsS73.below (z2 HI0.out) hb); clear hb ho25))
    go_ret
    exact ⟨_, bE, z9 HO572.out, z2 HI0.out, z1 HI0.out, z3⟩
   rw [if_neg c17] at H
   exact absurd H (by simp)
  rw [if_neg c16] at H
  exact absurd H (by simp)
 rw [if_neg c14] at H
 have c14b0 : (t555 == 1) = false := beq_eq_false_iff_ne.mpr c14
 have c14b1 : (t555 != 1) = true := bne_iff_ne.mpr c14
 simp only [Option.some.injEq, Prod.mk.injEq] at H
 obtain ⟨rfl, rfl⟩ := H
 (try simp only [c14b0, c14b1])
 go_wp2_with (first | ((with_reducible refine gate_callee (f := 51) rfl ?_); refine gL_ (some 5) Tryz.func51 #[.pointer (some ⟨g, 0, none⟩)] ?_; (with_reducible refine (spec_l2Codes.calls k g s0_0 s0_1 t551 t554 w0 _ ?side1 ?side2 A2.out).mono ?_); (case side1 => exact z2 HI0.out); (case side2 => exact z1 HI0.out); rintro e w26 ⟨v552, rfl, ho0, hi, hb, hk⟩; refine ⟨_, rfl, ?_⟩; have HO553 := aM (Kd.R_lower ho0 (keep_size (w := w) (g := g) (row := none) z3)); replace HK := aM (KeepBut.trans z3 hk (.inl rfl)); replace HB := aM (hb); replace HI0 := aM (hi); (try clear ho0)) | ((with_reducible refine gate_callee (f := 32) rfl ?_); refine gL_ (some 7) Tryz.func32 #[.pointer (some ⟨g, 0, none⟩), .int .i64 10] ?_; (with_reducible refine (spec_l1Next.calls g s0_0 t554 10 t555 t556 w0 _ ?side1 ?side2 A3.out).mono ?_); (case side1 => exact z2 HI0.out); (case side2 => exact z1 HI0.out); rintro e w27 ⟨rfl, hi, hb, hk⟩; refine ⟨_, rfl, ?_⟩; replace HO553 := aM (Kd.R_mono (Kd.R_keep (IsS73.apart (show IsS73 w0 _ g s0_0 t554 from z2 HI0.out) (bR HO553) (by decide)) hk (fun _ h => h.2)) (fun _ h => h.1)); replace HK := aM (KeepBut.trans z3 hk (.inl rfl)); replace HB := aM (hb); replace HI0 := aM (hi); (try clear hi)))
 go_ret
 exact ⟨_, bE, bR HO553, z2 HI0.out, z1 HI0.out, z3⟩
def spec_DrawEncodeWords.f (k : Nat) (l0 : List Int) : Option (List Int) := (spec_l1Source.f l0).bind fun bt573 => ((spec_l2Bent.f k bt573.1 bt573.2).bind fun bt576 => ((spec_l1Chance.f bt573.1 bt576.2 6).bind fun bt580 => (if bt580.1 = true then ((some (([61, 63] : List Int) : List Int)).bind fun y582 => (if bt576.1.length + y582.length < 17592186044416 then (some (bt576.1 ++ y582)) else (none))) else (some bt576.1))))
set_option maxHeartbeats 8000000 in
set_option maxRecDepth 100000 in
theorem spec_DrawEncodeWords.calls (k : Nat) (A0 : Option Addr) (c0 : Nat) (l0 : List Int) (r : List Int) (w : World) (hr0 : Kd.C (Kd.int .u8) w A0 l0.length l0) (hc0 : l0.length ≤ c0) (h : spec_DrawEncodeWords.f k l0 = some r) :
  Calls Tryz.prog 19 #[.slice A0 l0.length c0] w fun e w' => ∃ v0_ : Value, e = .returned (v0_) ∧ Kd.R (Kd.int .i64) 2 w' w.heap.size (fun _ => True) v0_ r ∧ Below w.heap.size w w' := by
 have HR0 := aM hr0
 have HC0 := aM hc0
 clear hr0 hc0
 have HB := aM (Below.refl w.heap.size w)
 have H : ((spec_l1Source.f l0).bind fun bt573 => ((spec_l2Bent.f k bt573.1 bt573.2).bind fun bt576 => ((spec_l1Chance.f bt573.1 bt576.2 6).bind fun bt580 => (if bt580.1 = true then ((some (([61, 63] : List Int) : List Int)).bind fun y582 => (if bt576.1.length + y582.length < 17592186044416 then (some (bt576.1 ++ y582)) else (none))) else (some bt576.1))))) = some r := h
 clear h
 replace H := Option.bind_eq_some_iff.mp H
 obtain ⟨⟨t573, t574⟩, A20, H⟩ := H
 replace H : ((spec_l2Bent.f k t573 t574).bind fun bt576 => ((spec_l1Chance.f t573 bt576.2 6).bind fun bt580 => (if bt580.1 = true then ((some (([61, 63] : List Int) : List Int)).bind fun y582 => (if bt576.1.length + y582.length < 17592186044416 then (some (bt576.1 ++ y582)) else (none))) else (some bt576.1)))) = some r := H
 have A2 := aM A20
 clear A20
 replace H := Option.bind_eq_some_iff.mp H
 obtain ⟨⟨t576, t579⟩, A30, H⟩ := H
 replace H : ((spec_l1Chance.f t573 t579 6).bind fun bt580 => (if bt580.1 = true then ((some (([61, 63] : List Int) : List Int)).bind fun y582 => (if t576.length + y582.length < 17592186044416 then (some (t576 ++ y582)) else (none))) else (some t576))) = some r := H
 have A3 := aM A30
 clear A30
 replace H := Option.bind_eq_some_iff.mp H
 obtain ⟨⟨t580, t581⟩, A40, H⟩ := H
 replace H : (if t580 = true then ((some (([61, 63] : List Int) : List Int)).bind fun y582 => (if t576.length + y582.length < 17592186044416 then (some (t576 ++ y582)) else (none))) else (some t576)) = some r := H
 have A4 := aM A40
 clear A40
 by_cases c5 : t580 = true
 ·subst c5
  have H1 : ((some (([61, 63] : List Int) : List Int)).bind fun y582 => (if t576.length + y582.length < 17592186044416 then (some (t576 ++ y582)) else (none))) = some r := z16
  clear H
  have H := H1
  clear H1
  obtain ⟨y582, hy582⟩ : ∃ y_ : List Int, y_ = (([61, 63] : List Int)) := ⟨_, rfl⟩
  replace H : (if t576.length + y582.length < 17592186044416 then (some (t576 ++ y582)) else (none)) = some r := z0 hy582
  have Ny582 := aM hy582
  clear hy582
  by_cases c6 : t576.length + y582.length < 17592186044416
  ·rw [if_pos c6] at H
   have LMc6 := aM c6
   clear c6
   obtain ⟨y585, hy585⟩ : ∃ y_ : List Int, y_ = (t576 ++ y582) := ⟨_, rfl⟩
   replace H : (some y585) = some r := z0 hy585
   have Ny585 := aM hy585
   clear hy585
   obtain rfl := Option.some.inj H
   go_enter Tryz.func19, Tryz.ntmps19
   go_wp2_with (first | ((with_reducible refine gate_callee (f := 29) rfl ?_); refine gL_ (some 6) Tryz.func29 #[.slice A0 l0.length c0] ?_; (with_reducible refine (spec_l1Source.calls _ _ l0 t573 t574 w _ ?side1 ?side2 ?side3 A2.out).mono ?_); (case side1 => exact z32); (case side2 => exact HR0.out); (case side3 => exact HC0.out); rintro e w7 ⟨g575, rfl, hi, hb, hb2⟩; refine ⟨_, rfl, ?_⟩; replace HB := aM (hb); have HI575 := aM (hi); (try clear hi)) | ((with_reducible refine gate_callee (f := 38) rfl ?_); refine gL_ (some 8) Tryz.func38 #[.pointer (some ⟨g575, 0, none⟩)] ?_; (with_reducible refine (spec_l2Bent.calls k g575 t573 t574 t576 t579 w _ ?side1 ?side2 A3.out).mono ?_); (case side1 => exact z2 HI575.out); (case side2 => exact z1 HI575.out); rintro e w8 ⟨v577, rfl, ho0, hi, hb, hk⟩; refine ⟨_, rfl, ?_⟩; have HO578 := aM (Kd.R_lower ho0 (below_size (z1 HI575.out))); replace HB := aM (hb); replace HI575 := aM (hi); (try clear ho0)) | ((with_reducible refine gate_callee (f := 31) rfl ?_); refine gL_ (some 10) Tryz.func31 #[.pointer (some ⟨g575, 0, none⟩), .int .i64 6] ?_; (with_reducible refine (spec_l1Chance.calls g575 t573 t579 6 true t581 w _ ?side1 ?side2 A4.out).mono ?_); (case side1 => exact z2 HI575.out); (case side2 => exact z1 HI575.out); rintro e w9 ⟨rfl, hi, hb, hk⟩; refine ⟨_, rfl, ?_⟩; replace HO578 := aM (Kd.R_mono (Kd.R_keep (IsS73.apart (show IsS73 w _ g575 t573 t579 from z2 HI575.out) (bR HO578) (by decide)) hk (fun _ h => h.2)) (fun _ h => h.1)); replace HB := aM (hb); replace HI575 := aM (hi); (try clear hi)) | ((with_reducible refine gate_dst (N := 12) rfl ?_); refine Kd.R_lit (Kd.int .i64) _ 2 ?hg (N := 12) ?hd (xs := ([61, 63] : List Int)) (inner := [.int .i64 61, .int .i64 63]) (ok := fun _ => True) (okp := fun _ => True) ?hr ?hp (fun _ hk => hk) trivial (Below.refl _ _) (Nat.le_refl _) (by simp) ?_; (case hd => rfl); (case hg => rfl); (case hr => exact z10); (case hp => exact (Reps.one (show Kd.M (Kd.int .i64) _ _ _ 61 [.int .i64 61] from rfl) (Reps.one (show Kd.M (Kd.int .i64) _ _ _ 63 [.int .i64 63] from rfl) (Reps.none _ _)))); intro v583 w10 ho11 hb hg_ hnew_; clear hg_ hnew_; (first | rw [← Ny582.out] at ho11 | (simp only [Int.reduceToNat] at ho11; rw [← Ny582.out] at ho11)); have HO584 := aM (Kd.R_lower (Kd.R_new' ho11 (Kd.R_lt (bR HO578))) (below_size (z1 HI575.out))); replace HO578 := aM (Kd.R_elder' (bR HO578) (Kd.R_base ho11) hb); replace HB := aM (below_step (z1 HI575.out) hb); replace HI575 := aM (IsS73.below (z2 HI575.out) hb); clear hb ho11; obtain ⟨Ao13, co13, eo13⟩ := Kd.R_slice HO584.out; subst eo13) | ((with_reducible refine gate_builtin (b := .append) (xs := #[.tmp 11, .tmp 12]) rfl ?_); at_builtin; refine Kd.R_append_rows (Kd.int .i64) (w0 := w) w.heap.size rfl (.tmp 11) (.tmp 12) 23 2 (.int .i64 0) 8 rfl Tryz.underlying23 info2 rfl (by decide) (by omega) v577 t576 y582 _ _ _ (fun k_ => some k_ ≠ (.slice Ao13 y582.length co13 : Value).ownBlock) (fun _ => False) rfl rfl ?aO ?aR (fun _ _ h => h) (fun _ h => h.elim) ?aF ?aB ?aS ?aL ?_; (case aR => exact z4 HO584.out); (case aB => exact (z1 HI575.out)); (case aF => exact (fun k_ hk => Kd.fresh' (Kd.R_lt (bR HO584)) k_ hk)); (case aO => exact z13 HO578.out); (case aS => exact (below_size (z1 HI575.out))); (case aL => have := LMc6.out; omega); intro v586 w12 ho hb hg hat; rw [← Ny585.out] at ho; have n0_ := aM (IsS73.grown (z2 HI575.out) hg (IsS73.own_ne HI575.out HO578.out (by decide))); have n1_ := aM (Kd.R_after (ok := (fun _ => True)) (bR HO584) hg hat); have n2_ := aM (hb); have n3_ := aM (ho); clear HI575; clear HO584; clear HB; clear HO578; have HI575 := n0_; have HO584 := n1_; have HB := n2_; have HO587 := n3_; clear n0_ n1_ n2_ n3_; clear ho hb hg hat))
   go_ret
   exact ⟨_, bE, z9 HO587.out, z1 HI575.out⟩
  rw [if_neg c6] at H
  exact absurd H (by simp)
 replace c5 := Bool.eq_false_iff.mpr c5
 subst c5
 have H1 : (some t576) = some r := z7
 clear H
 have H := H1
 clear H1
 obtain rfl := Option.some.inj H
 go_enter Tryz.func19, Tryz.ntmps19
 go_wp2_with (first | ((with_reducible refine gate_callee (f := 29) rfl ?_); refine gL_ (some 6) Tryz.func29 #[.slice A0 l0.length c0] ?_; (with_reducible refine (spec_l1Source.calls _ _ l0 t573 t574 w _ ?side1 ?side2 ?side3 A2.out).mono ?_); (case side1 => exact z32); (case side2 => exact HR0.out); (case side3 => exact HC0.out); rintro e w14 ⟨g575, rfl, hi, hb, hb2⟩; refine ⟨_, rfl, ?_⟩; replace HB := aM (hb); have HI575 := aM (hi); (try clear hi)) | ((with_reducible refine gate_callee (f := 38) rfl ?_); refine gL_ (some 8) Tryz.func38 #[.pointer (some ⟨g575, 0, none⟩)] ?_; (with_reducible refine (spec_l2Bent.calls k g575 t573 t574 t576 t579 w _ ?side1 ?side2 A3.out).mono ?_); (case side1 => exact z2 HI575.out); (case side2 => exact z1 HI575.out); rintro e w15 ⟨v577, rfl, ho0, hi, hb, hk⟩; refine ⟨_, rfl, ?_⟩; have HO578 := aM (Kd.R_lower ho0 (below_size (z1 HI575.out))); replace HB := aM (hb); replace HI575 := aM (hi); (try clear ho0)) | ((with_reducible refine gate_callee (f := 31) rfl ?_); refine gL_ (some 10) Tryz.func31 #[.pointer (some ⟨g575, 0, none⟩), .int .i64 6] ?_; (with_reducible refine (spec_l1Chance.calls g575 t573 t579 6 false t581 w _ ?side1 ?side2 A4.out).mono ?_); (case side1 => exact z2 HI575.out); (case side2 => exact z1 HI575.out); rintro e w16 ⟨rfl, hi, hb, hk⟩; refine ⟨_, rfl, ?_⟩; replace HO578 := aM (Kd.R_mono (Kd.R_keep (IsS73.apart (show IsS73 w _ g575 t573 t579 from z2 HI575.out) (bR HO578) (by decide)) hk (fun _ h => h.2)) (fun _ h => h.1)); replace HB := aM (hb); replace HI575 := aM (hi); (try clear hi)))
 go_ret
 exact ⟨_, bE, bR HO578, z1 HI575.out⟩
def impl_encodeChars.l0 : Nat → Int → List Int → List Int → Int → Int → Option (List Int)
 | 0, _, _, _, _, _ => none
 | k + 1, x0, x5, x9, x10, x11 => if x11 < x10 then (if 0 ≤ x11 then (if x11 < (x9.length : Int) then ((impl_encodeChar.f k x0 (rd x9 x11)).bind fun t592 => (if x5.length + t592.length < 140737488355328 then (impl_encodeChars.l0 k x0 (x5 ++ t592) x9 x10 (wrap64 (x11 + 1))) else (none))) else (none)) else (none)) else (some x5)
def impl_encodeChars.f (k : Nat) (a0 : Int) (l1 : List Int) : Option (List Int) := impl_encodeChars.l0 k a0 (([] : List Int)) l1 (l1.length : Int) 0
set_option maxHeartbeats 8000000 in
set_option maxRecDepth 100000 in
theorem impl_encodeChars.calls (k : Nat) (a0 : Int) (A1 : Option Addr) (c1 : Nat) (l1 : List Int) (r : List Int) (w : World) (hr1 : Kd.C (Kd.int .i64) w A1 l1.length l1) (hc1 : l1.length ≤ c1) (h : impl_encodeChars.f k a0 l1 = some r) :
  Calls Tryz.prog 39 #[.int .i64 a0, .slice A1 l1.length c1] w fun e w' => ∃ v0_ : Value, e = .returned (v0_) ∧ Kd.R (Kd.int .u8) 5 w' w.heap.size (fun _ => True) v0_ r ∧ Below w.heap.size w w' := by
 have HR1 := aM hr1
 have HC1 := aM hc1
 clear hr1 hc1
 have HB := aM (Below.refl w.heap.size w)
 have H : (impl_encodeChars.l0 k a0 (([] : List Int)) l1 (l1.length : Int) 0) = some r := h
 clear h
 obtain ⟨y588, hy588⟩ : ∃ y_ : List Int, y_ = (([] : List Int)) := ⟨_, rfl⟩
 replace H : (impl_encodeChars.l0 k a0 y588 l1 (l1.length : Int) 0) = some r := z0 hy588
 have Ny588 := aM hy588
 clear hy588
 have H' := aM H
 clear H
 go_enter Tryz.func39, Tryz.ntmps39
 go_wp2_with (first | ((with_reducible refine gate_dst (N := 8) rfl ?_); refine Kd.R_lit (Kd.int .u8) _ 5 ?hg (N := 8) ?hd (xs := ([] : List Int)) (inner := []) (ok := fun _ => True) (okp := fun _ => True) ?hr ?hp (fun _ hk => hk) trivial (Below.refl _ _) (Nat.le_refl _) (by simp) ?_; (case hd => rfl); (case hg => rfl); (case hr => exact z10); (case hp => exact (Reps.none _ _)); intro v589 w3 ho4 hb hg_ hnew_; clear hg_ hnew_; (first | rw [← Ny588.out] at ho4 | (simp only [Int.reduceToNat] at ho4; rw [← Ny588.out] at ho4)); have HO590 := aM (Kd.R_lower ho4 (below_size bB)); replace HB := aM (below_step bB hb); clear hb ho4))
 go_loopg [5, 11] k (fun kq v5 v11 w' => ∃ (x5_1 : List Int) (x11_1 : Int), v11 = .int .i64 x11_1 ∧ Aside0 (impl_encodeChars.l0 kq a0 x5_1 l1 (l1.length : Int) x11_1 = some r) ∧ Aside0 (kq ≤ k) ∧ Aside0 (Kd.R (Kd.int .u8) 5 w' w.heap.size (fun _ => True) v5 x5_1) ∧ Aside0 (Below w.heap.size w w'))
 case atStart => exact ⟨(y588), (0), bS, H', ⟨Nat.le_refl _⟩, ⟨bR HO590⟩, ⟨bB⟩⟩
 case round =>
  clear H'
  try clear c1
  try clear p2
  try clear c3
  obtain ⟨x5_1, x11_1, rfl, HA, HK1, HO_5, HB⟩ := hrel
  cases gk with
  | zero => exact absurd HA.out (by simp [impl_encodeChars.l0])
  | succ k1 =>
   have H := HA.out
   clear HA
   simp only [impl_encodeChars.l0] at H
   by_cases c5 : x11_1 < (l1.length : Int)
   ·rw [if_pos c5] at H
    have c5b0 : decide (x11_1 < (l1.length : Int)) = true := decide_eq_true c5
    clear c5
    by_cases c6 : 0 ≤ x11_1
    ·rw [if_pos c6] at H
     have c6b0 : decide (0 ≤ x11_1) = true := decide_eq_true c6
     clear c6
     by_cases c7 : x11_1 < (l1.length : Int)
     ·rw [if_pos c7] at H
      have c7b0 : decide (x11_1 < (l1.length : Int)) = true := decide_eq_true c7
      clear c7
      replace H := Option.bind_eq_some_iff.mp H
      obtain ⟨t592, A80, H⟩ := H
      replace H : (if x5_1.length + t592.length < 140737488355328 then (impl_encodeChars.l0 k1 a0 (x5_1 ++ t592) l1 (l1.length : Int) (wrap64 (x11_1 + 1))) else (none)) = some r := H
      have A8 := aM A80
      clear A80
      by_cases c9 : x5_1.length + t592.length < 140737488355328
      ·rw [if_pos c9] at H
       have LMc9 := aM c9
       clear c9
       obtain ⟨y595, hy595⟩ : ∃ y_ : List Int, y_ = (x5_1 ++ t592) := ⟨_, rfl⟩
       replace H : (impl_encodeChars.l0 k1 a0 y595 l1 (l1.length : Int) (wrap64 (x11_1 + 1))) = some r := z0 hy595
       have Ny595 := aM hy595
       clear hy595
       have H' := aM H
       clear H
       have p591 : 0 ≤ (x11_1 : Int) := pI
       have q591 : x11_1 < (l1.length : Int) := pI
       obtain ⟨ad591, e591, hx591_0⟩ := Kd.at_int HR1.out x11_1 p591 q591
       cases e591
       replace hx591_0 := (HB.out.cell (World.block_lt_of_cell? w _ hx591_0)).trans hx591_0
       replace p591 := eq_true p591
       replace q591 := eq_true q591
       go_wp2_with (first | ((with_reducible refine gate_callee (f := 60) rfl ?_); refine gL_ (some 18) Tryz.func60 #[.int .i64 a0, .int .i64 (rd l1 x11_1)] ?_; (with_reducible refine (impl_encodeChar.calls k1 a0 (rd l1 x11_1) t592 _ A8.out).mono ?_); rintro e w10 ⟨v593, rfl, ho0, hb⟩; refine ⟨_, rfl, ?_⟩; have HO594 := aM (Kd.R_lower (Kd.R_new' ho0 (Kd.R_lt (bR HO_5))) (below_size bB)); replace HO_5 := aM (Kd.R_elder' (bR HO_5) (Kd.R_base ho0) hb); replace HB := aM (below_step bB hb); (try clear ho0); obtain ⟨Ao12, co12, eo12⟩ := Kd.R_slice HO594.out; subst eo12) | ((with_reducible refine gate_builtin (b := .append) (xs := #[.tmp 15, .tmp 18]) rfl ?_); at_builtin; refine Kd.R_append_rows (Kd.int .u8) (w0 := w) w.heap.size rfl (.tmp 15) (.tmp 18) 22 5 (.int .u8 0) 1 rfl Tryz.underlying22 info5 rfl (by decide) (by omega) u5 x5_1 t592 _ _ _ (fun k_ => some k_ ≠ (.slice Ao12 t592.length co12 : Value).ownBlock) (fun _ => False) rfl rfl ?aO ?aR (fun _ _ h => h) (fun _ h => h.elim) ?aF ?aB ?aS ?aL ?_; (case aR => exact z4 HO594.out); (case aB => exact bB); (case aF => exact (fun k_ hk => Kd.fresh' (Kd.R_lt (bR HO594)) k_ hk)); (case aO => exact z13 HO_5.out); (case aS => exact (below_size bB)); (case aL => have := LMc9.out; omega); intro v596 w11 ho hb hg hat; rw [← Ny595.out] at ho; have n0_ := aM (Kd.R_after (ok := (fun _ => True)) (bR HO594) hg hat); have n1_ := aM (hb); have n2_ := aM (ho); clear HO594; clear HB; clear HO_5; have HO594 := n0_; have HB := n1_; have HO597 := n2_; clear n0_ n1_ n2_; clear ho hb hg hat))
       go_roundg k1
       case measure => have := HK1.out; omega
       case rel => exact ⟨(y595), (wrap64 (x11_1 + 1)), bS, H', ⟨by have := HK1.out; omega⟩, ⟨z9 HO597.out⟩, ⟨bB⟩⟩
      rw [if_neg c9] at H
      exact absurd H (by simp)
     rw [if_neg c7] at H
     exact absurd H (by simp)
    rw [if_neg c6] at H
    exact absurd H (by simp)
   rw [if_neg c5] at H
   have c5b0 : decide (x11_1 < (l1.length : Int)) = false := decide_eq_false c5
   clear c5
   obtain rfl := Option.some.inj H
   go_wp2
   go_ret
   exact ⟨_, bE, bR HO_5, bB⟩
open Go.Shelf in
def strings_Contains.sh_lays144_ren : Go.Shelf.Ren := ⟨fun | 144 => 41 | 143 => 61 | 219 => 95 | 217 => 123 | 225 => 124 | 224 => 125 | 267 => 126 | 266 => 140 | 314 => 141 | n => n, fun | 9 => 9 | 4 => 4 | 3 => 3 | 5 => 5 | 46 => 87 | 146 => 143 | 51 => 142 | n => n, fun | 1 => 0 | n => n⟩
open Go.Shelf in
theorem strings_Contains.sh_lays144 : Go.Proofs.Lays.n144 Tryz.prog strings_Contains.sh_lays144_ren := {
  mixed := by kernel_rfl
  f143 := Tryz.func61.trans (congrArg some (by kernel_rfl))
  f144 := Tryz.func41.trans (congrArg some (by kernel_rfl))
  f217 := Tryz.func123.trans (congrArg some (by kernel_rfl))
  f219 := Tryz.func95.trans (congrArg some (by kernel_rfl))
  f224 := Tryz.func125.trans (congrArg some (by kernel_rfl))
  f225 := Tryz.func124.trans (congrArg some (by kernel_rfl))
  f266 := Tryz.func140.trans (congrArg some (by kernel_rfl))
  f267 := Tryz.func126.trans (congrArg some (by kernel_rfl))
  f314 := Tryz.func141.trans (congrArg some (by kernel_rfl))
  t3 := Tryz.underlying3
  a3 := Tryz.isAgg3
  z3 := Tryz.sizeOf3
  v3 := Tryz.zeroValue3
  t4 := Tryz.underlying4
  a4 := Tryz.isAgg4
  z4 := Tryz.sizeOf4
  v4 := Tryz.zeroValue4
  t5 := Tryz.underlying5
  a5 := Tryz.isAgg5
  z5 := Tryz.sizeOf5
  v5 := Tryz.zeroValue5
  t9 := Tryz.underlying9
  a9 := Tryz.isAgg9
  z9 := Tryz.sizeOf9
  v9 := Tryz.zeroValue9
  t46 := Tryz.underlying87
  a46 := Tryz.isAgg87
  z46 := Tryz.sizeOf87
  v46 := Tryz.zeroValue87
  t51 := Tryz.underlying142
  a51 := Tryz.isAgg142
  z51 := Tryz.sizeOf142
  v51 := Tryz.zeroValue142
  t146 := Tryz.underlying143
  a146 := Tryz.isAgg143
  z146 := Tryz.sizeOf143
  v146 := Tryz.zeroValue143
  g1 := by kernel_rfl }
open Go.Shelf in
open Go.RowKit Go.Lib in
theorem strings_Contains.sh_strings_Contains (s sub : ByteArray) (m : Int) (w : World) (hs : s.size < 4294967281) (hm : w.cell? ⟨0, 0, none⟩ = some (.int .i64 m)) :
    Calls Tryz.prog 41 #[.string s, .string sub] w fun e w' => e = .returned (.bool (Lib.contains s.data.toList sub.data.toList)) ∧ w' = w := Any.strings_Contains strings_Contains.sh_lays144 s sub m w hs hm
theorem strings_Contains.below {w w' : World} {a : Addr} (h : ∃ m, w.cell? a = some (.int .i64 m)) (hb : Below w.heap.size w w') : ∃ m, w'.cell? a = some (.int .i64 m) := by
  obtain ⟨m, hm⟩ := h
  exact ⟨m, (hb.cell (World.block_lt_of_cell? w a hm)).trans hm⟩
def strings_Contains.f (a0 : ByteArray) (a1 : ByteArray) : Option Bool := if a0.size < 4294967281 then some (Lib.contains a0.data.toList a1.data.toList) else none
theorem strings_Contains.calls (a0 : ByteArray) (a1 : ByteArray) (r : Bool) (w : World) (hm_ : ∃ m, w.cell? ⟨0, 0, none⟩ = some (.int .i64 m)) (h : strings_Contains.f a0 a1 = some r) :
    Calls Tryz.prog 41 #[.string a0, .string a1] w fun e w' => e = .returned (.bool r) ∧ Drawn0 w w' := by
  unfold strings_Contains.f at h
  by_cases h1 : a0.size < 4294967281
  · rw [if_pos h1] at h
    cases h
    obtain ⟨m, hm⟩ := hm_
    refine (strings_Contains.sh_strings_Contains a0 a1 m w h1 hm).mono ?_
    rintro e w' ⟨rfl, rfl⟩
    exact ⟨rfl, Drawn0.refl _⟩
  rw [if_neg h1] at h
  cases h
mutual
def impl_EncodeWords.l0 : Nat → Bool → ByteArray → List Int → Int → Int → Option (Int × ByteArray)
 | 0, _, _, _, _, _ => none
 | k + 1, x4, x5, x17, x18, x19 => if x19 < x18 then (if 0 ≤ x19 then (if x19 < (x17.length : Int) then (if x4 = true then ((impl_within.f (rd x17 x19) 32 126).bind fun t604 => (impl_EncodeWords.l0 k t604 x5 x17 x18 (wrap64 (x19 + 1)))) else (impl_EncodeWords.l0 k false x5 x17 x18 (wrap64 (x19 + 1)))) else (none)) else (none)) else (if x4 = true then ((strings_Contains.f x5 (⟨#[61, 63]⟩ : ByteArray)).bind fun t605 => (impl_EncodeWords.j1 k x5 (!t605))) else (impl_EncodeWords.j1 k x5 false))
def impl_EncodeWords.j1 : Nat → ByteArray → Bool → Option (Int × ByteArray)
 | 0, _, _ => none
 | k + 1, x5, x29 => if x29 = true then (some (0, x5)) else (if (x5.size : Int) > 400 then (some (2, (⟨#[]⟩ : ByteArray))) else (if x5.size ≤ 281474976710656 then ((impl_baseText.f (bytesOf x5)).bind fun t609 => (if 10 + t609.size ≤ 9223372036854775807 then (if ((⟨#[61, 63, 117, 116, 102, 45, 56, 63, 66, 63]⟩ : ByteArray) ++ t609).size + 2 ≤ 9223372036854775807 then (if ((((⟨#[61, 63, 117, 116, 102, 45, 56, 63, 66, 63]⟩ : ByteArray) ++ t609) ++ (⟨#[63, 61]⟩ : ByteArray)).size : Int) > 400 then (some (2, (⟨#[]⟩ : ByteArray))) else (some (0, ((⟨#[61, 63, 117, 116, 102, 45, 56, 63, 66, 63]⟩ : ByteArray) ++ t609) ++ (⟨#[63, 61]⟩ : ByteArray)))) else (none)) else (none))) else (none)))
end
def impl_EncodeWords.f (k : Nat) (l0 : List Int) : Option (Int × ByteArray) := (impl_CodesFault.f l0).bind fun t599 => (if t599 = 0 then ((impl_encodeChars.f k 4 l0).bind fun t600 => (impl_EncodeWords.l0 k true (strOfNums t600) l0 (l0.length : Int) 0)) else (some (t599, (⟨#[]⟩ : ByteArray))))
set_option maxHeartbeats 8000000 in
set_option maxRecDepth 100000 in
theorem impl_EncodeWords.calls (k : Nat) (A0 : Option Addr) (c0 : Nat) (l0 : List Int) (r1 : Int) (r2 : ByteArray) (w : World) (hm_ : ∃ m, w.cell? ⟨0, 0, none⟩ = some (.int .i64 m)) (hr0 : Kd.C (Kd.int .i64) w A0 l0.length l0) (hc0 : l0.length ≤ c0) (h : impl_EncodeWords.f k l0 = some (r1, r2)) :
  Calls Tryz.prog 20 #[.slice A0 l0.length c0] w fun e w' => e = .returned (.agg #[.int .i64 r1, .string r2]) ∧ Below w.heap.size w w' := by
 have HM_ := aM hm_
 clear hm_
 have hu39 := Tryz.underlying39
 have HR0 := aM hr0
 have HC0 := aM hc0
 clear hr0 hc0
 have HB := aM (Below.refl w.heap.size w)
 have H : ((impl_CodesFault.f l0).bind fun t599 => (if t599 = 0 then ((impl_encodeChars.f k 4 l0).bind fun t600 => (impl_EncodeWords.l0 k true (strOfNums t600) l0 (l0.length : Int) 0)) else (some (t599, (⟨#[]⟩ : ByteArray))))) = some (r1, r2) := h
 clear h
 replace H := Option.bind_eq_some_iff.mp H
 obtain ⟨t599, A20, H⟩ := H
 replace H : (if t599 = 0 then ((impl_encodeChars.f k 4 l0).bind fun t600 => (impl_EncodeWords.l0 k true (strOfNums t600) l0 (l0.length : Int) 0)) else (some (t599, (⟨#[]⟩ : ByteArray)))) = some (r1, r2) := H
 have A2 := aM A20
 clear A20
 have HQ_ := aM H
 clear H
 go_enter Tryz.func20, Tryz.ntmps20
 have H := HQ_.out
 clear HQ_
 by_cases c3 : t599 = 0
 ·rw [if_pos c3] at H
  have c3b0 : (t599 == 0) = true := beq_iff_eq.mpr c3
  have c3b1 : (t599 != 0) = false := bne_eq_false_iff_eq.mpr c3
  clear c3
  replace H := Option.bind_eq_some_iff.mp H
  obtain ⟨t600, A40, H⟩ := H
  replace H : (impl_EncodeWords.l0 k true (strOfNums t600) l0 (l0.length : Int) 0) = some (r1, r2) := H
  have A4 := aM A40
  clear A40
  have H' := aM H
  clear H
  (try simp only [c3b0, c3b1])
  try go_wp2_with (first | ((with_reducible refine gate_dst (N := 2) rfl ?_); refine box_event ?hg (N := 2) ?hd (cs := #[.int .i64 0, .string (⟨#[]⟩ : ByteArray)]) (t := 39) ?hr ?_; (case hd => rfl); (case hg => rfl); (case hr => exact z10); intro gb598 hg w5 hbox hb; have BK598 := aM (hbox); have GW598 := aM ((z21 : w.heap.size ≤ gb598)); have GE598 := aM ((z21 : w.heap.size ≤ gb598)); replace HB := aM (below_step bB hb); clear hb hbox hg) | ((with_reducible refine gate_callee (f := 18) rfl ?_); refine gL_ (some 9) Tryz.func18 #[.slice A0 l0.length c0] ?_; (with_reducible refine (impl_CodesFault.calls _ _ l0 t599 _ ?side1 ?side2 A2.out).mono ?_); (case side1 => exact z12 HR0.out); (case side2 => exact HC0.out); rintro e w' ⟨rfl, ⟨nd, rfl⟩⟩; refine ⟨_, rfl, ?_⟩))
  (try (rw [drewN_self w5]; generalize hq_ : World.drewN w5 _ = w5; have n0_ : Aside0 (w5.heap[gb598]? = some (.cells #[.int .i64 0, .string (⟨#[]⟩ : ByteArray)] 39 (0, 0))) := ⟨by rw [← hq_]; exact (bL BK598)⟩; have n1_ : Aside0 (Below w.heap.size w w5) := ⟨by rw [← hq_]; exact (bG GE598)⟩; clear BK598 HB hq_; have BK598 := n0_; have HB := n1_; clear n0_ n1_))
  replace BK598 := aM (blk_drew BK598.out)
  replace HB := aM (below_drew1 HB.out)
  refine start_ (n := 5) (S := fun w' => True) (ds := []) #[false, false, false, false, false] (by kernel_rfl) rfl rfl trivial (fun hHeld => ?_)
  generalize w5.drew = w6 at BK598 HB hHeld ⊢
  refine pure_ (i := 0) (N := some 14) (v := ?_) (a' := ?_) #[true, false, false, false, false] rfl rfl (by kernel_rfl) (fun _ _ _ h => h) (Or.inl ⟨by rfl, ?_⟩) ?_ ?_
  rotate_left
  ·intro w'
   go_simp
   with_reducible rfl
  rotate_left
  ·simp only [Act.put, List.setIfInBounds_toArray, List.set_cons_zero, List.set_cons_succ, i64_w, i32_w]
   rfl
  refine one_ (i := 1) (N := some 15) #[true, true, false, false, false] rfl rfl (by kernel_rfl) (by decide) (fun K hK => ?_)
  refine goes_ Tryz.func39 (by kernel_rfl) rfl #[.int .i64 4, .slice A0 l0.length c0] (by rfl) rfl rfl bM ?_
  with_reducible refine (impl_encodeChars.calls k 4 _ _ l0 t600 _ ?side1 ?side2 A4.out).mono ?_
  (case side1 => exact z12 HR0.out)
  (case side2 => exact HC0.out)
  rintro e w7 ⟨v601, rfl, ho0, hb⟩
  refine ⟨_, rfl, ?_⟩
  have HO602 := aM (Kd.R_lower ho0 (below_size (bG GE598)))
  replace BK598 := aM (blk_below (g := gb598) (o := .cells #[.int .i64 0, .string (⟨#[]⟩ : ByteArray)] 39 (0, 0)) (bL BK598) hb)
  replace HB := aM (below_step (bG GE598) hb)
  (try clear hb)
  (try clear hb2)
  (try clear hk)
  (try clear hi)
  (try clear ho0)
  refine hK.out _ _ trivial (fun hHeld => ?_)
  clear hK K
  refine na_ (N := some 15) (h := ?_)
  refine pure_ (i := 3) (N := some 4) (v := ?_) (a' := ?_) #[true, true, false, true, false] rfl rfl (by kernel_rfl) (fun _ _ _ h => h) (Or.inl ⟨by rfl, ?_⟩) ?_ ?_
  rotate_left
  ·intro w'
   go_simp
   with_reducible rfl
  rotate_left
  ·simp only [Act.put, List.setIfInBounds_toArray, List.set_cons_zero, List.set_cons_succ, i64_w, i32_w]
   rfl
  refine one_ (i := 2) (N := some 16) #[true, true, true, true, false] rfl rfl (by kernel_rfl) (by decide) (fun K hK => ?_)
  have hcv8 := own_string (P := Tryz.prog) Tryz.underlying22 Tryz.underlying5 Tryz.underlying9 (Kd.own_of_R HO602.out); (try have hcv8d := fun nq_ : Nat => own_string (P := Tryz.prog) Tryz.underlying22 Tryz.underlying5 Tryz.underlying9 (Kd.own_of_R (Kd.R_drewN HO602.out nq_)))
  refine value_ (w1 := ?_) (v := ?_) (by rfl) rfl ?_ ?_
  rotate_left 2
  ·go_simp
   constructor
   ·rfl
   rfl
  clear hcv8
  refine hK.out _ _ trivial (fun hHeld => ?_)
  clear hK K
  refine na_ (N := some 16) (h := ?_)
  refine pure_ (i := 4) (N := some 5) (v := ?_) (a' := ?_) #[true, true, true, true, true] rfl rfl (by kernel_rfl) (fun _ _ _ h => h) (Or.inl ⟨by rfl, ?_⟩) ?_ ?_
  rotate_left
  ·intro w'
   go_simp
   with_reducible rfl
  rotate_left
  ·simp only [Act.put, List.setIfInBounds_toArray, List.set_cons_zero, List.set_cons_succ, i64_w, i32_w]
   rfl
  refine done_ (by kernel_rfl) ?_
  try go_wp2
  go_loopg [4, 19] k (fun kq v4 v19 w' => ∃ (x4_1 : Bool) (x19_1 : Int), v4 = .bool x4_1 ∧ v19 = .int .i64 x19_1 ∧ Aside0 (impl_EncodeWords.l0 kq x4_1 (strOfNums t600) l0 (l0.length : Int) x19_1 = some (r1, r2)) ∧ Aside0 (kq ≤ k) ∧ Aside0 (w'.heap[gb598]? = some (.cells #[.int .i64 0, .string (⟨#[]⟩ : ByteArray)] 39 (0, 0))) ∧ Aside0 (Below w.heap.size w w'))
  case atStart => exact ⟨(true), (0), bS, bS, H', ⟨Nat.le_refl _⟩, ⟨bL BK598⟩, ⟨bG GE598⟩⟩
  case round =>
   clear H'
   try clear c1
   try clear c2
   try clear p2
   try clear c3
   try clear c3b0
   try clear c3b1
   try clear hcv8
   obtain ⟨x4_1, x19_1, rfl, rfl, HA, HK1, BK598, HB⟩ := hrel
   cases gk with
   | zero => exact absurd HA.out (by simp [impl_EncodeWords.l0])
   | succ k1 =>
    have H := HA.out
    clear HA
    simp only [impl_EncodeWords.l0] at H
    by_cases c9 : x19_1 < (l0.length : Int)
    ·rw [if_pos c9] at H
     have c9b0 : decide (x19_1 < (l0.length : Int)) = true := decide_eq_true c9
     clear c9
     by_cases c10 : 0 ≤ x19_1
     ·rw [if_pos c10] at H
      have c10b0 : decide (0 ≤ x19_1) = true := decide_eq_true c10
      clear c10
      by_cases c11 : x19_1 < (l0.length : Int)
      ·rw [if_pos c11] at H
       have c11b0 : decide (x19_1 < (l0.length : Int)) = true := decide_eq_true c11
       clear c11
       have HQ_ := aM H
       clear H
       have p603 : 0 ≤ (x19_1 : Int) := pI
       have q603 : x19_1 < (l0.length : Int) := pI
       obtain ⟨ad603, e603, hx603_0⟩ := Kd.at_int HR0.out x19_1 p603 q603
       cases e603
       replace hx603_0 := (HB.out.cell (World.block_lt_of_cell? w _ hx603_0)).trans hx603_0
       replace p603 := eq_true p603
       replace q603 := eq_true q603
       have H := HQ_.out
       clear HQ_
       by_cases c12 : x4_1 = true
       ·subst c12
        have H1 : ((impl_within.f (rd l0 x19_1) 32 126).bind fun t604 => (impl_EncodeWords.l0 k1 t604 (strOfNums t600) l0 (l0.length : Int) (wrap64 (x19_1 + 1)))) = some (r1, r2) := z16
        clear H
        have H := H1
        clear H1
        replace H := Option.bind_eq_some_iff.mp H
        obtain ⟨t604, A130, H⟩ := H
        replace H : (impl_EncodeWords.l0 k1 t604 (strOfNums t600) l0 (l0.length : Int) (wrap64 (x19_1 + 1))) = some (r1, r2) := H
        have A13 := aM A130
        clear A130
        have H' := aM H
        clear H
        go_wp2_with (first | (go_at_call 40; (with_reducible refine (impl_within.calls (rd l0 x19_1) 32 126 t604 _ A13.out).mono ?_); rintro e w' ⟨rfl, ⟨nd, rfl⟩⟩))
        go_roundg k1
        case measure => have := HK1.out; omega
        case rel => exact ⟨(t604), (wrap64 (x19_1 + 1)), bS, bS, H', ⟨by have := HK1.out; omega⟩, ⟨bL BK598⟩, ⟨bG GE598⟩⟩
       replace c12 := Bool.eq_false_iff.mpr c12
       subst c12
       have H1 : (impl_EncodeWords.l0 k1 false (strOfNums t600) l0 (l0.length : Int) (wrap64 (x19_1 + 1))) = some (r1, r2) := z7
       clear H
       have H := H1
       clear H1
       have H' := aM H
       clear H
       go_wp2
       go_roundg k1
       case measure => have := HK1.out; omega
       case rel => exact ⟨(false), (wrap64 (x19_1 + 1)), bS, bS, H', ⟨by have := HK1.out; omega⟩, ⟨bL BK598⟩, ⟨bG GE598⟩⟩
      rw [if_neg c11] at H
      exact absurd H (by simp)
     rw [if_neg c10] at H
     exact absurd H (by simp)
    rw [if_neg c9] at H
    have c9b0 : decide (x19_1 < (l0.length : Int)) = false := decide_eq_false c9
    clear c9
    have HC14 := aM H
    clear H
    go_upto_region 10 with (fail)
    go_cut [29] (fun v29 wc => ∃ (kq : Nat) (x29_13 : Bool), v29 = .bool x29_13 ∧ Aside0 (impl_EncodeWords.j1 kq (strOfNums t600) x29_13 = some (r1, r2)) ∧ Aside0 (kq ≤ k1) ∧ Aside0 (wc.heap[gb598]? = some (.cells #[.int .i64 0, .string (⟨#[]⟩ : ByteArray)] 39 (0, 0))) ∧ Aside0 (Below w.heap.size w wc))
    case first =>
     have H := HC14.out
     clear HC14
     by_cases c15 : x4_1 = true
     ·subst c15
      have H1 : ((strings_Contains.f (strOfNums t600) (⟨#[61, 63]⟩ : ByteArray)).bind fun t605 => (impl_EncodeWords.j1 k1 (strOfNums t600) (!t605))) = some (r1, r2) := z16
      clear H
      have H := H1
      clear H1
      replace H := Option.bind_eq_some_iff.mp H
      obtain ⟨t605, A160, H⟩ := H
      replace H : (impl_EncodeWords.j1 k1 (strOfNums t600) (!t605)) = some (r1, r2) := H
      have A16 := aM A160
      clear A160
      have H' := aM H
      clear H
      go_wp2_with (first | (go_at_call 41; (with_reducible refine (strings_Contains.calls (strOfNums t600) (⟨#[61, 63]⟩ : ByteArray) t605 _ ?sidem A16.out).mono ?_); (case sidem => exact strings_Contains.below HM_.out (by repeat (first | (with_reducible first | exact HB.out | apply below_alloc | apply pw_below_drewN | apply below_drew1) | exact HB.out))); rintro e w' ⟨rfl, ⟨nd, rfl⟩⟩))
      go_meet
      case rel => exact ⟨_, (!t605), bS, H', ⟨z31 HK1.out⟩, ⟨bL BK598⟩, ⟨bG GE598⟩⟩
     replace c15 := Bool.eq_false_iff.mpr c15
     subst c15
     have H1 : (impl_EncodeWords.j1 k1 (strOfNums t600) false) = some (r1, r2) := z7
     clear H
     have H := H1
     clear H1
     have H' := aM H
     clear H
     go_wp2
     go_meet
     case rel => exact ⟨_, (false), bS, H', ⟨z31 HK1.out⟩, ⟨bL BK598⟩, ⟨bG GE598⟩⟩
    case rest =>
     clear HC14
     try clear c1
     try clear c2
     try clear p2
     try clear c3
     try clear c3b0
     try clear c3b1
     try clear p6
     try clear q6
     try clear hx6
     try clear hcv8
     try clear c9
     try clear c9b0
     try clear c10
     try clear c10b0
     try clear c11
     try clear c11b0
     try clear c12
     try clear c15
     try clear hx603_0
     try clear p2
     try clear p603
     try clear q603
     obtain ⟨kq, x29_13, rfl, HA, HJ13, BK598, HB⟩ := hcut
     cases kq with
     | zero => exact absurd HA.out (by simp [impl_EncodeWords.j1])
     | succ kj13 =>
      have H := HA.out
      clear HA
      simp only [impl_EncodeWords.j1] at H
      by_cases c17 : x29_13 = true
      ·subst c17
       have H1 : (some (0, (strOfNums t600))) = some (r1, r2) := z16
       clear H
       have H := H1
       clear H1
       simp only [Option.some.injEq, Prod.mk.injEq] at H
       obtain ⟨rfl, rfl⟩ := H
       have hcz18_0 : wc.cell? ⟨gb598, 0, none⟩ = some (.int .i64 0) := (blk_cell BK598.out 0).trans rfl
       have hcz18_1 : wc.cell? ⟨gb598, 1, none⟩ = some (.string (⟨#[]⟩ : ByteArray)) := (blk_cell BK598.out 1).trans rfl
       have hfz18_0 := blk_frozen BK598.out 0
       have hfz18_1 := blk_frozen BK598.out 1
       go_wp2
       refine bodyPost_ret (results_cell_row rfl _ _ gb598 39 #[.int .i64 0, .string (strOfNums t600)] (0, 0) _ rfl (by (with_reducible repeat (first | refine blk_drewN ?_ _ | refine blk_drew ?_ | refine blk_alloc ?_ _)); refine blk_put (cs := #[.int .i64 0, .string (⟨#[]⟩ : ByteArray)]) ?_ 1 _ rfl; (with_reducible repeat (first | refine blk_drewN ?_ _ | refine blk_drew ?_ | refine blk_alloc ?_ _)); refine blk_put (cs := #[.int .i64 0, .string (⟨#[]⟩ : ByteArray)]) ?_ 0 _ rfl; (with_reducible repeat (first | refine blk_drewN ?_ _ | refine blk_drew ?_ | refine blk_alloc ?_ _)); exact BK598.out) Tryz.underlying39 rfl (by kernel_rfl)) rfl ?_
       exact ⟨bE, bG GE598⟩
      replace c17 := Bool.eq_false_iff.mpr c17
      subst c17
      have H1 : (if ((strOfNums t600).size : Int) > 400 then (some (2, (⟨#[]⟩ : ByteArray))) else (if (strOfNums t600).size ≤ 281474976710656 then ((impl_baseText.f (bytesOf (strOfNums t600))).bind fun t609 => (if 10 + t609.size ≤ 9223372036854775807 then (if ((⟨#[61, 63, 117, 116, 102, 45, 56, 63, 66, 63]⟩ : ByteArray) ++ t609).size + 2 ≤ 9223372036854775807 then (if ((((⟨#[61, 63, 117, 116, 102, 45, 56, 63, 66, 63]⟩ : ByteArray) ++ t609) ++ (⟨#[63, 61]⟩ : ByteArray)).size : Int) > 400 then (some (2, (⟨#[]⟩ : ByteArray))) else (some (0, ((⟨#[61, 63, 117, 116, 102, 45, 56, 63, 66, 63]⟩ : ByteArray) ++ t609) ++ (⟨#[63, 61]⟩ : ByteArray)))) else (none)) else (none))) else (none))) = some (r1, r2) := z7
      clear H
      have H := H1
      clear H1
      by_cases c19 : ((strOfNums t600).size : Int) > 400
      ·rw [if_pos c19] at H
       have c19b0 : decide (400 < ((strOfNums t600).size : Int)) = true := decide_eq_true c19
       have c19b1 : decide (400 < (strOfNums t600).size) = true := decide_eq_true (by omega)
       clear c19
       simp only [Option.some.injEq, Prod.mk.injEq] at H
       obtain ⟨rfl, rfl⟩ := H
       have hcz20_0 : wc.cell? ⟨gb598, 0, none⟩ = some (.int .i64 0) := (blk_cell BK598.out 0).trans rfl
       have hcz20_1 : wc.cell? ⟨gb598, 1, none⟩ = some (.string (⟨#[]⟩ : ByteArray)) := (blk_cell BK598.out 1).trans rfl
       have hfz20_0 := blk_frozen BK598.out 0
       have hfz20_1 := blk_frozen BK598.out 1
       go_wp2
       refine bodyPost_ret (results_cell_row rfl _ _ gb598 39 #[.int .i64 2, .string (⟨#[]⟩ : ByteArray)] (0, 0) _ rfl (by (with_reducible repeat (first | refine blk_drewN ?_ _ | refine blk_drew ?_ | refine blk_alloc ?_ _)); refine blk_put (cs := #[.int .i64 2, .string (⟨#[]⟩ : ByteArray)]) ?_ 1 _ rfl; (with_reducible repeat (first | refine blk_drewN ?_ _ | refine blk_drew ?_ | refine blk_alloc ?_ _)); refine blk_put (cs := #[.int .i64 0, .string (⟨#[]⟩ : ByteArray)]) ?_ 0 _ rfl; (with_reducible repeat (first | refine blk_drewN ?_ _ | refine blk_drew ?_ | refine blk_alloc ?_ _)); exact BK598.out) Tryz.underlying39 rfl (by kernel_rfl)) rfl ?_
       exact ⟨bE, bG GE598⟩
      rw [if_neg c19] at H
      have c19b0 : decide (400 < ((strOfNums t600).size : Int)) = false := decide_eq_false c19
      have c19b1 : decide (400 < (strOfNums t600).size) = false := decide_eq_false (by omega)
      clear c19
      by_cases c21 : (strOfNums t600).size ≤ 281474976710656
      ·rw [if_pos c21] at H
       have c21b0 := eq_true c21
       have c21b1 : decide ((strOfNums t600).size ≤ 281474976710656) = true := decide_eq_true c21
       clear c21
       obtain ⟨y606, hy606⟩ : ∃ y_ : List Int, y_ = (bytesOf (strOfNums t600)) := ⟨_, rfl⟩
       replace H : ((impl_baseText.f y606).bind fun t609 => (if 10 + t609.size ≤ 9223372036854775807 then (if ((⟨#[61, 63, 117, 116, 102, 45, 56, 63, 66, 63]⟩ : ByteArray) ++ t609).size + 2 ≤ 9223372036854775807 then (if ((((⟨#[61, 63, 117, 116, 102, 45, 56, 63, 66, 63]⟩ : ByteArray) ++ t609) ++ (⟨#[63, 61]⟩ : ByteArray)).size : Int) > 400 then (some (2, (⟨#[]⟩ : ByteArray))) else (some (0, ((⟨#[61, 63, 117, 116, 102, 45, 56, 63, 66, 63]⟩ : ByteArray) ++ t609) ++ (⟨#[63, 61]⟩ : ByteArray)))) else (none)) else (none))) = some (r1, r2) := z0 hy606
       have Ny606 := aM hy606
       clear hy606
       replace H := Option.bind_eq_some_iff.mp H
       obtain ⟨t609, A220, H⟩ := H
       replace H : (if 10 + t609.size ≤ 9223372036854775807 then (if ((⟨#[61, 63, 117, 116, 102, 45, 56, 63, 66, 63]⟩ : ByteArray) ++ t609).size + 2 ≤ 9223372036854775807 then (if ((((⟨#[61, 63, 117, 116, 102, 45, 56, 63, 66, 63]⟩ : ByteArray) ++ t609) ++ (⟨#[63, 61]⟩ : ByteArray)).size : Int) > 400 then (some (2, (⟨#[]⟩ : ByteArray))) else (some (0, ((⟨#[61, 63, 117, 116, 102, 45, 56, 63, 66, 63]⟩ : ByteArray) ++ t609) ++ (⟨#[63, 61]⟩ : ByteArray)))) else (none)) else (none)) = some (r1, r2) := H
       have A22 := aM A220
       clear A220
       by_cases c23 : 10 + t609.size ≤ 9223372036854775807
       ·rw [if_pos c23] at H
        have c23b0 := eq_true c23
        have c23b1 : decide (10 + t609.size ≤ 9223372036854775807) = true := decide_eq_true c23
        try have c23b2 : (9223372036854775807 < 10 + t609.size) = False := eq_false (Nat.not_lt.2 c23)
        by_cases c24 : ((⟨#[61, 63, 117, 116, 102, 45, 56, 63, 66, 63]⟩ : ByteArray) ++ t609).size + 2 ≤ 9223372036854775807
        ·rw [if_pos c24] at H
         have c24b0 := eq_true c24
         have c24b1 : decide (((⟨#[61, 63, 117, 116, 102, 45, 56, 63, 66, 63]⟩ : ByteArray) ++ t609).size + 2 ≤ 9223372036854775807) = true := decide_eq_true c24
         try have c24b2 : (9223372036854775807 < ((⟨#[61, 63, 117, 116, 102, 45, 56, 63, 66, 63]⟩ : ByteArray) ++ t609).size + 2) = False := eq_false (Nat.not_lt.2 c24)
         (try (have c24b3 : (9223372036854775807 < 10 + t609.size + 2) = False := by have h_ := c24b2; simp only [ByteArray.size_append] at h_; exact h_))
         by_cases c25 : ((((⟨#[61, 63, 117, 116, 102, 45, 56, 63, 66, 63]⟩ : ByteArray) ++ t609) ++ (⟨#[63, 61]⟩ : ByteArray)).size : Int) > 400
         ·rw [if_pos c25] at H
          have c25b0 : decide (400 < ((((⟨#[61, 63, 117, 116, 102, 45, 56, 63, 66, 63]⟩ : ByteArray) ++ t609) ++ (⟨#[63, 61]⟩ : ByteArray)).size : Int)) = true := decide_eq_true c25
          have c25b1 : decide (400 < (((⟨#[61, 63, 117, 116, 102, 45, 56, 63, 66, 63]⟩ : ByteArray) ++ t609) ++ (⟨#[63, 61]⟩ : ByteArray)).size) = true := decide_eq_true (by omega)
          (try (have c25h : 400 < 10 + t609.size + 2 := by have h_ := of_decide_eq_true c25b1; simp only [ByteArray.size_append] at h_; exact h_))
          (try (have c25e1 : decide ((400 : Int) < (10 + (t609.size : Int) + 2 : Int)) = true := decide_eq_true (by omega)))
          (try (have c25e2 : ((400 : Int) < (10 + (t609.size : Int) + 2 : Int)) = True := eq_true (by omega)))
          (try (have c25e3 : (400 < 10 + t609.size + 2) = True := eq_true c25h))
          clear c25
          simp only [Option.some.injEq, Prod.mk.injEq] at H
          obtain ⟨rfl, rfl⟩ := H
          go_wp2_with (first | ((with_reducible refine gate_dst (N := 44) rfl ?_); refine Kd.R_conv _ 5 rfl (N := 44) rfl 9 22 _ rfl (strOfNums t600) rfl Tryz.underlying9 Tryz.underlying22 Tryz.underlying5 (ok := fun _ => True) trivial (pI) (Below.refl _ _) (Nat.le_refl _) ?_; intro v607 w26 ho27 hb hg_ hnew_; clear hg_ hnew_; (first | rw [← Ny606.out] at ho27 | (simp only [Int.reduceToNat] at ho27; rw [← Ny606.out] at ho27)); have HO608 := aM (Kd.R_lower ho27 (below_size (bG GE598))); replace BK598 := aM (blk_below (g := gb598) (o := .cells #[.int .i64 0, .string (⟨#[]⟩ : ByteArray)] 39 (0, 0)) (bL BK598) hb); replace HB := aM (below_step (bG GE598) hb); clear hb ho27; obtain ⟨Ao28, co28, eo28⟩ := Kd.R_slice HO608.out; subst eo28) | ((with_reducible refine gate_callee (f := 42) rfl ?_); refine gL_ (some 45) Tryz.func42 #[.slice Ao28 y606.length co28] ?_; (with_reducible refine (impl_baseText.calls _ _ y606 t609 _ ?side1 ?side2 A22.out).mono ?_); (case side1 => exact z4 HO608.out); (case side2 => exact (Kd.R_reads' HO608.out).2.1); rintro e w29 ⟨rfl, hb⟩; refine ⟨_, rfl, ?_⟩; replace HO608 := aM (Kd.R_below (bR HO608) hb); replace BK598 := aM (blk_below (g := gb598) (o := .cells #[.int .i64 0, .string (⟨#[]⟩ : ByteArray)] 39 (0, 0)) (bL BK598) hb); replace HB := aM (below_step (bG GE598) hb); have hcz30_0 : w29.cell? ⟨gb598, 0, none⟩ = some (.int .i64 0) := (blk_cell BK598.out 0).trans rfl; have hcz30_1 : w29.cell? ⟨gb598, 1, none⟩ = some (.string (⟨#[]⟩ : ByteArray)) := (blk_cell BK598.out 1).trans rfl; have hfz30_0 := blk_frozen BK598.out 0; have hfz30_1 := blk_frozen BK598.out 1))
          refine bodyPost_ret (results_cell_row rfl _ _ gb598 39 #[.int .i64 2, .string (⟨#[]⟩ : ByteArray)] (0, 0) _ rfl (by (with_reducible repeat (first | refine blk_drewN ?_ _ | refine blk_drew ?_ | refine blk_alloc ?_ _)); refine blk_put (cs := #[.int .i64 2, .string (⟨#[]⟩ : ByteArray)]) ?_ 1 _ rfl; (with_reducible repeat (first | refine blk_drewN ?_ _ | refine blk_drew ?_ | refine blk_alloc ?_ _)); refine blk_put (cs := #[.int .i64 0, .string (⟨#[]⟩ : ByteArray)]) ?_ 0 _ rfl; (with_reducible repeat (first | refine blk_drewN ?_ _ | refine blk_drew ?_ | refine blk_alloc ?_ _)); exact BK598.out) Tryz.underlying39 rfl (by kernel_rfl)) rfl ?_
          exact ⟨bE, bG GE598⟩
         rw [if_neg c25] at H
         have c25b0 : decide (400 < ((((⟨#[61, 63, 117, 116, 102, 45, 56, 63, 66, 63]⟩ : ByteArray) ++ t609) ++ (⟨#[63, 61]⟩ : ByteArray)).size : Int)) = false := decide_eq_false c25
         have c25b1 : decide (400 < (((⟨#[61, 63, 117, 116, 102, 45, 56, 63, 66, 63]⟩ : ByteArray) ++ t609) ++ (⟨#[63, 61]⟩ : ByteArray)).size) = false := decide_eq_false (by omega)
         (try (have c25h : ¬ (400 < 10 + t609.size + 2) := by have h_ := of_decide_eq_false c25b1; simp only [ByteArray.size_append] at h_; exact h_))
         (try (have c25e1 : decide ((400 : Int) < (10 + (t609.size : Int) + 2 : Int)) = false := decide_eq_false (by omega)))
         (try (have c25e2 : ((400 : Int) < (10 + (t609.size : Int) + 2 : Int)) = False := eq_false (by omega)))
         (try (have c25e3 : (400 < 10 + t609.size + 2) = False := eq_false c25h))
         clear c25
         simp only [Option.some.injEq, Prod.mk.injEq] at H
         obtain ⟨rfl, rfl⟩ := H
         go_wp2_with (first | ((with_reducible refine gate_dst (N := 44) rfl ?_); refine Kd.R_conv _ 5 rfl (N := 44) rfl 9 22 _ rfl (strOfNums t600) rfl Tryz.underlying9 Tryz.underlying22 Tryz.underlying5 (ok := fun _ => True) trivial (pI) (Below.refl _ _) (Nat.le_refl _) ?_; intro v607 w31 ho32 hb hg_ hnew_; clear hg_ hnew_; (first | rw [← Ny606.out] at ho32 | (simp only [Int.reduceToNat] at ho32; rw [← Ny606.out] at ho32)); have HO608 := aM (Kd.R_lower ho32 (below_size (bG GE598))); replace BK598 := aM (blk_below (g := gb598) (o := .cells #[.int .i64 0, .string (⟨#[]⟩ : ByteArray)] 39 (0, 0)) (bL BK598) hb); replace HB := aM (below_step (bG GE598) hb); clear hb ho32; obtain ⟨Ao33, co33, eo33⟩ := Kd.R_slice HO608.out; subst eo33) | ((with_reducible refine gate_callee (f := 42) rfl ?_); refine gL_ (some 45) Tryz.func42 #[.slice Ao33 y606.length co33] ?_; (with_reducible refine (impl_baseText.calls _ _ y606 t609 _ ?side1 ?side2 A22.out).mono ?_); (case side1 => exact z4 HO608.out); (case side2 => exact (Kd.R_reads' HO608.out).2.1); rintro e w34 ⟨rfl, hb⟩; refine ⟨_, rfl, ?_⟩; replace HO608 := aM (Kd.R_below (bR HO608) hb); replace BK598 := aM (blk_below (g := gb598) (o := .cells #[.int .i64 0, .string (⟨#[]⟩ : ByteArray)] 39 (0, 0)) (bL BK598) hb); replace HB := aM (below_step (bG GE598) hb); have hcz35_0 : w34.cell? ⟨gb598, 0, none⟩ = some (.int .i64 0) := (blk_cell BK598.out 0).trans rfl; have hcz35_1 : w34.cell? ⟨gb598, 1, none⟩ = some (.string (⟨#[]⟩ : ByteArray)) := (blk_cell BK598.out 1).trans rfl; have hfz35_0 := blk_frozen BK598.out 0; have hfz35_1 := blk_frozen BK598.out 1))
         refine bodyPost_ret (results_cell_row rfl _ _ gb598 39 #[.int .i64 0, .string (((⟨#[61, 63, 117, 116, 102, 45, 56, 63, 66, 63]⟩ : ByteArray) ++ t609) ++ (⟨#[63, 61]⟩ : ByteArray))] (0, 0) _ rfl (by (with_reducible repeat (first | refine blk_drewN ?_ _ | refine blk_drew ?_ | refine blk_alloc ?_ _)); refine blk_put (cs := #[.int .i64 0, .string (⟨#[]⟩ : ByteArray)]) ?_ 1 _ rfl; (with_reducible repeat (first | refine blk_drewN ?_ _ | refine blk_drew ?_ | refine blk_alloc ?_ _)); refine blk_put (cs := #[.int .i64 0, .string (⟨#[]⟩ : ByteArray)]) ?_ 0 _ rfl; (with_reducible repeat (first | refine blk_drewN ?_ _ | refine blk_drew ?_ | refine blk_alloc ?_ _)); exact BK598.out) Tryz.underlying39 rfl (by kernel_rfl)) rfl ?_
         exact ⟨bE, bG GE598⟩
        rw [if_neg c24] at H
        exact absurd H (by simp)
       rw [if_neg c23] at H
       exact absurd H (by simp)
      rw [if_neg c21] at H
      exact absurd H (by simp)
 rw [if_neg c3] at H
 have c3b0 : (t599 == 0) = false := beq_eq_false_iff_ne.mpr c3
 have c3b1 : (t599 != 0) = true := bne_iff_ne.mpr c3
 simp only [Option.some.injEq, Prod.mk.injEq] at H
 obtain ⟨rfl, rfl⟩ := H
 (try simp only [c3b0, c3b1])
 go_wp2_with (first | ((with_reducible refine gate_dst (N := 2) rfl ?_); refine box_event ?hg (N := 2) ?hd (cs := #[.int .i64 0, .string (⟨#[]⟩ : ByteArray)]) (t := 39) ?hr ?_; (case hd => rfl); (case hg => rfl); (case hr => exact z10); intro gb598 hg w36 hbox hb; have BK598 := aM (hbox); have GW598 := aM ((z21 : w.heap.size ≤ gb598)); have GE598 := aM ((z21 : w.heap.size ≤ gb598)); replace HB := aM (below_step bB hb); clear hb hbox hg) | ((with_reducible refine gate_callee (f := 18) rfl ?_); refine gL_ (some 9) Tryz.func18 #[.slice A0 l0.length c0] ?_; (with_reducible refine (impl_CodesFault.calls _ _ l0 t599 _ ?side1 ?side2 A2.out).mono ?_); (case side1 => exact z12 HR0.out); (case side2 => exact HC0.out); rintro e w' ⟨rfl, ⟨nd, rfl⟩⟩; refine ⟨_, rfl, ?_⟩; (try (rw [drewN_self w36]; generalize hq_ : World.drewN w36 _ = w36; have n0_ : Aside0 (w36.heap[gb598]? = some (.cells #[.int .i64 0, .string (⟨#[]⟩ : ByteArray)] 39 (0, 0))) := ⟨by rw [← hq_]; exact (bL BK598)⟩; have n1_ : Aside0 (Below w.heap.size w w36) := ⟨by rw [← hq_]; exact (bG GE598)⟩; clear BK598 HB hq_; have BK598 := n0_; have HB := n1_; clear n0_ n1_)); have hcz37_0 : w36.cell? ⟨gb598, 0, none⟩ = some (.int .i64 0) := (blk_cell BK598.out 0).trans rfl; have hcz37_1 : w36.cell? ⟨gb598, 1, none⟩ = some (.string (⟨#[]⟩ : ByteArray)) := (blk_cell BK598.out 1).trans rfl; have hfz37_0 := blk_frozen BK598.out 0; have hfz37_1 := blk_frozen BK598.out 1))
 refine bodyPost_ret (results_cell_row rfl _ _ gb598 39 #[.int .i64 t599, .string (⟨#[]⟩ : ByteArray)] (0, 0) _ rfl (by (with_reducible repeat (first | refine blk_drewN ?_ _ | refine blk_drew ?_ | refine blk_alloc ?_ _)); refine blk_put (cs := #[.int .i64 t599, .string (⟨#[]⟩ : ByteArray)]) ?_ 1 _ rfl; (with_reducible repeat (first | refine blk_drewN ?_ _ | refine blk_drew ?_ | refine blk_alloc ?_ _)); refine blk_put (cs := #[.int .i64 0, .string (⟨#[]⟩ : ByteArray)]) ?_ 0 _ rfl; (with_reducible repeat (first | refine blk_drewN ?_ _ | refine blk_drew ?_ | refine blk_alloc ?_ _)); exact BK598.out) Tryz.underlying39 rfl (by kernel_rfl)) rfl ?_
 exact ⟨bE, bG GE598⟩
def spec_l2Fault.l0 : Nat → List Int → Int → Option (Int)
 | 0, _, _ => none
 | k + 1, x0, x3 => if x3 < (x0.length : Int) then (if 0 ≤ x3 then ((spec_l2Char.f (rd x0 x3)).bind fun t611 => (if t611 = true then (spec_l2Fault.l0 k x0 (wrap64 (x3 + 1))) else (some 3))) else (none)) else (some 0)
def spec_l2Fault.f (k : Nat) (l0 : List Int) : Option (Int) := if (l0.length : Int) > 400 then (some 2) else (spec_l2Fault.l0 k l0 0)
set_option maxHeartbeats 8000000 in
set_option maxRecDepth 100000 in
theorem spec_l2Fault.calls (k : Nat) (A0 : Option Addr) (c0 : Nat) (l0 : List Int) (r : Int) (w : World) (hr0 : Kd.C (Kd.int .i64) w A0 l0.length l0) (hc0 : l0.length ≤ c0) (h : spec_l2Fault.f k l0 = some r) :
  Calls Tryz.prog 43 #[.slice A0 l0.length c0] w fun e w' => e = .returned (.int .i64 r) ∧ Drawn0 w w' := by
 have HR0 := aM hr0
 have HC0 := aM hc0
 clear hr0 hc0
 have H : (if (l0.length : Int) > 400 then (some 2) else (spec_l2Fault.l0 k l0 0)) = some r := h
 clear h
 by_cases c2 : (l0.length : Int) > 400
 ·rw [if_pos c2] at H
  have c2b0 : decide (400 < (l0.length : Int)) = true := decide_eq_true c2
  have c2b1 : decide (400 < l0.length) = true := decide_eq_true (by omega)
  clear c2
  obtain rfl := Option.some.inj H
  go_enter Tryz.func43, Tryz.ntmps43
  go_wp2
  go_ret
  exact ⟨bS, z5⟩
 rw [if_neg c2] at H
 have c2b0 : decide (400 < (l0.length : Int)) = false := decide_eq_false c2
 have c2b1 : decide (400 < l0.length) = false := decide_eq_false (by omega)
 clear c2
 have H' := aM H
 clear H
 go_enter Tryz.func43, Tryz.ntmps43
 go_wp2
 go_loopg [3] k (fun kq v3 w' => ∃ (x3_1 : Int), v3 = .int .i64 x3_1 ∧ Aside0 (spec_l2Fault.l0 kq l0 x3_1 = some r) ∧ Aside0 (kq ≤ k) ∧ Drawn0 w w')
 case atStart => exact ⟨(0), bS, H', ⟨Nat.le_refl _⟩, z5⟩
 case round =>
  clear H'
  try clear c2
  try clear c2b0
  try clear c2b1
  try clear p2
  obtain ⟨x3_1, rfl, HA, HK1, ⟨m1, rfl⟩⟩ := hrel
  cases gk with
  | zero => exact absurd HA.out (by simp [spec_l2Fault.l0])
  | succ k1 =>
   have H := HA.out
   clear HA
   simp only [spec_l2Fault.l0] at H
   by_cases c3 : x3_1 < (l0.length : Int)
   ·rw [if_pos c3] at H
    have c3b0 : decide (x3_1 < (l0.length : Int)) = true := decide_eq_true c3
    clear c3
    by_cases c4 : 0 ≤ x3_1
    ·rw [if_pos c4] at H
     have c4b0 : decide (0 ≤ x3_1) = true := decide_eq_true c4
     clear c4
     replace H := Option.bind_eq_some_iff.mp H
     obtain ⟨t611, A50, H⟩ := H
     replace H : (if t611 = true then (spec_l2Fault.l0 k1 l0 (wrap64 (x3_1 + 1))) else (some 3)) = some r := H
     have A5 := aM A50
     clear A50
     by_cases c6 : t611 = true
     ·subst c6
      have H1 : (spec_l2Fault.l0 k1 l0 (wrap64 (x3_1 + 1))) = some r := z16
      clear H
      have H := H1
      clear H1
      have H' := aM H
      clear H
      have p610 : 0 ≤ (x3_1 : Int) := pI
      have q610 : x3_1 < (l0.length : Int) := pI
      obtain ⟨ad610, e610, hx610_0⟩ := Kd.at_int HR0.out x3_1 p610 q610
      cases e610
      replace p610 := eq_true p610
      replace q610 := eq_true q610
      go_wp2_with (first | ((with_reducible refine gate_callee (f := 62) rfl ?_); refine gL_ (some 17) Tryz.func62 #[.int .i64 (rd l0 x3_1)] ?_; (with_reducible refine (spec_l2Char.calls (rd l0 x3_1) true _ A5.out).mono ?_); rintro e w' ⟨rfl, ⟨nd, rfl⟩⟩; refine ⟨_, rfl, ?_⟩))
      go_roundg k1
      case measure => have := HK1.out; omega
      case rel => exact ⟨(wrap64 (x3_1 + 1)), bS, H', ⟨by have := HK1.out; omega⟩, z5⟩
     replace c6 := Bool.eq_false_iff.mpr c6
     subst c6
     have H1 : (some 3) = some r := z7
     clear H
     have H := H1
     clear H1
     obtain rfl := Option.some.inj H
     have p610 : 0 ≤ (x3_1 : Int) := pI
     have q610 : x3_1 < (l0.length : Int) := pI
     obtain ⟨ad610, e610, hx610_0⟩ := Kd.at_int HR0.out x3_1 p610 q610
     cases e610
     replace p610 := eq_true p610
     replace q610 := eq_true q610
     go_wp2_with (first | ((with_reducible refine gate_callee (f := 62) rfl ?_); refine gL_ (some 17) Tryz.func62 #[.int .i64 (rd l0 x3_1)] ?_; (with_reducible refine (spec_l2Char.calls (rd l0 x3_1) false _ A5.out).mono ?_); rintro e w' ⟨rfl, ⟨nd, rfl⟩⟩; refine ⟨_, rfl, ?_⟩))
     go_ret
     exact ⟨bS, z5⟩
    rw [if_neg c4] at H
    exact absurd H (by simp)
   rw [if_neg c3] at H
   have c3b0 : decide (x3_1 < (l0.length : Int)) = false := decide_eq_false c3
   clear c3
   obtain rfl := Option.some.inj H
   go_wp2
   go_ret
   exact ⟨bS, z5⟩
def spec_EncodeWords.f (k : Nat) (l0 : List Int) : Option (Int × ByteArray) := (spec_l2Fault.f k l0).bind fun t613 => (if t613 = 0 then ((spec_l4Encode.f k l0).bind fun bt614 => (some (bt614.2, bt614.1))) else (some (t613, (⟨#[]⟩ : ByteArray))))
set_option maxHeartbeats 8000000 in
set_option maxRecDepth 100000 in
theorem spec_EncodeWords.calls (k : Nat) (A0 : Option Addr) (c0 : Nat) (l0 : List Int) (r1 : Int) (r2 : ByteArray) (w : World) (hr0 : Kd.C (Kd.int .i64) w A0 l0.length l0) (hc0 : l0.length ≤ c0) (h : spec_EncodeWords.f k l0 = some (r1, r2)) :
  Calls Tryz.prog 21 #[.slice A0 l0.length c0] w fun e w' => e = .returned (.agg #[.int .i64 r1, .string r2]) ∧ Below w.heap.size w w' := by
 have hu39 := Tryz.underlying39
 have HR0 := aM hr0
 have HC0 := aM hc0
 clear hr0 hc0
 have HB := aM (Below.refl w.heap.size w)
 have H : ((spec_l2Fault.f k l0).bind fun t613 => (if t613 = 0 then ((spec_l4Encode.f k l0).bind fun bt614 => (some (bt614.2, bt614.1))) else (some (t613, (⟨#[]⟩ : ByteArray))))) = some (r1, r2) := h
 clear h
 replace H := Option.bind_eq_some_iff.mp H
 obtain ⟨t613, A20, H⟩ := H
 replace H : (if t613 = 0 then ((spec_l4Encode.f k l0).bind fun bt614 => (some (bt614.2, bt614.1))) else (some (t613, (⟨#[]⟩ : ByteArray)))) = some (r1, r2) := H
 have A2 := aM A20
 clear A20
 by_cases c3 : t613 = 0
 ·rw [if_pos c3] at H
  have c3b0 : (t613 == 0) = true := beq_iff_eq.mpr c3
  have c3b1 : (t613 != 0) = false := bne_eq_false_iff_eq.mpr c3
  clear c3
  replace H := Option.bind_eq_some_iff.mp H
  obtain ⟨⟨t614, t615⟩, A40, H⟩ := H
  replace H : (some (t615, t614)) = some (r1, r2) := H
  have A4 := aM A40
  clear A40
  simp only [Option.some.injEq, Prod.mk.injEq] at H
  obtain ⟨rfl, rfl⟩ := H
  go_enter Tryz.func21, Tryz.ntmps21
  go_wp2_with (first | ((with_reducible refine gate_dst (N := 2) rfl ?_); refine box_event ?hg (N := 2) ?hd (cs := #[.int .i64 0, .string (⟨#[]⟩ : ByteArray)]) (t := 39) ?hr ?_; (case hd => rfl); (case hg => rfl); (case hr => exact z10); intro gb612 hg w5 hbox hb; have BK612 := aM (hbox); have GW612 := aM ((z21 : w.heap.size ≤ gb612)); have GE612 := aM ((z21 : w.heap.size ≤ gb612)); replace HB := aM (below_step bB hb); clear hb hbox hg) | ((with_reducible refine gate_callee (f := 43) rfl ?_); refine gL_ (some 7) Tryz.func43 #[.slice A0 l0.length c0] ?_; (with_reducible refine (spec_l2Fault.calls k _ _ l0 t613 _ ?side1 ?side2 A2.out).mono ?_); (case side1 => exact z12 HR0.out); (case side2 => exact HC0.out); rintro e w' ⟨rfl, ⟨nd, rfl⟩⟩; refine ⟨_, rfl, ?_⟩; (try (rw [drewN_self w5]; generalize hq_ : World.drewN w5 _ = w5; have n0_ : Aside0 (w5.heap[gb612]? = some (.cells #[.int .i64 0, .string (⟨#[]⟩ : ByteArray)] 39 (0, 0))) := ⟨by rw [← hq_]; exact (bL BK612)⟩; have n1_ : Aside0 (Below w.heap.size w w5) := ⟨by rw [← hq_]; exact (bG GE612)⟩; clear BK612 HB hq_; have BK612 := n0_; have HB := n1_; clear n0_ n1_))) | ((with_reducible refine gate_callee (f := 44) rfl ?_); refine gL_ (some 14) Tryz.func44 #[.slice A0 l0.length c0] ?_; (with_reducible refine (spec_l4Encode.calls k _ _ l0 t614 t615 _ ?side1 ?side2 A4.out).mono ?_); (case side1 => exact z12 HR0.out); (case side2 => exact HC0.out); rintro e w6 ⟨rfl, hb⟩; refine ⟨_, rfl, ?_⟩; replace BK612 := aM (blk_below (g := gb612) (o := .cells #[.int .i64 0, .string (⟨#[]⟩ : ByteArray)] 39 (0, 0)) (bL BK612) hb); replace HB := aM (below_step (bG GE612) hb); have hcz7_0 : w6.cell? ⟨gb612, 0, none⟩ = some (.int .i64 0) := (blk_cell BK612.out 0).trans rfl; have hcz7_1 : w6.cell? ⟨gb612, 1, none⟩ = some (.string (⟨#[]⟩ : ByteArray)) := (blk_cell BK612.out 1).trans rfl; have hfz7_0 := blk_frozen BK612.out 0; have hfz7_1 := blk_frozen BK612.out 1))
  refine bodyPost_ret (results_cell_row rfl _ _ gb612 39 #[.int .i64 t615, .string t614] (0, 0) _ rfl (by (with_reducible repeat (first | refine blk_drewN ?_ _ | refine blk_drew ?_ | refine blk_alloc ?_ _)); refine blk_put (cs := #[.int .i64 t615, .string (⟨#[]⟩ : ByteArray)]) ?_ 1 _ rfl; (with_reducible repeat (first | refine blk_drewN ?_ _ | refine blk_drew ?_ | refine blk_alloc ?_ _)); refine blk_put (cs := #[.int .i64 0, .string (⟨#[]⟩ : ByteArray)]) ?_ 0 _ rfl; (with_reducible repeat (first | refine blk_drewN ?_ _ | refine blk_drew ?_ | refine blk_alloc ?_ _)); exact BK612.out) Tryz.underlying39 rfl (by kernel_rfl)) rfl ?_
  exact ⟨bE, bG GE612⟩
 rw [if_neg c3] at H
 have c3b0 : (t613 == 0) = false := beq_eq_false_iff_ne.mpr c3
 have c3b1 : (t613 != 0) = true := bne_iff_ne.mpr c3
 simp only [Option.some.injEq, Prod.mk.injEq] at H
 obtain ⟨rfl, rfl⟩ := H
 go_enter Tryz.func21, Tryz.ntmps21
 go_wp2_with (first | ((with_reducible refine gate_dst (N := 2) rfl ?_); refine box_event ?hg (N := 2) ?hd (cs := #[.int .i64 0, .string (⟨#[]⟩ : ByteArray)]) (t := 39) ?hr ?_; (case hd => rfl); (case hg => rfl); (case hr => exact z10); intro gb612 hg w8 hbox hb; have BK612 := aM (hbox); have GW612 := aM ((z21 : w.heap.size ≤ gb612)); have GE612 := aM ((z21 : w.heap.size ≤ gb612)); replace HB := aM (below_step bB hb); clear hb hbox hg) | ((with_reducible refine gate_callee (f := 43) rfl ?_); refine gL_ (some 7) Tryz.func43 #[.slice A0 l0.length c0] ?_; (with_reducible refine (spec_l2Fault.calls k _ _ l0 t613 _ ?side1 ?side2 A2.out).mono ?_); (case side1 => exact z12 HR0.out); (case side2 => exact HC0.out); rintro e w' ⟨rfl, ⟨nd, rfl⟩⟩; refine ⟨_, rfl, ?_⟩; (try (rw [drewN_self w8]; generalize hq_ : World.drewN w8 _ = w8; have n0_ : Aside0 (w8.heap[gb612]? = some (.cells #[.int .i64 0, .string (⟨#[]⟩ : ByteArray)] 39 (0, 0))) := ⟨by rw [← hq_]; exact (bL BK612)⟩; have n1_ : Aside0 (Below w.heap.size w w8) := ⟨by rw [← hq_]; exact (bG GE612)⟩; clear BK612 HB hq_; have BK612 := n0_; have HB := n1_; clear n0_ n1_)); have hcz9_0 : w8.cell? ⟨gb612, 0, none⟩ = some (.int .i64 0) := (blk_cell BK612.out 0).trans rfl; have hcz9_1 : w8.cell? ⟨gb612, 1, none⟩ = some (.string (⟨#[]⟩ : ByteArray)) := (blk_cell BK612.out 1).trans rfl; have hfz9_0 := blk_frozen BK612.out 0; have hfz9_1 := blk_frozen BK612.out 1))
 refine bodyPost_ret (results_cell_row rfl _ _ gb612 39 #[.int .i64 t613, .string (⟨#[]⟩ : ByteArray)] (0, 0) _ rfl (by (with_reducible repeat (first | refine blk_drewN ?_ _ | refine blk_drew ?_ | refine blk_alloc ?_ _)); refine blk_put (cs := #[.int .i64 t613, .string (⟨#[]⟩ : ByteArray)]) ?_ 1 _ rfl; (with_reducible repeat (first | refine blk_drewN ?_ _ | refine blk_drew ?_ | refine blk_alloc ?_ _)); refine blk_put (cs := #[.int .i64 0, .string (⟨#[]⟩ : ByteArray)]) ?_ 0 _ rfl; (with_reducible repeat (first | refine blk_drewN ?_ _ | refine blk_drew ?_ | refine blk_alloc ?_ _)); exact BK612.out) Tryz.underlying39 rfl (by kernel_rfl)) rfl ?_
 exact ⟨bE, bG GE612⟩
def impl_IsPlain.p (c : Int) : Bool := decide (c < 1) || decide (127 < c)
def impl_IsPlain.f (l0 : List Int) : Option Bool := some (!(l0.any impl_IsPlain.p))
theorem impl_IsPlain.clo (x : Int) (w : World) : Calls Tryz.prog 46 #[.int .u8 x] w fun e w' => e = .returned (.bool (impl_IsPlain.p x)) ∧ w = w' := by
  unfold impl_IsPlain.p
  by_cases h : x < 1
  · have hb : decide (x < 1) = true := decide_eq_true h
    go_enter Tryz.func46, Tryz.ntmps46
    go_wp2
    go_ret
    exact ⟨by simp [hb], rfl⟩
  · have hb : decide (x < 1) = false := decide_eq_false h
    go_enter Tryz.func46, Tryz.ntmps46
    go_wp2
    go_ret
    exact ⟨by simp [hb], rfl⟩
def impl_IsPlain.ix : List Int → Int → Int
  | [], _ => -1
  | x :: xs, i => if impl_IsPlain.p x then i else impl_IsPlain.ix xs (i + 1)
theorem impl_IsPlain.ix_any : ∀ (l : List Int) (i : Int), 0 ≤ i → decide (0 ≤ impl_IsPlain.ix l i) = l.any impl_IsPlain.p
  | [], i, _ => by simp [impl_IsPlain.ix]
  | x :: xs, i, h => by
    cases hp : impl_IsPlain.p x with
    | true => simp [impl_IsPlain.ix, hp, h]
    | false => simp [impl_IsPlain.ix, hp, impl_IsPlain.ix_any xs (i + 1) (by omega)]
theorem impl_IsPlain.ix_lt : ∀ (l : List Int) (i : Int), 0 ≤ i → i + l.length ≤ 9223372036854775807 → -1 ≤ impl_IsPlain.ix l i ∧ impl_IsPlain.ix l i ≤ 9223372036854775807
  | [], i, h, h2 => by simp [impl_IsPlain.ix]
  | x :: xs, i, h, h2 => by
    simp only [List.length_cons] at h2
    have ih := impl_IsPlain.ix_lt xs (i + 1) (by omega) (by omega)
    simp only [impl_IsPlain.ix]
    split <;> omega
set_option maxHeartbeats 1000000 in
theorem impl_IsPlain.index (A0 : Option Addr) (c0 : Nat) (l0 : List Int) (w : World) (hr0 : Kd.C (Kd.int .u8) w A0 l0.length l0) :
    Calls Tryz.prog 66 #[.slice A0 l0.length c0, .func (.func 46) #[] #[]] w fun e w' => e = .returned (.int .i64 (impl_IsPlain.ix l0 0)) ∧ Drawn0 w w' := by
  have hbig : l0.length ≤ 9223372036854775807 := (Kd.reads_of_C (d := 0) hr0).2.1
  have HR0 := aM hr0
  clear hr0
  go_enter Tryz.func66, Tryz.ntmps66
  go_wp2
  go_loopg [5, 8] l0.length (fun gg _ s8 wr => ∃ kk : Nat, kk ≤ l0.length ∧ l0.length - kk ≤ gg ∧ s8 = .int .i64 kk ∧ Aside0 (Drawn0 w wr) ∧ Aside0 (impl_IsPlain.ix l0 0 = impl_IsPlain.ix (l0.drop kk) kk))
  case atStart => exact ⟨0, Nat.zero_le _, by omega, rfl, ⟨Drawn0.refl _⟩, ⟨by simp⟩⟩
  case round =>
    obtain ⟨kk, hkk, hg, rfl, HD, HX⟩ := hrel
    by_cases hlt : kk < l0.length
    · have hltz : (kk : Int) < (l0.length : Int) := by omega
      obtain ⟨ad, rfl, hcell⟩ := Kd.at_int HR0.out (kk : Int) (by omega) (by omega)
      have hcell1 : wr.cell? (ad.add kk) = some (.int .u8 (rd l0 (kk : Int))) := by
        obtain ⟨n, rfl⟩ := HD.out.out
        simpa using hcell
      clear hcell
      have HY : Aside0 (l0.drop kk = rd l0 (kk : Int) :: l0.drop (kk + 1)) := ⟨by
        rw [List.drop_eq_getElem_cons hlt]
        simp [rd, List.getD_eq_getElem?_getD, hlt]⟩
      generalize rd l0 (kk : Int) = y at hcell1 HY
      have hclo := impl_IsPlain.clo y
      cases hq : impl_IsPlain.p y with
      | true =>
        rw [hq] at hclo
        go_wp2_with (go_at_call 46; refine (hclo _).mono ?_; rintro e w' ⟨rfl, rfl⟩)
        go_ret
        refine ⟨?_, HD.out⟩
        rw [HX.out, HY.out]
        simp [impl_IsPlain.ix, hq]
      | false =>
        rw [hq] at hclo
        go_wp2_with (go_at_call 46; refine (hclo _).mono ?_; rintro e w' ⟨rfl, rfl⟩)
        go_roundg (l0.length - (kk + 1))
        case measure => omega
        case rel =>
          refine ⟨kk + 1, by omega, by omega, by go_num, HD, ⟨?_⟩⟩
          rw [HX.out, HY.out]
          simp [impl_IsPlain.ix, hq]
    · have hltz : ¬ (kk : Int) < (l0.length : Int) := by omega
      have HZ : Aside0 (l0.drop kk = []) := ⟨List.drop_eq_nil_of_le (by omega)⟩
      go_wp2
      go_ret
      refine ⟨?_, HD.out⟩
      rw [HX.out, HZ.out]
      rfl
set_option maxHeartbeats 1000000 in
theorem impl_IsPlain.contains (A0 : Option Addr) (c0 : Nat) (l0 : List Int) (w : World) (hr0 : Kd.C (Kd.int .u8) w A0 l0.length l0) :
    Calls Tryz.prog 45 #[.slice A0 l0.length c0, .func (.func 46) #[] #[]] w fun e w' => e = .returned (.bool (l0.any impl_IsPlain.p)) ∧ Drawn0 w w' := by
  have hbig : l0.length ≤ 9223372036854775807 := (Kd.reads_of_C (d := 0) hr0).2.1
  have hlt := impl_IsPlain.ix_lt l0 0 (by omega) (by omega)
  have hany := impl_IsPlain.ix_any l0 0 (by omega)
  have HI := aM (impl_IsPlain.index A0 c0 l0 w hr0)
  rw [← hany]
  clear hany
  generalize impl_IsPlain.ix l0 0 = y at HI hlt
  obtain ⟨h1, h2⟩ := hlt
  go_enter Tryz.func45, Tryz.ntmps45
  go_wp2_with (go_at_call 66; refine HI.out.mono ?_; rintro e w' ⟨rfl, ⟨n, rfl⟩⟩)
  go_ret
  exact ⟨rfl, ⟨⟨n, rfl⟩⟩⟩
set_option maxHeartbeats 1000000 in
theorem impl_IsPlain.calls (A0 : Option Addr) (c0 : Nat) (l0 : List Int) (r : Bool) (w : World) (hr0 : Kd.C (Kd.int .u8) w A0 l0.length l0) (hc0 : l0.length ≤ c0) (h : impl_IsPlain.f l0 = some r) :
    Calls Tryz.prog 22 #[.slice A0 l0.length c0] w fun e w' => e = .returned (.bool r) ∧ Drawn0 w w' := by
  obtain rfl := Option.some.inj h
  have HI := aM (impl_IsPlain.contains A0 c0 l0 w hr0)
  generalize l0.any impl_IsPlain.p = y at HI
  clear hr0 h
  go_enter Tryz.func22, Tryz.ntmps22
  go_wp2_with (go_at_call 45; refine HI.out.mono ?_; rintro e w' ⟨rfl, ⟨n, rfl⟩⟩)
  go_ret
  exact ⟨rfl, ⟨⟨n, rfl⟩⟩⟩
end Go.Proofs.YtjopgmjmjnfcjaaGreatDoor.PWords
