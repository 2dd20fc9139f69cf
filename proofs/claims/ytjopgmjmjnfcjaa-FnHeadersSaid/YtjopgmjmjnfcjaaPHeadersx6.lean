/- Part of the proof: what its walks use. -/
import Derived.Test.YtjopgmjmjnfcjaaPHeadersx0
import Derived.Test.YtjopgmjmjnfcjaaPHeadersx2
namespace Go.Proofs.Ytjopgmjmjnfcjaa.PHeaders
open Go.RowKit Go.Proofs.YtjopgmjmjnfcjaaW.PrintWords Go.Proofs.YtjopgmjmjnfcjaaW.PrintLast Go.Proofs.YtjopgmjmjnfcjaaW.PrintMore
set_option linter.unusedVariables false
set_option linter.unusedSimpArgs false
def spec_l2Cyrillic.j0 : Nat → Int → Bool → Option (Int)
 | 0, _, _ => none
 | k + 1, x0, x3 => if x3 = true then (some x0) else (if x0 = 167 then (some 253) else (if x0 = 8470 then (some 240) else ((spec_l1In.f x0 1025 1119).bind fun t285 => (if t285 = true then (if x0 = 1037 then (some (-1)) else (if x0 = 1104 then (some (-1)) else (if x0 = 1117 then (some (-1)) else (some (wrap64 (x0 - 864)))))) else (some (-1))))))
def spec_l2Cyrillic.f (k : Nat) (a0 : Int) : Option (Int) := (spec_l1In.f a0 0 160).bind fun t284 => (if t284 = true then (spec_l2Cyrillic.j0 k a0 true) else (spec_l2Cyrillic.j0 k a0 (a0 == 173)))
set_option maxHeartbeats 8000000 in
set_option maxRecDepth 100000 in
theorem spec_l2Cyrillic.calls (k : Nat) (a0 : Int) (r : Int) (w : World) (h : spec_l2Cyrillic.f k a0 = some r) :
  Calls Try.prog 99 #[.int .i64 a0] w fun e w' => e = .returned (.int .i64 r) ∧ Drawn0 w w' := by
 have H : ((spec_l1In.f a0 0 160).bind fun t284 => (if t284 = true then (spec_l2Cyrillic.j0 k a0 true) else (spec_l2Cyrillic.j0 k a0 (a0 == 173)))) = some r := h
 clear h
 have HC2 := Aside0.mk H
 clear H
 go_enter Try.func99, Try.ntmps99
 go_upto_region 1 with (fail)
 go_cut [3] (fun v3 wc => ∃ (kq : Nat) (x3_1 : Bool), v3 = .bool x3_1 ∧ Aside0 (spec_l2Cyrillic.j0 kq a0 x3_1 = some r) ∧ Aside0 (kq ≤ k) ∧ Drawn0 w wc)
 case first =>
  have H := HC2.out
  clear HC2
  replace H := Option.bind_eq_some_iff.mp H
  obtain ⟨t284, A30, H⟩ := H
  replace H : (if t284 = true then (spec_l2Cyrillic.j0 k a0 true) else (spec_l2Cyrillic.j0 k a0 (a0 == 173))) = some r := H
  have A3 := Aside0.mk A30
  clear A30
  by_cases c4 : t284 = true
  ·subst c4
   have H1 : (spec_l2Cyrillic.j0 k a0 true) = some r := z35
   clear H
   have H := H1
   clear H1
   have H' := Aside0.mk H
   clear H
   go_wp2_with (first | ((with_reducible refine gate_callee (f := 93) rfl ?_); refine goesL_ (some 5) rfl rfl Try.func93 (by kernel_rfl) rfl #[.int .i64 a0, .int .i64 0, .int .i64 160] rfl bM ?_; (with_reducible refine (spec_l1In.calls a0 0 160 true _ A3.out).mono ?_); rintro e w' ⟨rfl, ⟨nd, rfl⟩⟩; refine ⟨_, rfl, ?_⟩))
   go_meet
   case rel => exact ⟨_, (true), bS, H', ⟨z42⟩, z9⟩
  ·replace c4 := Bool.eq_false_iff.mpr c4
   subst c4
   have H1 : (spec_l2Cyrillic.j0 k a0 (a0 == 173)) = some r := z23
   clear H
   have H := H1
   clear H1
   have H' := Aside0.mk H
   clear H
   go_wp2_with (first | ((with_reducible refine gate_callee (f := 93) rfl ?_); refine goesL_ (some 5) rfl rfl Try.func93 (by kernel_rfl) rfl #[.int .i64 a0, .int .i64 0, .int .i64 160] rfl bM ?_; (with_reducible refine (spec_l1In.calls a0 0 160 false _ A3.out).mono ?_); rintro e w' ⟨rfl, ⟨nd, rfl⟩⟩; refine ⟨_, rfl, ?_⟩))
   go_meet
   case rel => exact ⟨_, ((a0 == 173)), bS, H', ⟨z42⟩, z9⟩
 case rest =>
  clear HC2
  try clear p2
  try clear c4
  obtain ⟨kq, x3_1, rfl, HA, HJ1, ⟨mc1, rfl⟩⟩ := hcut
  cases kq with
  | zero => exact absurd HA.out (by simp [spec_l2Cyrillic.j0])
  | succ kj1 =>
   have H := HA.out
   clear HA
   simp only [spec_l2Cyrillic.j0] at H
   by_cases c5 : x3_1 = true
   ·subst c5
    have H1 : (some a0) = some r := z35
    clear H
    have H := H1
    clear H1
    obtain rfl := Option.some.inj H
    go_wp2
    go_ret
    exact ⟨bS, z9⟩
   ·replace c5 := Bool.eq_false_iff.mpr c5
    subst c5
    have H1 : (if a0 = 167 then (some 253) else (if a0 = 8470 then (some 240) else ((spec_l1In.f a0 1025 1119).bind fun t285 => (if t285 = true then (if a0 = 1037 then (some (-1)) else (if a0 = 1104 then (some (-1)) else (if a0 = 1117 then (some (-1)) else (some (wrap64 (a0 - 864)))))) else (some (-1)))))) = some r := z23
    clear H
    have H := H1
    clear H1
    by_cases c6 : a0 = 167
    ·rw [if_pos c6] at H
     have c6b0 : (a0 == 167) = true := beq_iff_eq.mpr c6
     have c6b1 : (a0 != 167) = false := bne_eq_false_iff_eq.mpr c6
     clear c6
     obtain rfl := Option.some.inj H
     go_wp2
     go_ret
     exact ⟨bS, z9⟩
    ·rw [if_neg c6] at H
     have c6b0 : (a0 == 167) = false := beq_eq_false_iff_ne.mpr c6
     have c6b1 : (a0 != 167) = true := bne_iff_ne.mpr c6
     by_cases c7 : a0 = 8470
     ·rw [if_pos c7] at H
      have c7b0 : (a0 == 8470) = true := beq_iff_eq.mpr c7
      have c7b1 : (a0 != 8470) = false := bne_eq_false_iff_eq.mpr c7
      clear c7
      obtain rfl := Option.some.inj H
      go_wp2
      go_ret
      exact ⟨bS, z9⟩
     ·rw [if_neg c7] at H
      have c7b0 : (a0 == 8470) = false := beq_eq_false_iff_ne.mpr c7
      have c7b1 : (a0 != 8470) = true := bne_iff_ne.mpr c7
      replace H := Option.bind_eq_some_iff.mp H
      obtain ⟨t285, A80, H⟩ := H
      replace H : (if t285 = true then (if a0 = 1037 then (some (-1)) else (if a0 = 1104 then (some (-1)) else (if a0 = 1117 then (some (-1)) else (some (wrap64 (a0 - 864)))))) else (some (-1))) = some r := H
      have A8 := Aside0.mk A80
      clear A80
      by_cases c9 : t285 = true
      ·subst c9
       have H1 : (if a0 = 1037 then (some (-1)) else (if a0 = 1104 then (some (-1)) else (if a0 = 1117 then (some (-1)) else (some (wrap64 (a0 - 864)))))) = some r := z35
       clear H
       have H := H1
       clear H1
       by_cases c10 : a0 = 1037
       ·rw [if_pos c10] at H
        have c10b0 : (a0 == 1037) = true := beq_iff_eq.mpr c10
        have c10b1 : (a0 != 1037) = false := bne_eq_false_iff_eq.mpr c10
        clear c10
        obtain rfl := Option.some.inj H
        go_wp2_with (first | ((with_reducible refine gate_callee (f := 93) rfl ?_); refine goesL_ (some 19) rfl rfl Try.func93 (by kernel_rfl) rfl #[.int .i64 a0, .int .i64 1025, .int .i64 1119] rfl bM ?_; (with_reducible refine (spec_l1In.calls a0 1025 1119 true _ A8.out).mono ?_); rintro e w' ⟨rfl, ⟨nd, rfl⟩⟩; refine ⟨_, rfl, ?_⟩))
        go_ret
        exact ⟨bS, z9⟩
       ·rw [if_neg c10] at H
        have c10b0 : (a0 == 1037) = false := beq_eq_false_iff_ne.mpr c10
        have c10b1 : (a0 != 1037) = true := bne_iff_ne.mpr c10
        by_cases c11 : a0 = 1104
        ·rw [if_pos c11] at H
         have c11b0 : (a0 == 1104) = true := beq_iff_eq.mpr c11
         have c11b1 : (a0 != 1104) = false := bne_eq_false_iff_eq.mpr c11
         clear c11
         obtain rfl := Option.some.inj H
         go_wp2_with (first | ((with_reducible refine gate_callee (f := 93) rfl ?_); refine goesL_ (some 19) rfl rfl Try.func93 (by kernel_rfl) rfl #[.int .i64 a0, .int .i64 1025, .int .i64 1119] rfl bM ?_; (with_reducible refine (spec_l1In.calls a0 1025 1119 true _ A8.out).mono ?_); rintro e w' ⟨rfl, ⟨nd, rfl⟩⟩; refine ⟨_, rfl, ?_⟩))
         go_ret
         exact ⟨bS, z9⟩
        ·rw [if_neg c11] at H
         have c11b0 : (a0 == 1104) = false := beq_eq_false_iff_ne.mpr c11
         have c11b1 : (a0 != 1104) = true := bne_iff_ne.mpr c11
         by_cases c12 : a0 = 1117
         ·rw [if_pos c12] at H
          have c12b0 : (a0 == 1117) = true := beq_iff_eq.mpr c12
          have c12b1 : (a0 != 1117) = false := bne_eq_false_iff_eq.mpr c12
          clear c12
          obtain rfl := Option.some.inj H
          go_wp2_with (first | ((with_reducible refine gate_callee (f := 93) rfl ?_); refine goesL_ (some 19) rfl rfl Try.func93 (by kernel_rfl) rfl #[.int .i64 a0, .int .i64 1025, .int .i64 1119] rfl bM ?_; (with_reducible refine (spec_l1In.calls a0 1025 1119 true _ A8.out).mono ?_); rintro e w' ⟨rfl, ⟨nd, rfl⟩⟩; refine ⟨_, rfl, ?_⟩))
          go_ret
          exact ⟨bS, z9⟩
         ·rw [if_neg c12] at H
          have c12b0 : (a0 == 1117) = false := beq_eq_false_iff_ne.mpr c12
          have c12b1 : (a0 != 1117) = true := bne_iff_ne.mpr c12
          obtain rfl := Option.some.inj H
          go_wp2_with (first | ((with_reducible refine gate_callee (f := 93) rfl ?_); refine goesL_ (some 19) rfl rfl Try.func93 (by kernel_rfl) rfl #[.int .i64 a0, .int .i64 1025, .int .i64 1119] rfl bM ?_; (with_reducible refine (spec_l1In.calls a0 1025 1119 true _ A8.out).mono ?_); rintro e w' ⟨rfl, ⟨nd, rfl⟩⟩; refine ⟨_, rfl, ?_⟩))
          go_ret
          exact ⟨bS, z9⟩
      ·replace c9 := Bool.eq_false_iff.mpr c9
       subst c9
       have H1 : (some (-1)) = some r := z23
       clear H
       have H := H1
       clear H1
       obtain rfl := Option.some.inj H
       go_wp2_with (first | ((with_reducible refine gate_callee (f := 93) rfl ?_); refine goesL_ (some 19) rfl rfl Try.func93 (by kernel_rfl) rfl #[.int .i64 a0, .int .i64 1025, .int .i64 1119] rfl bM ?_; (with_reducible refine (spec_l1In.calls a0 1025 1119 false _ A8.out).mono ?_); rintro e w' ⟨rfl, ⟨nd, rfl⟩⟩; refine ⟨_, rfl, ?_⟩))
       go_ret
       exact ⟨bS, z9⟩
def spec_l2Has.f (k : Nat) (a0 : Int) (a1 : Int) : Option (Bool) := if a0 = 1 then ((spec_l1In.f a1 0 127).bind fun t286 => (some t286)) else (if a0 = 2 then ((spec_l1In.f a1 0 255).bind fun t287 => (some t287)) else (if a0 = 3 then ((spec_l2Cyrillic.f k a1).bind fun t288 => (some (decide (t288 ≥ 0)))) else (some true)))
set_option maxHeartbeats 8000000 in
set_option maxRecDepth 100000 in
theorem spec_l2Has.calls (k : Nat) (a0 : Int) (a1 : Int) (r : Bool) (w : World) (h : spec_l2Has.f k a0 a1 = some r) :
  Calls Try.prog 72 #[.int .i64 a0, .int .i64 a1] w fun e w' => e = .returned (.bool r) ∧ Drawn0 w w' := by
 have H : (if a0 = 1 then ((spec_l1In.f a1 0 127).bind fun t286 => (some t286)) else (if a0 = 2 then ((spec_l1In.f a1 0 255).bind fun t287 => (some t287)) else (if a0 = 3 then ((spec_l2Cyrillic.f k a1).bind fun t288 => (some (decide (t288 ≥ 0)))) else (some true)))) = some r := h
 clear h
 by_cases c3 : a0 = 1
 ·rw [if_pos c3] at H
  have c3b0 : (a0 == 1) = true := beq_iff_eq.mpr c3
  have c3b1 : (a0 != 1) = false := bne_eq_false_iff_eq.mpr c3
  clear c3
  replace H := Option.bind_eq_some_iff.mp H
  obtain ⟨t286, A40, H⟩ := H
  replace H : (some t286) = some r := H
  have A4 := Aside0.mk A40
  clear A40
  obtain rfl := Option.some.inj H
  go_enter Try.func72, Try.ntmps72
  go_wp2_with (first | ((with_reducible refine gate_callee (f := 93) rfl ?_); refine goesL_ (some 9) rfl rfl Try.func93 (by kernel_rfl) rfl #[.int .i64 a1, .int .i64 0, .int .i64 127] rfl bM ?_; (with_reducible refine (spec_l1In.calls a1 0 127 t286 _ A4.out).mono ?_); rintro e w' ⟨rfl, ⟨nd, rfl⟩⟩; refine ⟨_, rfl, ?_⟩))
  go_ret
  exact ⟨bS, z9⟩
 ·rw [if_neg c3] at H
  have c3b0 : (a0 == 1) = false := beq_eq_false_iff_ne.mpr c3
  have c3b1 : (a0 != 1) = true := bne_iff_ne.mpr c3
  by_cases c5 : a0 = 2
  ·rw [if_pos c5] at H
   have c5b0 : (a0 == 2) = true := beq_iff_eq.mpr c5
   have c5b1 : (a0 != 2) = false := bne_eq_false_iff_eq.mpr c5
   clear c5
   replace H := Option.bind_eq_some_iff.mp H
   obtain ⟨t287, A60, H⟩ := H
   replace H : (some t287) = some r := H
   have A6 := Aside0.mk A60
   clear A60
   obtain rfl := Option.some.inj H
   go_enter Try.func72, Try.ntmps72
   go_wp2_with (first | ((with_reducible refine gate_callee (f := 93) rfl ?_); refine goesL_ (some 13) rfl rfl Try.func93 (by kernel_rfl) rfl #[.int .i64 a1, .int .i64 0, .int .i64 255] rfl bM ?_; (with_reducible refine (spec_l1In.calls a1 0 255 t287 _ A6.out).mono ?_); rintro e w' ⟨rfl, ⟨nd, rfl⟩⟩; refine ⟨_, rfl, ?_⟩))
   go_ret
   exact ⟨bS, z9⟩
  ·rw [if_neg c5] at H
   have c5b0 : (a0 == 2) = false := beq_eq_false_iff_ne.mpr c5
   have c5b1 : (a0 != 2) = true := bne_iff_ne.mpr c5
   by_cases c7 : a0 = 3
   ·rw [if_pos c7] at H
    have c7b0 : (a0 == 3) = true := beq_iff_eq.mpr c7
    have c7b1 : (a0 != 3) = false := bne_eq_false_iff_eq.mpr c7
    clear c7
    replace H := Option.bind_eq_some_iff.mp H
    obtain ⟨t288, A80, H⟩ := H
    replace H : (some (decide (t288 ≥ 0))) = some r := H
    have A8 := Aside0.mk A80
    clear A80
    obtain rfl := Option.some.inj H
    go_enter Try.func72, Try.ntmps72
    go_wp2_with (first | ((with_reducible refine gate_callee (f := 99) rfl ?_); refine goesL_ (some 17) rfl rfl Try.func99 (by kernel_rfl) rfl #[.int .i64 a1] rfl bM ?_; (with_reducible refine (spec_l2Cyrillic.calls k a1 t288 _ A8.out).mono ?_); rintro e w' ⟨rfl, ⟨nd, rfl⟩⟩; refine ⟨_, rfl, ?_⟩))
    go_ret
    exact ⟨bS, z9⟩
   ·rw [if_neg c7] at H
    have c7b0 : (a0 == 3) = false := beq_eq_false_iff_ne.mpr c7
    have c7b1 : (a0 != 3) = true := bne_iff_ne.mpr c7
    obtain rfl := Option.some.inj H
    go_enter Try.func72, Try.ntmps72
    go_wp2
    go_ret
    exact ⟨bS, z9⟩
def spec_l2Bytes.j0 : Nat → Int → Int → Bool → Option (List Int)
 | 0, _, _, _ => none
 | k + 1, x1, x5, x6 => if x6 = true then (some (([(x1) % 256] : List Int))) else (if x5 = 3 then ((spec_l2Cyrillic.f k x1).bind fun t292 => (some (([(t292) % 256] : List Int)))) else (if x5 = 5 then (some (([(wrap64 (Int.tdiv x1 256)) % 256, (Int.tmod x1 256) % 256] : List Int))) else (if x1 < 128 then (some (([(x1) % 256] : List Int))) else (if x1 < 2048 then (some (([(wrap64 (192 + (wrap64 (Int.tdiv x1 64)))) % 256, (wrap64 (128 + (Int.tmod x1 64))) % 256] : List Int))) else (some (([(wrap64 (224 + (wrap64 (Int.tdiv x1 4096)))) % 256, (wrap64 (128 + (Int.tmod (wrap64 (Int.tdiv x1 64)) 64))) % 256, (wrap64 (128 + (Int.tmod x1 64))) % 256] : List Int)))))))
def spec_l2Bytes.f (k : Nat) (a0 : Int) (a1 : Int) : Option (List Int) := if a0 = 1 then (spec_l2Bytes.j0 k a1 a0 (a0 == 1)) else (spec_l2Bytes.j0 k a1 a0 (a0 == 2))
set_option maxHeartbeats 8000000 in
set_option maxRecDepth 100000 in
theorem spec_l2Bytes.calls (k : Nat) (a0 : Int) (a1 : Int) (r : List Int) (w : World) (h : spec_l2Bytes.f k a0 a1 = some r) :
  Calls Try.prog 94 #[.int .i64 a0, .int .i64 a1] w fun e w' => ∃ v0_ : Value, e = .returned (v0_) ∧ Kd.R (Kd.int .u8) 5 w' w.heap.size (fun _ => True) v0_ r ∧ Below w.heap.size w w' := by
 have HB := Aside0.mk (Below.refl w.heap.size w)
 have H : (if a0 = 1 then (spec_l2Bytes.j0 k a1 a0 (a0 == 1)) else (spec_l2Bytes.j0 k a1 a0 (a0 == 2))) = some r := h
 clear h
 have HC3 := Aside0.mk H
 clear H
 go_enter Try.func94, Try.ntmps94
 go_upto_if 6 with (fail)
 go_cut [6] (fun v6 wc => ∃ (kq : Nat) (x6_2 : Bool), v6 = .bool x6_2 ∧ Aside0 (spec_l2Bytes.j0 kq a1 a0 x6_2 = some r) ∧ Aside0 (kq ≤ k) ∧ Aside0 (Below w.heap.size w wc))
 case first =>
  have H := HC3.out
  clear HC3
  by_cases c4 : a0 = 1
  ·rw [if_pos c4] at H
   have c4b0 : (a0 == 1) = true := beq_iff_eq.mpr c4
   have c4b1 : (a0 != 1) = false := bne_eq_false_iff_eq.mpr c4
   clear c4
   (first | rw [c4b0] | (simp only [i64_w, i32_w]; rw [c4b0]) | skip)
   have H' := Aside0.mk H
   clear H
   go_wp2
   go_meet
   case rel => exact ⟨_, ((a0 == 1)), bS, H', ⟨z42⟩, ⟨bB⟩⟩
  ·rw [if_neg c4] at H
   have c4b0 : (a0 == 1) = false := beq_eq_false_iff_ne.mpr c4
   have c4b1 : (a0 != 1) = true := bne_iff_ne.mpr c4
   (first | rw [c4b0] | (simp only [i64_w, i32_w]; rw [c4b0]) | skip)
   have H' := Aside0.mk H
   clear H
   go_wp2
   go_meet
   case rel => exact ⟨_, ((a0 == 2)), bS, H', ⟨z42⟩, ⟨bB⟩⟩
 case rest =>
  clear HC3
  try clear p2
  try clear c4
  try clear c4b0
  try clear c4b1
  obtain ⟨kq, x6_2, rfl, HA, HJ2, HB⟩ := hcut
  cases kq with
  | zero => exact absurd HA.out (by simp [spec_l2Bytes.j0])
  | succ kj2 =>
   have H := HA.out
   clear HA
   simp only [spec_l2Bytes.j0] at H
   by_cases c5 : x6_2 = true
   ·subst c5
    have H1 : (some (([(a1) % 256] : List Int))) = some r := z35
    clear H
    have H := H1
    clear H1
    obtain ⟨y289, hy289⟩ : ∃ y_ : List Int, y_ = (([(a1) % 256] : List Int)) := ⟨_, rfl⟩
    replace H : (some y289) = some r := z3 hy289
    have Ny289 := Aside0.mk hy289
    clear hy289
    obtain rfl := Option.some.inj H
    go_wp2_with (first | ((with_reducible refine gate_dst (N := 11) rfl ?_); refine Kd.R_lit (Kd.int .u8) _ 5 ?hg (N := 11) ?hd (xs := ([(a1) % 256] : List Int)) (inner := [.int .u8 ((a1) % 256)]) (ok := fun _ => True) (okp := fun _ => True) ?hr ?hp (fun _ hk => hk) trivial (Below.refl _ _) (Nat.le_refl _) (by simp) ?_; (case hd => rfl); (case hg => rfl); (case hr => exact z14); (case hp => exact (Reps.one (show Kd.M (Kd.int .u8) _ _ _ ((a1) % 256) [.int .u8 ((a1) % 256)] from rfl) (Reps.none _ _))); intro v290 w6 ho7 hb hg_ hnew_; clear hg_ hnew_; (first | rw [← Ny289.out] at ho7 | (simp only [Int.reduceToNat] at ho7; rw [← Ny289.out] at ho7)); have HO291 := Aside0.mk (Kd.R_lower ho7 (below_size bB)); replace HB := Aside0.mk (below_step bB hb); clear hb ho7))
    go_ret
    exact ⟨_, bE, bR HO291, bB⟩
   ·replace c5 := Bool.eq_false_iff.mpr c5
    subst c5
    have H1 : (if a0 = 3 then ((spec_l2Cyrillic.f kj2 a1).bind fun t292 => (some (([(t292) % 256] : List Int)))) else (if a0 = 5 then (some (([(wrap64 (Int.tdiv a1 256)) % 256, (Int.tmod a1 256) % 256] : List Int))) else (if a1 < 128 then (some (([(a1) % 256] : List Int))) else (if a1 < 2048 then (some (([(wrap64 (192 + (wrap64 (Int.tdiv a1 64)))) % 256, (wrap64 (128 + (Int.tmod a1 64))) % 256] : List Int))) else (some (([(wrap64 (224 + (wrap64 (Int.tdiv a1 4096)))) % 256, (wrap64 (128 + (Int.tmod (wrap64 (Int.tdiv a1 64)) 64))) % 256, (wrap64 (128 + (Int.tmod a1 64))) % 256] : List Int))))))) = some r := z23
    clear H
    have H := H1
    clear H1
    by_cases c8 : a0 = 3
    ·rw [if_pos c8] at H
     have c8b0 : (a0 == 3) = true := beq_iff_eq.mpr c8
     have c8b1 : (a0 != 3) = false := bne_eq_false_iff_eq.mpr c8
     clear c8
     replace H := Option.bind_eq_some_iff.mp H
     obtain ⟨t292, A90, H⟩ := H
     replace H : (some (([(t292) % 256] : List Int))) = some r := H
     have A9 := Aside0.mk A90
     clear A90
     obtain ⟨y293, hy293⟩ : ∃ y_ : List Int, y_ = (([(t292) % 256] : List Int)) := ⟨_, rfl⟩
     replace H : (some y293) = some r := z3 hy293
     have Ny293 := Aside0.mk hy293
     clear hy293
     obtain rfl := Option.some.inj H
     go_wp2_with (first | ((with_reducible refine gate_callee (f := 99) rfl ?_); refine goesL_ (some 15) rfl rfl Try.func99 (by kernel_rfl) rfl #[.int .i64 a1] rfl bM ?_; (with_reducible refine (spec_l2Cyrillic.calls kj2 a1 t292 _ A9.out).mono ?_); rintro e w' ⟨rfl, ⟨nd, rfl⟩⟩; refine ⟨_, rfl, ?_⟩) | ((with_reducible refine gate_dst (N := 17) rfl ?_); refine Kd.R_lit (Kd.int .u8) _ 5 ?hg (N := 17) ?hd (xs := ([(t292) % 256] : List Int)) (inner := [.int .u8 ((t292) % 256)]) (ok := fun _ => True) (okp := fun _ => True) ?hr ?hp (fun _ hk => hk) trivial (Below.refl _ _) (Nat.le_refl _) (by simp) ?_; (case hd => rfl); (case hg => rfl); (case hr => exact z14); (case hp => exact (Reps.one (show Kd.M (Kd.int .u8) _ _ _ ((t292) % 256) [.int .u8 ((t292) % 256)] from rfl) (Reps.none _ _))); intro v294 w10 ho11 hb hg_ hnew_; clear hg_ hnew_; (first | rw [← Ny293.out] at ho11 | (simp only [Int.reduceToNat] at ho11; rw [← Ny293.out] at ho11)); have HO295 := Aside0.mk (Kd.R_lower ho11 (below_size bB)); replace HB := Aside0.mk (below_step bB hb); clear hb ho11))
     go_ret
     exact ⟨_, bE, bR HO295, bB⟩
    ·rw [if_neg c8] at H
     have c8b0 : (a0 == 3) = false := beq_eq_false_iff_ne.mpr c8
     have c8b1 : (a0 != 3) = true := bne_iff_ne.mpr c8
     by_cases c12 : a0 = 5
     ·rw [if_pos c12] at H
      have c12b0 : (a0 == 5) = true := beq_iff_eq.mpr c12
      have c12b1 : (a0 != 5) = false := bne_eq_false_iff_eq.mpr c12
      clear c12
      obtain ⟨y296, hy296⟩ : ∃ y_ : List Int, y_ = (([(wrap64 (Int.tdiv a1 256)) % 256, (Int.tmod a1 256) % 256] : List Int)) := ⟨_, rfl⟩
      replace H : (some y296) = some r := z3 hy296
      have Ny296 := Aside0.mk hy296
      clear hy296
      obtain rfl := Option.some.inj H
      go_wp2_with (first | ((with_reducible refine gate_dst (N := 26) rfl ?_); refine Kd.R_lit (Kd.int .u8) _ 5 ?hg (N := 26) ?hd (xs := ([(wrap64 (Int.tdiv a1 256)) % 256, (Int.tmod a1 256) % 256] : List Int)) (inner := [.int .u8 ((wrap64 (Int.tdiv a1 256)) % 256), .int .u8 ((Int.tmod a1 256) % 256)]) (ok := fun _ => True) (okp := fun _ => True) ?hr ?hp (fun _ hk => hk) trivial (Below.refl _ _) (Nat.le_refl _) (by simp) ?_; (case hd => rfl); (case hg => rfl); (case hr => exact z14); (case hp => exact (Reps.one (show Kd.M (Kd.int .u8) _ _ _ ((wrap64 (Int.tdiv a1 256)) % 256) [.int .u8 ((wrap64 (Int.tdiv a1 256)) % 256)] from rfl) (Reps.one (show Kd.M (Kd.int .u8) _ _ _ ((Int.tmod a1 256) % 256) [.int .u8 ((Int.tmod a1 256) % 256)] from rfl) (Reps.none _ _)))); intro v297 w13 ho14 hb hg_ hnew_; clear hg_ hnew_; (first | rw [← Ny296.out] at ho14 | (simp only [Int.reduceToNat] at ho14; rw [← Ny296.out] at ho14)); have HO298 := Aside0.mk (Kd.R_lower ho14 (below_size bB)); replace HB := Aside0.mk (below_step bB hb); clear hb ho14))
      go_ret
      exact ⟨_, bE, bR HO298, bB⟩
     ·rw [if_neg c12] at H
      have c12b0 : (a0 == 5) = false := beq_eq_false_iff_ne.mpr c12
      have c12b1 : (a0 != 5) = true := bne_iff_ne.mpr c12
      by_cases c15 : a1 < 128
      ·rw [if_pos c15] at H
       have c15b0 : decide (a1 < 128) = true := decide_eq_true c15
       clear c15
       obtain ⟨y299, hy299⟩ : ∃ y_ : List Int, y_ = (([(a1) % 256] : List Int)) := ⟨_, rfl⟩
       replace H : (some y299) = some r := z3 hy299
       have Ny299 := Aside0.mk hy299
       clear hy299
       obtain rfl := Option.some.inj H
       go_wp2_with (first | ((with_reducible refine gate_dst (N := 31) rfl ?_); refine Kd.R_lit (Kd.int .u8) _ 5 ?hg (N := 31) ?hd (xs := ([(a1) % 256] : List Int)) (inner := [.int .u8 ((a1) % 256)]) (ok := fun _ => True) (okp := fun _ => True) ?hr ?hp (fun _ hk => hk) trivial (Below.refl _ _) (Nat.le_refl _) (by simp) ?_; (case hd => rfl); (case hg => rfl); (case hr => exact z14); (case hp => exact (Reps.one (show Kd.M (Kd.int .u8) _ _ _ ((a1) % 256) [.int .u8 ((a1) % 256)] from rfl) (Reps.none _ _))); intro v300 w16 ho17 hb hg_ hnew_; clear hg_ hnew_; (first | rw [← Ny299.out] at ho17 | (simp only [Int.reduceToNat] at ho17; rw [← Ny299.out] at ho17)); have HO301 := Aside0.mk (Kd.R_lower ho17 (below_size bB)); replace HB := Aside0.mk (below_step bB hb); clear hb ho17))
       go_ret
       exact ⟨_, bE, bR HO301, bB⟩
      ·rw [if_neg c15] at H
       have c15b0 : decide (a1 < 128) = false := decide_eq_false c15
       clear c15
       by_cases c18 : a1 < 2048
       ·rw [if_pos c18] at H
        have c18b0 : decide (a1 < 2048) = true := decide_eq_true c18
        clear c18
        obtain ⟨y302, hy302⟩ : ∃ y_ : List Int, y_ = (([(wrap64 (192 + (wrap64 (Int.tdiv a1 64)))) % 256, (wrap64 (128 + (Int.tmod a1 64))) % 256] : List Int)) := ⟨_, rfl⟩
        replace H : (some y302) = some r := z3 hy302
        have Ny302 := Aside0.mk hy302
        clear hy302
        obtain rfl := Option.some.inj H
        go_wp2_with (first | ((with_reducible refine gate_dst (N := 42) rfl ?_); refine Kd.R_lit (Kd.int .u8) _ 5 ?hg (N := 42) ?hd (xs := ([(wrap64 (192 + (wrap64 (Int.tdiv a1 64)))) % 256, (wrap64 (128 + (Int.tmod a1 64))) % 256] : List Int)) (inner := [.int .u8 ((wrap64 (192 + (wrap64 (Int.tdiv a1 64)))) % 256), .int .u8 ((wrap64 (128 + (Int.tmod a1 64))) % 256)]) (ok := fun _ => True) (okp := fun _ => True) ?hr ?hp (fun _ hk => hk) trivial (Below.refl _ _) (Nat.le_refl _) (by simp) ?_; (case hd => rfl); (case hg => rfl); (case hr => exact z14); (case hp => exact (Reps.one (show Kd.M (Kd.int .u8) _ _ _ ((wrap64 (192 + (wrap64 (Int.tdiv a1 64)))) % 256) [.int .u8 ((wrap64 (192 + (wrap64 (Int.tdiv a1 64)))) % 256)] from rfl) (Reps.one (show Kd.M (Kd.int .u8) _ _ _ ((wrap64 (128 + (Int.tmod a1 64))) % 256) [.int .u8 ((wrap64 (128 + (Int.tmod a1 64))) % 256)] from rfl) (Reps.none _ _)))); intro v303 w19 ho20 hb hg_ hnew_; clear hg_ hnew_; (first | rw [← Ny302.out] at ho20 | (simp only [Int.reduceToNat] at ho20; rw [← Ny302.out] at ho20)); have HO304 := Aside0.mk (Kd.R_lower ho20 (below_size bB)); replace HB := Aside0.mk (below_step bB hb); clear hb ho20))
        go_ret
        exact ⟨_, bE, bR HO304, bB⟩
       ·rw [if_neg c18] at H
        have c18b0 : decide (a1 < 2048) = false := decide_eq_false c18
        clear c18
        obtain ⟨y305, hy305⟩ : ∃ y_ : List Int, y_ = (([(wrap64 (224 + (wrap64 (Int.tdiv a1 4096)))) % 256, (wrap64 (128 + (Int.tmod (wrap64 (Int.tdiv a1 64)) 64))) % 256, (wrap64 (128 + (Int.tmod a1 64))) % 256] : List Int)) := ⟨_, rfl⟩
        replace H : (some y305) = some r := z3 hy305
        have Ny305 := Aside0.mk hy305
        clear hy305
        obtain rfl := Option.some.inj H
        go_wp2_with (first | ((with_reducible refine gate_dst (N := 56) rfl ?_); refine Kd.R_lit (Kd.int .u8) _ 5 ?hg (N := 56) ?hd (xs := ([(wrap64 (224 + (wrap64 (Int.tdiv a1 4096)))) % 256, (wrap64 (128 + (Int.tmod (wrap64 (Int.tdiv a1 64)) 64))) % 256, (wrap64 (128 + (Int.tmod a1 64))) % 256] : List Int)) (inner := [.int .u8 ((wrap64 (224 + (wrap64 (Int.tdiv a1 4096)))) % 256), .int .u8 ((wrap64 (128 + (Int.tmod (wrap64 (Int.tdiv a1 64)) 64))) % 256), .int .u8 ((wrap64 (128 + (Int.tmod a1 64))) % 256)]) (ok := fun _ => True) (okp := fun _ => True) ?hr ?hp (fun _ hk => hk) trivial (Below.refl _ _) (Nat.le_refl _) (by simp) ?_; (case hd => rfl); (case hg => rfl); (case hr => exact z14); (case hp => exact (Reps.one (show Kd.M (Kd.int .u8) _ _ _ ((wrap64 (224 + (wrap64 (Int.tdiv a1 4096)))) % 256) [.int .u8 ((wrap64 (224 + (wrap64 (Int.tdiv a1 4096)))) % 256)] from rfl) (Reps.one (show Kd.M (Kd.int .u8) _ _ _ ((wrap64 (128 + (Int.tmod (wrap64 (Int.tdiv a1 64)) 64))) % 256) [.int .u8 ((wrap64 (128 + (Int.tmod (wrap64 (Int.tdiv a1 64)) 64))) % 256)] from rfl) (Reps.one (show Kd.M (Kd.int .u8) _ _ _ ((wrap64 (128 + (Int.tmod a1 64))) % 256) [.int .u8 ((wrap64 (128 + (Int.tmod a1 64))) % 256)] from rfl) (Reps.none _ _))))); intro v306 w21 ho22 hb hg_ hnew_; clear hg_ hnew_; (first | rw [← Ny305.out] at ho22 | (simp only [Int.reduceToNat] at ho22; rw [← Ny305.out] at ho22)); have HO307 := Aside0.mk (Kd.R_lower ho22 (below_size bB)); replace HB := Aside0.mk (below_step bB hb); clear hb ho22))
        go_ret
        exact ⟨_, bE, bR HO307, bB⟩
def spec_l2Encode.l0 : Nat → Int → List Int → List Int → Int → Option (List Int × Int)
 | 0, _, _, _, _ => none
 | k + 1, x0, x1, x6, x7 => if x7 < (x1.length : Int) then (if 0 ≤ x7 then ((spec_l2Has.f k x0 (rd x1 x7)).bind fun t312 => (if t312 = true then ((spec_l2Bytes.f k x0 (rd x1 x7)).bind fun t314 => (if x6.length + t314.length < 140737488355328 then (spec_l2Encode.l0 k x0 x1 (x6 ++ t314) (wrap64 (x7 + 1))) else (none))) else (some (([] : List Int), 8)))) else (none)) else (if (x6.length : Int) > 400 then (some (([] : List Int), 2)) else (some (x6, 0)))
def spec_l2Encode.f (k : Nat) (a0 : Int) (l1 : List Int) : Option (List Int × Int) := spec_l2Encode.l0 k a0 l1 (([] : List Int)) 0
set_option maxHeartbeats 8000000 in
set_option maxRecDepth 100000 in
theorem spec_l2Encode.calls (k : Nat) (a0 : Int) (A1 : Option Addr) (c1 : Nat) (l1 : List Int) (r1 : List Int) (r2 : Int) (w : World) (hr1 : Kd.C (Kd.int .i64) w A1 l1.length l1) (hc1 : l1.length ≤ c1) (h : spec_l2Encode.f k a0 l1 = some (r1, r2)) :
  Calls Try.prog 55 #[.int .i64 a0, .slice A1 l1.length c1] w fun e w' => ∃ v0_ : Value, e = .returned (.tuple #[v0_, .int .i64 r2]) ∧ Kd.R (Kd.int .u8) 5 w' w.heap.size (fun _ => True) v0_ r1 ∧ Below w.heap.size w w' := by
 have HR1 := Aside0.mk hr1
 have HC1 := Aside0.mk hc1
 clear hr1 hc1
 have HB := Aside0.mk (Below.refl w.heap.size w)
 have H : (spec_l2Encode.l0 k a0 l1 (([] : List Int)) 0) = some (r1, r2) := h
 clear h
 obtain ⟨y308, hy308⟩ : ∃ y_ : List Int, y_ = (([] : List Int)) := ⟨_, rfl⟩
 replace H : (spec_l2Encode.l0 k a0 l1 y308 0) = some (r1, r2) := z3 hy308
 have Ny308 := Aside0.mk hy308
 clear hy308
 have H' := Aside0.mk H
 clear H
 go_enter Try.func55, Try.ntmps55
 go_wp2_with (first | ((with_reducible refine gate_dst (N := 8) rfl ?_); refine Kd.R_lit (Kd.int .u8) _ 5 ?hg (N := 8) ?hd (xs := ([] : List Int)) (inner := []) (ok := fun _ => True) (okp := fun _ => True) ?hr ?hp (fun _ hk => hk) trivial (Below.refl _ _) (Nat.le_refl _) (by simp) ?_; (case hd => rfl); (case hg => rfl); (case hr => exact z14); (case hp => exact (Reps.none _ _)); intro v309 w3 ho4 hb hg_ hnew_; clear hg_ hnew_; (first | rw [← Ny308.out] at ho4 | (simp only [Int.reduceToNat] at ho4; rw [← Ny308.out] at ho4)); have HO310 := Aside0.mk (Kd.R_lower ho4 (below_size bB)); replace HB := Aside0.mk (below_step bB hb); clear hb ho4))
 go_loopg [6, 7] k (fun kq v6 v7 w' => ∃ (x6_1 : List Int) (x7_1 : Int), v7 = .int .i64 x7_1 ∧ Aside0 (spec_l2Encode.l0 kq a0 l1 x6_1 x7_1 = some (r1, r2)) ∧ Aside0 (kq ≤ k) ∧ Aside0 (Kd.R (Kd.int .u8) 5 w' w.heap.size (fun _ => True) v6 x6_1) ∧ Aside0 (Below w.heap.size w w'))
 case atStart => exact ⟨(y308), (0), bS, H', ⟨Nat.le_refl _⟩, ⟨bR HO310⟩, ⟨bB⟩⟩
 case round =>
  clear H'
  try clear c1
  try clear p2
  obtain ⟨x6_1, x7_1, rfl, HA, HK1, HO_6, HB⟩ := hrel
  cases gk with
  | zero => exact absurd HA.out (by simp [spec_l2Encode.l0])
  | succ k1 =>
   have H := HA.out
   clear HA
   simp only [spec_l2Encode.l0] at H
   by_cases c5 : x7_1 < (l1.length : Int)
   ·rw [if_pos c5] at H
    have c5b0 : decide (x7_1 < (l1.length : Int)) = true := decide_eq_true c5
    clear c5
    by_cases c6 : 0 ≤ x7_1
    ·rw [if_pos c6] at H
     have c6b0 : decide (0 ≤ x7_1) = true := decide_eq_true c6
     clear c6
     replace H := Option.bind_eq_some_iff.mp H
     obtain ⟨t312, A70, H⟩ := H
     replace H : (if t312 = true then ((spec_l2Bytes.f k1 a0 (rd l1 x7_1)).bind fun t314 => (if x6_1.length + t314.length < 140737488355328 then (spec_l2Encode.l0 k1 a0 l1 (x6_1 ++ t314) (wrap64 (x7_1 + 1))) else (none))) else (some (([] : List Int), 8))) = some (r1, r2) := H
     have A7 := Aside0.mk A70
     clear A70
     by_cases c8 : t312 = true
     ·subst c8
      have H1 : ((spec_l2Bytes.f k1 a0 (rd l1 x7_1)).bind fun t314 => (if x6_1.length + t314.length < 140737488355328 then (spec_l2Encode.l0 k1 a0 l1 (x6_1 ++ t314) (wrap64 (x7_1 + 1))) else (none))) = some (r1, r2) := z35
      clear H
      have H := H1
      clear H1
      replace H := Option.bind_eq_some_iff.mp H
      obtain ⟨t314, A90, H⟩ := H
      replace H : (if x6_1.length + t314.length < 140737488355328 then (spec_l2Encode.l0 k1 a0 l1 (x6_1 ++ t314) (wrap64 (x7_1 + 1))) else (none)) = some (r1, r2) := H
      have A9 := Aside0.mk A90
      clear A90
      by_cases c10 : x6_1.length + t314.length < 140737488355328
      ·rw [if_pos c10] at H
       have LMc10 := Aside0.mk c10
       clear c10
       obtain ⟨y317, hy317⟩ : ∃ y_ : List Int, y_ = (x6_1 ++ t314) := ⟨_, rfl⟩
       replace H : (spec_l2Encode.l0 k1 a0 l1 y317 (wrap64 (x7_1 + 1))) = some (r1, r2) := z3 hy317
       have Ny317 := Aside0.mk hy317
       clear hy317
       have H' := Aside0.mk H
       clear H
       have p311 : 0 ≤ (x7_1 : Int) := pI
       have q311 : x7_1 < (l1.length : Int) := pI
       obtain ⟨ad311, e311, hx311_0⟩ := Kd.at_int HR1.out x7_1 p311 q311
       cases e311
       replace hx311_0 := (HB.out.cell (World.block_lt_of_cell? w _ hx311_0)).trans hx311_0
       replace p311 := eq_true p311
       replace q311 := eq_true q311
       go_wp2_with (first | ((with_reducible refine gate_callee (f := 72) rfl ?_); refine goesL_ (some 20) rfl rfl Try.func72 (by kernel_rfl) rfl #[.int .i64 a0, .int .i64 (rd l1 x7_1)] rfl bM ?_; (with_reducible refine (spec_l2Has.calls k1 a0 (rd l1 x7_1) true _ A7.out).mono ?_); rintro e w' ⟨rfl, ⟨nd, rfl⟩⟩; refine ⟨_, rfl, ?_⟩; have p313 : 0 ≤ (x7_1 : Int) := pI; have q313 : x7_1 < (l1.length : Int) := pI; obtain ⟨ad313, e313, hx313_0⟩ := Kd.at_int HR1.out x7_1 p313 q313; obtain rfl : ad311 = ad313 := (by injection e313); replace hx313_0 := (HB.out.cell (World.block_lt_of_cell? w _ hx313_0)).trans hx313_0; replace p313 := eq_true p313; replace q313 := eq_true q313) | ((with_reducible refine gate_callee (f := 94) rfl ?_); refine goesL_ (some 28) rfl rfl Try.func94 (by kernel_rfl) rfl #[.int .i64 a0, .int .i64 (rd l1 x7_1)] rfl bM ?_; (with_reducible refine (spec_l2Bytes.calls k1 a0 (rd l1 x7_1) t314 _ A9.out).mono ?_); rintro e w11 ⟨v315, rfl, ho0, hb⟩; refine ⟨_, rfl, ?_⟩; have HO316 := Aside0.mk (Kd.R_lower (Kd.R_new' ho0 (Kd.R_lt (bR HO_6))) (below_size bB)); replace HO_6 := Aside0.mk (Kd.R_elder' (bR HO_6) (Kd.R_base ho0) hb); replace HB := Aside0.mk (below_step bB hb); (try clear ho0); obtain ⟨Ao13, co13, eo13⟩ := Kd.R_slice HO316.out; subst eo13) | ((with_reducible refine gate_builtin (b := .append) (xs := #[.tmp 22, .tmp 28]) rfl ?_); at_builtin; refine Kd.R_append_rows (Kd.int .u8) (w0 := w) w.heap.size rfl (.tmp 22) (.tmp 28) 22 5 (.int .u8 0) 1 rfl Try.underlying22 info5 rfl (by decide) (by omega) u6 x6_1 t314 _ _ _ (fun k_ => some k_ ≠ (.slice Ao13 t314.length co13 : Value).ownBlock) (fun _ => False) rfl rfl ?aO ?aR (fun _ _ h => h) (fun _ h => h.elim) ?aF ?aB ?aS ?aL ?_; (case aR => exact z5 HO316.out); (case aB => exact bB); (case aF => exact (fun k_ hk => Kd.fresh' (Kd.R_lt (bR HO316)) k_ hk)); (case aO => exact z17 HO_6.out); (case aS => exact (below_size bB)); (case aL => have := LMc10.out; omega); intro v318 w12 ho hb hg hat; rw [← Ny317.out] at ho; have n0_ := Aside0.mk (Kd.R_after (ok := (fun _ => True)) (bR HO316) hg hat); have n1_ := Aside0.mk (hb); have n2_ := Aside0.mk (ho); clear HO316; clear HB; clear HO_6; have HO316 := n0_; have HB := n1_; have HO319 := n2_; clear n0_ n1_ n2_; clear ho hb hg hat))
       go_roundg k1
       case measure => have := HK1.out; omega
       case rel => exact ⟨(y317), (wrap64 (x7_1 + 1)), bS, H', ⟨by have := HK1.out; omega⟩, ⟨z15 HO319.out⟩, ⟨bB⟩⟩
      ·rw [if_neg c10] at H
       exact absurd H (by simp)
     ·replace c8 := Bool.eq_false_iff.mpr c8
      subst c8
      have H1 : (some (([] : List Int), 8)) = some (r1, r2) := z23
      clear H
      have H := H1
      clear H1
      simp only [Option.some.injEq, Prod.mk.injEq] at H
      obtain ⟨rfl, rfl⟩ := H
      have p311 : 0 ≤ (x7_1 : Int) := pI
      have q311 : x7_1 < (l1.length : Int) := pI
      obtain ⟨ad311, e311, hx311_0⟩ := Kd.at_int HR1.out x7_1 p311 q311
      cases e311
      replace hx311_0 := (HB.out.cell (World.block_lt_of_cell? w _ hx311_0)).trans hx311_0
      replace p311 := eq_true p311
      replace q311 := eq_true q311
      go_wp2_with (first | ((with_reducible refine gate_callee (f := 72) rfl ?_); refine goesL_ (some 20) rfl rfl Try.func72 (by kernel_rfl) rfl #[.int .i64 a0, .int .i64 (rd l1 x7_1)] rfl bM ?_; (with_reducible refine (spec_l2Has.calls k1 a0 (rd l1 x7_1) false _ A7.out).mono ?_); rintro e w' ⟨rfl, ⟨nd, rfl⟩⟩; refine ⟨_, rfl, ?_⟩))
      go_ret2
      exact ⟨_, bE, z19, bB⟩
    ·rw [if_neg c6] at H
     exact absurd H (by simp)
   ·rw [if_neg c5] at H
    have c5b0 : decide (x7_1 < (l1.length : Int)) = false := decide_eq_false c5
    clear c5
    by_cases c14 : (x6_1.length : Int) > 400
    ·rw [if_pos c14] at H
     have c14b0 : decide (400 < (x6_1.length : Int)) = true := decide_eq_true c14
     have c14b1 : decide (400 < x6_1.length) = true := decide_eq_true (by omega)
     clear c14
     simp only [Option.some.injEq, Prod.mk.injEq] at H
     obtain ⟨rfl, rfl⟩ := H
     obtain ⟨Ao15, co15, eo15⟩ := Kd.R_slice HO_6.out
     subst eo15
     go_wp2
     go_ret2
     exact ⟨_, bE, z19, bB⟩
    ·rw [if_neg c14] at H
     have c14b0 : decide (400 < (x6_1.length : Int)) = false := decide_eq_false c14
     have c14b1 : decide (400 < x6_1.length) = false := decide_eq_false (by omega)
     clear c14
     simp only [Option.some.injEq, Prod.mk.injEq] at H
     obtain ⟨rfl, rfl⟩ := H
     obtain ⟨Ao16, co16, eo16⟩ := Kd.R_slice HO_6.out
     subst eo16
     go_wp2
     go_ret2
     exact ⟨_, bE, bR HO_6, bB⟩
def spec_l4Self.l0 : Nat → List Int → Int → Option (Bool)
 | 0, _, _ => none
 | k + 1, x0, x3 => if x3 < (x0.length : Int) then (if 0 ≤ x3 then ((spec_l1In.f (rd x0 x3) 32 126).bind fun t321 => (if t321 = true then (if x3 > 0 then (if 0 ≤ (wrap64 (x3 - 1)) then (if (wrap64 (x3 - 1)) < (x0.length : Int) then (if (rd x0 (wrap64 (x3 - 1))) = 61 then (if (rd x0 x3) = 63 then (some false) else (spec_l4Self.l0 k x0 (wrap64 (x3 + 1)))) else (spec_l4Self.l0 k x0 (wrap64 (x3 + 1)))) else (none)) else (none)) else (spec_l4Self.l0 k x0 (wrap64 (x3 + 1)))) else (some false))) else (none)) else (some true)
def spec_l4Self.f (k : Nat) (l0 : List Int) : Option (Bool) := spec_l4Self.l0 k l0 0
set_option maxHeartbeats 8000000 in
set_option maxRecDepth 100000 in
theorem spec_l4Self.calls (k : Nat) (A0 : Option Addr) (c0 : Nat) (l0 : List Int) (r : Bool) (w : World) (hr0 : Kd.C (Kd.int .i64) w A0 l0.length l0) (hc0 : l0.length ≤ c0) (h : spec_l4Self.f k l0 = some r) :
  Calls Try.prog 106 #[.slice A0 l0.length c0] w fun e w' => e = .returned (.bool r) ∧ Drawn0 w w' := by
 have HR0 := Aside0.mk hr0
 have HC0 := Aside0.mk hc0
 clear hr0 hc0
 have H : (spec_l4Self.l0 k l0 0) = some r := h
 clear h
 have H' := Aside0.mk H
 clear H
 go_enter Try.func106, Try.ntmps106
 go_wp2
 go_loopg [3] k (fun kq v3 w' => ∃ (x3_1 : Int), v3 = .int .i64 x3_1 ∧ Aside0 (spec_l4Self.l0 kq l0 x3_1 = some r) ∧ Aside0 (kq ≤ k) ∧ Drawn0 w w')
 case atStart => exact ⟨(0), bS, H', ⟨Nat.le_refl _⟩, z9⟩
 case round =>
  clear H'
  try clear c1
  obtain ⟨x3_1, rfl, HA, HK1, ⟨m1, rfl⟩⟩ := hrel
  cases gk with
  | zero => exact absurd HA.out (by simp [spec_l4Self.l0])
  | succ k1 =>
   have H := HA.out
   clear HA
   simp only [spec_l4Self.l0] at H
   by_cases c2 : x3_1 < (l0.length : Int)
   ·rw [if_pos c2] at H
    have c2b0 : decide (x3_1 < (l0.length : Int)) = true := decide_eq_true c2
    clear c2
    by_cases c3 : 0 ≤ x3_1
    ·rw [if_pos c3] at H
     have c3b0 : decide (0 ≤ x3_1) = true := decide_eq_true c3
     clear c3
     replace H := Option.bind_eq_some_iff.mp H
     obtain ⟨t321, A40, H⟩ := H
     replace H : (if t321 = true then (if x3_1 > 0 then (if 0 ≤ (wrap64 (x3_1 - 1)) then (if (wrap64 (x3_1 - 1)) < (l0.length : Int) then (if (rd l0 (wrap64 (x3_1 - 1))) = 61 then (if (rd l0 x3_1) = 63 then (some false) else (spec_l4Self.l0 k1 l0 (wrap64 (x3_1 + 1)))) else (spec_l4Self.l0 k1 l0 (wrap64 (x3_1 + 1)))) else (none)) else (none)) else (spec_l4Self.l0 k1 l0 (wrap64 (x3_1 + 1)))) else (some false)) = some r := H
     have A4 := Aside0.mk A40
     clear A40
     by_cases c5 : t321 = true
     ·subst c5
      have H1 : (if x3_1 > 0 then (if 0 ≤ (wrap64 (x3_1 - 1)) then (if (wrap64 (x3_1 - 1)) < (l0.length : Int) then (if (rd l0 (wrap64 (x3_1 - 1))) = 61 then (if (rd l0 x3_1) = 63 then (some false) else (spec_l4Self.l0 k1 l0 (wrap64 (x3_1 + 1)))) else (spec_l4Self.l0 k1 l0 (wrap64 (x3_1 + 1)))) else (none)) else (none)) else (spec_l4Self.l0 k1 l0 (wrap64 (x3_1 + 1)))) = some r := z35
      clear H
      have H := H1
      clear H1
      by_cases c6 : x3_1 > 0
      ·rw [if_pos c6] at H
       have c6b0 : decide (0 < x3_1) = true := decide_eq_true c6
       clear c6
       obtain ⟨ji7, hji7⟩ : ∃ j_ : Int, (wrap64 (x3_1 - 1)) = j_ := ⟨_, rfl⟩
       replace H : (if 0 ≤ (ji7) then (if (ji7) < (l0.length : Int) then (if (rd l0 (ji7)) = 61 then (if (rd l0 x3_1) = 63 then (some false) else (spec_l4Self.l0 k1 l0 (wrap64 (x3_1 + 1)))) else (spec_l4Self.l0 k1 l0 (wrap64 (x3_1 + 1)))) else (none)) else (none)) = some r := by first | (rw [hji7] at H; exact H) | (simp only [hji7] at H ⊢; exact H)
       (try rw [hji7] at A4)
       have hji7w : (IntKind.i64.wrap (x3_1 - 1)) = ji7 := (i64_w _).trans hji7
       by_cases c8 : 0 ≤ (ji7)
       ·rw [if_pos c8] at H
        have c8b0 : decide (0 ≤ (ji7)) = true := decide_eq_true c8
        clear c8
        by_cases c9 : (ji7) < (l0.length : Int)
        ·rw [if_pos c9] at H
         have c9b0 : decide ((ji7) < (l0.length : Int)) = true := decide_eq_true c9
         clear c9
         by_cases c10 : (rd l0 (ji7)) = 61
         ·rw [if_pos c10] at H
          have c10b0 : ((rd l0 (ji7)) == 61) = true := beq_iff_eq.mpr c10
          have c10b1 : ((rd l0 (ji7)) != 61) = false := bne_eq_false_iff_eq.mpr c10
          clear c10
          by_cases c11 : (rd l0 x3_1) = 63
          ·rw [if_pos c11] at H
           have c11b0 : ((rd l0 x3_1) == 63) = true := beq_iff_eq.mpr c11
           have c11b1 : ((rd l0 x3_1) != 63) = false := bne_eq_false_iff_eq.mpr c11
           clear c11
           obtain rfl := Option.some.inj H
           have p320 : 0 ≤ (x3_1 : Int) := pI
           have q320 : x3_1 < (l0.length : Int) := pI
           obtain ⟨ad320, e320, hx320_0⟩ := Kd.at_int HR0.out x3_1 p320 q320
           cases e320
           replace p320 := eq_true p320
           replace q320 := eq_true q320
           go_wp2_with (first | ((with_reducible refine gate_callee (f := 93) rfl ?_); refine goesL_ (some 14) rfl rfl Try.func93 (by kernel_rfl) rfl #[.int .i64 (rd l0 x3_1), .int .i64 32, .int .i64 126] rfl bM ?_; (with_reducible refine (spec_l1In.calls (rd l0 x3_1) 32 126 true _ A4.out).mono ?_); rintro e w' ⟨rfl, ⟨nd, rfl⟩⟩; refine ⟨_, rfl, ?_⟩; have p322 : 0 ≤ ((ji7) : Int) := pI; have q322 : (ji7) < (l0.length : Int) := pI; obtain ⟨ad322, e322, hx322_0⟩ := Kd.at_int HR0.out (ji7) p322 q322; obtain rfl : ad320 = ad322 := (by injection e322); replace p322 := eq_true p322; replace q322 := eq_true q322; have p323 : 0 ≤ (x3_1 : Int) := pI; have q323 : x3_1 < (l0.length : Int) := pI; obtain ⟨ad323, e323, hx323_0⟩ := Kd.at_int HR0.out x3_1 p323 q323; obtain rfl : ad320 = ad323 := (by injection e323); replace p323 := eq_true p323; replace q323 := eq_true q323))
           go_ret
           exact ⟨by first | rfl | (simp; done) | (simp only [← hji7] <;> (first | rfl | simp)) | (simp [*]; done), z9⟩
          ·rw [if_neg c11] at H
           have c11b0 : ((rd l0 x3_1) == 63) = false := beq_eq_false_iff_ne.mpr c11
           have c11b1 : ((rd l0 x3_1) != 63) = true := bne_iff_ne.mpr c11
           have H' := Aside0.mk H
           clear H
           have p320 : 0 ≤ (x3_1 : Int) := pI
           have q320 : x3_1 < (l0.length : Int) := pI
           obtain ⟨ad320, e320, hx320_0⟩ := Kd.at_int HR0.out x3_1 p320 q320
           cases e320
           replace p320 := eq_true p320
           replace q320 := eq_true q320
           go_wp2_with (first | ((with_reducible refine gate_callee (f := 93) rfl ?_); refine goesL_ (some 14) rfl rfl Try.func93 (by kernel_rfl) rfl #[.int .i64 (rd l0 x3_1), .int .i64 32, .int .i64 126] rfl bM ?_; (with_reducible refine (spec_l1In.calls (rd l0 x3_1) 32 126 true _ A4.out).mono ?_); rintro e w' ⟨rfl, ⟨nd, rfl⟩⟩; refine ⟨_, rfl, ?_⟩; have p322 : 0 ≤ ((ji7) : Int) := pI; have q322 : (ji7) < (l0.length : Int) := pI; obtain ⟨ad322, e322, hx322_0⟩ := Kd.at_int HR0.out (ji7) p322 q322; obtain rfl : ad320 = ad322 := (by injection e322); replace p322 := eq_true p322; replace q322 := eq_true q322; have p323 : 0 ≤ (x3_1 : Int) := pI; have q323 : x3_1 < (l0.length : Int) := pI; obtain ⟨ad323, e323, hx323_0⟩ := Kd.at_int HR0.out x3_1 p323 q323; obtain rfl : ad320 = ad323 := (by injection e323); replace p323 := eq_true p323; replace q323 := eq_true q323))
           go_roundg k1
           case measure => have := HK1.out; omega
           case rel => exact ⟨(wrap64 (x3_1 + 1)), bS, H', ⟨by have := HK1.out; omega⟩, z9⟩
         ·rw [if_neg c10] at H
          have c10b0 : ((rd l0 (ji7)) == 61) = false := beq_eq_false_iff_ne.mpr c10
          have c10b1 : ((rd l0 (ji7)) != 61) = true := bne_iff_ne.mpr c10
          have H' := Aside0.mk H
          clear H
          have p320 : 0 ≤ (x3_1 : Int) := pI
          have q320 : x3_1 < (l0.length : Int) := pI
          obtain ⟨ad320, e320, hx320_0⟩ := Kd.at_int HR0.out x3_1 p320 q320
          cases e320
          replace p320 := eq_true p320
          replace q320 := eq_true q320
          go_wp2_with (first | ((with_reducible refine gate_callee (f := 93) rfl ?_); refine goesL_ (some 14) rfl rfl Try.func93 (by kernel_rfl) rfl #[.int .i64 (rd l0 x3_1), .int .i64 32, .int .i64 126] rfl bM ?_; (with_reducible refine (spec_l1In.calls (rd l0 x3_1) 32 126 true _ A4.out).mono ?_); rintro e w' ⟨rfl, ⟨nd, rfl⟩⟩; refine ⟨_, rfl, ?_⟩; have p322 : 0 ≤ ((ji7) : Int) := pI; have q322 : (ji7) < (l0.length : Int) := pI; obtain ⟨ad322, e322, hx322_0⟩ := Kd.at_int HR0.out (ji7) p322 q322; obtain rfl : ad320 = ad322 := (by injection e322); replace p322 := eq_true p322; replace q322 := eq_true q322))
          go_roundg k1
          case measure => have := HK1.out; omega
          case rel => exact ⟨(wrap64 (x3_1 + 1)), bS, H', ⟨by have := HK1.out; omega⟩, z9⟩
        ·rw [if_neg c9] at H
         exact absurd H (by simp)
       ·rw [if_neg c8] at H
        exact absurd H (by simp)
      ·rw [if_neg c6] at H
       have c6b0 : decide (0 < x3_1) = false := decide_eq_false c6
       clear c6
       have H' := Aside0.mk H
       clear H
       have p320 : 0 ≤ (x3_1 : Int) := pI
       have q320 : x3_1 < (l0.length : Int) := pI
       obtain ⟨ad320, e320, hx320_0⟩ := Kd.at_int HR0.out x3_1 p320 q320
       cases e320
       replace p320 := eq_true p320
       replace q320 := eq_true q320
       go_wp2_with (first | ((with_reducible refine gate_callee (f := 93) rfl ?_); refine goesL_ (some 14) rfl rfl Try.func93 (by kernel_rfl) rfl #[.int .i64 (rd l0 x3_1), .int .i64 32, .int .i64 126] rfl bM ?_; (with_reducible refine (spec_l1In.calls (rd l0 x3_1) 32 126 true _ A4.out).mono ?_); rintro e w' ⟨rfl, ⟨nd, rfl⟩⟩; refine ⟨_, rfl, ?_⟩))
       go_roundg k1
       case measure => have := HK1.out; omega
       case rel => exact ⟨(wrap64 (x3_1 + 1)), bS, H', ⟨by have := HK1.out; omega⟩, z9⟩
     ·replace c5 := Bool.eq_false_iff.mpr c5
      subst c5
      have H1 : (some false) = some r := z23
      clear H
      have H := H1
      clear H1
      obtain rfl := Option.some.inj H
      have p320 : 0 ≤ (x3_1 : Int) := pI
      have q320 : x3_1 < (l0.length : Int) := pI
      obtain ⟨ad320, e320, hx320_0⟩ := Kd.at_int HR0.out x3_1 p320 q320
      cases e320
      replace p320 := eq_true p320
      replace q320 := eq_true q320
      go_wp2_with (first | ((with_reducible refine gate_callee (f := 93) rfl ?_); refine goesL_ (some 14) rfl rfl Try.func93 (by kernel_rfl) rfl #[.int .i64 (rd l0 x3_1), .int .i64 32, .int .i64 126] rfl bM ?_; (with_reducible refine (spec_l1In.calls (rd l0 x3_1) 32 126 false _ A4.out).mono ?_); rintro e w' ⟨rfl, ⟨nd, rfl⟩⟩; refine ⟨_, rfl, ?_⟩))
      go_ret
      exact ⟨bS, z9⟩
    ·rw [if_neg c3] at H
     exact absurd H (by simp)
   ·rw [if_neg c2] at H
    have c2b0 : decide (x3_1 < (l0.length : Int)) = false := decide_eq_false c2
    clear c2
    obtain rfl := Option.some.inj H
    go_wp2
    go_ret
    exact ⟨bS, z9⟩
def spec_l1Base.f (a0 : Int) : Option (Int) := if 0 ≤ a0 then (if a0 < 64 then (some (bt (⟨#[65, 66, 67, 68, 69, 70, 71, 72, 73, 74, 75, 76, 77, 78, 79, 80, 81, 82, 83, 84, 85, 86, 87, 88, 89, 90, 97, 98, 99, 100, 101, 102, 103, 104, 105, 106, 107, 108, 109, 110, 111, 112, 113, 114, 115, 116, 117, 118, 119, 120, 121, 122, 48, 49, 50, 51, 52, 53, 54, 55, 56, 57, 43, 47]⟩ : ByteArray) a0)) else (none)) else (none)
set_option maxHeartbeats 8000000 in
set_option maxRecDepth 100000 in
theorem spec_l1Base.calls (a0 : Int) (r : Int) (w : World) (h : spec_l1Base.f a0 = some r) :
  Calls Try.prog 121 #[.int .i64 a0] w fun e w' => e = .returned (.int .u8 r) ∧ Drawn0 w w' := by
 have H : (if 0 ≤ a0 then (if a0 < 64 then (some (bt (⟨#[65, 66, 67, 68, 69, 70, 71, 72, 73, 74, 75, 76, 77, 78, 79, 80, 81, 82, 83, 84, 85, 86, 87, 88, 89, 90, 97, 98, 99, 100, 101, 102, 103, 104, 105, 106, 107, 108, 109, 110, 111, 112, 113, 114, 115, 116, 117, 118, 119, 120, 121, 122, 48, 49, 50, 51, 52, 53, 54, 55, 56, 57, 43, 47]⟩ : ByteArray) a0)) else (none)) else (none)) = some r := h
 clear h
 by_cases c2 : 0 ≤ a0
 ·rw [if_pos c2] at H
  have c2b0 : decide (0 ≤ a0) = true := decide_eq_true c2
  clear c2
  by_cases c3 : a0 < 64
  ·rw [if_pos c3] at H
   have c3b0 : decide (a0 < 64) = true := decide_eq_true c3
   clear c3
   obtain rfl := Option.some.inj H
   have p4 : 0 ≤ (a0 : Int) := pI
   have q4 : a0 < (64 : Int) := pI
   have hx4 := bt_at (⟨#[65, 66, 67, 68, 69, 70, 71, 72, 73, 74, 75, 76, 77, 78, 79, 80, 81, 82, 83, 84, 85, 86, 87, 88, 89, 90, 97, 98, 99, 100, 101, 102, 103, 104, 105, 106, 107, 108, 109, 110, 111, 112, 113, 114, 115, 116, 117, 118, 119, 120, 121, 122, 48, 49, 50, 51, 52, 53, 54, 55, 56, 57, 43, 47]⟩ : ByteArray) a0
   replace p4 := eq_true p4
   replace q4 := eq_true q4
   go_enter Try.func121, Try.ntmps121
   go_wp2
   go_ret
   exact ⟨bS, z9⟩
  ·rw [if_neg c3] at H
   exact absurd H (by simp)
 ·rw [if_neg c2] at H
  exact absurd H (by simp)
mutual
def spec_l1Encode.l0 : Nat → List Int → List Int → Int → Option (ByteArray)
 | 0, _, _, _ => none
 | k + 1, x0, x3, x4 => if x4 < (x0.length : Int) then (if 0 ≤ x4 then (if (wrap64 (x4 + 1)) < (x0.length : Int) then (if 0 ≤ (wrap64 (x4 + 1)) then (spec_l1Encode.j1 k x0 x3 x4 (wrap64 ((wrap64 ((wrap64 (rd x0 x4)) * 65536)) + (wrap64 ((wrap64 (rd x0 (wrap64 (x4 + 1)))) * 256))))) else (none)) else (spec_l1Encode.j1 k x0 x3 x4 (wrap64 ((wrap64 (rd x0 x4)) * 65536)))) else (none)) else (some (strOfNums x3))
def spec_l1Encode.j1 : Nat → List Int → List Int → Int → Int → Option (ByteArray)
 | 0, _, _, _, _ => none
 | k + 1, x0, x3, x4, x5 => if (wrap64 (x4 + 2)) < (x0.length : Int) then (if 0 ≤ (wrap64 (x4 + 2)) then (spec_l1Encode.j2 k x0 x3 x4 (wrap64 (x5 + (wrap64 (rd x0 (wrap64 (x4 + 2))))))) else (none)) else (spec_l1Encode.j2 k x0 x3 x4 x5)
def spec_l1Encode.j2 : Nat → List Int → List Int → Int → Int → Option (ByteArray)
 | 0, _, _, _, _ => none
 | k + 1, x0, x3, x4, x5 => (spec_l1Base.f (wrap64 (Int.tdiv x5 262144))).bind fun t330 => ((spec_l1Base.f (Int.tmod (wrap64 (Int.tdiv x5 4096)) 64)).bind fun t331 => ((spec_l1Base.f (Int.tmod (wrap64 (Int.tdiv x5 64)) 64)).bind fun t332 => ((spec_l1Base.f (Int.tmod x5 64)).bind fun t333 => ((some (([t330, t331, t332, t333] : List Int) : List Int)).bind fun y334 => (if (wrap64 (x4 + 2)) ≥ (x0.length : Int) then (if 3 < (y334.length : Int) then ((some (y334.set (3 : Int).toNat 61 : List Int)).bind fun y337 => (if (wrap64 (x4 + 1)) ≥ (x0.length : Int) then (if 2 < (y334.length : Int) then ((some (y337.set (2 : Int).toNat 61 : List Int)).bind fun y338 => (if x3.length + y338.length < 140737488355328 then (spec_l1Encode.l0 k x0 (x3 ++ y338) (wrap64 (x4 + 3))) else (none))) else (none)) else (if x3.length + y337.length < 140737488355328 then (spec_l1Encode.l0 k x0 (x3 ++ y337) (wrap64 (x4 + 3))) else (none)))) else (none)) else (if (wrap64 (x4 + 1)) ≥ (x0.length : Int) then (if 2 < (y334.length : Int) then ((some (y334.set (2 : Int).toNat 61 : List Int)).bind fun y345 => (if x3.length + y345.length < 140737488355328 then (spec_l1Encode.l0 k x0 (x3 ++ y345) (wrap64 (x4 + 3))) else (none))) else (none)) else (if x3.length + y334.length < 140737488355328 then (spec_l1Encode.l0 k x0 (x3 ++ y334) (wrap64 (x4 + 3))) else (none))))))))
end
def spec_l1Encode.f (k : Nat) (l0 : List Int) : Option (ByteArray) := spec_l1Encode.l0 k l0 (([] : List Int)) 0
set_option maxHeartbeats 8000000 in
set_option maxRecDepth 100000 in
theorem spec_l1Encode.calls (k : Nat) (A0 : Option Addr) (c0 : Nat) (l0 : List Int) (r : ByteArray) (w : World) (hr0 : Kd.C (Kd.int .u8) w A0 l0.length l0) (hc0 : l0.length ≤ c0) (h : spec_l1Encode.f k l0 = some r) :
  Calls Try.prog 107 #[.slice A0 l0.length c0] w fun e w' => e = .returned (.string r) ∧ Below w.heap.size w w' := by
 have HR0 := Aside0.mk hr0
 have HC0 := Aside0.mk hc0
 clear hr0 hc0
 have HB := Aside0.mk (Below.refl w.heap.size w)
 have H : (spec_l1Encode.l0 k l0 (([] : List Int)) 0) = some r := h
 clear h
 obtain ⟨y324, hy324⟩ : ∃ y_ : List Int, y_ = (([] : List Int)) := ⟨_, rfl⟩
 replace H : (spec_l1Encode.l0 k l0 y324 0) = some r := z3 hy324
 have Ny324 := Aside0.mk hy324
 clear hy324
 have H' := Aside0.mk H
 clear H
 go_enter Try.func107, Try.ntmps107
 go_wp2_with (first | ((with_reducible refine gate_dst (N := 7) rfl ?_); refine Kd.R_lit (Kd.int .u8) _ 5 ?hg (N := 7) ?hd (xs := ([] : List Int)) (inner := []) (ok := fun _ => True) (okp := fun _ => True) ?hr ?hp (fun _ hk => hk) trivial (Below.refl _ _) (Nat.le_refl _) (by simp) ?_; (case hd => rfl); (case hg => rfl); (case hr => exact z14); (case hp => exact (Reps.none _ _)); intro v325 w2 ho3 hb hg_ hnew_; clear hg_ hnew_; (first | rw [← Ny324.out] at ho3 | (simp only [Int.reduceToNat] at ho3; rw [← Ny324.out] at ho3)); have HO326 := Aside0.mk (Kd.R_lower ho3 (below_size bB)); replace HB := Aside0.mk (below_step bB hb); clear hb ho3))
 go_loopg [3, 4] k (fun kq v3 v4 w' => ∃ (x3_1 : List Int) (x4_1 : Int), v4 = .int .i64 x4_1 ∧ Aside0 (spec_l1Encode.l0 kq l0 x3_1 x4_1 = some r) ∧ Aside0 (kq ≤ k) ∧ Aside0 (Kd.R (Kd.int .u8) 5 w' w.heap.size (fun _ => True) v3 x3_1) ∧ Aside0 (Below w.heap.size w w'))
 case atStart => exact ⟨(y324), (0), bS, H', ⟨Nat.le_refl _⟩, ⟨bR HO326⟩, ⟨bB⟩⟩
 case round =>
  clear H'
  try clear c1
  try clear p2
  obtain ⟨x3_1, x4_1, rfl, HA, HK1, HO_3, HB⟩ := hrel
  cases gk with
  | zero => exact absurd HA.out (by simp [spec_l1Encode.l0])
  | succ k1 =>
   have H := HA.out
   clear HA
   simp only [spec_l1Encode.l0] at H
   by_cases c4 : x4_1 < (l0.length : Int)
   ·rw [if_pos c4] at H
    have c4b0 : decide (x4_1 < (l0.length : Int)) = true := decide_eq_true c4
    clear c4
    by_cases c5 : 0 ≤ x4_1
    ·rw [if_pos c5] at H
     have c5b0 : decide (0 ≤ x4_1) = true := decide_eq_true c5
     clear c5
     have HC6 := Aside0.mk H
     clear H
     have p327 : 0 ≤ (x4_1 : Int) := pI
     have q327 : x4_1 < (l0.length : Int) := pI
     obtain ⟨ad327, e327, hx327_0⟩ := Kd.at_int HR0.out x4_1 p327 q327
     cases e327
     replace hx327_0 := (HB.out.cell (World.block_lt_of_cell? w _ hx327_0)).trans hx327_0
     replace p327 := eq_true p327
     replace q327 := eq_true q327
     go_upto_if 24 with (fail)
     go_cut [5] (fun v5 wc => ∃ (kq : Nat) (x5_5 : Int), v5 = .int .i64 x5_5 ∧ Aside0 (spec_l1Encode.j1 kq l0 x3_1 x4_1 x5_5 = some r) ∧ Aside0 (kq ≤ k1) ∧ Aside0 (Kd.R (Kd.int .u8) 5 wc w.heap.size (fun _ => True) u3 x3_1) ∧ Aside0 (Below w.heap.size w wc))
     case first =>
      have H := HC6.out
      clear HC6
      by_cases c7 : (wrap64 (x4_1 + 1)) < (l0.length : Int)
      ·rw [if_pos c7] at H
       have c7b0 : decide ((wrap64 (x4_1 + 1)) < (l0.length : Int)) = true := decide_eq_true c7
       clear c7
       (first | rw [c7b0] | (simp only [i64_w, i32_w]; rw [c7b0]) | skip)
       obtain ⟨ji8, hji8⟩ : ∃ j_ : Int, (wrap64 (x4_1 + 1)) = j_ := ⟨_, rfl⟩
       replace H : (if 0 ≤ (ji8) then (spec_l1Encode.j1 k1 l0 x3_1 x4_1 (wrap64 ((wrap64 ((wrap64 (rd l0 x4_1)) * 65536)) + (wrap64 ((wrap64 (rd l0 (ji8))) * 256))))) else (none)) = some r := by first | (rw [hji8] at H; exact H) | (simp only [hji8] at H ⊢; exact H)
       (try rw [hji8] at c7b0)
       have hji8w : (IntKind.i64.wrap (x4_1 + 1)) = ji8 := (i64_w _).trans hji8
       by_cases c9 : 0 ≤ (ji8)
       ·rw [if_pos c9] at H
        have c9b0 : decide (0 ≤ (ji8)) = true := decide_eq_true c9
        clear c9
        have H' := Aside0.mk H
        clear H
        have p328 : 0 ≤ ((ji8) : Int) := pI
        have q328 : (ji8) < (l0.length : Int) := pI
        obtain ⟨ad328, e328, hx328_0⟩ := Kd.at_int HR0.out (ji8) p328 q328
        obtain rfl : ad327 = ad328 := (by injection e328)
        replace hx328_0 := (HB.out.cell (World.block_lt_of_cell? w _ hx328_0)).trans hx328_0
        replace p328 := eq_true p328
        replace q328 := eq_true q328
        go_wp2
        go_meet
        case rel => exact ⟨_, (wrap64 ((wrap64 ((wrap64 (rd l0 x4_1)) * 65536)) + (wrap64 ((wrap64 (rd l0 (ji8))) * 256)))), (by first | rfl | (simp; done) | (simp only [← hji8] <;> (first | rfl | simp)) | (simp [*]; done)), H', ⟨z46 HK1.out⟩, ⟨bR HO_3⟩, ⟨bB⟩⟩
       ·rw [if_neg c9] at H
        exact absurd H (by simp)
      ·rw [if_neg c7] at H
       have c7b0 : decide ((wrap64 (x4_1 + 1)) < (l0.length : Int)) = false := decide_eq_false c7
       clear c7
       (first | rw [c7b0] | (simp only [i64_w, i32_w]; rw [c7b0]) | skip)
       have H' := Aside0.mk H
       clear H
       go_wp2
       go_meet
       case rel => exact ⟨_, (wrap64 ((wrap64 (rd l0 x4_1)) * 65536)), bS, H', ⟨z46 HK1.out⟩, ⟨bR HO_3⟩, ⟨bB⟩⟩
     case rest =>
      clear HC6
      try clear c1
      try clear p2
      try clear p3
      try clear q3
      try clear hx3
      try clear c4
      try clear c4b0
      try clear c5
      try clear c5b0
      try clear p6
      try clear c7
      try clear c7b0
      try clear c9
      try clear c9b0
      try clear hx327_0
      try clear hx328_0
      try clear p2
      try clear p327
      try clear p328
      try clear q327
      try clear q328
      obtain ⟨kq, x5_5, rfl, HA, HJ5, HO_3, HB⟩ := hcut
      cases kq with
      | zero => exact absurd HA.out (by simp [spec_l1Encode.j1])
      | succ kj5 =>
       have H := HA.out
       clear HA
       simp only [spec_l1Encode.j1] at H
       have HC10 := Aside0.mk H
       clear H
       go_upto_if 38 with (fail)
       go_cut [5] (fun v5 wc => ∃ (kq : Nat) (x5_9 : Int), v5 = .int .i64 x5_9 ∧ Aside0 (spec_l1Encode.j2 kq l0 x3_1 x4_1 x5_9 = some r) ∧ Aside0 (kq ≤ kj5) ∧ Aside0 (Kd.R (Kd.int .u8) 5 wc w.heap.size (fun _ => True) u3 x3_1) ∧ Aside0 (Below w.heap.size w wc))
       case first =>
        have H := HC10.out
        clear HC10
        by_cases c11 : (wrap64 (x4_1 + 2)) < (l0.length : Int)
        ·rw [if_pos c11] at H
         have c11b0 : decide ((wrap64 (x4_1 + 2)) < (l0.length : Int)) = true := decide_eq_true c11
         clear c11
         (first | rw [c11b0] | (simp only [i64_w, i32_w]; rw [c11b0]) | skip)
         obtain ⟨ji12, hji12⟩ : ∃ j_ : Int, (wrap64 (x4_1 + 2)) = j_ := ⟨_, rfl⟩
         replace H : (if 0 ≤ (ji12) then (spec_l1Encode.j2 kj5 l0 x3_1 x4_1 (wrap64 (x5_5 + (wrap64 (rd l0 (ji12)))))) else (none)) = some r := by first | (rw [hji12] at H; exact H) | (simp only [hji12] at H ⊢; exact H)
         (try rw [hji12] at c11b0)
         have hji12w : (IntKind.i64.wrap (x4_1 + 2)) = ji12 := (i64_w _).trans hji12
         by_cases c13 : 0 ≤ (ji12)
         ·rw [if_pos c13] at H
          have c13b0 : decide (0 ≤ (ji12)) = true := decide_eq_true c13
          clear c13
          have H' := Aside0.mk H
          clear H
          have p329 : 0 ≤ ((ji12) : Int) := pI
          have q329 : (ji12) < (l0.length : Int) := pI
          obtain ⟨ad329, e329, hx329_0⟩ := Kd.at_int HR0.out (ji12) p329 q329
          obtain rfl : ad327 = ad329 := (by injection e329)
          replace hx329_0 := (HB.out.cell (World.block_lt_of_cell? w _ hx329_0)).trans hx329_0
          replace p329 := eq_true p329
          replace q329 := eq_true q329
          go_wp2
          go_meet
          case rel => exact ⟨_, (wrap64 (x5_5 + (wrap64 (rd l0 (ji12))))), (by first | rfl | (simp; done) | (simp only [← hji12] <;> (first | rfl | simp)) | (simp [*]; done)), H', ⟨by have := HK1.out; have := HJ5.out; first | omega | exact Nat.le_refl _⟩, ⟨bR HO_3⟩, ⟨bB⟩⟩
         ·rw [if_neg c13] at H
          exact absurd H (by simp)
        ·rw [if_neg c11] at H
         have c11b0 : decide ((wrap64 (x4_1 + 2)) < (l0.length : Int)) = false := decide_eq_false c11
         clear c11
         (first | rw [c11b0] | (simp only [i64_w, i32_w]; rw [c11b0]) | skip)
         have H' := Aside0.mk H
         clear H
         go_wp2
         go_meet
         case rel => exact ⟨_, (x5_5), bS, H', ⟨by have := HK1.out; have := HJ5.out; first | omega | exact Nat.le_refl _⟩, ⟨bR HO_3⟩, ⟨bB⟩⟩
       case rest =>
        clear HC10
        try clear c1
        try clear p2
        try clear p3
        try clear q3
        try clear hx3
        try clear c4
        try clear c4b0
        try clear c5
        try clear c5b0
        try clear p6
        try clear c7
        try clear c7b0
        try clear c9
        try clear c9b0
        try clear c10
        try clear c11
        try clear c11b0
        try clear c13
        try clear c13b0
        try clear hx327_0
        try clear hx328_0
        try clear hx329_0
        try clear p2
        try clear p3
        try clear p327
        try clear p328
        try clear p329
        try clear p6
        try clear q3
        try clear q327
        try clear q328
        try clear q329
        obtain ⟨kq, x5_9, rfl, HA, HJ9, HO_3, HB⟩ := hcut
        cases kq with
        | zero => exact absurd HA.out (by simp [spec_l1Encode.j2])
        | succ kj9 =>
         have H := HA.out
         clear HA
         simp only [spec_l1Encode.j2] at H
         replace H := Option.bind_eq_some_iff.mp H
         obtain ⟨t330, A140, H⟩ := H
         replace H : ((spec_l1Base.f (Int.tmod (wrap64 (Int.tdiv x5_9 4096)) 64)).bind fun t331 => ((spec_l1Base.f (Int.tmod (wrap64 (Int.tdiv x5_9 64)) 64)).bind fun t332 => ((spec_l1Base.f (Int.tmod x5_9 64)).bind fun t333 => ((some (([t330, t331, t332, t333] : List Int) : List Int)).bind fun y334 => (if (wrap64 (x4_1 + 2)) ≥ (l0.length : Int) then (if 3 < (y334.length : Int) then ((some (y334.set (3 : Int).toNat 61 : List Int)).bind fun y337 => (if (wrap64 (x4_1 + 1)) ≥ (l0.length : Int) then (if 2 < (y334.length : Int) then ((some (y337.set (2 : Int).toNat 61 : List Int)).bind fun y338 => (if x3_1.length + y338.length < 140737488355328 then (spec_l1Encode.l0 kj9 l0 (x3_1 ++ y338) (wrap64 (x4_1 + 3))) else (none))) else (none)) else (if x3_1.length + y337.length < 140737488355328 then (spec_l1Encode.l0 kj9 l0 (x3_1 ++ y337) (wrap64 (x4_1 + 3))) else (none)))) else (none)) else (if (wrap64 (x4_1 + 1)) ≥ (l0.length : Int) then (if 2 < (y334.length : Int) then ((some (y334.set (2 : Int).toNat 61 : List Int)).bind fun y345 => (if x3_1.length + y345.length < 140737488355328 then (spec_l1Encode.l0 kj9 l0 (x3_1 ++ y345) (wrap64 (x4_1 + 3))) else (none))) else (none)) else (if x3_1.length + y334.length < 140737488355328 then (spec_l1Encode.l0 kj9 l0 (x3_1 ++ y334) (wrap64 (x4_1 + 3))) else (none)))))))) = some r := H
         have A14 := Aside0.mk A140
         clear A140
         replace H := Option.bind_eq_some_iff.mp H
         obtain ⟨t331, A150, H⟩ := H
         replace H : ((spec_l1Base.f (Int.tmod (wrap64 (Int.tdiv x5_9 64)) 64)).bind fun t332 => ((spec_l1Base.f (Int.tmod x5_9 64)).bind fun t333 => ((some (([t330, t331, t332, t333] : List Int) : List Int)).bind fun y334 => (if (wrap64 (x4_1 + 2)) ≥ (l0.length : Int) then (if 3 < (y334.length : Int) then ((some (y334.set (3 : Int).toNat 61 : List Int)).bind fun y337 => (if (wrap64 (x4_1 + 1)) ≥ (l0.length : Int) then (if 2 < (y334.length : Int) then ((some (y337.set (2 : Int).toNat 61 : List Int)).bind fun y338 => (if x3_1.length + y338.length < 140737488355328 then (spec_l1Encode.l0 kj9 l0 (x3_1 ++ y338) (wrap64 (x4_1 + 3))) else (none))) else (none)) else (if x3_1.length + y337.length < 140737488355328 then (spec_l1Encode.l0 kj9 l0 (x3_1 ++ y337) (wrap64 (x4_1 + 3))) else (none)))) else (none)) else (if (wrap64 (x4_1 + 1)) ≥ (l0.length : Int) then (if 2 < (y334.length : Int) then ((some (y334.set (2 : Int).toNat 61 : List Int)).bind fun y345 => (if x3_1.length + y345.length < 140737488355328 then (spec_l1Encode.l0 kj9 l0 (x3_1 ++ y345) (wrap64 (x4_1 + 3))) else (none))) else (none)) else (if x3_1.length + y334.length < 140737488355328 then (spec_l1Encode.l0 kj9 l0 (x3_1 ++ y334) (wrap64 (x4_1 + 3))) else (none))))))) = some r := H
         have A15 := Aside0.mk A150
         clear A150
         replace H := Option.bind_eq_some_iff.mp H
         obtain ⟨t332, A160, H⟩ := H
         replace H : ((spec_l1Base.f (Int.tmod x5_9 64)).bind fun t333 => ((some (([t330, t331, t332, t333] : List Int) : List Int)).bind fun y334 => (if (wrap64 (x4_1 + 2)) ≥ (l0.length : Int) then (if 3 < (y334.length : Int) then ((some (y334.set (3 : Int).toNat 61 : List Int)).bind fun y337 => (if (wrap64 (x4_1 + 1)) ≥ (l0.length : Int) then (if 2 < (y334.length : Int) then ((some (y337.set (2 : Int).toNat 61 : List Int)).bind fun y338 => (if x3_1.length + y338.length < 140737488355328 then (spec_l1Encode.l0 kj9 l0 (x3_1 ++ y338) (wrap64 (x4_1 + 3))) else (none))) else (none)) else (if x3_1.length + y337.length < 140737488355328 then (spec_l1Encode.l0 kj9 l0 (x3_1 ++ y337) (wrap64 (x4_1 + 3))) else (none)))) else (none)) else (if (wrap64 (x4_1 + 1)) ≥ (l0.length : Int) then (if 2 < (y334.length : Int) then ((some (y334.set (2 : Int).toNat 61 : List Int)).bind fun y345 => (if x3_1.length + y345.length < 140737488355328 then (spec_l1Encode.l0 kj9 l0 (x3_1 ++ y345) (wrap64 (x4_1 + 3))) else (none))) else (none)) else (if x3_1.length + y334.length < 140737488355328 then (spec_l1Encode.l0 kj9 l0 (x3_1 ++ y334) (wrap64 (x4_1 + 3))) else (none)))))) = some r := H
         have A16 := Aside0.mk A160
         clear A160
         replace H := Option.bind_eq_some_iff.mp H
         obtain ⟨t333, A170, H⟩ := H
         replace H : ((some (([t330, t331, t332, t333] : List Int) : List Int)).bind fun y334 => (if (wrap64 (x4_1 + 2)) ≥ (l0.length : Int) then (if 3 < (y334.length : Int) then ((some (y334.set (3 : Int).toNat 61 : List Int)).bind fun y337 => (if (wrap64 (x4_1 + 1)) ≥ (l0.length : Int) then (if 2 < (y334.length : Int) then ((some (y337.set (2 : Int).toNat 61 : List Int)).bind fun y338 => (if x3_1.length + y338.length < 140737488355328 then (spec_l1Encode.l0 kj9 l0 (x3_1 ++ y338) (wrap64 (x4_1 + 3))) else (none))) else (none)) else (if x3_1.length + y337.length < 140737488355328 then (spec_l1Encode.l0 kj9 l0 (x3_1 ++ y337) (wrap64 (x4_1 + 3))) else (none)))) else (none)) else (if (wrap64 (x4_1 + 1)) ≥ (l0.length : Int) then (if 2 < (y334.length : Int) then ((some (y334.set (2 : Int).toNat 61 : List Int)).bind fun y345 => (if x3_1.length + y345.length < 140737488355328 then (spec_l1Encode.l0 kj9 l0 (x3_1 ++ y345) (wrap64 (x4_1 + 3))) else (none))) else (none)) else (if x3_1.length + y334.length < 140737488355328 then (spec_l1Encode.l0 kj9 l0 (x3_1 ++ y334) (wrap64 (x4_1 + 3))) else (none))))) = some r := H
         have A17 := Aside0.mk A170
         clear A170
         obtain ⟨y334, hy334⟩ : ∃ y_ : List Int, y_ = (([t330, t331, t332, t333] : List Int)) := ⟨_, rfl⟩
         replace H : (if (wrap64 (x4_1 + 2)) ≥ (l0.length : Int) then (if 3 < (y334.length : Int) then ((some (y334.set (3 : Int).toNat 61 : List Int)).bind fun y337 => (if (wrap64 (x4_1 + 1)) ≥ (l0.length : Int) then (if 2 < (y334.length : Int) then ((some (y337.set (2 : Int).toNat 61 : List Int)).bind fun y338 => (if x3_1.length + y338.length < 140737488355328 then (spec_l1Encode.l0 kj9 l0 (x3_1 ++ y338) (wrap64 (x4_1 + 3))) else (none))) else (none)) else (if x3_1.length + y337.length < 140737488355328 then (spec_l1Encode.l0 kj9 l0 (x3_1 ++ y337) (wrap64 (x4_1 + 3))) else (none)))) else (none)) else (if (wrap64 (x4_1 + 1)) ≥ (l0.length : Int) then (if 2 < (y334.length : Int) then ((some (y334.set (2 : Int).toNat 61 : List Int)).bind fun y345 => (if x3_1.length + y345.length < 140737488355328 then (spec_l1Encode.l0 kj9 l0 (x3_1 ++ y345) (wrap64 (x4_1 + 3))) else (none))) else (none)) else (if x3_1.length + y334.length < 140737488355328 then (spec_l1Encode.l0 kj9 l0 (x3_1 ++ y334) (wrap64 (x4_1 + 3))) else (none)))) = some r := z3 hy334
         have Ny334 := Aside0.mk hy334
         clear hy334
         by_cases c18 : (wrap64 (x4_1 + 2)) ≥ (l0.length : Int)
         ·rw [if_pos c18] at H
          have c18b0 : decide ((l0.length : Int) ≤ (wrap64 (x4_1 + 2))) = true := decide_eq_true c18
          clear c18
          by_cases c19 : 3 < (y334.length : Int)
          ·rw [if_pos c19] at H
           have c19b0 : decide (3 < (y334.length : Int)) = true := decide_eq_true c19
           have c19b1 : decide (3 < y334.length) = true := decide_eq_true (by omega)
           clear c19
           obtain ⟨y337, hy337⟩ : ∃ y_ : List Int, y_ = (y334.set (3 : Int).toNat 61) := ⟨_, rfl⟩
           replace H : (if (wrap64 (x4_1 + 1)) ≥ (l0.length : Int) then (if 2 < (y334.length : Int) then ((some (y337.set (2 : Int).toNat 61 : List Int)).bind fun y338 => (if x3_1.length + y338.length < 140737488355328 then (spec_l1Encode.l0 kj9 l0 (x3_1 ++ y338) (wrap64 (x4_1 + 3))) else (none))) else (none)) else (if x3_1.length + y337.length < 140737488355328 then (spec_l1Encode.l0 kj9 l0 (x3_1 ++ y337) (wrap64 (x4_1 + 3))) else (none))) = some r := z3 hy337
           have Ny337 := Aside0.mk hy337
           clear hy337
           by_cases c21 : (wrap64 (x4_1 + 1)) ≥ (l0.length : Int)
           ·rw [if_pos c21] at H
            have c21b0 : decide ((l0.length : Int) ≤ (wrap64 (x4_1 + 1))) = true := decide_eq_true c21
            clear c21
            by_cases c22 : 2 < (y334.length : Int)
            ·rw [if_pos c22] at H
             have c22b0 : decide (2 < (y334.length : Int)) = true := decide_eq_true c22
             have c22b1 : decide (2 < y334.length) = true := decide_eq_true (by omega)
             clear c22
             obtain ⟨y338, hy338⟩ : ∃ y_ : List Int, y_ = (y337.set (2 : Int).toNat 61) := ⟨_, rfl⟩
             replace H : (if x3_1.length + y338.length < 140737488355328 then (spec_l1Encode.l0 kj9 l0 (x3_1 ++ y338) (wrap64 (x4_1 + 3))) else (none)) = some r := z3 hy338
             have Ny338 := Aside0.mk hy338
             clear hy338
             by_cases c24 : x3_1.length + y338.length < 140737488355328
             ·rw [if_pos c24] at H
              have LMc24 := Aside0.mk c24
              clear c24
              obtain ⟨y339, hy339⟩ : ∃ y_ : List Int, y_ = (x3_1 ++ y338) := ⟨_, rfl⟩
              replace H : (spec_l1Encode.l0 kj9 l0 y339 (wrap64 (x4_1 + 3))) = some r := z3 hy339
              have Ny339 := Aside0.mk hy339
              clear hy339
              have H' := Aside0.mk H
              clear H
              go_wp2_with (first | ((with_reducible refine gate_callee (f := 121) rfl ?_); refine goesL_ (some 49) rfl rfl Try.func121 (by kernel_rfl) rfl #[.int .i64 (wrap64 (Int.tdiv x5_9 262144))] rfl bM ?_; (with_reducible refine (spec_l1Base.calls (wrap64 (Int.tdiv x5_9 262144)) t330 _ A14.out).mono ?_); rintro e w' ⟨rfl, ⟨nd, rfl⟩⟩; refine ⟨_, rfl, ?_⟩; (try (rw [drewN_self wc]; generalize hq_ : World.drewN wc _ = wc; have n0_ : Aside0 (Kd.R (Kd.int .u8) 5 wc w.heap.size (fun _ => True) u3 x3_1) := ⟨z45⟩; have n1_ : Aside0 (Below w.heap.size w wc) := ⟨by rw [← hq_]; exact bB⟩; clear HO_3 HB hq_; have HO_3 := n0_; have HB := n1_; clear n0_ n1_))) | ((with_reducible refine gate_callee (f := 121) rfl ?_); refine goesL_ (some 53) rfl rfl Try.func121 (by kernel_rfl) rfl #[.int .i64 (Int.tmod (wrap64 (Int.tdiv x5_9 4096)) 64)] rfl bM ?_; (with_reducible refine (spec_l1Base.calls (Int.tmod (wrap64 (Int.tdiv x5_9 4096)) 64) t331 _ A15.out).mono ?_); rintro e w' ⟨rfl, ⟨nd, rfl⟩⟩; refine ⟨_, rfl, ?_⟩; (try (rw [drewN_self wc]; generalize hq_ : World.drewN wc _ = wc; have n0_ : Aside0 (Kd.R (Kd.int .u8) 5 wc w.heap.size (fun _ => True) u3 x3_1) := ⟨z45⟩; have n1_ : Aside0 (Below w.heap.size w wc) := ⟨by rw [← hq_]; exact bB⟩; clear HO_3 HB hq_; have HO_3 := n0_; have HB := n1_; clear n0_ n1_))) | ((with_reducible refine gate_callee (f := 121) rfl ?_); refine goesL_ (some 57) rfl rfl Try.func121 (by kernel_rfl) rfl #[.int .i64 (Int.tmod (wrap64 (Int.tdiv x5_9 64)) 64)] rfl bM ?_; (with_reducible refine (spec_l1Base.calls (Int.tmod (wrap64 (Int.tdiv x5_9 64)) 64) t332 _ A16.out).mono ?_); rintro e w' ⟨rfl, ⟨nd, rfl⟩⟩; refine ⟨_, rfl, ?_⟩; (try (rw [drewN_self wc]; generalize hq_ : World.drewN wc _ = wc; have n0_ : Aside0 (Kd.R (Kd.int .u8) 5 wc w.heap.size (fun _ => True) u3 x3_1) := ⟨z45⟩; have n1_ : Aside0 (Below w.heap.size w wc) := ⟨by rw [← hq_]; exact bB⟩; clear HO_3 HB hq_; have HO_3 := n0_; have HB := n1_; clear n0_ n1_))) | ((with_reducible refine gate_callee (f := 121) rfl ?_); refine goesL_ (some 60) rfl rfl Try.func121 (by kernel_rfl) rfl #[.int .i64 (Int.tmod x5_9 64)] rfl bM ?_; (with_reducible refine (spec_l1Base.calls (Int.tmod x5_9 64) t333 _ A17.out).mono ?_); rintro e w' ⟨rfl, ⟨nd, rfl⟩⟩; refine ⟨_, rfl, ?_⟩; (try (rw [drewN_self wc]; generalize hq_ : World.drewN wc _ = wc; have n0_ : Aside0 (Kd.R (Kd.int .u8) 5 wc w.heap.size (fun _ => True) u3 x3_1) := ⟨z45⟩; have n1_ : Aside0 (Below w.heap.size w wc) := ⟨by rw [← hq_]; exact bB⟩; clear HO_3 HB hq_; have HO_3 := n0_; have HB := n1_; clear n0_ n1_))) | ((with_reducible refine gate_dst (N := 61) rfl ?_); refine Kd.R_lit (Kd.int .u8) _ 5 ?hg (N := 61) ?hd (xs := ([t330, t331, t332, t333] : List Int)) (inner := [.int .u8 t330, .int .u8 t331, .int .u8 t332, .int .u8 t333]) (ok := fun _ => True) (okp := fun _ => True) ?hr ?hp (fun _ hk => hk) trivial (Below.refl _ _) (Nat.le_refl _) (by simp) ?_; (case hd => rfl); (case hg => rfl); (case hr => exact z14); (case hp => exact (Reps.one (show Kd.M (Kd.int .u8) _ _ _ t330 [.int .u8 t330] from rfl) (Reps.one (show Kd.M (Kd.int .u8) _ _ _ t331 [.int .u8 t331] from rfl) (Reps.one (show Kd.M (Kd.int .u8) _ _ _ t332 [.int .u8 t332] from rfl) (Reps.one (show Kd.M (Kd.int .u8) _ _ _ t333 [.int .u8 t333] from rfl) (Reps.none _ _)))))); intro v335 w25 ho26 hb hg_ hnew_; clear hg_ hnew_; (first | rw [← Ny334.out] at ho26 | (simp only [Int.reduceToNat] at ho26; rw [← Ny334.out] at ho26)); have HO336 := Aside0.mk (Kd.R_lower (Kd.R_new' ho26 (Kd.R_lt (bR HO_3))) (below_size bB)); replace HO_3 := Aside0.mk (Kd.R_elder' (bR HO_3) (Kd.R_base ho26) hb); replace HB := Aside0.mk (below_step bB hb); clear hb ho26; have p20 : 0 ≤ (3 : Int) := (by omega); have q20 : (3 : Int) < ((y334.length : Int) : Int) := pI; have qi20 : (3 < y334.length) = True := eq_true (by omega); obtain ⟨go20, co20, eo20, gb20, gl20, cl20, HG20⟩ := Kd.R_form HO336.out (by omega); (first | cases eo20 | (injection eo20 with ea_ en_ ec_; (first | subst ea_ | (injection ea_ with ea_; subst ea_)); subst ec_; clear en_)); have GB20 := Aside0.mk gb20; have GG20 := Aside0.mk HG20; clear gb20 gl20 HG20; obtain ⟨hx20_0, hf20_0⟩ := Kd.R_celln 0 HO336.out (3 : Int) p20 q20; (try rw [show ((3 : Int)).toNat = 3 from rfl] at hx20_0); (try simp only [Nat.reduceMul, Nat.zero_mul, Nat.zero_add, Nat.reduceAdd] at hx20_0); (try rw [show ((3 : Int)).toNat = 3 from rfl] at hf20_0); (try simp only [Nat.reduceMul, Nat.zero_mul, Nat.zero_add, Nat.reduceAdd] at hf20_0); replace p20 := eq_true p20; replace q20 := eq_true q20; have n_ := Aside0.mk (Kd.R_mono (ok' := (fun k_ => some k_ ≠ (u3 : Value).ownBlock)) HO336.out (fun k_ hk => hk.2)); clear HO336; have HO336 := n_; clear n_; obtain ⟨hy27_, hz27_⟩ := Kd.R_celln 0 HO336.out (3 : Int) (by omega) (pI); (try simp only [Int.reduceToNat, Int.toNat_zero, Int.toNat_ofNat, Nat.reduceMul, Nat.zero_mul, Nat.zero_add] at hy27_ hz27_); (try rw [show ((3 : Int)).toNat = 3 from rfl] at hy27_); (try rw [show ((3 : Int)).toNat = 3 from rfl] at hz27_); have HP27 := Kd.R_putg HO336.out (3 : Int) 61) | ((with_reducible refine gate_store (t := 5) (p := 68) rfl ?_); refine store_event (t := 5) (p := 68) (v := ?vo_w28) (w1 := (w25.setCell ⟨go20, (3 : Int).toNat, none⟩ (.int .u8 61))) ?hg ?ho ?hn ?hr ?_; (case ho => rfl); (case hg => rfl); (case hn => rfl); (case hr => exact z14); intro w28 hw; have hg : w25.grownBy w28 (some go20) := (by rw [hw]; exact HP27.2); have hp_ : Kd.R (Kd.int .u8) 5 w28 w.heap.size (fun k_ => some k_ ≠ (u3 : Value).ownBlock) (.slice (some ⟨go20, 0, none⟩) y334.length co20) y337 := (by rw [hw, Ny337.out]; exact HP27.1); clear HP27; replace HO_3 := Aside0.mk (Kd.R_after (v := (.slice (some ⟨go20, 0, none⟩) y334.length co20)) (v1 := (.slice (some ⟨go20, 0, none⟩) y334.length co20)) (ok := (fun _ => True)) (bR HO_3) hg (.inl rfl)); replace HO336 := Aside0.mk (hp_); replace HB := Aside0.mk ((z47 GB20.out : Below w.heap.size w w28)); clear hg hw hp_; have p23 : 0 ≤ (2 : Int) := (by omega); have q23 : (2 : Int) < ((y334.length : Int) : Int) := pI; have qi23 : (2 < y334.length) = True := eq_true (by omega); obtain ⟨hx23_0, hf23_0⟩ := Kd.R_celln 0 HO336.out (2 : Int) p23 q23; (try rw [show ((2 : Int)).toNat = 2 from rfl] at hx23_0); (try simp only [Nat.reduceMul, Nat.zero_mul, Nat.zero_add, Nat.reduceAdd] at hx23_0); (try rw [show ((2 : Int)).toNat = 2 from rfl] at hf23_0); (try simp only [Nat.reduceMul, Nat.zero_mul, Nat.zero_add, Nat.reduceAdd] at hf23_0); replace p23 := eq_true p23; replace q23 := eq_true q23; obtain ⟨hy29_, hz29_⟩ := Kd.R_celln 0 HO336.out (2 : Int) (by omega) (pI); (try simp only [Int.reduceToNat, Int.toNat_zero, Int.toNat_ofNat, Nat.reduceMul, Nat.zero_mul, Nat.zero_add] at hy29_ hz29_); (try rw [show ((2 : Int)).toNat = 2 from rfl] at hy29_); (try rw [show ((2 : Int)).toNat = 2 from rfl] at hz29_); have HP29 := Kd.R_putg HO336.out (2 : Int) 61) | ((with_reducible refine gate_store (t := 5) (p := 75) rfl ?_); refine store_event (t := 5) (p := 75) (v := ?vo_w30) (w1 := (w28.setCell ⟨go20, (2 : Int).toNat, none⟩ (.int .u8 61))) ?hg ?ho ?hn ?hr ?_; (case ho => rfl); (case hg => rfl); (case hn => rfl); (case hr => exact z14); intro w30 hw; have hg : w28.grownBy w30 (some go20) := (by rw [hw]; exact HP29.2); have hp_ : Kd.R (Kd.int .u8) 5 w30 w.heap.size (fun k_ => some k_ ≠ (u3 : Value).ownBlock) (.slice (some ⟨go20, 0, none⟩) y334.length co20) y338 := (by rw [hw, Ny338.out]; exact HP29.1); clear HP29; replace HO_3 := Aside0.mk (Kd.R_after (v := (.slice (some ⟨go20, 0, none⟩) y334.length co20)) (v1 := (.slice (some ⟨go20, 0, none⟩) y334.length co20)) (ok := (fun _ => True)) (bR HO_3) hg (.inl rfl)); replace HO336 := Aside0.mk (hp_); replace HB := Aside0.mk ((z47 GB20.out : Below w.heap.size w w30)); clear hg hw hp_) | ((with_reducible refine gate_builtin (b := .append) (xs := #[.tmp 76, .tmp 77]) rfl ?_); at_builtin; refine Kd.R_append_rows (Kd.int .u8) (w0 := w) w.heap.size rfl (.tmp 76) (.tmp 77) 22 5 (.int .u8 0) 1 rfl Try.underlying22 info5 rfl (by decide) (by omega) u3 x3_1 y338 _ _ _ (fun k_ => some k_ ≠ (.slice (some ⟨go20, 0, none⟩) y334.length co20 : Value).ownBlock) (fun _ => False) rfl rfl ?aO ?aR (fun _ _ h => h) (fun _ h => h.elim) ?aF ?aB ?aS ?aL ?_; (case aR => rw [show y334.length = y338.length from (Kd.R_reads' HO336.out).1]; repeat (first | exact (Kd.R_reads' HO336.out).2.2 | (with_reducible refine Kd.C_alloc ?_ _) | (with_reducible refine Kd.C_drewN ?_ _) | (with_reducible refine Kd.C_drew ?_))); (case aB => exact bB); (case aF => exact (fun k_ hk => Kd.fresh' (Kd.R_lt (bR HO336)) k_ hk)); (case aO => exact z17 HO_3.out); (case aS => exact (below_size bB)); (case aL => have := LMc24.out; have hlx_ := (Kd.R_reads' HO336.out).1; omega); intro v340 w31 ho hb hg hat; rw [← Ny339.out] at ho; have n0_ := Aside0.mk (Kd.R_after (ok := (fun _ => True)) (z32 HO336.out) hg hat); have n1_ := Aside0.mk (hb); have n2_ := Aside0.mk (ho); clear HO336; clear HB; clear HO_3; have HO336 := n0_; have HB := n1_; have HO341 := n2_; clear n0_ n1_ n2_; clear ho hb hg hat))
              go_roundg kj9
              case measure => have := HK1.out; have := HJ5.out; have := HJ9.out; omega
              case rel => exact ⟨(y339), (wrap64 (x4_1 + 3)), bS, H', ⟨by have := HK1.out; have := HJ5.out; have := HJ9.out; omega⟩, ⟨z15 HO341.out⟩, ⟨bB⟩⟩
             ·rw [if_neg c24] at H
              exact absurd H (by simp)
            ·rw [if_neg c22] at H
             exact absurd H (by simp)
           ·rw [if_neg c21] at H
            have c21b0 : decide ((l0.length : Int) ≤ (wrap64 (x4_1 + 1))) = false := decide_eq_false c21
            clear c21
            by_cases c32 : x3_1.length + y337.length < 140737488355328
            ·rw [if_pos c32] at H
             have LMc32 := Aside0.mk c32
             clear c32
             obtain ⟨y342, hy342⟩ : ∃ y_ : List Int, y_ = (x3_1 ++ y337) := ⟨_, rfl⟩
             replace H : (spec_l1Encode.l0 kj9 l0 y342 (wrap64 (x4_1 + 3))) = some r := z3 hy342
             have Ny342 := Aside0.mk hy342
             clear hy342
             have H' := Aside0.mk H
             clear H
             go_wp2_with (first | ((with_reducible refine gate_callee (f := 121) rfl ?_); refine goesL_ (some 49) rfl rfl Try.func121 (by kernel_rfl) rfl #[.int .i64 (wrap64 (Int.tdiv x5_9 262144))] rfl bM ?_; (with_reducible refine (spec_l1Base.calls (wrap64 (Int.tdiv x5_9 262144)) t330 _ A14.out).mono ?_); rintro e w' ⟨rfl, ⟨nd, rfl⟩⟩; refine ⟨_, rfl, ?_⟩; (try (rw [drewN_self wc]; generalize hq_ : World.drewN wc _ = wc; have n0_ : Aside0 (Kd.R (Kd.int .u8) 5 wc w.heap.size (fun _ => True) u3 x3_1) := ⟨z45⟩; have n1_ : Aside0 (Below w.heap.size w wc) := ⟨by rw [← hq_]; exact bB⟩; clear HO_3 HB hq_; have HO_3 := n0_; have HB := n1_; clear n0_ n1_))) | ((with_reducible refine gate_callee (f := 121) rfl ?_); refine goesL_ (some 53) rfl rfl Try.func121 (by kernel_rfl) rfl #[.int .i64 (Int.tmod (wrap64 (Int.tdiv x5_9 4096)) 64)] rfl bM ?_; (with_reducible refine (spec_l1Base.calls (Int.tmod (wrap64 (Int.tdiv x5_9 4096)) 64) t331 _ A15.out).mono ?_); rintro e w' ⟨rfl, ⟨nd, rfl⟩⟩; refine ⟨_, rfl, ?_⟩; (try (rw [drewN_self wc]; generalize hq_ : World.drewN wc _ = wc; have n0_ : Aside0 (Kd.R (Kd.int .u8) 5 wc w.heap.size (fun _ => True) u3 x3_1) := ⟨z45⟩; have n1_ : Aside0 (Below w.heap.size w wc) := ⟨by rw [← hq_]; exact bB⟩; clear HO_3 HB hq_; have HO_3 := n0_; have HB := n1_; clear n0_ n1_))) | ((with_reducible refine gate_callee (f := 121) rfl ?_); refine goesL_ (some 57) rfl rfl Try.func121 (by kernel_rfl) rfl #[.int .i64 (Int.tmod (wrap64 (Int.tdiv x5_9 64)) 64)] rfl bM ?_; (with_reducible refine (spec_l1Base.calls (Int.tmod (wrap64 (Int.tdiv x5_9 64)) 64) t332 _ A16.out).mono ?_); rintro e w' ⟨rfl, ⟨nd, rfl⟩⟩; refine ⟨_, rfl, ?_⟩; (try (rw [drewN_self wc]; generalize hq_ : World.drewN wc _ = wc; have n0_ : Aside0 (Kd.R (Kd.int .u8) 5 wc w.heap.size (fun _ => True) u3 x3_1) := ⟨z45⟩; have n1_ : Aside0 (Below w.heap.size w wc) := ⟨by rw [← hq_]; exact bB⟩; clear HO_3 HB hq_; have HO_3 := n0_; have HB := n1_; clear n0_ n1_))) | ((with_reducible refine gate_callee (f := 121) rfl ?_); refine goesL_ (some 60) rfl rfl Try.func121 (by kernel_rfl) rfl #[.int .i64 (Int.tmod x5_9 64)] rfl bM ?_; (with_reducible refine (spec_l1Base.calls (Int.tmod x5_9 64) t333 _ A17.out).mono ?_); rintro e w' ⟨rfl, ⟨nd, rfl⟩⟩; refine ⟨_, rfl, ?_⟩; (try (rw [drewN_self wc]; generalize hq_ : World.drewN wc _ = wc; have n0_ : Aside0 (Kd.R (Kd.int .u8) 5 wc w.heap.size (fun _ => True) u3 x3_1) := ⟨z45⟩; have n1_ : Aside0 (Below w.heap.size w wc) := ⟨by rw [← hq_]; exact bB⟩; clear HO_3 HB hq_; have HO_3 := n0_; have HB := n1_; clear n0_ n1_))) | ((with_reducible refine gate_dst (N := 61) rfl ?_); refine Kd.R_lit (Kd.int .u8) _ 5 ?hg (N := 61) ?hd (xs := ([t330, t331, t332, t333] : List Int)) (inner := [.int .u8 t330, .int .u8 t331, .int .u8 t332, .int .u8 t333]) (ok := fun _ => True) (okp := fun _ => True) ?hr ?hp (fun _ hk => hk) trivial (Below.refl _ _) (Nat.le_refl _) (by simp) ?_; (case hd => rfl); (case hg => rfl); (case hr => exact z14); (case hp => exact (Reps.one (show Kd.M (Kd.int .u8) _ _ _ t330 [.int .u8 t330] from rfl) (Reps.one (show Kd.M (Kd.int .u8) _ _ _ t331 [.int .u8 t331] from rfl) (Reps.one (show Kd.M (Kd.int .u8) _ _ _ t332 [.int .u8 t332] from rfl) (Reps.one (show Kd.M (Kd.int .u8) _ _ _ t333 [.int .u8 t333] from rfl) (Reps.none _ _)))))); intro v335 w33 ho34 hb hg_ hnew_; clear hg_ hnew_; (first | rw [← Ny334.out] at ho34 | (simp only [Int.reduceToNat] at ho34; rw [← Ny334.out] at ho34)); have HO336 := Aside0.mk (Kd.R_lower (Kd.R_new' ho34 (Kd.R_lt (bR HO_3))) (below_size bB)); replace HO_3 := Aside0.mk (Kd.R_elder' (bR HO_3) (Kd.R_base ho34) hb); replace HB := Aside0.mk (below_step bB hb); clear hb ho34; have p20 : 0 ≤ (3 : Int) := (by omega); have q20 : (3 : Int) < ((y334.length : Int) : Int) := pI; have qi20 : (3 < y334.length) = True := eq_true (by omega); obtain ⟨go20, co20, eo20, gb20, gl20, cl20, HG20⟩ := Kd.R_form HO336.out (by omega); (first | cases eo20 | (injection eo20 with ea_ en_ ec_; (first | subst ea_ | (injection ea_ with ea_; subst ea_)); subst ec_; clear en_)); have GB20 := Aside0.mk gb20; have GG20 := Aside0.mk HG20; clear gb20 gl20 HG20; obtain ⟨hx20_0, hf20_0⟩ := Kd.R_celln 0 HO336.out (3 : Int) p20 q20; (try rw [show ((3 : Int)).toNat = 3 from rfl] at hx20_0); (try simp only [Nat.reduceMul, Nat.zero_mul, Nat.zero_add, Nat.reduceAdd] at hx20_0); (try rw [show ((3 : Int)).toNat = 3 from rfl] at hf20_0); (try simp only [Nat.reduceMul, Nat.zero_mul, Nat.zero_add, Nat.reduceAdd] at hf20_0); replace p20 := eq_true p20; replace q20 := eq_true q20; have n_ := Aside0.mk (Kd.R_mono (ok' := (fun k_ => some k_ ≠ (u3 : Value).ownBlock)) HO336.out (fun k_ hk => hk.2)); clear HO336; have HO336 := n_; clear n_; obtain ⟨hy35_, hz35_⟩ := Kd.R_celln 0 HO336.out (3 : Int) (by omega) (pI); (try simp only [Int.reduceToNat, Int.toNat_zero, Int.toNat_ofNat, Nat.reduceMul, Nat.zero_mul, Nat.zero_add] at hy35_ hz35_); (try rw [show ((3 : Int)).toNat = 3 from rfl] at hy35_); (try rw [show ((3 : Int)).toNat = 3 from rfl] at hz35_); have HP35 := Kd.R_putg HO336.out (3 : Int) 61) | ((with_reducible refine gate_store (t := 5) (p := 68) rfl ?_); refine store_event (t := 5) (p := 68) (v := ?vo_w36) (w1 := (w33.setCell ⟨go20, (3 : Int).toNat, none⟩ (.int .u8 61))) ?hg ?ho ?hn ?hr ?_; (case ho => rfl); (case hg => rfl); (case hn => rfl); (case hr => exact z14); intro w36 hw; have hg : w33.grownBy w36 (some go20) := (by rw [hw]; exact HP35.2); have hp_ : Kd.R (Kd.int .u8) 5 w36 w.heap.size (fun k_ => some k_ ≠ (u3 : Value).ownBlock) (.slice (some ⟨go20, 0, none⟩) y334.length co20) y337 := (by rw [hw, Ny337.out]; exact HP35.1); clear HP35; replace HO_3 := Aside0.mk (Kd.R_after (v := (.slice (some ⟨go20, 0, none⟩) y334.length co20)) (v1 := (.slice (some ⟨go20, 0, none⟩) y334.length co20)) (ok := (fun _ => True)) (bR HO_3) hg (.inl rfl)); replace HO336 := Aside0.mk (hp_); replace HB := Aside0.mk ((z47 GB20.out : Below w.heap.size w w36)); clear hg hw hp_) | ((with_reducible refine gate_builtin (b := .append) (xs := #[.tmp 76, .tmp 77]) rfl ?_); at_builtin; refine Kd.R_append_rows (Kd.int .u8) (w0 := w) w.heap.size rfl (.tmp 76) (.tmp 77) 22 5 (.int .u8 0) 1 rfl Try.underlying22 info5 rfl (by decide) (by omega) u3 x3_1 y337 _ _ _ (fun k_ => some k_ ≠ (.slice (some ⟨go20, 0, none⟩) y334.length co20 : Value).ownBlock) (fun _ => False) rfl rfl ?aO ?aR (fun _ _ h => h) (fun _ h => h.elim) ?aF ?aB ?aS ?aL ?_; (case aR => rw [show y334.length = y337.length from (Kd.R_reads' HO336.out).1]; repeat (first | exact (Kd.R_reads' HO336.out).2.2 | (with_reducible refine Kd.C_alloc ?_ _) | (with_reducible refine Kd.C_drewN ?_ _) | (with_reducible refine Kd.C_drew ?_))); (case aB => exact bB); (case aF => exact (fun k_ hk => Kd.fresh' (Kd.R_lt (bR HO336)) k_ hk)); (case aO => exact z17 HO_3.out); (case aS => exact (below_size bB)); (case aL => have := LMc32.out; have hlx_ := (Kd.R_reads' HO336.out).1; omega); intro v343 w37 ho hb hg hat; rw [← Ny342.out] at ho; have n0_ := Aside0.mk (Kd.R_after (ok := (fun _ => True)) (z32 HO336.out) hg hat); have n1_ := Aside0.mk (hb); have n2_ := Aside0.mk (ho); clear HO336; clear HB; clear HO_3; have HO336 := n0_; have HB := n1_; have HO344 := n2_; clear n0_ n1_ n2_; clear ho hb hg hat))
             go_roundg kj9
             case measure => have := HK1.out; have := HJ5.out; have := HJ9.out; omega
             case rel => exact ⟨(y342), (wrap64 (x4_1 + 3)), bS, H', ⟨by have := HK1.out; have := HJ5.out; have := HJ9.out; omega⟩, ⟨z15 HO344.out⟩, ⟨bB⟩⟩
            ·rw [if_neg c32] at H
             exact absurd H (by simp)
          ·rw [if_neg c19] at H
           exact absurd H (by simp)
         ·rw [if_neg c18] at H
          have c18b0 : decide ((l0.length : Int) ≤ (wrap64 (x4_1 + 2))) = false := decide_eq_false c18
          clear c18
          by_cases c38 : (wrap64 (x4_1 + 1)) ≥ (l0.length : Int)
          ·rw [if_pos c38] at H
           have c38b0 : decide ((l0.length : Int) ≤ (wrap64 (x4_1 + 1))) = true := decide_eq_true c38
           clear c38
           by_cases c39 : 2 < (y334.length : Int)
           ·rw [if_pos c39] at H
            have c39b0 : decide (2 < (y334.length : Int)) = true := decide_eq_true c39
            have c39b1 : decide (2 < y334.length) = true := decide_eq_true (by omega)
            clear c39
            obtain ⟨y345, hy345⟩ : ∃ y_ : List Int, y_ = (y334.set (2 : Int).toNat 61) := ⟨_, rfl⟩
            replace H : (if x3_1.length + y345.length < 140737488355328 then (spec_l1Encode.l0 kj9 l0 (x3_1 ++ y345) (wrap64 (x4_1 + 3))) else (none)) = some r := z3 hy345
            have Ny345 := Aside0.mk hy345
            clear hy345
            by_cases c41 : x3_1.length + y345.length < 140737488355328
            ·rw [if_pos c41] at H
             have LMc41 := Aside0.mk c41
             clear c41
             obtain ⟨y346, hy346⟩ : ∃ y_ : List Int, y_ = (x3_1 ++ y345) := ⟨_, rfl⟩
             replace H : (spec_l1Encode.l0 kj9 l0 y346 (wrap64 (x4_1 + 3))) = some r := z3 hy346
             have Ny346 := Aside0.mk hy346
             clear hy346
             have H' := Aside0.mk H
             clear H
             go_wp2_with (first | ((with_reducible refine gate_callee (f := 121) rfl ?_); refine goesL_ (some 49) rfl rfl Try.func121 (by kernel_rfl) rfl #[.int .i64 (wrap64 (Int.tdiv x5_9 262144))] rfl bM ?_; (with_reducible refine (spec_l1Base.calls (wrap64 (Int.tdiv x5_9 262144)) t330 _ A14.out).mono ?_); rintro e w' ⟨rfl, ⟨nd, rfl⟩⟩; refine ⟨_, rfl, ?_⟩; (try (rw [drewN_self wc]; generalize hq_ : World.drewN wc _ = wc; have n0_ : Aside0 (Kd.R (Kd.int .u8) 5 wc w.heap.size (fun _ => True) u3 x3_1) := ⟨z45⟩; have n1_ : Aside0 (Below w.heap.size w wc) := ⟨by rw [← hq_]; exact bB⟩; clear HO_3 HB hq_; have HO_3 := n0_; have HB := n1_; clear n0_ n1_))) | ((with_reducible refine gate_callee (f := 121) rfl ?_); refine goesL_ (some 53) rfl rfl Try.func121 (by kernel_rfl) rfl #[.int .i64 (Int.tmod (wrap64 (Int.tdiv x5_9 4096)) 64)] rfl bM ?_; (with_reducible refine (spec_l1Base.calls (Int.tmod (wrap64 (Int.tdiv x5_9 4096)) 64) t331 _ A15.out).mono ?_); rintro e w' ⟨rfl, ⟨nd, rfl⟩⟩; refine ⟨_, rfl, ?_⟩; (try (rw [drewN_self wc]; generalize hq_ : World.drewN wc _ = wc; have n0_ : Aside0 (Kd.R (Kd.int .u8) 5 wc w.heap.size (fun _ => True) u3 x3_1) := ⟨z45⟩; have n1_ : Aside0 (Below w.heap.size w wc) := ⟨by rw [← hq_]; exact bB⟩; clear HO_3 HB hq_; have HO_3 := n0_; have HB := n1_; clear n0_ n1_))) | ((with_reducible refine gate_callee (f := 121) rfl ?_); refine goesL_ (some 57) rfl rfl Try.func121 (by kernel_rfl) rfl #[.int .i64 (Int.tmod (wrap64 (Int.tdiv x5_9 64)) 64)] rfl bM ?_; (with_reducible refine (spec_l1Base.calls (Int.tmod (wrap64 (Int.tdiv x5_9 64)) 64) t332 _ A16.out).mono ?_); rintro e w' ⟨rfl, ⟨nd, rfl⟩⟩; refine ⟨_, rfl, ?_⟩; (try (rw [drewN_self wc]; generalize hq_ : World.drewN wc _ = wc; have n0_ : Aside0 (Kd.R (Kd.int .u8) 5 wc w.heap.size (fun _ => True) u3 x3_1) := ⟨z45⟩; have n1_ : Aside0 (Below w.heap.size w wc) := ⟨by rw [← hq_]; exact bB⟩; clear HO_3 HB hq_; have HO_3 := n0_; have HB := n1_; clear n0_ n1_))) | ((with_reducible refine gate_callee (f := 121) rfl ?_); refine goesL_ (some 60) rfl rfl Try.func121 (by kernel_rfl) rfl #[.int .i64 (Int.tmod x5_9 64)] rfl bM ?_; (with_reducible refine (spec_l1Base.calls (Int.tmod x5_9 64) t333 _ A17.out).mono ?_); rintro e w' ⟨rfl, ⟨nd, rfl⟩⟩; refine ⟨_, rfl, ?_⟩; (try (rw [drewN_self wc]; generalize hq_ : World.drewN wc _ = wc; have n0_ : Aside0 (Kd.R (Kd.int .u8) 5 wc w.heap.size (fun _ => True) u3 x3_1) := ⟨z45⟩; have n1_ : Aside0 (Below w.heap.size w wc) := ⟨by rw [← hq_]; exact bB⟩; clear HO_3 HB hq_; have HO_3 := n0_; have HB := n1_; clear n0_ n1_))) | ((with_reducible refine gate_dst (N := 61) rfl ?_); refine Kd.R_lit (Kd.int .u8) _ 5 ?hg (N := 61) ?hd (xs := ([t330, t331, t332, t333] : List Int)) (inner := [.int .u8 t330, .int .u8 t331, .int .u8 t332, .int .u8 t333]) (ok := fun _ => True) (okp := fun _ => True) ?hr ?hp (fun _ hk => hk) trivial (Below.refl _ _) (Nat.le_refl _) (by simp) ?_; (case hd => rfl); (case hg => rfl); (case hr => exact z14); (case hp => exact (Reps.one (show Kd.M (Kd.int .u8) _ _ _ t330 [.int .u8 t330] from rfl) (Reps.one (show Kd.M (Kd.int .u8) _ _ _ t331 [.int .u8 t331] from rfl) (Reps.one (show Kd.M (Kd.int .u8) _ _ _ t332 [.int .u8 t332] from rfl) (Reps.one (show Kd.M (Kd.int .u8) _ _ _ t333 [.int .u8 t333] from rfl) (Reps.none _ _)))))); intro v335 w42 ho43 hb hg_ hnew_; clear hg_ hnew_; (first | rw [← Ny334.out] at ho43 | (simp only [Int.reduceToNat] at ho43; rw [← Ny334.out] at ho43)); have HO336 := Aside0.mk (Kd.R_lower (Kd.R_new' ho43 (Kd.R_lt (bR HO_3))) (below_size bB)); replace HO_3 := Aside0.mk (Kd.R_elder' (bR HO_3) (Kd.R_base ho43) hb); replace HB := Aside0.mk (below_step bB hb); clear hb ho43; have p40 : 0 ≤ (2 : Int) := (by omega); have q40 : (2 : Int) < ((y334.length : Int) : Int) := pI; have qi40 : (2 < y334.length) = True := eq_true (by omega); obtain ⟨go40, co40, eo40, gb40, gl40, cl40, HG40⟩ := Kd.R_form HO336.out (by omega); (first | cases eo40 | (injection eo40 with ea_ en_ ec_; (first | subst ea_ | (injection ea_ with ea_; subst ea_)); subst ec_; clear en_)); have GB40 := Aside0.mk gb40; have GG40 := Aside0.mk HG40; clear gb40 gl40 HG40; obtain ⟨hx40_0, hf40_0⟩ := Kd.R_celln 0 HO336.out (2 : Int) p40 q40; (try rw [show ((2 : Int)).toNat = 2 from rfl] at hx40_0); (try simp only [Nat.reduceMul, Nat.zero_mul, Nat.zero_add, Nat.reduceAdd] at hx40_0); (try rw [show ((2 : Int)).toNat = 2 from rfl] at hf40_0); (try simp only [Nat.reduceMul, Nat.zero_mul, Nat.zero_add, Nat.reduceAdd] at hf40_0); replace p40 := eq_true p40; replace q40 := eq_true q40; have n_ := Aside0.mk (Kd.R_mono (ok' := (fun k_ => some k_ ≠ (u3 : Value).ownBlock)) HO336.out (fun k_ hk => hk.2)); clear HO336; have HO336 := n_; clear n_; obtain ⟨hy44_, hz44_⟩ := Kd.R_celln 0 HO336.out (2 : Int) (by omega) (pI); (try simp only [Int.reduceToNat, Int.toNat_zero, Int.toNat_ofNat, Nat.reduceMul, Nat.zero_mul, Nat.zero_add] at hy44_ hz44_); (try rw [show ((2 : Int)).toNat = 2 from rfl] at hy44_); (try rw [show ((2 : Int)).toNat = 2 from rfl] at hz44_); have HP44 := Kd.R_putg HO336.out (2 : Int) 61) | ((with_reducible refine gate_store (t := 5) (p := 75) rfl ?_); refine store_event (t := 5) (p := 75) (v := ?vo_w45) (w1 := (w42.setCell ⟨go40, (2 : Int).toNat, none⟩ (.int .u8 61))) ?hg ?ho ?hn ?hr ?_; (case ho => rfl); (case hg => rfl); (case hn => rfl); (case hr => exact z14); intro w45 hw; have hg : w42.grownBy w45 (some go40) := (by rw [hw]; exact HP44.2); have hp_ : Kd.R (Kd.int .u8) 5 w45 w.heap.size (fun k_ => some k_ ≠ (u3 : Value).ownBlock) (.slice (some ⟨go40, 0, none⟩) y334.length co40) y345 := (by rw [hw, Ny345.out]; exact HP44.1); clear HP44; replace HO_3 := Aside0.mk (Kd.R_after (v := (.slice (some ⟨go40, 0, none⟩) y334.length co40)) (v1 := (.slice (some ⟨go40, 0, none⟩) y334.length co40)) (ok := (fun _ => True)) (bR HO_3) hg (.inl rfl)); replace HO336 := Aside0.mk (hp_); replace HB := Aside0.mk ((z47 GB40.out : Below w.heap.size w w45)); clear hg hw hp_) | ((with_reducible refine gate_builtin (b := .append) (xs := #[.tmp 76, .tmp 77]) rfl ?_); at_builtin; refine Kd.R_append_rows (Kd.int .u8) (w0 := w) w.heap.size rfl (.tmp 76) (.tmp 77) 22 5 (.int .u8 0) 1 rfl Try.underlying22 info5 rfl (by decide) (by omega) u3 x3_1 y345 _ _ _ (fun k_ => some k_ ≠ (.slice (some ⟨go40, 0, none⟩) y334.length co40 : Value).ownBlock) (fun _ => False) rfl rfl ?aO ?aR (fun _ _ h => h) (fun _ h => h.elim) ?aF ?aB ?aS ?aL ?_; (case aR => rw [show y334.length = y345.length from (Kd.R_reads' HO336.out).1]; repeat (first | exact (Kd.R_reads' HO336.out).2.2 | (with_reducible refine Kd.C_alloc ?_ _) | (with_reducible refine Kd.C_drewN ?_ _) | (with_reducible refine Kd.C_drew ?_))); (case aB => exact bB); (case aF => exact (fun k_ hk => Kd.fresh' (Kd.R_lt (bR HO336)) k_ hk)); (case aO => exact z17 HO_3.out); (case aS => exact (below_size bB)); (case aL => have := LMc41.out; have hlx_ := (Kd.R_reads' HO336.out).1; omega); intro v347 w46 ho hb hg hat; rw [← Ny346.out] at ho; have n0_ := Aside0.mk (Kd.R_after (ok := (fun _ => True)) (z32 HO336.out) hg hat); have n1_ := Aside0.mk (hb); have n2_ := Aside0.mk (ho); clear HO336; clear HB; clear HO_3; have HO336 := n0_; have HB := n1_; have HO348 := n2_; clear n0_ n1_ n2_; clear ho hb hg hat))
             go_roundg kj9
             case measure => have := HK1.out; have := HJ5.out; have := HJ9.out; omega
             case rel => exact ⟨(y346), (wrap64 (x4_1 + 3)), bS, H', ⟨by have := HK1.out; have := HJ5.out; have := HJ9.out; omega⟩, ⟨z15 HO348.out⟩, ⟨bB⟩⟩
            ·rw [if_neg c41] at H
             exact absurd H (by simp)
           ·rw [if_neg c39] at H
            exact absurd H (by simp)
          ·rw [if_neg c38] at H
           have c38b0 : decide ((l0.length : Int) ≤ (wrap64 (x4_1 + 1))) = false := decide_eq_false c38
           clear c38
           by_cases c47 : x3_1.length + y334.length < 140737488355328
           ·rw [if_pos c47] at H
            have LMc47 := Aside0.mk c47
            clear c47
            obtain ⟨y349, hy349⟩ : ∃ y_ : List Int, y_ = (x3_1 ++ y334) := ⟨_, rfl⟩
            replace H : (spec_l1Encode.l0 kj9 l0 y349 (wrap64 (x4_1 + 3))) = some r := z3 hy349
            have Ny349 := Aside0.mk hy349
            clear hy349
            have H' := Aside0.mk H
            clear H
            go_wp2_with (first | ((with_reducible refine gate_callee (f := 121) rfl ?_); refine goesL_ (some 49) rfl rfl Try.func121 (by kernel_rfl) rfl #[.int .i64 (wrap64 (Int.tdiv x5_9 262144))] rfl bM ?_; (with_reducible refine (spec_l1Base.calls (wrap64 (Int.tdiv x5_9 262144)) t330 _ A14.out).mono ?_); rintro e w' ⟨rfl, ⟨nd, rfl⟩⟩; refine ⟨_, rfl, ?_⟩) | ((with_reducible refine gate_callee (f := 121) rfl ?_); refine goesL_ (some 53) rfl rfl Try.func121 (by kernel_rfl) rfl #[.int .i64 (Int.tmod (wrap64 (Int.tdiv x5_9 4096)) 64)] rfl bM ?_; (with_reducible refine (spec_l1Base.calls (Int.tmod (wrap64 (Int.tdiv x5_9 4096)) 64) t331 _ A15.out).mono ?_); rintro e w' ⟨rfl, ⟨nd, rfl⟩⟩; refine ⟨_, rfl, ?_⟩) | ((with_reducible refine gate_callee (f := 121) rfl ?_); refine goesL_ (some 57) rfl rfl Try.func121 (by kernel_rfl) rfl #[.int .i64 (Int.tmod (wrap64 (Int.tdiv x5_9 64)) 64)] rfl bM ?_; (with_reducible refine (spec_l1Base.calls (Int.tmod (wrap64 (Int.tdiv x5_9 64)) 64) t332 _ A16.out).mono ?_); rintro e w' ⟨rfl, ⟨nd, rfl⟩⟩; refine ⟨_, rfl, ?_⟩) | ((with_reducible refine gate_callee (f := 121) rfl ?_); refine goesL_ (some 60) rfl rfl Try.func121 (by kernel_rfl) rfl #[.int .i64 (Int.tmod x5_9 64)] rfl bM ?_; (with_reducible refine (spec_l1Base.calls (Int.tmod x5_9 64) t333 _ A17.out).mono ?_); rintro e w' ⟨rfl, ⟨nd, rfl⟩⟩; refine ⟨_, rfl, ?_⟩) | ((with_reducible refine gate_dst (N := 61) rfl ?_); refine Kd.R_lit (Kd.int .u8) _ 5 ?hg (N := 61) ?hd (xs := ([t330, t331, t332, t333] : List Int)) (inner := [.int .u8 t330, .int .u8 t331, .int .u8 t332, .int .u8 t333]) (ok := fun _ => True) (okp := fun _ => True) ?hr ?hp (fun _ hk => hk) trivial (Below.refl _ _) (Nat.le_refl _) (by simp) ?_; (case hd => rfl); (case hg => rfl); (case hr => exact z14); (case hp => exact (Reps.one (show Kd.M (Kd.int .u8) _ _ _ t330 [.int .u8 t330] from rfl) (Reps.one (show Kd.M (Kd.int .u8) _ _ _ t331 [.int .u8 t331] from rfl) (Reps.one (show Kd.M (Kd.int .u8) _ _ _ t332 [.int .u8 t332] from rfl) (Reps.one (show Kd.M (Kd.int .u8) _ _ _ t333 [.int .u8 t333] from rfl) (Reps.none _ _)))))); intro v335 w48 ho49 hb hg_ hnew_; clear hg_ hnew_; (first | rw [← Ny334.out] at ho49 | (simp only [Int.reduceToNat] at ho49; rw [← Ny334.out] at ho49)); have HO336 := Aside0.mk (Kd.R_lower (Kd.R_new' ho49 (Kd.R_lt (bR HO_3))) (below_size bB)); replace HO_3 := Aside0.mk (Kd.R_elder' (bR HO_3) (Kd.R_base ho49) hb); replace HB := Aside0.mk (below_step bB hb); clear hb ho49; obtain ⟨Ao51, co51, eo51⟩ := Kd.R_slice HO336.out; subst eo51) | ((with_reducible refine gate_builtin (b := .append) (xs := #[.tmp 76, .tmp 77]) rfl ?_); at_builtin; refine Kd.R_append_rows (Kd.int .u8) (w0 := w) w.heap.size rfl (.tmp 76) (.tmp 77) 22 5 (.int .u8 0) 1 rfl Try.underlying22 info5 rfl (by decide) (by omega) u3 x3_1 y334 _ _ _ (fun k_ => some k_ ≠ (.slice Ao51 y334.length co51 : Value).ownBlock) (fun _ => False) rfl rfl ?aO ?aR (fun _ _ h => h) (fun _ h => h.elim) ?aF ?aB ?aS ?aL ?_; (case aR => exact z5 HO336.out); (case aB => exact bB); (case aF => exact (fun k_ hk => Kd.fresh' (Kd.R_lt (bR HO336)) k_ hk)); (case aO => exact z17 HO_3.out); (case aS => exact (below_size bB)); (case aL => have := LMc47.out; omega); intro v350 w50 ho hb hg hat; rw [← Ny349.out] at ho; have n0_ := Aside0.mk (Kd.R_after (ok := (fun _ => True)) (bR HO336) hg hat); have n1_ := Aside0.mk (hb); have n2_ := Aside0.mk (ho); clear HO336; clear HB; clear HO_3; have HO336 := n0_; have HB := n1_; have HO351 := n2_; clear n0_ n1_ n2_; clear ho hb hg hat))
            go_roundg kj9
            case measure => have := HK1.out; have := HJ5.out; have := HJ9.out; omega
            case rel => exact ⟨(y349), (wrap64 (x4_1 + 3)), bS, H', ⟨by have := HK1.out; have := HJ5.out; have := HJ9.out; omega⟩, ⟨z15 HO351.out⟩, ⟨bB⟩⟩
           ·rw [if_neg c47] at H
            exact absurd H (by simp)
    ·rw [if_neg c5] at H
     exact absurd H (by simp)
   ·rw [if_neg c4] at H
    have c4b0 : decide (x4_1 < (l0.length : Int)) = false := decide_eq_false c4
    clear c4
    obtain rfl := Option.some.inj H
    have hcv52 := own_string (P := Try.prog) Try.underlying22 Try.underlying5 Try.underlying9 (Kd.own_of_R HO_3.out); (try have hcv52d := fun nq_ : Nat => own_string (P := Try.prog) Try.underlying22 Try.underlying5 Try.underlying9 (Kd.own_of_R (Kd.R_drewN HO_3.out nq_)))
    go_wp2
    go_ret
    exact ⟨bE, bB⟩
def spec_l4Encode.f (k : Nat) (l0 : List Int) : Option (ByteArray × Int) := (spec_l2Encode.f k 4 l0).bind fun bt352 => (if bt352.2 = 0 then ((spec_l4Self.f k l0).bind fun t356 => (if t356 = true then (some (strOfNums bt352.1, 0)) else ((spec_l1Encode.f k bt352.1).bind fun t357 => (if 10 + t357.size ≤ 9223372036854775807 then (if ((⟨#[61, 63, 117, 116, 102, 45, 56, 63, 66, 63]⟩ : ByteArray) ++ t357).size + 2 ≤ 9223372036854775807 then (if ((((⟨#[61, 63, 117, 116, 102, 45, 56, 63, 66, 63]⟩ : ByteArray) ++ t357) ++ (⟨#[63, 61]⟩ : ByteArray)).size : Int) > 400 then (some ((⟨#[]⟩ : ByteArray), 2)) else (some (((⟨#[61, 63, 117, 116, 102, 45, 56, 63, 66, 63]⟩ : ByteArray) ++ t357) ++ (⟨#[63, 61]⟩ : ByteArray), 0))) else (none)) else (none))))) else (some ((⟨#[]⟩ : ByteArray), bt352.2)))
set_option maxHeartbeats 8000000 in
set_option maxRecDepth 100000 in
theorem spec_l4Encode.calls (k : Nat) (A0 : Option Addr) (c0 : Nat) (l0 : List Int) (r1 : ByteArray) (r2 : Int) (w : World) (hr0 : Kd.C (Kd.int .i64) w A0 l0.length l0) (hc0 : l0.length ≤ c0) (h : spec_l4Encode.f k l0 = some (r1, r2)) :
  Calls Try.prog 83 #[.slice A0 l0.length c0] w fun e w' => e = .returned (.tuple #[.string r1, .int .i64 r2]) ∧ Below w.heap.size w w' := by
 have HR0 := Aside0.mk hr0
 have HC0 := Aside0.mk hc0
 clear hr0 hc0
 have HB := Aside0.mk (Below.refl w.heap.size w)
 have H : ((spec_l2Encode.f k 4 l0).bind fun bt352 => (if bt352.2 = 0 then ((spec_l4Self.f k l0).bind fun t356 => (if t356 = true then (some (strOfNums bt352.1, 0)) else ((spec_l1Encode.f k bt352.1).bind fun t357 => (if 10 + t357.size ≤ 9223372036854775807 then (if ((⟨#[61, 63, 117, 116, 102, 45, 56, 63, 66, 63]⟩ : ByteArray) ++ t357).size + 2 ≤ 9223372036854775807 then (if ((((⟨#[61, 63, 117, 116, 102, 45, 56, 63, 66, 63]⟩ : ByteArray) ++ t357) ++ (⟨#[63, 61]⟩ : ByteArray)).size : Int) > 400 then (some ((⟨#[]⟩ : ByteArray), 2)) else (some (((⟨#[61, 63, 117, 116, 102, 45, 56, 63, 66, 63]⟩ : ByteArray) ++ t357) ++ (⟨#[63, 61]⟩ : ByteArray), 0))) else (none)) else (none))))) else (some ((⟨#[]⟩ : ByteArray), bt352.2)))) = some (r1, r2) := h
 clear h
 replace H := Option.bind_eq_some_iff.mp H
 obtain ⟨⟨t352, t353⟩, A20, H⟩ := H
 replace H : (if t353 = 0 then ((spec_l4Self.f k l0).bind fun t356 => (if t356 = true then (some (strOfNums t352, 0)) else ((spec_l1Encode.f k t352).bind fun t357 => (if 10 + t357.size ≤ 9223372036854775807 then (if ((⟨#[61, 63, 117, 116, 102, 45, 56, 63, 66, 63]⟩ : ByteArray) ++ t357).size + 2 ≤ 9223372036854775807 then (if ((((⟨#[61, 63, 117, 116, 102, 45, 56, 63, 66, 63]⟩ : ByteArray) ++ t357) ++ (⟨#[63, 61]⟩ : ByteArray)).size : Int) > 400 then (some ((⟨#[]⟩ : ByteArray), 2)) else (some (((⟨#[61, 63, 117, 116, 102, 45, 56, 63, 66, 63]⟩ : ByteArray) ++ t357) ++ (⟨#[63, 61]⟩ : ByteArray), 0))) else (none)) else (none))))) else (some ((⟨#[]⟩ : ByteArray), t353))) = some (r1, r2) := H
 have A2 := Aside0.mk A20
 clear A20
 have HQ_ := Aside0.mk H
 clear H
 go_enter Try.func83, Try.ntmps83
 have H := HQ_.out
 clear HQ_
 by_cases c3 : t353 = 0
 ·rw [if_pos c3] at H
  have c3b0 : (t353 == 0) = true := beq_iff_eq.mpr c3
  have c3b1 : (t353 != 0) = false := bne_eq_false_iff_eq.mpr c3
  clear c3
  replace H := Option.bind_eq_some_iff.mp H
  obtain ⟨t356, A40, H⟩ := H
  replace H : (if t356 = true then (some (strOfNums t352, 0)) else ((spec_l1Encode.f k t352).bind fun t357 => (if 10 + t357.size ≤ 9223372036854775807 then (if ((⟨#[61, 63, 117, 116, 102, 45, 56, 63, 66, 63]⟩ : ByteArray) ++ t357).size + 2 ≤ 9223372036854775807 then (if ((((⟨#[61, 63, 117, 116, 102, 45, 56, 63, 66, 63]⟩ : ByteArray) ++ t357) ++ (⟨#[63, 61]⟩ : ByteArray)).size : Int) > 400 then (some ((⟨#[]⟩ : ByteArray), 2)) else (some (((⟨#[61, 63, 117, 116, 102, 45, 56, 63, 66, 63]⟩ : ByteArray) ++ t357) ++ (⟨#[63, 61]⟩ : ByteArray), 0))) else (none)) else (none)))) = some (r1, r2) := H
  have A4 := Aside0.mk A40
  clear A40
  (try simp only [c3b0, c3b1])
  by_cases c5 : t356 = true
  ·subst c5
   have H1 : (some (strOfNums t352, 0)) = some (r1, r2) := z35
   clear H
   have H := H1
   clear H1
   simp only [Option.some.injEq, Prod.mk.injEq] at H
   obtain ⟨rfl, rfl⟩ := H
   go_wp2_with (first | ((with_reducible refine gate_callee (f := 55) rfl ?_); refine goesL_ (some 9) rfl rfl Try.func55 (by kernel_rfl) rfl #[.int .i64 4, .slice A0 l0.length c0] rfl bM ?_; (with_reducible refine (spec_l2Encode.calls k 4 _ _ l0 t352 t353 _ ?side1 ?side2 A2.out).mono ?_); (case side1 => exact z28 HR0.out); (case side2 => exact HC0.out); rintro e w6 ⟨v354, rfl, ho0, hb⟩; refine ⟨_, rfl, ?_⟩; have HO355 := Aside0.mk (Kd.R_lower ho0 (below_size bB)); replace HB := Aside0.mk (below_step bB hb); (try clear ho0)) | ((with_reducible refine gate_callee (f := 106) rfl ?_); refine goesL_ (some 16) rfl rfl Try.func106 (by kernel_rfl) rfl #[.slice A0 l0.length c0] rfl bM ?_; (with_reducible refine (spec_l4Self.calls k _ _ l0 true _ ?side1 ?side2 A4.out).mono ?_); (case side1 => exact z6 HR0.out); (case side2 => exact HC0.out); rintro e w' ⟨rfl, ⟨nd, rfl⟩⟩; refine ⟨_, rfl, ?_⟩; have hcv7 := own_string (P := Try.prog) Try.underlying22 Try.underlying5 Try.underlying9 (Kd.own_of_R HO355.out); (try have hcv7d := fun nq_ : Nat => own_string (P := Try.prog) Try.underlying22 Try.underlying5 Try.underlying9 (Kd.own_of_R (Kd.R_drewN HO355.out nq_)))))
   go_ret2
   exact ⟨bE, bB⟩
  ·replace c5 := Bool.eq_false_iff.mpr c5
   subst c5
   have H1 : ((spec_l1Encode.f k t352).bind fun t357 => (if 10 + t357.size ≤ 9223372036854775807 then (if ((⟨#[61, 63, 117, 116, 102, 45, 56, 63, 66, 63]⟩ : ByteArray) ++ t357).size + 2 ≤ 9223372036854775807 then (if ((((⟨#[61, 63, 117, 116, 102, 45, 56, 63, 66, 63]⟩ : ByteArray) ++ t357) ++ (⟨#[63, 61]⟩ : ByteArray)).size : Int) > 400 then (some ((⟨#[]⟩ : ByteArray), 2)) else (some (((⟨#[61, 63, 117, 116, 102, 45, 56, 63, 66, 63]⟩ : ByteArray) ++ t357) ++ (⟨#[63, 61]⟩ : ByteArray), 0))) else (none)) else (none))) = some (r1, r2) := z23
   clear H
   have H := H1
   clear H1
   replace H := Option.bind_eq_some_iff.mp H
   obtain ⟨t357, A80, H⟩ := H
   replace H : (if 10 + t357.size ≤ 9223372036854775807 then (if ((⟨#[61, 63, 117, 116, 102, 45, 56, 63, 66, 63]⟩ : ByteArray) ++ t357).size + 2 ≤ 9223372036854775807 then (if ((((⟨#[61, 63, 117, 116, 102, 45, 56, 63, 66, 63]⟩ : ByteArray) ++ t357) ++ (⟨#[63, 61]⟩ : ByteArray)).size : Int) > 400 then (some ((⟨#[]⟩ : ByteArray), 2)) else (some (((⟨#[61, 63, 117, 116, 102, 45, 56, 63, 66, 63]⟩ : ByteArray) ++ t357) ++ (⟨#[63, 61]⟩ : ByteArray), 0))) else (none)) else (none)) = some (r1, r2) := H
   have A8 := Aside0.mk A80
   clear A80
   by_cases c9 : 10 + t357.size ≤ 9223372036854775807
   ·rw [if_pos c9] at H
    have c9b0 := eq_true c9
    have c9b1 : decide (10 + t357.size ≤ 9223372036854775807) = true := decide_eq_true c9
    try have c9b2 : (9223372036854775807 < 10 + t357.size) = False := eq_false (Nat.not_lt.2 c9)
    by_cases c10 : ((⟨#[61, 63, 117, 116, 102, 45, 56, 63, 66, 63]⟩ : ByteArray) ++ t357).size + 2 ≤ 9223372036854775807
    ·rw [if_pos c10] at H
     have c10b0 := eq_true c10
     have c10b1 : decide (((⟨#[61, 63, 117, 116, 102, 45, 56, 63, 66, 63]⟩ : ByteArray) ++ t357).size + 2 ≤ 9223372036854775807) = true := decide_eq_true c10
     try have c10b2 : (9223372036854775807 < ((⟨#[61, 63, 117, 116, 102, 45, 56, 63, 66, 63]⟩ : ByteArray) ++ t357).size + 2) = False := eq_false (Nat.not_lt.2 c10)
     (try (have c10b3 : (9223372036854775807 < 10 + t357.size + 2) = False := by have h_ := c10b2; simp only [ByteArray.size_append] at h_; exact h_))
     by_cases c11 : ((((⟨#[61, 63, 117, 116, 102, 45, 56, 63, 66, 63]⟩ : ByteArray) ++ t357) ++ (⟨#[63, 61]⟩ : ByteArray)).size : Int) > 400
     ·rw [if_pos c11] at H
      have c11b0 : decide (400 < ((((⟨#[61, 63, 117, 116, 102, 45, 56, 63, 66, 63]⟩ : ByteArray) ++ t357) ++ (⟨#[63, 61]⟩ : ByteArray)).size : Int)) = true := decide_eq_true c11
      have c11b1 : decide (400 < (((⟨#[61, 63, 117, 116, 102, 45, 56, 63, 66, 63]⟩ : ByteArray) ++ t357) ++ (⟨#[63, 61]⟩ : ByteArray)).size) = true := decide_eq_true (by omega)
      (try (have c11h : 400 < 10 + t357.size + 2 := by have h_ := of_decide_eq_true c11b1; simp only [ByteArray.size_append] at h_; exact h_))
      (try (have c11e1 : decide ((400 : Int) < (10 + (t357.size : Int) + 2 : Int)) = true := decide_eq_true (by omega)))
      (try (have c11e2 : ((400 : Int) < (10 + (t357.size : Int) + 2 : Int)) = True := eq_true (by omega)))
      (try (have c11e3 : (400 < 10 + t357.size + 2) = True := eq_true c11h))
      clear c11
      simp only [Option.some.injEq, Prod.mk.injEq] at H
      obtain ⟨rfl, rfl⟩ := H
      (try simp only [c11b0, c11b1])
      go_wp2_with (first | ((with_reducible refine gate_callee (f := 55) rfl ?_); refine goesL_ (some 9) rfl rfl Try.func55 (by kernel_rfl) rfl #[.int .i64 4, .slice A0 l0.length c0] rfl bM ?_; (with_reducible refine (spec_l2Encode.calls k 4 _ _ l0 t352 t353 _ ?side1 ?side2 A2.out).mono ?_); (case side1 => exact z28 HR0.out); (case side2 => exact HC0.out); rintro e w12 ⟨v354, rfl, ho0, hb⟩; refine ⟨_, rfl, ?_⟩; have HO355 := Aside0.mk (Kd.R_lower ho0 (below_size bB)); replace HB := Aside0.mk (below_step bB hb); (try clear ho0)) | ((with_reducible refine gate_callee (f := 106) rfl ?_); refine goesL_ (some 16) rfl rfl Try.func106 (by kernel_rfl) rfl #[.slice A0 l0.length c0] rfl bM ?_; (with_reducible refine (spec_l4Self.calls k _ _ l0 false _ ?side1 ?side2 A4.out).mono ?_); (case side1 => exact z6 HR0.out); (case side2 => exact HC0.out); rintro e w' ⟨rfl, ⟨nd, rfl⟩⟩; refine ⟨_, rfl, ?_⟩; obtain ⟨Ao13, co13, eo13⟩ := Kd.R_slice HO355.out; subst eo13) | ((with_reducible refine gate_callee (f := 107) rfl ?_); refine goesL_ (some 20) rfl rfl Try.func107 (by kernel_rfl) rfl #[.slice Ao13 t352.length co13] rfl bM ?_; (with_reducible refine (spec_l1Encode.calls k _ _ t352 t357 _ ?side1 ?side2 A8.out).mono ?_); (case side1 => exact z5 HO355.out); (case side2 => exact (Kd.R_reads' HO355.out).2.1); rintro e w14 ⟨rfl, hb⟩; refine ⟨_, rfl, ?_⟩; replace HO355 := Aside0.mk (Kd.R_below (bR HO355) hb); replace HB := Aside0.mk (below_step bB hb); (try clear hi)))
      go_ret2
      exact ⟨bE, bB⟩
     ·rw [if_neg c11] at H
      have c11b0 : decide (400 < ((((⟨#[61, 63, 117, 116, 102, 45, 56, 63, 66, 63]⟩ : ByteArray) ++ t357) ++ (⟨#[63, 61]⟩ : ByteArray)).size : Int)) = false := decide_eq_false c11
      have c11b1 : decide (400 < (((⟨#[61, 63, 117, 116, 102, 45, 56, 63, 66, 63]⟩ : ByteArray) ++ t357) ++ (⟨#[63, 61]⟩ : ByteArray)).size) = false := decide_eq_false (by omega)
      (try (have c11h : ¬ (400 < 10 + t357.size + 2) := by have h_ := of_decide_eq_false c11b1; simp only [ByteArray.size_append] at h_; exact h_))
      (try (have c11e1 : decide ((400 : Int) < (10 + (t357.size : Int) + 2 : Int)) = false := decide_eq_false (by omega)))
      (try (have c11e2 : ((400 : Int) < (10 + (t357.size : Int) + 2 : Int)) = False := eq_false (by omega)))
      (try (have c11e3 : (400 < 10 + t357.size + 2) = False := eq_false c11h))
      clear c11
      simp only [Option.some.injEq, Prod.mk.injEq] at H
      obtain ⟨rfl, rfl⟩ := H
      (try simp only [c11b0, c11b1])
      go_wp2_with (first | ((with_reducible refine gate_callee (f := 55) rfl ?_); refine goesL_ (some 9) rfl rfl Try.func55 (by kernel_rfl) rfl #[.int .i64 4, .slice A0 l0.length c0] rfl bM ?_; (with_reducible refine (spec_l2Encode.calls k 4 _ _ l0 t352 t353 _ ?side1 ?side2 A2.out).mono ?_); (case side1 => exact z28 HR0.out); (case side2 => exact HC0.out); rintro e w15 ⟨v354, rfl, ho0, hb⟩; refine ⟨_, rfl, ?_⟩; have HO355 := Aside0.mk (Kd.R_lower ho0 (below_size bB)); replace HB := Aside0.mk (below_step bB hb); (try clear ho0)) | ((with_reducible refine gate_callee (f := 106) rfl ?_); refine goesL_ (some 16) rfl rfl Try.func106 (by kernel_rfl) rfl #[.slice A0 l0.length c0] rfl bM ?_; (with_reducible refine (spec_l4Self.calls k _ _ l0 false _ ?side1 ?side2 A4.out).mono ?_); (case side1 => exact z6 HR0.out); (case side2 => exact HC0.out); rintro e w' ⟨rfl, ⟨nd, rfl⟩⟩; refine ⟨_, rfl, ?_⟩; obtain ⟨Ao16, co16, eo16⟩ := Kd.R_slice HO355.out; subst eo16) | ((with_reducible refine gate_callee (f := 107) rfl ?_); refine goesL_ (some 20) rfl rfl Try.func107 (by kernel_rfl) rfl #[.slice Ao16 t352.length co16] rfl bM ?_; (with_reducible refine (spec_l1Encode.calls k _ _ t352 t357 _ ?side1 ?side2 A8.out).mono ?_); (case side1 => exact z5 HO355.out); (case side2 => exact (Kd.R_reads' HO355.out).2.1); rintro e w17 ⟨rfl, hb⟩; refine ⟨_, rfl, ?_⟩; replace HO355 := Aside0.mk (Kd.R_below (bR HO355) hb); replace HB := Aside0.mk (below_step bB hb); (try clear hi)))
      go_ret2
      exact ⟨bE, bB⟩
    ·rw [if_neg c10] at H
     exact absurd H (by simp)
   ·rw [if_neg c9] at H
    exact absurd H (by simp)
 ·rw [if_neg c3] at H
  have c3b0 : (t353 == 0) = false := beq_eq_false_iff_ne.mpr c3
  have c3b1 : (t353 != 0) = true := bne_iff_ne.mpr c3
  simp only [Option.some.injEq, Prod.mk.injEq] at H
  obtain ⟨rfl, rfl⟩ := H
  (try simp only [c3b0, c3b1])
  go_wp2_with (first | ((with_reducible refine gate_callee (f := 55) rfl ?_); refine goesL_ (some 9) rfl rfl Try.func55 (by kernel_rfl) rfl #[.int .i64 4, .slice A0 l0.length c0] rfl bM ?_; (with_reducible refine (spec_l2Encode.calls k 4 _ _ l0 t352 t353 _ ?side1 ?side2 A2.out).mono ?_); (case side1 => exact z28 HR0.out); (case side2 => exact HC0.out); rintro e w18 ⟨v354, rfl, ho0, hb⟩; refine ⟨_, rfl, ?_⟩; have HO355 := Aside0.mk (Kd.R_lower ho0 (below_size bB)); replace HB := Aside0.mk (below_step bB hb); (try clear ho0)))
  go_ret2
  exact ⟨bE, bB⟩
end Go.Proofs.Ytjopgmjmjnfcjaa.PHeaders
