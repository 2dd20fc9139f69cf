/- Part of the proof; words that it uses. -/
import Derived.Test.YtjopgmjmjnfcjaaGreatDoorPWordsx0
import Derived.Test.YtjopgmjmjnfcjaaGreatDoorPWordsx2
import Derived.Test.YtjopgmjmjnfcjaaGreatDoorPWordsx8
namespace Go.Proofs.YtjopgmjmjnfcjaaGreatDoor.PWords
open Go.RowKit Go.Proofs.YtjopgmjmjnfcjaaGreatDoorW.PrintWords Go.Proofs.YtjopgmjmjnfcjaaGreatDoorW.PrintLast
set_option linter.unusedVariables false
set_option linter.unusedSimpArgs false
mutual
def spec_l1Decode.l0 : Nat → ByteArray → List Int → Int → Option (List Int × Bool)
 | 0, _, _, _ => none
 | k + 1, x0, x4, x5 => if x5 < (x0.size : Int) then (spec_l1Decode.l1 k x0 x4 x5 4) else ((spec_l1Encode.f k x4).bind fun t442 => (some (x4, (t442.toList == x0.toList))))
def spec_l1Decode.j2 : Nat → ByteArray → List Int → Int → Int → Option (List Int × Bool)
 | 0, _, _, _, _ => none
 | k + 1, x0, x4, x5, x6 => spec_l1Decode.l2 k x0 x4 x5 x6 0 0
def spec_l1Decode.l2 : Nat → ByteArray → List Int → Int → Int → Int → Int → Option (List Int × Bool)
 | 0, _, _, _, _, _, _ => none
 | k + 1, x0, x4, x5, x6, x7, x8 => if x8 < 4 then (if x8 < x6 then (if 0 ≤ (wrap64 (x5 + x8)) then (if (wrap64 (x5 + x8)) < (x0.size : Int) then ((spec_l1Digit.f k (bt x0 (wrap64 (x5 + x8)))).bind fun t453 => (if t453 < 0 then (some (([] : List Int), false)) else (spec_l1Decode.l2 k x0 x4 x5 x6 (wrap64 ((wrap64 (x7 * 64)) + t453)) (wrap64 (x8 + 1))))) else (none)) else (none)) else (if 0 < 0 then (some (([] : List Int), false)) else (spec_l1Decode.l2 k x0 x4 x5 x6 (wrap64 ((wrap64 (x7 * 64)) + 0)) (wrap64 (x8 + 1))))) else ((some (([(wrap64 (Int.tdiv x7 65536)) % 256, (Int.tmod (wrap64 (Int.tdiv x7 256)) 256) % 256, (Int.tmod x7 256) % 256] : List Int) : List Int)).bind fun y443 => (if 0 ≤ (wrap64 (x6 - 1)) then (if (wrap64 (x6 - 1)) ≤ (y443.length : Int) then ((some (y443.take ((wrap64 (x6 - 1)) : Int).toNat : List Int)).bind fun y446 => (if x4.length + y446.length < 140737488355328 then (spec_l1Decode.l0 k x0 (x4 ++ y446) (wrap64 (x5 + 4))) else (none))) else (none)) else (none)))
def spec_l1Decode.l1 : Nat → ByteArray → List Int → Int → Int → Option (List Int × Bool)
 | 0, _, _, _, _ => none
 | k + 1, x0, x4, x5, x6 => if x6 > 2 then (if (wrap64 (x5 + 4)) = (x0.size : Int) then (if 0 ≤ (wrap64 ((wrap64 (x5 + x6)) - 1)) then (if (wrap64 ((wrap64 (x5 + x6)) - 1)) < (x0.size : Int) then (if (bt x0 (wrap64 ((wrap64 (x5 + x6)) - 1))) = 61 then (spec_l1Decode.l1 k x0 x4 x5 (wrap64 (x6 - 1))) else (spec_l1Decode.j2 k x0 x4 x5 x6)) else (none)) else (none)) else (spec_l1Decode.j2 k x0 x4 x5 x6)) else (spec_l1Decode.j2 k x0 x4 x5 x6)
end
def spec_l1Decode.f (k : Nat) (a0 : ByteArray) : Option (List Int × Bool) := if ((a0.size : Int) % 4) = 0 then (spec_l1Decode.l0 k a0 (([] : List Int)) 0) else (some (([] : List Int), false))
set_option maxHeartbeats 8000000 in
set_option maxRecDepth 100000 in
theorem spec_l1Decode.calls (k : Nat) (a0 : ByteArray) (r1 : List Int) (r2 : Bool) (w : World) (h : spec_l1Decode.f k a0 = some (r1, r2)) :
  Calls Tryz.prog 120 #[.string a0] w fun e w' => ∃ v0_ : Value, e = .returned (.tuple #[v0_, .bool r2]) ∧ Kd.R (Kd.int .u8) 5 w' w.heap.size (fun _ => True) v0_ r1 ∧ Below w.heap.size w w' := by
 have HB := aM (Below.refl w.heap.size w)
 have H : (if ((a0.size : Int) % 4) = 0 then (spec_l1Decode.l0 k a0 (([] : List Int)) 0) else (some (([] : List Int), false))) = some (r1, r2) := h
 clear h
 obtain ⟨y439, hy439⟩ : ∃ y_ : List Int, y_ = (([] : List Int)) := ⟨_, rfl⟩
 replace H : (if ((a0.size : Int) % 4) = 0 then (spec_l1Decode.l0 k a0 y439 0) else (some (([] : List Int), false))) = some (r1, r2) := z0 hy439
 have Ny439 := aM hy439
 clear hy439
 have HQ_ := aM H
 clear H
 go_enter Tryz.func120, Tryz.ntmps120
 have H := HQ_.out
 clear HQ_
 by_cases c2 : ((a0.size : Int) % 4) = 0
 ·rw [if_pos c2] at H
  have c2b0 : (((a0.size : Int) % 4) == 0) = true := beq_iff_eq.mpr c2
  have c2b1 : (((a0.size : Int) % 4) != 0) = false := bne_eq_false_iff_eq.mpr c2
  clear c2
  have H' := aM H
  clear H
  (try simp only [c2b0, c2b1])
  go_wp2_with (first | ((with_reducible refine gate_dst (N := 11) rfl ?_); (try (refine gate_guard (by rfl) ?_; dsimp only)); refine Kd.R_lit (Kd.int .u8) _ 5 ?hg (N := 11) ?hd (xs := ([] : List Int)) (inner := []) (ok := fun _ => True) (okp := fun _ => True) ?hr ?hp (fun _ hk => hk) trivial (Below.refl _ _) (Nat.le_refl _) (by simp) ?_; (case hd => rfl); (case hg => rfl); (case hr => exact z10); (case hp => exact (Reps.none _ _)); intro v440 w3 ho4 hb hg_ hnew_; clear hg_ hnew_; (first | rw [← Ny439.out] at ho4 | (simp only [Int.reduceToNat] at ho4; rw [← Ny439.out] at ho4)); have HO441 := aM (Kd.R_lower ho4 (below_size bB)); replace HB := aM (below_step bB hb); clear hb ho4))
  go_loopg [4, 5] k (fun kq v4 v5 w' => ∃ (x4_1 : List Int) (x5_1 : Int), v5 = .int .i64 x5_1 ∧ Aside0 (spec_l1Decode.l0 kq a0 x4_1 x5_1 = some (r1, r2)) ∧ Aside0 (kq ≤ k) ∧ Aside0 (Kd.R (Kd.int .u8) 5 w' w.heap.size (fun _ => True) v4 x4_1) ∧ Aside0 (Below w.heap.size w w'))
  case atStart => exact ⟨(y439), (0), bS, H', ⟨Nat.le_refl _⟩, ⟨bR HO441⟩, ⟨bB⟩⟩
  case round =>
   clear H'
   try clear c1
   try clear c2
   try clear c2b0
   try clear c2b1
   try clear p2
   obtain ⟨x4_1, x5_1, rfl, HA, HK1, HO_4, HB⟩ := hrel
   cases gk with
   | zero => exact absurd HA.out (by simp [spec_l1Decode.l0])
   | succ k1 =>
    have H := HA.out
    clear HA
    simp only [spec_l1Decode.l0] at H
    by_cases c5 : x5_1 < (a0.size : Int)
    ·rw [if_pos c5] at H
     have c5b0 : decide (x5_1 < (a0.size : Int)) = true := decide_eq_true c5
     clear c5
     have HC6 := aM H
     clear H
     go_upto_block 2 with (fail)
     go_cut [6] (fun v6 wc => ∃ (kq : Nat) (x6_5 : Int), v6 = .int .i64 x6_5 ∧ Aside0 (spec_l1Decode.j2 kq a0 x4_1 x5_1 x6_5 = some (r1, r2)) ∧ Aside0 (kq ≤ k1) ∧ Aside0 (Kd.R (Kd.int .u8) 5 wc w.heap.size (fun _ => True) u4 x4_1) ∧ Aside0 (Below w.heap.size w wc))
     case first =>
      have H := HC6.out
      clear HC6
      have H' := aM H
      clear H
      go_wp2
      go_loopg [6] k1 (fun kq v6 w' => ∃ (x6_2 : Int), v6 = .int .i64 x6_2 ∧ Aside0 (spec_l1Decode.l1 kq a0 x4_1 x5_1 x6_2 = some (r1, r2)) ∧ Aside0 (kq ≤ k1) ∧ Aside0 (Kd.R (Kd.int .u8) 5 w' w.heap.size (fun _ => True) u4 x4_1) ∧ Aside0 (Below w.heap.size w w'))
      case atStart => exact ⟨(4), bS, H', ⟨Nat.le_refl _⟩, ⟨bR HO_4⟩, ⟨bB⟩⟩
      case round =>
       clear H'
       try clear c1
       try clear c2
       try clear c2b0
       try clear c2b1
       try clear p2
       try clear c5
       try clear c5b0
       try clear p2
       obtain ⟨x6_2, rfl, HA, HK2, HO_4, HB⟩ := hrel
       cases gk with
       | zero => exact absurd HA.out (by simp [spec_l1Decode.l1])
       | succ k2 =>
        have H := HA.out
        clear HA
        simp only [spec_l1Decode.l1] at H
        by_cases c7 : x6_2 > 2
        ·rw [if_pos c7] at H
         have c7b0 : decide (2 < x6_2) = true := decide_eq_true c7
         clear c7
         (first | rw [c7b0] | (simp only [i64_w, i32_w]; rw [c7b0]) | skip)
         by_cases c8 : (wrap64 (x5_1 + 4)) = (a0.size : Int)
         ·rw [if_pos c8] at H
          have c8b0 : ((wrap64 (x5_1 + 4)) == (a0.size : Int)) = true := beq_iff_eq.mpr c8
          have c8b1 : ((wrap64 (x5_1 + 4)) != (a0.size : Int)) = false := bne_eq_false_iff_eq.mpr c8
          clear c8
          obtain ⟨ji9, hji9⟩ : ∃ j_ : Int, (wrap64 ((wrap64 (x5_1 + x6_2)) - 1)) = j_ := ⟨_, rfl⟩
          replace H : (if 0 ≤ (ji9) then (if (ji9) < (a0.size : Int) then (if (bt a0 (ji9)) = 61 then (spec_l1Decode.l1 k2 a0 x4_1 x5_1 (wrap64 (x6_2 - 1))) else (spec_l1Decode.j2 k2 a0 x4_1 x5_1 x6_2)) else (none)) else (none)) = some (r1, r2) := by first | (rw [hji9] at H; exact H) | (simp only [hji9] at H ⊢; exact H)
          have hji9w : (IntKind.i64.wrap ((wrap64 (x5_1 + x6_2)) - 1)) = ji9 := (i64_w _).trans hji9
          by_cases c10 : 0 ≤ (ji9)
          ·rw [if_pos c10] at H
           have c10b0 : decide (0 ≤ (ji9)) = true := decide_eq_true c10
           clear c10
           by_cases c11 : (ji9) < (a0.size : Int)
           ·rw [if_pos c11] at H
            have c11b0 : decide ((ji9) < (a0.size : Int)) = true := decide_eq_true c11
            clear c11
            have HQ_ := aM H
            clear H
            have p12 : 0 ≤ ((ji9) : Int) := pI
            have q12 : (ji9) < (a0.size : Int) := pI
            have hx12 := bt_at a0 (ji9)
            replace p12 := eq_true p12
            replace q12 := eq_true q12
            have H := HQ_.out
            clear HQ_
            by_cases c13 : (bt a0 (ji9)) = 61
            ·rw [if_pos c13] at H
             have c13b0 : ((bt a0 (ji9)) == 61) = true := beq_iff_eq.mpr c13
             have c13b1 : ((bt a0 (ji9)) != 61) = false := bne_eq_false_iff_eq.mpr c13
             clear c13
             have H' := aM H
             clear H
             (try simp only [c13b0, c13b1])
             go_wp2
             go_roundg k2
             case measure => have := HK1.out; have := HK2.out; omega
             case rel => exact ⟨(wrap64 (x6_2 - 1)), bS, H', ⟨by have := HK1.out; have := HK2.out; omega⟩, ⟨bR HO_4⟩, ⟨bB⟩⟩
            rw [if_neg c13] at H
            have c13b0 : ((bt a0 (ji9)) == 61) = false := beq_eq_false_iff_ne.mpr c13
            have c13b1 : ((bt a0 (ji9)) != 61) = true := bne_iff_ne.mpr c13
            have H' := aM H
            clear H
            (try simp only [c13b0, c13b1])
            go_wp2
            go_meet
            case rel => exact ⟨_, (x6_2), bS, H', ⟨z23 HK1.out HK2.out⟩, ⟨bR HO_4⟩, ⟨bB⟩⟩
           rw [if_neg c11] at H
           exact absurd H (by simp)
          rw [if_neg c10] at H
          exact absurd H (by simp)
         rw [if_neg c8] at H
         have c8b0 : ((wrap64 (x5_1 + 4)) == (a0.size : Int)) = false := beq_eq_false_iff_ne.mpr c8
         have c8b1 : ((wrap64 (x5_1 + 4)) != (a0.size : Int)) = true := bne_iff_ne.mpr c8
         have H' := aM H
         clear H
         go_wp2
         go_meet
         case rel => exact ⟨_, (x6_2), bS, H', ⟨z23 HK1.out HK2.out⟩, ⟨bR HO_4⟩, ⟨bB⟩⟩
        rw [if_neg c7] at H
        have c7b0 : decide (2 < x6_2) = false := decide_eq_false c7
        clear c7
        (first | rw [c7b0] | (simp only [i64_w, i32_w]; rw [c7b0]) | skip)
        have H' := aM H
        clear H
        go_wp2
        go_meet
        case rel => exact ⟨_, (x6_2), bS, H', ⟨z23 HK1.out HK2.out⟩, ⟨bR HO_4⟩, ⟨bB⟩⟩
     case rest =>
      clear HC6
      try clear c1
      try clear p1
      try clear q1
      try clear hx1
      try clear c2
      try clear c2b0
      try clear c2b1
      try clear p2
      try clear c5
      try clear c5b0
      try clear p6
      try clear c7
      try clear c7b0
      try clear c8
      try clear c8b0
      try clear c8b1
      try clear c10
      try clear c10b0
      try clear c11
      try clear c11b0
      try clear c12
      try clear p12
      try clear q12
      try clear hx12
      try clear c13
      try clear c13b0
      try clear c13b1
      try clear p12
      try clear p2
      try clear q12
      obtain ⟨kq, x6_5, rfl, HA, HJ5, HO_4, HB⟩ := hcut
      cases kq with
      | zero => exact absurd HA.out (by simp [spec_l1Decode.j2])
      | succ kj5 =>
       have H := HA.out
       clear HA
       simp only [spec_l1Decode.j2] at H
       have H' := aM H
       clear H
       go_wp2
       go_loopg [7, 8] kj5 (fun kq v7 v8 w' => ∃ (x7_3 : Int) (x8_3 : Int), v7 = .int .i64 x7_3 ∧ v8 = .int .i64 x8_3 ∧ Aside0 (spec_l1Decode.l2 kq a0 x4_1 x5_1 x6_5 x7_3 x8_3 = some (r1, r2)) ∧ Aside0 (kq ≤ kj5) ∧ Aside0 (Kd.R (Kd.int .u8) 5 w' w.heap.size (fun _ => True) u4 x4_1) ∧ Aside0 (Below w.heap.size w w'))
       case atStart => exact ⟨(0), (0), bS, bS, H', ⟨Nat.le_refl _⟩, ⟨bR HO_4⟩, ⟨bB⟩⟩
       case round =>
        clear H'
        try clear c1
        try clear p1
        try clear q1
        try clear hx1
        try clear c2
        try clear c2b0
        try clear c2b1
        try clear p2
        try clear c5
        try clear c5b0
        try clear p6
        try clear c7
        try clear c7b0
        try clear c8
        try clear c8b0
        try clear c8b1
        try clear c10
        try clear c10b0
        try clear c11
        try clear c11b0
        try clear c12
        try clear p12
        try clear q12
        try clear hx12
        try clear c13
        try clear c13b0
        try clear c13b1
        try clear p1
        try clear p12
        try clear p2
        try clear p6
        try clear q1
        try clear q12
        obtain ⟨x7_3, x8_3, rfl, rfl, HA, HK3, HO_4, HB⟩ := hrel
        cases gk with
        | zero => exact absurd HA.out (by simp [spec_l1Decode.l2])
        | succ k3 =>
         have H := HA.out
         clear HA
         simp only [spec_l1Decode.l2] at H
         by_cases c14 : x8_3 < 4
         ·rw [if_pos c14] at H
          have c14b0 : decide (x8_3 < 4) = true := decide_eq_true c14
          clear c14
          by_cases c15 : x8_3 < x6_5
          ·rw [if_pos c15] at H
           have c15b0 : decide (x8_3 < x6_5) = true := decide_eq_true c15
           clear c15
           obtain ⟨ji16, hji16⟩ : ∃ j_ : Int, (wrap64 (x5_1 + x8_3)) = j_ := ⟨_, rfl⟩
           replace H : (if 0 ≤ (ji16) then (if (ji16) < (a0.size : Int) then ((spec_l1Digit.f k3 (bt a0 (ji16))).bind fun t453 => (if t453 < 0 then (some (([] : List Int), false)) else (spec_l1Decode.l2 k3 a0 x4_1 x5_1 x6_5 (wrap64 ((wrap64 (x7_3 * 64)) + t453)) (wrap64 (x8_3 + 1))))) else (none)) else (none)) = some (r1, r2) := by first | (rw [hji16] at H; exact H) | (simp only [hji16] at H ⊢; exact H)
           have hji16w : (IntKind.i64.wrap (x5_1 + x8_3)) = ji16 := (i64_w _).trans hji16
           by_cases c17 : 0 ≤ (ji16)
           ·rw [if_pos c17] at H
            have c17b0 : decide (0 ≤ (ji16)) = true := decide_eq_true c17
            clear c17
            by_cases c18 : (ji16) < (a0.size : Int)
            ·rw [if_pos c18] at H
             have c18b0 : decide ((ji16) < (a0.size : Int)) = true := decide_eq_true c18
             clear c18
             replace H := Option.bind_eq_some_iff.mp H
             obtain ⟨t453, A200, H⟩ := H
             replace H : (if t453 < 0 then (some (([] : List Int), false)) else (spec_l1Decode.l2 k3 a0 x4_1 x5_1 x6_5 (wrap64 ((wrap64 (x7_3 * 64)) + t453)) (wrap64 (x8_3 + 1)))) = some (r1, r2) := H
             have A20 := aM A200
             clear A200
             have HQ_ := aM H
             clear H
             have p19 : 0 ≤ ((ji16) : Int) := pI
             have q19 : (ji16) < (a0.size : Int) := pI
             have hx19 := bt_at a0 (ji16)
             replace p19 := eq_true p19
             replace q19 := eq_true q19
             have H := HQ_.out
             clear HQ_
             by_cases c21 : t453 < 0
             ·rw [if_pos c21] at H
              have c21b0 : decide (t453 < 0) = true := decide_eq_true c21
              clear c21
              simp only [Option.some.injEq, Prod.mk.injEq] at H
              obtain ⟨rfl, rfl⟩ := H
              (try simp only [c21b0])
              go_wp2_with (first | ((with_reducible refine gate_callee (f := 137) rfl ?_); refine goesL_ (some 54) rfl rfl Tryz.func137 (by kernel_rfl) rfl #[.int .u8 (bt a0 (ji16))] rfl (by (try simp only [List.map_toArray, List.map_cons, List.map_nil]); first | done | (simp only [hji16]; rfl) | rfl | (simp only [List.length_drop, List.length_take]; rfl)) ?_; (with_reducible refine (spec_l1Digit.calls k3 (bt a0 (ji16)) t453 _ A20.out).mono ?_); rintro e w' ⟨rfl, ⟨nd, rfl⟩⟩; refine ⟨_, rfl, ?_⟩))
              go_ret2
              exact ⟨_, by first | rfl | (simp [errW_none, errW_some] <;> rfl) | (simp only [← hji16]; first | rfl | (simp [errW_none, errW_some] <;> rfl)) | (simp [*, errW_none, errW_some] <;> rfl), z6, bB⟩
             rw [if_neg c21] at H
             have c21b0 : decide (t453 < 0) = false := decide_eq_false c21
             clear c21
             have H' := aM H
             clear H
             (try simp only [c21b0])
             go_wp2_with (first | ((with_reducible refine gate_callee (f := 137) rfl ?_); refine goesL_ (some 54) rfl rfl Tryz.func137 (by kernel_rfl) rfl #[.int .u8 (bt a0 (ji16))] rfl (by (try simp only [List.map_toArray, List.map_cons, List.map_nil]); first | done | (simp only [hji16]; rfl) | rfl | (simp only [List.length_drop, List.length_take]; rfl)) ?_; (with_reducible refine (spec_l1Digit.calls k3 (bt a0 (ji16)) t453 _ A20.out).mono ?_); rintro e w' ⟨rfl, ⟨nd, rfl⟩⟩; refine ⟨_, rfl, ?_⟩))
             go_roundg k3
             case measure => have := HK1.out; have := HJ5.out; have := HK3.out; omega
             case rel => exact ⟨(wrap64 ((wrap64 (x7_3 * 64)) + t453)), (wrap64 (x8_3 + 1)), bS, bS, H', ⟨z46 HK1.out HJ5.out HK3.out⟩, ⟨bR HO_4⟩, ⟨bB⟩⟩
            rw [if_neg c18] at H
            exact absurd H (by simp)
           rw [if_neg c17] at H
           exact absurd H (by simp)
          rw [if_neg c15] at H
          have c15b0 : decide (x8_3 < x6_5) = false := decide_eq_false c15
          clear c15
          by_cases c22 : 0 < 0
          ·exact absurd c22 (by decide)
          rw [if_neg c22] at H
          have c22b0 : decide (0 < 0) = false := decide_eq_false c22
          clear c22
          have H' := aM H
          clear H
          go_wp2
          go_roundg k3
          case measure => have := HK1.out; have := HJ5.out; have := HK3.out; omega
          case rel => exact ⟨(wrap64 ((wrap64 (x7_3 * 64)) + 0)), (wrap64 (x8_3 + 1)), bS, bS, H', ⟨z46 HK1.out HJ5.out HK3.out⟩, ⟨bR HO_4⟩, ⟨bB⟩⟩
         rw [if_neg c14] at H
         have c14b0 : decide (x8_3 < 4) = false := decide_eq_false c14
         clear c14
         obtain ⟨y443, hy443⟩ : ∃ y_ : List Int, y_ = (([(wrap64 (Int.tdiv x7_3 65536)) % 256, (Int.tmod (wrap64 (Int.tdiv x7_3 256)) 256) % 256, (Int.tmod x7_3 256) % 256] : List Int)) := ⟨_, rfl⟩
         replace H : (if 0 ≤ (wrap64 (x6_5 - 1)) then (if (wrap64 (x6_5 - 1)) ≤ (y443.length : Int) then ((some (y443.take ((wrap64 (x6_5 - 1)) : Int).toNat : List Int)).bind fun y446 => (if x4_1.length + y446.length < 140737488355328 then (spec_l1Decode.l0 k3 a0 (x4_1 ++ y446) (wrap64 (x5_1 + 4))) else (none))) else (none)) else (none)) = some (r1, r2) := z0 hy443
         have Ny443 := aM hy443
         clear hy443
         obtain ⟨ji23, hji23⟩ : ∃ j_ : Int, (wrap64 (x6_5 - 1)) = j_ := ⟨_, rfl⟩
         replace H : (if 0 ≤ (ji23) then (if (ji23) ≤ (y443.length : Int) then ((some (y443.take ((ji23) : Int).toNat : List Int)).bind fun y446 => (if x4_1.length + y446.length < 140737488355328 then (spec_l1Decode.l0 k3 a0 (x4_1 ++ y446) (wrap64 (x5_1 + 4))) else (none))) else (none)) else (none)) = some (r1, r2) := by first | (rw [hji23] at H; exact H) | (simp only [hji23] at H ⊢; exact H)
         have hji23w : (IntKind.i64.wrap (x6_5 - 1)) = ji23 := (i64_w _).trans hji23
         by_cases c24 : 0 ≤ (ji23)
         ·rw [if_pos c24] at H
          have c24b0 := eq_true c24
          have c24b1 : decide (0 ≤ (ji23)) = true := decide_eq_true c24
          clear c24
          by_cases c25 : (ji23) ≤ (y443.length : Int)
          ·rw [if_pos c25] at H
           have c25b0 := eq_true c25
           have c25b1 : decide ((ji23) ≤ (y443.length : Int)) = true := decide_eq_true c25
           clear c25
           obtain ⟨y446, hy446⟩ : ∃ y_ : List Int, y_ = (y443.take ((ji23) : Int).toNat) := ⟨_, rfl⟩
           replace H : (if x4_1.length + y446.length < 140737488355328 then (spec_l1Decode.l0 k3 a0 (x4_1 ++ y446) (wrap64 (x5_1 + 4))) else (none)) = some (r1, r2) := z0 hy446
           have Ny446 := aM hy446
           clear hy446
           by_cases c26 : x4_1.length + y446.length < 140737488355328
           ·rw [if_pos c26] at H
            have LMc26 := aM c26
            clear c26
            obtain ⟨y450, hy450⟩ : ∃ y_ : List Int, y_ = (x4_1 ++ y446) := ⟨_, rfl⟩
            replace H : (spec_l1Decode.l0 k3 a0 y450 (wrap64 (x5_1 + 4))) = some (r1, r2) := z0 hy450
            have Ny450 := aM hy450
            clear hy450
            have H' := aM H
            clear H
            go_wp2_with (first | ((with_reducible refine gate_dst (N := 71) rfl ?_); (try (refine gate_guard (by rfl) ?_; dsimp only)); refine Kd.R_lit (Kd.int .u8) _ 5 ?hg (N := 71) ?hd (xs := ([(wrap64 (Int.tdiv x7_3 65536)) % 256, (Int.tmod (wrap64 (Int.tdiv x7_3 256)) 256) % 256, (Int.tmod x7_3 256) % 256] : List Int)) (inner := [.int .u8 ((wrap64 (Int.tdiv x7_3 65536)) % 256), .int .u8 ((Int.tmod (wrap64 (Int.tdiv x7_3 256)) 256) % 256), .int .u8 ((Int.tmod x7_3 256) % 256)]) (ok := fun _ => True) (okp := fun _ => True) ?hr ?hp (fun _ hk => hk) trivial (Below.refl _ _) (Nat.le_refl _) (by simp) ?_; (case hd => rfl); (case hg => rfl); (case hr => exact z10); (case hp => exact (Reps.one (show Kd.M (Kd.int .u8) _ _ _ ((wrap64 (Int.tdiv x7_3 65536)) % 256) [.int .u8 ((wrap64 (Int.tdiv x7_3 65536)) % 256)] from rfl) (Reps.one (show Kd.M (Kd.int .u8) _ _ _ ((Int.tmod (wrap64 (Int.tdiv x7_3 256)) 256) % 256) [.int .u8 ((Int.tmod (wrap64 (Int.tdiv x7_3 256)) 256) % 256)] from rfl) (Reps.one (show Kd.M (Kd.int .u8) _ _ _ ((Int.tmod x7_3 256) % 256) [.int .u8 ((Int.tmod x7_3 256) % 256)] from rfl) (Reps.none _ _))))); intro v444 w27 ho28 hb hg_ hnew_; clear hg_ hnew_; (first | rw [← Ny443.out] at ho28 | (simp only [Int.reduceToNat] at ho28; rw [← Ny443.out] at ho28)); have HO445 := aM (Kd.R_lower (Kd.R_new' ho28 (Kd.R_lt (bR HO_4))) (below_size bB)); replace HO_4 := aM (Kd.R_elder' (bR HO_4) (Kd.R_base ho28) hb); replace HB := aM (below_step bB hb); clear hb ho28; obtain ⟨Ao30, co30, eo30⟩ := Kd.R_slice HO445.out; subst eo30; have q29 : ((ji23) : Int) ≤ ((y443.length : Int) : Int) := pI; obtain ⟨i029, hi029, _, hsz29, _⟩ := info_parts info5; have hroom29 : y443.length ≤ co30 := (Kd.R_reads' HO445.out).2.1; have hC29 : Kd.C (Kd.int .u8) _ Ao30 y443.length y443 := (Kd.R_reads' HO445.out).2.2; have hcut29 := cut_to (P := Tryz.prog) 22 5 .i64 Tryz.underlying22 hi029 Ao30 y443.length co30 (ji23) (pI) q29 hroom29; have hr29 := Kd.C_take (m := ((ji23) : Int).toNat) hC29 (by omega); have hy29 : y446.length = ((ji23) : Int).toNat := (by rw [Ny446.out, List.length_take]; omega); rw [← Ny446.out] at hr29; rw [← hy29] at hcut29; have HR449 := aM hr29; have HC449 := aM (show y446.length ≤ co30 from by omega); clear hr29 hC29 hroom29 hi029 hsz29; have KY29 := aM hy29; clear hy29; have KL29 := aM (show ((ji23) : Int).toNat ≤ y443.length from by omega); replace q29 := eq_true q29) | ((with_reducible refine gate_builtin (b := .append) (xs := #[.tmp 72, .tmp 76]) rfl ?_); (try (refine gate_guard (by rfl) ?_; dsimp only)); at_builtin; refine Kd.R_append_rows (Kd.int .u8) (w0 := w) w.heap.size rfl (.tmp 72) (.tmp 76) 22 5 (.int .u8 0) 1 rfl Tryz.underlying22 info5 rfl (by decide) (by omega) u4 x4_1 y446 _ _ _ (fun k_ => some k_ ≠ (.slice Ao30 y443.length co30 : Value).ownBlock) (fun _ => False) rfl rfl ?aO ?aR (fun _ _ h => h) (fun _ h => h.elim) ?aF ?aB ?aS ?aL ?_; (case aR => repeat (first | exact (by repeat (first | (with_reducible exact HR449.out) | (with_reducible refine Kd.C_alloc ?_ _) | (with_reducible refine Kd.C_drewN ?_ _) | (with_reducible refine Kd.C_drew ?_) | exact HR449.out)) | (with_reducible refine Kd.C_alloc ?_ _) | (with_reducible refine Kd.C_drewN ?_ _) | (with_reducible refine Kd.C_drew ?_))); (case aB => exact bB); (case aF => exact (fun k_ hk => Kd.fresh' (Kd.R_lt (bR HO445)) k_ hk)); (case aO => exact z13 HO_4.out); (case aS => exact (below_size bB)); (case aL => have := LMc26.out; omega); intro v451 w31 ho hb hg hat; rw [← Ny450.out] at ho; have n0_ := aM (Kd.R_after (ok := (fun _ => True)) (bR HO445) hg hat); have n1_ := aM (hb); have n2_ := aM ((show Kd.C (Kd.int .u8) w31 Ao30 y446.length y446 from by rw [Ny446.out]; exact Kd.C_take (m := ((ji23) : Int).toNat) ((Kd.R_reads' (Kd.R_after (ok := (fun _ => True)) (bR HO445) hg hat)).2.2) KL29.out)); have n3_ := aM (ho); clear HO445; clear HB; clear HR449; clear HO_4; have HO445 := n0_; have HB := n1_; have HR449 := n2_; have HO452 := n3_; clear n0_ n1_ n2_ n3_; clear ho hb hg hat))
            go_roundg k3
            case measure => have := HK1.out; have := HJ5.out; have := HK3.out; omega
            case rel => exact ⟨(y450), (wrap64 (x5_1 + 4)), bS, H', ⟨z46 HK1.out HJ5.out HK3.out⟩, ⟨z9 HO452.out⟩, ⟨bB⟩⟩
           rw [if_neg c26] at H
           exact absurd H (by simp)
          rw [if_neg c25] at H
          exact absurd H (by simp)
         rw [if_neg c24] at H
         exact absurd H (by simp)
    rw [if_neg c5] at H
    have c5b0 : decide (x5_1 < (a0.size : Int)) = false := decide_eq_false c5
    clear c5
    replace H := Option.bind_eq_some_iff.mp H
    obtain ⟨t442, A320, H⟩ := H
    replace H : (some (x4_1, (t442.toList == a0.toList))) = some (r1, r2) := H
    have A32 := aM A320
    clear A320
    simp only [Option.some.injEq, Prod.mk.injEq] at H
    obtain ⟨rfl, rfl⟩ := H
    obtain ⟨Ao33, co33, eo33⟩ := Kd.R_slice HO_4.out
    subst eo33
    go_wp2_with (first | ((with_reducible refine gate_callee (f := 65) rfl ?_); refine gL_ (some 80) Tryz.func65 #[.slice Ao33 x4_1.length co33] ?_; (with_reducible refine (spec_l1Encode.calls k1 _ _ x4_1 t442 _ ?side1 ?side2 A32.out).mono ?_); (case side1 => exact z4 HO_4.out); (case side2 => exact (Kd.R_reads' HO_4.out).2.1); rintro e w34 ⟨rfl, hb⟩; refine ⟨_, rfl, ?_⟩; replace HO_4 := aM (Kd.R_below (bR HO_4) hb); replace HB := aM (below_step bB hb); (try clear hi)))
    go_ret2
    exact ⟨_, bE, bR HO_4, bB⟩
 rw [if_neg c2] at H
 have c2b0 : (((a0.size : Int) % 4) == 0) = false := beq_eq_false_iff_ne.mpr c2
 have c2b1 : (((a0.size : Int) % 4) != 0) = true := bne_iff_ne.mpr c2
 simp only [Option.some.injEq, Prod.mk.injEq] at H
 obtain ⟨rfl, rfl⟩ := H
 (try simp only [c2b0, c2b1])
 go_wp2_with (first | ((with_reducible refine gate_dst (N := 11) rfl ?_); (try (refine gate_guard (by rfl) ?_; dsimp only)); refine Kd.R_lit (Kd.int .u8) _ 5 ?hg (N := 11) ?hd (xs := ([] : List Int)) (inner := []) (ok := fun _ => True) (okp := fun _ => True) ?hr ?hp (fun _ hk => hk) trivial (Below.refl _ _) (Nat.le_refl _) (by simp) ?_; (case hd => rfl); (case hg => rfl); (case hr => exact z10); (case hp => exact (Reps.none _ _)); intro v440 w35 ho36 hb hg_ hnew_; clear hg_ hnew_; (first | rw [← Ny439.out] at ho36 | (simp only [Int.reduceToNat] at ho36; rw [← Ny439.out] at ho36)); have HO441 := aM (Kd.R_lower ho36 (below_size bB)); replace HB := aM (below_step bB hb); clear hb ho36))
 go_ret2
 exact ⟨_, bE, z6, bB⟩
def spec_l1HexValue.j0 : Nat → Int → Bool → Option (Int)
 | 0, _, _ => none
 | k + 1, x0, x8 => if x8 = true then (some ((x0 - 48) % 256)) else (if x0 ≥ 65 then (if x0 ≤ 70 then (some (((x0 - 65) % 256) + 10)) else (some (-1))) else (some (-1)))
def spec_l1HexValue.f (k : Nat) (a0 : Int) : Option (Int) := if a0 ≥ 48 then (spec_l1HexValue.j0 k a0 (decide (a0 ≤ 57))) else (spec_l1HexValue.j0 k a0 false)
set_option maxHeartbeats 8000000 in
set_option maxRecDepth 100000 in
theorem spec_l1HexValue.calls (k : Nat) (a0 : Int) (r : Int) (w : World) (h : spec_l1HexValue.f k a0 = some r) :
  Calls Tryz.prog 138 #[.int .u8 a0] w fun e w' => e = .returned (.int .i64 r) ∧ Drawn0 w w' := by
 have H : (if a0 ≥ 48 then (spec_l1HexValue.j0 k a0 (decide (a0 ≤ 57))) else (spec_l1HexValue.j0 k a0 false)) = some r := h
 clear h
 have HC2 := aM H
 clear H
 go_enter Tryz.func138, Tryz.ntmps138
 go_upto_region 1 with (fail)
 go_cut [8] (fun v8 wc => ∃ (kq : Nat) (x8_1 : Bool), v8 = .bool x8_1 ∧ Aside0 (spec_l1HexValue.j0 kq a0 x8_1 = some r) ∧ Aside0 (kq ≤ k) ∧ Drawn0 w wc)
 case first =>
  have H := HC2.out
  clear HC2
  by_cases c3 : a0 ≥ 48
  ·rw [if_pos c3] at H
   have c3b0 : decide (48 ≤ a0) = true := decide_eq_true c3
   clear c3
   (first | rw [c3b0] | (simp only [i64_w, i32_w]; rw [c3b0]) | skip)
   have H' := aM H
   clear H
   go_wp2
   go_meet
   case rel => exact ⟨_, (decide (a0 ≤ 57)), bS, H', ⟨z34⟩, z5⟩
  rw [if_neg c3] at H
  have c3b0 : decide (48 ≤ a0) = false := decide_eq_false c3
  clear c3
  (first | rw [c3b0] | (simp only [i64_w, i32_w]; rw [c3b0]) | skip)
  have H' := aM H
  clear H
  go_wp2
  go_meet
  case rel => exact ⟨_, (false), bS, H', ⟨z34⟩, z5⟩
 case rest =>
  clear HC2
  try clear c1
  try clear p2
  try clear c3
  try clear c3b0
  obtain ⟨kq, x8_1, rfl, HA, HJ1, ⟨mc1, rfl⟩⟩ := hcut
  cases kq with
  | zero => exact absurd HA.out (by simp [spec_l1HexValue.j0])
  | succ kj1 =>
   have H := HA.out
   clear HA
   simp only [spec_l1HexValue.j0] at H
   by_cases c4 : x8_1 = true
   ·subst c4
    have H1 : (some ((a0 - 48) % 256)) = some r := z16
    clear H
    have H := H1
    clear H1
    obtain rfl := Option.some.inj H
    go_wp2
    go_ret
    exact ⟨bS, z5⟩
   replace c4 := Bool.eq_false_iff.mpr c4
   subst c4
   have H1 : (if a0 ≥ 65 then (if a0 ≤ 70 then (some (((a0 - 65) % 256) + 10)) else (some (-1))) else (some (-1))) = some r := z7
   clear H
   have H := H1
   clear H1
   by_cases c5 : a0 ≥ 65
   ·rw [if_pos c5] at H
    have c5b0 : decide (65 ≤ a0) = true := decide_eq_true c5
    clear c5
    by_cases c6 : a0 ≤ 70
    ·rw [if_pos c6] at H
     have c6b0 : decide (a0 ≤ 70) = true := decide_eq_true c6
     clear c6
     obtain rfl := Option.some.inj H
     go_wp2
     go_ret
     exact ⟨bS, z5⟩
    rw [if_neg c6] at H
    have c6b0 : decide (a0 ≤ 70) = false := decide_eq_false c6
    clear c6
    obtain rfl := Option.some.inj H
    go_wp2
    go_ret
    exact ⟨bS, z5⟩
   rw [if_neg c5] at H
   have c5b0 : decide (65 ≤ a0) = false := decide_eq_false c5
   clear c5
   obtain rfl := Option.some.inj H
   go_wp2
   go_ret
   exact ⟨bS, z5⟩
mutual
def spec_l4Letters.l0 : Nat → ByteArray → List Int → Int → Option (List Int × Bool)
 | 0, _, _, _ => none
 | k + 1, x0, x4, x5 => if x5 < (x0.size : Int) then (if 0 ≤ x5 then (if (bt x0 x5) = 95 then (if x4.length < 140737488355328 then (spec_l4Letters.l0 k x0 (x4 ++ [32]) (wrap64 (x5 + 1))) else (none)) else (if (bt x0 x5) < 33 then (spec_l4Letters.j1 k x0 x4 x5 (bt x0 x5) true) else (spec_l4Letters.j1 k x0 x4 x5 (bt x0 x5) (decide ((bt x0 x5) > 126))))) else (none)) else (some (x4, true))
def spec_l4Letters.j1 : Nat → ByteArray → List Int → Int → Int → Bool → Option (List Int × Bool)
 | 0, _, _, _, _, _ => none
 | k + 1, x0, x4, x5, x6, x27 => if x27 = true then (some (([] : List Int), false)) else (if x6 = 61 then (if (wrap64 (x5 + 2)) ≥ (x0.size : Int) then (spec_l4Letters.j2 k x0 x4 x5 true) else (if 0 ≤ (wrap64 (x5 + 1)) then (if (wrap64 (x5 + 1)) < (x0.size : Int) then ((spec_l1HexValue.f k (bt x0 (wrap64 (x5 + 1)))).bind fun t463 => (if t463 < 0 then (spec_l4Letters.j2 k x0 x4 x5 true) else (if 0 ≤ (wrap64 (x5 + 2)) then (if (wrap64 (x5 + 2)) < (x0.size : Int) then ((spec_l1HexValue.f k (bt x0 (wrap64 (x5 + 2)))).bind fun t464 => (spec_l4Letters.j2 k x0 x4 x5 (decide (t464 < 0)))) else (none)) else (none)))) else (none)) else (none))) else (if x4.length < 140737488355328 then (spec_l4Letters.l0 k x0 (x4 ++ [x6]) (wrap64 (x5 + 1))) else (none)))
def spec_l4Letters.j2 : Nat → ByteArray → List Int → Int → Bool → Option (List Int × Bool)
 | 0, _, _, _, _ => none
 | k + 1, x0, x4, x5, x54 => if x54 = true then (some (([] : List Int), false)) else (if 0 ≤ (wrap64 (x5 + 1)) then (if (wrap64 (x5 + 1)) < (x0.size : Int) then ((spec_l1HexValue.f k (bt x0 (wrap64 (x5 + 1)))).bind fun t465 => (if 0 ≤ (wrap64 (x5 + 2)) then (if (wrap64 (x5 + 2)) < (x0.size : Int) then ((spec_l1HexValue.f k (bt x0 (wrap64 (x5 + 2)))).bind fun t466 => (if x4.length < 140737488355328 then (spec_l4Letters.l0 k x0 (x4 ++ [(wrap64 ((wrap64 (16 * t465)) + t466)) % 256]) (wrap64 ((wrap64 (x5 + 2)) + 1))) else (none))) else (none)) else (none))) else (none)) else (none))
end
def spec_l4Letters.f (k : Nat) (a0 : ByteArray) : Option (List Int × Bool) := spec_l4Letters.l0 k a0 (([] : List Int)) 0
def spec_l4Letters.T14 : Bool × List (List Nat × List Nat) := (true, [([], []), ([], []), ([], []), ([2], [2]), ([1, 3], [1, 3]), ([4], [4]), ([5], [5]), ([], []), ([], []), ([8], [8]), ([7, 9], [7, 9]), ([10, 5], [10]), ([6, 11], [6, 11]), ([12], [12]), ([13], [13]), ([0, 14, 11], [0, 14]), ([15, 15, 0, 1, 2, 3, 4, 5, 6, 7, 8, 9, 10, 11, 12, 13, 14, 15], [0, 15])])
def spec_l4Letters.B14 : List Nat := [0, 0, 0, 4, 14, 30, 62, 0, 0, 256, 896, 1982, 4094, 8190, 16382, 32767, 65535]
theorem spec_l4Letters.tab14 : rtab .any (opsOf Tryz.f121 14) = spec_l4Letters.T14 := by kernel_rfl
theorem spec_l4Letters.bits14 : waitsOk spec_l4Letters.T14.2 spec_l4Letters.B14 = true := by kernel_rfl
set_option maxHeartbeats 8000000 in
set_option maxRecDepth 100000 in
theorem spec_l4Letters.calls (k : Nat) (a0 : ByteArray) (r1 : List Int) (r2 : Bool) (w : World) (h : spec_l4Letters.f k a0 = some (r1, r2)) :
  Calls Tryz.prog 121 #[.string a0] w fun e w' => ∃ v0_ : Value, e = .returned (.tuple #[v0_, .bool r2]) ∧ Kd.R (Kd.int .u8) 5 w' w.heap.size (fun _ => True) v0_ r1 ∧ Below w.heap.size w w' := by
 have HB := aM (Below.refl w.heap.size w)
 have H : (spec_l4Letters.l0 k a0 (([] : List Int)) 0) = some (r1, r2) := h
 clear h
 obtain ⟨y454, hy454⟩ : ∃ y_ : List Int, y_ = (([] : List Int)) := ⟨_, rfl⟩
 replace H : (spec_l4Letters.l0 k a0 y454 0) = some (r1, r2) := z0 hy454
 have Ny454 := aM hy454
 clear hy454
 have H' := aM H
 clear H
 go_enter Tryz.func121, Tryz.ntmps121
 go_wp2_with (first | ((with_reducible refine gate_dst (N := 7) rfl ?_); refine Kd.R_lit (Kd.int .u8) _ 5 ?hg (N := 7) ?hd (xs := ([] : List Int)) (inner := []) (ok := fun _ => True) (okp := fun _ => True) ?hr ?hp (fun _ hk => hk) trivial (Below.refl _ _) (Nat.le_refl _) (by simp) ?_; (case hd => rfl); (case hg => rfl); (case hr => exact z10); (case hp => exact (Reps.none _ _)); intro v455 w2 ho3 hb hg_ hnew_; clear hg_ hnew_; (first | rw [← Ny454.out] at ho3 | (simp only [Int.reduceToNat] at ho3; rw [← Ny454.out] at ho3)); have HO456 := aM (Kd.R_lower ho3 (below_size bB)); replace HB := aM (below_step bB hb); clear hb ho3))
 go_loopg [4, 5] k (fun kq v4 v5 w' => ∃ (x4_1 : List Int) (x5_1 : Int), v5 = .int .i64 x5_1 ∧ Aside0 (spec_l4Letters.l0 kq a0 x4_1 x5_1 = some (r1, r2)) ∧ Aside0 (kq ≤ k) ∧ Aside0 (Kd.R (Kd.int .u8) 5 w' w.heap.size (fun _ => True) v4 x4_1) ∧ Aside0 (Below w.heap.size w w'))
 case atStart => exact ⟨(y454), (0), bS, H', ⟨Nat.le_refl _⟩, ⟨bR HO456⟩, ⟨bB⟩⟩
 case round =>
  clear H'
  try clear c1
  try clear p2
  obtain ⟨x4_1, x5_1, rfl, HA, HK1, HO_4, HB⟩ := hrel
  cases gk with
  | zero => exact absurd HA.out (by simp [spec_l4Letters.l0])
  | succ k1 =>
   have H := HA.out
   clear HA
   simp only [spec_l4Letters.l0] at H
   by_cases c4 : x5_1 < (a0.size : Int)
   ·rw [if_pos c4] at H
    have c4b0 : decide (x5_1 < (a0.size : Int)) = true := decide_eq_true c4
    clear c4
    by_cases c5 : 0 ≤ x5_1
    ·rw [if_pos c5] at H
     have c5b0 : decide (0 ≤ x5_1) = true := decide_eq_true c5
     clear c5
     have HQ_ := aM H
     clear H
     have p6 : 0 ≤ (x5_1 : Int) := pI
     have q6 : x5_1 < (a0.size : Int) := pI
     have hx6 := bt_at a0 x5_1
     replace p6 := eq_true p6
     replace q6 := eq_true q6
     have H := HQ_.out
     clear HQ_
     by_cases c7 : (bt a0 x5_1) = 95
     ·rw [if_pos c7] at H
      have c7b0 : ((bt a0 x5_1) == 95) = true := beq_iff_eq.mpr c7
      have c7b1 : ((bt a0 x5_1) != 95) = false := bne_eq_false_iff_eq.mpr c7
      clear c7
      (try simp only [c7b0, c7b1])
      by_cases c8 : x4_1.length < 140737488355328
      ·rw [if_pos c8] at H
       have LMc8 := aM c8
       clear c8
       obtain ⟨y457, hy457⟩ : ∃ y_ : List Int, y_ = (x4_1 ++ [32]) := ⟨_, rfl⟩
       replace H : (spec_l4Letters.l0 k1 a0 y457 (wrap64 (x5_1 + 1))) = some (r1, r2) := z0 hy457
       have Ny457 := aM hy457
       clear hy457
       have H' := aM H
       clear H
       go_wp2_with (first | ((with_reducible refine gate_builtin (b := .append) (xs := #[.tmp 19, .tmp 20]) rfl ?_); at_builtin; refine Kd.R_append (Kd.int .u8) (w0 := w) w.heap.size rfl (.tmp 19) (.tmp 20) 22 5 (.int .u8 0) 1 rfl Tryz.underlying22 info5 rfl (by decide) (by omega) u4 x4_1 32 [.int .u8 32] (fun _ => True) (fun _ => False) rfl rfl ?aP (fun _ hk => hk.elim) ?aF ?aO ?aB ?aS ?aL ?_; (case aP => exact rfl); (case aB => exact bB); (case aF => exact (fun _ _ => trivial)); (case aO => exact (bR HO_4)); (case aS => exact (below_size bB)); (case aL => have := LMc8.out; omega); intro v458 w9 ho hb hg hat; rw [← Ny457.out] at ho; have n0_ := aM (hb); have n1_ := aM (ho); clear HB; clear HO_4; have HB := n0_; have HO459 := n1_; clear n0_ n1_; clear ho hb hg hat))
       go_roundg k1
       case measure => have := HK1.out; omega
       case rel => exact ⟨(y457), (wrap64 (x5_1 + 1)), bS, H', ⟨by have := HK1.out; omega⟩, ⟨bR HO459⟩, ⟨bB⟩⟩
      rw [if_neg c8] at H
      exact absurd H (by simp)
     rw [if_neg c7] at H
     have c7b0 : ((bt a0 x5_1) == 95) = false := beq_eq_false_iff_ne.mpr c7
     have c7b1 : ((bt a0 x5_1) != 95) = true := bne_iff_ne.mpr c7
     have HC10 := aM H
     clear H
     (try simp only [c7b0, c7b1])
     go_upto_region 8 with (fail)
     go_cut [27] (fun v27 wc => ∃ (kq : Nat) (x27_9 : Bool), v27 = .bool x27_9 ∧ Aside0 (spec_l4Letters.j1 kq a0 x4_1 x5_1 (bt a0 x5_1) x27_9 = some (r1, r2)) ∧ Aside0 (kq ≤ k1) ∧ Aside0 (Kd.R (Kd.int .u8) 5 wc w.heap.size (fun _ => True) u4 x4_1) ∧ Aside0 (Below w.heap.size w wc))
     case first =>
      have H := HC10.out
      clear HC10
      by_cases c11 : (bt a0 x5_1) < 33
      ·rw [if_pos c11] at H
       have c11b0 : decide ((bt a0 x5_1) < 33) = true := decide_eq_true c11
       clear c11
       (first | rw [c11b0] | (simp only [i64_w, i32_w]; rw [c11b0]) | skip)
       have H' := aM H
       clear H
       go_wp2
       go_meet
       case rel => exact ⟨_, (true), bS, H', ⟨z31 HK1.out⟩, ⟨bR HO_4⟩, ⟨bB⟩⟩
      rw [if_neg c11] at H
      have c11b0 : decide ((bt a0 x5_1) < 33) = false := decide_eq_false c11
      clear c11
      (first | rw [c11b0] | (simp only [i64_w, i32_w]; rw [c11b0]) | skip)
      have H' := aM H
      clear H
      go_wp2
      go_meet
      case rel => exact ⟨_, (decide ((bt a0 x5_1) > 126)), bS, H', ⟨z31 HK1.out⟩, ⟨bR HO_4⟩, ⟨bB⟩⟩
     case rest =>
      clear HC10
      try clear c1
      try clear p2
      try clear c4
      try clear c4b0
      try clear c5
      try clear c5b0
      try clear p6
      try clear q6
      try clear hx6
      try clear c7
      try clear c7b0
      try clear c7b1
      try clear c8
      try clear c11
      try clear c11b0
      try clear p2
      try clear p6
      try clear q6
      obtain ⟨kq, x27_9, rfl, HA, HJ9, HO_4, HB⟩ := hcut
      cases kq with
      | zero => exact absurd HA.out (by simp [spec_l4Letters.j1])
      | succ kj9 =>
       have H := HA.out
       clear HA
       simp only [spec_l4Letters.j1] at H
       by_cases c12 : x27_9 = true
       ·subst c12
        have H1 : (some (([] : List Int), false)) = some (r1, r2) := z16
        clear H
        have H := H1
        clear H1
        simp only [Option.some.injEq, Prod.mk.injEq] at H
        obtain ⟨rfl, rfl⟩ := H
        go_wp2
        go_ret2
        exact ⟨_, bE, z6, bB⟩
       replace c12 := Bool.eq_false_iff.mpr c12
       subst c12
       have H1 : (if (bt a0 x5_1) = 61 then (if (wrap64 (x5_1 + 2)) ≥ (a0.size : Int) then (spec_l4Letters.j2 kj9 a0 x4_1 x5_1 true) else (if 0 ≤ (wrap64 (x5_1 + 1)) then (if (wrap64 (x5_1 + 1)) < (a0.size : Int) then ((spec_l1HexValue.f kj9 (bt a0 (wrap64 (x5_1 + 1)))).bind fun t463 => (if t463 < 0 then (spec_l4Letters.j2 kj9 a0 x4_1 x5_1 true) else (if 0 ≤ (wrap64 (x5_1 + 2)) then (if (wrap64 (x5_1 + 2)) < (a0.size : Int) then ((spec_l1HexValue.f kj9 (bt a0 (wrap64 (x5_1 + 2)))).bind fun t464 => (spec_l4Letters.j2 kj9 a0 x4_1 x5_1 (decide (t464 < 0)))) else (none)) else (none)))) else (none)) else (none))) else (if x4_1.length < 140737488355328 then (spec_l4Letters.l0 kj9 a0 (x4_1 ++ [(bt a0 x5_1)]) (wrap64 (x5_1 + 1))) else (none))) = some (r1, r2) := z7
       clear H
       have H := H1
       clear H1
       by_cases c13 : (bt a0 x5_1) = 61
       ·rw [if_pos c13] at H
        have c13b0 : ((bt a0 x5_1) == 61) = true := beq_iff_eq.mpr c13
        have c13b1 : ((bt a0 x5_1) != 61) = false := bne_eq_false_iff_eq.mpr c13
        clear c13
        have HC14 := aM H
        clear H
        go_upto_region 12 with (fail)
        go_cut [54] (fun v54 wc => ∃ (kq : Nat) (x54_13 : Bool), v54 = .bool x54_13 ∧ Aside0 (spec_l4Letters.j2 kq a0 x4_1 x5_1 x54_13 = some (r1, r2)) ∧ Aside0 (kq ≤ kj9) ∧ Aside0 (Kd.R (Kd.int .u8) 5 wc w.heap.size (fun _ => True) u4 x4_1) ∧ Aside0 (Below w.heap.size w wc))
        case first =>
         have H := HC14.out
         clear HC14
         by_cases c15 : (wrap64 (x5_1 + 2)) ≥ (a0.size : Int)
         ·rw [if_pos c15] at H
          have c15b0 : decide ((a0.size : Int) ≤ (wrap64 (x5_1 + 2))) = true := decide_eq_true c15
          clear c15
          (first | rw [c15b0] | (simp only [i64_w, i32_w]; rw [c15b0]) | skip)
          have H' := aM H
          clear H
          go_wp2
          go_meet
          case rel => exact ⟨_, (true), bS, H', ⟨z23 HK1.out HJ9.out⟩, ⟨bR HO_4⟩, ⟨bB⟩⟩
         rw [if_neg c15] at H
         have c15b0 : decide ((a0.size : Int) ≤ (wrap64 (x5_1 + 2))) = false := decide_eq_false c15
         clear c15
         (first | rw [c15b0] | (simp only [i64_w, i32_w]; rw [c15b0]) | skip)
         obtain ⟨ji16, hji16⟩ : ∃ j_ : Int, (wrap64 (x5_1 + 1)) = j_ := ⟨_, rfl⟩
         replace H : (if 0 ≤ (ji16) then (if (ji16) < (a0.size : Int) then ((spec_l1HexValue.f kj9 (bt a0 (ji16))).bind fun t463 => (if t463 < 0 then (spec_l4Letters.j2 kj9 a0 x4_1 x5_1 true) else (if 0 ≤ (wrap64 (x5_1 + 2)) then (if (wrap64 (x5_1 + 2)) < (a0.size : Int) then ((spec_l1HexValue.f kj9 (bt a0 (wrap64 (x5_1 + 2)))).bind fun t464 => (spec_l4Letters.j2 kj9 a0 x4_1 x5_1 (decide (t464 < 0)))) else (none)) else (none)))) else (none)) else (none)) = some (r1, r2) := by first | (rw [hji16] at H; exact H) | (simp only [hji16] at H ⊢; exact H)
         have hji16w : (IntKind.i64.wrap (x5_1 + 1)) = ji16 := (i64_w _).trans hji16
         by_cases c17 : 0 ≤ (ji16)
         ·rw [if_pos c17] at H
          have c17b0 : decide (0 ≤ (ji16)) = true := decide_eq_true c17
          clear c17
          by_cases c18 : (ji16) < (a0.size : Int)
          ·rw [if_pos c18] at H
           have c18b0 : decide ((ji16) < (a0.size : Int)) = true := decide_eq_true c18
           clear c18
           replace H := Option.bind_eq_some_iff.mp H
           obtain ⟨t463, A200, H⟩ := H
           replace H : (if t463 < 0 then (spec_l4Letters.j2 kj9 a0 x4_1 x5_1 true) else (if 0 ≤ (wrap64 (x5_1 + 2)) then (if (wrap64 (x5_1 + 2)) < (a0.size : Int) then ((spec_l1HexValue.f kj9 (bt a0 (wrap64 (x5_1 + 2)))).bind fun t464 => (spec_l4Letters.j2 kj9 a0 x4_1 x5_1 (decide (t464 < 0)))) else (none)) else (none))) = some (r1, r2) := H
           have A20 := aM A200
           clear A200
           have HQ_ := aM H
           clear H
           have p19 : 0 ≤ ((ji16) : Int) := pI
           have q19 : (ji16) < (a0.size : Int) := pI
           have hx19 := bt_at a0 (ji16)
           replace p19 := eq_true p19
           replace q19 := eq_true q19
           have H := HQ_.out
           clear HQ_
           by_cases c21 : t463 < 0
           ·rw [if_pos c21] at H
            have c21b0 : decide (t463 < 0) = true := decide_eq_true c21
            clear c21
            have H' := aM H
            clear H
            (try simp only [c21b0])
            go_wp2_with (first | (go_at_call 138; (with_reducible refine (spec_l1HexValue.calls kj9 (bt a0 (ji16)) t463 _ A20.out).mono ?_); rintro e w' ⟨rfl, ⟨nd, rfl⟩⟩))
            go_meet
            case rel => exact ⟨_, (true), bS, H', ⟨z23 HK1.out HJ9.out⟩, ⟨bR HO_4⟩, ⟨bB⟩⟩
           rw [if_neg c21] at H
           have c21b0 : decide (t463 < 0) = false := decide_eq_false c21
           clear c21
           obtain ⟨ji22, hji22⟩ : ∃ j_ : Int, (wrap64 (x5_1 + 2)) = j_ := ⟨_, rfl⟩
           replace H : (if 0 ≤ (ji22) then (if (ji22) < (a0.size : Int) then ((spec_l1HexValue.f kj9 (bt a0 (ji22))).bind fun t464 => (spec_l4Letters.j2 kj9 a0 x4_1 x5_1 (decide (t464 < 0)))) else (none)) else (none)) = some (r1, r2) := by first | (rw [hji22] at H; exact H) | (simp only [hji22] at H ⊢; exact H)
           (try rw [hji22] at c15b0)
           (try rw [hji22] at A20)
           have hji22w : (IntKind.i64.wrap (x5_1 + 2)) = ji22 := (i64_w _).trans hji22
           (try simp only [c21b0])
           by_cases c23 : 0 ≤ (ji22)
           ·rw [if_pos c23] at H
            have c23b0 : decide (0 ≤ (ji22)) = true := decide_eq_true c23
            clear c23
            by_cases c24 : (ji22) < (a0.size : Int)
            ·rw [if_pos c24] at H
             have c24b0 : decide ((ji22) < (a0.size : Int)) = true := decide_eq_true c24
             clear c24
             replace H := Option.bind_eq_some_iff.mp H
             obtain ⟨t464, A260, H⟩ := H
             replace H : (spec_l4Letters.j2 kj9 a0 x4_1 x5_1 (decide (t464 < 0))) = some (r1, r2) := H
             have A26 := aM A260
             clear A260
             have H' := aM H
             clear H
             go_wp2_with (first | (go_at_call 138; (with_reducible refine (spec_l1HexValue.calls kj9 (bt a0 (ji16)) t463 _ A20.out).mono ?_); rintro e w' ⟨rfl, ⟨nd, rfl⟩⟩; have p25 : 0 ≤ ((ji22) : Int) := pI; have q25 : (ji22) < (a0.size : Int) := pI; have hx25 := bt_at a0 (ji22); replace p25 := eq_true p25; replace q25 := eq_true q25) | (go_at_call 138; (with_reducible refine (spec_l1HexValue.calls kj9 (bt a0 (ji22)) t464 _ A26.out).mono ?_); rintro e w' ⟨rfl, ⟨nd, rfl⟩⟩))
             go_meet
             case rel => exact ⟨_, (decide (t464 < 0)), bS, H', ⟨z23 HK1.out HJ9.out⟩, ⟨bR HO_4⟩, ⟨bB⟩⟩
            rw [if_neg c24] at H
            exact absurd H (by simp)
           rw [if_neg c23] at H
           exact absurd H (by simp)
          rw [if_neg c18] at H
          exact absurd H (by simp)
         rw [if_neg c17] at H
         exact absurd H (by simp)
        case rest =>
         clear HC14
         try clear c1
         try clear p1
         try clear q1
         try clear hx1
         try clear c2
         try clear p2
         try clear q2
         try clear hx2
         try clear c4
         try clear c4b0
         try clear c5
         try clear c5b0
         try clear p6
         try clear q6
         try clear hx6
         try clear c7
         try clear c7b0
         try clear c7b1
         try clear c8
         try clear c11
         try clear c11b0
         try clear c12
         try clear c13
         try clear c13b0
         try clear c13b1
         try clear c15
         try clear c15b0
         try clear c17
         try clear c17b0
         try clear c18
         try clear c18b0
         try clear p19
         try clear q19
         try clear hx19
         try clear c21
         try clear c21b0
         try clear c23
         try clear c23b0
         try clear c24
         try clear c24b0
         try clear p25
         try clear q25
         try clear hx25
         try clear p19
         try clear p2
         try clear p25
         try clear p6
         try clear q19
         try clear q25
         try clear q6
         obtain ⟨kq, x54_13, rfl, HA, HJ13, HO_4, HB⟩ := hcut
         cases kq with
         | zero => exact absurd HA.out (by simp [spec_l4Letters.j2])
         | succ kj13 =>
          have H := HA.out
          clear HA
          simp only [spec_l4Letters.j2] at H
          by_cases c27 : x54_13 = true
          ·subst c27
           have H1 : (some (([] : List Int), false)) = some (r1, r2) := z16
           clear H
           have H := H1
           clear H1
           simp only [Option.some.injEq, Prod.mk.injEq] at H
           obtain ⟨rfl, rfl⟩ := H
           go_wp2
           go_ret2
           exact ⟨_, bE, z6, bB⟩
          replace c27 := Bool.eq_false_iff.mpr c27
          subst c27
          have H1 : (if 0 ≤ (wrap64 (x5_1 + 1)) then (if (wrap64 (x5_1 + 1)) < (a0.size : Int) then ((spec_l1HexValue.f kj13 (bt a0 (wrap64 (x5_1 + 1)))).bind fun t465 => (if 0 ≤ (wrap64 (x5_1 + 2)) then (if (wrap64 (x5_1 + 2)) < (a0.size : Int) then ((spec_l1HexValue.f kj13 (bt a0 (wrap64 (x5_1 + 2)))).bind fun t466 => (if x4_1.length < 140737488355328 then (spec_l4Letters.l0 kj13 a0 (x4_1 ++ [(wrap64 ((wrap64 (16 * t465)) + t466)) % 256]) (wrap64 ((wrap64 (x5_1 + 2)) + 1))) else (none))) else (none)) else (none))) else (none)) else (none)) = some (r1, r2) := z7
          clear H
          have H := H1
          clear H1
          obtain ⟨ji28, hji28⟩ : ∃ j_ : Int, (wrap64 (x5_1 + 1)) = j_ := ⟨_, rfl⟩
          replace H : (if 0 ≤ (ji28) then (if (ji28) < (a0.size : Int) then ((spec_l1HexValue.f kj13 (bt a0 (ji28))).bind fun t465 => (if 0 ≤ (wrap64 (x5_1 + 2)) then (if (wrap64 (x5_1 + 2)) < (a0.size : Int) then ((spec_l1HexValue.f kj13 (bt a0 (wrap64 (x5_1 + 2)))).bind fun t466 => (if x4_1.length < 140737488355328 then (spec_l4Letters.l0 kj13 a0 (x4_1 ++ [(wrap64 ((wrap64 (16 * t465)) + t466)) % 256]) (wrap64 ((wrap64 (x5_1 + 2)) + 1))) else (none))) else (none)) else (none))) else (none)) else (none)) = some (r1, r2) := by first | (rw [hji28] at H; exact H) | (simp only [hji28] at H ⊢; exact H)
          have hji28w : (IntKind.i64.wrap (x5_1 + 1)) = ji28 := (i64_w _).trans hji28
          by_cases c29 : 0 ≤ (ji28)
          ·rw [if_pos c29] at H
           have c29b0 : decide (0 ≤ (ji28)) = true := decide_eq_true c29
           clear c29
           by_cases c30 : (ji28) < (a0.size : Int)
           ·rw [if_pos c30] at H
            have c30b0 : decide ((ji28) < (a0.size : Int)) = true := decide_eq_true c30
            clear c30
            replace H := Option.bind_eq_some_iff.mp H
            obtain ⟨t465, A320, H⟩ := H
            replace H : (if 0 ≤ (wrap64 (x5_1 + 2)) then (if (wrap64 (x5_1 + 2)) < (a0.size : Int) then ((spec_l1HexValue.f kj13 (bt a0 (wrap64 (x5_1 + 2)))).bind fun t466 => (if x4_1.length < 140737488355328 then (spec_l4Letters.l0 kj13 a0 (x4_1 ++ [(wrap64 ((wrap64 (16 * t465)) + t466)) % 256]) (wrap64 ((wrap64 (x5_1 + 2)) + 1))) else (none))) else (none)) else (none)) = some (r1, r2) := H
            have A32 := aM A320
            clear A320
            obtain ⟨ji33, hji33⟩ : ∃ j_ : Int, (wrap64 (x5_1 + 2)) = j_ := ⟨_, rfl⟩
            replace H : (if 0 ≤ (ji33) then (if (ji33) < (a0.size : Int) then ((spec_l1HexValue.f kj13 (bt a0 (ji33))).bind fun t466 => (if x4_1.length < 140737488355328 then (spec_l4Letters.l0 kj13 a0 (x4_1 ++ [(wrap64 ((wrap64 (16 * t465)) + t466)) % 256]) (wrap64 ((ji33) + 1))) else (none))) else (none)) else (none)) = some (r1, r2) := by first | (rw [hji33] at H; exact H) | (simp only [hji33] at H ⊢; exact H)
            (try rw [hji33] at A32)
            have hji33w : (IntKind.i64.wrap (x5_1 + 2)) = ji33 := (i64_w _).trans hji33
            by_cases c34 : 0 ≤ (ji33)
            ·rw [if_pos c34] at H
             have c34b0 : decide (0 ≤ (ji33)) = true := decide_eq_true c34
             clear c34
             by_cases c35 : (ji33) < (a0.size : Int)
             ·rw [if_pos c35] at H
              have c35b0 : decide ((ji33) < (a0.size : Int)) = true := decide_eq_true c35
              clear c35
              replace H := Option.bind_eq_some_iff.mp H
              obtain ⟨t466, A370, H⟩ := H
              replace H : (if x4_1.length < 140737488355328 then (spec_l4Letters.l0 kj13 a0 (x4_1 ++ [(wrap64 ((wrap64 (16 * t465)) + t466)) % 256]) (wrap64 ((ji33) + 1))) else (none)) = some (r1, r2) := H
              have A37 := aM A370
              clear A370
              by_cases c38 : x4_1.length < 140737488355328
              ·rw [if_pos c38] at H
               have LMc38 := aM c38
               clear c38
               obtain ⟨y467, hy467⟩ : ∃ y_ : List Int, y_ = (x4_1 ++ [(wrap64 ((wrap64 (16 * t465)) + t466)) % 256]) := ⟨_, rfl⟩
               replace H : (spec_l4Letters.l0 kj13 a0 y467 (wrap64 ((ji33) + 1))) = some (r1, r2) := z0 hy467
               have Ny467 := aM hy467
               clear hy467
               have H' := aM H
               clear H
               try go_wp2
               replace HO_4 := aM (Kd.R_drew HO_4.out)
               replace HB := aM (below_drew1 HB.out)
               have p31 : 0 ≤ ((ji28) : Int) := pI
               have q31 : (ji28) < (a0.size : Int) := pI
               have hx31 := bt_at a0 (ji28)
               replace p31 := eq_true p31
               replace q31 := eq_true q31
               have p36 : 0 ≤ ((ji33) : Int) := pI
               have q36 : (ji33) < (a0.size : Int) := pI
               have hx36 := bt_at a0 (ji33)
               replace p36 := eq_true p36
               replace q36 := eq_true q36
               refine start_ (n := 17) (S := fun w' => True) (ds := []) (bsA 17 0) (by kernel_rfl) rfl rfl trivial (fun hHeld => ?_); refine with_tabW spec_l4Letters.tab14 spec_l4Letters.bits14 (fun HT_ HW_ => ?_)
               generalize wc.drew = w39 at HO_4 HB hHeld ⊢
               refine pa_ (i := 0) (N := some 55) (bsA 17 1) (h := ?_)
               refine pa_ (i := 1) (N := some 56) (bsA 17 3) (h := ?_)
               refine pa_ (i := 2) (N := some 57) (bsA 17 7) (h := ?_)
               refine pa_ (i := 3) (N := some 58) (bsA 17 15) (h := ?_)
               refine pa_ (i := 7) (N := some 62) (bsA 17 143) (h := ?_)
               refine pa_ (i := 8) (N := some 63) (bsA 17 399) (h := ?_)
               refine pa_ (i := 9) (N := some 64) (bsA 17 911) (h := ?_)
               refine take_ (i := 4) (N := some 59) (v := ?_) (a' := ?_) (bsA 17 927) rfl rfl (take_ofW HT_.out HW_.out (by kernel_rfl)) (fun _ _ _ h => h) (Or.inl ⟨by rfl, ?_⟩) hHeld ?_ ?_
               rotate_left
               ·intro w' _
                go_simp
                with_reducible rfl
               rotate_left
               ·simp only [Act.put, List.setIfInBounds_toArray, List.set_cons_zero, List.set_cons_succ, i64_w, i32_w]
                rfl
               refine take_ (i := 10) (N := some 65) (v := ?_) (a' := ?_) (bsA 17 1951) rfl rfl (take_ofW HT_.out HW_.out (by kernel_rfl)) (fun _ _ _ h => h) (Or.inl ⟨by rfl, ?_⟩) hHeld ?_ ?_
               rotate_left
               ·intro w' _
                go_simp
                with_reducible rfl
               rotate_left
               ·simp only [Act.put, List.setIfInBounds_toArray, List.set_cons_zero, List.set_cons_succ, i64_w, i32_w]
                rfl
               refine one_ (i := 5) (N := some 60) (bsA 17 1983) rfl rfl (one_of HT_.out (by kernel_rfl)) (by decide) (fun K hK => ?_)
               refine goes_ Tryz.func138 (by kernel_rfl) rfl #[.int .u8 (bt a0 (ji28))] (by rfl) rfl rfl (by (try simp only [List.map_toArray, List.map_cons, List.map_nil]); first | done | (simp only [hji28]; rfl) | rfl | (simp only [List.length_drop, List.length_take]; rfl)) ?_
               with_reducible refine (spec_l1HexValue.calls kj13 (bt a0 (ji28)) t465 _ A32.out).mono ?_
               rintro e w' ⟨rfl, ⟨nd, rfl⟩⟩
               refine ⟨_, rfl, ?_⟩
               refine hK.out _ _ trivial (fun hHeld => ?_)
               clear hK K
               refine na_ (N := some 60) (h := ?_)
               refine pa_ (i := 6) (N := some 61) (bsA 17 2047) (h := ?_)
               refine one_ (i := 11) (N := some 66) (bsA 17 4095) rfl rfl (one_of HT_.out (by kernel_rfl)) (by decide) (fun K hK => ?_)
               refine goes_ Tryz.func138 (by kernel_rfl) rfl #[.int .u8 (bt a0 (ji33))] (by rfl) rfl rfl (by (try simp only [List.map_toArray, List.map_cons, List.map_nil]); first | done | (simp only [hji33]; rfl) | rfl | (simp only [List.length_drop, List.length_take]; rfl)) ?_
               with_reducible refine (spec_l1HexValue.calls kj13 (bt a0 (ji33)) t466 _ A37.out).mono ?_
               rintro e w' ⟨rfl, ⟨nd, rfl⟩⟩
               refine ⟨_, rfl, ?_⟩
               refine hK.out _ _ trivial (fun hHeld => ?_)
               clear hK K
               refine na_ (N := some 66) (h := ?_)
               refine pa_ (i := 12) (N := some 67) (bsA 17 8191) (h := ?_)
               refine pa_ (i := 13) (N := some 68) (bsA 17 16383) (h := ?_)
               refine one_ (i := 14) (N := some 69) (bsA 17 32767) rfl rfl (one_of HT_.out (by kernel_rfl)) (by decide) (fun K hK => ?_)
               refine value_ (w1 := ?_) (v := ?_) (by rfl) rfl ?_ ?_
               rotate_left 2
               ·go_simp
                constructor
                ·rfl
                rfl
               refine hK.out _ _ trivial (fun hHeld => ?_)
               clear hK K
               refine na_ (N := some 69) (h := ?_)
               refine one_ (i := 15) (N := some 70) (bsA 17 65535) rfl rfl (one_of HT_.out (by kernel_rfl)) (by decide) (fun K hK => ?_)
               refine Kd.R_append_step (Kd.int .u8) (w0 := w) w.heap.size (by rfl) (.tmp 55) (.tmp 69) 22 5 (.int .u8 0) 1 rfl Tryz.underlying22 info5 rfl (by decide) (by omega) u4 x4_1 ((wrap64 ((wrap64 (16 * t465)) + t466)) % 256) [.int .u8 ((wrap64 ((wrap64 (16 * t465)) + t466)) % 256)] (fun _ => True) (fun _ => False) rfl rfl ?aP (fun _ hk => hk.elim) ?aF ?aO ?aB ?aS ?aL ?_
               (case aP => exact rfl)
               (case aB => exact bB)
               (case aF => exact (fun _ _ => trivial))
               (case aO => exact (bR HO_4))
               (case aS => exact (below_size bB))
               (case aL => have := LMc38.out; omega)
               intro v468 w40 ho hb hg hat
               rw [← Ny467.out] at ho
               have n0_ := aM (hb)
               have n1_ := aM (ho)
               clear HB
               clear HO_4
               have HB := n0_
               have HO469 := n1_
               clear n0_ n1_
               clear ho hb hg hat
               refine hK.out _ _ trivial (fun hHeld => ?_)
               clear hK K
               refine na_ (N := some 70) (h := ?_)
               refine pa_ (i := 16) (N := some 4) (bsA 17 131071) (h := ?_)
               refine done_ (done_of HT_.out (by kernel_rfl)) ?_
               try go_wp2
               go_roundg kj13
               case measure => have := HK1.out; have := HJ9.out; have := HJ13.out; omega
               case rel => exact ⟨(y467), (wrap64 ((ji33) + 1)), (by first | rfl | (simp; done) | (simp only [← hji33] <;> (first | rfl | simp)) | (simp [*]; done)), H', ⟨z46 HK1.out HJ9.out HJ13.out⟩, ⟨bR HO469⟩, ⟨bB⟩⟩
              rw [if_neg c38] at H
              exact absurd H (by simp)
             rw [if_neg c35] at H
             exact absurd H (by simp)
            rw [if_neg c34] at H
            exact absurd H (by simp)
           rw [if_neg c30] at H
           exact absurd H (by simp)
          rw [if_neg c29] at H
          exact absurd H (by simp)
       rw [if_neg c13] at H
       have c13b0 : ((bt a0 x5_1) == 61) = false := beq_eq_false_iff_ne.mpr c13
       have c13b1 : ((bt a0 x5_1) != 61) = true := bne_iff_ne.mpr c13
       by_cases c41 : x4_1.length < 140737488355328
       ·rw [if_pos c41] at H
        have LMc41 := aM c41
        clear c41
        obtain ⟨y460, hy460⟩ : ∃ y_ : List Int, y_ = (x4_1 ++ [(bt a0 x5_1)]) := ⟨_, rfl⟩
        replace H : (spec_l4Letters.l0 kj9 a0 y460 (wrap64 (x5_1 + 1))) = some (r1, r2) := z0 hy460
        have Ny460 := aM hy460
        clear hy460
        have H' := aM H
        clear H
        go_wp2_with (first | ((with_reducible refine gate_builtin (b := .append) (xs := #[.tmp 30, .tmp 32]) rfl ?_); at_builtin; refine Kd.R_append (Kd.int .u8) (w0 := w) w.heap.size rfl (.tmp 30) (.tmp 32) 22 5 (.int .u8 0) 1 rfl Tryz.underlying22 info5 rfl (by decide) (by omega) u4 x4_1 (bt a0 x5_1) [.int .u8 (bt a0 x5_1)] (fun _ => True) (fun _ => False) rfl rfl ?aP (fun _ hk => hk.elim) ?aF ?aO ?aB ?aS ?aL ?_; (case aP => exact rfl); (case aB => exact bB); (case aF => exact (fun _ _ => trivial)); (case aO => exact (bR HO_4)); (case aS => exact (below_size bB)); (case aL => have := LMc41.out; omega); intro v461 w42 ho hb hg hat; rw [← Ny460.out] at ho; have n0_ := aM (hb); have n1_ := aM (ho); clear HB; clear HO_4; have HB := n0_; have HO462 := n1_; clear n0_ n1_; clear ho hb hg hat))
        go_roundg kj9
        case measure => have := HK1.out; have := HJ9.out; omega
        case rel => exact ⟨(y460), (wrap64 (x5_1 + 1)), bS, H', ⟨by have := HK1.out; have := HJ9.out; omega⟩, ⟨bR HO462⟩, ⟨bB⟩⟩
       rw [if_neg c41] at H
       exact absurd H (by simp)
    rw [if_neg c5] at H
    exact absurd H (by simp)
   rw [if_neg c4] at H
   have c4b0 : decide (x5_1 < (a0.size : Int)) = false := decide_eq_false c4
   clear c4
   simp only [Option.some.injEq, Prod.mk.injEq] at H
   obtain ⟨rfl, rfl⟩ := H
   go_wp2
   go_ret2
   exact ⟨_, bE, bR HO_4, bB⟩
def spec_l4Told.j0 : Nat → ByteArray → Int → Bool → Option (List Int × Bool)
 | 0, _, _, _ => none
 | k + 1, x1, x6, x7 => if x7 = true then ((spec_l1Decode.f k x1).bind fun bt470 => (some (bt470.1, bt470.2))) else (if x6 = 81 then ((spec_l4Letters.f k x1).bind fun bt474 => (some (bt474.1, bt474.2))) else (if x6 = 113 then ((spec_l4Letters.f k x1).bind fun bt478 => (some (bt478.1, bt478.2))) else (some (([] : List Int), false))))
def spec_l4Told.f (k : Nat) (a0 : Int) (a1 : ByteArray) : Option (List Int × Bool) := if a0 = 66 then (spec_l4Told.j0 k a1 a0 (a0 == 66)) else (spec_l4Told.j0 k a1 a0 (a0 == 98))
set_option maxHeartbeats 8000000 in
set_option maxRecDepth 100000 in
theorem spec_l4Told.calls (k : Nat) (a0 : Int) (a1 : ByteArray) (r1 : List Int) (r2 : Bool) (w : World) (h : spec_l4Told.f k a0 a1 = some (r1, r2)) :
  Calls Tryz.prog 91 #[.int .u8 a0, .string a1] w fun e w' => ∃ v0_ : Value, e = .returned (.tuple #[v0_, .bool r2]) ∧ Kd.R (Kd.int .u8) 5 w' w.heap.size (fun _ => True) v0_ r1 ∧ Below w.heap.size w w' := by
 have HB := aM (Below.refl w.heap.size w)
 have H : (if a0 = 66 then (spec_l4Told.j0 k a1 a0 (a0 == 66)) else (spec_l4Told.j0 k a1 a0 (a0 == 98))) = some (r1, r2) := h
 clear h
 have HC3 := aM H
 clear H
 go_enter Tryz.func91, Tryz.ntmps91
 go_upto_if 7 with (fail)
 go_cut [7] (fun v7 wc => ∃ (kq : Nat) (x7_2 : Bool), v7 = .bool x7_2 ∧ Aside0 (spec_l4Told.j0 kq a1 a0 x7_2 = some (r1, r2)) ∧ Aside0 (kq ≤ k) ∧ Aside0 (Below w.heap.size w wc))
 case first =>
  have H := HC3.out
  clear HC3
  by_cases c4 : a0 = 66
  ·rw [if_pos c4] at H
   have c4b0 : (a0 == 66) = true := beq_iff_eq.mpr c4
   have c4b1 : (a0 != 66) = false := bne_eq_false_iff_eq.mpr c4
   clear c4
   (first | rw [c4b0] | (simp only [i64_w, i32_w]; rw [c4b0]) | skip)
   have H' := aM H
   clear H
   go_wp2
   go_meet
   case rel => exact ⟨_, ((a0 == 66)), bS, H', ⟨z34⟩, ⟨bB⟩⟩
  rw [if_neg c4] at H
  have c4b0 : (a0 == 66) = false := beq_eq_false_iff_ne.mpr c4
  have c4b1 : (a0 != 66) = true := bne_iff_ne.mpr c4
  (first | rw [c4b0] | (simp only [i64_w, i32_w]; rw [c4b0]) | skip)
  have H' := aM H
  clear H
  go_wp2
  go_meet
  case rel => exact ⟨_, ((a0 == 98)), bS, H', ⟨z34⟩, ⟨bB⟩⟩
 case rest =>
  clear HC3
  try clear p2
  try clear c4
  try clear c4b0
  try clear c4b1
  obtain ⟨kq, x7_2, rfl, HA, HJ2, HB⟩ := hcut
  cases kq with
  | zero => exact absurd HA.out (by simp [spec_l4Told.j0])
  | succ kj2 =>
   have H := HA.out
   clear HA
   simp only [spec_l4Told.j0] at H
   by_cases c5 : x7_2 = true
   ·subst c5
    have H1 : ((spec_l1Decode.f kj2 a1).bind fun bt470 => (some (bt470.1, bt470.2))) = some (r1, r2) := z16
    clear H
    have H := H1
    clear H1
    replace H := Option.bind_eq_some_iff.mp H
    obtain ⟨⟨t470, t471⟩, A60, H⟩ := H
    replace H : (some (t470, t471)) = some (r1, r2) := H
    have A6 := aM A60
    clear A60
    simp only [Option.some.injEq, Prod.mk.injEq] at H
    obtain ⟨rfl, rfl⟩ := H
    go_wp2_with (first | ((with_reducible refine gate_callee (f := 120) rfl ?_); refine gL_ (some 11) Tryz.func120 #[.string a1] ?_; (with_reducible refine (spec_l1Decode.calls kj2 a1 t470 t471 _ A6.out).mono ?_); rintro e w7 ⟨v472, rfl, ho0, hb⟩; refine ⟨_, rfl, ?_⟩; have HO473 := aM (Kd.R_lower ho0 (below_size bB)); replace HB := aM (below_step bB hb); (try clear ho0)))
    go_ret2
    exact ⟨_, bE, bR HO473, bB⟩
   replace c5 := Bool.eq_false_iff.mpr c5
   subst c5
   have H1 : (if a0 = 81 then ((spec_l4Letters.f kj2 a1).bind fun bt474 => (some (bt474.1, bt474.2))) else (if a0 = 113 then ((spec_l4Letters.f kj2 a1).bind fun bt478 => (some (bt478.1, bt478.2))) else (some (([] : List Int), false)))) = some (r1, r2) := z7
   clear H
   have H := H1
   clear H1
   by_cases c8 : a0 = 81
   ·rw [if_pos c8] at H
    have c8b0 : (a0 == 81) = true := beq_iff_eq.mpr c8
    have c8b1 : (a0 != 81) = false := bne_eq_false_iff_eq.mpr c8
    clear c8
    replace H := Option.bind_eq_some_iff.mp H
    obtain ⟨⟨t474, t475⟩, A90, H⟩ := H
    replace H : (some (t474, t475)) = some (r1, r2) := H
    have A9 := aM A90
    clear A90
    simp only [Option.some.injEq, Prod.mk.injEq] at H
    obtain ⟨rfl, rfl⟩ := H
    go_wp2_with (first | ((with_reducible refine gate_callee (f := 121) rfl ?_); refine gL_ (some 18) Tryz.func121 #[.string a1] ?_; (with_reducible refine (spec_l4Letters.calls kj2 a1 t474 t475 _ A9.out).mono ?_); rintro e w10 ⟨v476, rfl, ho0, hb⟩; refine ⟨_, rfl, ?_⟩; have HO477 := aM (Kd.R_lower ho0 (below_size bB)); replace HB := aM (below_step bB hb); (try clear ho0)))
    go_ret2
    exact ⟨_, bE, bR HO477, bB⟩
   rw [if_neg c8] at H
   have c8b0 : (a0 == 81) = false := beq_eq_false_iff_ne.mpr c8
   have c8b1 : (a0 != 81) = true := bne_iff_ne.mpr c8
   by_cases c11 : a0 = 113
   ·rw [if_pos c11] at H
    have c11b0 : (a0 == 113) = true := beq_iff_eq.mpr c11
    have c11b1 : (a0 != 113) = false := bne_eq_false_iff_eq.mpr c11
    clear c11
    replace H := Option.bind_eq_some_iff.mp H
    obtain ⟨⟨t478, t479⟩, A120, H⟩ := H
    replace H : (some (t478, t479)) = some (r1, r2) := H
    have A12 := aM A120
    clear A120
    simp only [Option.some.injEq, Prod.mk.injEq] at H
    obtain ⟨rfl, rfl⟩ := H
    go_wp2_with (first | ((with_reducible refine gate_callee (f := 121) rfl ?_); refine gL_ (some 18) Tryz.func121 #[.string a1] ?_; (with_reducible refine (spec_l4Letters.calls kj2 a1 t478 t479 _ A12.out).mono ?_); rintro e w13 ⟨v480, rfl, ho0, hb⟩; refine ⟨_, rfl, ?_⟩; have HO481 := aM (Kd.R_lower ho0 (below_size bB)); replace HB := aM (below_step bB hb); (try clear ho0)))
    go_ret2
    exact ⟨_, bE, bR HO481, bB⟩
   rw [if_neg c11] at H
   have c11b0 : (a0 == 113) = false := beq_eq_false_iff_ne.mpr c11
   have c11b1 : (a0 != 113) = true := bne_iff_ne.mpr c11
   simp only [Option.some.injEq, Prod.mk.injEq] at H
   obtain ⟨rfl, rfl⟩ := H
   go_wp2
   go_ret2
   exact ⟨_, bE, z6, bB⟩
end Go.Proofs.YtjopgmjmjnfcjaaGreatDoor.PWords
