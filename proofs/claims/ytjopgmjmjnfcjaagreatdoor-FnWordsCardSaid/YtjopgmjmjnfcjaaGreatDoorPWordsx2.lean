/- Part of the proof; words that it uses. -/
import Derived.Test.YtjopgmjmjnfcjaaGreatDoorPWordsx0
import Derived.Test.YtjopgmjmjnfcjaaGreatDoorPWordsx1
namespace Go.Proofs.YtjopgmjmjnfcjaaGreatDoor.PWords
open Go.RowKit Go.Proofs.YtjopgmjmjnfcjaaGreatDoorW.PrintWords Go.Proofs.YtjopgmjmjnfcjaaGreatDoorW.PrintLast
set_option linter.unusedVariables false
set_option linter.unusedSimpArgs false
mutual
def spec_l1Encode.l0 : Nat → List Int → List Int → Int → Option (ByteArray)
 | 0, _, _, _ => none
 | k + 1, x0, x3, x4 => if x4 < (x0.length : Int) then (if 0 ≤ x4 then (if (wrap64 (x4 + 1)) < (x0.length : Int) then (if 0 ≤ (wrap64 (x4 + 1)) then (spec_l1Encode.j1 k x0 x3 x4 (wrap64 ((wrap64 ((wrap64 (rd x0 x4)) * 65536)) + (wrap64 ((wrap64 (rd x0 (wrap64 (x4 + 1)))) * 256))))) else (none)) else (spec_l1Encode.j1 k x0 x3 x4 (wrap64 ((wrap64 (rd x0 x4)) * 65536)))) else (none)) else (some (strOfNums x3))
def spec_l1Encode.j1 : Nat → List Int → List Int → Int → Int → Option (ByteArray)
 | 0, _, _, _, _ => none
 | k + 1, x0, x3, x4, x5 => if (wrap64 (x4 + 2)) < (x0.length : Int) then (if 0 ≤ (wrap64 (x4 + 2)) then (spec_l1Encode.j2 k x0 x3 x4 (wrap64 (x5 + (wrap64 (rd x0 (wrap64 (x4 + 2))))))) else (none)) else (spec_l1Encode.j2 k x0 x3 x4 x5)
def spec_l1Encode.j2 : Nat → List Int → List Int → Int → Int → Option (ByteArray)
 | 0, _, _, _, _ => none
 | k + 1, x0, x3, x4, x5 => (spec_l1Base.f (wrap64 (Int.tdiv x5 262144))).bind fun t150 => ((spec_l1Base.f (Int.tmod (wrap64 (Int.tdiv x5 4096)) 64)).bind fun t151 => ((spec_l1Base.f (Int.tmod (wrap64 (Int.tdiv x5 64)) 64)).bind fun t152 => ((spec_l1Base.f (Int.tmod x5 64)).bind fun t153 => ((some (([t150, t151, t152, t153] : List Int) : List Int)).bind fun y154 => (if (wrap64 (x4 + 2)) ≥ (x0.length : Int) then (if 3 < (y154.length : Int) then ((some (y154.set (3 : Int).toNat 61 : List Int)).bind fun y157 => (if (wrap64 (x4 + 1)) ≥ (x0.length : Int) then (if 2 < (y154.length : Int) then ((some (y157.set (2 : Int).toNat 61 : List Int)).bind fun y158 => (if x3.length + y158.length < 140737488355328 then (spec_l1Encode.l0 k x0 (x3 ++ y158) (wrap64 (x4 + 3))) else (none))) else (none)) else (if x3.length + y157.length < 140737488355328 then (spec_l1Encode.l0 k x0 (x3 ++ y157) (wrap64 (x4 + 3))) else (none)))) else (none)) else (if (wrap64 (x4 + 1)) ≥ (x0.length : Int) then (if 2 < (y154.length : Int) then ((some (y154.set (2 : Int).toNat 61 : List Int)).bind fun y165 => (if x3.length + y165.length < 140737488355328 then (spec_l1Encode.l0 k x0 (x3 ++ y165) (wrap64 (x4 + 3))) else (none))) else (none)) else (if x3.length + y154.length < 140737488355328 then (spec_l1Encode.l0 k x0 (x3 ++ y154) (wrap64 (x4 + 3))) else (none))))))))
end
def spec_l1Encode.f (k : Nat) (l0 : List Int) : Option (ByteArray) := spec_l1Encode.l0 k l0 (([] : List Int)) 0
set_option maxHeartbeats 8000000 in
set_option maxRecDepth 100000 in
theorem spec_l1Encode.calls (k : Nat) (A0 : Option Addr) (c0 : Nat) (l0 : List Int) (r : ByteArray) (w : World) (hr0 : Kd.C (Kd.int .u8) w A0 l0.length l0) (hc0 : l0.length ≤ c0) (h : spec_l1Encode.f k l0 = some r) :
  Calls Tryz.prog 65 #[.slice A0 l0.length c0] w fun e w' => e = .returned (.string r) ∧ Below w.heap.size w w' := by
 have HR0 := aM hr0
 have HC0 := aM hc0
 clear hr0 hc0
 have HB := aM (Below.refl w.heap.size w)
 have H : (spec_l1Encode.l0 k l0 (([] : List Int)) 0) = some r := h
 clear h
 obtain ⟨y144, hy144⟩ : ∃ y_ : List Int, y_ = (([] : List Int)) := ⟨_, rfl⟩
 replace H : (spec_l1Encode.l0 k l0 y144 0) = some r := z0 hy144
 have Ny144 := aM hy144
 clear hy144
 have H' := aM H
 clear H
 go_enter Tryz.func65, Tryz.ntmps65
 go_wp2_with (first | ((with_reducible refine gate_dst (N := 7) rfl ?_); refine Kd.R_lit (Kd.int .u8) _ 5 ?hg (N := 7) ?hd (xs := ([] : List Int)) (inner := []) (ok := fun _ => True) (okp := fun _ => True) ?hr ?hp (fun _ hk => hk) trivial (Below.refl _ _) (Nat.le_refl _) (by simp) ?_; (case hd => rfl); (case hg => rfl); (case hr => exact z10); (case hp => exact (Reps.none _ _)); intro v145 w2 ho3 hb hg_ hnew_; clear hg_ hnew_; (first | rw [← Ny144.out] at ho3 | (simp only [Int.reduceToNat] at ho3; rw [← Ny144.out] at ho3)); have HO146 := aM (Kd.R_lower ho3 (below_size bB)); replace HB := aM (below_step bB hb); clear hb ho3))
 go_loopg [3, 4] k (fun kq v3 v4 w' => ∃ (x3_1 : List Int) (x4_1 : Int), v4 = .int .i64 x4_1 ∧ Aside0 (spec_l1Encode.l0 kq l0 x3_1 x4_1 = some r) ∧ Aside0 (kq ≤ k) ∧ Aside0 (Kd.R (Kd.int .u8) 5 w' w.heap.size (fun _ => True) v3 x3_1) ∧ Aside0 (Below w.heap.size w w'))
 case atStart => exact ⟨(y144), (0), bS, H', ⟨Nat.le_refl _⟩, ⟨bR HO146⟩, ⟨bB⟩⟩
 case round =>
  clear H'
  try clear p2
  obtain ⟨x3_1, x4_1, rfl, HA, HK1, HO_3, HB⟩ := hrel
  cases gk with
  | zero => exact absurd HA.out (by simp [spec_l1Encode.l0])
  | succ k1 =>
   have H := HA.out
   clear HA
   simp only [spec_l1Encode.l0] at H
   by_cases c4 : x4_1 < (l0.length : Int)
   ·rw [if_pos c4] at H
    have c4b0 : decide (x4_1 < (l0.length : Int)) = true := decide_eq_true c4
    clear c4
    by_cases c5 : 0 ≤ x4_1
    ·rw [if_pos c5] at H
     have c5b0 : decide (0 ≤ x4_1) = true := decide_eq_true c5
     clear c5
     have HC6 := aM H
     clear H
     have p147 : 0 ≤ (x4_1 : Int) := pI
     have q147 : x4_1 < (l0.length : Int) := pI
     obtain ⟨ad147, e147, hx147_0⟩ := Kd.at_int HR0.out x4_1 p147 q147
     cases e147
     replace hx147_0 := (HB.out.cell (World.block_lt_of_cell? w _ hx147_0)).trans hx147_0
     replace p147 := eq_true p147
     replace q147 := eq_true q147
     go_upto_if 24 with (fail)
     go_cut [5] (fun v5 wc => ∃ (kq : Nat) (x5_5 : Int), v5 = .int .i64 x5_5 ∧ Aside0 (spec_l1Encode.j1 kq l0 x3_1 x4_1 x5_5 = some r) ∧ Aside0 (kq ≤ k1) ∧ Aside0 (Kd.R (Kd.int .u8) 5 wc w.heap.size (fun _ => True) u3 x3_1) ∧ Aside0 (Below w.heap.size w wc))
     case first =>
      have H := HC6.out
      clear HC6
      by_cases c7 : (wrap64 (x4_1 + 1)) < (l0.length : Int)
      ·rw [if_pos c7] at H
       have c7b0 : decide ((wrap64 (x4_1 + 1)) < (l0.length : Int)) = true := decide_eq_true c7
       clear c7
       (first | rw [c7b0] | (simp only [i64_w, i32_w]; rw [c7b0]) | skip)
       obtain ⟨ji8, hji8⟩ : ∃ j_ : Int, (wrap64 (x4_1 + 1)) = j_ := ⟨_, rfl⟩
       replace H : (if 0 ≤ (ji8) then (spec_l1Encode.j1 k1 l0 x3_1 x4_1 (wrap64 ((wrap64 ((wrap64 (rd l0 x4_1)) * 65536)) + (wrap64 ((wrap64 (rd l0 (ji8))) * 256))))) else (none)) = some r := z52
       (try rw [hji8] at c7b0)
       have hji8w : (IntKind.i64.wrap (x4_1 + 1)) = ji8 := (i64_w _).trans hji8
       by_cases c9 : 0 ≤ (ji8)
       ·rw [if_pos c9] at H
        have c9b0 : decide (0 ≤ (ji8)) = true := decide_eq_true c9
        clear c9
        have H' := aM H
        clear H
        have p148 : 0 ≤ ((ji8) : Int) := pI
        have q148 : (ji8) < (l0.length : Int) := pI
        obtain ⟨ad148, e148, hx148_0⟩ := Kd.at_int HR0.out (ji8) p148 q148
        obtain rfl : ad147 = ad148 := (by injection e148)
        replace hx148_0 := (HB.out.cell (World.block_lt_of_cell? w _ hx148_0)).trans hx148_0
        replace p148 := eq_true p148
        replace q148 := eq_true q148
        go_wp2
        go_meet
        case rel => exact ⟨_, (wrap64 ((wrap64 ((wrap64 (rd l0 x4_1)) * 65536)) + (wrap64 ((wrap64 (rd l0 (ji8))) * 256)))), z49, H', ⟨z31 HK1.out⟩, ⟨bR HO_3⟩, ⟨bB⟩⟩
       rw [if_neg c9] at H
       exact absurd H (by simp)
      rw [if_neg c7] at H
      have c7b0 : decide ((wrap64 (x4_1 + 1)) < (l0.length : Int)) = false := decide_eq_false c7
      clear c7
      (first | rw [c7b0] | (simp only [i64_w, i32_w]; rw [c7b0]) | skip)
      have H' := aM H
      clear H
      go_wp2
      go_meet
      case rel => exact ⟨_, (wrap64 ((wrap64 (rd l0 x4_1)) * 65536)), bS, H', ⟨z31 HK1.out⟩, ⟨bR HO_3⟩, ⟨bB⟩⟩
     case rest =>
      clear HC6
      try clear p1
      try clear q1
      try clear hx1
      try clear p2
      try clear c4
      try clear c4b0
      try clear c5
      try clear c5b0
      try clear c6
      try clear p6
      try clear c7
      try clear c7b0
      try clear c9
      try clear c9b0
      try clear hx147_0
      try clear hx148_0
      try clear p147
      try clear p148
      try clear p2
      try clear q147
      try clear q148
      obtain ⟨kq, x5_5, rfl, HA, HJ5, HO_3, HB⟩ := hcut
      cases kq with
      | zero => exact absurd HA.out (by simp [spec_l1Encode.j1])
      | succ kj5 =>
       have H := HA.out
       clear HA
       simp only [spec_l1Encode.j1] at H
       have HC10 := aM H
       clear H
       go_upto_if 38 with (fail)
       go_cut [5] (fun v5 wc => ∃ (kq : Nat) (x5_9 : Int), v5 = .int .i64 x5_9 ∧ Aside0 (spec_l1Encode.j2 kq l0 x3_1 x4_1 x5_9 = some r) ∧ Aside0 (kq ≤ kj5) ∧ Aside0 (Kd.R (Kd.int .u8) 5 wc w.heap.size (fun _ => True) u3 x3_1) ∧ Aside0 (Below w.heap.size w wc))
       case first =>
        have H := HC10.out
        clear HC10
        by_cases c11 : (wrap64 (x4_1 + 2)) < (l0.length : Int)
        ·rw [if_pos c11] at H
         have c11b0 : decide ((wrap64 (x4_1 + 2)) < (l0.length : Int)) = true := decide_eq_true c11
         clear c11
         (first | rw [c11b0] | (simp only [i64_w, i32_w]; rw [c11b0]) | skip)
         obtain ⟨ji12, hji12⟩ : ∃ j_ : Int, (wrap64 (x4_1 + 2)) = j_ := ⟨_, rfl⟩
         replace H : (if 0 ≤ (ji12) then (spec_l1Encode.j2 kj5 l0 x3_1 x4_1 (wrap64 (x5_5 + (wrap64 (rd l0 (ji12)))))) else (none)) = some r := by first | (rw [hji12] at H; exact H) | (simp only [hji12] at H ⊢; exact H)
         (try rw [hji12] at c11b0)
         have hji12w : (IntKind.i64.wrap (x4_1 + 2)) = ji12 := (i64_w _).trans hji12
         by_cases c13 : 0 ≤ (ji12)
         ·rw [if_pos c13] at H
          have c13b0 : decide (0 ≤ (ji12)) = true := decide_eq_true c13
          clear c13
          have H' := aM H
          clear H
          have p149 : 0 ≤ ((ji12) : Int) := pI
          have q149 : (ji12) < (l0.length : Int) := pI
          obtain ⟨ad149, e149, hx149_0⟩ := Kd.at_int HR0.out (ji12) p149 q149
          obtain rfl : ad147 = ad149 := (by injection e149)
          replace hx149_0 := (HB.out.cell (World.block_lt_of_cell? w _ hx149_0)).trans hx149_0
          replace p149 := eq_true p149
          replace q149 := eq_true q149
          go_wp2
          go_meet
          case rel => exact ⟨_, (wrap64 (x5_5 + (wrap64 (rd l0 (ji12))))), (by first | rfl | (simp; done) | (simp only [← hji12] <;> (first | rfl | simp)) | (simp [*]; done)), H', ⟨z23 HK1.out HJ5.out⟩, ⟨bR HO_3⟩, ⟨bB⟩⟩
         rw [if_neg c13] at H
         exact absurd H (by simp)
        rw [if_neg c11] at H
        have c11b0 : decide ((wrap64 (x4_1 + 2)) < (l0.length : Int)) = false := decide_eq_false c11
        clear c11
        (first | rw [c11b0] | (simp only [i64_w, i32_w]; rw [c11b0]) | skip)
        have H' := aM H
        clear H
        go_wp2
        go_meet
        case rel => exact ⟨_, (x5_5), bS, H', ⟨z23 HK1.out HJ5.out⟩, ⟨bR HO_3⟩, ⟨bB⟩⟩
       case rest =>
        clear HC10
        try clear c1
        try clear p1
        try clear q1
        try clear hx1
        try clear p2
        try clear c4
        try clear c4b0
        try clear c5
        try clear c5b0
        try clear c6
        try clear p6
        try clear c7
        try clear c7b0
        try clear c9
        try clear c9b0
        try clear c11
        try clear c11b0
        try clear c13
        try clear c13b0
        try clear hx147_0
        try clear hx148_0
        try clear hx149_0
        try clear p1
        try clear p147
        try clear p148
        try clear p149
        try clear p2
        try clear p6
        try clear q1
        try clear q147
        try clear q148
        try clear q149
        obtain ⟨kq, x5_9, rfl, HA, HJ9, HO_3, HB⟩ := hcut
        cases kq with
        | zero => exact absurd HA.out (by simp [spec_l1Encode.j2])
        | succ kj9 =>
         have H := HA.out
         clear HA
         simp only [spec_l1Encode.j2] at H
         replace H := Option.bind_eq_some_iff.mp H
         obtain ⟨t150, A140, H⟩ := H
         replace H : ((spec_l1Base.f (Int.tmod (wrap64 (Int.tdiv x5_9 4096)) 64)).bind fun t151 => ((spec_l1Base.f (Int.tmod (wrap64 (Int.tdiv x5_9 64)) 64)).bind fun t152 => ((spec_l1Base.f (Int.tmod x5_9 64)).bind fun t153 => ((some (([t150, t151, t152, t153] : List Int) : List Int)).bind fun y154 => (if (wrap64 (x4_1 + 2)) ≥ (l0.length : Int) then (if 3 < (y154.length : Int) then ((some (y154.set (3 : Int).toNat 61 : List Int)).bind fun y157 => (if (wrap64 (x4_1 + 1)) ≥ (l0.length : Int) then (if 2 < (y154.length : Int) then ((some (y157.set (2 : Int).toNat 61 : List Int)).bind fun y158 => (if x3_1.length + y158.length < 140737488355328 then (spec_l1Encode.l0 kj9 l0 (x3_1 ++ y158) (wrap64 (x4_1 + 3))) else (none))) else (none)) else (if x3_1.length + y157.length < 140737488355328 then (spec_l1Encode.l0 kj9 l0 (x3_1 ++ y157) (wrap64 (x4_1 + 3))) else (none)))) else (none)) else (if (wrap64 (x4_1 + 1)) ≥ (l0.length : Int) then (if 2 < (y154.length : Int) then ((some (y154.set (2 : Int).toNat 61 : List Int)).bind fun y165 => (if x3_1.length + y165.length < 140737488355328 then (spec_l1Encode.l0 kj9 l0 (x3_1 ++ y165) (wrap64 (x4_1 + 3))) else (none))) else (none)) else (if x3_1.length + y154.length < 140737488355328 then (spec_l1Encode.l0 kj9 l0 (x3_1 ++ y154) (wrap64 (x4_1 + 3))) else (none)))))))) = some r := H
         have A14 := aM A140
         clear A140
         replace H := Option.bind_eq_some_iff.mp H
         obtain ⟨t151, A150, H⟩ := H
         replace H : ((spec_l1Base.f (Int.tmod (wrap64 (Int.tdiv x5_9 64)) 64)).bind fun t152 => ((spec_l1Base.f (Int.tmod x5_9 64)).bind fun t153 => ((some (([t150, t151, t152, t153] : List Int) : List Int)).bind fun y154 => (if (wrap64 (x4_1 + 2)) ≥ (l0.length : Int) then (if 3 < (y154.length : Int) then ((some (y154.set (3 : Int).toNat 61 : List Int)).bind fun y157 => (if (wrap64 (x4_1 + 1)) ≥ (l0.length : Int) then (if 2 < (y154.length : Int) then ((some (y157.set (2 : Int).toNat 61 : List Int)).bind fun y158 => (if x3_1.length + y158.length < 140737488355328 then (spec_l1Encode.l0 kj9 l0 (x3_1 ++ y158) (wrap64 (x4_1 + 3))) else (none))) else (none)) else (if x3_1.length + y157.length < 140737488355328 then (spec_l1Encode.l0 kj9 l0 (x3_1 ++ y157) (wrap64 (x4_1 + 3))) else (none)))) else (none)) else (if (wrap64 (x4_1 + 1)) ≥ (l0.length : Int) then (if 2 < (y154.length : Int) then ((some (y154.set (2 : Int).toNat 61 : List Int)).bind fun y165 => (if x3_1.length + y165.length < 140737488355328 then (spec_l1Encode.l0 kj9 l0 (x3_1 ++ y165) (wrap64 (x4_1 + 3))) else (none))) else (none)) else (if x3_1.length + y154.length < 140737488355328 then (spec_l1Encode.l0 kj9 l0 (x3_1 ++ y154) (wrap64 (x4_1 + 3))) else (none))))))) = some r := H
         have A15 := aM A150
         clear A150
         replace H := Option.bind_eq_some_iff.mp H
         obtain ⟨t152, A160, H⟩ := H
         replace H : ((spec_l1Base.f (Int.tmod x5_9 64)).bind fun t153 => ((some (([t150, t151, t152, t153] : List Int) : List Int)).bind fun y154 => (if (wrap64 (x4_1 + 2)) ≥ (l0.length : Int) then (if 3 < (y154.length : Int) then ((some (y154.set (3 : Int).toNat 61 : List Int)).bind fun y157 => (if (wrap64 (x4_1 + 1)) ≥ (l0.length : Int) then (if 2 < (y154.length : Int) then ((some (y157.set (2 : Int).toNat 61 : List Int)).bind fun y158 => (if x3_1.length + y158.length < 140737488355328 then (spec_l1Encode.l0 kj9 l0 (x3_1 ++ y158) (wrap64 (x4_1 + 3))) else (none))) else (none)) else (if x3_1.length + y157.length < 140737488355328 then (spec_l1Encode.l0 kj9 l0 (x3_1 ++ y157) (wrap64 (x4_1 + 3))) else (none)))) else (none)) else (if (wrap64 (x4_1 + 1)) ≥ (l0.length : Int) then (if 2 < (y154.length : Int) then ((some (y154.set (2 : Int).toNat 61 : List Int)).bind fun y165 => (if x3_1.length + y165.length < 140737488355328 then (spec_l1Encode.l0 kj9 l0 (x3_1 ++ y165) (wrap64 (x4_1 + 3))) else (none))) else (none)) else (if x3_1.length + y154.length < 140737488355328 then (spec_l1Encode.l0 kj9 l0 (x3_1 ++ y154) (wrap64 (x4_1 + 3))) else (none)))))) = some r := H
         have A16 := aM A160
         clear A160
         replace H := Option.bind_eq_some_iff.mp H
         obtain ⟨t153, A170, H⟩ := H
         replace H : ((some (([t150, t151, t152, t153] : List Int) : List Int)).bind fun y154 => (if (wrap64 (x4_1 + 2)) ≥ (l0.length : Int) then (if 3 < (y154.length : Int) then ((some (y154.set (3 : Int).toNat 61 : List Int)).bind fun y157 => (if (wrap64 (x4_1 + 1)) ≥ (l0.length : Int) then (if 2 < (y154.length : Int) then ((some (y157.set (2 : Int).toNat 61 : List Int)).bind fun y158 => (if x3_1.length + y158.length < 140737488355328 then (spec_l1Encode.l0 kj9 l0 (x3_1 ++ y158) (wrap64 (x4_1 + 3))) else (none))) else (none)) else (if x3_1.length + y157.length < 140737488355328 then (spec_l1Encode.l0 kj9 l0 (x3_1 ++ y157) (wrap64 (x4_1 + 3))) else (none)))) else (none)) else (if (wrap64 (x4_1 + 1)) ≥ (l0.length : Int) then (if 2 < (y154.length : Int) then ((some (y154.set (2 : Int).toNat 61 : List Int)).bind fun y165 => (if x3_1.length + y165.length < 140737488355328 then (spec_l1Encode.l0 kj9 l0 (x3_1 ++ y165) (wrap64 (x4_1 + 3))) else (none))) else (none)) else (if x3_1.length + y154.length < 140737488355328 then (spec_l1Encode.l0 kj9 l0 (x3_1 ++ y154) (wrap64 (x4_1 + 3))) else (none))))) = some r := H
         have A17 := aM A170
         clear A170
         obtain ⟨y154, hy154⟩ : ∃ y_ : List Int, y_ = (([t150, t151, t152, t153] : List Int)) := ⟨_, rfl⟩
         replace H : (if (wrap64 (x4_1 + 2)) ≥ (l0.length : Int) then (if 3 < (y154.length : Int) then ((some (y154.set (3 : Int).toNat 61 : List Int)).bind fun y157 => (if (wrap64 (x4_1 + 1)) ≥ (l0.length : Int) then (if 2 < (y154.length : Int) then ((some (y157.set (2 : Int).toNat 61 : List Int)).bind fun y158 => (if x3_1.length + y158.length < 140737488355328 then (spec_l1Encode.l0 kj9 l0 (x3_1 ++ y158) (wrap64 (x4_1 + 3))) else (none))) else (none)) else (if x3_1.length + y157.length < 140737488355328 then (spec_l1Encode.l0 kj9 l0 (x3_1 ++ y157) (wrap64 (x4_1 + 3))) else (none)))) else (none)) else (if (wrap64 (x4_1 + 1)) ≥ (l0.length : Int) then (if 2 < (y154.length : Int) then ((some (y154.set (2 : Int).toNat 61 : List Int)).bind fun y165 => (if x3_1.length + y165.length < 140737488355328 then (spec_l1Encode.l0 kj9 l0 (x3_1 ++ y165) (wrap64 (x4_1 + 3))) else (none))) else (none)) else (if x3_1.length + y154.length < 140737488355328 then (spec_l1Encode.l0 kj9 l0 (x3_1 ++ y154) (wrap64 (x4_1 + 3))) else (none)))) = some r := z0 hy154
         have Ny154 := aM hy154
         clear hy154
         by_cases c18 : (wrap64 (x4_1 + 2)) ≥ (l0.length : Int)
         ·rw [if_pos c18] at H
          have c18b0 : decide ((l0.length : Int) ≤ (wrap64 (x4_1 + 2))) = true := decide_eq_true c18
          clear c18
          by_cases c19 : 3 < (y154.length : Int)
          ·rw [if_pos c19] at H
           have c19b0 : decide (3 < (y154.length : Int)) = true := decide_eq_true c19
           have c19b1 : decide (3 < y154.length) = true := decide_eq_true (by omega)
           clear c19
           obtain ⟨y157, hy157⟩ : ∃ y_ : List Int, y_ = (y154.set (3 : Int).toNat 61) := ⟨_, rfl⟩
           replace H : (if (wrap64 (x4_1 + 1)) ≥ (l0.length : Int) then (if 2 < (y154.length : Int) then ((some (y157.set (2 : Int).toNat 61 : List Int)).bind fun y158 => (if x3_1.length + y158.length < 140737488355328 then (spec_l1Encode.l0 kj9 l0 (x3_1 ++ y158) (wrap64 (x4_1 + 3))) else (none))) else (none)) else (if x3_1.length + y157.length < 140737488355328 then (spec_l1Encode.l0 kj9 l0 (x3_1 ++ y157) (wrap64 (x4_1 + 3))) else (none))) = some r := z0 hy157
           have Ny157 := aM hy157
           clear hy157
           by_cases c21 : (wrap64 (x4_1 + 1)) ≥ (l0.length : Int)
           ·rw [if_pos c21] at H
            have c21b0 : decide ((l0.length : Int) ≤ (wrap64 (x4_1 + 1))) = true := decide_eq_true c21
            clear c21
            by_cases c22 : 2 < (y154.length : Int)
            ·rw [if_pos c22] at H
             have c22b0 : decide (2 < (y154.length : Int)) = true := decide_eq_true c22
             have c22b1 : decide (2 < y154.length) = true := decide_eq_true (by omega)
             clear c22
             obtain ⟨y158, hy158⟩ : ∃ y_ : List Int, y_ = (y157.set (2 : Int).toNat 61) := ⟨_, rfl⟩
             replace H : (if x3_1.length + y158.length < 140737488355328 then (spec_l1Encode.l0 kj9 l0 (x3_1 ++ y158) (wrap64 (x4_1 + 3))) else (none)) = some r := z0 hy158
             have Ny158 := aM hy158
             clear hy158
             by_cases c24 : x3_1.length + y158.length < 140737488355328
             ·rw [if_pos c24] at H
              have LMc24 := aM c24
              clear c24
              obtain ⟨y159, hy159⟩ : ∃ y_ : List Int, y_ = (x3_1 ++ y158) := ⟨_, rfl⟩
              replace H : (spec_l1Encode.l0 kj9 l0 y159 (wrap64 (x4_1 + 3))) = some r := z0 hy159
              have Ny159 := aM hy159
              clear hy159
              have H' := aM H
              clear H
              go_wp2_with (first | ((with_reducible refine gate_callee (f := 99) rfl ?_); refine gL_ (some 49) Tryz.func99 #[.int .i64 (wrap64 (Int.tdiv x5_9 262144))] ?_; (with_reducible refine (spec_l1Base.calls (wrap64 (Int.tdiv x5_9 262144)) t150 _ A14.out).mono ?_); rintro e w' ⟨rfl, ⟨nd, rfl⟩⟩; refine ⟨_, rfl, ?_⟩; (try (rw [drewN_self wc]; generalize hq_ : World.drewN wc _ = wc; have n0_ : Aside0 (Kd.R (Kd.int .u8) 5 wc w.heap.size (fun _ => True) u3 x3_1) := ⟨z45⟩; have n1_ : Aside0 (Below w.heap.size w wc) := ⟨by rw [← hq_]; exact bB⟩; clear HO_3 HB hq_; have HO_3 := n0_; have HB := n1_; clear n0_ n1_))) | ((with_reducible refine gate_callee (f := 99) rfl ?_); refine gL_ (some 53) Tryz.func99 #[.int .i64 (Int.tmod (wrap64 (Int.tdiv x5_9 4096)) 64)] ?_; (with_reducible refine (spec_l1Base.calls (Int.tmod (wrap64 (Int.tdiv x5_9 4096)) 64) t151 _ A15.out).mono ?_); rintro e w' ⟨rfl, ⟨nd, rfl⟩⟩; refine ⟨_, rfl, ?_⟩; (try (rw [drewN_self wc]; generalize hq_ : World.drewN wc _ = wc; have n0_ : Aside0 (Kd.R (Kd.int .u8) 5 wc w.heap.size (fun _ => True) u3 x3_1) := ⟨z45⟩; have n1_ : Aside0 (Below w.heap.size w wc) := ⟨by rw [← hq_]; exact bB⟩; clear HO_3 HB hq_; have HO_3 := n0_; have HB := n1_; clear n0_ n1_))) | ((with_reducible refine gate_callee (f := 99) rfl ?_); refine gL_ (some 57) Tryz.func99 #[.int .i64 (Int.tmod (wrap64 (Int.tdiv x5_9 64)) 64)] ?_; (with_reducible refine (spec_l1Base.calls (Int.tmod (wrap64 (Int.tdiv x5_9 64)) 64) t152 _ A16.out).mono ?_); rintro e w' ⟨rfl, ⟨nd, rfl⟩⟩; refine ⟨_, rfl, ?_⟩; (try (rw [drewN_self wc]; generalize hq_ : World.drewN wc _ = wc; have n0_ : Aside0 (Kd.R (Kd.int .u8) 5 wc w.heap.size (fun _ => True) u3 x3_1) := ⟨z45⟩; have n1_ : Aside0 (Below w.heap.size w wc) := ⟨by rw [← hq_]; exact bB⟩; clear HO_3 HB hq_; have HO_3 := n0_; have HB := n1_; clear n0_ n1_))) | ((with_reducible refine gate_callee (f := 99) rfl ?_); refine gL_ (some 60) Tryz.func99 #[.int .i64 (Int.tmod x5_9 64)] ?_; (with_reducible refine (spec_l1Base.calls (Int.tmod x5_9 64) t153 _ A17.out).mono ?_); rintro e w' ⟨rfl, ⟨nd, rfl⟩⟩; refine ⟨_, rfl, ?_⟩; (try (rw [drewN_self wc]; generalize hq_ : World.drewN wc _ = wc; have n0_ : Aside0 (Kd.R (Kd.int .u8) 5 wc w.heap.size (fun _ => True) u3 x3_1) := ⟨z45⟩; have n1_ : Aside0 (Below w.heap.size w wc) := ⟨by rw [← hq_]; exact bB⟩; clear HO_3 HB hq_; have HO_3 := n0_; have HB := n1_; clear n0_ n1_))) | ((with_reducible refine gate_dst (N := 61) rfl ?_); refine Kd.R_lit (Kd.int .u8) _ 5 ?hg (N := 61) ?hd (xs := ([t150, t151, t152, t153] : List Int)) (inner := [.int .u8 t150, .int .u8 t151, .int .u8 t152, .int .u8 t153]) (ok := fun _ => True) (okp := fun _ => True) ?hr ?hp (fun _ hk => hk) trivial (Below.refl _ _) (Nat.le_refl _) (by simp) ?_; (case hd => rfl); (case hg => rfl); (case hr => exact z10); (case hp => exact (Reps.one (show Kd.M (Kd.int .u8) _ _ _ t150 [.int .u8 t150] from rfl) (Reps.one (show Kd.M (Kd.int .u8) _ _ _ t151 [.int .u8 t151] from rfl) (Reps.one (show Kd.M (Kd.int .u8) _ _ _ t152 [.int .u8 t152] from rfl) (Reps.one (show Kd.M (Kd.int .u8) _ _ _ t153 [.int .u8 t153] from rfl) (Reps.none _ _)))))); intro v155 w25 ho26 hb hg_ hnew_; clear hg_ hnew_; (first | rw [← Ny154.out] at ho26 | (simp only [Int.reduceToNat] at ho26; rw [← Ny154.out] at ho26)); have HO156 := aM (Kd.R_lower (Kd.R_new' ho26 (Kd.R_lt (bR HO_3))) (below_size bB)); replace HO_3 := aM (Kd.R_elder' (bR HO_3) (Kd.R_base ho26) hb); replace HB := aM (below_step bB hb); clear hb ho26; have p20 : 0 ≤ (3 : Int) := (by omega); have q20 : (3 : Int) < ((y154.length : Int) : Int) := pI; have qi20 : (3 < y154.length) = True := eq_true (by omega); obtain ⟨go20, co20, eo20, gb20, gl20, cl20, HG20⟩ := Kd.R_form HO156.out (by omega); (first | cases eo20 | (injection eo20 with ea_ en_ ec_; (first | subst ea_ | (injection ea_ with ea_; subst ea_)); subst ec_; clear en_)); have GB20 := aM gb20; have GG20 := aM HG20; clear gb20 gl20 HG20; obtain ⟨hx20_0, hf20_0⟩ := Kd.R_celln 0 HO156.out (3 : Int) p20 q20; (try rw [show ((3 : Int)).toNat = 3 from rfl] at hx20_0); (try simp only [Nat.reduceMul, Nat.zero_mul, Nat.zero_add, Nat.reduceAdd] at hx20_0); (try rw [show ((3 : Int)).toNat = 3 from rfl] at hf20_0); (try simp only [Nat.reduceMul, Nat.zero_mul, Nat.zero_add, Nat.reduceAdd] at hf20_0); replace p20 := eq_true p20; replace q20 := eq_true q20; have n_ := aM (Kd.R_mono (ok' := (fun k_ => some k_ ≠ (u3 : Value).ownBlock)) HO156.out (fun k_ hk => hk.2)); clear HO156; have HO156 := n_; clear n_; obtain ⟨hy27_, hz27_⟩ := Kd.R_celln 0 HO156.out (3 : Int) (by omega) (pI); (try simp only [Int.reduceToNat, Int.toNat_zero, Int.toNat_ofNat, Nat.reduceMul, Nat.zero_mul, Nat.zero_add] at hy27_ hz27_); (try rw [show ((3 : Int)).toNat = 3 from rfl] at hy27_); (try rw [show ((3 : Int)).toNat = 3 from rfl] at hz27_); have HP27 := Kd.R_putg HO156.out (3 : Int) 61) | ((with_reducible refine gate_store (t := 5) (p := 68) rfl ?_); refine store_event (t := 5) (p := 68) (v := ?vo_w28) (w1 := (w25.setCell ⟨go20, (3 : Int).toNat, none⟩ (.int .u8 61))) ?hg ?ho ?hn ?hr ?_; (case ho => rfl); (case hg => rfl); (case hn => rfl); (case hr => exact z10); intro w28 hw; have hg : w25.grownBy w28 (some go20) := (by rw [hw]; exact HP27.2); have hp_ : Kd.R (Kd.int .u8) 5 w28 w.heap.size (fun k_ => some k_ ≠ (u3 : Value).ownBlock) (.slice (some ⟨go20, 0, none⟩) y154.length co20) y157 := (by rw [hw, Ny157.out]; exact HP27.1); clear HP27; replace HO_3 := aM (Kd.R_after (v := (.slice (some ⟨go20, 0, none⟩) y154.length co20)) (v1 := (.slice (some ⟨go20, 0, none⟩) y154.length co20)) (ok := (fun _ => True)) (bR HO_3) hg (.inl rfl)); replace HO156 := aM (hp_); replace HB := aM ((z53 GB20.out : Below w.heap.size w w28)); clear hg hw hp_; have p23 : 0 ≤ (2 : Int) := (by omega); have q23 : (2 : Int) < ((y154.length : Int) : Int) := pI; have qi23 : (2 < y154.length) = True := eq_true (by omega); obtain ⟨hx23_0, hf23_0⟩ := Kd.R_celln 0 HO156.out (2 : Int) p23 q23; (try rw [show ((2 : Int)).toNat = 2 from rfl] at hx23_0); (try simp only [Nat.reduceMul, Nat.zero_mul, Nat.zero_add, Nat.reduceAdd] at hx23_0); (try rw [show ((2 : Int)).toNat = 2 from rfl] at hf23_0); (try simp only [Nat.reduceMul, Nat.zero_mul, Nat.zero_add, Nat.reduceAdd] at hf23_0); replace p23 := eq_true p23; replace q23 := eq_true q23; obtain ⟨hy29_, hz29_⟩ := Kd.R_celln 0 HO156.out (2 : Int) (by omega) (pI); (try simp only [Int.reduceToNat, Int.toNat_zero, Int.toNat_ofNat, Nat.reduceMul, Nat.zero_mul, Nat.zero_add] at hy29_ hz29_); (try rw [show ((2 : Int)).toNat = 2 from rfl] at hy29_); (try rw [show ((2 : Int)).toNat = 2 from rfl] at hz29_); have HP29 := Kd.R_putg HO156.out (2 : Int) 61) | ((with_reducible refine gate_store (t := 5) (p := 75) rfl ?_); refine store_event (t := 5) (p := 75) (v := ?vo_w30) (w1 := (w28.setCell ⟨go20, (2 : Int).toNat, none⟩ (.int .u8 61))) ?hg ?ho ?hn ?hr ?_; (case ho => rfl); (case hg => rfl); (case hn => rfl); (case hr => exact z10); intro w30 hw; have hg : w28.grownBy w30 (some go20) := (by rw [hw]; exact HP29.2); have hp_ : Kd.R (Kd.int .u8) 5 w30 w.heap.size (fun k_ => some k_ ≠ (u3 : Value).ownBlock) (.slice (some ⟨go20, 0, none⟩) y154.length co20) y158 := (by rw [hw, Ny158.out]; exact HP29.1); clear HP29; replace HO_3 := aM (Kd.R_after (v := (.slice (some ⟨go20, 0, none⟩) y154.length co20)) (v1 := (.slice (some ⟨go20, 0, none⟩) y154.length co20)) (ok := (fun _ => True)) (bR HO_3) hg (.inl rfl)); replace HO156 := aM (hp_); replace HB := aM ((z53 GB20.out : Below w.heap.size w w30)); clear hg hw hp_) | ((with_reducible refine gate_builtin (b := .append) (xs := #[.tmp 76, .tmp 77]) rfl ?_); at_builtin; refine Kd.R_append_rows (Kd.int .u8) (w0 := w) w.heap.size rfl (.tmp 76) (.tmp 77) 22 5 (.int .u8 0) 1 rfl Tryz.underlying22 info5 rfl (by decide) (by omega) u3 x3_1 y158 _ _ _ (fun k_ => some k_ ≠ (.slice (some ⟨go20, 0, none⟩) y154.length co20 : Value).ownBlock) (fun _ => False) rfl rfl ?aO ?aR (fun _ _ h => h) (fun _ h => h.elim) ?aF ?aB ?aS ?aL ?_; (case aR => rw [show y154.length = y158.length from (Kd.R_reads' HO156.out).1]; repeat (first | exact (Kd.R_reads' HO156.out).2.2 | (with_reducible refine Kd.C_alloc ?_ _) | (with_reducible refine Kd.C_drewN ?_ _) | (with_reducible refine Kd.C_drew ?_))); (case aB => exact bB); (case aF => exact (fun k_ hk => Kd.fresh' (Kd.R_lt (bR HO156)) k_ hk)); (case aO => exact z13 HO_3.out); (case aS => exact (below_size bB)); (case aL => have := LMc24.out; have hlx_ := (Kd.R_reads' HO156.out).1; omega); intro v160 w31 ho hb hg hat; rw [← Ny159.out] at ho; have n0_ := aM (Kd.R_after (ok := (fun _ => True)) (z40 HO156.out) hg hat); have n1_ := aM (hb); have n2_ := aM (ho); clear HO156; clear HB; clear HO_3; have HO156 := n0_; have HB := n1_; have HO161 := n2_; clear n0_ n1_ n2_; clear ho hb hg hat))
              go_roundg kj9
              case measure => have := HK1.out; have := HJ5.out; have := HJ9.out; omega
              case rel => exact ⟨(y159), (wrap64 (x4_1 + 3)), bS, H', ⟨z46 HK1.out HJ5.out HJ9.out⟩, ⟨z9 HO161.out⟩, ⟨bB⟩⟩
             rw [if_neg c24] at H
             exact absurd H (by simp)
            rw [if_neg c22] at H
            exact absurd H (by simp)
           rw [if_neg c21] at H
           have c21b0 : decide ((l0.length : Int) ≤ (wrap64 (x4_1 + 1))) = false := decide_eq_false c21
           clear c21
           by_cases c32 : x3_1.length + y157.length < 140737488355328
           ·rw [if_pos c32] at H
            have LMc32 := aM c32
            clear c32
            obtain ⟨y162, hy162⟩ : ∃ y_ : List Int, y_ = (x3_1 ++ y157) := ⟨_, rfl⟩
            replace H : (spec_l1Encode.l0 kj9 l0 y162 (wrap64 (x4_1 + 3))) = some r := z0 hy162
            have Ny162 := aM hy162
            clear hy162
            have H' := aM H
            clear H
            go_wp2_with (first | ((with_reducible refine gate_callee (f := 99) rfl ?_); refine gL_ (some 49) Tryz.func99 #[.int .i64 (wrap64 (Int.tdiv x5_9 262144))] ?_; (with_reducible refine (spec_l1Base.calls (wrap64 (Int.tdiv x5_9 262144)) t150 _ A14.out).mono ?_); rintro e w' ⟨rfl, ⟨nd, rfl⟩⟩; refine ⟨_, rfl, ?_⟩; (try (rw [drewN_self wc]; generalize hq_ : World.drewN wc _ = wc; have n0_ : Aside0 (Kd.R (Kd.int .u8) 5 wc w.heap.size (fun _ => True) u3 x3_1) := ⟨z45⟩; have n1_ : Aside0 (Below w.heap.size w wc) := ⟨by rw [← hq_]; exact bB⟩; clear HO_3 HB hq_; have HO_3 := n0_; have HB := n1_; clear n0_ n1_))) | ((with_reducible refine gate_callee (f := 99) rfl ?_); refine gL_ (some 53) Tryz.func99 #[.int .i64 (Int.tmod (wrap64 (Int.tdiv x5_9 4096)) 64)] ?_; (with_reducible refine (spec_l1Base.calls (Int.tmod (wrap64 (Int.tdiv x5_9 4096)) 64) t151 _ A15.out).mono ?_); rintro e w' ⟨rfl, ⟨nd, rfl⟩⟩; refine ⟨_, rfl, ?_⟩; (try (rw [drewN_self wc]; generalize hq_ : World.drewN wc _ = wc; have n0_ : Aside0 (Kd.R (Kd.int .u8) 5 wc w.heap.size (fun _ => True) u3 x3_1) := ⟨z45⟩; have n1_ : Aside0 (Below w.heap.size w wc) := ⟨by rw [← hq_]; exact bB⟩; clear HO_3 HB hq_; have HO_3 := n0_; have HB := n1_; clear n0_ n1_))) | ((with_reducible refine gate_callee (f := 99) rfl ?_); refine gL_ (some 57) Tryz.func99 #[.int .i64 (Int.tmod (wrap64 (Int.tdiv x5_9 64)) 64)] ?_; (with_reducible refine (spec_l1Base.calls (Int.tmod (wrap64 (Int.tdiv x5_9 64)) 64) t152 _ A16.out).mono ?_); rintro e w' ⟨rfl, ⟨nd, rfl⟩⟩; refine ⟨_, rfl, ?_⟩; (try (rw [drewN_self wc]; generalize hq_ : World.drewN wc _ = wc; have n0_ : Aside0 (Kd.R (Kd.int .u8) 5 wc w.heap.size (fun _ => True) u3 x3_1) := ⟨z45⟩; have n1_ : Aside0 (Below w.heap.size w wc) := ⟨by rw [← hq_]; exact bB⟩; clear HO_3 HB hq_; have HO_3 := n0_; have HB := n1_; clear n0_ n1_))) | ((with_reducible refine gate_callee (f := 99) rfl ?_); refine gL_ (some 60) Tryz.func99 #[.int .i64 (Int.tmod x5_9 64)] ?_; (with_reducible refine (spec_l1Base.calls (Int.tmod x5_9 64) t153 _ A17.out).mono ?_); rintro e w' ⟨rfl, ⟨nd, rfl⟩⟩; refine ⟨_, rfl, ?_⟩; (try (rw [drewN_self wc]; generalize hq_ : World.drewN wc _ = wc; have n0_ : Aside0 (Kd.R (Kd.int .u8) 5 wc w.heap.size (fun _ => True) u3 x3_1) := ⟨z45⟩; have n1_ : Aside0 (Below w.heap.size w wc) := ⟨by rw [← hq_]; exact bB⟩; clear HO_3 HB hq_; have HO_3 := n0_; have HB := n1_; clear n0_ n1_))) | ((with_reducible refine gate_dst (N := 61) rfl ?_); refine Kd.R_lit (Kd.int .u8) _ 5 ?hg (N := 61) ?hd (xs := ([t150, t151, t152, t153] : List Int)) (inner := [.int .u8 t150, .int .u8 t151, .int .u8 t152, .int .u8 t153]) (ok := fun _ => True) (okp := fun _ => True) ?hr ?hp (fun _ hk => hk) trivial (Below.refl _ _) (Nat.le_refl _) (by simp) ?_; (case hd => rfl); (case hg => rfl); (case hr => exact z10); (case hp => exact (Reps.one (show Kd.M (Kd.int .u8) _ _ _ t150 [.int .u8 t150] from rfl) (Reps.one (show Kd.M (Kd.int .u8) _ _ _ t151 [.int .u8 t151] from rfl) (Reps.one (show Kd.M (Kd.int .u8) _ _ _ t152 [.int .u8 t152] from rfl) (Reps.one (show Kd.M (Kd.int .u8) _ _ _ t153 [.int .u8 t153] from rfl) (Reps.none _ _)))))); intro v155 w33 ho34 hb hg_ hnew_; clear hg_ hnew_; (first | rw [← Ny154.out] at ho34 | (simp only [Int.reduceToNat] at ho34; rw [← Ny154.out] at ho34)); have HO156 := aM (Kd.R_lower (Kd.R_new' ho34 (Kd.R_lt (bR HO_3))) (below_size bB)); replace HO_3 := aM (Kd.R_elder' (bR HO_3) (Kd.R_base ho34) hb); replace HB := aM (below_step bB hb); clear hb ho34; have p20 : 0 ≤ (3 : Int) := (by omega); have q20 : (3 : Int) < ((y154.length : Int) : Int) := pI; have qi20 : (3 < y154.length) = True := eq_true (by omega); obtain ⟨go20, co20, eo20, gb20, gl20, cl20, HG20⟩ := Kd.R_form HO156.out (by omega); (first | cases eo20 | (injection eo20 with ea_ en_ ec_; (first | subst ea_ | (injection ea_ with ea_; subst ea_)); subst ec_; clear en_)); have GB20 := aM gb20; have GG20 := aM HG20; clear gb20 gl20 HG20; obtain ⟨hx20_0, hf20_0⟩ := Kd.R_celln 0 HO156.out (3 : Int) p20 q20; (try rw [show ((3 : Int)).toNat = 3 from rfl] at hx20_0); (try simp only [Nat.reduceMul, Nat.zero_mul, Nat.zero_add, Nat.reduceAdd] at hx20_0); (try rw [show ((3 : Int)).toNat = 3 from rfl] at hf20_0); (try simp only [Nat.reduceMul, Nat.zero_mul, Nat.zero_add, Nat.reduceAdd] at hf20_0); replace p20 := eq_true p20; replace q20 := eq_true q20; have n_ := aM (Kd.R_mono (ok' := (fun k_ => some k_ ≠ (u3 : Value).ownBlock)) HO156.out (fun k_ hk => hk.2)); clear HO156; have HO156 := n_; clear n_; obtain ⟨hy35_, hz35_⟩ := Kd.R_celln 0 HO156.out (3 : Int) (by omega) (pI); (try simp only [Int.reduceToNat, Int.toNat_zero, Int.toNat_ofNat, Nat.reduceMul, Nat.zero_mul, Nat.zero_add] at hy35_ hz35_); (try rw [show ((3 : Int)).toNat = 3 from rfl] at hy35_); (try rw [show ((3 : Int)).toNat = 3 from rfl] at hz35_); have HP35 := Kd.R_putg HO156.out (3 : Int) 61) | ((with_reducible refine gate_store (t := 5) (p := 68) rfl ?_); refine store_event (t := 5) (p := 68) (v := ?vo_w36) (w1 := (w33.setCell ⟨go20, (3 : Int).toNat, none⟩ (.int .u8 61))) ?hg ?ho ?hn ?hr ?_; (case ho => rfl); (case hg => rfl); (case hn => rfl); (case hr => exact z10); intro w36 hw; have hg : w33.grownBy w36 (some go20) := (by rw [hw]; exact HP35.2); have hp_ : Kd.R (Kd.int .u8) 5 w36 w.heap.size (fun k_ => some k_ ≠ (u3 : Value).ownBlock) (.slice (some ⟨go20, 0, none⟩) y154.length co20) y157 := (by rw [hw, Ny157.out]; exact HP35.1); clear HP35; replace HO_3 := aM (Kd.R_after (v := (.slice (some ⟨go20, 0, none⟩) y154.length co20)) (v1 := (.slice (some ⟨go20, 0, none⟩) y154.length co20)) (ok := (fun _ => True)) (bR HO_3) hg (.inl rfl)); replace HO156 := aM (hp_); replace HB := aM ((z53 GB20.out : Below w.heap.size w w36)); clear hg hw hp_) | ((with_reducible refine gate_builtin (b := .append) (xs := #[.tmp 76, .tmp 77]) rfl ?_); at_builtin; refine Kd.R_append_rows (Kd.int .u8) (w0 := w) w.heap.size rfl (.tmp 76) (.tmp 77) 22 5 (.int .u8 0) 1 rfl Tryz.underlying22 info5 rfl (by decide) (by omega) u3 x3_1 y157 _ _ _ (fun k_ => some k_ ≠ (.slice (some ⟨go20, 0, none⟩) y154.length co20 : Value).ownBlock) (fun _ => False) rfl rfl ?aO ?aR (fun _ _ h => h) (fun _ h => h.elim) ?aF ?aB ?aS ?aL ?_; (case aR => rw [show y154.length = y157.length from (Kd.R_reads' HO156.out).1]; repeat (first | exact (Kd.R_reads' HO156.out).2.2 | (with_reducible refine Kd.C_alloc ?_ _) | (with_reducible refine Kd.C_drewN ?_ _) | (with_reducible refine Kd.C_drew ?_))); (case aB => exact bB); (case aF => exact (fun k_ hk => Kd.fresh' (Kd.R_lt (bR HO156)) k_ hk)); (case aO => exact z13 HO_3.out); (case aS => exact (below_size bB)); (case aL => have := LMc32.out; have hlx_ := (Kd.R_reads' HO156.out).1; omega); intro v163 w37 ho hb hg hat; rw [← Ny162.out] at ho; have n0_ := aM (Kd.R_after (ok := (fun _ => True)) (z40 HO156.out) hg hat); have n1_ := aM (hb); have n2_ := aM (ho); clear HO156; clear HB; clear HO_3; have HO156 := n0_; have HB := n1_; have HO164 := n2_; clear n0_ n1_ n2_; clear ho hb hg hat))
            go_roundg kj9
            case measure => have := HK1.out; have := HJ5.out; have := HJ9.out; omega
            case rel => exact ⟨(y162), (wrap64 (x4_1 + 3)), bS, H', ⟨z46 HK1.out HJ5.out HJ9.out⟩, ⟨z9 HO164.out⟩, ⟨bB⟩⟩
           rw [if_neg c32] at H
           exact absurd H (by simp)
          rw [if_neg c19] at H
          exact absurd H (by simp)
         rw [if_neg c18] at H
         have c18b0 : decide ((l0.length : Int) ≤ (wrap64 (x4_1 + 2))) = false := decide_eq_false c18
         clear c18
         by_cases c38 : (wrap64 (x4_1 + 1)) ≥ (l0.length : Int)
         ·rw [if_pos c38] at H
          have c38b0 : decide ((l0.length : Int) ≤ (wrap64 (x4_1 + 1))) = true := decide_eq_true c38
          clear c38
          by_cases c39 : 2 < (y154.length : Int)
          ·rw [if_pos c39] at H
           have c39b0 : decide (2 < (y154.length : Int)) = true := decide_eq_true c39
           have c39b1 : decide (2 < y154.length) = true := decide_eq_true (by omega)
           clear c39
           obtain ⟨y165, hy165⟩ : ∃ y_ : List Int, y_ = (y154.set (2 : Int).toNat 61) := ⟨_, rfl⟩
           replace H : (if x3_1.length + y165.length < 140737488355328 then (spec_l1Encode.l0 kj9 l0 (x3_1 ++ y165) (wrap64 (x4_1 + 3))) else (none)) = some r := z0 hy165
           have Ny165 := aM hy165
           clear hy165
           by_cases c41 : x3_1.length + y165.length < 140737488355328
           ·rw [if_pos c41] at H
            have LMc41 := aM c41
            clear c41
            obtain ⟨y166, hy166⟩ : ∃ y_ : List Int, y_ = (x3_1 ++ y165) := ⟨_, rfl⟩
            replace H : (spec_l1Encode.l0 kj9 l0 y166 (wrap64 (x4_1 + 3))) = some r := z0 hy166
            have Ny166 := aM hy166
            clear hy166
            have H' := aM H
            clear H
            go_wp2_with (first | ((with_reducible refine gate_callee (f := 99) rfl ?_); refine gL_ (some 49) Tryz.func99 #[.int .i64 (wrap64 (Int.tdiv x5_9 262144))] ?_; (with_reducible refine (spec_l1Base.calls (wrap64 (Int.tdiv x5_9 262144)) t150 _ A14.out).mono ?_); rintro e w' ⟨rfl, ⟨nd, rfl⟩⟩; refine ⟨_, rfl, ?_⟩; (try (rw [drewN_self wc]; generalize hq_ : World.drewN wc _ = wc; have n0_ : Aside0 (Kd.R (Kd.int .u8) 5 wc w.heap.size (fun _ => True) u3 x3_1) := ⟨z45⟩; have n1_ : Aside0 (Below w.heap.size w wc) := ⟨by rw [← hq_]; exact bB⟩; clear HO_3 HB hq_; have HO_3 := n0_; have HB := n1_; clear n0_ n1_))) | ((with_reducible refine gate_callee (f := 99) rfl ?_); refine gL_ (some 53) Tryz.func99 #[.int .i64 (Int.tmod (wrap64 (Int.tdiv x5_9 4096)) 64)] ?_; (with_reducible refine (spec_l1Base.calls (Int.tmod (wrap64 (Int.tdiv x5_9 4096)) 64) t151 _ A15.out).mono ?_); rintro e w' ⟨rfl, ⟨nd, rfl⟩⟩; refine ⟨_, rfl, ?_⟩; (try (rw [drewN_self wc]; generalize hq_ : World.drewN wc _ = wc; have n0_ : Aside0 (Kd.R (Kd.int .u8) 5 wc w.heap.size (fun _ => True) u3 x3_1) := ⟨z45⟩; have n1_ : Aside0 (Below w.heap.size w wc) := ⟨by rw [← hq_]; exact bB⟩; clear HO_3 HB hq_; have HO_3 := n0_; have HB := n1_; clear n0_ n1_))) | ((with_reducible refine gate_callee (f := 99) rfl ?_); refine gL_ (some 57) Tryz.func99 #[.int .i64 (Int.tmod (wrap64 (Int.tdiv x5_9 64)) 64)] ?_; (with_reducible refine (spec_l1Base.calls (Int.tmod (wrap64 (Int.tdiv x5_9 64)) 64) t152 _ A16.out).mono ?_); rintro e w' ⟨rfl, ⟨nd, rfl⟩⟩; refine ⟨_, rfl, ?_⟩; (try (rw [drewN_self wc]; generalize hq_ : World.drewN wc _ = wc; have n0_ : Aside0 (Kd.R (Kd.int .u8) 5 wc w.heap.size (fun _ => True) u3 x3_1) := ⟨z45⟩; have n1_ : Aside0 (Below w.heap.size w wc) := ⟨by rw [← hq_]; exact bB⟩; clear HO_3 HB hq_; have HO_3 := n0_; have HB := n1_; clear n0_ n1_))) | ((with_reducible refine gate_callee (f := 99) rfl ?_); refine gL_ (some 60) Tryz.func99 #[.int .i64 (Int.tmod x5_9 64)] ?_; (with_reducible refine (spec_l1Base.calls (Int.tmod x5_9 64) t153 _ A17.out).mono ?_); rintro e w' ⟨rfl, ⟨nd, rfl⟩⟩; refine ⟨_, rfl, ?_⟩; (try (rw [drewN_self wc]; generalize hq_ : World.drewN wc _ = wc; have n0_ : Aside0 (Kd.R (Kd.int .u8) 5 wc w.heap.size (fun _ => True) u3 x3_1) := ⟨z45⟩; have n1_ : Aside0 (Below w.heap.size w wc) := ⟨by rw [← hq_]; exact bB⟩; clear HO_3 HB hq_; have HO_3 := n0_; have HB := n1_; clear n0_ n1_))) | ((with_reducible refine gate_dst (N := 61) rfl ?_); refine Kd.R_lit (Kd.int .u8) _ 5 ?hg (N := 61) ?hd (xs := ([t150, t151, t152, t153] : List Int)) (inner := [.int .u8 t150, .int .u8 t151, .int .u8 t152, .int .u8 t153]) (ok := fun _ => True) (okp := fun _ => True) ?hr ?hp (fun _ hk => hk) trivial (Below.refl _ _) (Nat.le_refl _) (by simp) ?_; (case hd => rfl); (case hg => rfl); (case hr => exact z10); (case hp => exact (Reps.one (show Kd.M (Kd.int .u8) _ _ _ t150 [.int .u8 t150] from rfl) (Reps.one (show Kd.M (Kd.int .u8) _ _ _ t151 [.int .u8 t151] from rfl) (Reps.one (show Kd.M (Kd.int .u8) _ _ _ t152 [.int .u8 t152] from rfl) (Reps.one (show Kd.M (Kd.int .u8) _ _ _ t153 [.int .u8 t153] from rfl) (Reps.none _ _)))))); intro v155 w42 ho43 hb hg_ hnew_; clear hg_ hnew_; (first | rw [← Ny154.out] at ho43 | (simp only [Int.reduceToNat] at ho43; rw [← Ny154.out] at ho43)); have HO156 := aM (Kd.R_lower (Kd.R_new' ho43 (Kd.R_lt (bR HO_3))) (below_size bB)); replace HO_3 := aM (Kd.R_elder' (bR HO_3) (Kd.R_base ho43) hb); replace HB := aM (below_step bB hb); clear hb ho43; have p40 : 0 ≤ (2 : Int) := (by omega); have q40 : (2 : Int) < ((y154.length : Int) : Int) := pI; have qi40 : (2 < y154.length) = True := eq_true (by omega); obtain ⟨go40, co40, eo40, gb40, gl40, cl40, HG40⟩ := Kd.R_form HO156.out (by omega); (first | cases eo40 | (injection eo40 with ea_ en_ ec_; (first | subst ea_ | (injection ea_ with ea_; subst ea_)); subst ec_; clear en_)); have GB40 := aM gb40; have GG40 := aM HG40; clear gb40 gl40 HG40; obtain ⟨hx40_0, hf40_0⟩ := Kd.R_celln 0 HO156.out (2 : Int) p40 q40; (try rw [show ((2 : Int)).toNat = 2 from rfl] at hx40_0); (try simp only [Nat.reduceMul, Nat.zero_mul, Nat.zero_add, Nat.reduceAdd] at hx40_0); (try rw [show ((2 : Int)).toNat = 2 from rfl] at hf40_0); (try simp only [Nat.reduceMul, Nat.zero_mul, Nat.zero_add, Nat.reduceAdd] at hf40_0); replace p40 := eq_true p40; replace q40 := eq_true q40; have n_ := aM (Kd.R_mono (ok' := (fun k_ => some k_ ≠ (u3 : Value).ownBlock)) HO156.out (fun k_ hk => hk.2)); clear HO156; have HO156 := n_; clear n_; obtain ⟨hy44_, hz44_⟩ := Kd.R_celln 0 HO156.out (2 : Int) (by omega) (pI); (try simp only [Int.reduceToNat, Int.toNat_zero, Int.toNat_ofNat, Nat.reduceMul, Nat.zero_mul, Nat.zero_add] at hy44_ hz44_); (try rw [show ((2 : Int)).toNat = 2 from rfl] at hy44_); (try rw [show ((2 : Int)).toNat = 2 from rfl] at hz44_); have HP44 := Kd.R_putg HO156.out (2 : Int) 61) | ((with_reducible refine gate_store (t := 5) (p := 75) rfl ?_); refine store_event (t := 5) (p := 75) (v := ?vo_w45) (w1 := (w42.setCell ⟨go40, (2 : Int).toNat, none⟩ (.int .u8 61))) ?hg ?ho ?hn ?hr ?_; (case ho => rfl); (case hg => rfl); (case hn => rfl); (case hr => exact z10); intro w45 hw; have hg : w42.grownBy w45 (some go40) := (by rw [hw]; exact HP44.2); have hp_ : Kd.R (Kd.int .u8) 5 w45 w.heap.size (fun k_ => some k_ ≠ (u3 : Value).ownBlock) (.slice (some ⟨go40, 0, none⟩) y154.length co40) y165 := (by rw [hw, Ny165.out]; exact HP44.1); clear HP44; replace HO_3 := aM (Kd.R_after (v := (.slice (some ⟨go40, 0, none⟩) y154.length co40)) (v1 := (.slice (some ⟨go40, 0, none⟩) y154.length co40)) (ok := (fun _ => True)) (bR HO_3) hg (.inl rfl)); replace HO156 := aM (hp_); replace HB := aM ((z53 GB40.out : Below w.heap.size w w45)); clear hg hw hp_) | ((with_reducible refine gate_builtin (b := .append) (xs := #[.tmp 76, .tmp 77]) rfl ?_); at_builtin; refine Kd.R_append_rows (Kd.int .u8) (w0 := w) w.heap.size rfl (.tmp 76) (.tmp 77) 22 5 (.int .u8 0) 1 rfl Tryz.underlying22 info5 rfl (by decide) (by omega) u3 x3_1 y165 _ _ _ (fun k_ => some k_ ≠ (.slice (some ⟨go40, 0, none⟩) y154.length co40 : Value).ownBlock) (fun _ => False) rfl rfl ?aO ?aR (fun _ _ h => h) (fun _ h => h.elim) ?aF ?aB ?aS ?aL ?_; (case aR => rw [show y154.length = y165.length from (Kd.R_reads' HO156.out).1]; repeat (first | exact (Kd.R_reads' HO156.out).2.2 | (with_reducible refine Kd.C_alloc ?_ _) | (with_reducible refine Kd.C_drewN ?_ _) | (with_reducible refine Kd.C_drew ?_))); (case aB => exact bB); (case aF => exact (fun k_ hk => Kd.fresh' (Kd.R_lt (bR HO156)) k_ hk)); (case aO => exact z13 HO_3.out); (case aS => exact (below_size bB)); (case aL => have := LMc41.out; have hlx_ := (Kd.R_reads' HO156.out).1; omega); intro v167 w46 ho hb hg hat; rw [← Ny166.out] at ho; have n0_ := aM (Kd.R_after (ok := (fun _ => True)) (z40 HO156.out) hg hat); have n1_ := aM (hb); have n2_ := aM (ho); clear HO156; clear HB; clear HO_3; have HO156 := n0_; have HB := n1_; have HO168 := n2_; clear n0_ n1_ n2_; clear ho hb hg hat))
            go_roundg kj9
            case measure => have := HK1.out; have := HJ5.out; have := HJ9.out; omega
            case rel => exact ⟨(y166), (wrap64 (x4_1 + 3)), bS, H', ⟨z46 HK1.out HJ5.out HJ9.out⟩, ⟨z9 HO168.out⟩, ⟨bB⟩⟩
           rw [if_neg c41] at H
           exact absurd H (by simp)
          rw [if_neg c39] at H
          exact absurd H (by simp)
         rw [if_neg c38] at H
         have c38b0 : decide ((l0.length : Int) ≤ (wrap64 (x4_1 + 1))) = false := decide_eq_false c38
         clear c38
         by_cases c47 : x3_1.length + y154.length < 140737488355328
         ·rw [if_pos c47] at H
          have LMc47 := aM c47
          clear c47
          obtain ⟨y169, hy169⟩ : ∃ y_ : List Int, y_ = (x3_1 ++ y154) := ⟨_, rfl⟩
          replace H : (spec_l1Encode.l0 kj9 l0 y169 (wrap64 (x4_1 + 3))) = some r := z0 hy169
          have Ny169 := aM hy169
          clear hy169
          have H' := aM H
          clear H
          go_wp2_with (first | ((with_reducible refine gate_callee (f := 99) rfl ?_); refine gL_ (some 49) Tryz.func99 #[.int .i64 (wrap64 (Int.tdiv x5_9 262144))] ?_; (with_reducible refine (spec_l1Base.calls (wrap64 (Int.tdiv x5_9 262144)) t150 _ A14.out).mono ?_); rintro e w' ⟨rfl, ⟨nd, rfl⟩⟩; refine ⟨_, rfl, ?_⟩) | ((with_reducible refine gate_callee (f := 99) rfl ?_); refine gL_ (some 53) Tryz.func99 #[.int .i64 (Int.tmod (wrap64 (Int.tdiv x5_9 4096)) 64)] ?_; (with_reducible refine (spec_l1Base.calls (Int.tmod (wrap64 (Int.tdiv x5_9 4096)) 64) t151 _ A15.out).mono ?_); rintro e w' ⟨rfl, ⟨nd, rfl⟩⟩; refine ⟨_, rfl, ?_⟩) | ((with_reducible refine gate_callee (f := 99) rfl ?_); refine gL_ (some 57) Tryz.func99 #[.int .i64 (Int.tmod (wrap64 (Int.tdiv x5_9 64)) 64)] ?_; (with_reducible refine (spec_l1Base.calls (Int.tmod (wrap64 (Int.tdiv x5_9 64)) 64) t152 _ A16.out).mono ?_); rintro e w' ⟨rfl, ⟨nd, rfl⟩⟩; refine ⟨_, rfl, ?_⟩) | ((with_reducible refine gate_callee (f := 99) rfl ?_); refine gL_ (some 60) Tryz.func99 #[.int .i64 (Int.tmod x5_9 64)] ?_; (with_reducible refine (spec_l1Base.calls (Int.tmod x5_9 64) t153 _ A17.out).mono ?_); rintro e w' ⟨rfl, ⟨nd, rfl⟩⟩; refine ⟨_, rfl, ?_⟩) | ((with_reducible refine gate_dst (N := 61) rfl ?_); refine Kd.R_lit (Kd.int .u8) _ 5 ?hg (N := 61) ?hd (xs := ([t150, t151, t152, t153] : List Int)) (inner := [.int .u8 t150, .int .u8 t151, .int .u8 t152, .int .u8 t153]) (ok := fun _ => True) (okp := fun _ => True) ?hr ?hp (fun _ hk => hk) trivial (Below.refl _ _) (Nat.le_refl _) (by simp) ?_; (case hd => rfl); (case hg => rfl); (case hr => exact z10); (case hp => exact (Reps.one (show Kd.M (Kd.int .u8) _ _ _ t150 [.int .u8 t150] from rfl) (Reps.one (show Kd.M (Kd.int .u8) _ _ _ t151 [.int .u8 t151] from rfl) (Reps.one (show Kd.M (Kd.int .u8) _ _ _ t152 [.int .u8 t152] from rfl) (Reps.one (show Kd.M (Kd.int .u8) _ _ _ t153 [.int .u8 t153] from rfl) (Reps.none _ _)))))); intro v155 w48 ho49 hb hg_ hnew_; clear hg_ hnew_; (first | rw [← Ny154.out] at ho49 | (simp only [Int.reduceToNat] at ho49; rw [← Ny154.out] at ho49)); have HO156 := aM (Kd.R_lower (Kd.R_new' ho49 (Kd.R_lt (bR HO_3))) (below_size bB)); replace HO_3 := aM (Kd.R_elder' (bR HO_3) (Kd.R_base ho49) hb); replace HB := aM (below_step bB hb); clear hb ho49; obtain ⟨Ao51, co51, eo51⟩ := Kd.R_slice HO156.out; subst eo51) | ((with_reducible refine gate_builtin (b := .append) (xs := #[.tmp 76, .tmp 77]) rfl ?_); at_builtin; refine Kd.R_append_rows (Kd.int .u8) (w0 := w) w.heap.size rfl (.tmp 76) (.tmp 77) 22 5 (.int .u8 0) 1 rfl Tryz.underlying22 info5 rfl (by decide) (by omega) u3 x3_1 y154 _ _ _ (fun k_ => some k_ ≠ (.slice Ao51 y154.length co51 : Value).ownBlock) (fun _ => False) rfl rfl ?aO ?aR (fun _ _ h => h) (fun _ h => h.elim) ?aF ?aB ?aS ?aL ?_; (case aR => exact z4 HO156.out); (case aB => exact bB); (case aF => exact (fun k_ hk => Kd.fresh' (Kd.R_lt (bR HO156)) k_ hk)); (case aO => exact z13 HO_3.out); (case aS => exact (below_size bB)); (case aL => have := LMc47.out; omega); intro v170 w50 ho hb hg hat; rw [← Ny169.out] at ho; have n0_ := aM (Kd.R_after (ok := (fun _ => True)) (bR HO156) hg hat); have n1_ := aM (hb); have n2_ := aM (ho); clear HO156; clear HB; clear HO_3; have HO156 := n0_; have HB := n1_; have HO171 := n2_; clear n0_ n1_ n2_; clear ho hb hg hat))
          go_roundg kj9
          case measure => have := HK1.out; have := HJ5.out; have := HJ9.out; omega
          case rel => exact ⟨(y169), (wrap64 (x4_1 + 3)), bS, H', ⟨z46 HK1.out HJ5.out HJ9.out⟩, ⟨z9 HO171.out⟩, ⟨bB⟩⟩
         rw [if_neg c47] at H
         exact absurd H (by simp)
    rw [if_neg c5] at H
    exact absurd H (by simp)
   rw [if_neg c4] at H
   have c4b0 : decide (x4_1 < (l0.length : Int)) = false := decide_eq_false c4
   clear c4
   obtain rfl := Option.some.inj H
   have hcv52 := own_string (P := Tryz.prog) Tryz.underlying22 Tryz.underlying5 Tryz.underlying9 (Kd.own_of_R HO_3.out); (try have hcv52d := fun nq_ : Nat => own_string (P := Tryz.prog) Tryz.underlying22 Tryz.underlying5 Tryz.underlying9 (Kd.own_of_R (Kd.R_drewN HO_3.out nq_)))
   go_wp2
   go_ret
   exact ⟨bE, bB⟩
def spec_l4Encode.f (k : Nat) (l0 : List Int) : Option (ByteArray × Int) := (spec_l2Encode.f k 4 l0).bind fun bt172 => (if bt172.2 = 0 then ((spec_l4Self.f k l0).bind fun t176 => (if t176 = true then (some (strOfNums bt172.1, 0)) else ((spec_l1Encode.f k bt172.1).bind fun t177 => (if 10 + t177.size ≤ 9223372036854775807 then (if ((⟨#[61, 63, 117, 116, 102, 45, 56, 63, 66, 63]⟩ : ByteArray) ++ t177).size + 2 ≤ 9223372036854775807 then (if ((((⟨#[61, 63, 117, 116, 102, 45, 56, 63, 66, 63]⟩ : ByteArray) ++ t177) ++ (⟨#[63, 61]⟩ : ByteArray)).size : Int) > 400 then (some ((⟨#[]⟩ : ByteArray), 2)) else (some (((⟨#[61, 63, 117, 116, 102, 45, 56, 63, 66, 63]⟩ : ByteArray) ++ t177) ++ (⟨#[63, 61]⟩ : ByteArray), 0))) else (none)) else (none))))) else (some ((⟨#[]⟩ : ByteArray), bt172.2)))
set_option maxHeartbeats 8000000 in
set_option maxRecDepth 100000 in
theorem spec_l4Encode.calls (k : Nat) (A0 : Option Addr) (c0 : Nat) (l0 : List Int) (r1 : ByteArray) (r2 : Int) (w : World) (hr0 : Kd.C (Kd.int .i64) w A0 l0.length l0) (hc0 : l0.length ≤ c0) (h : spec_l4Encode.f k l0 = some (r1, r2)) :
  Calls Tryz.prog 44 #[.slice A0 l0.length c0] w fun e w' => e = .returned (.tuple #[.string r1, .int .i64 r2]) ∧ Below w.heap.size w w' := by
 have HR0 := aM hr0
 have HC0 := aM hc0
 clear hr0 hc0
 have HB := aM (Below.refl w.heap.size w)
 have H : ((spec_l2Encode.f k 4 l0).bind fun bt172 => (if bt172.2 = 0 then ((spec_l4Self.f k l0).bind fun t176 => (if t176 = true then (some (strOfNums bt172.1, 0)) else ((spec_l1Encode.f k bt172.1).bind fun t177 => (if 10 + t177.size ≤ 9223372036854775807 then (if ((⟨#[61, 63, 117, 116, 102, 45, 56, 63, 66, 63]⟩ : ByteArray) ++ t177).size + 2 ≤ 9223372036854775807 then (if ((((⟨#[61, 63, 117, 116, 102, 45, 56, 63, 66, 63]⟩ : ByteArray) ++ t177) ++ (⟨#[63, 61]⟩ : ByteArray)).size : Int) > 400 then (some ((⟨#[]⟩ : ByteArray), 2)) else (some (((⟨#[61, 63, 117, 116, 102, 45, 56, 63, 66, 63]⟩ : ByteArray) ++ t177) ++ (⟨#[63, 61]⟩ : ByteArray), 0))) else (none)) else (none))))) else (some ((⟨#[]⟩ : ByteArray), bt172.2)))) = some (r1, r2) := h
 clear h
 replace H := Option.bind_eq_some_iff.mp H
 obtain ⟨⟨t172, t173⟩, A20, H⟩ := H
 replace H : (if t173 = 0 then ((spec_l4Self.f k l0).bind fun t176 => (if t176 = true then (some (strOfNums t172, 0)) else ((spec_l1Encode.f k t172).bind fun t177 => (if 10 + t177.size ≤ 9223372036854775807 then (if ((⟨#[61, 63, 117, 116, 102, 45, 56, 63, 66, 63]⟩ : ByteArray) ++ t177).size + 2 ≤ 9223372036854775807 then (if ((((⟨#[61, 63, 117, 116, 102, 45, 56, 63, 66, 63]⟩ : ByteArray) ++ t177) ++ (⟨#[63, 61]⟩ : ByteArray)).size : Int) > 400 then (some ((⟨#[]⟩ : ByteArray), 2)) else (some (((⟨#[61, 63, 117, 116, 102, 45, 56, 63, 66, 63]⟩ : ByteArray) ++ t177) ++ (⟨#[63, 61]⟩ : ByteArray), 0))) else (none)) else (none))))) else (some ((⟨#[]⟩ : ByteArray), t173))) = some (r1, r2) := H
 have A2 := aM A20
 clear A20
 have HQ_ := aM H
 clear H
 go_enter Tryz.func44, Tryz.ntmps44
 have H := HQ_.out
 clear HQ_
 by_cases c3 : t173 = 0
 ·rw [if_pos c3] at H
  have c3b0 : (t173 == 0) = true := beq_iff_eq.mpr c3
  have c3b1 : (t173 != 0) = false := bne_eq_false_iff_eq.mpr c3
  clear c3
  replace H := Option.bind_eq_some_iff.mp H
  obtain ⟨t176, A40, H⟩ := H
  replace H : (if t176 = true then (some (strOfNums t172, 0)) else ((spec_l1Encode.f k t172).bind fun t177 => (if 10 + t177.size ≤ 9223372036854775807 then (if ((⟨#[61, 63, 117, 116, 102, 45, 56, 63, 66, 63]⟩ : ByteArray) ++ t177).size + 2 ≤ 9223372036854775807 then (if ((((⟨#[61, 63, 117, 116, 102, 45, 56, 63, 66, 63]⟩ : ByteArray) ++ t177) ++ (⟨#[63, 61]⟩ : ByteArray)).size : Int) > 400 then (some ((⟨#[]⟩ : ByteArray), 2)) else (some (((⟨#[61, 63, 117, 116, 102, 45, 56, 63, 66, 63]⟩ : ByteArray) ++ t177) ++ (⟨#[63, 61]⟩ : ByteArray), 0))) else (none)) else (none)))) = some (r1, r2) := H
  have A4 := aM A40
  clear A40
  (try simp only [c3b0, c3b1])
  by_cases c5 : t176 = true
  ·subst c5
   have H1 : (some (strOfNums t172, 0)) = some (r1, r2) := z16
   clear H
   have H := H1
   clear H1
   simp only [Option.some.injEq, Prod.mk.injEq] at H
   obtain ⟨rfl, rfl⟩ := H
   go_wp2_with (first | ((with_reducible refine gate_callee (f := 63) rfl ?_); refine gL_ (some 9) Tryz.func63 #[.int .i64 4, .slice A0 l0.length c0] ?_; (with_reducible refine (spec_l2Encode.calls k 4 _ _ l0 t172 t173 _ ?side1 ?side2 A2.out).mono ?_); (case side1 => exact z19 HR0.out); (case side2 => exact HC0.out); rintro e w6 ⟨v174, rfl, ho0, hb⟩; refine ⟨_, rfl, ?_⟩; have HO175 := aM (Kd.R_lower ho0 (below_size bB)); replace HB := aM (below_step bB hb); (try clear ho0)) | ((with_reducible refine gate_callee (f := 64) rfl ?_); refine gL_ (some 16) Tryz.func64 #[.slice A0 l0.length c0] ?_; (with_reducible refine (spec_l4Self.calls k _ _ l0 true _ ?side1 ?side2 A4.out).mono ?_); (case side1 => exact z12 HR0.out); (case side2 => exact HC0.out); rintro e w' ⟨rfl, ⟨nd, rfl⟩⟩; refine ⟨_, rfl, ?_⟩; have hcv7 := own_string (P := Tryz.prog) Tryz.underlying22 Tryz.underlying5 Tryz.underlying9 (Kd.own_of_R HO175.out); (try have hcv7d := fun nq_ : Nat => own_string (P := Tryz.prog) Tryz.underlying22 Tryz.underlying5 Tryz.underlying9 (Kd.own_of_R (Kd.R_drewN HO175.out nq_)))))
   go_ret2
   exact ⟨bE, bB⟩
  replace c5 := Bool.eq_false_iff.mpr c5
  subst c5
  have H1 : ((spec_l1Encode.f k t172).bind fun t177 => (if 10 + t177.size ≤ 9223372036854775807 then (if ((⟨#[61, 63, 117, 116, 102, 45, 56, 63, 66, 63]⟩ : ByteArray) ++ t177).size + 2 ≤ 9223372036854775807 then (if ((((⟨#[61, 63, 117, 116, 102, 45, 56, 63, 66, 63]⟩ : ByteArray) ++ t177) ++ (⟨#[63, 61]⟩ : ByteArray)).size : Int) > 400 then (some ((⟨#[]⟩ : ByteArray), 2)) else (some (((⟨#[61, 63, 117, 116, 102, 45, 56, 63, 66, 63]⟩ : ByteArray) ++ t177) ++ (⟨#[63, 61]⟩ : ByteArray), 0))) else (none)) else (none))) = some (r1, r2) := z7
  clear H
  have H := H1
  clear H1
  replace H := Option.bind_eq_some_iff.mp H
  obtain ⟨t177, A80, H⟩ := H
  replace H : (if 10 + t177.size ≤ 9223372036854775807 then (if ((⟨#[61, 63, 117, 116, 102, 45, 56, 63, 66, 63]⟩ : ByteArray) ++ t177).size + 2 ≤ 9223372036854775807 then (if ((((⟨#[61, 63, 117, 116, 102, 45, 56, 63, 66, 63]⟩ : ByteArray) ++ t177) ++ (⟨#[63, 61]⟩ : ByteArray)).size : Int) > 400 then (some ((⟨#[]⟩ : ByteArray), 2)) else (some (((⟨#[61, 63, 117, 116, 102, 45, 56, 63, 66, 63]⟩ : ByteArray) ++ t177) ++ (⟨#[63, 61]⟩ : ByteArray), 0))) else (none)) else (none)) = some (r1, r2) := H
  have A8 := aM A80
  clear A80
  by_cases c9 : 10 + t177.size ≤ 9223372036854775807
  ·rw [if_pos c9] at H
   have c9b0 := eq_true c9
   have c9b1 : decide (10 + t177.size ≤ 9223372036854775807) = true := decide_eq_true c9
   try have c9b2 : (9223372036854775807 < 10 + t177.size) = False := eq_false (Nat.not_lt.2 c9)
   by_cases c10 : ((⟨#[61, 63, 117, 116, 102, 45, 56, 63, 66, 63]⟩ : ByteArray) ++ t177).size + 2 ≤ 9223372036854775807
   ·rw [if_pos c10] at H
    have c10b0 := eq_true c10
    have c10b1 : decide (((⟨#[61, 63, 117, 116, 102, 45, 56, 63, 66, 63]⟩ : ByteArray) ++ t177).size + 2 ≤ 9223372036854775807) = true := decide_eq_true c10
    try have c10b2 : (9223372036854775807 < ((⟨#[61, 63, 117, 116, 102, 45, 56, 63, 66, 63]⟩ : ByteArray) ++ t177).size + 2) = False := eq_false (Nat.not_lt.2 c10)
    (try (have c10b3 : (9223372036854775807 < 10 + t177.size + 2) = False := by have h_ := c10b2; simp only [ByteArray.size_append] at h_; exact h_))
    by_cases c11 : ((((⟨#[61, 63, 117, 116, 102, 45, 56, 63, 66, 63]⟩ : ByteArray) ++ t177) ++ (⟨#[63, 61]⟩ : ByteArray)).size : Int) > 400
    ·rw [if_pos c11] at H
     have c11b0 : decide (400 < ((((⟨#[61, 63, 117, 116, 102, 45, 56, 63, 66, 63]⟩ : ByteArray) ++ t177) ++ (⟨#[63, 61]⟩ : ByteArray)).size : Int)) = true := decide_eq_true c11
     have c11b1 : decide (400 < (((⟨#[61, 63, 117, 116, 102, 45, 56, 63, 66, 63]⟩ : ByteArray) ++ t177) ++ (⟨#[63, 61]⟩ : ByteArray)).size) = true := decide_eq_true (by omega)
     (try (have c11h : 400 < 10 + t177.size + 2 := by have h_ := of_decide_eq_true c11b1; simp only [ByteArray.size_append] at h_; exact h_))
     (try (have c11e1 : decide ((400 : Int) < (10 + (t177.size : Int) + 2 : Int)) = true := decide_eq_true (by omega)))
     (try (have c11e2 : ((400 : Int) < (10 + (t177.size : Int) + 2 : Int)) = True := eq_true (by omega)))
     (try (have c11e3 : (400 < 10 + t177.size + 2) = True := eq_true c11h))
     clear c11
     simp only [Option.some.injEq, Prod.mk.injEq] at H
     obtain ⟨rfl, rfl⟩ := H
     (try simp only [c11b0, c11b1])
     go_wp2_with (first | ((with_reducible refine gate_callee (f := 63) rfl ?_); refine gL_ (some 9) Tryz.func63 #[.int .i64 4, .slice A0 l0.length c0] ?_; (with_reducible refine (spec_l2Encode.calls k 4 _ _ l0 t172 t173 _ ?side1 ?side2 A2.out).mono ?_); (case side1 => exact z19 HR0.out); (case side2 => exact HC0.out); rintro e w12 ⟨v174, rfl, ho0, hb⟩; refine ⟨_, rfl, ?_⟩; have HO175 := aM (Kd.R_lower ho0 (below_size bB)); replace HB := aM (below_step bB hb); (try clear ho0)) | ((with_reducible refine gate_callee (f := 64) rfl ?_); refine gL_ (some 16) Tryz.func64 #[.slice A0 l0.length c0] ?_; (with_reducible refine (spec_l4Self.calls k _ _ l0 false _ ?side1 ?side2 A4.out).mono ?_); (case side1 => exact z12 HR0.out); (case side2 => exact HC0.out); rintro e w' ⟨rfl, ⟨nd, rfl⟩⟩; refine ⟨_, rfl, ?_⟩; obtain ⟨Ao13, co13, eo13⟩ := Kd.R_slice HO175.out; subst eo13) | ((with_reducible refine gate_callee (f := 65) rfl ?_); refine gL_ (some 20) Tryz.func65 #[.slice Ao13 t172.length co13] ?_; (with_reducible refine (spec_l1Encode.calls k _ _ t172 t177 _ ?side1 ?side2 A8.out).mono ?_); (case side1 => exact z4 HO175.out); (case side2 => exact (Kd.R_reads' HO175.out).2.1); rintro e w14 ⟨rfl, hb⟩; refine ⟨_, rfl, ?_⟩; replace HO175 := aM (Kd.R_below (bR HO175) hb); replace HB := aM (below_step bB hb); (try clear hi)))
     go_ret2
     exact ⟨bE, bB⟩
    rw [if_neg c11] at H
    have c11b0 : decide (400 < ((((⟨#[61, 63, 117, 116, 102, 45, 56, 63, 66, 63]⟩ : ByteArray) ++ t177) ++ (⟨#[63, 61]⟩ : ByteArray)).size : Int)) = false := decide_eq_false c11
    have c11b1 : decide (400 < (((⟨#[61, 63, 117, 116, 102, 45, 56, 63, 66, 63]⟩ : ByteArray) ++ t177) ++ (⟨#[63, 61]⟩ : ByteArray)).size) = false := decide_eq_false (by omega)
    (try (have c11h : ¬ (400 < 10 + t177.size + 2) := by have h_ := of_decide_eq_false c11b1; simp only [ByteArray.size_append] at h_; exact h_))
    (try (have c11e1 : decide ((400 : Int) < (10 + (t177.size : Int) + 2 : Int)) = false := decide_eq_false (by omega)))
    (try (have c11e2 : ((400 : Int) < (10 + (t177.size : Int) + 2 : Int)) = False := eq_false (by omega)))
    (try (have c11e3 : (400 < 10 + t177.size + 2) = False := eq_false c11h))
    clear c11
    simp only [Option.some.injEq, Prod.mk.injEq] at H
    obtain ⟨rfl, rfl⟩ := H
    (try simp only [c11b0, c11b1])
    go_wp2_with (first | ((with_reducible refine gate_callee (f := 63) rfl ?_); refine gL_ (some 9) Tryz.func63 #[.int .i64 4, .slice A0 l0.length c0] ?_; (with_reducible refine (spec_l2Encode.calls k 4 _ _ l0 t172 t173 _ ?side1 ?side2 A2.out).mono ?_); (case side1 => exact z19 HR0.out); (case side2 => exact HC0.out); rintro e w15 ⟨v174, rfl, ho0, hb⟩; refine ⟨_, rfl, ?_⟩; have HO175 := aM (Kd.R_lower ho0 (below_size bB)); replace HB := aM (below_step bB hb); (try clear ho0)) | ((with_reducible refine gate_callee (f := 64) rfl ?_); refine gL_ (some 16) Tryz.func64 #[.slice A0 l0.length c0] ?_; (with_reducible refine (spec_l4Self.calls k _ _ l0 false _ ?side1 ?side2 A4.out).mono ?_); (case side1 => exact z12 HR0.out); (case side2 => exact HC0.out); rintro e w' ⟨rfl, ⟨nd, rfl⟩⟩; refine ⟨_, rfl, ?_⟩; obtain ⟨Ao16, co16, eo16⟩ := Kd.R_slice HO175.out; subst eo16) | ((with_reducible refine gate_callee (f := 65) rfl ?_); refine gL_ (some 20) Tryz.func65 #[.slice Ao16 t172.length co16] ?_; (with_reducible refine (spec_l1Encode.calls k _ _ t172 t177 _ ?side1 ?side2 A8.out).mono ?_); (case side1 => exact z4 HO175.out); (case side2 => exact (Kd.R_reads' HO175.out).2.1); rintro e w17 ⟨rfl, hb⟩; refine ⟨_, rfl, ?_⟩; replace HO175 := aM (Kd.R_below (bR HO175) hb); replace HB := aM (below_step bB hb); (try clear hi)))
    go_ret2
    exact ⟨bE, bB⟩
   rw [if_neg c10] at H
   exact absurd H (by simp)
  rw [if_neg c9] at H
  exact absurd H (by simp)
 rw [if_neg c3] at H
 have c3b0 : (t173 == 0) = false := beq_eq_false_iff_ne.mpr c3
 have c3b1 : (t173 != 0) = true := bne_iff_ne.mpr c3
 simp only [Option.some.injEq, Prod.mk.injEq] at H
 obtain ⟨rfl, rfl⟩ := H
 (try simp only [c3b0, c3b1])
 go_wp2_with (first | ((with_reducible refine gate_callee (f := 63) rfl ?_); refine gL_ (some 9) Tryz.func63 #[.int .i64 4, .slice A0 l0.length c0] ?_; (with_reducible refine (spec_l2Encode.calls k 4 _ _ l0 t172 t173 _ ?side1 ?side2 A2.out).mono ?_); (case side1 => exact z19 HR0.out); (case side2 => exact HC0.out); rintro e w18 ⟨v174, rfl, ho0, hb⟩; refine ⟨_, rfl, ?_⟩; have HO175 := aM (Kd.R_lower ho0 (below_size bB)); replace HB := aM (below_step bB hb); (try clear ho0)))
 go_ret2
 exact ⟨bE, bB⟩
def spec_l1Pick.f (s0_0 : List Int) (s0_1 : Int) (l1 : List Int) : Option (Int × Int) := (spec_l1Next.f s0_0 s0_1 (l1.length : Int)).bind fun bt178 => (if 0 ≤ bt178.1 then (if bt178.1 < (l1.length : Int) then (some (rd l1 bt178.1, bt178.2)) else (none)) else (none))
set_option maxHeartbeats 8000000 in
set_option maxRecDepth 100000 in
theorem spec_l1Pick.calls (g : Nat) (s0_0 : List Int) (s0_1 : Int) (A1 : Option Addr) (c1 : Nat) (l1 : List Int) (r1 : Int) (r2 : Int) (w0 w : World) (hI : IsS73 w0 w g s0_0 s0_1) (hB : Below w0.heap.size w0 w) (hr1 : Kd.C (Kd.int .i64) w A1 l1.length l1) (hc1 : l1.length ≤ c1) (hf1 : ∀ ad, A1 = some ad → 0 < l1.length → ad.block ≠ g) (h : spec_l1Pick.f s0_0 s0_1 l1 = some (r1, r2)) :
  Calls Tryz.prog 59 #[.pointer (some ⟨g, 0, none⟩), .slice A1 l1.length c1] w fun e w' => e = .returned (.int .i64 r1) ∧ IsS73 w0 w' g s0_0 r2 ∧ Below w0.heap.size w0 w' ∧ KeepBut w w' g none := by
 have HR1 := aM hr1
 have HC1 := aM hc1
 clear hr1 hc1
 have HI0 := aM hI
 have HK := aM (KeepBut.refl w g none)
 have HL := aM hB.size
 clear hI
 have HW0 := aM hB.size
 have HB := aM hB
 clear hB
 have H : ((spec_l1Next.f s0_0 s0_1 (l1.length : Int)).bind fun bt178 => (if 0 ≤ bt178.1 then (if bt178.1 < (l1.length : Int) then (some (rd l1 bt178.1, bt178.2)) else (none)) else (none))) = some (r1, r2) := h
 clear h
 replace H := Option.bind_eq_some_iff.mp H
 obtain ⟨⟨t178, t179⟩, A30, H⟩ := H
 replace H : (if 0 ≤ t178 then (if t178 < (l1.length : Int) then (some (rd l1 t178, t179)) else (none)) else (none)) = some (r1, r2) := H
 have A3 := aM A30
 clear A30
 by_cases c4 : 0 ≤ t178
 ·rw [if_pos c4] at H
  have c4b0 : decide (0 ≤ t178) = true := decide_eq_true c4
  clear c4
  by_cases c5 : t178 < (l1.length : Int)
  ·rw [if_pos c5] at H
   have c5b0 : decide (t178 < (l1.length : Int)) = true := decide_eq_true c5
   clear c5
   simp only [Option.some.injEq, Prod.mk.injEq] at H
   obtain ⟨rfl, rfl⟩ := H
   go_enter Tryz.func59, Tryz.ntmps59
   go_wp2_with (first | ((with_reducible refine gate_callee (f := 32) rfl ?_); refine gL_ (some 9) Tryz.func32 #[.pointer (some ⟨g, 0, none⟩), .int .i64 (l1.length : Int)] ?_; (with_reducible refine (spec_l1Next.calls g s0_0 s0_1 (l1.length : Int) t178 t179 w0 _ ?side1 ?side2 A3.out).mono ?_); (case side1 => exact z2 HI0.out); (case side2 => exact z1 HI0.out); rintro e w6 ⟨rfl, hi, hb, hk⟩; refine ⟨_, rfl, ?_⟩; replace HK := aM (KeepBut.trans z3 hk (.inl rfl)); replace HB := aM (hb); replace HI0 := aM (hi); have p180 : 0 ≤ (t178 : Int) := pI; have q180 : t178 < (l1.length : Int) := pI; obtain ⟨ad180, e180, hx180_0⟩ := Kd.at_int HR1.out t178 p180 q180; cases e180; replace hx180_0 := keep_cell HK.out hx180_0 (by first | (rw [add_block]; exact hf1 _ rfl (by omega)) | exact hf1 _ rfl (by omega) | exact hf1 ad180 rfl (by omega)); replace p180 := eq_true p180; replace q180 := eq_true q180))
   go_ret
   exact ⟨bE, z2 HI0.out, z1 HI0.out, z3⟩
  rw [if_neg c5] at H
  exact absurd H (by simp)
 rw [if_neg c4] at H
 exact absurd H (by simp)
def spec_l2Codes.l0 : Nat → List Int → Int → List Int → Int → Option (List Int × Int)
 | 0, _, _, _, _ => none
 | k + 1, x3, x4, x1000, x1001 => if x4 > 0 then ((spec_l1Pick.f x1000 x1001 (([97, 66, 32, 228, 1078, 1046, 8470, 167, 8364, 127, 160, 1037] : List Int))).bind fun bt189 => (if x3.length < 17592186044416 then (spec_l2Codes.l0 k (x3 ++ [bt189.1]) (wrap64 (x4 - 1)) x1000 bt189.2) else (none))) else (some (x3, x1001))
def spec_l2Codes.f (k : Nat) (s0_0 : List Int) (s0_1 : Int) : Option (List Int × Int) := (spec_l1Next.f s0_0 s0_1 6).bind fun bt184 => (spec_l2Codes.l0 k (([] : List Int)) bt184.1 s0_0 bt184.2)
set_option maxHeartbeats 8000000 in
set_option maxRecDepth 100000 in
theorem spec_l2Codes.calls (k : Nat) (g : Nat) (s0_0 : List Int) (s0_1 : Int) (r1 : List Int) (r2 : Int) (w0 w : World) (hI : IsS73 w0 w g s0_0 s0_1) (hB : Below w0.heap.size w0 w) (h : spec_l2Codes.f k s0_0 s0_1 = some (r1, r2)) :
  Calls Tryz.prog 51 #[.pointer (some ⟨g, 0, none⟩)] w fun e w' => ∃ v0_ : Value, e = .returned (v0_) ∧ Kd.R (Kd.int .i64) 2 w' w.heap.size (fun _ => True) v0_ r1 ∧ IsS73 w0 w' g s0_0 r2 ∧ Below w0.heap.size w0 w' ∧ KeepBut w w' g none := by
 have HI0 := aM hI
 have HK := aM (KeepBut.refl w g none)
 have HL := aM hB.size
 clear hI
 have HW0 := aM hB.size
 have HB := aM hB
 clear hB
 have H : ((spec_l1Next.f s0_0 s0_1 6).bind fun bt184 => (spec_l2Codes.l0 k (([] : List Int)) bt184.1 s0_0 bt184.2)) = some (r1, r2) := h
 clear h
 obtain ⟨y181, hy181⟩ : ∃ y_ : List Int, y_ = (([] : List Int)) := ⟨_, rfl⟩
 replace H : ((spec_l1Next.f s0_0 s0_1 6).bind fun bt184 => (spec_l2Codes.l0 k y181 bt184.1 s0_0 bt184.2)) = some (r1, r2) := z0 hy181
 have Ny181 := aM hy181
 clear hy181
 replace H := Option.bind_eq_some_iff.mp H
 obtain ⟨⟨t184, t185⟩, A20, H⟩ := H
 replace H : (spec_l2Codes.l0 k y181 t184 s0_0 t185) = some (r1, r2) := H
 have A2 := aM A20
 clear A20
 have H' := aM H
 clear H
 go_enter Tryz.func51, Tryz.ntmps51
 go_wp2_with (first | ((with_reducible refine gate_dst (N := 5) rfl ?_); refine Kd.R_lit (Kd.int .i64) _ 2 ?hg (N := 5) ?hd (xs := ([] : List Int)) (inner := []) (ok := fun _ => True) (okp := fun _ => True) ?hr ?hp (fun _ hk => hk) trivial (Below.refl _ _) (Nat.le_refl _) (by simp) ?_; (case hd => rfl); (case hg => rfl); (case hr => exact z10); (case hp => exact (Reps.none _ _)); intro v182 w3 ho4 hb hg_ hnew_; clear hg_ hnew_; (first | rw [← Ny181.out] at ho4 | (simp only [Int.reduceToNat] at ho4; rw [← Ny181.out] at ho4)); have HO183 := aM (Kd.R_lower ho4 (keep_size (w := w) (g := g) (row := none) z3)); replace HK := aM (KeepBut.trans z3 (KeepBut.of_below hb g none) (.inl rfl)); replace HB := aM (below_step (z1 HI0.out) hb); replace HI0 := aM (IsS73.below (z2 HI0.out) hb); clear hb ho4) | ((with_reducible refine gate_callee (f := 32) rfl ?_); refine gL_ (some 7) Tryz.func32 #[.pointer (some ⟨g, 0, none⟩), .int .i64 6] ?_; (with_reducible refine (spec_l1Next.calls g s0_0 s0_1 6 t184 t185 w0 _ ?side1 ?side2 A2.out).mono ?_); (case side1 => exact z2 HI0.out); (case side2 => exact z1 HI0.out); rintro e w5 ⟨rfl, hi, hb, hk⟩; refine ⟨_, rfl, ?_⟩; replace HO183 := aM (Kd.R_mono (Kd.R_keep (IsS73.apart (show IsS73 w0 _ g s0_0 s0_1 from z2 HI0.out) (bR HO183) (by decide)) hk (fun _ h => h.2)) (fun _ h => h.1)); replace HK := aM (KeepBut.trans z3 hk (.inl rfl)); replace HB := aM (hb); replace HI0 := aM (hi); (try clear hi)))
 go_loopg [3, 4] k (fun kq v3 v4 w' => ∃ (x3_1 : List Int) (x4_1 : Int) (x1001_1 : Int), v4 = .int .i64 x4_1 ∧ Aside0 (spec_l2Codes.l0 kq x3_1 x4_1 s0_0 x1001_1 = some (r1, r2)) ∧ Aside0 (kq ≤ k) ∧ Aside0 (Kd.R (Kd.int .i64) 2 w' w.heap.size (fun _ => True) v3 x3_1) ∧ Aside0 (IsS73 w0 w' g s0_0 x1001_1) ∧ Aside0 (KeepBut w w' g none) ∧ Aside0 (Below w0.heap.size w0 w'))
 case atStart => exact ⟨(y181), (t184), (t185), bS, H', ⟨Nat.le_refl _⟩, ⟨bR HO183⟩, ⟨z2 HI0.out⟩, ⟨z3⟩, ⟨z1 HI0.out⟩⟩
 case round =>
  clear H'
  try clear p2
  try clear c3
  try clear c5
  obtain ⟨x3_1, x4_1, x1001_1, rfl, HA, HK1, HO_3, HI0, HK, HB⟩ := hrel
  cases gk with
  | zero => exact absurd HA.out (by simp [spec_l2Codes.l0])
  | succ k1 =>
   have H := HA.out
   clear HA
   simp only [spec_l2Codes.l0] at H
   by_cases c6 : x4_1 > 0
   ·rw [if_pos c6] at H
    have c6b0 : decide (0 < x4_1) = true := decide_eq_true c6
    clear c6
    obtain ⟨y186, hy186⟩ : ∃ y_ : List Int, y_ = (([97, 66, 32, 228, 1078, 1046, 8470, 167, 8364, 127, 160, 1037] : List Int)) := ⟨_, rfl⟩
    replace H : ((spec_l1Pick.f s0_0 x1001_1 y186).bind fun bt189 => (if x3_1.length < 17592186044416 then (spec_l2Codes.l0 k1 (x3_1 ++ [bt189.1]) (wrap64 (x4_1 - 1)) s0_0 bt189.2) else (none))) = some (r1, r2) := z0 hy186
    have Ny186 := aM hy186
    clear hy186
    replace H := Option.bind_eq_some_iff.mp H
    obtain ⟨⟨t189, t190⟩, A70, H⟩ := H
    replace H : (if x3_1.length < 17592186044416 then (spec_l2Codes.l0 k1 (x3_1 ++ [t189]) (wrap64 (x4_1 - 1)) s0_0 t190) else (none)) = some (r1, r2) := H
    have A7 := aM A70
    clear A70
    by_cases c8 : x3_1.length < 17592186044416
    ·rw [if_pos c8] at H
     have LMc8 := aM c8
     clear c8
     obtain ⟨y191, hy191⟩ : ∃ y_ : List Int, y_ = (x3_1 ++ [t189]) := ⟨_, rfl⟩
     replace H : (spec_l2Codes.l0 k1 y191 (wrap64 (x4_1 - 1)) s0_0 t190) = some (r1, r2) := z0 hy191
     have Ny191 := aM hy191
     clear hy191
     have H' := aM H
     clear H
     go_wp2_with (first | ((with_reducible refine gate_dst (N := 14) rfl ?_); refine Kd.R_lit (Kd.int .i64) _ 2 ?hg (N := 14) ?hd (xs := ([97, 66, 32, 228, 1078, 1046, 8470, 167, 8364, 127, 160, 1037] : List Int)) (inner := [.int .i64 97, .int .i64 66, .int .i64 32, .int .i64 228, .int .i64 1078, .int .i64 1046, .int .i64 8470, .int .i64 167, .int .i64 8364, .int .i64 127, .int .i64 160, .int .i64 1037]) (ok := fun _ => True) (okp := fun _ => True) ?hr ?hp (fun _ hk => hk) trivial (Below.refl _ _) (Nat.le_refl _) (by simp) ?_; (case hd => rfl); (case hg => rfl); (case hr => exact z10); (case hp => exact (Reps.one (show Kd.M (Kd.int .i64) _ _ _ 97 [.int .i64 97] from rfl) (Reps.one (show Kd.M (Kd.int .i64) _ _ _ 66 [.int .i64 66] from rfl) (Reps.one (show Kd.M (Kd.int .i64) _ _ _ 32 [.int .i64 32] from rfl) (Reps.one (show Kd.M (Kd.int .i64) _ _ _ 228 [.int .i64 228] from rfl) (Reps.one (show Kd.M (Kd.int .i64) _ _ _ 1078 [.int .i64 1078] from rfl) (Reps.one (show Kd.M (Kd.int .i64) _ _ _ 1046 [.int .i64 1046] from rfl) (Reps.one (show Kd.M (Kd.int .i64) _ _ _ 8470 [.int .i64 8470] from rfl) (Reps.one (show Kd.M (Kd.int .i64) _ _ _ 167 [.int .i64 167] from rfl) (Reps.one (show Kd.M (Kd.int .i64) _ _ _ 8364 [.int .i64 8364] from rfl) (Reps.one (show Kd.M (Kd.int .i64) _ _ _ 127 [.int .i64 127] from rfl) (Reps.one (show Kd.M (Kd.int .i64) _ _ _ 160 [.int .i64 160] from rfl) (Reps.one (show Kd.M (Kd.int .i64) _ _ _ 1037 [.int .i64 1037] from rfl) (Reps.none _ _)))))))))))))); intro v187 w9 ho10 hb hg_ hnew_; clear hg_ hnew_; (first | rw [← Ny186.out] at ho10 | (simp only [Int.reduceToNat] at ho10; rw [← Ny186.out] at ho10)); have HO188 := aM (Kd.R_lower (Kd.R_new' ho10 (Kd.R_lt (bR HO_3))) (keep_size (w := w) (g := g) (row := none) z3)); replace HO_3 := aM (Kd.R_elder' (bR HO_3) (Kd.R_base ho10) hb); replace HK := aM (KeepBut.trans z3 (KeepBut.of_below hb g none) (.inl rfl)); replace HB := aM (below_step (z1 HI0.out) hb); replace HI0 := aM (IsS73.below (z2 HI0.out) hb); clear hb ho10; obtain ⟨Ao11, co11, eo11⟩ := Kd.R_slice HO188.out; subst eo11) | ((with_reducible refine gate_callee (f := 59) rfl ?_); refine gL_ (some 15) Tryz.func59 #[.pointer (some ⟨g, 0, none⟩), .slice Ao11 y186.length co11] ?_; (with_reducible refine (spec_l1Pick.calls g s0_0 x1001_1 _ _ y186 t189 t190 w0 _ ?side1 ?side2 ?side3 ?side4 ?side5 A7.out).mono ?_); (case side1 => exact z2 HI0.out); (case side2 => exact z1 HI0.out); (case side3 => exact z4 HO188.out); (case side4 => exact (Kd.R_reads' HO188.out).2.1); (case side5 => exact far_slice (IsS73.own_ne HI0.out HO188.out (by decide))); rintro e w12 ⟨rfl, hi, hb, hk⟩; refine ⟨_, rfl, ?_⟩; replace HO_3 := aM (Kd.R_mono (Kd.R_keep (IsS73.apart (show IsS73 w0 _ g s0_0 x1001_1 from z2 HI0.out) (bR HO_3) (by decide)) hk (fun _ h => h.2)) (fun _ h => h.1)); replace HO188 := aM (Kd.R_mono (Kd.R_keep (IsS73.apart (show IsS73 w0 _ g s0_0 x1001_1 from z2 HI0.out) (bR HO188) (by decide)) hk (fun _ h => h.2)) (fun _ h => h.1)); replace HK := aM (KeepBut.trans z3 hk (.inl rfl)); replace HB := aM (hb); replace HI0 := aM (hi); (try clear hi)) | ((with_reducible refine gate_builtin (b := .append) (xs := #[.tmp 12, .tmp 16]) rfl ?_); at_builtin; refine Kd.R_append (Kd.int .i64) w.heap.size rfl (.tmp 12) (.tmp 16) 23 2 (.int .i64 0) 8 rfl Tryz.underlying23 info2 rfl (by decide) (by omega) u3 x3_1 t189 [.int .i64 t189] (fun k_ => some k_ ≠ (.slice Ao11 y186.length co11 : Value).ownBlock) (fun _ => False) rfl rfl ?aP (fun _ hk => hk.elim) ?aF ?aO (Below.refl _ _) ?aS ?aL ?_; (case aP => exact rfl); (case aF => exact (fun k_ hk => Kd.fresh' (Kd.R_lt (bR HO188)) k_ hk)); (case aO => exact z13 HO_3.out); (case aS => exact (keep_size (w := w) (g := g) (row := none) z3)); (case aL => have := LMc8.out; omega); intro v192 w13 ho hb hg hat; rw [← Ny191.out] at ho; have n0_ := aM (IsS73.grown (z2 HI0.out) hg (IsS73.own_ne HI0.out HO_3.out (by decide))); have n1_ := aM (Kd.R_after (ok := (fun _ => True)) (bR HO188) hg hat); have n2_ := aM (below_weaken (z1 HI0.out) HL.out hb); have n3_ := aM (KeepBut.trans z3 (KeepBut.of_grown hg g) (Kd.R_base2 HO_3.out)); have n4_ := aM (ho); clear HI0; clear HO188; clear HB; clear HK; clear HO_3; have HI0 := n0_; have HO188 := n1_; have HB := n2_; have HK := n3_; have HO193 := n4_; clear n0_ n1_ n2_ n3_ n4_; clear ho hb hg hat))
     go_roundg k1
     case measure => have := HK1.out; omega
     case rel => exact ⟨(y191), (wrap64 (x4_1 - 1)), (t190), bS, H', ⟨by have := HK1.out; omega⟩, ⟨z9 HO193.out⟩, ⟨z2 HI0.out⟩, ⟨z3⟩, ⟨z1 HI0.out⟩⟩
    rw [if_neg c8] at H
    exact absurd H (by simp)
   rw [if_neg c6] at H
   have c6b0 : decide (0 < x4_1) = false := decide_eq_false c6
   clear c6
   simp only [Option.some.injEq, Prod.mk.injEq] at H
   obtain ⟨rfl, rfl⟩ := H
   go_wp2
   go_ret
   exact ⟨_, bE, bR HO_3, z2 HI0.out, z1 HI0.out, z3⟩
def spec_l4DrawValue.f (k : Nat) (s0_0 : List Int) (s0_1 : Int) : Option (ByteArray × Int) := (spec_l1Next.f s0_0 s0_1 5).bind fun bt194 => (if bt194.1 = 0 then ((spec_l2Codes.f k s0_0 bt194.2).bind fun bt196 => ((spec_l4Encode.f k bt196.1).bind fun bt200 => (some (bt200.1, bt196.2)))) else (if bt194.1 = 1 then ((some (([(⟨#[61, 63, 117, 116, 102, 45, 56, 63, 81, 63, 97, 61, 67, 51, 61, 65, 52, 95, 98, 63, 61]⟩ : ByteArray), (⟨#[61, 63, 105, 115, 111, 45, 56, 56, 53, 57, 45, 53, 63, 113, 63, 61, 68, 54, 63, 61, 32, 61, 63, 117, 115, 45, 97, 115, 99, 105, 105, 63, 66, 63, 89, 81, 61, 61, 63, 61]⟩ : ByteArray), (⟨#[120, 32, 61, 63, 98, 97, 100, 63, 81, 63, 97, 63, 61, 32, 121]⟩ : ByteArray), (⟨#[61, 63, 117, 116, 102, 45, 56, 63, 66, 63, 89, 81, 63, 61]⟩ : ByteArray), (⟨#[97, 32, 228, 32, 98]⟩ : ByteArray), (⟨#[61, 63, 117, 116, 102, 45, 56, 63, 81, 63, 97, 63, 61, 32, 98, 32, 61, 63, 117, 116, 102, 45, 56, 63, 81, 63, 99, 63, 61]⟩ : ByteArray)] : List ByteArray) : List ByteArray)).bind fun y202 => ((spec_l1Next.f s0_0 bt194.2 6).bind fun bt205 => (if 0 ≤ bt205.1 then (if bt205.1 < (y202.length : Int) then (some (rdOf ByteArray.empty y202 bt205.1, bt205.2)) else (none)) else (none)))) else ((some (([(⟨#[]⟩ : ByteArray), (⟨#[104, 101, 108, 108, 111]⟩ : ByteArray), (⟨#[97, 58, 32, 98]⟩ : ByteArray), (⟨#[32, 120]⟩ : ByteArray), (⟨#[116, 101, 120, 116, 47, 112, 108, 97, 105, 110, 59, 32, 99, 104, 97, 114, 115, 101, 116, 61, 117, 116, 102, 45, 56]⟩ : ByteArray), (⟨#[98, 97, 115, 101, 54, 52]⟩ : ByteArray)] : List ByteArray) : List ByteArray)).bind fun y208 => ((spec_l1Next.f s0_0 bt194.2 6).bind fun bt211 => (if 0 ≤ bt211.1 then (if bt211.1 < (y208.length : Int) then (some (rdOf ByteArray.empty y208 bt211.1, bt211.2)) else (none)) else (none))))))
set_option maxHeartbeats 8000000 in
set_option maxRecDepth 100000 in
theorem spec_l4DrawValue.calls (k : Nat) (g : Nat) (s0_0 : List Int) (s0_1 : Int) (r1 : ByteArray) (r2 : Int) (w0 w : World) (hI : IsS73 w0 w g s0_0 s0_1) (hB : Below w0.heap.size w0 w) (h : spec_l4DrawValue.f k s0_0 s0_1 = some (r1, r2)) :
  Calls Tryz.prog 30 #[.pointer (some ⟨g, 0, none⟩)] w fun e w' => e = .returned (.string r1) ∧ IsS73 w0 w' g s0_0 r2 ∧ Below w0.heap.size w0 w' ∧ KeepBut w w' g none := by
 have HI0 := aM hI
 have HK := aM (KeepBut.refl w g none)
 have HL := aM hB.size
 clear hI
 have HW0 := aM hB.size
 have HB := aM hB
 clear hB
 have H : ((spec_l1Next.f s0_0 s0_1 5).bind fun bt194 => (if bt194.1 = 0 then ((spec_l2Codes.f k s0_0 bt194.2).bind fun bt196 => ((spec_l4Encode.f k bt196.1).bind fun bt200 => (some (bt200.1, bt196.2)))) else (if bt194.1 = 1 then ((some (([(⟨#[61, 63, 117, 116, 102, 45, 56, 63, 81, 63, 97, 61, 67, 51, 61, 65, 52, 95, 98, 63, 61]⟩ : ByteArray), (⟨#[61, 63, 105, 115, 111, 45, 56, 56, 53, 57, 45, 53, 63, 113, 63, 61, 68, 54, 63, 61, 32, 61, 63, 117, 115, 45, 97, 115, 99, 105, 105, 63, 66, 63, 89, 81, 61, 61, 63, 61]⟩ : ByteArray), (⟨#[120, 32, 61, 63, 98, 97, 100, 63, 81, 63, 97, 63, 61, 32, 121]⟩ : ByteArray), (⟨#[61, 63, 117, 116, 102, 45, 56, 63, 66, 63, 89, 81, 63, 61]⟩ : ByteArray), (⟨#[97, 32, 228, 32, 98]⟩ : ByteArray), (⟨#[61, 63, 117, 116, 102, 45, 56, 63, 81, 63, 97, 63, 61, 32, 98, 32, 61, 63, 117, 116, 102, 45, 56, 63, 81, 63, 99, 63, 61]⟩ : ByteArray)] : List ByteArray) : List ByteArray)).bind fun y202 => ((spec_l1Next.f s0_0 bt194.2 6).bind fun bt205 => (if 0 ≤ bt205.1 then (if bt205.1 < (y202.length : Int) then (some (rdOf ByteArray.empty y202 bt205.1, bt205.2)) else (none)) else (none)))) else ((some (([(⟨#[]⟩ : ByteArray), (⟨#[104, 101, 108, 108, 111]⟩ : ByteArray), (⟨#[97, 58, 32, 98]⟩ : ByteArray), (⟨#[32, 120]⟩ : ByteArray), (⟨#[116, 101, 120, 116, 47, 112, 108, 97, 105, 110, 59, 32, 99, 104, 97, 114, 115, 101, 116, 61, 117, 116, 102, 45, 56]⟩ : ByteArray), (⟨#[98, 97, 115, 101, 54, 52]⟩ : ByteArray)] : List ByteArray) : List ByteArray)).bind fun y208 => ((spec_l1Next.f s0_0 bt194.2 6).bind fun bt211 => (if 0 ≤ bt211.1 then (if bt211.1 < (y208.length : Int) then (some (rdOf ByteArray.empty y208 bt211.1, bt211.2)) else (none)) else (none))))))) = some (r1, r2) := h
 clear h
 replace H := Option.bind_eq_some_iff.mp H
 obtain ⟨⟨t194, t195⟩, A20, H⟩ := H
 replace H : (if t194 = 0 then ((spec_l2Codes.f k s0_0 t195).bind fun bt196 => ((spec_l4Encode.f k bt196.1).bind fun bt200 => (some (bt200.1, bt196.2)))) else (if t194 = 1 then ((some (([(⟨#[61, 63, 117, 116, 102, 45, 56, 63, 81, 63, 97, 61, 67, 51, 61, 65, 52, 95, 98, 63, 61]⟩ : ByteArray), (⟨#[61, 63, 105, 115, 111, 45, 56, 56, 53, 57, 45, 53, 63, 113, 63, 61, 68, 54, 63, 61, 32, 61, 63, 117, 115, 45, 97, 115, 99, 105, 105, 63, 66, 63, 89, 81, 61, 61, 63, 61]⟩ : ByteArray), (⟨#[120, 32, 61, 63, 98, 97, 100, 63, 81, 63, 97, 63, 61, 32, 121]⟩ : ByteArray), (⟨#[61, 63, 117, 116, 102, 45, 56, 63, 66, 63, 89, 81, 63, 61]⟩ : ByteArray), (⟨#[97, 32, 228, 32, 98]⟩ : ByteArray), (⟨#[61, 63, 117, 116, 102, 45, 56, 63, 81, 63, 97, 63, 61, 32, 98, 32, 61, 63, 117, 116, 102, 45, 56, 63, 81, 63, 99, 63, 61]⟩ : ByteArray)] : List ByteArray) : List ByteArray)).bind fun y202 => ((spec_l1Next.f s0_0 t195 6).bind fun bt205 => (if 0 ≤ bt205.1 then (if bt205.1 < (y202.length : Int) then (some (rdOf ByteArray.empty y202 bt205.1, bt205.2)) else (none)) else (none)))) else ((some (([(⟨#[]⟩ : ByteArray), (⟨#[104, 101, 108, 108, 111]⟩ : ByteArray), (⟨#[97, 58, 32, 98]⟩ : ByteArray), (⟨#[32, 120]⟩ : ByteArray), (⟨#[116, 101, 120, 116, 47, 112, 108, 97, 105, 110, 59, 32, 99, 104, 97, 114, 115, 101, 116, 61, 117, 116, 102, 45, 56]⟩ : ByteArray), (⟨#[98, 97, 115, 101, 54, 52]⟩ : ByteArray)] : List ByteArray) : List ByteArray)).bind fun y208 => ((spec_l1Next.f s0_0 t195 6).bind fun bt211 => (if 0 ≤ bt211.1 then (if bt211.1 < (y208.length : Int) then (some (rdOf ByteArray.empty y208 bt211.1, bt211.2)) else (none)) else (none)))))) = some (r1, r2) := H
 have A2 := aM A20
 clear A20
 have HQ_ := aM H
 clear H
 go_enter Tryz.func30, Tryz.ntmps30
 have H := HQ_.out
 clear HQ_
 by_cases c3 : t194 = 0
 ·rw [if_pos c3] at H
  have c3b0 : (t194 == 0) = true := beq_iff_eq.mpr c3
  have c3b1 : (t194 != 0) = false := bne_eq_false_iff_eq.mpr c3
  clear c3
  replace H := Option.bind_eq_some_iff.mp H
  obtain ⟨⟨t196, t199⟩, A40, H⟩ := H
  replace H : ((spec_l4Encode.f k t196).bind fun bt200 => (some (bt200.1, t199))) = some (r1, r2) := H
  have A4 := aM A40
  clear A40
  replace H := Option.bind_eq_some_iff.mp H
  obtain ⟨⟨t200, t201⟩, A50, H⟩ := H
  replace H : (some (t200, t199)) = some (r1, r2) := H
  have A5 := aM A50
  clear A50
  simp only [Option.some.injEq, Prod.mk.injEq] at H
  obtain ⟨rfl, rfl⟩ := H
  (try simp only [c3b0, c3b1])
  go_wp2_with (first | ((with_reducible refine gate_callee (f := 32) rfl ?_); refine gL_ (some 6) Tryz.func32 #[.pointer (some ⟨g, 0, none⟩), .int .i64 5] ?_; (with_reducible refine (spec_l1Next.calls g s0_0 s0_1 5 t194 t195 w0 _ ?side1 ?side2 A2.out).mono ?_); (case side1 => exact z2 HI0.out); (case side2 => exact z1 HI0.out); rintro e w6 ⟨rfl, hi, hb, hk⟩; refine ⟨_, rfl, ?_⟩; replace HK := aM (KeepBut.trans z3 hk (.inl rfl)); replace HB := aM (hb); replace HI0 := aM (hi); (try clear hi)) | ((with_reducible refine gate_callee (f := 51) rfl ?_); refine gL_ (some 11) Tryz.func51 #[.pointer (some ⟨g, 0, none⟩)] ?_; (with_reducible refine (spec_l2Codes.calls k g s0_0 t195 t196 t199 w0 _ ?side1 ?side2 A4.out).mono ?_); (case side1 => exact z2 HI0.out); (case side2 => exact z1 HI0.out); rintro e w7 ⟨v197, rfl, ho0, hi, hb, hk⟩; refine ⟨_, rfl, ?_⟩; have HO198 := aM (Kd.R_lower ho0 (keep_size (w := w) (g := g) (row := none) z3)); replace HK := aM (KeepBut.trans z3 hk (.inl rfl)); replace HB := aM (hb); replace HI0 := aM (hi); (try clear ho0); obtain ⟨Ao8, co8, eo8⟩ := Kd.R_slice HO198.out; subst eo8) | ((with_reducible refine gate_callee (f := 44) rfl ?_); refine gL_ (some 12) Tryz.func44 #[.slice Ao8 t196.length co8] ?_; (with_reducible refine (spec_l4Encode.calls k _ _ t196 t200 t201 _ ?side1 ?side2 A5.out).mono ?_); (case side1 => exact z4 HO198.out); (case side2 => exact (Kd.R_reads' HO198.out).2.1); rintro e w9 ⟨rfl, hb⟩; refine ⟨_, rfl, ?_⟩; replace HO198 := aM (Kd.R_below (bR HO198) hb); replace HK := aM (KeepBut.trans z3 (KeepBut.of_below hb g none) (.inl rfl)); replace HB := aM (below_step (z1 HI0.out) hb); replace HI0 := aM (IsS73.below (z2 HI0.out) hb); (try clear hi)))
  go_ret
  exact ⟨bE, z2 HI0.out, z1 HI0.out, z3⟩
 rw [if_neg c3] at H
 have c3b0 : (t194 == 0) = false := beq_eq_false_iff_ne.mpr c3
 have c3b1 : (t194 != 0) = true := bne_iff_ne.mpr c3
 (try simp only [c3b0, c3b1])
 by_cases c10 : t194 = 1
 ·rw [if_pos c10] at H
  have c10b0 : (t194 == 1) = true := beq_iff_eq.mpr c10
  have c10b1 : (t194 != 1) = false := bne_eq_false_iff_eq.mpr c10
  clear c10
  obtain ⟨y202, hy202⟩ : ∃ y_ : List ByteArray, y_ = (([(⟨#[61, 63, 117, 116, 102, 45, 56, 63, 81, 63, 97, 61, 67, 51, 61, 65, 52, 95, 98, 63, 61]⟩ : ByteArray), (⟨#[61, 63, 105, 115, 111, 45, 56, 56, 53, 57, 45, 53, 63, 113, 63, 61, 68, 54, 63, 61, 32, 61, 63, 117, 115, 45, 97, 115, 99, 105, 105, 63, 66, 63, 89, 81, 61, 61, 63, 61]⟩ : ByteArray), (⟨#[120, 32, 61, 63, 98, 97, 100, 63, 81, 63, 97, 63, 61, 32, 121]⟩ : ByteArray), (⟨#[61, 63, 117, 116, 102, 45, 56, 63, 66, 63, 89, 81, 63, 61]⟩ : ByteArray), (⟨#[97, 32, 228, 32, 98]⟩ : ByteArray), (⟨#[61, 63, 117, 116, 102, 45, 56, 63, 81, 63, 97, 63, 61, 32, 98, 32, 61, 63, 117, 116, 102, 45, 56, 63, 81, 63, 99, 63, 61]⟩ : ByteArray)] : List ByteArray)) := ⟨_, rfl⟩
  replace H : ((spec_l1Next.f s0_0 t195 6).bind fun bt205 => (if 0 ≤ bt205.1 then (if bt205.1 < (y202.length : Int) then (some (rdOf ByteArray.empty y202 bt205.1, bt205.2)) else (none)) else (none))) = some (r1, r2) := z0 hy202
  have Ny202 := aM hy202
  clear hy202
  replace H := Option.bind_eq_some_iff.mp H
  obtain ⟨⟨t205, t206⟩, A110, H⟩ := H
  replace H : (if 0 ≤ t205 then (if t205 < (y202.length : Int) then (some (rdOf ByteArray.empty y202 t205, t206)) else (none)) else (none)) = some (r1, r2) := H
  have A11 := aM A110
  clear A110
  (try simp only [c10b0, c10b1])
  by_cases c12 : 0 ≤ t205
  ·rw [if_pos c12] at H
   have c12b0 : decide (0 ≤ t205) = true := decide_eq_true c12
   clear c12
   by_cases c13 : t205 < (y202.length : Int)
   ·rw [if_pos c13] at H
    have c13b0 : decide (t205 < (y202.length : Int)) = true := decide_eq_true c13
    clear c13
    simp only [Option.some.injEq, Prod.mk.injEq] at H
    obtain ⟨rfl, rfl⟩ := H
    go_wp2_with (first | ((with_reducible refine gate_callee (f := 32) rfl ?_); refine gL_ (some 6) Tryz.func32 #[.pointer (some ⟨g, 0, none⟩), .int .i64 5] ?_; (with_reducible refine (spec_l1Next.calls g s0_0 s0_1 5 t194 t195 w0 _ ?side1 ?side2 A2.out).mono ?_); (case side1 => exact z2 HI0.out); (case side2 => exact z1 HI0.out); rintro e w14 ⟨rfl, hi, hb, hk⟩; refine ⟨_, rfl, ?_⟩; replace HK := aM (KeepBut.trans z3 hk (.inl rfl)); replace HB := aM (hb); replace HI0 := aM (hi); (try clear hi)) | ((with_reducible refine gate_dst (N := 18) rfl ?_); refine Kd.R_lit Kd.string _ 9 ?hg (N := 18) ?hd (xs := ([(⟨#[61, 63, 117, 116, 102, 45, 56, 63, 81, 63, 97, 61, 67, 51, 61, 65, 52, 95, 98, 63, 61]⟩ : ByteArray), (⟨#[61, 63, 105, 115, 111, 45, 56, 56, 53, 57, 45, 53, 63, 113, 63, 61, 68, 54, 63, 61, 32, 61, 63, 117, 115, 45, 97, 115, 99, 105, 105, 63, 66, 63, 89, 81, 61, 61, 63, 61]⟩ : ByteArray), (⟨#[120, 32, 61, 63, 98, 97, 100, 63, 81, 63, 97, 63, 61, 32, 121]⟩ : ByteArray), (⟨#[61, 63, 117, 116, 102, 45, 56, 63, 66, 63, 89, 81, 63, 61]⟩ : ByteArray), (⟨#[97, 32, 228, 32, 98]⟩ : ByteArray), (⟨#[61, 63, 117, 116, 102, 45, 56, 63, 81, 63, 97, 63, 61, 32, 98, 32, 61, 63, 117, 116, 102, 45, 56, 63, 81, 63, 99, 63, 61]⟩ : ByteArray)] : List ByteArray)) (inner := [.string (⟨#[61, 63, 117, 116, 102, 45, 56, 63, 81, 63, 97, 61, 67, 51, 61, 65, 52, 95, 98, 63, 61]⟩ : ByteArray), .string (⟨#[61, 63, 105, 115, 111, 45, 56, 56, 53, 57, 45, 53, 63, 113, 63, 61, 68, 54, 63, 61, 32, 61, 63, 117, 115, 45, 97, 115, 99, 105, 105, 63, 66, 63, 89, 81, 61, 61, 63, 61]⟩ : ByteArray), .string (⟨#[120, 32, 61, 63, 98, 97, 100, 63, 81, 63, 97, 63, 61, 32, 121]⟩ : ByteArray), .string (⟨#[61, 63, 117, 116, 102, 45, 56, 63, 66, 63, 89, 81, 63, 61]⟩ : ByteArray), .string (⟨#[97, 32, 228, 32, 98]⟩ : ByteArray), .string (⟨#[61, 63, 117, 116, 102, 45, 56, 63, 81, 63, 97, 63, 61, 32, 98, 32, 61, 63, 117, 116, 102, 45, 56, 63, 81, 63, 99, 63, 61]⟩ : ByteArray)]) (ok := fun _ => True) (okp := fun _ => True) ?hr ?hp (fun _ hk => hk) trivial (Below.refl _ _) (Nat.le_refl _) (by simp) ?_; (case hd => rfl); (case hg => rfl); (case hr => exact z10); (case hp => exact (Reps.one (show Kd.M Kd.string _ _ _ (⟨#[61, 63, 117, 116, 102, 45, 56, 63, 81, 63, 97, 61, 67, 51, 61, 65, 52, 95, 98, 63, 61]⟩ : ByteArray) [.string (⟨#[61, 63, 117, 116, 102, 45, 56, 63, 81, 63, 97, 61, 67, 51, 61, 65, 52, 95, 98, 63, 61]⟩ : ByteArray)] from rfl) (Reps.one (show Kd.M Kd.string _ _ _ (⟨#[61, 63, 105, 115, 111, 45, 56, 56, 53, 57, 45, 53, 63, 113, 63, 61, 68, 54, 63, 61, 32, 61, 63, 117, 115, 45, 97, 115, 99, 105, 105, 63, 66, 63, 89, 81, 61, 61, 63, 61]⟩ : ByteArray) [.string (⟨#[61, 63, 105, 115, 111, 45, 56, 56, 53, 57, 45, 53, 63, 113, 63, 61, 68, 54, 63, 61, 32, 61, 63, 117, 115, 45, 97, 115, 99, 105, 105, 63, 66, 63, 89, 81, 61, 61, 63, 61]⟩ : ByteArray)] from rfl) (Reps.one (show Kd.M Kd.string _ _ _ (⟨#[120, 32, 61, 63, 98, 97, 100, 63, 81, 63, 97, 63, 61, 32, 121]⟩ : ByteArray) [.string (⟨#[120, 32, 61, 63, 98, 97, 100, 63, 81, 63, 97, 63, 61, 32, 121]⟩ : ByteArray)] from rfl) (Reps.one (show Kd.M Kd.string _ _ _ (⟨#[61, 63, 117, 116, 102, 45, 56, 63, 66, 63, 89, 81, 63, 61]⟩ : ByteArray) [.string (⟨#[61, 63, 117, 116, 102, 45, 56, 63, 66, 63, 89, 81, 63, 61]⟩ : ByteArray)] from rfl) (Reps.one (show Kd.M Kd.string _ _ _ (⟨#[97, 32, 228, 32, 98]⟩ : ByteArray) [.string (⟨#[97, 32, 228, 32, 98]⟩ : ByteArray)] from rfl) (Reps.one (show Kd.M Kd.string _ _ _ (⟨#[61, 63, 117, 116, 102, 45, 56, 63, 81, 63, 97, 63, 61, 32, 98, 32, 61, 63, 117, 116, 102, 45, 56, 63, 81, 63, 99, 63, 61]⟩ : ByteArray) [.string (⟨#[61, 63, 117, 116, 102, 45, 56, 63, 81, 63, 97, 63, 61, 32, 98, 32, 61, 63, 117, 116, 102, 45, 56, 63, 81, 63, 99, 63, 61]⟩ : ByteArray)] from rfl) (Reps.none _ _)))))))); intro v203 w15 ho16 hb hg_ hnew_; clear hg_ hnew_; (first | rw [← Ny202.out] at ho16 | (simp only [Int.reduceToNat] at ho16; rw [← Ny202.out] at ho16)); have HO204 := aM (Kd.R_lower ho16 (keep_size (w := w) (g := g) (row := none) z3)); replace HK := aM (KeepBut.trans z3 (KeepBut.of_below hb g none) (.inl rfl)); replace HB := aM (below_step (z1 HI0.out) hb); replace HI0 := aM (IsS73.below (z2 HI0.out) hb); clear hb ho16) | ((with_reducible refine gate_callee (f := 32) rfl ?_); refine gL_ (some 20) Tryz.func32 #[.pointer (some ⟨g, 0, none⟩), .int .i64 6] ?_; (with_reducible refine (spec_l1Next.calls g s0_0 t195 6 t205 t206 w0 _ ?side1 ?side2 A11.out).mono ?_); (case side1 => exact z2 HI0.out); (case side2 => exact z1 HI0.out); rintro e w17 ⟨rfl, hi, hb, hk⟩; refine ⟨_, rfl, ?_⟩; replace HO204 := aM (Kd.R_mono (Kd.R_keep (IsS73.apart (show IsS73 w0 _ g s0_0 t195 from z2 HI0.out) (bR HO204) (by decide)) hk (fun _ h => h.2)) (fun _ h => h.1)); replace HK := aM (KeepBut.trans z3 hk (.inl rfl)); replace HB := aM (hb); replace HI0 := aM (hi); obtain ⟨Ao18, co18, eo18⟩ := Kd.R_slice HO204.out; subst eo18; have p207 : 0 ≤ (t205 : Int) := pI; have q207 : t205 < (y202.length : Int) := pI; obtain ⟨ad207, e207, hx207_0⟩ := Kd.at_string (Kd.R_reads' HO204.out).2.2 t205 p207 q207; cases e207; replace p207 := eq_true p207; replace q207 := eq_true q207))
    go_ret
    exact ⟨bE, z2 HI0.out, z1 HI0.out, z3⟩
   rw [if_neg c13] at H
   exact absurd H (by simp)
  rw [if_neg c12] at H
  exact absurd H (by simp)
 rw [if_neg c10] at H
 have c10b0 : (t194 == 1) = false := beq_eq_false_iff_ne.mpr c10
 have c10b1 : (t194 != 1) = true := bne_iff_ne.mpr c10
 obtain ⟨y208, hy208⟩ : ∃ y_ : List ByteArray, y_ = (([(⟨#[]⟩ : ByteArray), (⟨#[104, 101, 108, 108, 111]⟩ : ByteArray), (⟨#[97, 58, 32, 98]⟩ : ByteArray), (⟨#[32, 120]⟩ : ByteArray), (⟨#[116, 101, 120, 116, 47, 112, 108, 97, 105, 110, 59, 32, 99, 104, 97, 114, 115, 101, 116, 61, 117, 116, 102, 45, 56]⟩ : ByteArray), (⟨#[98, 97, 115, 101, 54, 52]⟩ : ByteArray)] : List ByteArray)) := ⟨_, rfl⟩
 replace H : ((spec_l1Next.f s0_0 t195 6).bind fun bt211 => (if 0 ≤ bt211.1 then (if bt211.1 < (y208.length : Int) then (some (rdOf ByteArray.empty y208 bt211.1, bt211.2)) else (none)) else (none))) = some (r1, r2) := z0 hy208
 have Ny208 := aM hy208
 clear hy208
 replace H := Option.bind_eq_some_iff.mp H
 obtain ⟨⟨t211, t212⟩, A190, H⟩ := H
 replace H : (if 0 ≤ t211 then (if t211 < (y208.length : Int) then (some (rdOf ByteArray.empty y208 t211, t212)) else (none)) else (none)) = some (r1, r2) := H
 have A19 := aM A190
 clear A190
 (try simp only [c10b0, c10b1])
 by_cases c20 : 0 ≤ t211
 ·rw [if_pos c20] at H
  have c20b0 : decide (0 ≤ t211) = true := decide_eq_true c20
  clear c20
  by_cases c21 : t211 < (y208.length : Int)
  ·rw [if_pos c21] at H
   have c21b0 : decide (t211 < (y208.length : Int)) = true := decide_eq_true c21
   clear c21
   simp only [Option.some.injEq, Prod.mk.injEq] at H
   obtain ⟨rfl, rfl⟩ := H
   go_wp2_with (first | ((with_reducible refine gate_callee (f := 32) rfl ?_); refine gL_ (some 6) Tryz.func32 #[.pointer (some ⟨g, 0, none⟩), .int .i64 5] ?_; (with_reducible refine (spec_l1Next.calls g s0_0 s0_1 5 t194 t195 w0 _ ?side1 ?side2 A2.out).mono ?_); (case side1 => exact z2 HI0.out); (case side2 => exact z1 HI0.out); rintro e w22 ⟨rfl, hi, hb, hk⟩; refine ⟨_, rfl, ?_⟩; replace HK := aM (KeepBut.trans z3 hk (.inl rfl)); replace HB := aM (hb); replace HI0 := aM (hi); (try clear hi)) | ((with_reducible refine gate_dst (N := 23) rfl ?_); refine Kd.R_lit Kd.string _ 9 ?hg (N := 23) ?hd (xs := ([(⟨#[]⟩ : ByteArray), (⟨#[104, 101, 108, 108, 111]⟩ : ByteArray), (⟨#[97, 58, 32, 98]⟩ : ByteArray), (⟨#[32, 120]⟩ : ByteArray), (⟨#[116, 101, 120, 116, 47, 112, 108, 97, 105, 110, 59, 32, 99, 104, 97, 114, 115, 101, 116, 61, 117, 116, 102, 45, 56]⟩ : ByteArray), (⟨#[98, 97, 115, 101, 54, 52]⟩ : ByteArray)] : List ByteArray)) (inner := [.string (⟨#[]⟩ : ByteArray), .string (⟨#[104, 101, 108, 108, 111]⟩ : ByteArray), .string (⟨#[97, 58, 32, 98]⟩ : ByteArray), .string (⟨#[32, 120]⟩ : ByteArray), .string (⟨#[116, 101, 120, 116, 47, 112, 108, 97, 105, 110, 59, 32, 99, 104, 97, 114, 115, 101, 116, 61, 117, 116, 102, 45, 56]⟩ : ByteArray), .string (⟨#[98, 97, 115, 101, 54, 52]⟩ : ByteArray)]) (ok := fun _ => True) (okp := fun _ => True) ?hr ?hp (fun _ hk => hk) trivial (Below.refl _ _) (Nat.le_refl _) (by simp) ?_; (case hd => rfl); (case hg => rfl); (case hr => exact z10); (case hp => exact (Reps.one (show Kd.M Kd.string _ _ _ (⟨#[]⟩ : ByteArray) [.string (⟨#[]⟩ : ByteArray)] from rfl) (Reps.one (show Kd.M Kd.string _ _ _ (⟨#[104, 101, 108, 108, 111]⟩ : ByteArray) [.string (⟨#[104, 101, 108, 108, 111]⟩ : ByteArray)] from rfl) (Reps.one (show Kd.M Kd.string _ _ _ (⟨#[97, 58, 32, 98]⟩ : ByteArray) [.string (⟨#[97, 58, 32, 98]⟩ : ByteArray)] from rfl) (Reps.one (show Kd.M Kd.string _ _ _ (⟨#[32, 120]⟩ : ByteArray) [.string (⟨#[32, 120]⟩ : ByteArray)] from rfl) (Reps.one (show Kd.M Kd.string _ _ _ (⟨#[116, 101, 120, 116, 47, 112, 108, 97, 105, 110, 59, 32, 99, 104, 97, 114, 115, 101, 116, 61, 117, 116, 102, 45, 56]⟩ : ByteArray) [.string (⟨#[116, 101, 120, 116, 47, 112, 108, 97, 105, 110, 59, 32, 99, 104, 97, 114, 115, 101, 116, 61, 117, 116, 102, 45, 56]⟩ : ByteArray)] from rfl) (Reps.one (show Kd.M Kd.string _ _ _ (⟨#[98, 97, 115, 101, 54, 52]⟩ : ByteArray) [.string (⟨#[98, 97, 115, 101, 54, 52]⟩ : ByteArray)] from rfl) (Reps.none _ _)))))))); intro v209 w23 ho24 hb hg_ hnew_; clear hg_ hnew_; (first | rw [← Ny208.out] at ho24 | (simp only [Int.reduceToNat] at ho24; rw [← Ny208.out] at ho24)); have HO210 := aM (Kd.R_lower ho24 (keep_size (w := w) (g := g) (row := none) z3)); replace HK := aM (KeepBut.trans z3 (KeepBut.of_below hb g none) (.inl rfl)); replace HB := aM (below_step (z1 HI0.out) hb); replace HI0 := aM (IsS73.below (z2 HI0.out) hb); clear hb ho24) | ((with_reducible refine gate_callee (f := 32) rfl ?_); refine gL_ (some 25) Tryz.func32 #[.pointer (some ⟨g, 0, none⟩), .int .i64 6] ?_; (with_reducible refine (spec_l1Next.calls g s0_0 t195 6 t211 t212 w0 _ ?side1 ?side2 A19.out).mono ?_); (case side1 => exact z2 HI0.out); (case side2 => exact z1 HI0.out); rintro e w25 ⟨rfl, hi, hb, hk⟩; refine ⟨_, rfl, ?_⟩; replace HO210 := aM (Kd.R_mono (Kd.R_keep (IsS73.apart (show IsS73 w0 _ g s0_0 t195 from z2 HI0.out) (bR HO210) (by decide)) hk (fun _ h => h.2)) (fun _ h => h.1)); replace HK := aM (KeepBut.trans z3 hk (.inl rfl)); replace HB := aM (hb); replace HI0 := aM (hi); obtain ⟨Ao26, co26, eo26⟩ := Kd.R_slice HO210.out; subst eo26; have p213 : 0 ≤ (t211 : Int) := pI; have q213 : t211 < (y208.length : Int) := pI; obtain ⟨ad213, e213, hx213_0⟩ := Kd.at_string (Kd.R_reads' HO210.out).2.2 t211 p213 q213; cases e213; replace p213 := eq_true p213; replace q213 := eq_true q213))
   go_ret
   exact ⟨bE, z2 HI0.out, z1 HI0.out, z3⟩
  rw [if_neg c21] at H
  exact absurd H (by simp)
 rw [if_neg c20] at H
 exact absurd H (by simp)
def spec_l1Chance.f (s0_0 : List Int) (s0_1 : Int) (a1 : Int) : Option (Bool × Int) := (spec_l1Next.f s0_0 s0_1 a1).bind fun bt214 => (some ((bt214.1 == 0), bt214.2))
set_option maxHeartbeats 8000000 in
set_option maxRecDepth 100000 in
theorem spec_l1Chance.calls (g : Nat) (s0_0 : List Int) (s0_1 : Int) (a1 : Int) (r1 : Bool) (r2 : Int) (w0 w : World) (hI : IsS73 w0 w g s0_0 s0_1) (hB : Below w0.heap.size w0 w) (h : spec_l1Chance.f s0_0 s0_1 a1 = some (r1, r2)) :
  Calls Tryz.prog 31 #[.pointer (some ⟨g, 0, none⟩), .int .i64 a1] w fun e w' => e = .returned (.bool r1) ∧ IsS73 w0 w' g s0_0 r2 ∧ Below w0.heap.size w0 w' ∧ KeepBut w w' g none := by
 have HI0 := aM hI
 have HK := aM (KeepBut.refl w g none)
 have HL := aM hB.size
 clear hI
 have HW0 := aM hB.size
 have HB := aM hB
 clear hB
 have H : ((spec_l1Next.f s0_0 s0_1 a1).bind fun bt214 => (some ((bt214.1 == 0), bt214.2))) = some (r1, r2) := h
 clear h
 replace H := Option.bind_eq_some_iff.mp H
 obtain ⟨⟨t214, t215⟩, A30, H⟩ := H
 replace H : (some ((t214 == 0), t215)) = some (r1, r2) := H
 have A3 := aM A30
 clear A30
 simp only [Option.some.injEq, Prod.mk.injEq] at H
 obtain ⟨rfl, rfl⟩ := H
 go_enter Tryz.func31, Tryz.ntmps31
 go_wp2_with (first | ((with_reducible refine gate_callee (f := 32) rfl ?_); refine gL_ (some 7) Tryz.func32 #[.pointer (some ⟨g, 0, none⟩), .int .i64 a1] ?_; (with_reducible refine (spec_l1Next.calls g s0_0 s0_1 a1 t214 t215 w0 _ ?side1 ?side2 A3.out).mono ?_); (case side1 => exact z2 HI0.out); (case side2 => exact z1 HI0.out); rintro e w4 ⟨rfl, hi, hb, hk⟩; refine ⟨_, rfl, ?_⟩; replace HK := aM (KeepBut.trans z3 hk (.inl rfl)); replace HB := aM (hb); replace HI0 := aM (hi); (try clear hi)))
 go_ret
 exact ⟨bE, z2 HI0.out, z1 HI0.out, z3⟩
end Go.Proofs.YtjopgmjmjnfcjaaGreatDoor.PWords
