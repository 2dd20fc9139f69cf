/- Part of the proof; words that it uses. -/
import Derived.Test.YtjopgmjmjnfcjaaGreatDoorPWordsx0
import Derived.Test.YtjopgmjmjnfcjaaGreatDoorPWordsx4
namespace Go.Proofs.YtjopgmjmjnfcjaaGreatDoor.PWords
open Go.RowKit Go.Proofs.YtjopgmjmjnfcjaaGreatDoorW.PrintWords Go.Proofs.YtjopgmjmjnfcjaaGreatDoorW.PrintLast
set_option linter.unusedVariables false
set_option linter.unusedSimpArgs false
mutual
def impl_encodeChar.j0 : Nat → Int → Int → Bool → Option (List Int)
 | 0, _, _, _ => none
 | k + 1, x0, x1, x16 => if x16 = true then ((impl_encodeChar_1.f (wrap64 (Int.tdiv x1 64))).bind fun t295 => ((impl_encodeChar_1.f x1).bind fun t296 => (some (([(wrap64 (224 + (wrap64 (Int.tdiv x1 4096)))) % 256, t295, t296] : List Int))))) else (if x0 = 4 then (impl_encodeChar.j1 k x0 x1 (decide (x1 ≥ 128))) else (impl_encodeChar.j1 k x0 x1 false))
def impl_encodeChar.j1 : Nat → Int → Int → Bool → Option (List Int)
 | 0, _, _, _ => none
 | k + 1, x0, x1, x35 => if x35 = true then ((impl_encodeChar_1.f x1).bind fun t300 => (some (([(wrap64 (192 + (wrap64 (Int.tdiv x1 64)))) % 256, t300] : List Int)))) else (if x0 = 3 then (if x1 ≤ 160 then (impl_encodeChar.j2 k x1 true) else (impl_encodeChar.j2 k x1 (x1 == 173))) else (impl_encodeChar.j2 k x1 true))
def impl_encodeChar.j2 : Nat → Int → Bool → Option (List Int)
 | 0, _, _ => none
 | k + 1, x1, x50 => if x50 = true then (some (([(x1) % 256] : List Int))) else (if x1 = 167 then (some (([253] : List Int))) else (if x1 = 8470 then (some (([240] : List Int))) else (some (([(wrap64 (x1 - 864)) % 256] : List Int)))))
end
def impl_encodeChar.f (k : Nat) (a0 : Int) (a1 : Int) : Option (List Int) := if a0 = 5 then (some (([(wrap64 (Int.tdiv a1 256)) % 256, (Int.tmod a1 256) % 256] : List Int))) else (if a0 = 4 then (impl_encodeChar.j0 k a0 a1 (decide (a1 ≥ 2048))) else (impl_encodeChar.j0 k a0 a1 false))
set_option maxHeartbeats 8000000 in
set_option maxRecDepth 100000 in
theorem impl_encodeChar.calls (k : Nat) (a0 : Int) (a1 : Int) (r : List Int) (w : World) (h : impl_encodeChar.f k a0 a1 = some r) :
  Calls Tryz.prog 60 #[.int .i64 a0, .int .i64 a1] w fun e w' => ∃ v0_ : Value, e = .returned (v0_) ∧ Kd.R (Kd.int .u8) 5 w' w.heap.size (fun _ => True) v0_ r ∧ Below w.heap.size w w' := by
 have HB := aM (Below.refl w.heap.size w)
 have H : (if a0 = 5 then (some (([(wrap64 (Int.tdiv a1 256)) % 256, (Int.tmod a1 256) % 256] : List Int))) else (if a0 = 4 then (impl_encodeChar.j0 k a0 a1 (decide (a1 ≥ 2048))) else (impl_encodeChar.j0 k a0 a1 false))) = some r := h
 clear h
 have HQ_ := aM H
 clear H
 go_enter Tryz.func60, Tryz.ntmps60
 have H := HQ_.out
 clear HQ_
 by_cases c3 : a0 = 5
 ·rw [if_pos c3] at H
  have c3b0 : (a0 == 5) = true := beq_iff_eq.mpr c3
  have c3b1 : (a0 != 5) = false := bne_eq_false_iff_eq.mpr c3
  clear c3
  obtain ⟨y292, hy292⟩ : ∃ y_ : List Int, y_ = (([(wrap64 (Int.tdiv a1 256)) % 256, (Int.tmod a1 256) % 256] : List Int)) := ⟨_, rfl⟩
  replace H : (some y292) = some r := z0 hy292
  have Ny292 := aM hy292
  clear hy292
  obtain rfl := Option.some.inj H
  (try simp only [c3b0, c3b1])
  go_wp2_with (first | ((with_reducible refine gate_dst (N := 15) rfl ?_); refine Kd.R_lit (Kd.int .u8) _ 5 ?hg (N := 15) ?hd (xs := ([(wrap64 (Int.tdiv a1 256)) % 256, (Int.tmod a1 256) % 256] : List Int)) (inner := [.int .u8 ((wrap64 (Int.tdiv a1 256)) % 256), .int .u8 ((Int.tmod a1 256) % 256)]) (ok := fun _ => True) (okp := fun _ => True) ?hr ?hp (fun _ hk => hk) trivial (Below.refl _ _) (Nat.le_refl _) (by simp) ?_; (case hd => rfl); (case hg => rfl); (case hr => exact z10); (case hp => exact (Reps.one (show Kd.M (Kd.int .u8) _ _ _ ((wrap64 (Int.tdiv a1 256)) % 256) [.int .u8 ((wrap64 (Int.tdiv a1 256)) % 256)] from rfl) (Reps.one (show Kd.M (Kd.int .u8) _ _ _ ((Int.tmod a1 256) % 256) [.int .u8 ((Int.tmod a1 256) % 256)] from rfl) (Reps.none _ _)))); intro v293 w4 ho5 hb hg_ hnew_; clear hg_ hnew_; (first | rw [← Ny292.out] at ho5 | (simp only [Int.reduceToNat] at ho5; rw [← Ny292.out] at ho5)); have HO294 := aM (Kd.R_lower ho5 (below_size bB)); replace HB := aM (below_step bB hb); clear hb ho5))
  go_ret
  exact ⟨_, bE, bR HO294, bB⟩
 rw [if_neg c3] at H
 have c3b0 : (a0 == 5) = false := beq_eq_false_iff_ne.mpr c3
 have c3b1 : (a0 != 5) = true := bne_iff_ne.mpr c3
 have HC6 := aM H
 clear H
 (try simp only [c3b0, c3b1])
 go_upto_region 4 with (fail)
 go_cut [16] (fun v16 wc => ∃ (kq : Nat) (x16_5 : Bool), v16 = .bool x16_5 ∧ Aside0 (impl_encodeChar.j0 kq a0 a1 x16_5 = some r) ∧ Aside0 (kq ≤ k) ∧ Aside0 (Below w.heap.size w wc))
 case first =>
  have H := HC6.out
  clear HC6
  by_cases c7 : a0 = 4
  ·rw [if_pos c7] at H
   have c7b0 : (a0 == 4) = true := beq_iff_eq.mpr c7
   have c7b1 : (a0 != 4) = false := bne_eq_false_iff_eq.mpr c7
   clear c7
   (first | rw [c7b0] | (simp only [i64_w, i32_w]; rw [c7b0]) | skip)
   have H' := aM H
   clear H
   go_wp2
   go_meet
   case rel => exact ⟨_, (decide (a1 ≥ 2048)), bS, H', ⟨z34⟩, ⟨bB⟩⟩
  rw [if_neg c7] at H
  have c7b0 : (a0 == 4) = false := beq_eq_false_iff_ne.mpr c7
  have c7b1 : (a0 != 4) = true := bne_iff_ne.mpr c7
  (first | rw [c7b0] | (simp only [i64_w, i32_w]; rw [c7b0]) | skip)
  have H' := aM H
  clear H
  go_wp2
  go_meet
  case rel => exact ⟨_, (false), bS, H', ⟨z34⟩, ⟨bB⟩⟩
 case rest =>
  clear HC6
  try clear p2
  try clear c3
  try clear c3b0
  try clear c3b1
  try clear c6
  try clear p6
  try clear c7
  try clear c7b0
  try clear c7b1
  obtain ⟨kq, x16_5, rfl, HA, HJ5, HB⟩ := hcut
  cases kq with
  | zero => exact absurd HA.out (by simp [impl_encodeChar.j0])
  | succ kj5 =>
   have H := HA.out
   clear HA
   simp only [impl_encodeChar.j0] at H
   by_cases c8 : x16_5 = true
   ·subst c8
    have H1 : ((impl_encodeChar_1.f (wrap64 (Int.tdiv a1 64))).bind fun t295 => ((impl_encodeChar_1.f a1).bind fun t296 => (some (([(wrap64 (224 + (wrap64 (Int.tdiv a1 4096)))) % 256, t295, t296] : List Int))))) = some r := z16
    clear H
    have H := H1
    clear H1
    replace H := Option.bind_eq_some_iff.mp H
    obtain ⟨t295, A90, H⟩ := H
    replace H : ((impl_encodeChar_1.f a1).bind fun t296 => (some (([(wrap64 (224 + (wrap64 (Int.tdiv a1 4096)))) % 256, t295, t296] : List Int)))) = some r := H
    have A9 := aM A90
    clear A90
    replace H := Option.bind_eq_some_iff.mp H
    obtain ⟨t296, A100, H⟩ := H
    replace H : (some (([(wrap64 (224 + (wrap64 (Int.tdiv a1 4096)))) % 256, t295, t296] : List Int))) = some r := H
    have A10 := aM A100
    clear A100
    obtain ⟨y297, hy297⟩ : ∃ y_ : List Int, y_ = (([(wrap64 (224 + (wrap64 (Int.tdiv a1 4096)))) % 256, t295, t296] : List Int)) := ⟨_, rfl⟩
    replace H : (some y297) = some r := z0 hy297
    have Ny297 := aM hy297
    clear hy297
    obtain rfl := Option.some.inj H
    go_wp2_with (first | ((with_reducible refine gate_calleeT (c := .tmp 27) rfl ?_); refine goesLT_ (c := .tmp 27) (some 30) rfl rfl rfl Tryz.func94 (by kernel_rfl) rfl #[.int .i64 (wrap64 (Int.tdiv a1 64))] rfl bM ?_; (with_reducible refine (impl_encodeChar_1.calls (wrap64 (Int.tdiv a1 64)) t295 _ A9.out).mono ?_); rintro e w' ⟨rfl, ⟨nd, rfl⟩⟩; refine ⟨_, rfl, ?_⟩) | ((with_reducible refine gate_calleeT (c := .tmp 31) rfl ?_); refine goesLT_ (c := .tmp 31) (some 33) rfl rfl rfl Tryz.func94 (by kernel_rfl) rfl #[.int .i64 a1] rfl bM ?_; (with_reducible refine (impl_encodeChar_1.calls a1 t296 _ A10.out).mono ?_); rintro e w' ⟨rfl, ⟨nd, rfl⟩⟩; refine ⟨_, rfl, ?_⟩) | ((with_reducible refine gate_dst (N := 34) rfl ?_); refine Kd.R_lit (Kd.int .u8) _ 5 ?hg (N := 34) ?hd (xs := ([(wrap64 (224 + (wrap64 (Int.tdiv a1 4096)))) % 256, t295, t296] : List Int)) (inner := [.int .u8 ((wrap64 (224 + (wrap64 (Int.tdiv a1 4096)))) % 256), .int .u8 t295, .int .u8 t296]) (ok := fun _ => True) (okp := fun _ => True) ?hr ?hp (fun _ hk => hk) trivial (Below.refl _ _) (Nat.le_refl _) (by simp) ?_; (case hd => rfl); (case hg => rfl); (case hr => exact z10); (case hp => exact (Reps.one (show Kd.M (Kd.int .u8) _ _ _ ((wrap64 (224 + (wrap64 (Int.tdiv a1 4096)))) % 256) [.int .u8 ((wrap64 (224 + (wrap64 (Int.tdiv a1 4096)))) % 256)] from rfl) (Reps.one (show Kd.M (Kd.int .u8) _ _ _ t295 [.int .u8 t295] from rfl) (Reps.one (show Kd.M (Kd.int .u8) _ _ _ t296 [.int .u8 t296] from rfl) (Reps.none _ _))))); intro v298 w11 ho12 hb hg_ hnew_; clear hg_ hnew_; (first | rw [← Ny297.out] at ho12 | (simp only [Int.reduceToNat] at ho12; rw [← Ny297.out] at ho12)); have HO299 := aM (Kd.R_lower ho12 (below_size bB)); replace HB := aM (below_step bB hb); clear hb ho12))
    go_ret
    exact ⟨_, bE, bR HO299, bB⟩
   replace c8 := Bool.eq_false_iff.mpr c8
   subst c8
   have H1 : (if a0 = 4 then (impl_encodeChar.j1 kj5 a0 a1 (decide (a1 ≥ 128))) else (impl_encodeChar.j1 kj5 a0 a1 false)) = some r := z7
   clear H
   have H := H1
   clear H1
   have HC13 := aM H
   clear H
   go_upto_region 6 with (fail)
   go_cut [35] (fun v35 wc => ∃ (kq : Nat) (x35_12 : Bool), v35 = .bool x35_12 ∧ Aside0 (impl_encodeChar.j1 kq a0 a1 x35_12 = some r) ∧ Aside0 (kq ≤ kj5) ∧ Aside0 (Below w.heap.size w wc))
   case first =>
    have H := HC13.out
    clear HC13
    by_cases c14 : a0 = 4
    ·rw [if_pos c14] at H
     have c14b0 : (a0 == 4) = true := beq_iff_eq.mpr c14
     have c14b1 : (a0 != 4) = false := bne_eq_false_iff_eq.mpr c14
     clear c14
     (first | rw [c14b0] | (simp only [i64_w, i32_w]; rw [c14b0]) | skip)
     have H' := aM H
     clear H
     go_wp2
     go_meet
     case rel => exact ⟨_, (decide (a1 ≥ 128)), bS, H', ⟨z31 HJ5.out⟩, ⟨bB⟩⟩
    rw [if_neg c14] at H
    have c14b0 : (a0 == 4) = false := beq_eq_false_iff_ne.mpr c14
    have c14b1 : (a0 != 4) = true := bne_iff_ne.mpr c14
    (first | rw [c14b0] | (simp only [i64_w, i32_w]; rw [c14b0]) | skip)
    have H' := aM H
    clear H
    go_wp2
    go_meet
    case rel => exact ⟨_, (false), bS, H', ⟨z31 HJ5.out⟩, ⟨bB⟩⟩
   case rest =>
    clear HC13
    try clear c1
    try clear p2
    try clear c3
    try clear c3b0
    try clear c3b1
    try clear c6
    try clear p6
    try clear c7
    try clear c7b0
    try clear c7b1
    try clear c8
    try clear c9
    try clear c14
    try clear c14b0
    try clear c14b1
    try clear p2
    try clear p6
    obtain ⟨kq, x35_12, rfl, HA, HJ12, HB⟩ := hcut
    cases kq with
    | zero => exact absurd HA.out (by simp [impl_encodeChar.j1])
    | succ kj12 =>
     have H := HA.out
     clear HA
     simp only [impl_encodeChar.j1] at H
     by_cases c15 : x35_12 = true
     ·subst c15
      have H1 : ((impl_encodeChar_1.f a1).bind fun t300 => (some (([(wrap64 (192 + (wrap64 (Int.tdiv a1 64)))) % 256, t300] : List Int)))) = some r := z16
      clear H
      have H := H1
      clear H1
      replace H := Option.bind_eq_some_iff.mp H
      obtain ⟨t300, A160, H⟩ := H
      replace H : (some (([(wrap64 (192 + (wrap64 (Int.tdiv a1 64)))) % 256, t300] : List Int))) = some r := H
      have A16 := aM A160
      clear A160
      obtain ⟨y301, hy301⟩ : ∃ y_ : List Int, y_ = (([(wrap64 (192 + (wrap64 (Int.tdiv a1 64)))) % 256, t300] : List Int)) := ⟨_, rfl⟩
      replace H : (some y301) = some r := z0 hy301
      have Ny301 := aM hy301
      clear hy301
      obtain rfl := Option.some.inj H
      go_wp2_with (first | ((with_reducible refine gate_calleeT (c := .tmp 46) rfl ?_); refine goesLT_ (c := .tmp 46) (some 48) rfl rfl rfl Tryz.func94 (by kernel_rfl) rfl #[.int .i64 a1] rfl bM ?_; (with_reducible refine (impl_encodeChar_1.calls a1 t300 _ A16.out).mono ?_); rintro e w' ⟨rfl, ⟨nd, rfl⟩⟩; refine ⟨_, rfl, ?_⟩) | ((with_reducible refine gate_dst (N := 49) rfl ?_); refine Kd.R_lit (Kd.int .u8) _ 5 ?hg (N := 49) ?hd (xs := ([(wrap64 (192 + (wrap64 (Int.tdiv a1 64)))) % 256, t300] : List Int)) (inner := [.int .u8 ((wrap64 (192 + (wrap64 (Int.tdiv a1 64)))) % 256), .int .u8 t300]) (ok := fun _ => True) (okp := fun _ => True) ?hr ?hp (fun _ hk => hk) trivial (Below.refl _ _) (Nat.le_refl _) (by simp) ?_; (case hd => rfl); (case hg => rfl); (case hr => exact z10); (case hp => exact (Reps.one (show Kd.M (Kd.int .u8) _ _ _ ((wrap64 (192 + (wrap64 (Int.tdiv a1 64)))) % 256) [.int .u8 ((wrap64 (192 + (wrap64 (Int.tdiv a1 64)))) % 256)] from rfl) (Reps.one (show Kd.M (Kd.int .u8) _ _ _ t300 [.int .u8 t300] from rfl) (Reps.none _ _)))); intro v302 w17 ho18 hb hg_ hnew_; clear hg_ hnew_; (first | rw [← Ny301.out] at ho18 | (simp only [Int.reduceToNat] at ho18; rw [← Ny301.out] at ho18)); have HO303 := aM (Kd.R_lower ho18 (below_size bB)); replace HB := aM (below_step bB hb); clear hb ho18))
      go_ret
      exact ⟨_, bE, bR HO303, bB⟩
     replace c15 := Bool.eq_false_iff.mpr c15
     subst c15
     have H1 : (if a0 = 3 then (if a1 ≤ 160 then (impl_encodeChar.j2 kj12 a1 true) else (impl_encodeChar.j2 kj12 a1 (a1 == 173))) else (impl_encodeChar.j2 kj12 a1 true)) = some r := z7
     clear H
     have H := H1
     clear H1
     have HC19 := aM H
     clear H
     go_upto_region 8 with (fail)
     go_cut [50] (fun v50 wc => ∃ (kq : Nat) (x50_18 : Bool), v50 = .bool x50_18 ∧ Aside0 (impl_encodeChar.j2 kq a1 x50_18 = some r) ∧ Aside0 (kq ≤ kj12) ∧ Aside0 (Below w.heap.size w wc))
     case first =>
      have H := HC19.out
      clear HC19
      by_cases c20 : a0 = 3
      ·rw [if_pos c20] at H
       have c20b0 : (a0 == 3) = true := beq_iff_eq.mpr c20
       have c20b1 : (a0 != 3) = false := bne_eq_false_iff_eq.mpr c20
       clear c20
       (first | rw [c20b0] | (simp only [i64_w, i32_w]; rw [c20b0]) | skip)
       by_cases c21 : a1 ≤ 160
       ·rw [if_pos c21] at H
        have c21b0 : decide (a1 ≤ 160) = true := decide_eq_true c21
        clear c21
        have H' := aM H
        clear H
        go_wp2
        go_meet
        case rel => exact ⟨_, (true), bS, H', ⟨z23 HJ5.out HJ12.out⟩, ⟨bB⟩⟩
       rw [if_neg c21] at H
       have c21b0 : decide (a1 ≤ 160) = false := decide_eq_false c21
       clear c21
       have H' := aM H
       clear H
       go_wp2
       go_meet
       case rel => exact ⟨_, ((a1 == 173)), bS, H', ⟨z23 HJ5.out HJ12.out⟩, ⟨bB⟩⟩
      rw [if_neg c20] at H
      have c20b0 : (a0 == 3) = false := beq_eq_false_iff_ne.mpr c20
      have c20b1 : (a0 != 3) = true := bne_iff_ne.mpr c20
      (first | rw [c20b0] | (simp only [i64_w, i32_w]; rw [c20b0]) | skip)
      have H' := aM H
      clear H
      go_wp2
      go_meet
      case rel => exact ⟨_, (true), bS, H', ⟨z23 HJ5.out HJ12.out⟩, ⟨bB⟩⟩
     case rest =>
      clear HC19
      try clear c1
      try clear c2
      try clear p2
      try clear c3
      try clear c3b0
      try clear c3b1
      try clear c6
      try clear p6
      try clear c7
      try clear c7b0
      try clear c7b1
      try clear c8
      try clear c9
      try clear c14
      try clear c14b0
      try clear c14b1
      try clear c15
      try clear c20
      try clear c20b0
      try clear c20b1
      try clear c21
      try clear c21b0
      try clear p2
      try clear p6
      obtain ⟨kq, x50_18, rfl, HA, HJ18, HB⟩ := hcut
      cases kq with
      | zero => exact absurd HA.out (by simp [impl_encodeChar.j2])
      | succ kj18 =>
       have H := HA.out
       clear HA
       simp only [impl_encodeChar.j2] at H
       by_cases c22 : x50_18 = true
       ·subst c22
        have H1 : (some (([(a1) % 256] : List Int))) = some r := z16
        clear H
        have H := H1
        clear H1
        obtain ⟨y304, hy304⟩ : ∃ y_ : List Int, y_ = (([(a1) % 256] : List Int)) := ⟨_, rfl⟩
        replace H : (some y304) = some r := z0 hy304
        have Ny304 := aM hy304
        clear hy304
        obtain rfl := Option.some.inj H
        go_wp2_with (first | ((with_reducible refine gate_dst (N := 63) rfl ?_); refine Kd.R_lit (Kd.int .u8) _ 5 ?hg (N := 63) ?hd (xs := ([(a1) % 256] : List Int)) (inner := [.int .u8 ((a1) % 256)]) (ok := fun _ => True) (okp := fun _ => True) ?hr ?hp (fun _ hk => hk) trivial (Below.refl _ _) (Nat.le_refl _) (by simp) ?_; (case hd => rfl); (case hg => rfl); (case hr => exact z10); (case hp => exact (Reps.one (show Kd.M (Kd.int .u8) _ _ _ ((a1) % 256) [.int .u8 ((a1) % 256)] from rfl) (Reps.none _ _))); intro v305 w23 ho24 hb hg_ hnew_; clear hg_ hnew_; (first | rw [← Ny304.out] at ho24 | (simp only [Int.reduceToNat] at ho24; rw [← Ny304.out] at ho24)); have HO306 := aM (Kd.R_lower ho24 (below_size bB)); replace HB := aM (below_step bB hb); clear hb ho24))
        go_ret
        exact ⟨_, bE, bR HO306, bB⟩
       replace c22 := Bool.eq_false_iff.mpr c22
       subst c22
       have H1 : (if a1 = 167 then (some (([253] : List Int))) else (if a1 = 8470 then (some (([240] : List Int))) else (some (([(wrap64 (a1 - 864)) % 256] : List Int))))) = some r := z7
       clear H
       have H := H1
       clear H1
       by_cases c25 : a1 = 167
       ·rw [if_pos c25] at H
        have c25b0 : (a1 == 167) = true := beq_iff_eq.mpr c25
        have c25b1 : (a1 != 167) = false := bne_eq_false_iff_eq.mpr c25
        clear c25
        obtain ⟨y307, hy307⟩ : ∃ y_ : List Int, y_ = (([253] : List Int)) := ⟨_, rfl⟩
        replace H : (some y307) = some r := z0 hy307
        have Ny307 := aM hy307
        clear hy307
        obtain rfl := Option.some.inj H
        go_wp2_with (first | ((with_reducible refine gate_dst (N := 67) rfl ?_); refine Kd.R_lit (Kd.int .u8) _ 5 ?hg (N := 67) ?hd (xs := ([253] : List Int)) (inner := [.int .u8 253]) (ok := fun _ => True) (okp := fun _ => True) ?hr ?hp (fun _ hk => hk) trivial (Below.refl _ _) (Nat.le_refl _) (by simp) ?_; (case hd => rfl); (case hg => rfl); (case hr => exact z10); (case hp => exact (Reps.one (show Kd.M (Kd.int .u8) _ _ _ 253 [.int .u8 253] from rfl) (Reps.none _ _))); intro v308 w26 ho27 hb hg_ hnew_; clear hg_ hnew_; (first | rw [← Ny307.out] at ho27 | (simp only [Int.reduceToNat] at ho27; rw [← Ny307.out] at ho27)); have HO309 := aM (Kd.R_lower ho27 (below_size bB)); replace HB := aM (below_step bB hb); clear hb ho27))
        go_ret
        exact ⟨_, bE, bR HO309, bB⟩
       rw [if_neg c25] at H
       have c25b0 : (a1 == 167) = false := beq_eq_false_iff_ne.mpr c25
       have c25b1 : (a1 != 167) = true := bne_iff_ne.mpr c25
       by_cases c28 : a1 = 8470
       ·rw [if_pos c28] at H
        have c28b0 : (a1 == 8470) = true := beq_iff_eq.mpr c28
        have c28b1 : (a1 != 8470) = false := bne_eq_false_iff_eq.mpr c28
        clear c28
        obtain ⟨y310, hy310⟩ : ∃ y_ : List Int, y_ = (([240] : List Int)) := ⟨_, rfl⟩
        replace H : (some y310) = some r := z0 hy310
        have Ny310 := aM hy310
        clear hy310
        obtain rfl := Option.some.inj H
        go_wp2_with (first | ((with_reducible refine gate_dst (N := 71) rfl ?_); refine Kd.R_lit (Kd.int .u8) _ 5 ?hg (N := 71) ?hd (xs := ([240] : List Int)) (inner := [.int .u8 240]) (ok := fun _ => True) (okp := fun _ => True) ?hr ?hp (fun _ hk => hk) trivial (Below.refl _ _) (Nat.le_refl _) (by simp) ?_; (case hd => rfl); (case hg => rfl); (case hr => exact z10); (case hp => exact (Reps.one (show Kd.M (Kd.int .u8) _ _ _ 240 [.int .u8 240] from rfl) (Reps.none _ _))); intro v311 w29 ho30 hb hg_ hnew_; clear hg_ hnew_; (first | rw [← Ny310.out] at ho30 | (simp only [Int.reduceToNat] at ho30; rw [← Ny310.out] at ho30)); have HO312 := aM (Kd.R_lower ho30 (below_size bB)); replace HB := aM (below_step bB hb); clear hb ho30))
        go_ret
        exact ⟨_, bE, bR HO312, bB⟩
       rw [if_neg c28] at H
       have c28b0 : (a1 == 8470) = false := beq_eq_false_iff_ne.mpr c28
       have c28b1 : (a1 != 8470) = true := bne_iff_ne.mpr c28
       obtain ⟨y313, hy313⟩ : ∃ y_ : List Int, y_ = (([(wrap64 (a1 - 864)) % 256] : List Int)) := ⟨_, rfl⟩
       replace H : (some y313) = some r := z0 hy313
       have Ny313 := aM hy313
       clear hy313
       obtain rfl := Option.some.inj H
       go_wp2_with (first | ((with_reducible refine gate_dst (N := 75) rfl ?_); refine Kd.R_lit (Kd.int .u8) _ 5 ?hg (N := 75) ?hd (xs := ([(wrap64 (a1 - 864)) % 256] : List Int)) (inner := [.int .u8 ((wrap64 (a1 - 864)) % 256)]) (ok := fun _ => True) (okp := fun _ => True) ?hr ?hp (fun _ hk => hk) trivial (Below.refl _ _) (Nat.le_refl _) (by simp) ?_; (case hd => rfl); (case hg => rfl); (case hr => exact z10); (case hp => exact (Reps.one (show Kd.M (Kd.int .u8) _ _ _ ((wrap64 (a1 - 864)) % 256) [.int .u8 ((wrap64 (a1 - 864)) % 256)] from rfl) (Reps.none _ _))); intro v314 w31 ho32 hb hg_ hnew_; clear hg_ hnew_; (first | rw [← Ny313.out] at ho32 | (simp only [Int.reduceToNat] at ho32; rw [← Ny313.out] at ho32)); have HO315 := aM (Kd.R_lower ho32 (below_size bB)); replace HB := aM (below_step bB hb); clear hb ho32))
       go_ret
       exact ⟨_, bE, bR HO315, bB⟩
def impl_isChar.f (a0 : Int) : Option (Bool) := (impl_within.f a0 0 65535).bind fun t316 => (if t316 = true then ((impl_within.f a0 55296 57343).bind fun t317 => (some (!t317))) else (some false))
set_option maxHeartbeats 8000000 in
set_option maxRecDepth 100000 in
theorem impl_isChar.calls (a0 : Int) (r : Bool) (w : World) (h : impl_isChar.f a0 = some r) :
  Calls Tryz.prog 37 #[.int .i64 a0] w fun e w' => e = .returned (.bool r) ∧ Drawn0 w w' := by
 have H : ((impl_within.f a0 0 65535).bind fun t316 => (if t316 = true then ((impl_within.f a0 55296 57343).bind fun t317 => (some (!t317))) else (some false))) = some r := h
 clear h
 replace H := Option.bind_eq_some_iff.mp H
 obtain ⟨t316, A20, H⟩ := H
 replace H : (if t316 = true then ((impl_within.f a0 55296 57343).bind fun t317 => (some (!t317))) else (some false)) = some r := H
 have A2 := aM A20
 clear A20
 by_cases c3 : t316 = true
 ·subst c3
  have H1 : ((impl_within.f a0 55296 57343).bind fun t317 => (some (!t317))) = some r := z16
  clear H
  have H := H1
  clear H1
  replace H := Option.bind_eq_some_iff.mp H
  obtain ⟨t317, A40, H⟩ := H
  replace H : (some (!t317)) = some r := H
  have A4 := aM A40
  clear A40
  obtain rfl := Option.some.inj H
  go_enter Tryz.func37, Tryz.ntmps37
  go_wp2_with (first | ((with_reducible refine gate_callee (f := 40) rfl ?_); refine gL_ (some 4) Tryz.func40 #[.int .i64 a0, .int .i64 0, .int .i64 65535] ?_; (with_reducible refine (impl_within.calls a0 0 65535 true _ A2.out).mono ?_); rintro e w' ⟨rfl, ⟨nd, rfl⟩⟩; refine ⟨_, rfl, ?_⟩) | (go_at_call 40; (with_reducible refine (impl_within.calls a0 55296 57343 t317 _ A4.out).mono ?_); rintro e w' ⟨rfl, ⟨nd, rfl⟩⟩))
  go_ret
  exact ⟨bS, z5⟩
 replace c3 := Bool.eq_false_iff.mpr c3
 subst c3
 have H1 : (some false) = some r := z7
 clear H
 have H := H1
 clear H1
 obtain rfl := Option.some.inj H
 go_enter Tryz.func37, Tryz.ntmps37
 go_wp2_with (first | ((with_reducible refine gate_callee (f := 40) rfl ?_); refine gL_ (some 4) Tryz.func40 #[.int .i64 a0, .int .i64 0, .int .i64 65535] ?_; (with_reducible refine (impl_within.calls a0 0 65535 false _ A2.out).mono ?_); rintro e w' ⟨rfl, ⟨nd, rfl⟩⟩; refine ⟨_, rfl, ?_⟩))
 go_ret
 exact ⟨bS, z5⟩
def impl_HasChar.j0 : Nat → Int → Int → Bool → Option (Bool)
 | 0, _, _, _ => none
 | k + 1, x0, x1, x5 => if x5 = true then (some false) else (if x0 = 1 then (some (decide (x1 ≤ 127))) else (if x0 = 2 then (some (decide (x1 ≤ 255))) else (if x0 = 3 then (if x1 ≤ 160 then (some true) else (if x1 = 167 then (some true) else (if x1 = 173 then (some true) else ((impl_within.f x1 1025 1119).bind fun t320 => (if t320 = true then (if x1 = 1037 then (some (x1 == 8470)) else (if x1 = 1104 then (some (x1 == 8470)) else (if x1 = 1117 then (some (x1 == 8470)) else (some true)))) else (some (x1 == 8470))))))) else (some true))))
def impl_HasChar.f (k : Nat) (a0 : Int) (a1 : Int) : Option (Bool) := (impl_isChar.f a1).bind fun t318 => (if t318 = true then ((impl_isCharset.f a0).bind fun t319 => (impl_HasChar.j0 k a0 a1 (!t319))) else (impl_HasChar.j0 k a0 a1 true))
set_option maxHeartbeats 8000000 in
set_option maxRecDepth 100000 in
theorem impl_HasChar.calls (k : Nat) (a0 : Int) (a1 : Int) (r : Bool) (w : World) (h : impl_HasChar.f k a0 a1 = some r) :
  Calls Tryz.prog 87 #[.int .i64 a0, .int .i64 a1] w fun e w' => e = .returned (.bool r) ∧ Drawn0 w w' := by
 have H : ((impl_isChar.f a1).bind fun t318 => (if t318 = true then ((impl_isCharset.f a0).bind fun t319 => (impl_HasChar.j0 k a0 a1 (!t319))) else (impl_HasChar.j0 k a0 a1 true))) = some r := h
 clear h
 have HC3 := aM H
 clear H
 go_enter Tryz.func87, Tryz.ntmps87
 go_upto_region 1 with (fail)
 go_cut [5] (fun v5 wc => ∃ (kq : Nat) (x5_2 : Bool), v5 = .bool x5_2 ∧ Aside0 (impl_HasChar.j0 kq a0 a1 x5_2 = some r) ∧ Aside0 (kq ≤ k) ∧ Drawn0 w wc)
 case first =>
  have H := HC3.out
  clear HC3
  replace H := Option.bind_eq_some_iff.mp H
  obtain ⟨t318, A40, H⟩ := H
  replace H : (if t318 = true then ((impl_isCharset.f a0).bind fun t319 => (impl_HasChar.j0 k a0 a1 (!t319))) else (impl_HasChar.j0 k a0 a1 true)) = some r := H
  have A4 := aM A40
  clear A40
  by_cases c5 : t318 = true
  ·subst c5
   have H1 : ((impl_isCharset.f a0).bind fun t319 => (impl_HasChar.j0 k a0 a1 (!t319))) = some r := z16
   clear H
   have H := H1
   clear H1
   replace H := Option.bind_eq_some_iff.mp H
   obtain ⟨t319, A60, H⟩ := H
   replace H : (impl_HasChar.j0 k a0 a1 (!t319)) = some r := H
   have A6 := aM A60
   clear A60
   have H' := aM H
   clear H
   go_wp2_with (first | ((with_reducible refine gate_callee (f := 37) rfl ?_); refine gL_ (some 7) Tryz.func37 #[.int .i64 a1] ?_; (with_reducible refine (impl_isChar.calls a1 true _ A4.out).mono ?_); rintro e w' ⟨rfl, ⟨nd, rfl⟩⟩; refine ⟨_, rfl, ?_⟩) | (go_at_call 114; (with_reducible refine (impl_isCharset.calls a0 t319 _ A6.out).mono ?_); rintro e w' ⟨rfl, ⟨nd, rfl⟩⟩))
   go_meet
   case rel => exact ⟨_, (!t319), bS, H', ⟨z34⟩, z5⟩
  replace c5 := Bool.eq_false_iff.mpr c5
  subst c5
  have H1 : (impl_HasChar.j0 k a0 a1 true) = some r := z7
  clear H
  have H := H1
  clear H1
  have H' := aM H
  clear H
  go_wp2_with (first | ((with_reducible refine gate_callee (f := 37) rfl ?_); refine gL_ (some 7) Tryz.func37 #[.int .i64 a1] ?_; (with_reducible refine (impl_isChar.calls a1 false _ A4.out).mono ?_); rintro e w' ⟨rfl, ⟨nd, rfl⟩⟩; refine ⟨_, rfl, ?_⟩))
  go_meet
  case rel => exact ⟨_, (true), bS, H', ⟨z34⟩, z5⟩
 case rest =>
  clear HC3
  try clear p2
  try clear c3
  try clear c5
  obtain ⟨kq, x5_2, rfl, HA, HJ2, ⟨mc2, rfl⟩⟩ := hcut
  cases kq with
  | zero => exact absurd HA.out (by simp [impl_HasChar.j0])
  | succ kj2 =>
   have H := HA.out
   clear HA
   simp only [impl_HasChar.j0] at H
   by_cases c7 : x5_2 = true
   ·subst c7
    have H1 : (some false) = some r := z16
    clear H
    have H := H1
    clear H1
    obtain rfl := Option.some.inj H
    go_wp2
    go_ret
    exact ⟨bS, z5⟩
   replace c7 := Bool.eq_false_iff.mpr c7
   subst c7
   have H1 : (if a0 = 1 then (some (decide (a1 ≤ 127))) else (if a0 = 2 then (some (decide (a1 ≤ 255))) else (if a0 = 3 then (if a1 ≤ 160 then (some true) else (if a1 = 167 then (some true) else (if a1 = 173 then (some true) else ((impl_within.f a1 1025 1119).bind fun t320 => (if t320 = true then (if a1 = 1037 then (some (a1 == 8470)) else (if a1 = 1104 then (some (a1 == 8470)) else (if a1 = 1117 then (some (a1 == 8470)) else (some true)))) else (some (a1 == 8470))))))) else (some true)))) = some r := z7
   clear H
   have H := H1
   clear H1
   by_cases c8 : a0 = 1
   ·rw [if_pos c8] at H
    have c8b0 : (a0 == 1) = true := beq_iff_eq.mpr c8
    have c8b1 : (a0 != 1) = false := bne_eq_false_iff_eq.mpr c8
    clear c8
    obtain rfl := Option.some.inj H
    go_wp2
    go_ret
    exact ⟨bS, z5⟩
   rw [if_neg c8] at H
   have c8b0 : (a0 == 1) = false := beq_eq_false_iff_ne.mpr c8
   have c8b1 : (a0 != 1) = true := bne_iff_ne.mpr c8
   by_cases c9 : a0 = 2
   ·rw [if_pos c9] at H
    have c9b0 : (a0 == 2) = true := beq_iff_eq.mpr c9
    have c9b1 : (a0 != 2) = false := bne_eq_false_iff_eq.mpr c9
    clear c9
    obtain rfl := Option.some.inj H
    go_wp2
    go_ret
    exact ⟨bS, z5⟩
   rw [if_neg c9] at H
   have c9b0 : (a0 == 2) = false := beq_eq_false_iff_ne.mpr c9
   have c9b1 : (a0 != 2) = true := bne_iff_ne.mpr c9
   by_cases c10 : a0 = 3
   ·rw [if_pos c10] at H
    have c10b0 : (a0 == 3) = true := beq_iff_eq.mpr c10
    have c10b1 : (a0 != 3) = false := bne_eq_false_iff_eq.mpr c10
    clear c10
    by_cases c11 : a1 ≤ 160
    ·rw [if_pos c11] at H
     have c11b0 : decide (a1 ≤ 160) = true := decide_eq_true c11
     clear c11
     obtain rfl := Option.some.inj H
     go_wp2
     go_ret
     exact ⟨bS, z5⟩
    rw [if_neg c11] at H
    have c11b0 : decide (a1 ≤ 160) = false := decide_eq_false c11
    clear c11
    by_cases c12 : a1 = 167
    ·rw [if_pos c12] at H
     have c12b0 : (a1 == 167) = true := beq_iff_eq.mpr c12
     have c12b1 : (a1 != 167) = false := bne_eq_false_iff_eq.mpr c12
     clear c12
     obtain rfl := Option.some.inj H
     go_wp2
     go_ret
     exact ⟨bS, z5⟩
    rw [if_neg c12] at H
    have c12b0 : (a1 == 167) = false := beq_eq_false_iff_ne.mpr c12
    have c12b1 : (a1 != 167) = true := bne_iff_ne.mpr c12
    by_cases c13 : a1 = 173
    ·rw [if_pos c13] at H
     have c13b0 : (a1 == 173) = true := beq_iff_eq.mpr c13
     have c13b1 : (a1 != 173) = false := bne_eq_false_iff_eq.mpr c13
     clear c13
     obtain rfl := Option.some.inj H
     go_wp2
     go_ret
     exact ⟨bS, z5⟩
    rw [if_neg c13] at H
    have c13b0 : (a1 == 173) = false := beq_eq_false_iff_ne.mpr c13
    have c13b1 : (a1 != 173) = true := bne_iff_ne.mpr c13
    replace H := Option.bind_eq_some_iff.mp H
    obtain ⟨t320, A140, H⟩ := H
    replace H : (if t320 = true then (if a1 = 1037 then (some (a1 == 8470)) else (if a1 = 1104 then (some (a1 == 8470)) else (if a1 = 1117 then (some (a1 == 8470)) else (some true)))) else (some (a1 == 8470))) = some r := H
    have A14 := aM A140
    clear A140
    by_cases c15 : t320 = true
    ·subst c15
     have H1 : (if a1 = 1037 then (some (a1 == 8470)) else (if a1 = 1104 then (some (a1 == 8470)) else (if a1 = 1117 then (some (a1 == 8470)) else (some true)))) = some r := z16
     clear H
     have H := H1
     clear H1
     by_cases c16 : a1 = 1037
     ·rw [if_pos c16] at H
      have c16b0 : (a1 == 1037) = true := beq_iff_eq.mpr c16
      have c16b1 : (a1 != 1037) = false := bne_eq_false_iff_eq.mpr c16
      clear c16
      obtain rfl := Option.some.inj H
      go_wp2_with (first | (go_at_call 40; (with_reducible refine (impl_within.calls a1 1025 1119 true _ A14.out).mono ?_); rintro e w' ⟨rfl, ⟨nd, rfl⟩⟩))
      go_ret
      exact ⟨bS, z5⟩
     rw [if_neg c16] at H
     have c16b0 : (a1 == 1037) = false := beq_eq_false_iff_ne.mpr c16
     have c16b1 : (a1 != 1037) = true := bne_iff_ne.mpr c16
     by_cases c17 : a1 = 1104
     ·rw [if_pos c17] at H
      have c17b0 : (a1 == 1104) = true := beq_iff_eq.mpr c17
      have c17b1 : (a1 != 1104) = false := bne_eq_false_iff_eq.mpr c17
      clear c17
      obtain rfl := Option.some.inj H
      go_wp2_with (first | (go_at_call 40; (with_reducible refine (impl_within.calls a1 1025 1119 true _ A14.out).mono ?_); rintro e w' ⟨rfl, ⟨nd, rfl⟩⟩))
      go_ret
      exact ⟨bS, z5⟩
     rw [if_neg c17] at H
     have c17b0 : (a1 == 1104) = false := beq_eq_false_iff_ne.mpr c17
     have c17b1 : (a1 != 1104) = true := bne_iff_ne.mpr c17
     by_cases c18 : a1 = 1117
     ·rw [if_pos c18] at H
      have c18b0 : (a1 == 1117) = true := beq_iff_eq.mpr c18
      have c18b1 : (a1 != 1117) = false := bne_eq_false_iff_eq.mpr c18
      clear c18
      obtain rfl := Option.some.inj H
      go_wp2_with (first | (go_at_call 40; (with_reducible refine (impl_within.calls a1 1025 1119 true _ A14.out).mono ?_); rintro e w' ⟨rfl, ⟨nd, rfl⟩⟩))
      go_ret
      exact ⟨bS, z5⟩
     rw [if_neg c18] at H
     have c18b0 : (a1 == 1117) = false := beq_eq_false_iff_ne.mpr c18
     have c18b1 : (a1 != 1117) = true := bne_iff_ne.mpr c18
     obtain rfl := Option.some.inj H
     go_wp2_with (first | (go_at_call 40; (with_reducible refine (impl_within.calls a1 1025 1119 true _ A14.out).mono ?_); rintro e w' ⟨rfl, ⟨nd, rfl⟩⟩))
     go_ret
     exact ⟨bS, z5⟩
    replace c15 := Bool.eq_false_iff.mpr c15
    subst c15
    have H1 : (some (a1 == 8470)) = some r := z7
    clear H
    have H := H1
    clear H1
    obtain rfl := Option.some.inj H
    go_wp2_with (first | (go_at_call 40; (with_reducible refine (impl_within.calls a1 1025 1119 false _ A14.out).mono ?_); rintro e w' ⟨rfl, ⟨nd, rfl⟩⟩))
    go_ret
    exact ⟨bS, z5⟩
   rw [if_neg c10] at H
   have c10b0 : (a0 == 3) = false := beq_eq_false_iff_ne.mpr c10
   have c10b1 : (a0 != 3) = true := bne_iff_ne.mpr c10
   obtain rfl := Option.some.inj H
   go_wp2
   go_ret
   exact ⟨bS, z5⟩
def bytes_Equal.f (l0 : List Int) (l1 : List Int) : Option (Bool) := some ((strOfNums l0).toList == (strOfNums l1).toList)
set_option maxHeartbeats 8000000 in
set_option maxRecDepth 100000 in
theorem bytes_Equal.calls (A0 : Option Addr) (c0 : Nat) (l0 : List Int) (A1 : Option Addr) (c1 : Nat) (l1 : List Int) (r : Bool) (w : World) (hr0 : Kd.C (Kd.int .u8) w A0 l0.length l0) (hc0 : l0.length ≤ c0) (hr1 : Kd.C (Kd.int .u8) w A1 l1.length l1) (hc1 : l1.length ≤ c1) (h : bytes_Equal.f l0 l1 = some r) :
  Calls Tryz.prog 88 #[.slice A0 l0.length c0, .slice A1 l1.length c1] w fun e w' => e = .returned (.bool r) ∧ Drawn0 w w' := by
 have HR0 := aM hr0
 have HC0 := aM hc0
 clear hr0 hc0
 have HR1 := aM hr1
 have HC1 := aM hc1
 clear hr1 hc1
 have H : (some ((strOfNums l0).toList == (strOfNums l1).toList)) = some r := h
 clear h
 obtain rfl := Option.some.inj H
 have hcv3 := Kd.C_string (P := Tryz.prog) (A := A0) (c := c0) Tryz.underlying22 Tryz.underlying5 Tryz.underlying9 HR0.out
 (try have hcd4 := fun nq_ : Nat => Kd.C_string (P := Tryz.prog) (A := A0) (c := c0) Tryz.underlying22 Tryz.underlying5 Tryz.underlying9 (Kd.C_drewN HR0.out nq_))
 (try have hce4 := Kd.C_string (P := Tryz.prog) (A := A0) (c := c0) Tryz.underlying22 Tryz.underlying5 Tryz.underlying9 HR0.out)
 have hcv5 := Kd.C_string (P := Tryz.prog) (A := A1) (c := c1) Tryz.underlying22 Tryz.underlying5 Tryz.underlying9 HR1.out
 (try have hcd6 := fun nq_ : Nat => Kd.C_string (P := Tryz.prog) (A := A1) (c := c1) Tryz.underlying22 Tryz.underlying5 Tryz.underlying9 (Kd.C_drewN HR1.out nq_))
 (try have hce6 := Kd.C_string (P := Tryz.prog) (A := A1) (c := c1) Tryz.underlying22 Tryz.underlying5 Tryz.underlying9 HR1.out)
 go_enter Tryz.func88, Tryz.ntmps88
 go_wp2
 go_ret
 exact ⟨bS, z5⟩
end Go.Proofs.YtjopgmjmjnfcjaaGreatDoor.PWords
