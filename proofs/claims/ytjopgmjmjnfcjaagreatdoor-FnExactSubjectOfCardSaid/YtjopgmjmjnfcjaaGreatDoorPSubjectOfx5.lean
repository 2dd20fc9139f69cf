/- Part of the proof; words that it uses. -/
import Derived.Test.YtjopgmjmjnfcjaaGreatDoorPSubjectOfx0
import Derived.Test.YtjopgmjmjnfcjaaGreatDoorPSubjectOfx4
namespace Go.Proofs.YtjopgmjmjnfcjaaGreatDoor.PSubjectOf
open Go.RowKit Go.Proofs.YtjopgmjmjnfcjaaGreatDoorW.PrintWords Go.Proofs.YtjopgmjmjnfcjaaGreatDoorW.PrintLast
set_option linter.unusedVariables false
set_option linter.unusedSimpArgs false
def spec_DecodeWords.f (k : Nat) (a0 : ByteArray) : Option (Int × List Int) := if (a0.size : Int) > 400 then (some (2, ([] : List Int))) else ((spec_l4Words.f k a0).bind fun t255 => (if (t255.length : Int) > 400 then (some (2, ([] : List Int))) else (some (0, t255))))
set_option maxHeartbeats 8000000 in
set_option maxRecDepth 100000 in
theorem spec_DecodeWords.calls (k : Nat) (a0 : ByteArray) (r1 : Int) (r2 : List Int) (w : World) (h : spec_DecodeWords.f k a0 = some (r1, r2)) :
  Calls Tryz.prog 16 #[.string a0] w fun e w' => ∃ v1_ : Value, e = .returned (.agg #[.int .i64 r1, v1_]) ∧ Kd.R (Kd.int .i64) 2 w' w.heap.size (fun _ => True) v1_ r2 ∧ Below w.heap.size w w' := by
 have hu25 := Tryz.underlying25
 have HB := aM (Below.refl w.heap.size w)
 have H : (if (a0.size : Int) > 400 then (some (2, ([] : List Int))) else ((spec_l4Words.f k a0).bind fun t255 => (if (t255.length : Int) > 400 then (some (2, ([] : List Int))) else (some (0, t255))))) = some (r1, r2) := h
 clear h
 by_cases c2 : (a0.size : Int) > 400
 ·rw [if_pos c2] at H
  have c2b0 : decide (400 < (a0.size : Int)) = true := decide_eq_true c2
  have c2b1 : decide (400 < a0.size) = true := decide_eq_true (by omega)
  clear c2
  simp only [Option.some.injEq, Prod.mk.injEq] at H
  obtain ⟨rfl, rfl⟩ := H
  go_enter Tryz.func16, Tryz.ntmps16
  go_wp2_with (first | ((with_reducible refine gate_dst (N := 2) rfl ?_); refine box_event ?hg (N := 2) ?hd (cs := #[.int .i64 0, .slice none 0 0]) (t := 25) ?hr ?_; (case hd => rfl); (case hg => rfl); (case hr => exact z8); intro gb254 hg w3 hbox hb; have BK254 := aM (hbox); have GW254 := aM ((z11 : w.heap.size ≤ gb254)); have GE254 := aM ((z11 : w.heap.size ≤ gb254)); replace HB := aM (below_step bB hb); clear hb hbox hg; have hcz4_0 : w3.cell? ⟨gb254, 0, none⟩ = some (.int .i64 0) := (blk_cell BK254.out 0).trans rfl; have hcz4_1 : w3.cell? ⟨gb254, 1, none⟩ = some (.slice none 0 0) := (blk_cell BK254.out 1).trans rfl; have hfz4_0 := blk_frozen BK254.out 0; have hfz4_1 := blk_frozen BK254.out 1))
  refine bodyPost_ret (results_cell_row rfl _ _ gb254 25 #[.int .i64 2, .slice none 0 0] (0, 0) _ rfl (z7 BK254.out) Tryz.underlying25 rfl (by kernel_rfl)) rfl ?_
  exact ⟨_, bE, z3, bG GE254⟩
 rw [if_neg c2] at H
 have c2b0 : decide (400 < (a0.size : Int)) = false := decide_eq_false c2
 have c2b1 : decide (400 < a0.size) = false := decide_eq_false (by omega)
 clear c2
 replace H := Option.bind_eq_some_iff.mp H
 obtain ⟨t255, A50, H⟩ := H
 replace H : (if (t255.length : Int) > 400 then (some (2, ([] : List Int))) else (some (0, t255))) = some (r1, r2) := H
 have A5 := aM A50
 clear A50
 by_cases c6 : (t255.length : Int) > 400
 ·rw [if_pos c6] at H
  have c6b0 : decide (400 < (t255.length : Int)) = true := decide_eq_true c6
  have c6b1 : decide (400 < t255.length) = true := decide_eq_true (by omega)
  clear c6
  simp only [Option.some.injEq, Prod.mk.injEq] at H
  obtain ⟨rfl, rfl⟩ := H
  go_enter Tryz.func16, Tryz.ntmps16
  go_wp2_with (first | ((with_reducible refine gate_dst (N := 2) rfl ?_); refine box_event ?hg (N := 2) ?hd (cs := #[.int .i64 0, .slice none 0 0]) (t := 25) ?hr ?_; (case hd => rfl); (case hg => rfl); (case hr => exact z8); intro gb254 hg w7 hbox hb; have BK254 := aM (hbox); have GW254 := aM ((z11 : w.heap.size ≤ gb254)); have GE254 := aM ((z11 : w.heap.size ≤ gb254)); replace HB := aM (below_step bB hb); clear hb hbox hg) | ((with_reducible refine gate_callee (f := 34) rfl ?_); refine gL_ (some 9) Tryz.func34 #[.string a0] ?_; (with_reducible refine (spec_l4Words.calls k a0 t255 _ A5.out).mono ?_); rintro e w8 ⟨v256, rfl, ho0, hb⟩; refine ⟨_, rfl, ?_⟩; have HO257 := aM (Kd.R_lower ho0 (below_size (bG GE254))); replace BK254 := aM (blk_below (g := gb254) (o := .cells #[.int .i64 0, .slice none 0 0] 25 (0, 0)) (bL BK254) hb); replace HB := aM (below_step (bG GE254) hb); (try clear ho0); obtain ⟨Ao9, co9, eo9⟩ := Kd.R_slice HO257.out; subst eo9; have hcz10_0 : w8.cell? ⟨gb254, 0, none⟩ = some (.int .i64 0) := (blk_cell BK254.out 0).trans rfl; have hcz10_1 : w8.cell? ⟨gb254, 1, none⟩ = some (.slice none 0 0) := (blk_cell BK254.out 1).trans rfl; have hfz10_0 := blk_frozen BK254.out 0; have hfz10_1 := blk_frozen BK254.out 1))
  refine bodyPost_ret (results_cell_row rfl _ _ gb254 25 #[.int .i64 2, .slice none 0 0] (0, 0) _ rfl (z7 BK254.out) Tryz.underlying25 rfl (by kernel_rfl)) rfl ?_
  exact ⟨_, bE, z3, bG GE254⟩
 rw [if_neg c6] at H
 have c6b0 : decide (400 < (t255.length : Int)) = false := decide_eq_false c6
 have c6b1 : decide (400 < t255.length) = false := decide_eq_false (by omega)
 clear c6
 simp only [Option.some.injEq, Prod.mk.injEq] at H
 obtain ⟨rfl, rfl⟩ := H
 go_enter Tryz.func16, Tryz.ntmps16
 go_wp2_with (first | ((with_reducible refine gate_dst (N := 2) rfl ?_); refine box_event ?hg (N := 2) ?hd (cs := #[.int .i64 0, .slice none 0 0]) (t := 25) ?hr ?_; (case hd => rfl); (case hg => rfl); (case hr => exact z8); intro gb254 hg w11 hbox hb; have BK254 := aM (hbox); have GW254 := aM ((z11 : w.heap.size ≤ gb254)); have GE254 := aM ((z11 : w.heap.size ≤ gb254)); replace HB := aM (below_step bB hb); clear hb hbox hg) | ((with_reducible refine gate_callee (f := 34) rfl ?_); refine gL_ (some 9) Tryz.func34 #[.string a0] ?_; (with_reducible refine (spec_l4Words.calls k a0 t255 _ A5.out).mono ?_); rintro e w12 ⟨v256, rfl, ho0, hb⟩; refine ⟨_, rfl, ?_⟩; have HO257 := aM (Kd.R_lower ho0 (below_size (bG GE254))); replace BK254 := aM (blk_below (g := gb254) (o := .cells #[.int .i64 0, .slice none 0 0] 25 (0, 0)) (bL BK254) hb); replace HB := aM (below_step (bG GE254) hb); (try clear ho0); obtain ⟨Ao13, co13, eo13⟩ := Kd.R_slice HO257.out; subst eo13; have hcz14_0 : w12.cell? ⟨gb254, 0, none⟩ = some (.int .i64 0) := (blk_cell BK254.out 0).trans rfl; have hcz14_1 : w12.cell? ⟨gb254, 1, none⟩ = some (.slice none 0 0) := (blk_cell BK254.out 1).trans rfl; have hfz14_0 := blk_frozen BK254.out 0; have hfz14_1 := blk_frozen BK254.out 1))
 refine bodyPost_ret (results_cell_row rfl _ _ gb254 25 #[.int .i64 0, .slice Ao13 t255.length co13] (0, 0) _ rfl (z17 BK254.out) Tryz.underlying25 rfl (by kernel_rfl)) rfl ?_
 exact ⟨_, bE, by (with_reducible repeat (first | apply Kd.R_alloc | apply Kd.R_drewN | apply Kd.R_drew)); exact Kd.R_mono (Kd.R_far (p := ⟨gb254, 1, none⟩) (Kd.R_far (p := ⟨gb254, 0, none⟩) (Kd.R_types HO257.out BK254.out (by decide)) (fun _ hk => hk.2) (.int .i64 0)) (fun _ hk => hk.2) (.slice Ao13 t255.length co13)) (fun _ hk => trivial), bG GE254⟩
def spec_l4End.l0 : Nat → List Int → Int → Option (Int)
 | 0, _, _ => none
 | k + 1, x0, x1 => if x1 < (x0.length : Int) then (if 0 ≤ x1 then (if (rd x0 x1) = 10 then (some x1) else (spec_l4End.l0 k x0 (wrap64 (x1 + 1)))) else (none)) else (some x1)
def spec_l4End.f (k : Nat) (l0 : List Int) (a1 : Int) : Option (Int) := spec_l4End.l0 k l0 a1
set_option maxHeartbeats 8000000 in
set_option maxRecDepth 100000 in
theorem spec_l4End.calls (k : Nat) (A0 : Option Addr) (c0 : Nat) (l0 : List Int) (a1 : Int) (r : Int) (w : World) (hr0 : Kd.C (Kd.int .u8) w A0 l0.length l0) (hc0 : l0.length ≤ c0) (h : spec_l4End.f k l0 a1 = some r) :
  Calls Tryz.prog 67 #[.slice A0 l0.length c0, .int .i64 a1] w fun e w' => e = .returned (.int .i64 r) ∧ Drawn0 w w' := by
 have HR0 := aM hr0
 have HC0 := aM hc0
 clear hr0 hc0
 have H : (spec_l4End.l0 k l0 a1) = some r := h
 clear h
 have H' := aM H
 clear H
 go_enter Tryz.func67, Tryz.ntmps67
 go_wp2
 go_loopg [1] k (fun kq v1 w' => ∃ (x1_1 : Int), v1 = .int .i64 x1_1 ∧ Aside0 (spec_l4End.l0 kq l0 x1_1 = some r) ∧ Aside0 (kq ≤ k) ∧ Drawn0 w w')
 case atStart => exact ⟨(a1), bS, H', ⟨Nat.le_refl _⟩, z1⟩
 case round =>
  clear H'
  try clear p2
  obtain ⟨x1_1, rfl, HA, HK1, ⟨m1, rfl⟩⟩ := hrel
  cases gk with
  | zero => exact absurd HA.out (by simp [spec_l4End.l0])
  | succ k1 =>
   have H := HA.out
   clear HA
   simp only [spec_l4End.l0] at H
   by_cases c3 : x1_1 < (l0.length : Int)
   ·rw [if_pos c3] at H
    have c3b0 : decide (x1_1 < (l0.length : Int)) = true := decide_eq_true c3
    clear c3
    by_cases c4 : 0 ≤ x1_1
    ·rw [if_pos c4] at H
     have c4b0 : decide (0 ≤ x1_1) = true := decide_eq_true c4
     clear c4
     by_cases c5 : (rd l0 x1_1) = 10
     ·rw [if_pos c5] at H
      have c5b0 : ((rd l0 x1_1) == 10) = true := beq_iff_eq.mpr c5
      have c5b1 : ((rd l0 x1_1) != 10) = false := bne_eq_false_iff_eq.mpr c5
      clear c5
      obtain rfl := Option.some.inj H
      have p258 : 0 ≤ (x1_1 : Int) := pI
      have q258 : x1_1 < (l0.length : Int) := pI
      obtain ⟨ad258, e258, hx258_0⟩ := Kd.at_int HR0.out x1_1 p258 q258
      cases e258
      replace p258 := eq_true p258
      replace q258 := eq_true q258
      go_wp2
      go_ret
      exact ⟨bS, z1⟩
     rw [if_neg c5] at H
     have c5b0 : ((rd l0 x1_1) == 10) = false := beq_eq_false_iff_ne.mpr c5
     have c5b1 : ((rd l0 x1_1) != 10) = true := bne_iff_ne.mpr c5
     have H' := aM H
     clear H
     have p258 : 0 ≤ (x1_1 : Int) := pI
     have q258 : x1_1 < (l0.length : Int) := pI
     obtain ⟨ad258, e258, hx258_0⟩ := Kd.at_int HR0.out x1_1 p258 q258
     cases e258
     replace p258 := eq_true p258
     replace q258 := eq_true q258
     go_wp2
     go_roundg k1
     case measure => have := HK1.out; omega
     case rel => exact ⟨(wrap64 (x1_1 + 1)), bS, H', ⟨by have := HK1.out; omega⟩, z1⟩
    rw [if_neg c4] at H
    exact absurd H (by simp)
   rw [if_neg c3] at H
   have c3b0 : decide (x1_1 < (l0.length : Int)) = false := decide_eq_false c3
   clear c3
   obtain rfl := Option.some.inj H
   go_wp2
   go_ret
   exact ⟨bS, z1⟩
mutual
def spec_l4Line.j0 : Nat → List (S70) → ByteArray → Int → Bool → Option ((List (S70)) × Bool)
 | 0, _, _, _, _ => none
 | k + 1, x0, x1, x6, x19 => if x19 = true then (if x6 = 0 then (some (([] : List (S70)), false)) else ((some (([] : List (S70)) : List (S70))).bind fun y259 => (if y259.length + x0.length < 4398046511104 then ((some (y259 ++ x0 : List (S70))).bind fun y262 => (if 0 ≤ (wrap64 (x6 - 1)) then (if (wrap64 (x6 - 1)) < (y262.length : Int) then (if ((rd_T70 y262 (wrap64 (x6 - 1))).f1).size + x1.size ≤ 9223372036854775807 then (some ((y262.set ((wrap64 (x6 - 1)) : Int).toNat (⟨(rd_T70 y262 (wrap64 (x6 - 1))).f0, ((rd_T70 y262 (wrap64 (x6 - 1))).f1) ++ x1⟩ : S70)), true)) else (none)) else (none)) else (none))) else (none)))) else (spec_l4Line.l0 k x0 x1 0)
def spec_l4Line.l0 : Nat → List (S70) → ByteArray → Int → Option ((List (S70)) × Bool)
 | 0, _, _, _ => none
 | k + 1, x0, x1, x8 => if x8 < (x1.size : Int) then (if 0 ≤ x8 then (if (bt x1 x8) = 58 then (if 0 ≤ (wrap64 (x8 + 1)) then (if (wrap64 (x8 + 1)) ≤ (x1.size : Int) then (if (x1.extract ((wrap64 (x8 + 1)) : Int).toNat x1.size).toList = ([] : List UInt8) then ((some (([] : List (S70)) : List (S70))).bind fun y267 => (if y267.length + x0.length < 4398046511104 then ((some (y267 ++ x0 : List (S70))).bind fun y270 => (if x8 ≤ (x1.size : Int) then ((some (([(⟨x1.extract 0 (x8 : Int).toNat, x1.extract ((wrap64 (x8 + 1)) : Int).toNat x1.size⟩ : S70)] : List (S70)) : List (S70))).bind fun y273 => (if y270.length + y273.length < 4398046511104 then (some ((y270 ++ y273), true)) else (none))) else (none))) else (none))) else (if 0 < ((x1.extract ((wrap64 (x8 + 1)) : Int).toNat x1.size).size : Int) then (if (bt (x1.extract ((wrap64 (x8 + 1)) : Int).toNat x1.size) 0) = 32 then (if 1 ≤ ((x1.extract ((wrap64 (x8 + 1)) : Int).toNat x1.size).size : Int) then ((some (([] : List (S70)) : List (S70))).bind fun y279 => (if y279.length + x0.length < 4398046511104 then ((some (y279 ++ x0 : List (S70))).bind fun y282 => (if x8 ≤ (x1.size : Int) then ((some (([(⟨x1.extract 0 (x8 : Int).toNat, (x1.extract ((wrap64 (x8 + 1)) : Int).toNat x1.size).extract 1 (x1.extract ((wrap64 (x8 + 1)) : Int).toNat x1.size).size⟩ : S70)] : List (S70)) : List (S70))).bind fun y285 => (if y282.length + y285.length < 4398046511104 then (some ((y282 ++ y285), true)) else (none))) else (none))) else (none))) else (none)) else ((some (([] : List (S70)) : List (S70))).bind fun y291 => (if y291.length + x0.length < 4398046511104 then ((some (y291 ++ x0 : List (S70))).bind fun y294 => (if x8 ≤ (x1.size : Int) then ((some (([(⟨x1.extract 0 (x8 : Int).toNat, x1.extract ((wrap64 (x8 + 1)) : Int).toNat x1.size⟩ : S70)] : List (S70)) : List (S70))).bind fun y297 => (if y294.length + y297.length < 4398046511104 then (some ((y294 ++ y297), true)) else (none))) else (none))) else (none)))) else (none))) else (none)) else (none)) else (spec_l4Line.l0 k x0 x1 (wrap64 (x8 + 1)))) else (none)) else (some (([] : List (S70)), false))
end
def spec_l4Line.f (k : Nat) (l0 : List (S70)) (a1 : ByteArray) : Option ((List (S70)) × Bool) := if 0 < (a1.size : Int) then (if (bt a1 0) = 32 then (spec_l4Line.j0 k l0 a1 (l0.length : Int) true) else (spec_l4Line.j0 k l0 a1 (l0.length : Int) ((bt a1 0) == 9))) else (none)
def spec_l4Line.T15 : Bool × List (List Nat × List Nat) := (true, [([], []), ([], []), ([0, 1], [0, 1]), ([], []), ([], []), ([3, 4], [3, 4]), ([], []), ([5, 6], [5, 6]), ([7], [7]), ([2, 8, 2], [2, 8]), ([9, 9, 0, 1, 2, 3, 4, 5, 6, 7, 8, 9], [9]), ([10, 0, 1, 2, 3, 4, 5, 6, 7, 8, 9, 10], [])])
def spec_l4Line.B15 : List Nat := [0, 0, 3, 0, 0, 24, 0, 120, 248, 511, 1023, 2047]
theorem spec_l4Line.tab15 : rtab .any (opsOf Tryz.f68 15) = spec_l4Line.T15 := by kernel_rfl
theorem spec_l4Line.bits15 : waitsOk spec_l4Line.T15.2 spec_l4Line.B15 = true := by kernel_rfl
set_option maxHeartbeats 8000000 in
set_option maxRecDepth 100000 in
theorem spec_l4Line.calls (k : Nat) (A0 : Option Addr) (c0 : Nat) (l0 : List (S70)) (a1 : ByteArray) (r1 : List (S70)) (r2 : Bool) (w : World) (hr0 : Kd.C k70 w A0 l0.length l0) (hc0 : l0.length ≤ c0) (h : spec_l4Line.f k l0 a1 = some (r1, r2)) :
  Calls Tryz.prog 68 #[.slice A0 l0.length c0, .string a1] w fun e w' => ∃ v0_ : Value, e = .returned (.tuple #[v0_, .bool r2]) ∧ Kd.R k70 70 w' w.heap.size (fun _ => True) v0_ r1 ∧ Below w.heap.size w w' := by
 have hu70 := Tryz.underlying70
 have HR0 := aM hr0
 have HC0 := aM hc0
 clear hr0 hc0
 have HB := aM (Below.refl w.heap.size w)
 have H : (if 0 < (a1.size : Int) then (if (bt a1 0) = 32 then (spec_l4Line.j0 k l0 a1 (l0.length : Int) true) else (spec_l4Line.j0 k l0 a1 (l0.length : Int) ((bt a1 0) == 9))) else (none)) = some (r1, r2) := h
 clear h
 have HC3 := aM H
 clear H
 go_enter Tryz.func68, Tryz.ntmps68
 go_upto_region 2 with (fail)
 go_cut [19] (fun v19 wc => ∃ (kq : Nat) (x19_2 : Bool), v19 = .bool x19_2 ∧ Aside0 (spec_l4Line.j0 kq l0 a1 (l0.length : Int) x19_2 = some (r1, r2)) ∧ Aside0 (kq ≤ k) ∧ Aside0 (Below w.heap.size w wc))
 case first =>
  have H := HC3.out
  clear HC3
  by_cases c4 : 0 < (a1.size : Int)
  ·rw [if_pos c4] at H
   have c4b0 : decide (0 < (a1.size : Int)) = true := decide_eq_true c4
   have c4b1 : decide (0 < a1.size) = true := decide_eq_true (by omega)
   clear c4
   have HQ_ := aM H
   clear H
   (first | rw [c4b0] | rw [c4b1] | (simp only [i64_w, i32_w]; rw [c4b0]) | skip)
   have p5 : 0 ≤ (0 : Int) := (by omega)
   have q5 : 0 < a1.size := (by have : (0 : Int) < (a1.size : Int) := pI; omega)
   have hx5 : ∀ h : 0 < a1.size, ((a1[0]'h).toNat : Int) = bt a1 0 := bt_at a1 0
   clear p5
   have qi5 : (0 < (a1.size : Int)) = True := eq_true (pI)
   replace q5 := eq_true q5
   have H := HQ_.out
   clear HQ_
   by_cases c6 : (bt a1 0) = 32
   ·rw [if_pos c6] at H
    have c6b0 : ((bt a1 0) == 32) = true := beq_iff_eq.mpr c6
    have c6b1 : ((bt a1 0) != 32) = false := bne_eq_false_iff_eq.mpr c6
    clear c6
    have H' := aM H
    clear H
    (try simp only [c6b0, c6b1])
    go_wp2
    go_meet
    case rel => exact ⟨_, (true), bS, H', ⟨z29⟩, ⟨bB⟩⟩
   rw [if_neg c6] at H
   have c6b0 : ((bt a1 0) == 32) = false := beq_eq_false_iff_ne.mpr c6
   have c6b1 : ((bt a1 0) != 32) = true := bne_iff_ne.mpr c6
   have H' := aM H
   clear H
   (try simp only [c6b0, c6b1])
   have p7 : 0 ≤ (0 : Int) := (by omega)
   have q7 : 0 < a1.size := (by have : (0 : Int) < (a1.size : Int) := pI; omega)
   have hx7 : ∀ h : 0 < a1.size, ((a1[0]'h).toNat : Int) = bt a1 0 := bt_at a1 0
   clear p7
   have qi7 : (0 < (a1.size : Int)) = True := eq_true (pI)
   replace q7 := eq_true q7
   go_wp2
   go_meet
   case rel => exact ⟨_, (((bt a1 0) == 9)), bS, H', ⟨z29⟩, ⟨bB⟩⟩
  rw [if_neg c4] at H
  exact absurd H (by simp)
 case rest =>
  clear HC3
  try clear p2
  try clear c4
  try clear c4b0
  try clear c4b1
  try clear p5
  try clear q5
  try clear hx5
  try clear qi5
  try clear c6
  try clear c6b0
  try clear c6b1
  try clear p7
  try clear q7
  try clear hx7
  try clear qi7
  try clear p5
  try clear p7
  try clear q5
  try clear q7
  obtain ⟨kq, x19_2, rfl, HA, HJ2, HB⟩ := hcut
  cases kq with
  | zero => exact absurd HA.out (by simp [spec_l4Line.j0])
  | succ kj2 =>
   have H := HA.out
   clear HA
   simp only [spec_l4Line.j0] at H
   by_cases c8 : x19_2 = true
   ·subst c8
    have H1 : (if (l0.length : Int) = 0 then (some (([] : List (S70)), false)) else ((some (([] : List (S70)) : List (S70))).bind fun y259 => (if y259.length + l0.length < 4398046511104 then ((some (y259 ++ l0 : List (S70))).bind fun y262 => (if 0 ≤ (wrap64 ((l0.length : Int) - 1)) then (if (wrap64 ((l0.length : Int) - 1)) < (y262.length : Int) then (if ((rd_T70 y262 (wrap64 ((l0.length : Int) - 1))).f1).size + a1.size ≤ 9223372036854775807 then (some ((y262.set ((wrap64 ((l0.length : Int) - 1)) : Int).toNat (⟨(rd_T70 y262 (wrap64 ((l0.length : Int) - 1))).f0, ((rd_T70 y262 (wrap64 ((l0.length : Int) - 1))).f1) ++ a1⟩ : S70)), true)) else (none)) else (none)) else (none))) else (none)))) = some (r1, r2) := z14
    clear H
    have H := H1
    clear H1
    by_cases c9 : (l0.length : Int) = 0
    ·rw [if_pos c9] at H
     have c9b0 : ((l0.length : Int) == 0) = true := beq_iff_eq.mpr c9
     have c9b1 : ((l0.length : Int) != 0) = false := bne_eq_false_iff_eq.mpr c9
     clear c9
     simp only [Option.some.injEq, Prod.mk.injEq] at H
     obtain ⟨rfl, rfl⟩ := H
     go_wp2
     go_ret2
     exact ⟨_, bE, z3, bB⟩
    rw [if_neg c9] at H
    have c9b0 : ((l0.length : Int) == 0) = false := beq_eq_false_iff_ne.mpr c9
    have c9b1 : ((l0.length : Int) != 0) = true := bne_iff_ne.mpr c9
    have c9b2 : ¬ (l0 = []) := fun h_ => c9 (by rw [h_]; rfl)
    obtain ⟨y259, hy259⟩ : ∃ y_ : List (S70), y_ = (([] : List (S70))) := ⟨_, rfl⟩
    replace H : (if y259.length + l0.length < 4398046511104 then ((some (y259 ++ l0 : List (S70))).bind fun y262 => (if 0 ≤ (wrap64 ((l0.length : Int) - 1)) then (if (wrap64 ((l0.length : Int) - 1)) < (y262.length : Int) then (if ((rd_T70 y262 (wrap64 ((l0.length : Int) - 1))).f1).size + a1.size ≤ 9223372036854775807 then (some ((y262.set ((wrap64 ((l0.length : Int) - 1)) : Int).toNat (⟨(rd_T70 y262 (wrap64 ((l0.length : Int) - 1))).f0, ((rd_T70 y262 (wrap64 ((l0.length : Int) - 1))).f1) ++ a1⟩ : S70)), true)) else (none)) else (none)) else (none))) else (none)) = some (r1, r2) := z0 hy259
    have Ny259 := aM hy259
    clear hy259
    by_cases c10 : y259.length + l0.length < 4398046511104
    ·rw [if_pos c10] at H
     have LMc10 := aM c10
     clear c10
     obtain ⟨y262, hy262⟩ : ∃ y_ : List (S70), y_ = (y259 ++ l0) := ⟨_, rfl⟩
     replace H : (if 0 ≤ (wrap64 ((l0.length : Int) - 1)) then (if (wrap64 ((l0.length : Int) - 1)) < (y262.length : Int) then (if ((rd_T70 y262 (wrap64 ((l0.length : Int) - 1))).f1).size + a1.size ≤ 9223372036854775807 then (some ((y262.set ((wrap64 ((l0.length : Int) - 1)) : Int).toNat (⟨(rd_T70 y262 (wrap64 ((l0.length : Int) - 1))).f0, ((rd_T70 y262 (wrap64 ((l0.length : Int) - 1))).f1) ++ a1⟩ : S70)), true)) else (none)) else (none)) else (none)) = some (r1, r2) := z0 hy262
     have Ny262 := aM hy262
     clear hy262
     obtain ⟨ji11, hji11⟩ : ∃ j_ : Int, (wrap64 ((l0.length : Int) - 1)) = j_ := ⟨_, rfl⟩
     replace H : (if 0 ≤ (ji11) then (if (ji11) < (y262.length : Int) then (if ((rd_T70 y262 (ji11)).f1).size + a1.size ≤ 9223372036854775807 then (some ((y262.set ((ji11) : Int).toNat (⟨(rd_T70 y262 (ji11)).f0, ((rd_T70 y262 (ji11)).f1) ++ a1⟩ : S70)), true)) else (none)) else (none)) else (none)) = some (r1, r2) := by first | (rw [hji11] at H; exact H) | (simp only [hji11] at H ⊢; exact H)
     have hji11w : (IntKind.i64.wrap ((l0.length : Int) - 1)) = ji11 := (i64_w _).trans hji11
     by_cases c12 : 0 ≤ (ji11)
     ·rw [if_pos c12] at H
      have c12b0 : decide (0 ≤ (ji11)) = true := decide_eq_true c12
      clear c12
      by_cases c13 : (ji11) < (y262.length : Int)
      ·rw [if_pos c13] at H
       have c13b0 : decide ((ji11) < (y262.length : Int)) = true := decide_eq_true c13
       clear c13
       by_cases c14 : ((rd_T70 y262 (ji11)).f1).size + a1.size ≤ 9223372036854775807
       ·rw [if_pos c14] at H
        have c14b0 := eq_true c14
        have c14b1 : decide (((rd_T70 y262 (ji11)).f1).size + a1.size ≤ 9223372036854775807) = true := decide_eq_true c14
        try have c14b2 : (9223372036854775807 < ((rd_T70 y262 (ji11)).f1).size + a1.size) = False := eq_false (Nat.not_lt.2 c14)
        obtain ⟨y266, hy266⟩ : ∃ y_ : List (S70), y_ = (y262.set ((ji11) : Int).toNat (⟨(rd_T70 y262 (ji11)).f0, ((rd_T70 y262 (ji11)).f1) ++ a1⟩ : S70)) := ⟨_, rfl⟩
        replace H : (some (y266, true)) = some (r1, r2) := z0 hy266
        have Ny266 := aM hy266
        clear hy266
        simp only [Option.some.injEq, Prod.mk.injEq] at H
        obtain ⟨rfl, rfl⟩ := H
        go_wp2_with (first | ((with_reducible refine gate_dst (N := 22) rfl ?_); refine Kd.R_lit k70 _ 70 ?hg (N := 22) ?hd (xs := ([] : List (S70))) (inner := []) (ok := fun _ => True) (okp := fun _ => True) ?hr ?hp (fun _ hk => hk) trivial (Below.refl _ _) (Nat.le_refl _) (by simp) ?_; (case hd => rfl); (case hg => rfl); (case hr => exact z8); (case hp => exact (Reps.none _ _)); intro v260 w16 ho17 hb hg_ hnew_; clear hg_ hnew_; (first | rw [← Ny259.out] at ho17 | (simp only [Int.reduceToNat] at ho17; rw [← Ny259.out] at ho17)); have HO261 := aM (Kd.R_lower ho17 (below_size bB)); replace HB := aM (below_step bB hb); clear hb ho17) | ((with_reducible refine gate_builtin (b := .append) (xs := #[.tmp 22, .tmp 23]) rfl ?_); at_builtin; refine Kd.R_append_rows k70 (w0 := w) w.heap.size rfl (.tmp 22) (.tmp 23) 43 70 (.agg #[(.string ⟨#[]⟩), (.string ⟨#[]⟩)]) 32 rfl Tryz.underlying43 info70 rfl (by decide) (by omega) v260 y259 l0 _ _ _ (fun _ => True) (fun _ => False) rfl rfl ?aO ?aR (fun _ _ h => h) (fun _ h => h.elim) ?aF ?aB ?aS ?aL ?_; (case aR => exact z4 HR0.out); (case aB => exact bB); (case aF => exact (fun _ _ => trivial)); (case aO => exact (bR HO261)); (case aS => exact (below_size bB)); (case aL => have := LMc10.out; omega); intro v263 w18 ho hb hg hat; rw [← Ny262.out] at ho; have n0_ := aM (hb); have n1_ := aM (ho); clear HB; clear HO261; have HB := n0_; have HO264 := n1_; clear n0_ n1_; clear ho hb hg hat; obtain ⟨Ao19, co19, eo19⟩ := Kd.R_slice HO264.out; subst eo19; have p265 : 0 ≤ ((ji11) : Int) := pI; have q265 : (ji11) < (y262.length : Int) := pI; obtain ⟨ad265, e265, hx265_0, hx265_1⟩ := at_T70 (Kd.R_reads' HO264.out).2.2 (ji11) p265 q265; cases e265; replace p265 := eq_true p265; replace q265 := eq_true q265; have p15 : 0 ≤ ((ji11) : Int) := pI; have q15 : ((ji11) : Int) < ((y262.length : Int) : Int) := pI; obtain ⟨go15, co15, eo15, gb15, gl15, cl15, HG15⟩ := Kd.R_form HO264.out (by omega); (first | cases eo15 | (injection eo15 with ea_ en_ ec_; (first | subst ea_ | (injection ea_ with ea_; subst ea_)); subst ec_; clear en_)); have GB15 := aM gb15; have GG15 := aM HG15; clear gb15 gl15 HG15; (first | simp only [add_plain] at hx265_0 | skip); (first | simp only [add_plain] at hx265_1 | skip); obtain ⟨ce15, hcl15, hM15, hcc15, hfr15⟩ := Kd.R_elem HO264.out z70 ((ji11) : Int) p15 q15; obtain rfl := k70_openM hM15; have hx15_0 : w18.cell? ⟨go15, ((ji11) : Int).toNat * 2, none⟩ = some (.string ((rd_T70 y262 (ji11)).f0)) := hcc15 0 _ rfl; have hx15_1 : w18.cell? ⟨go15, ((ji11) : Int).toNat * 2 + 1, none⟩ = some (.string ((rd_T70 y262 (ji11)).f1)) := hcc15 1 _ rfl; have hf15_0 : w18.frozen? ⟨go15, ((ji11) : Int).toNat * 2, none⟩ = false := hfr15 0 (by decide); have hf15_1 : w18.frozen? ⟨go15, ((ji11) : Int).toNat * 2 + 1, none⟩ = false := hfr15 1 (by decide); clear hcl15 hcc15 hfr15 hM15; replace p15 := eq_true p15; replace q15 := eq_true q15; have HX20 := aM (show Kd.R k70 70 w18 w.heap.size (fun _ => True) (.slice (some ⟨go15, 0, none⟩) y262.length co19) y262 from (bR HO264)); obtain ⟨ce20, hcl20, hM20, hcc20, hfr20⟩ := Kd.R_elem HX20.out z70 ((ji11) : Int) (pI) (bH (pI : ((ji11) : Int) < ((y262.length : Int) : Int)) (Kd.R_reads' HO264.out).1); obtain rfl := k70_openM hM20; have HP20 := Kd.R_seg HX20.out ((ji11) : Int) (pI) (bH (pI : ((ji11) : Int) < ((y262.length : Int) : Int)) (Kd.R_reads' HO264.out).1) (seg := [.string (((rd_T70 y262 (ji11)).f1) ++ a1)]) (j := 1) hcl20 hcc20 (show 2 ≤ 2 from by decide) (x' := (⟨(rd_T70 y262 (ji11)).f0, ((rd_T70 y262 (ji11)).f1) ++ a1⟩ : S70)) (k70_mkM _ _ _ (⟨(rd_T70 y262 (ji11)).f0, ((rd_T70 y262 (ji11)).f1) ++ a1⟩ : S70) ) (fun _ hk => hk); have hx20_1 := hcc20 1 _ rfl; (try simp only [show (k70).sz = 2 from rfl, Nat.mul_one, Nat.add_zero] at hx20_1); have hf20_1 := hfr20 1 (by decide); (try simp only [show (k70).sz = 2 from rfl, Nat.mul_one, Nat.add_zero] at hf20_1); clear hcl20 hcc20 hfr20 hM20) | ((with_reducible refine gate_store (t := 9) (p := 37) rfl ?_); refine store_event (t := 9) (p := 37) (v := ?vo_w21) (w1 := (w18.setCell ⟨go15, ((ji11) : Int).toNat * 2 + 1, none⟩ (.string (((rd_T70 y262 (ji11)).f1) ++ a1)))) ?hg ?ho ?hn ?hr ?_; (case ho => rfl); (case hg => rfl); (case hn => rfl); (case hr => exact z8); intro w21 hw; have hg : w18.grownBy w21 (some go15) := (by rw [hw]; exact HP20.2); have hp_ : Kd.R k70 70 w21 w.heap.size (fun _ => True) (.slice (some ⟨go15, 0, none⟩) y262.length co19) y266 := (by rw [hw, Ny266.out]; exact HP20.1); clear HP20; replace HO264 := aM (hp_); replace HB := aM ((z48 GB15.out : Below w.heap.size w w21)); clear hg hw hp_))
        go_ret2
        exact ⟨_, by first | rfl | (simp [errW_none, errW_some] <;> rfl) | (simp only [← hji11]; first | rfl | (simp [errW_none, errW_some] <;> rfl)) | (simp [*, errW_none, errW_some] <;> rfl), bR HO264, bB⟩
       rw [if_neg c14] at H
       exact absurd H (by simp)
      rw [if_neg c13] at H
      exact absurd H (by simp)
     rw [if_neg c12] at H
     exact absurd H (by simp)
    rw [if_neg c10] at H
    exact absurd H (by simp)
   replace c8 := Bool.eq_false_iff.mpr c8
   subst c8
   have H1 : (spec_l4Line.l0 kj2 l0 a1 0) = some (r1, r2) := z5
   clear H
   have H := H1
   clear H1
   have H' := aM H
   clear H
   go_wp2
   go_loopg [8] kj2 (fun kq v8 w' => ∃ (x8_2 : Int), v8 = .int .i64 x8_2 ∧ Aside0 (spec_l4Line.l0 kq l0 a1 x8_2 = some (r1, r2)) ∧ Aside0 (kq ≤ kj2) ∧ Aside0 (Below w.heap.size w w'))
   case atStart => exact ⟨(0), bS, H', ⟨Nat.le_refl _⟩, ⟨bB⟩⟩
   case round =>
    clear H'
    try clear c1
    try clear p1
    try clear q1
    try clear hx1
    try clear c2
    try clear p2
    try clear q2
    try clear hx2
    try clear hf2
    try clear c4
    try clear c4b0
    try clear c4b1
    try clear p5
    try clear q5
    try clear hx5
    try clear qi5
    try clear c6
    try clear c6b0
    try clear c6b1
    try clear p6
    try clear p7
    try clear q7
    try clear hx7
    try clear qi7
    try clear c8
    try clear c9
    try clear c9b0
    try clear c9b1
    try clear c9b2
    try clear c10
    try clear c12
    try clear c12b0
    try clear c13
    try clear c13b0
    try clear c14
    try clear c14b0
    try clear c14b1
    try clear c14b2
    try clear c15
    try clear p15
    try clear q15
    try clear hx15
    try clear hf15
    try clear c20
    try clear hx20
    try clear hf20
    try clear hx15_0
    try clear hx15_1
    try clear hx20_1
    try clear hx265_0
    try clear hx265_1
    try clear p15
    try clear p2
    try clear p265
    try clear p5
    try clear p7
    try clear q15
    try clear q265
    try clear q5
    try clear q7
    obtain ⟨x8_2, rfl, HA, HK2, HB⟩ := hrel
    cases gk with
    | zero => exact absurd HA.out (by simp [spec_l4Line.l0])
    | succ k2 =>
     have H := HA.out
     clear HA
     simp only [spec_l4Line.l0] at H
     by_cases c22 : x8_2 < (a1.size : Int)
     ·rw [if_pos c22] at H
      have c22b0 : decide (x8_2 < (a1.size : Int)) = true := decide_eq_true c22
      clear c22
      by_cases c23 : 0 ≤ x8_2
      ·rw [if_pos c23] at H
       have c23b0 : decide (0 ≤ x8_2) = true := decide_eq_true c23
       clear c23
       have HQ_ := aM H
       clear H
       have p24 : 0 ≤ (x8_2 : Int) := pI
       have q24 : x8_2 < (a1.size : Int) := pI
       have hx24 := bt_at a1 x8_2
       replace p24 := eq_true p24
       replace q24 := eq_true q24
       have H := HQ_.out
       clear HQ_
       by_cases c25 : (bt a1 x8_2) = 58
       ·rw [if_pos c25] at H
        have c25b0 : ((bt a1 x8_2) == 58) = true := beq_iff_eq.mpr c25
        have c25b1 : ((bt a1 x8_2) != 58) = false := bne_eq_false_iff_eq.mpr c25
        clear c25
        obtain ⟨ji26, hji26⟩ : ∃ j_ : Int, (wrap64 (x8_2 + 1)) = j_ := ⟨_, rfl⟩
        replace H : (if 0 ≤ (ji26) then (if (ji26) ≤ (a1.size : Int) then (if (a1.extract ((ji26) : Int).toNat a1.size).toList = ([] : List UInt8) then ((some (([] : List (S70)) : List (S70))).bind fun y267 => (if y267.length + l0.length < 4398046511104 then ((some (y267 ++ l0 : List (S70))).bind fun y270 => (if x8_2 ≤ (a1.size : Int) then ((some (([(⟨a1.extract 0 (x8_2 : Int).toNat, a1.extract ((ji26) : Int).toNat a1.size⟩ : S70)] : List (S70)) : List (S70))).bind fun y273 => (if y270.length + y273.length < 4398046511104 then (some ((y270 ++ y273), true)) else (none))) else (none))) else (none))) else (if 0 < ((a1.extract ((ji26) : Int).toNat a1.size).size : Int) then (if (bt (a1.extract ((ji26) : Int).toNat a1.size) 0) = 32 then (if 1 ≤ ((a1.extract ((ji26) : Int).toNat a1.size).size : Int) then ((some (([] : List (S70)) : List (S70))).bind fun y279 => (if y279.length + l0.length < 4398046511104 then ((some (y279 ++ l0 : List (S70))).bind fun y282 => (if x8_2 ≤ (a1.size : Int) then ((some (([(⟨a1.extract 0 (x8_2 : Int).toNat, (a1.extract ((ji26) : Int).toNat a1.size).extract 1 (a1.extract ((ji26) : Int).toNat a1.size).size⟩ : S70)] : List (S70)) : List (S70))).bind fun y285 => (if y282.length + y285.length < 4398046511104 then (some ((y282 ++ y285), true)) else (none))) else (none))) else (none))) else (none)) else ((some (([] : List (S70)) : List (S70))).bind fun y291 => (if y291.length + l0.length < 4398046511104 then ((some (y291 ++ l0 : List (S70))).bind fun y294 => (if x8_2 ≤ (a1.size : Int) then ((some (([(⟨a1.extract 0 (x8_2 : Int).toNat, a1.extract ((ji26) : Int).toNat a1.size⟩ : S70)] : List (S70)) : List (S70))).bind fun y297 => (if y294.length + y297.length < 4398046511104 then (some ((y294 ++ y297), true)) else (none))) else (none))) else (none)))) else (none))) else (none)) else (none)) = some (r1, r2) := by first | (rw [hji26] at H; exact H) | (simp only [hji26] at H ⊢; exact H)
        have hji26w : (IntKind.i64.wrap (x8_2 + 1)) = ji26 := (i64_w _).trans hji26
        (try simp only [c25b0, c25b1])
        by_cases c27 : 0 ≤ (ji26)
        ·rw [if_pos c27] at H
         have c27b0 := eq_true c27
         have c27b1 : decide (0 ≤ (ji26)) = true := decide_eq_true c27
         clear c27
         by_cases c28 : (ji26) ≤ (a1.size : Int)
         ·rw [if_pos c28] at H
          have c28b0 := eq_true c28
          have c28b1 : decide ((ji26) ≤ (a1.size : Int)) = true := decide_eq_true c28
          clear c28
          by_cases c29 : (a1.extract ((ji26) : Int).toNat a1.size).toList = ([] : List UInt8)
          ·rw [if_pos c29] at H
           have c29b0 : ((a1.extract ((ji26) : Int).toNat a1.size).toList == ([] : List UInt8)) = true := beq_iff_eq.mpr c29
           have c29b1 : ((a1.extract ((ji26) : Int).toNat a1.size).toList != ([] : List UInt8)) = false := bne_eq_false_iff_eq.mpr c29
           clear c29
           obtain ⟨y267, hy267⟩ : ∃ y_ : List (S70), y_ = (([] : List (S70))) := ⟨_, rfl⟩
           replace H : (if y267.length + l0.length < 4398046511104 then ((some (y267 ++ l0 : List (S70))).bind fun y270 => (if x8_2 ≤ (a1.size : Int) then ((some (([(⟨a1.extract 0 (x8_2 : Int).toNat, a1.extract ((ji26) : Int).toNat a1.size⟩ : S70)] : List (S70)) : List (S70))).bind fun y273 => (if y270.length + y273.length < 4398046511104 then (some ((y270 ++ y273), true)) else (none))) else (none))) else (none)) = some (r1, r2) := z0 hy267
           have Ny267 := aM hy267
           clear hy267
           (try simp only [c29b0, c29b1])
           by_cases c30 : y267.length + l0.length < 4398046511104
           ·rw [if_pos c30] at H
            have LMc30 := aM c30
            clear c30
            obtain ⟨y270, hy270⟩ : ∃ y_ : List (S70), y_ = (y267 ++ l0) := ⟨_, rfl⟩
            replace H : (if x8_2 ≤ (a1.size : Int) then ((some (([(⟨a1.extract 0 (x8_2 : Int).toNat, a1.extract ((ji26) : Int).toNat a1.size⟩ : S70)] : List (S70)) : List (S70))).bind fun y273 => (if y270.length + y273.length < 4398046511104 then (some ((y270 ++ y273), true)) else (none))) else (none)) = some (r1, r2) := z0 hy270
            have Ny270 := aM hy270
            clear hy270
            have c31b0 := eq_true (pI : 0 ≤ x8_2)
            by_cases c32 : x8_2 ≤ (a1.size : Int)
            ·rw [if_pos c32] at H
             have c32b0 := eq_true c32
             have c32b1 : decide (x8_2 ≤ (a1.size : Int)) = true := decide_eq_true c32
             clear c32
             obtain ⟨y273, hy273⟩ : ∃ y_ : List (S70), y_ = (([(⟨a1.extract 0 (x8_2 : Int).toNat, a1.extract ((ji26) : Int).toNat a1.size⟩ : S70)] : List (S70))) := ⟨_, rfl⟩
             replace H : (if y270.length + y273.length < 4398046511104 then (some ((y270 ++ y273), true)) else (none)) = some (r1, r2) := z0 hy273
             have Ny273 := aM hy273
             clear hy273
             by_cases c33 : y270.length + y273.length < 4398046511104
             ·rw [if_pos c33] at H
              have LMc33 := aM c33
              clear c33
              obtain ⟨y276, hy276⟩ : ∃ y_ : List (S70), y_ = (y270 ++ y273) := ⟨_, rfl⟩
              replace H : (some (y276, true)) = some (r1, r2) := z0 hy276
              have Ny276 := aM hy276
              clear hy276
              simp only [Option.some.injEq, Prod.mk.injEq] at H
              obtain ⟨rfl, rfl⟩ := H
              try go_wp2
              replace HB := aM (below_drew1 HB.out)
              refine start_ (n := 12) (S := fun w' => True) (ds := []) (bsA 12 0) (by kernel_rfl) rfl rfl trivial (fun hHeld => ?_); refine with_tabW spec_l4Line.tab15 spec_l4Line.bits15 (fun HT_ HW_ => ?_)
              generalize wr.drew = w34 at HB hHeld ⊢
              refine pa_ (i := 1) (N := some 63) (bsA 12 2) (h := ?_)
              refine pa_ (i := 3) (N := some 65) (bsA 12 10) (h := ?_)
              refine pa_ (i := 4) (N := some 66) (bsA 12 26) (h := ?_)
              refine pa_ (i := 5) (N := some 67) (bsA 12 58) (h := ?_)
              refine pa_ (i := 6) (N := some 68) (bsA 12 122) (h := ?_)
              refine pa_ (i := 7) (N := some 69) (bsA 12 250) (h := ?_)
              refine join_ (σ := Value × Value × Value) 3 (bsA 12 511) (fun s_ => [(62, s_.1), (64, s_.2.1), (70, s_.2.2)]) (fun s_ w' => (Kd.R k70 70 w' w.heap.size (fun k_ => some k_ ≠ (s_.2.2 : Value).ownBlock) s_.2.1 y270) ∧ (Kd.R k70 70 w' w.heap.size (fun k_ => some k_ ≠ (s_.2.1 : Value).ownBlock) s_.2.2 y273) ∧ (Below w.heap.size w w')) ?_ ?_
              rotate_left
              ·intro hCont
               refine two_ (i := 0) (j := 8) (Ni := some 62) (Nj := some 70) (bsA 12 251) (bsA 12 506) rfl rfl rfl rfl (two_of HT_.out (by kernel_rfl)) (by decide) (by decide) (fun K hK => ?_) (fun K hK => ?_)
               ·skip
                refine Kd.R_lit_step k70 _ 70 ?hg (N := 62) ?hd (xs := ([] : List (S70))) (inner := []) (ok := fun _ => True) (okp := fun _ => True) ?hr ?hp (fun _ hk => hk) trivial (Below.refl _ _) (Nat.le_refl _) (by simp) ?_; (case hd => rfl); (case hg => rfl); (case hr => exact z8); (case hp => exact (Reps.none _ _))
                intro v268 w35 ho36 hb hg_ hnew_
                clear hg_ hnew_
                (first | rw [← Ny267.out] at ho36 | (simp only [Int.reduceToNat] at ho36; rw [← Ny267.out] at ho36))
                have HO269 := aM (Kd.R_lower ho36 (below_size bB))
                replace HB := aM (below_step bB hb)
                clear hb ho36
                refine hK.out _ _ trivial (fun hHeld => ?_)
                clear hK K
                refine na_ (N := some 62) (h := ?_)
                refine two_ (i := 2) (j := 8) (Ni := some 64) (Nj := some 70) (bsA 12 255) (bsA 12 507) rfl rfl rfl rfl (two_of HT_.out (by kernel_rfl)) (by decide) (by decide) (fun K hK => ?_) (fun K hK => ?_)
                ·skip
                 refine Kd.R_append_rows_step k70 (w0 := w) w.heap.size (by rfl) (.tmp 62) (.tmp 63) 43 70 (.agg #[(.string ⟨#[]⟩), (.string ⟨#[]⟩)]) 32 rfl Tryz.underlying43 info70 rfl (by decide) (by omega) v268 y267 l0 _ _ _ (fun _ => True) (fun _ => False) rfl rfl ?aO ?aR (fun _ _ h => h) (fun _ h => h.elim) ?aF ?aB ?aS ?aL ?_
                 (case aR => exact z4 HR0.out)
                 (case aB => exact bB)
                 (case aF => exact (fun _ _ => trivial))
                 (case aO => exact (bR HO269))
                 (case aS => exact (below_size bB))
                 (case aL => have := LMc30.out; omega)
                 intro v271 w37 ho hb hg hat
                 rw [← Ny270.out] at ho
                 have n0_ := aM (hb)
                 have n1_ := aM (ho)
                 clear HB
                 clear HO269
                 have HB := n0_
                 have HO272 := n1_
                 clear n0_ n1_
                 clear ho hb hg hat
                 refine hK.out _ _ trivial (fun hHeld => ?_)
                 clear hK K
                 refine na_ (N := some 64) (h := ?_)
                 refine one_ (i := 8) (N := some 70) (bsA 12 511) rfl rfl (one_of HT_.out (by kernel_rfl)) (by decide) (fun K hK => ?_)
                 refine Kd.R_lit_step k70 _ 70 ?hg (N := 70) ?hd (xs := ([(⟨a1.extract 0 (x8_2 : Int).toNat, a1.extract ((ji26) : Int).toNat a1.size⟩ : S70)] : List (S70))) (inner := [.string (a1.extract 0 (x8_2 : Int).toNat), .string (a1.extract ((ji26) : Int).toNat a1.size)]) (ok := fun _ => True) (okp := fun _ => True) ?hr ?hp (fun _ hk => hk) trivial (Below.refl _ _) (Nat.le_refl _) (by simp) ?_; (case hd => rfl); (case hg => rfl); (case hr => exact z8); (case hp => exact (Reps.c2 (show Kd.M k70 _ _ _ (⟨a1.extract 0 (x8_2 : Int).toNat, a1.extract ((ji26) : Int).toNat a1.size⟩ : S70) [.string (a1.extract 0 (x8_2 : Int).toNat), .string (a1.extract ((ji26) : Int).toNat a1.size)] from (k70_mkM _ _ _ (⟨a1.extract 0 (x8_2 : Int).toNat, a1.extract ((ji26) : Int).toNat a1.size⟩ : S70) )) (Reps.none _ _)))
                 intro v274 w38 ho39 hb hg_ hnew_
                 clear hg_ hnew_
                 (first | rw [← Ny273.out] at ho39 | (simp only [Int.reduceToNat] at ho39; rw [← Ny273.out] at ho39))
                 have HO275 := aM (Kd.R_lower (Kd.R_new' ho39 (Kd.R_lt (bR HO272))) (below_size bB))
                 replace HO272 := aM (Kd.R_elder' (bR HO272) (Kd.R_base ho39) hb)
                 replace HB := aM (below_step bB hb)
                 clear hb ho39
                 refine hK.out _ _ trivial (fun hHeld => ?_)
                 clear hK K
                 refine na_ (N := some 70) (h := ?_)
                 exact norm_ z31 (hCont (v268, v271, v274) _ ⟨(z6 HO272.out), (z6 HO275.out), bB⟩)
                skip
                refine Kd.R_lit_step k70 _ 70 ?hg (N := 70) ?hd (xs := ([(⟨a1.extract 0 (x8_2 : Int).toNat, a1.extract ((ji26) : Int).toNat a1.size⟩ : S70)] : List (S70))) (inner := [.string (a1.extract 0 (x8_2 : Int).toNat), .string (a1.extract ((ji26) : Int).toNat a1.size)]) (ok := fun _ => True) (okp := fun _ => True) ?hr ?hp (fun _ hk => hk) trivial (Below.refl _ _) (Nat.le_refl _) (by simp) ?_; (case hd => rfl); (case hg => rfl); (case hr => exact z8); (case hp => exact (Reps.c2 (show Kd.M k70 _ _ _ (⟨a1.extract 0 (x8_2 : Int).toNat, a1.extract ((ji26) : Int).toNat a1.size⟩ : S70) [.string (a1.extract 0 (x8_2 : Int).toNat), .string (a1.extract ((ji26) : Int).toNat a1.size)] from (k70_mkM _ _ _ (⟨a1.extract 0 (x8_2 : Int).toNat, a1.extract ((ji26) : Int).toNat a1.size⟩ : S70) )) (Reps.none _ _)))
                intro v274 w37 ho38 hb hg_ hnew_
                clear hg_ hnew_
                (first | rw [← Ny273.out] at ho38 | (simp only [Int.reduceToNat] at ho38; rw [← Ny273.out] at ho38))
                have HO275 := aM (Kd.R_lower (Kd.R_new' ho38 (Kd.R_lt (bR HO269))) (below_size bB))
                replace HO269 := aM (Kd.R_elder' (bR HO269) (Kd.R_base ho38) hb)
                replace HB := aM (below_step bB hb)
                clear hb ho38
                refine hK.out _ _ trivial (fun hHeld => ?_)
                clear hK K
                refine na_ (N := some 70) (h := ?_)
                refine one_ (i := 2) (N := some 64) (bsA 12 511) rfl rfl (one_of HT_.out (by kernel_rfl)) (by decide) (fun K hK => ?_)
                refine Kd.R_append_rows_step k70 (w0 := w) w.heap.size (by rfl) (.tmp 62) (.tmp 63) 43 70 (.agg #[(.string ⟨#[]⟩), (.string ⟨#[]⟩)]) 32 rfl Tryz.underlying43 info70 rfl (by decide) (by omega) v268 y267 l0 _ _ _ (fun k_ => some k_ ≠ (v274 : Value).ownBlock) (fun _ => False) rfl rfl ?aO ?aR (fun _ _ h => h) (fun _ h => h.elim) ?aF ?aB ?aS ?aL ?_
                (case aR => exact z4 HR0.out)
                (case aB => exact bB)
                (case aF => exact (fun k_ hk => Kd.fresh' (Kd.R_lt (bR HO275)) k_ hk))
                (case aO => exact z10 HO269.out)
                (case aS => exact (below_size bB))
                (case aL => have := LMc30.out; omega)
                intro v271 w39 ho hb hg hat
                rw [← Ny270.out] at ho
                have n0_ := aM (Kd.R_after (ok := (fun _ => True)) (bR HO275) hg hat)
                have n1_ := aM (hb)
                have n2_ := aM (ho)
                clear HO275
                clear HB
                clear HO269
                have HO275 := n0_
                have HB := n1_
                have HO272 := n2_
                clear n0_ n1_ n2_
                clear ho hb hg hat
                refine hK.out _ _ trivial (fun hHeld => ?_)
                clear hK K
                refine na_ (N := some 64) (h := ?_)
                exact norm_ z31 (hCont (v268, v271, v274) _ ⟨(bR HO272), (z6 HO275.out), bB⟩)
               skip
               refine Kd.R_lit_step k70 _ 70 ?hg (N := 70) ?hd (xs := ([(⟨a1.extract 0 (x8_2 : Int).toNat, a1.extract ((ji26) : Int).toNat a1.size⟩ : S70)] : List (S70))) (inner := [.string (a1.extract 0 (x8_2 : Int).toNat), .string (a1.extract ((ji26) : Int).toNat a1.size)]) (ok := fun _ => True) (okp := fun _ => True) ?hr ?hp (fun _ hk => hk) trivial (Below.refl _ _) (Nat.le_refl _) (by simp) ?_; (case hd => rfl); (case hg => rfl); (case hr => exact z8); (case hp => exact (Reps.c2 (show Kd.M k70 _ _ _ (⟨a1.extract 0 (x8_2 : Int).toNat, a1.extract ((ji26) : Int).toNat a1.size⟩ : S70) [.string (a1.extract 0 (x8_2 : Int).toNat), .string (a1.extract ((ji26) : Int).toNat a1.size)] from (k70_mkM _ _ _ (⟨a1.extract 0 (x8_2 : Int).toNat, a1.extract ((ji26) : Int).toNat a1.size⟩ : S70) )) (Reps.none _ _)))
               intro v274 w35 ho36 hb hg_ hnew_
               clear hg_ hnew_
               (first | rw [← Ny273.out] at ho36 | (simp only [Int.reduceToNat] at ho36; rw [← Ny273.out] at ho36))
               have HO275 := aM (Kd.R_lower ho36 (below_size bB))
               replace HB := aM (below_step bB hb)
               clear hb ho36
               refine hK.out _ _ trivial (fun hHeld => ?_)
               clear hK K
               refine na_ (N := some 70) (h := ?_)
               refine one_ (i := 0) (N := some 62) (bsA 12 507) rfl rfl (one_of HT_.out (by kernel_rfl)) (by decide) (fun K hK => ?_)
               refine Kd.R_lit_step k70 _ 70 ?hg (N := 62) ?hd (xs := ([] : List (S70))) (inner := []) (ok := fun _ => True) (okp := fun _ => True) ?hr ?hp (fun _ hk => hk) trivial (Below.refl _ _) (Nat.le_refl _) (by simp) ?_; (case hd => rfl); (case hg => rfl); (case hr => exact z8); (case hp => exact (Reps.none _ _))
               intro v268 w37 ho38 hb hg_ hnew_
               clear hg_ hnew_
               (first | rw [← Ny267.out] at ho38 | (simp only [Int.reduceToNat] at ho38; rw [← Ny267.out] at ho38))
               have HO269 := aM (Kd.R_lower (Kd.R_new' ho38 (Kd.R_lt (bR HO275))) (below_size bB))
               replace HO275 := aM (Kd.R_elder' (bR HO275) (Kd.R_base ho38) hb)
               replace HB := aM (below_step bB hb)
               clear hb ho38
               refine hK.out _ _ trivial (fun hHeld => ?_)
               clear hK K
               refine na_ (N := some 62) (h := ?_)
               refine one_ (i := 2) (N := some 64) (bsA 12 511) rfl rfl (one_of HT_.out (by kernel_rfl)) (by decide) (fun K hK => ?_)
               refine Kd.R_append_rows_step k70 (w0 := w) w.heap.size (by rfl) (.tmp 62) (.tmp 63) 43 70 (.agg #[(.string ⟨#[]⟩), (.string ⟨#[]⟩)]) 32 rfl Tryz.underlying43 info70 rfl (by decide) (by omega) v268 y267 l0 _ _ _ (fun k_ => some k_ ≠ (v274 : Value).ownBlock) (fun _ => False) rfl rfl ?aO ?aR (fun _ _ h => h) (fun _ h => h.elim) ?aF ?aB ?aS ?aL ?_
               (case aR => exact z4 HR0.out)
               (case aB => exact bB)
               (case aF => exact (fun k_ hk => Kd.fresh' (Kd.R_lt (bR HO275)) k_ hk))
               (case aO => exact z10 HO269.out)
               (case aS => exact (below_size bB))
               (case aL => have := LMc30.out; omega)
               intro v271 w39 ho hb hg hat
               rw [← Ny270.out] at ho
               have n0_ := aM (Kd.R_after (ok := (fun _ => True)) (bR HO275) hg hat)
               have n1_ := aM (hb)
               have n2_ := aM (ho)
               clear HO275
               clear HB
               clear HO269
               have HO275 := n0_
               have HB := n1_
               have HO272 := n2_
               clear n0_ n1_ n2_
               clear ho hb hg hat
               refine hK.out _ _ trivial (fun hHeld => ?_)
               clear hK K
               refine na_ (N := some 64) (h := ?_)
               exact norm_ z31 (hCont (v268, v271, v274) _ ⟨(bR HO272), (z6 HO275.out), bB⟩)
              rintro ⟨v268, v271, v274⟩ w40 ⟨h0_, h1_, h2_⟩
              have n0_ : Aside0 (Kd.R k70 70 w40 w.heap.size (fun k_ => some k_ ≠ (v274 : Value).ownBlock) v271 y270) := ⟨h0_⟩
              have n1_ : Aside0 (Kd.R k70 70 w40 w.heap.size (fun k_ => some k_ ≠ (v271 : Value).ownBlock) v274 y273) := ⟨h1_⟩
              have n2_ : Aside0 (Below w.heap.size w w40) := ⟨h2_⟩
              clear HB
              clear h0_ h1_ h2_
              have HO272 := n0_
              have HO275 := n1_
              have HB := n2_
              clear n0_ n1_ n2_
              have hHeld := trivial
              obtain ⟨Ao42, co42, eo42⟩ := Kd.R_slice HO275.out
              (first | subst eo42 | (injection eo42 with f1_ f2_ f3_; have f4_ := f1_.symm; have f5_ := f3_.symm; clear f1_ f2_ f3_; subst f4_; subst f5_))
              refine norm_ (a' := ?_) ?_ ?_
              rotate_left
              ·simp only [putAll, Act.put, List.setIfInBounds_toArray, List.set_cons_zero, List.set_cons_succ]
               rfl
              refine one_ (i := 9) (N := some 71) (bsA 12 1023) rfl rfl (one_of HT_.out (by kernel_rfl)) (by decide) (fun K hK => ?_)
              refine Kd.R_append_rows_step k70 (w0 := w) w.heap.size (by rfl) (.tmp 64) (.tmp 70) 43 70 (.agg #[(.string ⟨#[]⟩), (.string ⟨#[]⟩)]) 32 rfl Tryz.underlying43 info70 rfl (by decide) (by omega) v271 y270 y273 _ _ _ (fun k_ => some k_ ≠ (.slice Ao42 y273.length co42 : Value).ownBlock) (fun _ => False) rfl rfl ?aO ?aR (fun _ _ h => h) (fun _ h => h.elim) ?aF ?aB ?aS ?aL ?_
              (case aR => exact z2 HO275.out)
              (case aB => exact bB)
              (case aF => exact (fun k_ hk => Kd.fresh' (Kd.R_lt (bR HO275)) k_ hk))
              (case aO => exact (bR HO272))
              (case aS => exact (below_size bB))
              (case aL => have := LMc33.out; omega)
              intro v277 w41 ho hb hg hat
              rw [← Ny276.out] at ho
              have n0_ := aM (Kd.R_after (ok := (fun _ => True)) (z32 HO275.out) hg hat)
              have n1_ := aM (hb)
              have n2_ := aM (ho)
              clear HO275
              clear HB
              clear HO272
              have HO275 := n0_
              have HB := n1_
              have HO278 := n2_
              clear n0_ n1_ n2_
              clear ho hb hg hat
              refine hK.out _ _ trivial (fun hHeld => ?_)
              clear hK K
              refine na_ (N := some 71) (h := ?_)
              refine pa_ (i := 10) (N := some 4) (bsA 12 2047) (h := ?_)
              refine pa_ (i := 11) (N := some 5) (bsA 12 4095) (h := ?_)
              refine done_ (done_of HT_.out (by kernel_rfl)) ?_
              try go_wp2
              go_ret2
              exact ⟨_, z38, z9 HO278.out, bB⟩
             rw [if_neg c33] at H
             exact absurd H (by simp)
            rw [if_neg c32] at H
            exact absurd H (by simp)
           rw [if_neg c30] at H
           exact absurd H (by simp)
          rw [if_neg c29] at H
          have c29b0 : ((a1.extract ((ji26) : Int).toNat a1.size).toList == ([] : List UInt8)) = false := beq_eq_false_iff_ne.mpr c29
          have c29b1 : ((a1.extract ((ji26) : Int).toNat a1.size).toList != ([] : List UInt8)) = true := bne_iff_ne.mpr c29
          (try simp only [c29b0, c29b1])
          by_cases c43 : 0 < ((a1.extract ((ji26) : Int).toNat a1.size).size : Int)
          ·rw [if_pos c43] at H
           have c43b0 : decide (0 < ((a1.extract ((ji26) : Int).toNat a1.size).size : Int)) = true := decide_eq_true c43
           (try (have c43e : ((ji26) : Int).toNat < a1.size := by have h_ := c43; rw [ByteArray.size_extract] at h_; omega))
           (try (have c43e1 : decide (((ji26) : Int).toNat < a1.size) = true := decide_eq_true (by omega)))
           (try (have c43e2 : decide (0 < a1.size - ((ji26) : Int).toNat) = true := decide_eq_true (by omega)))
           (try (have c43e3 : decide ((0 : Int) < ((a1.size - ((ji26) : Int).toNat : Nat) : Int)) = true := decide_eq_true (by omega)))
           (try (have c43e4 : decide (1 ≤ a1.size - ((ji26) : Int).toNat) = true := decide_eq_true (by omega)))
           (try (have c43e5 : decide ((1 : Int) ≤ ((a1.size - ((ji26) : Int).toNat : Nat) : Int)) = true := decide_eq_true (by omega)))
           (try (have c43e6 : decide ((ji26) < (a1.size : Int)) = true := decide_eq_true (by omega)))
           have c43b1 : decide (0 < (a1.extract ((ji26) : Int).toNat a1.size).size) = true := decide_eq_true (by omega)
           clear c43
           have HQ_ := aM H
           clear H
           have p44 : 0 ≤ (0 : Int) := (by omega)
           have q44 : 0 < (a1.extract ((ji26) : Int).toNat a1.size).size := (by have : (0 : Int) < ((a1.extract ((ji26) : Int).toNat a1.size).size : Int) := pI; omega)
           have hx44 : ∀ h : 0 < (a1.extract ((ji26) : Int).toNat a1.size).size, (((a1.extract ((ji26) : Int).toNat a1.size)[0]'h).toNat : Int) = bt (a1.extract ((ji26) : Int).toNat a1.size) 0 := bt_at (a1.extract ((ji26) : Int).toNat a1.size) 0
           clear p44
           have qi44 : (0 < ((a1.extract ((ji26) : Int).toNat a1.size).size : Int)) = True := eq_true (pI)
           replace q44 := eq_true q44
           have H := HQ_.out
           clear HQ_
           by_cases c45 : (bt (a1.extract ((ji26) : Int).toNat a1.size) 0) = 32
           ·rw [if_pos c45] at H
            have c45b0 : ((bt (a1.extract ((ji26) : Int).toNat a1.size) 0) == 32) = true := beq_iff_eq.mpr c45
            have c45b1 : ((bt (a1.extract ((ji26) : Int).toNat a1.size) 0) != 32) = false := bne_eq_false_iff_eq.mpr c45
            clear c45
            (try simp only [c45b0, c45b1])
            by_cases c46 : 1 ≤ ((a1.extract ((ji26) : Int).toNat a1.size).size : Int)
            ·rw [if_pos c46] at H
             have c46b0 := eq_true c46
             have c46b1 : decide (1 ≤ ((a1.extract ((ji26) : Int).toNat a1.size).size : Int)) = true := decide_eq_true c46
             (try (have c46e : ((ji26) : Int).toNat < a1.size := by have h_ := c46; rw [ByteArray.size_extract] at h_; omega))
             (try (have c46e1 : decide (((ji26) : Int).toNat < a1.size) = true := decide_eq_true (by omega)))
             (try (have c46e2 : decide (0 < a1.size - ((ji26) : Int).toNat) = true := decide_eq_true (by omega)))
             (try (have c46e3 : decide ((0 : Int) < ((a1.size - ((ji26) : Int).toNat : Nat) : Int)) = true := decide_eq_true (by omega)))
             (try (have c46e4 : decide (1 ≤ a1.size - ((ji26) : Int).toNat) = true := decide_eq_true (by omega)))
             (try (have c46e5 : decide ((1 : Int) ≤ ((a1.size - ((ji26) : Int).toNat : Nat) : Int)) = true := decide_eq_true (by omega)))
             (try (have c46e6 : decide ((ji26) < (a1.size : Int)) = true := decide_eq_true (by omega)))
             clear c46
             obtain ⟨y279, hy279⟩ : ∃ y_ : List (S70), y_ = (([] : List (S70))) := ⟨_, rfl⟩
             replace H : (if y279.length + l0.length < 4398046511104 then ((some (y279 ++ l0 : List (S70))).bind fun y282 => (if x8_2 ≤ (a1.size : Int) then ((some (([(⟨a1.extract 0 (x8_2 : Int).toNat, (a1.extract ((ji26) : Int).toNat a1.size).extract 1 (a1.extract ((ji26) : Int).toNat a1.size).size⟩ : S70)] : List (S70)) : List (S70))).bind fun y285 => (if y282.length + y285.length < 4398046511104 then (some ((y282 ++ y285), true)) else (none))) else (none))) else (none)) = some (r1, r2) := z0 hy279
             have Ny279 := aM hy279
             clear hy279
             by_cases c47 : y279.length + l0.length < 4398046511104
             ·rw [if_pos c47] at H
              have LMc47 := aM c47
              clear c47
              obtain ⟨y282, hy282⟩ : ∃ y_ : List (S70), y_ = (y279 ++ l0) := ⟨_, rfl⟩
              replace H : (if x8_2 ≤ (a1.size : Int) then ((some (([(⟨a1.extract 0 (x8_2 : Int).toNat, (a1.extract ((ji26) : Int).toNat a1.size).extract 1 (a1.extract ((ji26) : Int).toNat a1.size).size⟩ : S70)] : List (S70)) : List (S70))).bind fun y285 => (if y282.length + y285.length < 4398046511104 then (some ((y282 ++ y285), true)) else (none))) else (none)) = some (r1, r2) := z0 hy282
              have Ny282 := aM hy282
              clear hy282
              have c48b0 := eq_true (pI : 0 ≤ x8_2)
              by_cases c49 : x8_2 ≤ (a1.size : Int)
              ·rw [if_pos c49] at H
               have c49b0 := eq_true c49
               have c49b1 : decide (x8_2 ≤ (a1.size : Int)) = true := decide_eq_true c49
               clear c49
               obtain ⟨y285, hy285⟩ : ∃ y_ : List (S70), y_ = (([(⟨a1.extract 0 (x8_2 : Int).toNat, (a1.extract ((ji26) : Int).toNat a1.size).extract 1 (a1.extract ((ji26) : Int).toNat a1.size).size⟩ : S70)] : List (S70))) := ⟨_, rfl⟩
               replace H : (if y282.length + y285.length < 4398046511104 then (some ((y282 ++ y285), true)) else (none)) = some (r1, r2) := z0 hy285
               have Ny285 := aM hy285
               clear hy285
               by_cases c50 : y282.length + y285.length < 4398046511104
               ·rw [if_pos c50] at H
                have LMc50 := aM c50
                clear c50
                obtain ⟨y288, hy288⟩ : ∃ y_ : List (S70), y_ = (y282 ++ y285) := ⟨_, rfl⟩
                replace H : (some (y288, true)) = some (r1, r2) := z0 hy288
                have Ny288 := aM hy288
                clear hy288
                simp only [Option.some.injEq, Prod.mk.injEq] at H
                obtain ⟨rfl, rfl⟩ := H
                try go_wp2
                replace HB := aM (below_drew1 HB.out)
                refine start_ (n := 12) (S := fun w' => True) (ds := []) (bsA 12 0) (by kernel_rfl) rfl rfl trivial (fun hHeld => ?_); refine with_tabW spec_l4Line.tab15 spec_l4Line.bits15 (fun HT_ HW_ => ?_)
                generalize wr.drew = w51 at HB hHeld ⊢
                refine pa_ (i := 1) (N := some 63) (bsA 12 2) (h := ?_)
                refine pa_ (i := 3) (N := some 65) (bsA 12 10) (h := ?_)
                refine pa_ (i := 4) (N := some 66) (bsA 12 26) (h := ?_)
                refine pa_ (i := 5) (N := some 67) (bsA 12 58) (h := ?_)
                refine pa_ (i := 6) (N := some 68) (bsA 12 122) (h := ?_)
                refine pa_ (i := 7) (N := some 69) (bsA 12 250) (h := ?_)
                refine join_ (σ := Value × Value × Value) 3 (bsA 12 511) (fun s_ => [(62, s_.1), (64, s_.2.1), (70, s_.2.2)]) (fun s_ w' => (Kd.R k70 70 w' w.heap.size (fun k_ => some k_ ≠ (s_.2.2 : Value).ownBlock) s_.2.1 y282) ∧ (Kd.R k70 70 w' w.heap.size (fun k_ => some k_ ≠ (s_.2.1 : Value).ownBlock) s_.2.2 y285) ∧ (Below w.heap.size w w')) ?_ ?_
                rotate_left
                ·intro hCont
                 refine two_ (i := 0) (j := 8) (Ni := some 62) (Nj := some 70) (bsA 12 251) (bsA 12 506) rfl rfl rfl rfl (two_of HT_.out (by kernel_rfl)) (by decide) (by decide) (fun K hK => ?_) (fun K hK => ?_)
                 ·skip
                  refine Kd.R_lit_step k70 _ 70 ?hg (N := 62) ?hd (xs := ([] : List (S70))) (inner := []) (ok := fun _ => True) (okp := fun _ => True) ?hr ?hp (fun _ hk => hk) trivial (Below.refl _ _) (Nat.le_refl _) (by simp) ?_; (case hd => rfl); (case hg => rfl); (case hr => exact z8); (case hp => exact (Reps.none _ _))
                  intro v280 w52 ho53 hb hg_ hnew_
                  clear hg_ hnew_
                  (first | rw [← Ny279.out] at ho53 | (simp only [Int.reduceToNat] at ho53; rw [← Ny279.out] at ho53))
                  have HO281 := aM (Kd.R_lower ho53 (below_size bB))
                  replace HB := aM (below_step bB hb)
                  clear hb ho53
                  refine hK.out _ _ trivial (fun hHeld => ?_)
                  clear hK K
                  refine na_ (N := some 62) (h := ?_)
                  refine two_ (i := 2) (j := 8) (Ni := some 64) (Nj := some 70) (bsA 12 255) (bsA 12 507) rfl rfl rfl rfl (two_of HT_.out (by kernel_rfl)) (by decide) (by decide) (fun K hK => ?_) (fun K hK => ?_)
                  ·skip
                   refine Kd.R_append_rows_step k70 (w0 := w) w.heap.size (by rfl) (.tmp 62) (.tmp 63) 43 70 (.agg #[(.string ⟨#[]⟩), (.string ⟨#[]⟩)]) 32 rfl Tryz.underlying43 info70 rfl (by decide) (by omega) v280 y279 l0 _ _ _ (fun _ => True) (fun _ => False) rfl rfl ?aO ?aR (fun _ _ h => h) (fun _ h => h.elim) ?aF ?aB ?aS ?aL ?_
                   (case aR => exact z4 HR0.out)
                   (case aB => exact bB)
                   (case aF => exact (fun _ _ => trivial))
                   (case aO => exact (bR HO281))
                   (case aS => exact (below_size bB))
                   (case aL => have := LMc47.out; omega)
                   intro v283 w54 ho hb hg hat
                   rw [← Ny282.out] at ho
                   have n0_ := aM (hb)
                   have n1_ := aM (ho)
                   clear HB
                   clear HO281
                   have HB := n0_
                   have HO284 := n1_
                   clear n0_ n1_
                   clear ho hb hg hat
                   refine hK.out _ _ trivial (fun hHeld => ?_)
                   clear hK K
                   refine na_ (N := some 64) (h := ?_)
                   refine one_ (i := 8) (N := some 70) (bsA 12 511) rfl rfl (one_of HT_.out (by kernel_rfl)) (by decide) (fun K hK => ?_)
                   refine Kd.R_lit_step k70 _ 70 ?hg (N := 70) ?hd (xs := ([(⟨a1.extract 0 (x8_2 : Int).toNat, (a1.extract ((ji26) : Int).toNat a1.size).extract 1 (a1.extract ((ji26) : Int).toNat a1.size).size⟩ : S70)] : List (S70))) (inner := [.string (a1.extract 0 (x8_2 : Int).toNat), .string ((a1.extract ((ji26) : Int).toNat a1.size).extract 1 (a1.extract ((ji26) : Int).toNat a1.size).size)]) (ok := fun _ => True) (okp := fun _ => True) ?hr ?hp (fun _ hk => hk) trivial (Below.refl _ _) (Nat.le_refl _) (by simp) ?_; (case hd => rfl); (case hg => rfl); (case hr => exact z8); (case hp => exact (Reps.c2 (show Kd.M k70 _ _ _ (⟨a1.extract 0 (x8_2 : Int).toNat, (a1.extract ((ji26) : Int).toNat a1.size).extract 1 (a1.extract ((ji26) : Int).toNat a1.size).size⟩ : S70) [.string (a1.extract 0 (x8_2 : Int).toNat), .string ((a1.extract ((ji26) : Int).toNat a1.size).extract 1 (a1.extract ((ji26) : Int).toNat a1.size).size)] from (k70_mkM _ _ _ (⟨a1.extract 0 (x8_2 : Int).toNat, (a1.extract ((ji26) : Int).toNat a1.size).extract 1 (a1.extract ((ji26) : Int).toNat a1.size).size⟩ : S70) )) (Reps.none _ _)))
                   intro v286 w55 ho56 hb hg_ hnew_
                   clear hg_ hnew_
                   (first | rw [← Ny285.out] at ho56 | (simp only [Int.reduceToNat] at ho56; rw [← Ny285.out] at ho56))
                   have HO287 := aM (Kd.R_lower (Kd.R_new' ho56 (Kd.R_lt (bR HO284))) (below_size bB))
                   replace HO284 := aM (Kd.R_elder' (bR HO284) (Kd.R_base ho56) hb)
                   replace HB := aM (below_step bB hb)
                   clear hb ho56
                   refine hK.out _ _ trivial (fun hHeld => ?_)
                   clear hK K
                   refine na_ (N := some 70) (h := ?_)
                   exact norm_ z31 (hCont (v280, v283, v286) _ ⟨(z6 HO284.out), (z6 HO287.out), bB⟩)
                  skip
                  refine Kd.R_lit_step k70 _ 70 ?hg (N := 70) ?hd (xs := ([(⟨a1.extract 0 (x8_2 : Int).toNat, (a1.extract ((ji26) : Int).toNat a1.size).extract 1 (a1.extract ((ji26) : Int).toNat a1.size).size⟩ : S70)] : List (S70))) (inner := [.string (a1.extract 0 (x8_2 : Int).toNat), .string ((a1.extract ((ji26) : Int).toNat a1.size).extract 1 (a1.extract ((ji26) : Int).toNat a1.size).size)]) (ok := fun _ => True) (okp := fun _ => True) ?hr ?hp (fun _ hk => hk) trivial (Below.refl _ _) (Nat.le_refl _) (by simp) ?_; (case hd => rfl); (case hg => rfl); (case hr => exact z8); (case hp => exact (Reps.c2 (show Kd.M k70 _ _ _ (⟨a1.extract 0 (x8_2 : Int).toNat, (a1.extract ((ji26) : Int).toNat a1.size).extract 1 (a1.extract ((ji26) : Int).toNat a1.size).size⟩ : S70) [.string (a1.extract 0 (x8_2 : Int).toNat), .string ((a1.extract ((ji26) : Int).toNat a1.size).extract 1 (a1.extract ((ji26) : Int).toNat a1.size).size)] from (k70_mkM _ _ _ (⟨a1.extract 0 (x8_2 : Int).toNat, (a1.extract ((ji26) : Int).toNat a1.size).extract 1 (a1.extract ((ji26) : Int).toNat a1.size).size⟩ : S70) )) (Reps.none _ _)))
                  intro v286 w54 ho55 hb hg_ hnew_
                  clear hg_ hnew_
                  (first | rw [← Ny285.out] at ho55 | (simp only [Int.reduceToNat] at ho55; rw [← Ny285.out] at ho55))
                  have HO287 := aM (Kd.R_lower (Kd.R_new' ho55 (Kd.R_lt (bR HO281))) (below_size bB))
                  replace HO281 := aM (Kd.R_elder' (bR HO281) (Kd.R_base ho55) hb)
                  replace HB := aM (below_step bB hb)
                  clear hb ho55
                  refine hK.out _ _ trivial (fun hHeld => ?_)
                  clear hK K
                  refine na_ (N := some 70) (h := ?_)
                  refine one_ (i := 2) (N := some 64) (bsA 12 511) rfl rfl (one_of HT_.out (by kernel_rfl)) (by decide) (fun K hK => ?_)
                  refine Kd.R_append_rows_step k70 (w0 := w) w.heap.size (by rfl) (.tmp 62) (.tmp 63) 43 70 (.agg #[(.string ⟨#[]⟩), (.string ⟨#[]⟩)]) 32 rfl Tryz.underlying43 info70 rfl (by decide) (by omega) v280 y279 l0 _ _ _ (fun k_ => some k_ ≠ (v286 : Value).ownBlock) (fun _ => False) rfl rfl ?aO ?aR (fun _ _ h => h) (fun _ h => h.elim) ?aF ?aB ?aS ?aL ?_
                  (case aR => exact z4 HR0.out)
                  (case aB => exact bB)
                  (case aF => exact (fun k_ hk => Kd.fresh' (Kd.R_lt (bR HO287)) k_ hk))
                  (case aO => exact z10 HO281.out)
                  (case aS => exact (below_size bB))
                  (case aL => have := LMc47.out; omega)
                  intro v283 w56 ho hb hg hat
                  rw [← Ny282.out] at ho
                  have n0_ := aM (Kd.R_after (ok := (fun _ => True)) (bR HO287) hg hat)
                  have n1_ := aM (hb)
                  have n2_ := aM (ho)
                  clear HO287
                  clear HB
                  clear HO281
                  have HO287 := n0_
                  have HB := n1_
                  have HO284 := n2_
                  clear n0_ n1_ n2_
                  clear ho hb hg hat
                  refine hK.out _ _ trivial (fun hHeld => ?_)
                  clear hK K
                  refine na_ (N := some 64) (h := ?_)
                  exact norm_ z31 (hCont (v280, v283, v286) _ ⟨(bR HO284), (z6 HO287.out), bB⟩)
                 skip
                 refine Kd.R_lit_step k70 _ 70 ?hg (N := 70) ?hd (xs := ([(⟨a1.extract 0 (x8_2 : Int).toNat, (a1.extract ((ji26) : Int).toNat a1.size).extract 1 (a1.extract ((ji26) : Int).toNat a1.size).size⟩ : S70)] : List (S70))) (inner := [.string (a1.extract 0 (x8_2 : Int).toNat), .string ((a1.extract ((ji26) : Int).toNat a1.size).extract 1 (a1.extract ((ji26) : Int).toNat a1.size).size)]) (ok := fun _ => True) (okp := fun _ => True) ?hr ?hp (fun _ hk => hk) trivial (Below.refl _ _) (Nat.le_refl _) (by simp) ?_; (case hd => rfl); (case hg => rfl); (case hr => exact z8); (case hp => exact (Reps.c2 (show Kd.M k70 _ _ _ (⟨a1.extract 0 (x8_2 : Int).toNat, (a1.extract ((ji26) : Int).toNat a1.size).extract 1 (a1.extract ((ji26) : Int).toNat a1.size).size⟩ : S70) [.string (a1.extract 0 (x8_2 : Int).toNat), .string ((a1.extract ((ji26) : Int).toNat a1.size).extract 1 (a1.extract ((ji26) : Int).toNat a1.size).size)] from (k70_mkM _ _ _ (⟨a1.extract 0 (x8_2 : Int).toNat, (a1.extract ((ji26) : Int).toNat a1.size).extract 1 (a1.extract ((ji26) : Int).toNat a1.size).size⟩ : S70) )) (Reps.none _ _)))
                 intro v286 w52 ho53 hb hg_ hnew_
                 clear hg_ hnew_
                 (first | rw [← Ny285.out] at ho53 | (simp only [Int.reduceToNat] at ho53; rw [← Ny285.out] at ho53))
                 have HO287 := aM (Kd.R_lower ho53 (below_size bB))
                 replace HB := aM (below_step bB hb)
                 clear hb ho53
                 refine hK.out _ _ trivial (fun hHeld => ?_)
                 clear hK K
                 refine na_ (N := some 70) (h := ?_)
                 refine one_ (i := 0) (N := some 62) (bsA 12 507) rfl rfl (one_of HT_.out (by kernel_rfl)) (by decide) (fun K hK => ?_)
                 refine Kd.R_lit_step k70 _ 70 ?hg (N := 62) ?hd (xs := ([] : List (S70))) (inner := []) (ok := fun _ => True) (okp := fun _ => True) ?hr ?hp (fun _ hk => hk) trivial (Below.refl _ _) (Nat.le_refl _) (by simp) ?_; (case hd => rfl); (case hg => rfl); (case hr => exact z8); (case hp => exact (Reps.none _ _))
                 intro v280 w54 ho55 hb hg_ hnew_
                 clear hg_ hnew_
                 (first | rw [← Ny279.out] at ho55 | (simp only [Int.reduceToNat] at ho55; rw [← Ny279.out] at ho55))
                 have HO281 := aM (Kd.R_lower (Kd.R_new' ho55 (Kd.R_lt (bR HO287))) (below_size bB))
                 replace HO287 := aM (Kd.R_elder' (bR HO287) (Kd.R_base ho55) hb)
                 replace HB := aM (below_step bB hb)
                 clear hb ho55
                 refine hK.out _ _ trivial (fun hHeld => ?_)
                 clear hK K
                 refine na_ (N := some 62) (h := ?_)
                 refine one_ (i := 2) (N := some 64) (bsA 12 511) rfl rfl (one_of HT_.out (by kernel_rfl)) (by decide) (fun K hK => ?_)
                 refine Kd.R_append_rows_step k70 (w0 := w) w.heap.size (by rfl) (.tmp 62) (.tmp 63) 43 70 (.agg #[(.string ⟨#[]⟩), (.string ⟨#[]⟩)]) 32 rfl Tryz.underlying43 info70 rfl (by decide) (by omega) v280 y279 l0 _ _ _ (fun k_ => some k_ ≠ (v286 : Value).ownBlock) (fun _ => False) rfl rfl ?aO ?aR (fun _ _ h => h) (fun _ h => h.elim) ?aF ?aB ?aS ?aL ?_
                 (case aR => exact z4 HR0.out)
                 (case aB => exact bB)
                 (case aF => exact (fun k_ hk => Kd.fresh' (Kd.R_lt (bR HO287)) k_ hk))
                 (case aO => exact z10 HO281.out)
                 (case aS => exact (below_size bB))
                 (case aL => have := LMc47.out; omega)
                 intro v283 w56 ho hb hg hat
                 rw [← Ny282.out] at ho
                 have n0_ := aM (Kd.R_after (ok := (fun _ => True)) (bR HO287) hg hat)
                 have n1_ := aM (hb)
                 have n2_ := aM (ho)
                 clear HO287
                 clear HB
                 clear HO281
                 have HO287 := n0_
                 have HB := n1_
                 have HO284 := n2_
                 clear n0_ n1_ n2_
                 clear ho hb hg hat
                 refine hK.out _ _ trivial (fun hHeld => ?_)
                 clear hK K
                 refine na_ (N := some 64) (h := ?_)
                 exact norm_ z31 (hCont (v280, v283, v286) _ ⟨(bR HO284), (z6 HO287.out), bB⟩)
                rintro ⟨v280, v283, v286⟩ w57 ⟨h0_, h1_, h2_⟩
                have n0_ : Aside0 (Kd.R k70 70 w57 w.heap.size (fun k_ => some k_ ≠ (v286 : Value).ownBlock) v283 y282) := ⟨h0_⟩
                have n1_ : Aside0 (Kd.R k70 70 w57 w.heap.size (fun k_ => some k_ ≠ (v283 : Value).ownBlock) v286 y285) := ⟨h1_⟩
                have n2_ : Aside0 (Below w.heap.size w w57) := ⟨h2_⟩
                clear HB
                clear h0_ h1_ h2_
                have HO284 := n0_
                have HO287 := n1_
                have HB := n2_
                clear n0_ n1_ n2_
                have hHeld := trivial
                obtain ⟨Ao59, co59, eo59⟩ := Kd.R_slice HO287.out
                (first | subst eo59 | (injection eo59 with f1_ f2_ f3_; have f4_ := f1_.symm; have f5_ := f3_.symm; clear f1_ f2_ f3_; subst f4_; subst f5_))
                refine norm_ (a' := ?_) ?_ ?_
                rotate_left
                ·simp only [putAll, Act.put, List.setIfInBounds_toArray, List.set_cons_zero, List.set_cons_succ]
                 rfl
                refine one_ (i := 9) (N := some 71) (bsA 12 1023) rfl rfl (one_of HT_.out (by kernel_rfl)) (by decide) (fun K hK => ?_)
                refine Kd.R_append_rows_step k70 (w0 := w) w.heap.size (by rfl) (.tmp 64) (.tmp 70) 43 70 (.agg #[(.string ⟨#[]⟩), (.string ⟨#[]⟩)]) 32 rfl Tryz.underlying43 info70 rfl (by decide) (by omega) v283 y282 y285 _ _ _ (fun k_ => some k_ ≠ (.slice Ao59 y285.length co59 : Value).ownBlock) (fun _ => False) rfl rfl ?aO ?aR (fun _ _ h => h) (fun _ h => h.elim) ?aF ?aB ?aS ?aL ?_
                (case aR => exact z2 HO287.out)
                (case aB => exact bB)
                (case aF => exact (fun k_ hk => Kd.fresh' (Kd.R_lt (bR HO287)) k_ hk))
                (case aO => exact (bR HO284))
                (case aS => exact (below_size bB))
                (case aL => have := LMc50.out; omega)
                intro v289 w58 ho hb hg hat
                rw [← Ny288.out] at ho
                have n0_ := aM (Kd.R_after (ok := (fun _ => True)) (z32 HO287.out) hg hat)
                have n1_ := aM (hb)
                have n2_ := aM (ho)
                clear HO287
                clear HB
                clear HO284
                have HO287 := n0_
                have HB := n1_
                have HO290 := n2_
                clear n0_ n1_ n2_
                clear ho hb hg hat
                refine hK.out _ _ trivial (fun hHeld => ?_)
                clear hK K
                refine na_ (N := some 71) (h := ?_)
                refine pa_ (i := 10) (N := some 4) (bsA 12 2047) (h := ?_)
                refine pa_ (i := 11) (N := some 5) (bsA 12 4095) (h := ?_)
                refine done_ (done_of HT_.out (by kernel_rfl)) ?_
                try go_wp2
                go_ret2
                exact ⟨_, z38, z9 HO290.out, bB⟩
               rw [if_neg c50] at H
               exact absurd H (by simp)
              rw [if_neg c49] at H
              exact absurd H (by simp)
             rw [if_neg c47] at H
             exact absurd H (by simp)
            rw [if_neg c46] at H
            exact absurd H (by simp)
           rw [if_neg c45] at H
           have c45b0 : ((bt (a1.extract ((ji26) : Int).toNat a1.size) 0) == 32) = false := beq_eq_false_iff_ne.mpr c45
           have c45b1 : ((bt (a1.extract ((ji26) : Int).toNat a1.size) 0) != 32) = true := bne_iff_ne.mpr c45
           obtain ⟨y291, hy291⟩ : ∃ y_ : List (S70), y_ = (([] : List (S70))) := ⟨_, rfl⟩
           replace H : (if y291.length + l0.length < 4398046511104 then ((some (y291 ++ l0 : List (S70))).bind fun y294 => (if x8_2 ≤ (a1.size : Int) then ((some (([(⟨a1.extract 0 (x8_2 : Int).toNat, a1.extract ((ji26) : Int).toNat a1.size⟩ : S70)] : List (S70)) : List (S70))).bind fun y297 => (if y294.length + y297.length < 4398046511104 then (some ((y294 ++ y297), true)) else (none))) else (none))) else (none)) = some (r1, r2) := z0 hy291
           have Ny291 := aM hy291
           clear hy291
           (try simp only [c45b0, c45b1])
           by_cases c60 : y291.length + l0.length < 4398046511104
           ·rw [if_pos c60] at H
            have LMc60 := aM c60
            clear c60
            obtain ⟨y294, hy294⟩ : ∃ y_ : List (S70), y_ = (y291 ++ l0) := ⟨_, rfl⟩
            replace H : (if x8_2 ≤ (a1.size : Int) then ((some (([(⟨a1.extract 0 (x8_2 : Int).toNat, a1.extract ((ji26) : Int).toNat a1.size⟩ : S70)] : List (S70)) : List (S70))).bind fun y297 => (if y294.length + y297.length < 4398046511104 then (some ((y294 ++ y297), true)) else (none))) else (none)) = some (r1, r2) := z0 hy294
            have Ny294 := aM hy294
            clear hy294
            have c61b0 := eq_true (pI : 0 ≤ x8_2)
            by_cases c62 : x8_2 ≤ (a1.size : Int)
            ·rw [if_pos c62] at H
             have c62b0 := eq_true c62
             have c62b1 : decide (x8_2 ≤ (a1.size : Int)) = true := decide_eq_true c62
             clear c62
             obtain ⟨y297, hy297⟩ : ∃ y_ : List (S70), y_ = (([(⟨a1.extract 0 (x8_2 : Int).toNat, a1.extract ((ji26) : Int).toNat a1.size⟩ : S70)] : List (S70))) := ⟨_, rfl⟩
             replace H : (if y294.length + y297.length < 4398046511104 then (some ((y294 ++ y297), true)) else (none)) = some (r1, r2) := z0 hy297
             have Ny297 := aM hy297
             clear hy297
             by_cases c63 : y294.length + y297.length < 4398046511104
             ·rw [if_pos c63] at H
              have LMc63 := aM c63
              clear c63
              obtain ⟨y300, hy300⟩ : ∃ y_ : List (S70), y_ = (y294 ++ y297) := ⟨_, rfl⟩
              replace H : (some (y300, true)) = some (r1, r2) := z0 hy300
              have Ny300 := aM hy300
              clear hy300
              simp only [Option.some.injEq, Prod.mk.injEq] at H
              obtain ⟨rfl, rfl⟩ := H
              try go_wp2
              replace HB := aM (below_drew1 HB.out)
              refine start_ (n := 12) (S := fun w' => True) (ds := []) (bsA 12 0) (by kernel_rfl) rfl rfl trivial (fun hHeld => ?_); refine with_tabW spec_l4Line.tab15 spec_l4Line.bits15 (fun HT_ HW_ => ?_)
              generalize wr.drew = w64 at HB hHeld ⊢
              refine pa_ (i := 1) (N := some 63) (bsA 12 2) (h := ?_)
              refine pa_ (i := 3) (N := some 65) (bsA 12 10) (h := ?_)
              refine pa_ (i := 4) (N := some 66) (bsA 12 26) (h := ?_)
              refine pa_ (i := 5) (N := some 67) (bsA 12 58) (h := ?_)
              refine pa_ (i := 6) (N := some 68) (bsA 12 122) (h := ?_)
              refine pa_ (i := 7) (N := some 69) (bsA 12 250) (h := ?_)
              refine join_ (σ := Value × Value × Value) 3 (bsA 12 511) (fun s_ => [(62, s_.1), (64, s_.2.1), (70, s_.2.2)]) (fun s_ w' => (Kd.R k70 70 w' w.heap.size (fun k_ => some k_ ≠ (s_.2.2 : Value).ownBlock) s_.2.1 y294) ∧ (Kd.R k70 70 w' w.heap.size (fun k_ => some k_ ≠ (s_.2.1 : Value).ownBlock) s_.2.2 y297) ∧ (Below w.heap.size w w')) ?_ ?_
              rotate_left
              ·intro hCont
               refine two_ (i := 0) (j := 8) (Ni := some 62) (Nj := some 70) (bsA 12 251) (bsA 12 506) rfl rfl rfl rfl (two_of HT_.out (by kernel_rfl)) (by decide) (by decide) (fun K hK => ?_) (fun K hK => ?_)
               ·skip
                refine Kd.R_lit_step k70 _ 70 ?hg (N := 62) ?hd (xs := ([] : List (S70))) (inner := []) (ok := fun _ => True) (okp := fun _ => True) ?hr ?hp (fun _ hk => hk) trivial (Below.refl _ _) (Nat.le_refl _) (by simp) ?_; (case hd => rfl); (case hg => rfl); (case hr => exact z8); (case hp => exact (Reps.none _ _))
                intro v292 w65 ho66 hb hg_ hnew_
                clear hg_ hnew_
                (first | rw [← Ny291.out] at ho66 | (simp only [Int.reduceToNat] at ho66; rw [← Ny291.out] at ho66))
                have HO293 := aM (Kd.R_lower ho66 (below_size bB))
                replace HB := aM (below_step bB hb)
                clear hb ho66
                refine hK.out _ _ trivial (fun hHeld => ?_)
                clear hK K
                refine na_ (N := some 62) (h := ?_)
                refine two_ (i := 2) (j := 8) (Ni := some 64) (Nj := some 70) (bsA 12 255) (bsA 12 507) rfl rfl rfl rfl (two_of HT_.out (by kernel_rfl)) (by decide) (by decide) (fun K hK => ?_) (fun K hK => ?_)
                ·skip
                 refine Kd.R_append_rows_step k70 (w0 := w) w.heap.size (by rfl) (.tmp 62) (.tmp 63) 43 70 (.agg #[(.string ⟨#[]⟩), (.string ⟨#[]⟩)]) 32 rfl Tryz.underlying43 info70 rfl (by decide) (by omega) v292 y291 l0 _ _ _ (fun _ => True) (fun _ => False) rfl rfl ?aO ?aR (fun _ _ h => h) (fun _ h => h.elim) ?aF ?aB ?aS ?aL ?_
                 (case aR => exact z4 HR0.out)
                 (case aB => exact bB)
                 (case aF => exact (fun _ _ => trivial))
                 (case aO => exact (bR HO293))
                 (case aS => exact (below_size bB))
                 (case aL => have := LMc60.out; omega)
                 intro v295 w67 ho hb hg hat
                 rw [← Ny294.out] at ho
                 have n0_ := aM (hb)
                 have n1_ := aM (ho)
                 clear HB
                 clear HO293
                 have HB := n0_
                 have HO296 := n1_
                 clear n0_ n1_
                 clear ho hb hg hat
                 refine hK.out _ _ trivial (fun hHeld => ?_)
                 clear hK K
                 refine na_ (N := some 64) (h := ?_)
                 refine one_ (i := 8) (N := some 70) (bsA 12 511) rfl rfl (one_of HT_.out (by kernel_rfl)) (by decide) (fun K hK => ?_)
                 refine Kd.R_lit_step k70 _ 70 ?hg (N := 70) ?hd (xs := ([(⟨a1.extract 0 (x8_2 : Int).toNat, a1.extract ((ji26) : Int).toNat a1.size⟩ : S70)] : List (S70))) (inner := [.string (a1.extract 0 (x8_2 : Int).toNat), .string (a1.extract ((ji26) : Int).toNat a1.size)]) (ok := fun _ => True) (okp := fun _ => True) ?hr ?hp (fun _ hk => hk) trivial (Below.refl _ _) (Nat.le_refl _) (by simp) ?_; (case hd => rfl); (case hg => rfl); (case hr => exact z8); (case hp => exact (Reps.c2 (show Kd.M k70 _ _ _ (⟨a1.extract 0 (x8_2 : Int).toNat, a1.extract ((ji26) : Int).toNat a1.size⟩ : S70) [.string (a1.extract 0 (x8_2 : Int).toNat), .string (a1.extract ((ji26) : Int).toNat a1.size)] from (k70_mkM _ _ _ (⟨a1.extract 0 (x8_2 : Int).toNat, a1.extract ((ji26) : Int).toNat a1.size⟩ : S70) )) (Reps.none _ _)))
                 intro v298 w68 ho69 hb hg_ hnew_
                 clear hg_ hnew_
                 (first | rw [← Ny297.out] at ho69 | (simp only [Int.reduceToNat] at ho69; rw [← Ny297.out] at ho69))
                 have HO299 := aM (Kd.R_lower (Kd.R_new' ho69 (Kd.R_lt (bR HO296))) (below_size bB))
                 replace HO296 := aM (Kd.R_elder' (bR HO296) (Kd.R_base ho69) hb)
                 replace HB := aM (below_step bB hb)
                 clear hb ho69
                 refine hK.out _ _ trivial (fun hHeld => ?_)
                 clear hK K
                 refine na_ (N := some 70) (h := ?_)
                 exact norm_ z31 (hCont (v292, v295, v298) _ ⟨(z6 HO296.out), (z6 HO299.out), bB⟩)
                skip
                refine Kd.R_lit_step k70 _ 70 ?hg (N := 70) ?hd (xs := ([(⟨a1.extract 0 (x8_2 : Int).toNat, a1.extract ((ji26) : Int).toNat a1.size⟩ : S70)] : List (S70))) (inner := [.string (a1.extract 0 (x8_2 : Int).toNat), .string (a1.extract ((ji26) : Int).toNat a1.size)]) (ok := fun _ => True) (okp := fun _ => True) ?hr ?hp (fun _ hk => hk) trivial (Below.refl _ _) (Nat.le_refl _) (by simp) ?_; (case hd => rfl); (case hg => rfl); (case hr => exact z8); (case hp => exact (Reps.c2 (show Kd.M k70 _ _ _ (⟨a1.extract 0 (x8_2 : Int).toNat, a1.extract ((ji26) : Int).toNat a1.size⟩ : S70) [.string (a1.extract 0 (x8_2 : Int).toNat), .string (a1.extract ((ji26) : Int).toNat a1.size)] from (k70_mkM _ _ _ (⟨a1.extract 0 (x8_2 : Int).toNat, a1.extract ((ji26) : Int).toNat a1.size⟩ : S70) )) (Reps.none _ _)))
                intro v298 w67 ho68 hb hg_ hnew_
                clear hg_ hnew_
                (first | rw [← Ny297.out] at ho68 | (simp only [Int.reduceToNat] at ho68; rw [← Ny297.out] at ho68))
                have HO299 := aM (Kd.R_lower (Kd.R_new' ho68 (Kd.R_lt (bR HO293))) (below_size bB))
                replace HO293 := aM (Kd.R_elder' (bR HO293) (Kd.R_base ho68) hb)
                replace HB := aM (below_step bB hb)
                clear hb ho68
                refine hK.out _ _ trivial (fun hHeld => ?_)
                clear hK K
                refine na_ (N := some 70) (h := ?_)
                refine one_ (i := 2) (N := some 64) (bsA 12 511) rfl rfl (one_of HT_.out (by kernel_rfl)) (by decide) (fun K hK => ?_)
                refine Kd.R_append_rows_step k70 (w0 := w) w.heap.size (by rfl) (.tmp 62) (.tmp 63) 43 70 (.agg #[(.string ⟨#[]⟩), (.string ⟨#[]⟩)]) 32 rfl Tryz.underlying43 info70 rfl (by decide) (by omega) v292 y291 l0 _ _ _ (fun k_ => some k_ ≠ (v298 : Value).ownBlock) (fun _ => False) rfl rfl ?aO ?aR (fun _ _ h => h) (fun _ h => h.elim) ?aF ?aB ?aS ?aL ?_
                (case aR => exact z4 HR0.out)
                (case aB => exact bB)
                (case aF => exact (fun k_ hk => Kd.fresh' (Kd.R_lt (bR HO299)) k_ hk))
                (case aO => exact z10 HO293.out)
                (case aS => exact (below_size bB))
                (case aL => have := LMc60.out; omega)
                intro v295 w69 ho hb hg hat
                rw [← Ny294.out] at ho
                have n0_ := aM (Kd.R_after (ok := (fun _ => True)) (bR HO299) hg hat)
                have n1_ := aM (hb)
                have n2_ := aM (ho)
                clear HO299
                clear HB
                clear HO293
                have HO299 := n0_
                have HB := n1_
                have HO296 := n2_
                clear n0_ n1_ n2_
                clear ho hb hg hat
                refine hK.out _ _ trivial (fun hHeld => ?_)
                clear hK K
                refine na_ (N := some 64) (h := ?_)
                exact norm_ z31 (hCont (v292, v295, v298) _ ⟨(bR HO296), (z6 HO299.out), bB⟩)
               skip
               refine Kd.R_lit_step k70 _ 70 ?hg (N := 70) ?hd (xs := ([(⟨a1.extract 0 (x8_2 : Int).toNat, a1.extract ((ji26) : Int).toNat a1.size⟩ : S70)] : List (S70))) (inner := [.string (a1.extract 0 (x8_2 : Int).toNat), .string (a1.extract ((ji26) : Int).toNat a1.size)]) (ok := fun _ => True) (okp := fun _ => True) ?hr ?hp (fun _ hk => hk) trivial (Below.refl _ _) (Nat.le_refl _) (by simp) ?_; (case hd => rfl); (case hg => rfl); (case hr => exact z8); (case hp => exact (Reps.c2 (show Kd.M k70 _ _ _ (⟨a1.extract 0 (x8_2 : Int).toNat, a1.extract ((ji26) : Int).toNat a1.size⟩ : S70) [.string (a1.extract 0 (x8_2 : Int).toNat), .string (a1.extract ((ji26) : Int).toNat a1.size)] from (k70_mkM _ _ _ (⟨a1.extract 0 (x8_2 : Int).toNat, a1.extract ((ji26) : Int).toNat a1.size⟩ : S70) )) (Reps.none _ _)))
               intro v298 w65 ho66 hb hg_ hnew_
               clear hg_ hnew_
               (first | rw [← Ny297.out] at ho66 | (simp only [Int.reduceToNat] at ho66; rw [← Ny297.out] at ho66))
               have HO299 := aM (Kd.R_lower ho66 (below_size bB))
               replace HB := aM (below_step bB hb)
               clear hb ho66
               refine hK.out _ _ trivial (fun hHeld => ?_)
               clear hK K
               refine na_ (N := some 70) (h := ?_)
               refine one_ (i := 0) (N := some 62) (bsA 12 507) rfl rfl (one_of HT_.out (by kernel_rfl)) (by decide) (fun K hK => ?_)
               refine Kd.R_lit_step k70 _ 70 ?hg (N := 62) ?hd (xs := ([] : List (S70))) (inner := []) (ok := fun _ => True) (okp := fun _ => True) ?hr ?hp (fun _ hk => hk) trivial (Below.refl _ _) (Nat.le_refl _) (by simp) ?_; (case hd => rfl); (case hg => rfl); (case hr => exact z8); (case hp => exact (Reps.none _ _))
               intro v292 w67 ho68 hb hg_ hnew_
               clear hg_ hnew_
               (first | rw [← Ny291.out] at ho68 | (simp only [Int.reduceToNat] at ho68; rw [← Ny291.out] at ho68))
               have HO293 := aM (Kd.R_lower (Kd.R_new' ho68 (Kd.R_lt (bR HO299))) (below_size bB))
               replace HO299 := aM (Kd.R_elder' (bR HO299) (Kd.R_base ho68) hb)
               replace HB := aM (below_step bB hb)
               clear hb ho68
               refine hK.out _ _ trivial (fun hHeld => ?_)
               clear hK K
               refine na_ (N := some 62) (h := ?_)
               refine one_ (i := 2) (N := some 64) (bsA 12 511) rfl rfl (one_of HT_.out (by kernel_rfl)) (by decide) (fun K hK => ?_)
               refine Kd.R_append_rows_step k70 (w0 := w) w.heap.size (by rfl) (.tmp 62) (.tmp 63) 43 70 (.agg #[(.string ⟨#[]⟩), (.string ⟨#[]⟩)]) 32 rfl Tryz.underlying43 info70 rfl (by decide) (by omega) v292 y291 l0 _ _ _ (fun k_ => some k_ ≠ (v298 : Value).ownBlock) (fun _ => False) rfl rfl ?aO ?aR (fun _ _ h => h) (fun _ h => h.elim) ?aF ?aB ?aS ?aL ?_
               (case aR => exact z4 HR0.out)
               (case aB => exact bB)
               (case aF => exact (fun k_ hk => Kd.fresh' (Kd.R_lt (bR HO299)) k_ hk))
               (case aO => exact z10 HO293.out)
               (case aS => exact (below_size bB))
               (case aL => have := LMc60.out; omega)
               intro v295 w69 ho hb hg hat
               rw [← Ny294.out] at ho
               have n0_ := aM (Kd.R_after (ok := (fun _ => True)) (bR HO299) hg hat)
               have n1_ := aM (hb)
               have n2_ := aM (ho)
               clear HO299
               clear HB
               clear HO293
               have HO299 := n0_
               have HB := n1_
               have HO296 := n2_
               clear n0_ n1_ n2_
               clear ho hb hg hat
               refine hK.out _ _ trivial (fun hHeld => ?_)
               clear hK K
               refine na_ (N := some 64) (h := ?_)
               exact norm_ z31 (hCont (v292, v295, v298) _ ⟨(bR HO296), (z6 HO299.out), bB⟩)
              rintro ⟨v292, v295, v298⟩ w70 ⟨h0_, h1_, h2_⟩
              have n0_ : Aside0 (Kd.R k70 70 w70 w.heap.size (fun k_ => some k_ ≠ (v298 : Value).ownBlock) v295 y294) := ⟨h0_⟩
              have n1_ : Aside0 (Kd.R k70 70 w70 w.heap.size (fun k_ => some k_ ≠ (v295 : Value).ownBlock) v298 y297) := ⟨h1_⟩
              have n2_ : Aside0 (Below w.heap.size w w70) := ⟨h2_⟩
              clear HB
              clear h0_ h1_ h2_
              have HO296 := n0_
              have HO299 := n1_
              have HB := n2_
              clear n0_ n1_ n2_
              have hHeld := trivial
              obtain ⟨Ao72, co72, eo72⟩ := Kd.R_slice HO299.out
              (first | subst eo72 | (injection eo72 with f1_ f2_ f3_; have f4_ := f1_.symm; have f5_ := f3_.symm; clear f1_ f2_ f3_; subst f4_; subst f5_))
              refine norm_ (a' := ?_) ?_ ?_
              rotate_left
              ·simp only [putAll, Act.put, List.setIfInBounds_toArray, List.set_cons_zero, List.set_cons_succ]
               rfl
              refine one_ (i := 9) (N := some 71) (bsA 12 1023) rfl rfl (one_of HT_.out (by kernel_rfl)) (by decide) (fun K hK => ?_)
              refine Kd.R_append_rows_step k70 (w0 := w) w.heap.size (by rfl) (.tmp 64) (.tmp 70) 43 70 (.agg #[(.string ⟨#[]⟩), (.string ⟨#[]⟩)]) 32 rfl Tryz.underlying43 info70 rfl (by decide) (by omega) v295 y294 y297 _ _ _ (fun k_ => some k_ ≠ (.slice Ao72 y297.length co72 : Value).ownBlock) (fun _ => False) rfl rfl ?aO ?aR (fun _ _ h => h) (fun _ h => h.elim) ?aF ?aB ?aS ?aL ?_
              (case aR => exact z2 HO299.out)
              (case aB => exact bB)
              (case aF => exact (fun k_ hk => Kd.fresh' (Kd.R_lt (bR HO299)) k_ hk))
              (case aO => exact (bR HO296))
              (case aS => exact (below_size bB))
              (case aL => have := LMc63.out; omega)
              intro v301 w71 ho hb hg hat
              rw [← Ny300.out] at ho
              have n0_ := aM (Kd.R_after (ok := (fun _ => True)) (z32 HO299.out) hg hat)
              have n1_ := aM (hb)
              have n2_ := aM (ho)
              clear HO299
              clear HB
              clear HO296
              have HO299 := n0_
              have HB := n1_
              have HO302 := n2_
              clear n0_ n1_ n2_
              clear ho hb hg hat
              refine hK.out _ _ trivial (fun hHeld => ?_)
              clear hK K
              refine na_ (N := some 71) (h := ?_)
              refine pa_ (i := 10) (N := some 4) (bsA 12 2047) (h := ?_)
              refine pa_ (i := 11) (N := some 5) (bsA 12 4095) (h := ?_)
              refine done_ (done_of HT_.out (by kernel_rfl)) ?_
              try go_wp2
              go_ret2
              exact ⟨_, z38, z9 HO302.out, bB⟩
             rw [if_neg c63] at H
             exact absurd H (by simp)
            rw [if_neg c62] at H
            exact absurd H (by simp)
           rw [if_neg c60] at H
           exact absurd H (by simp)
          rw [if_neg c43] at H
          exact absurd H (by simp)
         rw [if_neg c28] at H
         exact absurd H (by simp)
        rw [if_neg c27] at H
        exact absurd H (by simp)
       rw [if_neg c25] at H
       have c25b0 : ((bt a1 x8_2) == 58) = false := beq_eq_false_iff_ne.mpr c25
       have c25b1 : ((bt a1 x8_2) != 58) = true := bne_iff_ne.mpr c25
       have H' := aM H
       clear H
       (try simp only [c25b0, c25b1])
       go_wp2
       go_roundg k2
       case measure => have := HJ2.out; have := HK2.out; omega
       case rel => exact ⟨(wrap64 (x8_2 + 1)), bS, H', ⟨by have := HJ2.out; have := HK2.out; omega⟩, ⟨bB⟩⟩
      rw [if_neg c23] at H
      exact absurd H (by simp)
     rw [if_neg c22] at H
     have c22b0 : decide (x8_2 < (a1.size : Int)) = false := decide_eq_false c22
     clear c22
     simp only [Option.some.injEq, Prod.mk.injEq] at H
     obtain ⟨rfl, rfl⟩ := H
     go_wp2
     go_ret2
     exact ⟨_, bE, z3, bB⟩
end Go.Proofs.YtjopgmjmjnfcjaaGreatDoor.PSubjectOf
