/- Part of the proof; words that it uses. -/
import Derived.Test.YtjopgmjmjnfcjaaGreatDoorPSubjectOfx0
import Derived.Test.YtjopgmjmjnfcjaaGreatDoorPSubjectOfx7
import Derived.Test.YtjopgmjmjnfcjaaGreatDoorPSubjectOfx11
namespace Go.Proofs.YtjopgmjmjnfcjaaGreatDoor.PSubjectOf
open Go.RowKit Go.Proofs.YtjopgmjmjnfcjaaGreatDoorW.PrintWords Go.Proofs.YtjopgmjmjnfcjaaGreatDoorW.PrintLast
set_option linter.unusedVariables false
set_option linter.unusedSimpArgs false
def impl_FieldsFault.l0 : Nat → List (S70) → Int → Int → Option (Int)
 | 0, _, _, _ => none
 | k + 1, x8, x9, x10 => if x10 < x9 then (if 0 ≤ x10 then (if x10 < (x8.length : Int) then ((impl_isField.f k ((rd_T70 x8 x10).f0) ((rd_T70 x8 x10).f1)).bind fun t541 => (if t541 = true then (impl_FieldsFault.l0 k x8 x9 (wrap64 (x10 + 1))) else (some 5))) else (none)) else (none)) else (some 0)
def impl_FieldsFault.f (k : Nat) (l0 : List (S70)) : Option (Int) := if (l0.length : Int) > 8 then (some 2) else (impl_FieldsFault.l0 k l0 (l0.length : Int) 0)
set_option maxHeartbeats 8000000 in
set_option maxRecDepth 100000 in
theorem impl_FieldsFault.calls (k : Nat) (A0 : Option Addr) (c0 : Nat) (l0 : List (S70)) (r : Int) (w : World) (hr0 : Kd.C k70 w A0 l0.length l0) (hc0 : l0.length ≤ c0) (h : impl_FieldsFault.f k l0 = some r) :
  Calls Tryz.prog 75 #[.slice A0 l0.length c0] w fun e w' => e = .returned (.int .i64 r) ∧ Below w.heap.size w w' := by
 have hu70 := Tryz.underlying70
 have HR0 := aM hr0
 have HC0 := aM hc0
 clear hr0 hc0
 have HB := aM (Below.refl w.heap.size w)
 have H : (if (l0.length : Int) > 8 then (some 2) else (impl_FieldsFault.l0 k l0 (l0.length : Int) 0)) = some r := h
 clear h
 by_cases c2 : (l0.length : Int) > 8
 ·rw [if_pos c2] at H
  have c2b0 : decide (8 < (l0.length : Int)) = true := decide_eq_true c2
  have c2b1 : decide (8 < l0.length) = true := decide_eq_true (by omega)
  clear c2
  obtain rfl := Option.some.inj H
  go_enter Tryz.func75, Tryz.ntmps75
  go_wp2
  go_ret
  exact ⟨bE, bB⟩
 rw [if_neg c2] at H
 have c2b0 : decide (8 < (l0.length : Int)) = false := decide_eq_false c2
 have c2b1 : decide (8 < l0.length) = false := decide_eq_false (by omega)
 clear c2
 have H' := aM H
 clear H
 go_enter Tryz.func75, Tryz.ntmps75
 go_wp2
 go_loopg [10] k (fun kq v10 w' => ∃ (x10_1 : Int), v10 = .int .i64 x10_1 ∧ Aside0 (impl_FieldsFault.l0 kq l0 (l0.length : Int) x10_1 = some r) ∧ Aside0 (kq ≤ k) ∧ Aside0 (Below w.heap.size w w'))
 case atStart => exact ⟨(0), bS, H', ⟨Nat.le_refl _⟩, ⟨bB⟩⟩
 case round =>
  clear H'
  try clear c2
  try clear c2b0
  try clear c2b1
  try clear p2
  obtain ⟨x10_1, rfl, HA, HK1, HB⟩ := hrel
  cases gk with
  | zero => exact absurd HA.out (by simp [impl_FieldsFault.l0])
  | succ k1 =>
   have H := HA.out
   clear HA
   simp only [impl_FieldsFault.l0] at H
   by_cases c3 : x10_1 < (l0.length : Int)
   ·rw [if_pos c3] at H
    have c3b0 : decide (x10_1 < (l0.length : Int)) = true := decide_eq_true c3
    clear c3
    by_cases c4 : 0 ≤ x10_1
    ·rw [if_pos c4] at H
     have c4b0 : decide (0 ≤ x10_1) = true := decide_eq_true c4
     clear c4
     by_cases c5 : x10_1 < (l0.length : Int)
     ·rw [if_pos c5] at H
      have c5b0 : decide (x10_1 < (l0.length : Int)) = true := decide_eq_true c5
      clear c5
      replace H := Option.bind_eq_some_iff.mp H
      obtain ⟨t541, A60, H⟩ := H
      replace H : (if t541 = true then (impl_FieldsFault.l0 k1 l0 (l0.length : Int) (wrap64 (x10_1 + 1))) else (some 5)) = some r := H
      have A6 := aM A60
      clear A60
      by_cases c7 : t541 = true
      ·subst c7
       have H1 : (impl_FieldsFault.l0 k1 l0 (l0.length : Int) (wrap64 (x10_1 + 1))) = some r := z14
       clear H
       have H := H1
       clear H1
       have H' := aM H
       clear H
       have p539 : 0 ≤ (x10_1 : Int) := pI
       have q539 : x10_1 < (l0.length : Int) := pI
       obtain ⟨ad539, e539, hx539_0, hx539_1⟩ := at_T70 HR0.out x10_1 p539 q539
       cases e539
       replace hx539_0 := (HB.out.cell (World.block_lt_of_cell? w _ hx539_0)).trans hx539_0
       replace hx539_1 := (HB.out.cell (World.block_lt_of_cell? w _ hx539_1)).trans hx539_1
       replace p539 := eq_true p539
       replace q539 := eq_true q539
       go_wp2_with (first | ((with_reducible refine gate_dst (N := 4) rfl ?_); refine box_event ?hg (N := 4) ?hd (cs := #[.string (⟨#[]⟩ : ByteArray), .string (⟨#[]⟩ : ByteArray)]) (t := 70) ?hr ?_; (case hd => rfl); (case hg => rfl); (case hr => exact z8); intro gb540 hg w8 hbox hb; have BK540 := aM (hbox); have GW540 := aM ((z11 : w.heap.size ≤ gb540)); have GE540 := aM ((z11 : w.heap.size ≤ gb540)); replace HB := aM (below_step bB hb); clear hb hbox hg; have hcz9_0 : w8.cell? ⟨gb540, 0, none⟩ = some (.string (⟨#[]⟩ : ByteArray)) := (blk_cell BK540.out 0).trans rfl; have hcz9_1 : w8.cell? ⟨gb540, 1, none⟩ = some (.string (⟨#[]⟩ : ByteArray)) := (blk_cell BK540.out 1).trans rfl; have hfz9_0 := blk_frozen BK540.out 0; have hfz9_1 := blk_frozen BK540.out 1) | ((with_reducible refine gate_callee (f := 105) rfl ?_); refine gL_ (some 15) Tryz.func105 #[.agg #[.string ((rd_T70 l0 x10_1).f0), .string ((rd_T70 l0 x10_1).f1)]] ?_; (with_reducible refine (impl_isField.calls k1 ((rd_T70 l0 x10_1).f0) ((rd_T70 l0 x10_1).f1) true _ A6.out).mono ?_); rintro e w10 ⟨rfl, hb⟩; refine ⟨_, rfl, ?_⟩; replace BK540 := aM (blk_below (g := gb540) (o := .cells #[.string ((rd_T70 l0 x10_1).f0), .string ((rd_T70 l0 x10_1).f1)] 70 (0, 0)) (z13 BK540.out) hb); replace HB := aM (below_step (bG GE540) hb); (try clear hi)))
       go_roundg k1
       case measure => have := HK1.out; omega
       case rel => exact ⟨(wrap64 (x10_1 + 1)), bS, H', ⟨by have := HK1.out; omega⟩, ⟨bG GE540⟩⟩
      replace c7 := Bool.eq_false_iff.mpr c7
      subst c7
      have H1 : (some 5) = some r := z5
      clear H
      have H := H1
      clear H1
      obtain rfl := Option.some.inj H
      have p539 : 0 ≤ (x10_1 : Int) := pI
      have q539 : x10_1 < (l0.length : Int) := pI
      obtain ⟨ad539, e539, hx539_0, hx539_1⟩ := at_T70 HR0.out x10_1 p539 q539
      cases e539
      replace hx539_0 := (HB.out.cell (World.block_lt_of_cell? w _ hx539_0)).trans hx539_0
      replace hx539_1 := (HB.out.cell (World.block_lt_of_cell? w _ hx539_1)).trans hx539_1
      replace p539 := eq_true p539
      replace q539 := eq_true q539
      go_wp2_with (first | ((with_reducible refine gate_dst (N := 4) rfl ?_); refine box_event ?hg (N := 4) ?hd (cs := #[.string (⟨#[]⟩ : ByteArray), .string (⟨#[]⟩ : ByteArray)]) (t := 70) ?hr ?_; (case hd => rfl); (case hg => rfl); (case hr => exact z8); intro gb540 hg w11 hbox hb; have BK540 := aM (hbox); have GW540 := aM ((z11 : w.heap.size ≤ gb540)); have GE540 := aM ((z11 : w.heap.size ≤ gb540)); replace HB := aM (below_step bB hb); clear hb hbox hg; have hcz12_0 : w11.cell? ⟨gb540, 0, none⟩ = some (.string (⟨#[]⟩ : ByteArray)) := (blk_cell BK540.out 0).trans rfl; have hcz12_1 : w11.cell? ⟨gb540, 1, none⟩ = some (.string (⟨#[]⟩ : ByteArray)) := (blk_cell BK540.out 1).trans rfl; have hfz12_0 := blk_frozen BK540.out 0; have hfz12_1 := blk_frozen BK540.out 1) | ((with_reducible refine gate_callee (f := 105) rfl ?_); refine gL_ (some 15) Tryz.func105 #[.agg #[.string ((rd_T70 l0 x10_1).f0), .string ((rd_T70 l0 x10_1).f1)]] ?_; (with_reducible refine (impl_isField.calls k1 ((rd_T70 l0 x10_1).f0) ((rd_T70 l0 x10_1).f1) false _ A6.out).mono ?_); rintro e w13 ⟨rfl, hb⟩; refine ⟨_, rfl, ?_⟩; replace BK540 := aM (blk_below (g := gb540) (o := .cells #[.string ((rd_T70 l0 x10_1).f0), .string ((rd_T70 l0 x10_1).f1)] 70 (0, 0)) (z13 BK540.out) hb); replace HB := aM (below_step (bG GE540) hb); (try clear hi)))
      go_ret
      exact ⟨bE, bG GE540⟩
     rw [if_neg c5] at H
     exact absurd H (by simp)
    rw [if_neg c4] at H
    exact absurd H (by simp)
   rw [if_neg c3] at H
   have c3b0 : decide (x10_1 < (l0.length : Int)) = false := decide_eq_false c3
   clear c3
   obtain rfl := Option.some.inj H
   go_wp2
   go_ret
   exact ⟨bE, bB⟩
mutual
def impl_parseHeader.l0 : Nat → List Int → List (S70) → Int → Option ((List (S70)) × Int × Bool)
 | 0, _, _, _ => none
 | k + 1, x0, x5, x6 => if x6 < (x0.length : Int) then (if 0 ≤ x6 then (if x6 ≤ (x0.length : Int) then ((bytes_IndexByte.f (x0.drop (x6 : Int).toNat) 10).bind fun t547 => (if t547 < 0 then (impl_parseHeader.j1 k x0 x5 x6 (wrap64 ((x0.length : Int) - x6)) (x0.length : Int)) else (impl_parseHeader.j1 k x0 x5 x6 t547 (wrap64 ((wrap64 (x6 + t547)) + 1))))) else (none)) else (none)) else ((impl_FieldsFault.f k x5).bind fun t545 => (some (x5, x6, (t545 == 0))))
def impl_parseHeader.j1 : Nat → List Int → List (S70) → Int → Int → Int → Option ((List (S70)) × Int × Bool)
 | 0, _, _, _, _, _ => none
 | k + 1, x0, x5, x6, x7, x8 => if 0 ≤ x6 then (if x6 ≤ (wrap64 (x6 + x7)) then (if (wrap64 (x6 + x7)) ≤ (x0.length : Int) then (if (strOfNums ((x0.take ((wrap64 (x6 + x7)) : Int).toNat).drop (x6 : Int).toNat)).toList = ([] : List UInt8) then ((impl_FieldsFault.f k x5).bind fun t549 => (some (x5, x8, (t549 == 0)))) else (if 0 < ((strOfNums ((x0.take ((wrap64 (x6 + x7)) : Int).toNat).drop (x6 : Int).toNat)).size : Int) then ((impl_isBlank.f (bt (strOfNums ((x0.take ((wrap64 (x6 + x7)) : Int).toNat).drop (x6 : Int).toNat)) 0)).bind fun t550 => (if t550 = true then (if (x5.length : Int) = 0 then (some (([] : List (S70)), 0, false)) else (if 0 ≤ (wrap64 ((x5.length : Int) - 1)) then (if (wrap64 ((x5.length : Int) - 1)) < (x5.length : Int) then (if ((rd_T70 x5 (wrap64 ((x5.length : Int) - 1))).f1).size + (strOfNums ((x0.take ((wrap64 (x6 + x7)) : Int).toNat).drop (x6 : Int).toNat)).size ≤ 9223372036854775807 then (impl_parseHeader.l0 k x0 (x5.set ((wrap64 ((x5.length : Int) - 1)) : Int).toNat (⟨(rd_T70 x5 (wrap64 ((x5.length : Int) - 1))).f0, ((rd_T70 x5 (wrap64 ((x5.length : Int) - 1))).f1) ++ (strOfNums ((x0.take ((wrap64 (x6 + x7)) : Int).toNat).drop (x6 : Int).toNat))⟩ : S70)) x8) else (none)) else (none)) else (none))) else ((strings_Cut.f (strOfNums ((x0.take ((wrap64 (x6 + x7)) : Int).toNat).drop (x6 : Int).toNat)) (⟨#[58]⟩ : ByteArray)).bind fun bt553 => (if bt553.2.2 = true then ((strings_TrimPrefix.f bt553.2.1 (⟨#[32]⟩ : ByteArray)).bind fun t556 => (if x5.length < 4398046511104 then (impl_parseHeader.l0 k x0 (x5 ++ [(⟨bt553.1, t556⟩ : S70)]) x8) else (none))) else (some (([] : List (S70)), 0, false)))))) else (none))) else (none)) else (none)) else (none)
end
def impl_parseHeader.f (k : Nat) (l0 : List Int) : Option ((List (S70)) × Int × Bool) := impl_parseHeader.l0 k l0 (([] : List (S70))) 0
set_option maxHeartbeats 8000000 in
set_option maxRecDepth 100000 in
theorem impl_parseHeader.calls (k : Nat) (A0 : Option Addr) (c0 : Nat) (l0 : List Int) (r1 : List (S70)) (r2 : Int) (r3 : Bool) (w : World) (hr0 : Kd.C (Kd.int .u8) w A0 l0.length l0) (hc0 : l0.length ≤ c0) (h : impl_parseHeader.f k l0 = some (r1, r2, r3)) :
  Calls Tryz.prog 49 #[.slice A0 l0.length c0] w fun e w' => ∃ v0_ : Value, e = .returned (.tuple #[v0_, .int .i64 r2, .bool r3]) ∧ Kd.R k70 70 w' w.heap.size (fun _ => True) v0_ r1 ∧ Below w.heap.size w w' := by
 have hu70 := Tryz.underlying70
 have HR0 := aM hr0
 have HC0 := aM hc0
 clear hr0 hc0
 have HB := aM (Below.refl w.heap.size w)
 have H : (impl_parseHeader.l0 k l0 (([] : List (S70))) 0) = some (r1, r2, r3) := h
 clear h
 obtain ⟨y542, hy542⟩ : ∃ y_ : List (S70), y_ = (([] : List (S70))) := ⟨_, rfl⟩
 replace H : (impl_parseHeader.l0 k l0 y542 0) = some (r1, r2, r3) := z0 hy542
 have Ny542 := aM hy542
 clear hy542
 have H' := aM H
 clear H
 go_enter Tryz.func49, Tryz.ntmps49
 go_wp2_with (first | ((with_reducible refine gate_dst (N := 13) rfl ?_); refine Kd.R_lit k70 _ 70 ?hg (N := 13) ?hd (xs := ([] : List (S70))) (inner := []) (ok := fun _ => True) (okp := fun _ => True) ?hr ?hp (fun _ hk => hk) trivial (Below.refl _ _) (Nat.le_refl _) (by simp) ?_; (case hd => rfl); (case hg => rfl); (case hr => exact z8); (case hp => exact (Reps.none _ _)); intro v543 w2 ho3 hb hg_ hnew_; clear hg_ hnew_; (first | rw [← Ny542.out] at ho3 | (simp only [Int.reduceToNat] at ho3; rw [← Ny542.out] at ho3)); have HO544 := aM (Kd.R_lower ho3 (below_size bB)); replace HB := aM (below_step bB hb); clear hb ho3))
 go_loopg [5, 6] k (fun kq v5 v6 w' => ∃ (x5_1 : List (S70)) (x6_1 : Int), v6 = .int .i64 x6_1 ∧ Aside0 (impl_parseHeader.l0 kq l0 x5_1 x6_1 = some (r1, r2, r3)) ∧ Aside0 (kq ≤ k) ∧ Aside0 (Kd.R k70 70 w' w.heap.size (fun _ => True) v5 x5_1) ∧ Aside0 (Below w.heap.size w w'))
 case atStart => exact ⟨(y542), (0), bS, H', ⟨Nat.le_refl _⟩, ⟨bR HO544⟩, ⟨bB⟩⟩
 case round =>
  clear H'
  try clear p2
  obtain ⟨x5_1, x6_1, rfl, HA, HK1, HO_5, HB⟩ := hrel
  cases gk with
  | zero => exact absurd HA.out (by simp [impl_parseHeader.l0])
  | succ k1 =>
   have H := HA.out
   clear HA
   simp only [impl_parseHeader.l0] at H
   by_cases c4 : x6_1 < (l0.length : Int)
   ·rw [if_pos c4] at H
    have c4b0 : decide (x6_1 < (l0.length : Int)) = true := decide_eq_true c4
    clear c4
    by_cases c5 : 0 ≤ x6_1
    ·rw [if_pos c5] at H
     have c5b0 := eq_true c5
     have c5b1 : decide (0 ≤ x6_1) = true := decide_eq_true c5
     clear c5
     by_cases c6 : x6_1 ≤ (l0.length : Int)
     ·rw [if_pos c6] at H
      have c6b0 := eq_true c6
      have c6b1 : decide (x6_1 ≤ (l0.length : Int)) = true := decide_eq_true c6
      (try have c6z := eq_true (show (x6_1 : Int) ≤ (c0 : Int) from (by have h_ := HC0.out; omega)))
      clear c6
      replace H := Option.bind_eq_some_iff.mp H
      obtain ⟨t547, A70, H⟩ := H
      replace H : (if t547 < 0 then (impl_parseHeader.j1 k1 l0 x5_1 x6_1 (wrap64 ((l0.length : Int) - x6_1)) (l0.length : Int)) else (impl_parseHeader.j1 k1 l0 x5_1 x6_1 t547 (wrap64 ((wrap64 (x6_1 + t547)) + 1)))) = some (r1, r2, r3) := H
      have A7 := aM A70
      clear A70
      have HC8 := aM H
      clear H
      obtain ⟨i09, hi09, _, hsz9, _⟩ := info_parts info5
      obtain ⟨A9, hcut9, hA9, hC9⟩ := print_drop_of (P := Tryz.prog) (Value.int .u8) 0 22 5 .i64 Tryz.underlying22 hi09 hsz9 A0 c0 l0 x6_1 (pI) (pI) HC0.out
      have HR546 := aM (Kd.C_of_reads (h1 := fun _ => rfl) (hA9 _ (Kd.reads_of_C HR0.out)))
      have HC546 := aM hC9
      clear hA9 hC9 hi09 hsz9
      go_upto_if 27 with (first | ((with_reducible refine gate_callee (f := 71) rfl ?_); refine goesL_ (some 21) rfl rfl Tryz.func71 (by kernel_rfl) rfl #[.slice A9 (l0.drop (x6_1 : Int).toNat).length (c0 - x6_1.toNat), .int .u8 10] rfl (by (try simp only [List.map_toArray, List.map_cons, List.map_nil]); first | done | (rw [show (l0.drop (x6_1 : Int).toNat).length = (l0.length - x6_1.toNat) from List.length_drop] <;> rfl) | rfl | (simp only [List.length_drop, List.length_take]; rfl)) ?_; (with_reducible refine (bytes_IndexByte.calls _ _ (l0.drop (x6_1 : Int).toNat) 10 t547 _ ?side1 ?side2 A7.out).mono ?_); (case side1 => exact z4 HR546.out); (case side2 => exact HC546.out); rintro e w' ⟨rfl, ⟨nd, rfl⟩⟩; refine ⟨_, rfl, ?_⟩))
      (try simp only [Act.put, List.setIfInBounds_toArray, List.set_cons_zero, List.set_cons_succ])
      go_cut [7, 8] (fun v7 v8 wc => ∃ (kq : Nat) (x7_7 : Int) (x8_7 : Int), v7 = .int .i64 x7_7 ∧ v8 = .int .i64 x8_7 ∧ Aside0 (impl_parseHeader.j1 kq l0 x5_1 x6_1 x7_7 x8_7 = some (r1, r2, r3)) ∧ Aside0 (kq ≤ k1) ∧ Aside0 (Kd.R k70 70 wc w.heap.size (fun _ => True) u5 x5_1) ∧ Aside0 (Below w.heap.size w wc))
      case first =>
       have H := HC8.out
       clear HC8
       by_cases c10 : t547 < 0
       ·rw [if_pos c10] at H
        have c10b0 : decide (t547 < 0) = true := decide_eq_true c10
        clear c10
        (first | rw [c10b0] | (simp only [i64_w, i32_w]; rw [c10b0]) | skip)
        have H' := aM H
        clear H
        go_wp2
        go_meet
        case rel => exact ⟨_, (wrap64 ((l0.length : Int) - x6_1)), ((l0.length : Int)), bS, bS, H', ⟨z27 HK1.out⟩, ⟨bR HO_5⟩, ⟨bB⟩⟩
       rw [if_neg c10] at H
       have c10b0 : decide (t547 < 0) = false := decide_eq_false c10
       clear c10
       (first | rw [c10b0] | (simp only [i64_w, i32_w]; rw [c10b0]) | skip)
       have H' := aM H
       clear H
       go_wp2
       go_meet
       case rel => exact ⟨_, (t547), (wrap64 ((wrap64 (x6_1 + t547)) + 1)), bS, bS, H', ⟨z27 HK1.out⟩, ⟨bR HO_5⟩, ⟨bB⟩⟩
      case rest =>
       clear HC8
       try clear c1
       try clear p2
       try clear c4
       try clear c4b0
       try clear c5
       try clear c5b0
       try clear c5b1
       try clear c6
       try clear c6b0
       try clear c6b1
       try clear p6
       try clear c7
       try clear c10
       try clear c10b0
       try clear p2
       obtain ⟨kq, x7_7, x8_7, rfl, rfl, HA, HJ7, HO_5, HB⟩ := hcut
       cases kq with
       | zero => exact absurd HA.out (by simp [impl_parseHeader.j1])
       | succ kj7 =>
        have H := HA.out
        clear HA
        simp only [impl_parseHeader.j1] at H
        by_cases c11 : 0 ≤ x6_1
        ·rw [if_pos c11] at H
         have c11b0 := eq_true c11
         have c11b1 : decide (0 ≤ x6_1) = true := decide_eq_true c11
         clear c11
         by_cases c12 : x6_1 ≤ (wrap64 (x6_1 + x7_7))
         ·rw [if_pos c12] at H
          have c12b0 := eq_true c12
          have c12b1 : decide (x6_1 ≤ (wrap64 (x6_1 + x7_7))) = true := decide_eq_true c12
          by_cases c13 : (wrap64 (x6_1 + x7_7)) ≤ (l0.length : Int)
          ·rw [if_pos c13] at H
           have c13b0 := eq_true c13
           have c13b1 : decide ((wrap64 (x6_1 + x7_7)) ≤ (l0.length : Int)) = true := decide_eq_true c13
           by_cases c14 : (strOfNums ((l0.take ((wrap64 (x6_1 + x7_7)) : Int).toNat).drop (x6_1 : Int).toNat)).toList = ([] : List UInt8)
           ·rw [if_pos c14] at H
            have c14b0 : ((strOfNums ((l0.take ((wrap64 (x6_1 + x7_7)) : Int).toNat).drop (x6_1 : Int).toNat)).toList == ([] : List UInt8)) = true := beq_iff_eq.mpr c14
            have c14b1 : ((strOfNums ((l0.take ((wrap64 (x6_1 + x7_7)) : Int).toNat).drop (x6_1 : Int).toNat)).toList != ([] : List UInt8)) = false := bne_eq_false_iff_eq.mpr c14
            clear c14
            replace H := Option.bind_eq_some_iff.mp H
            obtain ⟨t549, A150, H⟩ := H
            replace H : (some (x5_1, x8_7, (t549 == 0))) = some (r1, r2, r3) := H
            have A15 := aM A150
            clear A150
            simp only [Option.some.injEq, Prod.mk.injEq] at H
            obtain ⟨rfl, rfl, rfl⟩ := H
            obtain ⟨i016, hi016, _, hsz16, _⟩ := info_parts info5
            obtain ⟨A16, hcut16, hA16, hC16⟩ := print_mid_of (P := Tryz.prog) (Value.int .u8) 0 22 5 .i64 .i64 Tryz.underlying22 hi016 hsz16 A0 c0 l0 x6_1 (wrap64 (x6_1 + x7_7)) (pI) (by first | omega | exact pI) (pI) HC0.out
            have HR548 := aM (Kd.C_of_reads (h1 := fun _ => rfl) (hA16 _ (Kd.reads_of_C HR0.out)))
            have HC548 := aM hC16
            clear hA16 hC16 hi016 hsz16
            have hcv17 := Kd.C_string (P := Tryz.prog) (A := A16) (c := (c0 - x6_1.toNat)) Tryz.underlying22 Tryz.underlying5 Tryz.underlying9 (Kd.C_below HR548.out HB.out)
            (try have hcd18 := fun nq_ : Nat => Kd.C_string (P := Tryz.prog) (A := A16) (c := (c0 - x6_1.toNat)) Tryz.underlying22 Tryz.underlying5 Tryz.underlying9 (Kd.C_drewN (Kd.C_below HR548.out HB.out) nq_))
            (try have hce18 := Kd.C_string (P := Tryz.prog) (A := A16) (c := (c0 - x6_1.toNat)) Tryz.underlying22 Tryz.underlying5 Tryz.underlying9 (Kd.C_below HR548.out HB.out))
            (try (have hln18 : ((l0.take ((wrap64 (x6_1 + x7_7)) : Int).toNat).drop (x6_1 : Int).toNat).length = ((wrap64 (x6_1 + x7_7)) : Int).toNat - (x6_1 : Int).toNat := z33))
            (try rw [hln18] at hce18)
            (try simp only [hln18] at hcd18)
            (try clear hln18)
            obtain ⟨Ao19, co19, eo19⟩ := Kd.R_slice HO_5.out
            subst eo19
            go_wp2_with (first | ((with_reducible refine gate_callee (f := 75) rfl ?_); refine gL_ (some 79) Tryz.func75 #[.slice Ao19 x5_1.length co19] ?_; (with_reducible refine (impl_FieldsFault.calls kj7 _ _ x5_1 t549 _ ?side1 ?side2 A15.out).mono ?_); (case side1 => exact z2 HO_5.out); (case side2 => exact (Kd.R_reads' HO_5.out).2.1); rintro e w20 ⟨rfl, hb⟩; refine ⟨_, rfl, ?_⟩; replace HO_5 := aM (Kd.R_below (bR HO_5) hb); replace HB := aM (below_step bB hb); (try clear hi)))
            go_ret3
            exact ⟨_, bE, bR HO_5, bB⟩
           rw [if_neg c14] at H
           have c14b0 : ((strOfNums ((l0.take ((wrap64 (x6_1 + x7_7)) : Int).toNat).drop (x6_1 : Int).toNat)).toList == ([] : List UInt8)) = false := beq_eq_false_iff_ne.mpr c14
           have c14b1 : ((strOfNums ((l0.take ((wrap64 (x6_1 + x7_7)) : Int).toNat).drop (x6_1 : Int).toNat)).toList != ([] : List UInt8)) = true := bne_iff_ne.mpr c14
           by_cases c21 : 0 < ((strOfNums ((l0.take ((wrap64 (x6_1 + x7_7)) : Int).toNat).drop (x6_1 : Int).toNat)).size : Int)
           ·rw [if_pos c21] at H
            have c21b0 : decide (0 < ((strOfNums ((l0.take ((wrap64 (x6_1 + x7_7)) : Int).toNat).drop (x6_1 : Int).toNat)).size : Int)) = true := decide_eq_true c21
            have c21b1 : decide (0 < (strOfNums ((l0.take ((wrap64 (x6_1 + x7_7)) : Int).toNat).drop (x6_1 : Int).toNat)).size) = true := decide_eq_true (by omega)
            clear c21
            replace H := Option.bind_eq_some_iff.mp H
            obtain ⟨t550, A230, H⟩ := H
            replace H : (if t550 = true then (if (x5_1.length : Int) = 0 then (some (([] : List (S70)), 0, false)) else (if 0 ≤ (wrap64 ((x5_1.length : Int) - 1)) then (if (wrap64 ((x5_1.length : Int) - 1)) < (x5_1.length : Int) then (if ((rd_T70 x5_1 (wrap64 ((x5_1.length : Int) - 1))).f1).size + (strOfNums ((l0.take ((wrap64 (x6_1 + x7_7)) : Int).toNat).drop (x6_1 : Int).toNat)).size ≤ 9223372036854775807 then (impl_parseHeader.l0 kj7 l0 (x5_1.set ((wrap64 ((x5_1.length : Int) - 1)) : Int).toNat (⟨(rd_T70 x5_1 (wrap64 ((x5_1.length : Int) - 1))).f0, ((rd_T70 x5_1 (wrap64 ((x5_1.length : Int) - 1))).f1) ++ (strOfNums ((l0.take ((wrap64 (x6_1 + x7_7)) : Int).toNat).drop (x6_1 : Int).toNat))⟩ : S70)) x8_7) else (none)) else (none)) else (none))) else ((strings_Cut.f (strOfNums ((l0.take ((wrap64 (x6_1 + x7_7)) : Int).toNat).drop (x6_1 : Int).toNat)) (⟨#[58]⟩ : ByteArray)).bind fun bt553 => (if bt553.2.2 = true then ((strings_TrimPrefix.f bt553.2.1 (⟨#[32]⟩ : ByteArray)).bind fun t556 => (if x5_1.length < 4398046511104 then (impl_parseHeader.l0 kj7 l0 (x5_1 ++ [(⟨bt553.1, t556⟩ : S70)]) x8_7) else (none))) else (some (([] : List (S70)), 0, false))))) = some (r1, r2, r3) := H
            have A23 := aM A230
            clear A230
            by_cases c24 : t550 = true
            ·subst c24
             have H1 : (if (x5_1.length : Int) = 0 then (some (([] : List (S70)), 0, false)) else (if 0 ≤ (wrap64 ((x5_1.length : Int) - 1)) then (if (wrap64 ((x5_1.length : Int) - 1)) < (x5_1.length : Int) then (if ((rd_T70 x5_1 (wrap64 ((x5_1.length : Int) - 1))).f1).size + (strOfNums ((l0.take ((wrap64 (x6_1 + x7_7)) : Int).toNat).drop (x6_1 : Int).toNat)).size ≤ 9223372036854775807 then (impl_parseHeader.l0 kj7 l0 (x5_1.set ((wrap64 ((x5_1.length : Int) - 1)) : Int).toNat (⟨(rd_T70 x5_1 (wrap64 ((x5_1.length : Int) - 1))).f0, ((rd_T70 x5_1 (wrap64 ((x5_1.length : Int) - 1))).f1) ++ (strOfNums ((l0.take ((wrap64 (x6_1 + x7_7)) : Int).toNat).drop (x6_1 : Int).toNat))⟩ : S70)) x8_7) else (none)) else (none)) else (none))) = some (r1, r2, r3) := z14
             clear H
             have H := H1
             clear H1
             by_cases c25 : (x5_1.length : Int) = 0
             ·rw [if_pos c25] at H
              have c25b0 : ((x5_1.length : Int) == 0) = true := beq_iff_eq.mpr c25
              have c25b1 : ((x5_1.length : Int) != 0) = false := bne_eq_false_iff_eq.mpr c25
              clear c25
              simp only [Option.some.injEq, Prod.mk.injEq] at H
              obtain ⟨rfl, rfl, rfl⟩ := H
              obtain ⟨i026, hi026, _, hsz26, _⟩ := info_parts info5
              obtain ⟨A26, hcut26, hA26, hC26⟩ := print_mid_of (P := Tryz.prog) (Value.int .u8) 0 22 5 .i64 .i64 Tryz.underlying22 hi026 hsz26 A0 c0 l0 x6_1 (wrap64 (x6_1 + x7_7)) (pI) (by first | omega | exact pI) (pI) HC0.out
              have HR548 := aM (Kd.C_of_reads (h1 := fun _ => rfl) (hA26 _ (Kd.reads_of_C HR0.out)))
              have HC548 := aM hC26
              clear hA26 hC26 hi026 hsz26
              have hcv27 := Kd.C_string (P := Tryz.prog) (A := A26) (c := (c0 - x6_1.toNat)) Tryz.underlying22 Tryz.underlying5 Tryz.underlying9 (Kd.C_below HR548.out HB.out)
              (try have hcd28 := fun nq_ : Nat => Kd.C_string (P := Tryz.prog) (A := A26) (c := (c0 - x6_1.toNat)) Tryz.underlying22 Tryz.underlying5 Tryz.underlying9 (Kd.C_drewN (Kd.C_below HR548.out HB.out) nq_))
              (try have hce28 := Kd.C_string (P := Tryz.prog) (A := A26) (c := (c0 - x6_1.toNat)) Tryz.underlying22 Tryz.underlying5 Tryz.underlying9 (Kd.C_below HR548.out HB.out))
              (try (have hln28 : ((l0.take ((wrap64 (x6_1 + x7_7)) : Int).toNat).drop (x6_1 : Int).toNat).length = ((wrap64 (x6_1 + x7_7)) : Int).toNat - (x6_1 : Int).toNat := z33))
              (try rw [hln28] at hce28)
              (try simp only [hln28] at hcd28)
              (try clear hln28)
              have p22 : 0 ≤ (0 : Int) := (by omega)
              have q22 : 0 < (strOfNums ((l0.take ((wrap64 (x6_1 + x7_7)) : Int).toNat).drop (x6_1 : Int).toNat)).size := z37
              have hx22 : ∀ h : 0 < (strOfNums ((l0.take ((wrap64 (x6_1 + x7_7)) : Int).toNat).drop (x6_1 : Int).toNat)).size, (((strOfNums ((l0.take ((wrap64 (x6_1 + x7_7)) : Int).toNat).drop (x6_1 : Int).toNat))[0]'h).toNat : Int) = bt (strOfNums ((l0.take ((wrap64 (x6_1 + x7_7)) : Int).toNat).drop (x6_1 : Int).toNat)) 0 := bt_at (strOfNums ((l0.take ((wrap64 (x6_1 + x7_7)) : Int).toNat).drop (x6_1 : Int).toNat)) 0
              clear p22
              have qi22 : (0 < ((strOfNums ((l0.take ((wrap64 (x6_1 + x7_7)) : Int).toNat).drop (x6_1 : Int).toNat)).size : Int)) = True := eq_true (pI)
              replace q22 := eq_true q22
              go_wp2_with (first | ((with_reducible refine gate_callee (f := 72) rfl ?_); refine gL_ (some 46) Tryz.func72 #[.int .u8 (bt (strOfNums ((l0.take ((wrap64 (x6_1 + x7_7)) : Int).toNat).drop (x6_1 : Int).toNat)) 0)] ?_; (with_reducible refine (impl_isBlank.calls (bt (strOfNums ((l0.take ((wrap64 (x6_1 + x7_7)) : Int).toNat).drop (x6_1 : Int).toNat)) 0) true _ A23.out).mono ?_); rintro e w' ⟨rfl, ⟨nd, rfl⟩⟩; refine ⟨_, rfl, ?_⟩; obtain ⟨Ao29, co29, eo29⟩ := Kd.R_slice HO_5.out; subst eo29))
              go_ret3
              exact ⟨_, bE, z3, bB⟩
             rw [if_neg c25] at H
             have c25b0 : ((x5_1.length : Int) == 0) = false := beq_eq_false_iff_ne.mpr c25
             have c25b1 : ((x5_1.length : Int) != 0) = true := bne_iff_ne.mpr c25
             have c25b2 : ¬ (x5_1 = []) := fun h_ => c25 (by rw [h_]; rfl)
             obtain ⟨ji30, hji30⟩ : ∃ j_ : Int, (wrap64 ((x5_1.length : Int) - 1)) = j_ := ⟨_, rfl⟩
             replace H : (if 0 ≤ (ji30) then (if (ji30) < (x5_1.length : Int) then (if ((rd_T70 x5_1 (ji30)).f1).size + (strOfNums ((l0.take ((wrap64 (x6_1 + x7_7)) : Int).toNat).drop (x6_1 : Int).toNat)).size ≤ 9223372036854775807 then (impl_parseHeader.l0 kj7 l0 (x5_1.set ((ji30) : Int).toNat (⟨(rd_T70 x5_1 (ji30)).f0, ((rd_T70 x5_1 (ji30)).f1) ++ (strOfNums ((l0.take ((wrap64 (x6_1 + x7_7)) : Int).toNat).drop (x6_1 : Int).toNat))⟩ : S70)) x8_7) else (none)) else (none)) else (none)) = some (r1, r2, r3) := by first | (rw [hji30] at H; exact H) | (simp only [hji30] at H ⊢; exact H)
             (try rw [hji30] at A23)
             have hji30w : (IntKind.i64.wrap ((x5_1.length : Int) - 1)) = ji30 := (i64_w _).trans hji30
             by_cases c31 : 0 ≤ (ji30)
             ·rw [if_pos c31] at H
              have c31b0 : decide (0 ≤ (ji30)) = true := decide_eq_true c31
              clear c31
              by_cases c32 : (ji30) < (x5_1.length : Int)
              ·rw [if_pos c32] at H
               have c32b0 : decide ((ji30) < (x5_1.length : Int)) = true := decide_eq_true c32
               clear c32
               by_cases c33 : ((rd_T70 x5_1 (ji30)).f1).size + (strOfNums ((l0.take ((wrap64 (x6_1 + x7_7)) : Int).toNat).drop (x6_1 : Int).toNat)).size ≤ 9223372036854775807
               ·rw [if_pos c33] at H
                have c33b0 := eq_true c33
                have c33b1 : decide (((rd_T70 x5_1 (ji30)).f1).size + (strOfNums ((l0.take ((wrap64 (x6_1 + x7_7)) : Int).toNat).drop (x6_1 : Int).toNat)).size ≤ 9223372036854775807) = true := decide_eq_true c33
                try have c33b2 : (9223372036854775807 < ((rd_T70 x5_1 (ji30)).f1).size + (strOfNums ((l0.take ((wrap64 (x6_1 + x7_7)) : Int).toNat).drop (x6_1 : Int).toNat)).size) = False := eq_false (Nat.not_lt.2 c33)
                obtain ⟨y552, hy552⟩ : ∃ y_ : List (S70), y_ = (x5_1.set ((ji30) : Int).toNat (⟨(rd_T70 x5_1 (ji30)).f0, ((rd_T70 x5_1 (ji30)).f1) ++ (strOfNums ((l0.take ((wrap64 (x6_1 + x7_7)) : Int).toNat).drop (x6_1 : Int).toNat))⟩ : S70)) := ⟨_, rfl⟩
                replace H : (impl_parseHeader.l0 kj7 l0 y552 x8_7) = some (r1, r2, r3) := z0 hy552
                have Ny552 := aM hy552
                clear hy552
                have H' := aM H
                clear H
                obtain ⟨i035, hi035, _, hsz35, _⟩ := info_parts info5
                obtain ⟨A35, hcut35, hA35, hC35⟩ := print_mid_of (P := Tryz.prog) (Value.int .u8) 0 22 5 .i64 .i64 Tryz.underlying22 hi035 hsz35 A0 c0 l0 x6_1 (wrap64 (x6_1 + x7_7)) (pI) (by first | omega | exact pI) (pI) HC0.out
                have HR548 := aM (Kd.C_of_reads (h1 := fun _ => rfl) (hA35 _ (Kd.reads_of_C HR0.out)))
                have HC548 := aM hC35
                clear hA35 hC35 hi035 hsz35
                have hcv36 := Kd.C_string (P := Tryz.prog) (A := A35) (c := (c0 - x6_1.toNat)) Tryz.underlying22 Tryz.underlying5 Tryz.underlying9 (Kd.C_below HR548.out HB.out)
                (try have hcd37 := fun nq_ : Nat => Kd.C_string (P := Tryz.prog) (A := A35) (c := (c0 - x6_1.toNat)) Tryz.underlying22 Tryz.underlying5 Tryz.underlying9 (Kd.C_drewN (Kd.C_below HR548.out HB.out) nq_))
                (try have hce37 := Kd.C_string (P := Tryz.prog) (A := A35) (c := (c0 - x6_1.toNat)) Tryz.underlying22 Tryz.underlying5 Tryz.underlying9 (Kd.C_below HR548.out HB.out))
                (try (have hln37 : ((l0.take ((wrap64 (x6_1 + x7_7)) : Int).toNat).drop (x6_1 : Int).toNat).length = ((wrap64 (x6_1 + x7_7)) : Int).toNat - (x6_1 : Int).toNat := z33))
                (try rw [hln37] at hce37)
                (try simp only [hln37] at hcd37)
                (try clear hln37)
                have p22 : 0 ≤ (0 : Int) := (by omega)
                have q22 : 0 < (strOfNums ((l0.take ((wrap64 (x6_1 + x7_7)) : Int).toNat).drop (x6_1 : Int).toNat)).size := z37
                have hx22 : ∀ h : 0 < (strOfNums ((l0.take ((wrap64 (x6_1 + x7_7)) : Int).toNat).drop (x6_1 : Int).toNat)).size, (((strOfNums ((l0.take ((wrap64 (x6_1 + x7_7)) : Int).toNat).drop (x6_1 : Int).toNat))[0]'h).toNat : Int) = bt (strOfNums ((l0.take ((wrap64 (x6_1 + x7_7)) : Int).toNat).drop (x6_1 : Int).toNat)) 0 := bt_at (strOfNums ((l0.take ((wrap64 (x6_1 + x7_7)) : Int).toNat).drop (x6_1 : Int).toNat)) 0
                clear p22
                have qi22 : (0 < ((strOfNums ((l0.take ((wrap64 (x6_1 + x7_7)) : Int).toNat).drop (x6_1 : Int).toNat)).size : Int)) = True := eq_true (pI)
                replace q22 := eq_true q22
                go_wp2_with (first | ((with_reducible refine gate_callee (f := 72) rfl ?_); refine gL_ (some 46) Tryz.func72 #[.int .u8 (bt (strOfNums ((l0.take ((wrap64 (x6_1 + x7_7)) : Int).toNat).drop (x6_1 : Int).toNat)) 0)] ?_; (with_reducible refine (impl_isBlank.calls (bt (strOfNums ((l0.take ((wrap64 (x6_1 + x7_7)) : Int).toNat).drop (x6_1 : Int).toNat)) 0) true _ A23.out).mono ?_); rintro e w' ⟨rfl, ⟨nd, rfl⟩⟩; refine ⟨_, rfl, ?_⟩; (try (rw [drewN_self wc]; generalize hq_ : World.drewN wc _ = wc; have n0_ : Aside0 (Kd.R k70 70 wc w.heap.size (fun _ => True) u5 x5_1) := ⟨by rw [← hq_]; exact (bR HO_5)⟩; have n1_ : Aside0 (Below w.heap.size w wc) := ⟨by rw [← hq_]; exact bB⟩; clear HO_5 HB hq_; have HO_5 := n0_; have HB := n1_; clear n0_ n1_)); obtain ⟨Ao38, co38, eo38⟩ := Kd.R_slice HO_5.out; subst eo38; have p551 : 0 ≤ ((ji30) : Int) := pI; have q551 : (ji30) < (x5_1.length : Int) := pI; obtain ⟨ad551, e551, hx551_0, hx551_1⟩ := at_T70 (Kd.R_reads' HO_5.out).2.2 (ji30) p551 q551; cases e551; replace p551 := eq_true p551; replace q551 := eq_true q551; have p34 : 0 ≤ ((ji30) : Int) := pI; have q34 : ((ji30) : Int) < ((x5_1.length : Int) : Int) := pI; obtain ⟨go34, co34, eo34, gb34, gl34, cl34, HG34⟩ := Kd.R_form HO_5.out (by omega); (first | cases eo34 | (injection eo34 with ea_ en_ ec_; (first | subst ea_ | (injection ea_ with ea_; subst ea_)); subst ec_; clear en_)); have GB34 := aM gb34; have GG34 := aM HG34; clear gb34 gl34 HG34; (first | simp only [add_plain] at hx551_0 | skip); (first | simp only [add_plain] at hx551_1 | skip); obtain ⟨ce34, hcl34, hM34, hcc34, hfr34⟩ := Kd.R_elem HO_5.out z70 ((ji30) : Int) p34 q34; obtain rfl := k70_openM hM34; have hx34_0 : wc.cell? ⟨go34, ((ji30) : Int).toNat * 2, none⟩ = some (.string ((rd_T70 x5_1 (ji30)).f0)) := hcc34 0 _ rfl; have hx34_1 : wc.cell? ⟨go34, ((ji30) : Int).toNat * 2 + 1, none⟩ = some (.string ((rd_T70 x5_1 (ji30)).f1)) := hcc34 1 _ rfl; have hf34_0 : wc.frozen? ⟨go34, ((ji30) : Int).toNat * 2, none⟩ = false := hfr34 0 (by decide); have hf34_1 : wc.frozen? ⟨go34, ((ji30) : Int).toNat * 2 + 1, none⟩ = false := hfr34 1 (by decide); clear hcl34 hcc34 hfr34 hM34; replace p34 := eq_true p34; replace q34 := eq_true q34; have HX39 := aM (show Kd.R k70 70 wc w.heap.size (fun _ => True) (.slice (some ⟨go34, 0, none⟩) x5_1.length co38) x5_1 from (bR HO_5)); obtain ⟨ce39, hcl39, hM39, hcc39, hfr39⟩ := Kd.R_elem HX39.out z70 ((ji30) : Int) (pI) (bH (pI : ((ji30) : Int) < ((x5_1.length : Int) : Int)) (Kd.R_reads' HO_5.out).1); obtain rfl := k70_openM hM39; have HP39 := Kd.R_seg HX39.out ((ji30) : Int) (pI) (bH (pI : ((ji30) : Int) < ((x5_1.length : Int) : Int)) (Kd.R_reads' HO_5.out).1) (seg := [.string (((rd_T70 x5_1 (ji30)).f1) ++ (strOfNums ((l0.take ((wrap64 (x6_1 + x7_7)) : Int).toNat).drop (x6_1 : Int).toNat)))]) (j := 1) hcl39 hcc39 (show 2 ≤ 2 from by decide) (x' := (⟨(rd_T70 x5_1 (ji30)).f0, ((rd_T70 x5_1 (ji30)).f1) ++ (strOfNums ((l0.take ((wrap64 (x6_1 + x7_7)) : Int).toNat).drop (x6_1 : Int).toNat))⟩ : S70)) (k70_mkM _ _ _ (⟨(rd_T70 x5_1 (ji30)).f0, ((rd_T70 x5_1 (ji30)).f1) ++ (strOfNums ((l0.take ((wrap64 (x6_1 + x7_7)) : Int).toNat).drop (x6_1 : Int).toNat))⟩ : S70) ) (fun _ hk => hk); have hx39_1 := hcc39 1 _ rfl; (try simp only [show (k70).sz = 2 from rfl, Nat.mul_one, Nat.add_zero] at hx39_1); have hf39_1 := hfr39 1 (by decide); (try simp only [show (k70).sz = 2 from rfl, Nat.mul_one, Nat.add_zero] at hf39_1); clear hcl39 hcc39 hfr39 hM39) | ((with_reducible refine gate_store (t := 9) (p := 60) rfl ?_); refine store_event (t := 9) (p := 60) (v := ?vo_w40) (w1 := (wc.setCell ⟨go34, ((ji30) : Int).toNat * 2 + 1, none⟩ (.string (((rd_T70 x5_1 (ji30)).f1) ++ (strOfNums ((l0.take ((wrap64 (x6_1 + x7_7)) : Int).toNat).drop (x6_1 : Int).toNat)))))) ?hg ?ho ?hn ?hr ?_; (case ho => rfl); (case hg => rfl); (case hn => rfl); (case hr => exact z8); intro w40 hw; have hg : wc.grownBy w40 (some go34) := (by rw [hw]; exact HP39.2); have hp_ : Kd.R k70 70 w40 w.heap.size (fun _ => True) (.slice (some ⟨go34, 0, none⟩) x5_1.length co38) y552 := (by rw [hw, Ny552.out]; exact HP39.1); clear HP39; replace HO_5 := aM (hp_); replace HB := aM ((z48 GB34.out : Below w.heap.size w w40)); clear hg hw hp_))
                go_roundg kj7
                case measure => have := HK1.out; have := HJ7.out; omega
                case rel => exact ⟨(y552), (x8_7), bS, H', ⟨by have := HK1.out; have := HJ7.out; omega⟩, ⟨bR HO_5⟩, ⟨bB⟩⟩
               rw [if_neg c33] at H
               exact absurd H (by simp)
              rw [if_neg c32] at H
              exact absurd H (by simp)
             rw [if_neg c31] at H
             exact absurd H (by simp)
            replace c24 := Bool.eq_false_iff.mpr c24
            subst c24
            have H1 : ((strings_Cut.f (strOfNums ((l0.take ((wrap64 (x6_1 + x7_7)) : Int).toNat).drop (x6_1 : Int).toNat)) (⟨#[58]⟩ : ByteArray)).bind fun bt553 => (if bt553.2.2 = true then ((strings_TrimPrefix.f bt553.2.1 (⟨#[32]⟩ : ByteArray)).bind fun t556 => (if x5_1.length < 4398046511104 then (impl_parseHeader.l0 kj7 l0 (x5_1 ++ [(⟨bt553.1, t556⟩ : S70)]) x8_7) else (none))) else (some (([] : List (S70)), 0, false)))) = some (r1, r2, r3) := z5
            clear H
            have H := H1
            clear H1
            replace H := Option.bind_eq_some_iff.mp H
            obtain ⟨⟨t553, t554, t555⟩, A410, H⟩ := H
            replace H : (if t555 = true then ((strings_TrimPrefix.f t554 (⟨#[32]⟩ : ByteArray)).bind fun t556 => (if x5_1.length < 4398046511104 then (impl_parseHeader.l0 kj7 l0 (x5_1 ++ [(⟨t553, t556⟩ : S70)]) x8_7) else (none))) else (some (([] : List (S70)), 0, false))) = some (r1, r2, r3) := H
            have A41 := aM A410
            clear A410
            have HQ_ := aM H
            clear H
            obtain ⟨i045, hi045, _, hsz45, _⟩ := info_parts info5
            have H := HQ_.out
            clear HQ_
            by_cases c42 : t555 = true
            ·subst c42
             have H1 : ((strings_TrimPrefix.f t554 (⟨#[32]⟩ : ByteArray)).bind fun t556 => (if x5_1.length < 4398046511104 then (impl_parseHeader.l0 kj7 l0 (x5_1 ++ [(⟨t553, t556⟩ : S70)]) x8_7) else (none))) = some (r1, r2, r3) := z14
             clear H
             have H := H1
             clear H1
             replace H := Option.bind_eq_some_iff.mp H
             obtain ⟨t556, A430, H⟩ := H
             replace H : (if x5_1.length < 4398046511104 then (impl_parseHeader.l0 kj7 l0 (x5_1 ++ [(⟨t553, t556⟩ : S70)]) x8_7) else (none)) = some (r1, r2, r3) := H
             have A43 := aM A430
             clear A430
             by_cases c44 : x5_1.length < 4398046511104
             ·rw [if_pos c44] at H
              have LMc44 := aM c44
              clear c44
              obtain ⟨y557, hy557⟩ : ∃ y_ : List (S70), y_ = (x5_1 ++ [(⟨t553, t556⟩ : S70)]) := ⟨_, rfl⟩
              replace H : (impl_parseHeader.l0 kj7 l0 y557 x8_7) = some (r1, r2, r3) := z0 hy557
              have Ny557 := aM hy557
              clear hy557
              have H' := aM H
              clear H
              obtain ⟨A45, hcut45, hA45, hC45⟩ := print_mid_of (P := Tryz.prog) (Value.int .u8) 0 22 5 .i64 .i64 Tryz.underlying22 hi045 hsz45 A0 c0 l0 x6_1 (wrap64 (x6_1 + x7_7)) (pI) (by first | omega | exact pI) (pI) HC0.out
              have HR548 := aM (Kd.C_of_reads (h1 := fun _ => rfl) (hA45 _ (Kd.reads_of_C HR0.out)))
              have HC548 := aM hC45
              clear hA45 hC45 hi045 hsz45
              have hcv46 := Kd.C_string (P := Tryz.prog) (A := A45) (c := (c0 - x6_1.toNat)) Tryz.underlying22 Tryz.underlying5 Tryz.underlying9 (Kd.C_below HR548.out HB.out)
              (try have hcd47 := fun nq_ : Nat => Kd.C_string (P := Tryz.prog) (A := A45) (c := (c0 - x6_1.toNat)) Tryz.underlying22 Tryz.underlying5 Tryz.underlying9 (Kd.C_drewN (Kd.C_below HR548.out HB.out) nq_))
              (try have hce47 := Kd.C_string (P := Tryz.prog) (A := A45) (c := (c0 - x6_1.toNat)) Tryz.underlying22 Tryz.underlying5 Tryz.underlying9 (Kd.C_below HR548.out HB.out))
              (try (have hln47 : ((l0.take ((wrap64 (x6_1 + x7_7)) : Int).toNat).drop (x6_1 : Int).toNat).length = ((wrap64 (x6_1 + x7_7)) : Int).toNat - (x6_1 : Int).toNat := z33))
              (try rw [hln47] at hce47)
              (try simp only [hln47] at hcd47)
              (try clear hln47)
              have p22 : 0 ≤ (0 : Int) := (by omega)
              have q22 : 0 < (strOfNums ((l0.take ((wrap64 (x6_1 + x7_7)) : Int).toNat).drop (x6_1 : Int).toNat)).size := z37
              have hx22 : ∀ h : 0 < (strOfNums ((l0.take ((wrap64 (x6_1 + x7_7)) : Int).toNat).drop (x6_1 : Int).toNat)).size, (((strOfNums ((l0.take ((wrap64 (x6_1 + x7_7)) : Int).toNat).drop (x6_1 : Int).toNat))[0]'h).toNat : Int) = bt (strOfNums ((l0.take ((wrap64 (x6_1 + x7_7)) : Int).toNat).drop (x6_1 : Int).toNat)) 0 := bt_at (strOfNums ((l0.take ((wrap64 (x6_1 + x7_7)) : Int).toNat).drop (x6_1 : Int).toNat)) 0
              clear p22
              have qi22 : (0 < ((strOfNums ((l0.take ((wrap64 (x6_1 + x7_7)) : Int).toNat).drop (x6_1 : Int).toNat)).size : Int)) = True := eq_true (pI)
              replace q22 := eq_true q22
              go_wp2_with (first | ((with_reducible refine gate_callee (f := 72) rfl ?_); refine gL_ (some 46) Tryz.func72 #[.int .u8 (bt (strOfNums ((l0.take ((wrap64 (x6_1 + x7_7)) : Int).toNat).drop (x6_1 : Int).toNat)) 0)] ?_; (with_reducible refine (impl_isBlank.calls (bt (strOfNums ((l0.take ((wrap64 (x6_1 + x7_7)) : Int).toNat).drop (x6_1 : Int).toNat)) 0) false _ A23.out).mono ?_); rintro e w' ⟨rfl, ⟨nd, rfl⟩⟩; refine ⟨_, rfl, ?_⟩) | ((with_reducible refine gate_callee (f := 73) rfl ?_); refine gL_ (some 63) Tryz.func73 #[.string (strOfNums ((l0.take ((wrap64 (x6_1 + x7_7)) : Int).toNat).drop (x6_1 : Int).toNat)), .string (⟨#[58]⟩ : ByteArray)] ?_; (with_reducible refine (strings_Cut.calls (strOfNums ((l0.take ((wrap64 (x6_1 + x7_7)) : Int).toNat).drop (x6_1 : Int).toNat)) (⟨#[58]⟩ : ByteArray) t553 t554 true _ A41.out).mono ?_); rintro e w' ⟨rfl, ⟨nd, rfl⟩⟩; refine ⟨_, rfl, ?_⟩) | ((with_reducible refine gate_callee (f := 74) rfl ?_); refine gL_ (some 72) Tryz.func74 #[.string t554, .string (⟨#[32]⟩ : ByteArray)] ?_; (with_reducible refine (strings_TrimPrefix.calls t554 (⟨#[32]⟩ : ByteArray) t556 _ A43.out).mono ?_); rintro e w' ⟨rfl, ⟨nd, rfl⟩⟩; refine ⟨_, rfl, ?_⟩) | ((with_reducible refine gate_builtin (b := .append) (xs := #[.tmp 69, .tmp 74]) rfl ?_); at_builtin; refine Kd.R_append k70 (w0 := w) w.heap.size rfl (.tmp 69) (.tmp 74) 43 70 (.agg #[(.string ⟨#[]⟩), (.string ⟨#[]⟩)]) 32 rfl Tryz.underlying43 info70 rfl (by decide) (by omega) u5 x5_1 (⟨t553, t556⟩ : S70) [.string t553, .string t556] (fun _ => True) (fun _ => False) rfl rfl ?aP (fun _ hk => hk.elim) ?aF ?aO ?aB ?aS ?aL ?_; (case aP => exact k70_mkM _ _ _ (⟨t553, t556⟩ : S70)); (case aB => exact bB); (case aF => exact (fun _ _ => trivial)); (case aO => exact (bR HO_5)); (case aS => exact (below_size bB)); (case aL => have := LMc44.out; omega); intro v558 w48 ho hb hg hat; rw [← Ny557.out] at ho; have n0_ := aM (hb); have n1_ := aM (ho); clear HB; clear HO_5; have HB := n0_; have HO559 := n1_; clear n0_ n1_; clear ho hb hg hat))
              go_roundg kj7
              case measure => have := HK1.out; have := HJ7.out; omega
              case rel => exact ⟨(y557), (x8_7), bS, H', ⟨by have := HK1.out; have := HJ7.out; omega⟩, ⟨bR HO559⟩, ⟨bB⟩⟩
             rw [if_neg c44] at H
             exact absurd H (by simp)
            replace c42 := Bool.eq_false_iff.mpr c42
            subst c42
            have H1 : (some (([] : List (S70)), 0, false)) = some (r1, r2, r3) := z5
            clear H
            have H := H1
            clear H1
            simp only [Option.some.injEq, Prod.mk.injEq] at H
            obtain ⟨rfl, rfl, rfl⟩ := H
            obtain ⟨A49, hcut49, hA49, hC49⟩ := print_mid_of (P := Tryz.prog) (Value.int .u8) 0 22 5 .i64 .i64 Tryz.underlying22 hi045 hsz45 A0 c0 l0 x6_1 (wrap64 (x6_1 + x7_7)) (pI) (by first | omega | exact pI) (pI) HC0.out
            have HR548 := aM (Kd.C_of_reads (h1 := fun _ => rfl) (hA49 _ (Kd.reads_of_C HR0.out)))
            have HC548 := aM hC49
            clear hA49 hC49 hi045 hsz45
            have hcv50 := Kd.C_string (P := Tryz.prog) (A := A49) (c := (c0 - x6_1.toNat)) Tryz.underlying22 Tryz.underlying5 Tryz.underlying9 (Kd.C_below HR548.out HB.out)
            (try have hcd51 := fun nq_ : Nat => Kd.C_string (P := Tryz.prog) (A := A49) (c := (c0 - x6_1.toNat)) Tryz.underlying22 Tryz.underlying5 Tryz.underlying9 (Kd.C_drewN (Kd.C_below HR548.out HB.out) nq_))
            (try have hce51 := Kd.C_string (P := Tryz.prog) (A := A49) (c := (c0 - x6_1.toNat)) Tryz.underlying22 Tryz.underlying5 Tryz.underlying9 (Kd.C_below HR548.out HB.out))
            (try (have hln51 : ((l0.take ((wrap64 (x6_1 + x7_7)) : Int).toNat).drop (x6_1 : Int).toNat).length = ((wrap64 (x6_1 + x7_7)) : Int).toNat - (x6_1 : Int).toNat := z33))
            (try rw [hln51] at hce51)
            (try simp only [hln51] at hcd51)
            (try clear hln51)
            have p22 : 0 ≤ (0 : Int) := (by omega)
            have q22 : 0 < (strOfNums ((l0.take ((wrap64 (x6_1 + x7_7)) : Int).toNat).drop (x6_1 : Int).toNat)).size := z37
            have hx22 : ∀ h : 0 < (strOfNums ((l0.take ((wrap64 (x6_1 + x7_7)) : Int).toNat).drop (x6_1 : Int).toNat)).size, (((strOfNums ((l0.take ((wrap64 (x6_1 + x7_7)) : Int).toNat).drop (x6_1 : Int).toNat))[0]'h).toNat : Int) = bt (strOfNums ((l0.take ((wrap64 (x6_1 + x7_7)) : Int).toNat).drop (x6_1 : Int).toNat)) 0 := bt_at (strOfNums ((l0.take ((wrap64 (x6_1 + x7_7)) : Int).toNat).drop (x6_1 : Int).toNat)) 0
            clear p22
            have qi22 : (0 < ((strOfNums ((l0.take ((wrap64 (x6_1 + x7_7)) : Int).toNat).drop (x6_1 : Int).toNat)).size : Int)) = True := eq_true (pI)
            replace q22 := eq_true q22
            go_wp2_with (first | ((with_reducible refine gate_callee (f := 72) rfl ?_); refine gL_ (some 46) Tryz.func72 #[.int .u8 (bt (strOfNums ((l0.take ((wrap64 (x6_1 + x7_7)) : Int).toNat).drop (x6_1 : Int).toNat)) 0)] ?_; (with_reducible refine (impl_isBlank.calls (bt (strOfNums ((l0.take ((wrap64 (x6_1 + x7_7)) : Int).toNat).drop (x6_1 : Int).toNat)) 0) false _ A23.out).mono ?_); rintro e w' ⟨rfl, ⟨nd, rfl⟩⟩; refine ⟨_, rfl, ?_⟩) | ((with_reducible refine gate_callee (f := 73) rfl ?_); refine gL_ (some 63) Tryz.func73 #[.string (strOfNums ((l0.take ((wrap64 (x6_1 + x7_7)) : Int).toNat).drop (x6_1 : Int).toNat)), .string (⟨#[58]⟩ : ByteArray)] ?_; (with_reducible refine (strings_Cut.calls (strOfNums ((l0.take ((wrap64 (x6_1 + x7_7)) : Int).toNat).drop (x6_1 : Int).toNat)) (⟨#[58]⟩ : ByteArray) t553 t554 false _ A41.out).mono ?_); rintro e w' ⟨rfl, ⟨nd, rfl⟩⟩; refine ⟨_, rfl, ?_⟩))
            go_ret3
            exact ⟨_, bE, z3, bB⟩
           rw [if_neg c21] at H
           exact absurd H (by simp)
          rw [if_neg c13] at H
          exact absurd H (by simp)
         rw [if_neg c12] at H
         exact absurd H (by simp)
        rw [if_neg c11] at H
        exact absurd H (by simp)
     rw [if_neg c6] at H
     exact absurd H (by simp)
    rw [if_neg c5] at H
    exact absurd H (by simp)
   rw [if_neg c4] at H
   have c4b0 : decide (x6_1 < (l0.length : Int)) = false := decide_eq_false c4
   clear c4
   replace H := Option.bind_eq_some_iff.mp H
   obtain ⟨t545, A520, H⟩ := H
   replace H : (some (x5_1, x6_1, (t545 == 0))) = some (r1, r2, r3) := H
   have A52 := aM A520
   clear A520
   simp only [Option.some.injEq, Prod.mk.injEq] at H
   obtain ⟨rfl, rfl, rfl⟩ := H
   obtain ⟨Ao53, co53, eo53⟩ := Kd.R_slice HO_5.out
   subst eo53
   go_wp2_with (first | ((with_reducible refine gate_callee (f := 75) rfl ?_); refine gL_ (some 79) Tryz.func75 #[.slice Ao53 x5_1.length co53] ?_; (with_reducible refine (impl_FieldsFault.calls k1 _ _ x5_1 t545 _ ?side1 ?side2 A52.out).mono ?_); (case side1 => exact z2 HO_5.out); (case side2 => exact (Kd.R_reads' HO_5.out).2.1); rintro e w54 ⟨rfl, hb⟩; refine ⟨_, rfl, ?_⟩; replace HO_5 := aM (Kd.R_below (bR HO_5) hb); replace HB := aM (below_step bB hb); (try clear hi)))
   go_ret3
   exact ⟨_, bE, bR HO_5, bB⟩
def impl_ParseHeader.f (k : Nat) (l0 : List Int) : Option (Int × Int × (List (S70))) := if (l0.length : Int) > 400 then (some (2, 0, ([] : List (S70)))) else ((impl_parseHeader.f k l0).bind fun bt561 => (if bt561.2.2 = true then (some (0, bt561.2.1, bt561.1)) else (some (1, 0, ([] : List (S70))))))
set_option maxHeartbeats 8000000 in
set_option maxRecDepth 100000 in
theorem impl_ParseHeader.calls (k : Nat) (A0 : Option Addr) (c0 : Nat) (l0 : List Int) (r1 : Int) (r2 : Int) (r3 : List (S70)) (w : World) (hr0 : Kd.C (Kd.int .u8) w A0 l0.length l0) (hc0 : l0.length ≤ c0) (h : impl_ParseHeader.f k l0 = some (r1, r2, r3)) :
  Calls Tryz.prog 24 #[.slice A0 l0.length c0] w fun e w' => ∃ v2_ : Value, e = .returned (.agg #[.int .i64 r1, .int .i64 r2, v2_]) ∧ Kd.R k70 70 w' w.heap.size (fun _ => True) v2_ r3 ∧ Below w.heap.size w w' := by
 have hu45 := Tryz.underlying45
 have HR0 := aM hr0
 have HC0 := aM hc0
 clear hr0 hc0
 have HB := aM (Below.refl w.heap.size w)
 have H : (if (l0.length : Int) > 400 then (some (2, 0, ([] : List (S70)))) else ((impl_parseHeader.f k l0).bind fun bt561 => (if bt561.2.2 = true then (some (0, bt561.2.1, bt561.1)) else (some (1, 0, ([] : List (S70))))))) = some (r1, r2, r3) := h
 clear h
 by_cases c2 : (l0.length : Int) > 400
 ·rw [if_pos c2] at H
  have c2b0 : decide (400 < (l0.length : Int)) = true := decide_eq_true c2
  have c2b1 : decide (400 < l0.length) = true := decide_eq_true (by omega)
  clear c2
  simp only [Option.some.injEq, Prod.mk.injEq] at H
  obtain ⟨rfl, rfl, rfl⟩ := H
  go_enter Tryz.func24, Tryz.ntmps24
  go_wp2_with (first | ((with_reducible refine gate_dst (N := 2) rfl ?_); refine box_event ?hg (N := 2) ?hd (cs := #[.int .i64 0, .int .i64 0, .slice none 0 0]) (t := 45) ?hr ?_; (case hd => rfl); (case hg => rfl); (case hr => exact z8); intro gb560 hg w3 hbox hb; have BK560 := aM (hbox); have GW560 := aM ((z11 : w.heap.size ≤ gb560)); have GE560 := aM ((z11 : w.heap.size ≤ gb560)); replace HB := aM (below_step bB hb); clear hb hbox hg; have hcz4_0 : w3.cell? ⟨gb560, 0, none⟩ = some (.int .i64 0) := (blk_cell BK560.out 0).trans rfl; have hcz4_1 : w3.cell? ⟨gb560, 1, none⟩ = some (.int .i64 0) := (blk_cell BK560.out 1).trans rfl; have hcz4_2 : w3.cell? ⟨gb560, 2, none⟩ = some (.slice none 0 0) := (blk_cell BK560.out 2).trans rfl; have hfz4_0 := blk_frozen BK560.out 0; have hfz4_1 := blk_frozen BK560.out 1; have hfz4_2 := blk_frozen BK560.out 2))
  refine bodyPost_ret (results_cell_row rfl _ _ gb560 45 #[.int .i64 2, .int .i64 0, .slice none 0 0] (0, 0) _ rfl (by (with_reducible repeat (first | refine blk_drewN ?_ _ | refine blk_drew ?_ | refine blk_alloc ?_ _)); refine blk_put (cs := #[.int .i64 2, .int .i64 0, .slice none 0 0]) ?_ 2 _ rfl; (with_reducible repeat (first | refine blk_drewN ?_ _ | refine blk_drew ?_ | refine blk_alloc ?_ _)); refine blk_put (cs := #[.int .i64 2, .int .i64 0, .slice none 0 0]) ?_ 1 _ rfl; (with_reducible repeat (first | refine blk_drewN ?_ _ | refine blk_drew ?_ | refine blk_alloc ?_ _)); refine blk_put (cs := #[.int .i64 0, .int .i64 0, .slice none 0 0]) ?_ 0 _ rfl; (with_reducible repeat (first | refine blk_drewN ?_ _ | refine blk_drew ?_ | refine blk_alloc ?_ _)); exact BK560.out) Tryz.underlying45 rfl (by kernel_rfl)) rfl ?_
  exact ⟨_, bE, z3, bG GE560⟩
 rw [if_neg c2] at H
 have c2b0 : decide (400 < (l0.length : Int)) = false := decide_eq_false c2
 have c2b1 : decide (400 < l0.length) = false := decide_eq_false (by omega)
 clear c2
 replace H := Option.bind_eq_some_iff.mp H
 obtain ⟨⟨t561, t562, t563⟩, A50, H⟩ := H
 replace H : (if t563 = true then (some (0, t562, t561)) else (some (1, 0, ([] : List (S70))))) = some (r1, r2, r3) := H
 have A5 := aM A50
 clear A50
 by_cases c6 : t563 = true
 ·subst c6
  have H1 : (some (0, t562, t561)) = some (r1, r2, r3) := z14
  clear H
  have H := H1
  clear H1
  simp only [Option.some.injEq, Prod.mk.injEq] at H
  obtain ⟨rfl, rfl, rfl⟩ := H
  go_enter Tryz.func24, Tryz.ntmps24
  go_wp2_with (first | ((with_reducible refine gate_dst (N := 2) rfl ?_); refine box_event ?hg (N := 2) ?hd (cs := #[.int .i64 0, .int .i64 0, .slice none 0 0]) (t := 45) ?hr ?_; (case hd => rfl); (case hg => rfl); (case hr => exact z8); intro gb560 hg w7 hbox hb; have BK560 := aM (hbox); have GW560 := aM ((z11 : w.heap.size ≤ gb560)); have GE560 := aM ((z11 : w.heap.size ≤ gb560)); replace HB := aM (below_step bB hb); clear hb hbox hg) | ((with_reducible refine gate_callee (f := 49) rfl ?_); refine gL_ (some 12) Tryz.func49 #[.slice A0 l0.length c0] ?_; (with_reducible refine (impl_parseHeader.calls k _ _ l0 t561 t562 true _ ?side1 ?side2 A5.out).mono ?_); (case side1 => exact z4 HR0.out); (case side2 => exact HC0.out); rintro e w8 ⟨v564, rfl, ho0, hb⟩; refine ⟨_, rfl, ?_⟩; have HO565 := aM (Kd.R_lower ho0 (below_size (bG GE560))); replace BK560 := aM (blk_below (g := gb560) (o := .cells #[.int .i64 0, .int .i64 0, .slice none 0 0] 45 (0, 0)) (bL BK560) hb); replace HB := aM (below_step (bG GE560) hb); (try clear ho0); obtain ⟨Ao9, co9, eo9⟩ := Kd.R_slice HO565.out; subst eo9; have hcz10_0 : w8.cell? ⟨gb560, 0, none⟩ = some (.int .i64 0) := (blk_cell BK560.out 0).trans rfl; have hcz10_1 : w8.cell? ⟨gb560, 1, none⟩ = some (.int .i64 0) := (blk_cell BK560.out 1).trans rfl; have hcz10_2 : w8.cell? ⟨gb560, 2, none⟩ = some (.slice none 0 0) := (blk_cell BK560.out 2).trans rfl; have hfz10_0 := blk_frozen BK560.out 0; have hfz10_1 := blk_frozen BK560.out 1; have hfz10_2 := blk_frozen BK560.out 2))
  refine bodyPost_ret (results_cell_row rfl _ _ gb560 45 #[.int .i64 0, .int .i64 t562, .slice Ao9 t561.length co9] (0, 0) _ rfl (by (with_reducible repeat (first | refine blk_drewN ?_ _ | refine blk_drew ?_ | refine blk_alloc ?_ _)); refine blk_put (cs := #[.int .i64 0, .int .i64 t562, .slice none 0 0]) ?_ 2 _ rfl; (with_reducible repeat (first | refine blk_drewN ?_ _ | refine blk_drew ?_ | refine blk_alloc ?_ _)); refine blk_put (cs := #[.int .i64 0, .int .i64 0, .slice none 0 0]) ?_ 1 _ rfl; (with_reducible repeat (first | refine blk_drewN ?_ _ | refine blk_drew ?_ | refine blk_alloc ?_ _)); refine blk_put (cs := #[.int .i64 0, .int .i64 0, .slice none 0 0]) ?_ 0 _ rfl; (with_reducible repeat (first | refine blk_drewN ?_ _ | refine blk_drew ?_ | refine blk_alloc ?_ _)); exact BK560.out) Tryz.underlying45 rfl (by kernel_rfl)) rfl ?_
  exact ⟨_, bE, by (with_reducible repeat (first | apply Kd.R_alloc | apply Kd.R_drewN | apply Kd.R_drew)); exact Kd.R_mono (Kd.R_far (p := ⟨gb560, 2, none⟩) (Kd.R_far (p := ⟨gb560, 1, none⟩) (Kd.R_far (p := ⟨gb560, 0, none⟩) (Kd.R_types HO565.out BK560.out (by decide)) (fun _ hk => hk.2) (.int .i64 0)) (fun _ hk => hk.2) (.int .i64 t562)) (fun _ hk => hk.2) (.slice Ao9 t561.length co9)) (fun _ hk => trivial), bG GE560⟩
 replace c6 := Bool.eq_false_iff.mpr c6
 subst c6
 have H1 : (some (1, 0, ([] : List (S70)))) = some (r1, r2, r3) := z5
 clear H
 have H := H1
 clear H1
 simp only [Option.some.injEq, Prod.mk.injEq] at H
 obtain ⟨rfl, rfl, rfl⟩ := H
 go_enter Tryz.func24, Tryz.ntmps24
 go_wp2_with (first | ((with_reducible refine gate_dst (N := 2) rfl ?_); refine box_event ?hg (N := 2) ?hd (cs := #[.int .i64 0, .int .i64 0, .slice none 0 0]) (t := 45) ?hr ?_; (case hd => rfl); (case hg => rfl); (case hr => exact z8); intro gb560 hg w11 hbox hb; have BK560 := aM (hbox); have GW560 := aM ((z11 : w.heap.size ≤ gb560)); have GE560 := aM ((z11 : w.heap.size ≤ gb560)); replace HB := aM (below_step bB hb); clear hb hbox hg) | ((with_reducible refine gate_callee (f := 49) rfl ?_); refine gL_ (some 12) Tryz.func49 #[.slice A0 l0.length c0] ?_; (with_reducible refine (impl_parseHeader.calls k _ _ l0 t561 t562 false _ ?side1 ?side2 A5.out).mono ?_); (case side1 => exact z4 HR0.out); (case side2 => exact HC0.out); rintro e w12 ⟨v564, rfl, ho0, hb⟩; refine ⟨_, rfl, ?_⟩; have HO565 := aM (Kd.R_lower ho0 (below_size (bG GE560))); replace BK560 := aM (blk_below (g := gb560) (o := .cells #[.int .i64 0, .int .i64 0, .slice none 0 0] 45 (0, 0)) (bL BK560) hb); replace HB := aM (below_step (bG GE560) hb); (try clear ho0); have hcz13_0 : w12.cell? ⟨gb560, 0, none⟩ = some (.int .i64 0) := (blk_cell BK560.out 0).trans rfl; have hcz13_1 : w12.cell? ⟨gb560, 1, none⟩ = some (.int .i64 0) := (blk_cell BK560.out 1).trans rfl; have hcz13_2 : w12.cell? ⟨gb560, 2, none⟩ = some (.slice none 0 0) := (blk_cell BK560.out 2).trans rfl; have hfz13_0 := blk_frozen BK560.out 0; have hfz13_1 := blk_frozen BK560.out 1; have hfz13_2 := blk_frozen BK560.out 2))
 refine bodyPost_ret (results_cell_row rfl _ _ gb560 45 #[.int .i64 1, .int .i64 0, .slice none 0 0] (0, 0) _ rfl (by (with_reducible repeat (first | refine blk_drewN ?_ _ | refine blk_drew ?_ | refine blk_alloc ?_ _)); refine blk_put (cs := #[.int .i64 1, .int .i64 0, .slice none 0 0]) ?_ 2 _ rfl; (with_reducible repeat (first | refine blk_drewN ?_ _ | refine blk_drew ?_ | refine blk_alloc ?_ _)); refine blk_put (cs := #[.int .i64 1, .int .i64 0, .slice none 0 0]) ?_ 1 _ rfl; (with_reducible repeat (first | refine blk_drewN ?_ _ | refine blk_drew ?_ | refine blk_alloc ?_ _)); refine blk_put (cs := #[.int .i64 0, .int .i64 0, .slice none 0 0]) ?_ 0 _ rfl; (with_reducible repeat (first | refine blk_drewN ?_ _ | refine blk_drew ?_ | refine blk_alloc ?_ _)); exact BK560.out) Tryz.underlying45 rfl (by kernel_rfl)) rfl ?_
 exact ⟨_, bE, z3, bG GE560⟩
def impl_fieldOf.l0 : Nat → ByteArray → List (S70) → Int → Int → Option (ByteArray × Bool)
 | 0, _, _, _, _ => none
 | k + 1, x1, x8, x9, x10 => if x10 < x9 then (if 0 ≤ x10 then (if x10 < (x8.length : Int) then ((impl_small.f k ((rd_T70 x8 x10).f0)).bind fun t568 => ((impl_small.f k x1).bind fun t569 => (if t568.toList = t569.toList then (some ((rd_T70 x8 x10).f1, true)) else (impl_fieldOf.l0 k x1 x8 x9 (wrap64 (x10 + 1)))))) else (none)) else (none)) else (some ((⟨#[]⟩ : ByteArray), false))
def impl_fieldOf.f (k : Nat) (l0 : List (S70)) (a1 : ByteArray) : Option (ByteArray × Bool) := impl_fieldOf.l0 k a1 l0 (l0.length : Int) 0
set_option maxHeartbeats 8000000 in
set_option maxRecDepth 100000 in
theorem impl_fieldOf.calls (k : Nat) (A0 : Option Addr) (c0 : Nat) (l0 : List (S70)) (a1 : ByteArray) (r1 : ByteArray) (r2 : Bool) (w : World) (hr0 : Kd.C k70 w A0 l0.length l0) (hc0 : l0.length ≤ c0) (h : impl_fieldOf.f k l0 a1 = some (r1, r2)) :
  Calls Tryz.prog 25 #[.slice A0 l0.length c0, .string a1] w fun e w' => e = .returned (.tuple #[.string r1, .bool r2]) ∧ Below w.heap.size w w' := by
 have hu70 := Tryz.underlying70
 have HR0 := aM hr0
 have HC0 := aM hc0
 clear hr0 hc0
 have HB := aM (Below.refl w.heap.size w)
 have H : (impl_fieldOf.l0 k a1 l0 (l0.length : Int) 0) = some (r1, r2) := h
 clear h
 have H' := aM H
 clear H
 go_enter Tryz.func25, Tryz.ntmps25
 go_wp2
 go_loopg [10] k (fun kq v10 w' => ∃ (x10_1 : Int), v10 = .int .i64 x10_1 ∧ Aside0 (impl_fieldOf.l0 kq a1 l0 (l0.length : Int) x10_1 = some (r1, r2)) ∧ Aside0 (kq ≤ k) ∧ Aside0 (Below w.heap.size w w'))
 case atStart => exact ⟨(0), bS, H', ⟨Nat.le_refl _⟩, ⟨bB⟩⟩
 case round =>
  clear H'
  try clear c2
  try clear p2
  obtain ⟨x10_1, rfl, HA, HK1, HB⟩ := hrel
  cases gk with
  | zero => exact absurd HA.out (by simp [impl_fieldOf.l0])
  | succ k1 =>
   have H := HA.out
   clear HA
   simp only [impl_fieldOf.l0] at H
   by_cases c3 : x10_1 < (l0.length : Int)
   ·rw [if_pos c3] at H
    have c3b0 : decide (x10_1 < (l0.length : Int)) = true := decide_eq_true c3
    clear c3
    by_cases c4 : 0 ≤ x10_1
    ·rw [if_pos c4] at H
     have c4b0 : decide (0 ≤ x10_1) = true := decide_eq_true c4
     clear c4
     by_cases c5 : x10_1 < (l0.length : Int)
     ·rw [if_pos c5] at H
      have c5b0 : decide (x10_1 < (l0.length : Int)) = true := decide_eq_true c5
      clear c5
      replace H := Option.bind_eq_some_iff.mp H
      obtain ⟨t568, A60, H⟩ := H
      replace H : ((impl_small.f k1 a1).bind fun t569 => (if t568.toList = t569.toList then (some ((rd_T70 l0 x10_1).f1, true)) else (impl_fieldOf.l0 k1 a1 l0 (l0.length : Int) (wrap64 (x10_1 + 1))))) = some (r1, r2) := H
      have A6 := aM A60
      clear A60
      replace H := Option.bind_eq_some_iff.mp H
      obtain ⟨t569, A70, H⟩ := H
      replace H : (if t568.toList = t569.toList then (some ((rd_T70 l0 x10_1).f1, true)) else (impl_fieldOf.l0 k1 a1 l0 (l0.length : Int) (wrap64 (x10_1 + 1)))) = some (r1, r2) := H
      have A7 := aM A70
      clear A70
      by_cases c8 : t568.toList = t569.toList
      ·rw [if_pos c8] at H
       have c8b0 : (t568.toList == t569.toList) = true := beq_iff_eq.mpr c8
       have c8b1 : (t568.toList != t569.toList) = false := bne_eq_false_iff_eq.mpr c8
       clear c8
       simp only [Option.some.injEq, Prod.mk.injEq] at H
       obtain ⟨rfl, rfl⟩ := H
       have p566 : 0 ≤ (x10_1 : Int) := pI
       have q566 : x10_1 < (l0.length : Int) := pI
       obtain ⟨ad566, e566, hx566_0, hx566_1⟩ := at_T70 HR0.out x10_1 p566 q566
       cases e566
       replace hx566_0 := (HB.out.cell (World.block_lt_of_cell? w _ hx566_0)).trans hx566_0
       replace hx566_1 := (HB.out.cell (World.block_lt_of_cell? w _ hx566_1)).trans hx566_1
       replace p566 := eq_true p566
       replace q566 := eq_true q566
       go_wp2_with (first | ((with_reducible refine gate_dst (N := 7) rfl ?_); refine box_event ?hg (N := 7) ?hd (cs := #[.string (⟨#[]⟩ : ByteArray), .string (⟨#[]⟩ : ByteArray)]) (t := 70) ?hr ?_; (case hd => rfl); (case hg => rfl); (case hr => exact z8); intro gb567 hg w9 hbox hb; have BK567 := aM (hbox); have GW567 := aM ((z11 : w.heap.size ≤ gb567)); have GE567 := aM ((z11 : w.heap.size ≤ gb567)); replace HB := aM (below_step bB hb); clear hb hbox hg; have hcz10_0 : w9.cell? ⟨gb567, 0, none⟩ = some (.string (⟨#[]⟩ : ByteArray)) := (blk_cell BK567.out 0).trans rfl; have hcz10_1 : w9.cell? ⟨gb567, 1, none⟩ = some (.string (⟨#[]⟩ : ByteArray)) := (blk_cell BK567.out 1).trans rfl; have hfz10_0 := blk_frozen BK567.out 0; have hfz10_1 := blk_frozen BK567.out 1) | ((with_reducible refine gate_callee (f := 50) rfl ?_); refine gL_ (some 16) Tryz.func50 #[.string ((rd_T70 l0 x10_1).f0)] ?_; (with_reducible refine (impl_small.calls k1 ((rd_T70 l0 x10_1).f0) t568 _ A6.out).mono ?_); rintro e w11 ⟨rfl, hb⟩; refine ⟨_, rfl, ?_⟩; replace BK567 := aM (blk_below (g := gb567) (o := .cells #[.string ((rd_T70 l0 x10_1).f0), .string ((rd_T70 l0 x10_1).f1)] 70 (0, 0)) (z13 BK567.out) hb); replace HB := aM (below_step (bG GE567) hb); (try clear hi)) | ((with_reducible refine gate_callee (f := 50) rfl ?_); refine gL_ (some 18) Tryz.func50 #[.string a1] ?_; (with_reducible refine (impl_small.calls k1 a1 t569 _ A7.out).mono ?_); rintro e w12 ⟨rfl, hb⟩; refine ⟨_, rfl, ?_⟩; replace BK567 := aM (blk_below (g := gb567) (o := .cells #[.string ((rd_T70 l0 x10_1).f0), .string ((rd_T70 l0 x10_1).f1)] 70 (0, 0)) (bL BK567) hb); replace HB := aM (below_step (bG GE567) hb); have hcz13_0 : w12.cell? ⟨gb567, 0, none⟩ = some (.string ((rd_T70 l0 x10_1).f0)) := (blk_cell BK567.out 0).trans rfl; have hcz13_1 : w12.cell? ⟨gb567, 1, none⟩ = some (.string ((rd_T70 l0 x10_1).f1)) := (blk_cell BK567.out 1).trans rfl; have hfz13_0 := blk_frozen BK567.out 0; have hfz13_1 := blk_frozen BK567.out 1))
       go_ret2
       exact ⟨bE, bG GE567⟩
      rw [if_neg c8] at H
      have c8b0 : (t568.toList == t569.toList) = false := beq_eq_false_iff_ne.mpr c8
      have c8b1 : (t568.toList != t569.toList) = true := bne_iff_ne.mpr c8
      have H' := aM H
      clear H
      have p566 : 0 ≤ (x10_1 : Int) := pI
      have q566 : x10_1 < (l0.length : Int) := pI
      obtain ⟨ad566, e566, hx566_0, hx566_1⟩ := at_T70 HR0.out x10_1 p566 q566
      cases e566
      replace hx566_0 := (HB.out.cell (World.block_lt_of_cell? w _ hx566_0)).trans hx566_0
      replace hx566_1 := (HB.out.cell (World.block_lt_of_cell? w _ hx566_1)).trans hx566_1
      replace p566 := eq_true p566
      replace q566 := eq_true q566
      go_wp2_with (first | ((with_reducible refine gate_dst (N := 7) rfl ?_); refine box_event ?hg (N := 7) ?hd (cs := #[.string (⟨#[]⟩ : ByteArray), .string (⟨#[]⟩ : ByteArray)]) (t := 70) ?hr ?_; (case hd => rfl); (case hg => rfl); (case hr => exact z8); intro gb567 hg w14 hbox hb; have BK567 := aM (hbox); have GW567 := aM ((z11 : w.heap.size ≤ gb567)); have GE567 := aM ((z11 : w.heap.size ≤ gb567)); replace HB := aM (below_step bB hb); clear hb hbox hg; have hcz15_0 : w14.cell? ⟨gb567, 0, none⟩ = some (.string (⟨#[]⟩ : ByteArray)) := (blk_cell BK567.out 0).trans rfl; have hcz15_1 : w14.cell? ⟨gb567, 1, none⟩ = some (.string (⟨#[]⟩ : ByteArray)) := (blk_cell BK567.out 1).trans rfl; have hfz15_0 := blk_frozen BK567.out 0; have hfz15_1 := blk_frozen BK567.out 1) | ((with_reducible refine gate_callee (f := 50) rfl ?_); refine gL_ (some 16) Tryz.func50 #[.string ((rd_T70 l0 x10_1).f0)] ?_; (with_reducible refine (impl_small.calls k1 ((rd_T70 l0 x10_1).f0) t568 _ A6.out).mono ?_); rintro e w16 ⟨rfl, hb⟩; refine ⟨_, rfl, ?_⟩; replace BK567 := aM (blk_below (g := gb567) (o := .cells #[.string ((rd_T70 l0 x10_1).f0), .string ((rd_T70 l0 x10_1).f1)] 70 (0, 0)) (z13 BK567.out) hb); replace HB := aM (below_step (bG GE567) hb); (try clear hi)) | ((with_reducible refine gate_callee (f := 50) rfl ?_); refine gL_ (some 18) Tryz.func50 #[.string a1] ?_; (with_reducible refine (impl_small.calls k1 a1 t569 _ A7.out).mono ?_); rintro e w17 ⟨rfl, hb⟩; refine ⟨_, rfl, ?_⟩; replace BK567 := aM (blk_below (g := gb567) (o := .cells #[.string ((rd_T70 l0 x10_1).f0), .string ((rd_T70 l0 x10_1).f1)] 70 (0, 0)) (bL BK567) hb); replace HB := aM (below_step (bG GE567) hb); (try clear hi)))
      go_roundg k1
      case measure => have := HK1.out; omega
      case rel => exact ⟨(wrap64 (x10_1 + 1)), bS, H', ⟨by have := HK1.out; omega⟩, ⟨bG GE567⟩⟩
     rw [if_neg c5] at H
     exact absurd H (by simp)
    rw [if_neg c4] at H
    exact absurd H (by simp)
   rw [if_neg c3] at H
   have c3b0 : decide (x10_1 < (l0.length : Int)) = false := decide_eq_false c3
   clear c3
   simp only [Option.some.injEq, Prod.mk.injEq] at H
   obtain ⟨rfl, rfl⟩ := H
   go_wp2
   go_ret2
   exact ⟨bE, bB⟩
def impl_SubjectOf.f (k : Nat) (l0 : List Int) : Option (Int × List Int) := (impl_ParseHeader.f k l0).bind fun bt571 => (if bt571.1 = 0 then ((impl_fieldOf.f k bt571.2.2 (⟨#[83, 117, 98, 106, 101, 99, 116]⟩ : ByteArray)).bind fun bt577 => (if bt577.2 = true then ((impl_DecodeWords.f k bt577.1).bind fun bt579 => (some (bt579.1, bt579.2))) else (some (4, ([] : List Int))))) else (some (bt571.1, ([] : List Int))))
set_option maxHeartbeats 8000000 in
set_option maxRecDepth 100000 in
theorem impl_SubjectOf.calls (k : Nat) (A0 : Option Addr) (c0 : Nat) (l0 : List Int) (r1 : Int) (r2 : List Int) (w : World) (hm_ : ∃ m, w.cell? ⟨0, 0, none⟩ = some (.int .i64 m)) (hr0 : Kd.C (Kd.int .u8) w A0 l0.length l0) (hc0 : l0.length ≤ c0) (h : impl_SubjectOf.f k l0 = some (r1, r2)) :
  Calls Tryz.prog 7 #[.slice A0 l0.length c0] w fun e w' => ∃ v1_ : Value, e = .returned (.agg #[.int .i64 r1, v1_]) ∧ Kd.R (Kd.int .i64) 2 w' w.heap.size (fun _ => True) v1_ r2 ∧ Below w.heap.size w w' := by
 have HM_ := aM hm_
 clear hm_
 have hu25 := Tryz.underlying25
 have hu45 := Tryz.underlying45
 have HR0 := aM hr0
 have HC0 := aM hc0
 clear hr0 hc0
 have HB := aM (Below.refl w.heap.size w)
 have H : ((impl_ParseHeader.f k l0).bind fun bt571 => (if bt571.1 = 0 then ((impl_fieldOf.f k bt571.2.2 (⟨#[83, 117, 98, 106, 101, 99, 116]⟩ : ByteArray)).bind fun bt577 => (if bt577.2 = true then ((impl_DecodeWords.f k bt577.1).bind fun bt579 => (some (bt579.1, bt579.2))) else (some (4, ([] : List Int))))) else (some (bt571.1, ([] : List Int))))) = some (r1, r2) := h
 clear h
 replace H := Option.bind_eq_some_iff.mp H
 obtain ⟨⟨t571, t572, t573⟩, A20, H⟩ := H
 replace H : (if t571 = 0 then ((impl_fieldOf.f k t573 (⟨#[83, 117, 98, 106, 101, 99, 116]⟩ : ByteArray)).bind fun bt577 => (if bt577.2 = true then ((impl_DecodeWords.f k bt577.1).bind fun bt579 => (some (bt579.1, bt579.2))) else (some (4, ([] : List Int))))) else (some (t571, ([] : List Int)))) = some (r1, r2) := H
 have A2 := aM A20
 clear A20
 have HQ_ := aM H
 clear H
 go_enter Tryz.func7, Tryz.ntmps7
 have H := HQ_.out
 clear HQ_
 by_cases c3 : t571 = 0
 ·rw [if_pos c3] at H
  have c3b0 : (t571 == 0) = true := beq_iff_eq.mpr c3
  have c3b1 : (t571 != 0) = false := bne_eq_false_iff_eq.mpr c3
  clear c3
  replace H := Option.bind_eq_some_iff.mp H
  obtain ⟨⟨t577, t578⟩, A40, H⟩ := H
  replace H : (if t578 = true then ((impl_DecodeWords.f k t577).bind fun bt579 => (some (bt579.1, bt579.2))) else (some (4, ([] : List Int)))) = some (r1, r2) := H
  have A4 := aM A40
  clear A40
  (try simp only [c3b0, c3b1])
  by_cases c5 : t578 = true
  ·subst c5
   have H1 : ((impl_DecodeWords.f k t577).bind fun bt579 => (some (bt579.1, bt579.2))) = some (r1, r2) := z14
   clear H
   have H := H1
   clear H1
   replace H := Option.bind_eq_some_iff.mp H
   obtain ⟨⟨t579, t580⟩, A60, H⟩ := H
   replace H : (some (t579, t580)) = some (r1, r2) := H
   have A6 := aM A60
   clear A60
   simp only [Option.some.injEq, Prod.mk.injEq] at H
   obtain ⟨rfl, rfl⟩ := H
   go_wp2_with (first | ((with_reducible refine gate_dst (N := 2) rfl ?_); refine box_event ?hg (N := 2) ?hd (cs := #[.int .i64 0, .slice none 0 0]) (t := 25) ?hr ?_; (case hd => rfl); (case hg => rfl); (case hr => exact z8); intro gb570 hg w7 hbox hb; have BK570 := aM (hbox); have GW570 := aM ((z11 : w.heap.size ≤ gb570)); have GE570 := aM ((z11 : w.heap.size ≤ gb570)); replace HB := aM (below_step bB hb); clear hb hbox hg) | ((with_reducible refine gate_callee (f := 24) rfl ?_); refine gL_ (some 7) Tryz.func24 #[.slice A0 l0.length c0] ?_; (with_reducible refine (impl_ParseHeader.calls k _ _ l0 t571 t572 t573 _ ?side1 ?side2 A2.out).mono ?_); (case side1 => exact z4 HR0.out); (case side2 => exact HC0.out); rintro e w8 ⟨v574, rfl, ho0, hb⟩; refine ⟨_, rfl, ?_⟩; have HO575 := aM (Kd.R_lower ho0 (below_size (bG GE570))); replace BK570 := aM (blk_below (g := gb570) (o := .cells #[.int .i64 0, .slice none 0 0] 25 (0, 0)) (bL BK570) hb); replace HB := aM (below_step (bG GE570) hb); (try clear ho0)) | ((with_reducible refine gate_dst (N := 3) rfl ?_); refine box_event ?hg (N := 3) ?hd (cs := #[.int .i64 0, .int .i64 0, .slice none 0 0]) (t := 45) ?hr ?_; (case hd => rfl); (case hg => rfl); (case hr => exact z8); intro gb576 hg w9 hbox hb; replace HO575 := aM (Kd.R_below (bR HO575) hb); have BK576 := aM (hbox); have GW576 := aM ((z54 : w.heap.size ≤ gb576)); have GE576 := aM ((z54 : w.heap.size ≤ gb576)); replace HB := aM (below_step (bG GE570) hb); have NB570_576 := aM ((z45 : gb570 ≠ gb576)); have NB576_570 := aM ((z47 : gb576 ≠ gb570)); replace BK570 := aM (blk_below (g := gb570) (o := .cells #[.int .i64 0, .slice none 0 0] 25 (0, 0)) (bL BK570) hb); clear hb hbox hg; have hnb10 := NB576_570.out; have hnc10 := NB570_576.out; have hcz11_0 : w9.cell? ⟨gb576, 0, none⟩ = some (.int .i64 0) := (blk_cell BK576.out 0).trans rfl; have hcz11_1 : w9.cell? ⟨gb576, 1, none⟩ = some (.int .i64 0) := (blk_cell BK576.out 1).trans rfl; have hcz11_2 : w9.cell? ⟨gb576, 2, none⟩ = some (.slice none 0 0) := (blk_cell BK576.out 2).trans rfl; have hfz11_0 := blk_frozen BK576.out 0; have hfz11_1 := blk_frozen BK576.out 1; have hfz11_2 := blk_frozen BK576.out 2; obtain ⟨Ao12, co12, eo12⟩ := Kd.R_slice HO575.out; subst eo12) | ((with_reducible refine gate_callee (f := 25) rfl ?_); refine gL_ (some 17) Tryz.func25 #[.slice Ao12 t573.length co12, .string (⟨#[83, 117, 98, 106, 101, 99, 116]⟩ : ByteArray)] ?_; (with_reducible refine (impl_fieldOf.calls k _ _ t573 (⟨#[83, 117, 98, 106, 101, 99, 116]⟩ : ByteArray) t577 true _ ?side1 ?side2 A4.out).mono ?_); (case side1 => refine (Kd.R_reads' (e := 70) (base := w.heap.size) (ok := fun k_ => True) (n := t573.length) (c := co12) ?_).2.2; exact (by (with_reducible repeat (first | apply Kd.R_alloc | apply Kd.R_drewN | apply Kd.R_drew)); exact (Kd.R_mono (Kd.R_far (p := ⟨gb576, 2, none⟩) (Kd.R_far (p := ⟨gb576, 1, none⟩) (Kd.R_far (p := ⟨gb576, 0, none⟩) (Kd.R_types HO575.out BK576.out (by decide)) (fun _ hk => hk.2) (.int .i64 t571)) (fun _ hk => hk.2) (.int .i64 t572)) (fun _ hk => hk.2) (.slice Ao12 t573.length co12)) (fun _ h_ => h_.1)))); (case side2 => exact (Kd.R_reads' HO575.out).2.1); rintro e w13 ⟨rfl, hb⟩; refine ⟨_, rfl, ?_⟩; replace HO575 := aM (Kd.R_below (by (with_reducible repeat (first | apply Kd.R_alloc | apply Kd.R_drewN | apply Kd.R_drew)); exact (Kd.R_mono (Kd.R_far (p := ⟨gb576, 2, none⟩) (Kd.R_far (p := ⟨gb576, 1, none⟩) (Kd.R_far (p := ⟨gb576, 0, none⟩) (Kd.R_types HO575.out BK576.out (by decide)) (fun _ hk => hk.2) (.int .i64 t571)) (fun _ hk => hk.2) (.int .i64 t572)) (fun _ hk => hk.2) (.slice Ao12 t573.length co12)) (fun _ h_ => h_.1))) hb); replace BK570 := aM (blk_below (g := gb570) (o := .cells #[.int .i64 0, .slice none 0 0] 25 (0, 0)) (by (with_reducible repeat (first | refine blk_drewN ?_ _ | refine blk_drew ?_ | refine blk_alloc ?_ _)); refine blk_far ?_ NB570_576.out _; (with_reducible repeat (first | refine blk_drewN ?_ _ | refine blk_drew ?_ | refine blk_alloc ?_ _)); refine blk_far ?_ NB570_576.out _; (with_reducible repeat (first | refine blk_drewN ?_ _ | refine blk_drew ?_ | refine blk_alloc ?_ _)); refine blk_far ?_ NB570_576.out _; (with_reducible repeat (first | refine blk_drewN ?_ _ | refine blk_drew ?_ | refine blk_alloc ?_ _)); exact BK570.out) hb); replace BK576 := aM (blk_below (g := gb576) (o := .cells #[.int .i64 t571, .int .i64 t572, .slice Ao12 t573.length co12] 45 (0, 0)) (by (with_reducible repeat (first | refine blk_drewN ?_ _ | refine blk_drew ?_ | refine blk_alloc ?_ _)); refine blk_put (cs := #[.int .i64 t571, .int .i64 t572, .slice none 0 0]) ?_ 2 _ rfl; (with_reducible repeat (first | refine blk_drewN ?_ _ | refine blk_drew ?_ | refine blk_alloc ?_ _)); refine blk_put (cs := #[.int .i64 t571, .int .i64 0, .slice none 0 0]) ?_ 1 _ rfl; (with_reducible repeat (first | refine blk_drewN ?_ _ | refine blk_drew ?_ | refine blk_alloc ?_ _)); refine blk_put (cs := #[.int .i64 0, .int .i64 0, .slice none 0 0]) ?_ 0 _ rfl; (with_reducible repeat (first | refine blk_drewN ?_ _ | refine blk_drew ?_ | refine blk_alloc ?_ _)); exact BK576.out) hb); replace HB := aM (below_step (bG2 GE570 GE576) hb); (try clear hi)) | ((with_reducible refine gate_callee (f := 15) rfl ?_); refine gL_ (some 24) Tryz.func15 #[.string t577] ?_; (with_reducible refine (impl_DecodeWords.calls k t577 t579 t580 _ ?sidem A6.out).mono ?_); (case sidem => exact z18); rintro e w14 ⟨v581, rfl, ho0, hb⟩; refine ⟨_, rfl, ?_⟩; replace HO575 := aM (Kd.R_below (bR HO575) hb); have HO582 := aM (Kd.R_lower ho0 (below_size (bG2 GE570 GE576))); replace BK570 := aM (blk_below (g := gb570) (o := .cells #[.int .i64 0, .slice none 0 0] 25 (0, 0)) (bL BK570) hb); replace BK576 := aM (blk_below (g := gb576) (o := .cells #[.int .i64 t571, .int .i64 t572, .slice Ao12 t573.length co12] 45 (0, 0)) (bL BK576) hb); replace HB := aM (below_step (bG2 GE570 GE576) hb); (try clear ho0); have hcz15_0 : w14.cell? ⟨gb570, 0, none⟩ = some (.int .i64 0) := (blk_cell BK570.out 0).trans rfl; have hcz15_1 : w14.cell? ⟨gb570, 1, none⟩ = some (.slice none 0 0) := (blk_cell BK570.out 1).trans rfl; have hfz15_0 := blk_frozen BK570.out 0; have hfz15_1 := blk_frozen BK570.out 1; obtain ⟨Ao16, co16, eo16⟩ := Kd.R_slice HO582.out; subst eo16))
   refine bodyPost_ret (results_cell_row rfl _ _ gb570 25 #[.int .i64 t579, .slice Ao16 t580.length co16] (0, 0) _ rfl (by (with_reducible repeat (first | refine blk_drewN ?_ _ | refine blk_drew ?_ | refine blk_alloc ?_ _)); refine blk_put (cs := #[.int .i64 t579, .slice none 0 0]) ?_ 1 _ rfl; (with_reducible repeat (first | refine blk_drewN ?_ _ | refine blk_drew ?_ | refine blk_alloc ?_ _)); refine blk_put (cs := #[.int .i64 0, .slice none 0 0]) ?_ 0 _ rfl; (with_reducible repeat (first | refine blk_drewN ?_ _ | refine blk_drew ?_ | refine blk_alloc ?_ _)); exact BK570.out) Tryz.underlying25 rfl (by kernel_rfl)) rfl ?_
   exact ⟨_, bE, by (with_reducible repeat (first | apply Kd.R_alloc | apply Kd.R_drewN | apply Kd.R_drew)); exact Kd.R_mono (Kd.R_far (p := ⟨gb570, 1, none⟩) (Kd.R_far (p := ⟨gb570, 0, none⟩) (Kd.R_types HO582.out BK570.out (by decide)) (fun _ hk => hk.2) (.int .i64 t579)) (fun _ hk => hk.2) (.slice Ao16 t580.length co16)) (fun _ hk => trivial), bG2 GE570 GE576⟩
  replace c5 := Bool.eq_false_iff.mpr c5
  subst c5
  have H1 : (some (4, ([] : List Int))) = some (r1, r2) := z5
  clear H
  have H := H1
  clear H1
  simp only [Option.some.injEq, Prod.mk.injEq] at H
  obtain ⟨rfl, rfl⟩ := H
  go_wp2_with (first | ((with_reducible refine gate_dst (N := 2) rfl ?_); refine box_event ?hg (N := 2) ?hd (cs := #[.int .i64 0, .slice none 0 0]) (t := 25) ?hr ?_; (case hd => rfl); (case hg => rfl); (case hr => exact z8); intro gb570 hg w17 hbox hb; have BK570 := aM (hbox); have GW570 := aM ((z11 : w.heap.size ≤ gb570)); have GE570 := aM ((z11 : w.heap.size ≤ gb570)); replace HB := aM (below_step bB hb); clear hb hbox hg) | ((with_reducible refine gate_callee (f := 24) rfl ?_); refine gL_ (some 7) Tryz.func24 #[.slice A0 l0.length c0] ?_; (with_reducible refine (impl_ParseHeader.calls k _ _ l0 t571 t572 t573 _ ?side1 ?side2 A2.out).mono ?_); (case side1 => exact z4 HR0.out); (case side2 => exact HC0.out); rintro e w18 ⟨v574, rfl, ho0, hb⟩; refine ⟨_, rfl, ?_⟩; have HO575 := aM (Kd.R_lower ho0 (below_size (bG GE570))); replace BK570 := aM (blk_below (g := gb570) (o := .cells #[.int .i64 0, .slice none 0 0] 25 (0, 0)) (bL BK570) hb); replace HB := aM (below_step (bG GE570) hb); (try clear ho0)) | ((with_reducible refine gate_dst (N := 3) rfl ?_); refine box_event ?hg (N := 3) ?hd (cs := #[.int .i64 0, .int .i64 0, .slice none 0 0]) (t := 45) ?hr ?_; (case hd => rfl); (case hg => rfl); (case hr => exact z8); intro gb576 hg w19 hbox hb; replace HO575 := aM (Kd.R_below (bR HO575) hb); have BK576 := aM (hbox); have GW576 := aM ((z54 : w.heap.size ≤ gb576)); have GE576 := aM ((z54 : w.heap.size ≤ gb576)); replace HB := aM (below_step (bG GE570) hb); have NB570_576 := aM ((z45 : gb570 ≠ gb576)); have NB576_570 := aM ((z47 : gb576 ≠ gb570)); replace BK570 := aM (blk_below (g := gb570) (o := .cells #[.int .i64 0, .slice none 0 0] 25 (0, 0)) (bL BK570) hb); clear hb hbox hg; have hnb20 := NB576_570.out; have hnc20 := NB570_576.out; have hcz21_0 : w19.cell? ⟨gb576, 0, none⟩ = some (.int .i64 0) := (blk_cell BK576.out 0).trans rfl; have hcz21_1 : w19.cell? ⟨gb576, 1, none⟩ = some (.int .i64 0) := (blk_cell BK576.out 1).trans rfl; have hcz21_2 : w19.cell? ⟨gb576, 2, none⟩ = some (.slice none 0 0) := (blk_cell BK576.out 2).trans rfl; have hfz21_0 := blk_frozen BK576.out 0; have hfz21_1 := blk_frozen BK576.out 1; have hfz21_2 := blk_frozen BK576.out 2; obtain ⟨Ao22, co22, eo22⟩ := Kd.R_slice HO575.out; subst eo22) | ((with_reducible refine gate_callee (f := 25) rfl ?_); refine gL_ (some 17) Tryz.func25 #[.slice Ao22 t573.length co22, .string (⟨#[83, 117, 98, 106, 101, 99, 116]⟩ : ByteArray)] ?_; (with_reducible refine (impl_fieldOf.calls k _ _ t573 (⟨#[83, 117, 98, 106, 101, 99, 116]⟩ : ByteArray) t577 false _ ?side1 ?side2 A4.out).mono ?_); (case side1 => refine (Kd.R_reads' (e := 70) (base := w.heap.size) (ok := fun k_ => True) (n := t573.length) (c := co22) ?_).2.2; exact (by (with_reducible repeat (first | apply Kd.R_alloc | apply Kd.R_drewN | apply Kd.R_drew)); exact (Kd.R_mono (Kd.R_far (p := ⟨gb576, 2, none⟩) (Kd.R_far (p := ⟨gb576, 1, none⟩) (Kd.R_far (p := ⟨gb576, 0, none⟩) (Kd.R_types HO575.out BK576.out (by decide)) (fun _ hk => hk.2) (.int .i64 t571)) (fun _ hk => hk.2) (.int .i64 t572)) (fun _ hk => hk.2) (.slice Ao22 t573.length co22)) (fun _ h_ => h_.1)))); (case side2 => exact (Kd.R_reads' HO575.out).2.1); rintro e w23 ⟨rfl, hb⟩; refine ⟨_, rfl, ?_⟩; replace HO575 := aM (Kd.R_below (by (with_reducible repeat (first | apply Kd.R_alloc | apply Kd.R_drewN | apply Kd.R_drew)); exact (Kd.R_mono (Kd.R_far (p := ⟨gb576, 2, none⟩) (Kd.R_far (p := ⟨gb576, 1, none⟩) (Kd.R_far (p := ⟨gb576, 0, none⟩) (Kd.R_types HO575.out BK576.out (by decide)) (fun _ hk => hk.2) (.int .i64 t571)) (fun _ hk => hk.2) (.int .i64 t572)) (fun _ hk => hk.2) (.slice Ao22 t573.length co22)) (fun _ h_ => h_.1))) hb); replace BK570 := aM (blk_below (g := gb570) (o := .cells #[.int .i64 0, .slice none 0 0] 25 (0, 0)) (by (with_reducible repeat (first | refine blk_drewN ?_ _ | refine blk_drew ?_ | refine blk_alloc ?_ _)); refine blk_far ?_ NB570_576.out _; (with_reducible repeat (first | refine blk_drewN ?_ _ | refine blk_drew ?_ | refine blk_alloc ?_ _)); refine blk_far ?_ NB570_576.out _; (with_reducible repeat (first | refine blk_drewN ?_ _ | refine blk_drew ?_ | refine blk_alloc ?_ _)); refine blk_far ?_ NB570_576.out _; (with_reducible repeat (first | refine blk_drewN ?_ _ | refine blk_drew ?_ | refine blk_alloc ?_ _)); exact BK570.out) hb); replace BK576 := aM (blk_below (g := gb576) (o := .cells #[.int .i64 t571, .int .i64 t572, .slice Ao22 t573.length co22] 45 (0, 0)) (by (with_reducible repeat (first | refine blk_drewN ?_ _ | refine blk_drew ?_ | refine blk_alloc ?_ _)); refine blk_put (cs := #[.int .i64 t571, .int .i64 t572, .slice none 0 0]) ?_ 2 _ rfl; (with_reducible repeat (first | refine blk_drewN ?_ _ | refine blk_drew ?_ | refine blk_alloc ?_ _)); refine blk_put (cs := #[.int .i64 t571, .int .i64 0, .slice none 0 0]) ?_ 1 _ rfl; (with_reducible repeat (first | refine blk_drewN ?_ _ | refine blk_drew ?_ | refine blk_alloc ?_ _)); refine blk_put (cs := #[.int .i64 0, .int .i64 0, .slice none 0 0]) ?_ 0 _ rfl; (with_reducible repeat (first | refine blk_drewN ?_ _ | refine blk_drew ?_ | refine blk_alloc ?_ _)); exact BK576.out) hb); replace HB := aM (below_step (bG2 GE570 GE576) hb); have hcz24_0 : w23.cell? ⟨gb570, 0, none⟩ = some (.int .i64 0) := (blk_cell BK570.out 0).trans rfl; have hcz24_1 : w23.cell? ⟨gb570, 1, none⟩ = some (.slice none 0 0) := (blk_cell BK570.out 1).trans rfl; have hfz24_0 := blk_frozen BK570.out 0; have hfz24_1 := blk_frozen BK570.out 1))
  refine bodyPost_ret (results_cell_row rfl _ _ gb570 25 #[.int .i64 4, .slice none 0 0] (0, 0) _ rfl (by (with_reducible repeat (first | refine blk_drewN ?_ _ | refine blk_drew ?_ | refine blk_alloc ?_ _)); refine blk_put (cs := #[.int .i64 4, .slice none 0 0]) ?_ 1 _ rfl; (with_reducible repeat (first | refine blk_drewN ?_ _ | refine blk_drew ?_ | refine blk_alloc ?_ _)); refine blk_put (cs := #[.int .i64 0, .slice none 0 0]) ?_ 0 _ rfl; (with_reducible repeat (first | refine blk_drewN ?_ _ | refine blk_drew ?_ | refine blk_alloc ?_ _)); exact BK570.out) Tryz.underlying25 rfl (by kernel_rfl)) rfl ?_
  exact ⟨_, bE, z3, bG2 GE570 GE576⟩
 rw [if_neg c3] at H
 have c3b0 : (t571 == 0) = false := beq_eq_false_iff_ne.mpr c3
 have c3b1 : (t571 != 0) = true := bne_iff_ne.mpr c3
 simp only [Option.some.injEq, Prod.mk.injEq] at H
 obtain ⟨rfl, rfl⟩ := H
 (try simp only [c3b0, c3b1])
 go_wp2_with (first | ((with_reducible refine gate_dst (N := 2) rfl ?_); refine box_event ?hg (N := 2) ?hd (cs := #[.int .i64 0, .slice none 0 0]) (t := 25) ?hr ?_; (case hd => rfl); (case hg => rfl); (case hr => exact z8); intro gb570 hg w25 hbox hb; have BK570 := aM (hbox); have GW570 := aM ((z11 : w.heap.size ≤ gb570)); have GE570 := aM ((z11 : w.heap.size ≤ gb570)); replace HB := aM (below_step bB hb); clear hb hbox hg) | ((with_reducible refine gate_callee (f := 24) rfl ?_); refine gL_ (some 7) Tryz.func24 #[.slice A0 l0.length c0] ?_; (with_reducible refine (impl_ParseHeader.calls k _ _ l0 t571 t572 t573 _ ?side1 ?side2 A2.out).mono ?_); (case side1 => exact z4 HR0.out); (case side2 => exact HC0.out); rintro e w26 ⟨v574, rfl, ho0, hb⟩; refine ⟨_, rfl, ?_⟩; have HO575 := aM (Kd.R_lower ho0 (below_size (bG GE570))); replace BK570 := aM (blk_below (g := gb570) (o := .cells #[.int .i64 0, .slice none 0 0] 25 (0, 0)) (bL BK570) hb); replace HB := aM (below_step (bG GE570) hb); (try clear ho0)) | ((with_reducible refine gate_dst (N := 3) rfl ?_); refine box_event ?hg (N := 3) ?hd (cs := #[.int .i64 0, .int .i64 0, .slice none 0 0]) (t := 45) ?hr ?_; (case hd => rfl); (case hg => rfl); (case hr => exact z8); intro gb576 hg w27 hbox hb; replace HO575 := aM (Kd.R_below (bR HO575) hb); have BK576 := aM (hbox); have GW576 := aM ((z54 : w.heap.size ≤ gb576)); have GE576 := aM ((z54 : w.heap.size ≤ gb576)); replace HB := aM (below_step (bG GE570) hb); have NB570_576 := aM ((z45 : gb570 ≠ gb576)); have NB576_570 := aM ((z47 : gb576 ≠ gb570)); replace BK570 := aM (blk_below (g := gb570) (o := .cells #[.int .i64 0, .slice none 0 0] 25 (0, 0)) (bL BK570) hb); clear hb hbox hg; have hnb28 := NB576_570.out; have hnc28 := NB570_576.out; have hcz29_0 : w27.cell? ⟨gb576, 0, none⟩ = some (.int .i64 0) := (blk_cell BK576.out 0).trans rfl; have hcz29_1 : w27.cell? ⟨gb576, 1, none⟩ = some (.int .i64 0) := (blk_cell BK576.out 1).trans rfl; have hcz29_2 : w27.cell? ⟨gb576, 2, none⟩ = some (.slice none 0 0) := (blk_cell BK576.out 2).trans rfl; have hfz29_0 := blk_frozen BK576.out 0; have hfz29_1 := blk_frozen BK576.out 1; have hfz29_2 := blk_frozen BK576.out 2; obtain ⟨Ao30, co30, eo30⟩ := Kd.R_slice HO575.out; subst eo30; have hcz31_0 : w27.cell? ⟨gb570, 0, none⟩ = some (.int .i64 0) := (blk_cell BK570.out 0).trans rfl; have hcz31_1 : w27.cell? ⟨gb570, 1, none⟩ = some (.slice none 0 0) := (blk_cell BK570.out 1).trans rfl; have hfz31_0 := blk_frozen BK570.out 0; have hfz31_1 := blk_frozen BK570.out 1))
 refine bodyPost_ret (results_cell_row rfl _ _ gb570 25 #[.int .i64 t571, .slice none 0 0] (0, 0) _ rfl (by (with_reducible repeat (first | refine blk_drewN ?_ _ | refine blk_drew ?_ | refine blk_alloc ?_ _)); refine blk_put (cs := #[.int .i64 t571, .slice none 0 0]) ?_ 1 _ rfl; (with_reducible repeat (first | refine blk_drewN ?_ _ | refine blk_drew ?_ | refine blk_alloc ?_ _)); refine blk_put (cs := #[.int .i64 0, .slice none 0 0]) ?_ 0 _ rfl; (with_reducible repeat (first | refine blk_drewN ?_ _ | refine blk_drew ?_ | refine blk_alloc ?_ _)); refine blk_far ?_ NB570_576.out _; (with_reducible repeat (first | refine blk_drewN ?_ _ | refine blk_drew ?_ | refine blk_alloc ?_ _)); refine blk_far ?_ NB570_576.out _; (with_reducible repeat (first | refine blk_drewN ?_ _ | refine blk_drew ?_ | refine blk_alloc ?_ _)); refine blk_far ?_ NB570_576.out _; (with_reducible repeat (first | refine blk_drewN ?_ _ | refine blk_drew ?_ | refine blk_alloc ?_ _)); exact BK570.out) Tryz.underlying25 rfl (by kernel_rfl)) rfl ?_
 exact ⟨_, bE, z3, bG2 GE570 GE576⟩
def laws_eqInt64S.l0 : Nat → List Int → List Int → Int → Option (Bool)
 | 0, _, _, _ => none
 | k + 1, x0, x1, x5 => if x5 < (x0.length : Int) then (if 0 ≤ x5 then (if x5 < (x1.length : Int) then (if (rd x0 x5) = (rd x1 x5) then (laws_eqInt64S.l0 k x0 x1 (wrap64 (x5 + 1))) else (some false)) else (none)) else (none)) else (some true)
def laws_eqInt64S.f (k : Nat) (l0 : List Int) (l1 : List Int) : Option (Bool) := if (l0.length : Int) = (l1.length : Int) then (laws_eqInt64S.l0 k l0 l1 0) else (some false)
set_option maxHeartbeats 8000000 in
set_option maxRecDepth 100000 in
theorem laws_eqInt64S.calls (k : Nat) (A0 : Option Addr) (c0 : Nat) (l0 : List Int) (A1 : Option Addr) (c1 : Nat) (l1 : List Int) (r : Bool) (w : World) (hr0 : Kd.C (Kd.int .i64) w A0 l0.length l0) (hc0 : l0.length ≤ c0) (hr1 : Kd.C (Kd.int .i64) w A1 l1.length l1) (hc1 : l1.length ≤ c1) (h : laws_eqInt64S.f k l0 l1 = some r) :
  Calls Tryz.prog 26 #[.slice A0 l0.length c0, .slice A1 l1.length c1] w fun e w' => e = .returned (.bool r) ∧ Drawn0 w w' := by
 have HR0 := aM hr0
 have HC0 := aM hc0
 clear hr0 hc0
 have HR1 := aM hr1
 have HC1 := aM hc1
 clear hr1 hc1
 have H : (if (l0.length : Int) = (l1.length : Int) then (laws_eqInt64S.l0 k l0 l1 0) else (some false)) = some r := h
 clear h
 by_cases c3 : (l0.length : Int) = (l1.length : Int)
 ·rw [if_pos c3] at H
  have c3b0 : ((l0.length : Int) == (l1.length : Int)) = true := beq_iff_eq.mpr c3
  have c3b1 : ((l0.length : Int) != (l1.length : Int)) = false := bne_eq_false_iff_eq.mpr c3
  have c3b2 : (l0.length == l1.length) = true := z56
  clear c3
  have H' := aM H
  clear H
  go_enter Tryz.func26, Tryz.ntmps26
  go_wp2
  repeat (go_quiet (fail); try go_wp2)
  go_loopg [5] k (fun kq v5 w' => ∃ (x5_1 : Int), v5 = .int .i64 x5_1 ∧ Aside0 (laws_eqInt64S.l0 kq l0 l1 x5_1 = some r) ∧ Aside0 (kq ≤ k) ∧ Drawn0 w w')
  case atStart => exact ⟨(0), bS, H', ⟨Nat.le_refl _⟩, z1⟩
  case round =>
   clear H'
   try clear c1
   try clear c2
   try clear p2
   try clear c3
   try clear c3b0
   try clear c3b1
   try clear c3b2
   obtain ⟨x5_1, rfl, HA, HK1, ⟨m1, rfl⟩⟩ := hrel
   cases gk with
   | zero => exact absurd HA.out (by simp [laws_eqInt64S.l0])
   | succ k1 =>
    have H := HA.out
    clear HA
    simp only [laws_eqInt64S.l0] at H
    by_cases c4 : x5_1 < (l0.length : Int)
    ·rw [if_pos c4] at H
     have c4b0 : decide (x5_1 < (l0.length : Int)) = true := decide_eq_true c4
     clear c4
     by_cases c5 : 0 ≤ x5_1
     ·rw [if_pos c5] at H
      have c5b0 : decide (0 ≤ x5_1) = true := decide_eq_true c5
      clear c5
      by_cases c6 : x5_1 < (l1.length : Int)
      ·rw [if_pos c6] at H
       have c6b0 : decide (x5_1 < (l1.length : Int)) = true := decide_eq_true c6
       clear c6
       by_cases c7 : (rd l0 x5_1) = (rd l1 x5_1)
       ·rw [if_pos c7] at H
        have c7b0 : ((rd l0 x5_1) == (rd l1 x5_1)) = true := beq_iff_eq.mpr c7
        have c7b1 : ((rd l0 x5_1) != (rd l1 x5_1)) = false := bne_eq_false_iff_eq.mpr c7
        clear c7
        have H' := aM H
        clear H
        have p583 : 0 ≤ (x5_1 : Int) := pI
        have q583 : x5_1 < (l0.length : Int) := pI
        obtain ⟨ad583, e583, hx583_0⟩ := Kd.at_int HR0.out x5_1 p583 q583
        cases e583
        replace p583 := eq_true p583
        replace q583 := eq_true q583
        have p584 : 0 ≤ (x5_1 : Int) := pI
        have q584 : x5_1 < (l1.length : Int) := pI
        obtain ⟨ad584, e584, hx584_0⟩ := Kd.at_int HR1.out x5_1 p584 q584
        cases e584
        replace p584 := eq_true p584
        replace q584 := eq_true q584
        go_wp2
        repeat (go_quiet (fail); try go_wp2)
        go_roundg k1
        case measure => have := HK1.out; omega
        case rel => exact ⟨(wrap64 (x5_1 + 1)), bS, H', ⟨by have := HK1.out; omega⟩, z1⟩
       rw [if_neg c7] at H
       have c7b0 : ((rd l0 x5_1) == (rd l1 x5_1)) = false := beq_eq_false_iff_ne.mpr c7
       have c7b1 : ((rd l0 x5_1) != (rd l1 x5_1)) = true := bne_iff_ne.mpr c7
       obtain rfl := Option.some.inj H
       have p583 : 0 ≤ (x5_1 : Int) := pI
       have q583 : x5_1 < (l0.length : Int) := pI
       obtain ⟨ad583, e583, hx583_0⟩ := Kd.at_int HR0.out x5_1 p583 q583
       cases e583
       replace p583 := eq_true p583
       replace q583 := eq_true q583
       have p584 : 0 ≤ (x5_1 : Int) := pI
       have q584 : x5_1 < (l1.length : Int) := pI
       obtain ⟨ad584, e584, hx584_0⟩ := Kd.at_int HR1.out x5_1 p584 q584
       cases e584
       replace p584 := eq_true p584
       replace q584 := eq_true q584
       go_wp2
       repeat (go_quiet (fail); try go_wp2)
       go_ret
       exact ⟨bS, z1⟩
      rw [if_neg c6] at H
      exact absurd H (by simp)
     rw [if_neg c5] at H
     exact absurd H (by simp)
    rw [if_neg c4] at H
    have c4b0 : decide (x5_1 < (l0.length : Int)) = false := decide_eq_false c4
    clear c4
    obtain rfl := Option.some.inj H
    go_wp2
    repeat (go_quiet (fail); try go_wp2)
    go_ret
    exact ⟨bS, z1⟩
 rw [if_neg c3] at H
 have c3b0 : ((l0.length : Int) == (l1.length : Int)) = false := beq_eq_false_iff_ne.mpr c3
 have c3b1 : ((l0.length : Int) != (l1.length : Int)) = true := bne_iff_ne.mpr c3
 have c3b2 : (l0.length == l1.length) = false := z56
 obtain rfl := Option.some.inj H
 go_enter Tryz.func26, Tryz.ntmps26
 go_wp2
 repeat (go_quiet (fail); try go_wp2)
 go_ret
 exact ⟨bS, z1⟩
def laws_eqCodesResult.f (k : Nat) (a0_0 : Int) (l0_1 : List Int) (a1_0 : Int) (l1_1 : List Int) : Option (Bool) := if a0_0 = a1_0 then ((laws_eqInt64S.f k l0_1 l1_1).bind fun t587 => (if t587 = true then (some true) else (some false))) else (some false)
set_option maxHeartbeats 8000000 in
set_option maxRecDepth 100000 in
theorem laws_eqCodesResult.calls (k : Nat) (a0_0 : Int) (A0_1 : Option Addr) (c0_1 : Nat) (l0_1 : List Int) (a1_0 : Int) (A1_1 : Option Addr) (c1_1 : Nat) (l1_1 : List Int) (r : Bool) (w : World) (hr0_1 : Kd.C (Kd.int .i64) w A0_1 l0_1.length l0_1) (hc0_1 : l0_1.length ≤ c0_1) (hr1_1 : Kd.C (Kd.int .i64) w A1_1 l1_1.length l1_1) (hc1_1 : l1_1.length ≤ c1_1) (h : laws_eqCodesResult.f k a0_0 l0_1 a1_0 l1_1 = some r) :
  Calls Tryz.prog 8 #[.agg #[.int .i64 a0_0, .slice A0_1 l0_1.length c0_1], .agg #[.int .i64 a1_0, .slice A1_1 l1_1.length c1_1]] w fun e w' => e = .returned (.bool r) ∧ Below w.heap.size w w' := by
 have hu25 := Tryz.underlying25
 have HR0_1 := aM hr0_1
 have HC0_1 := aM hc0_1
 clear hr0_1 hc0_1
 have HR1_1 := aM hr1_1
 have HC1_1 := aM hc1_1
 clear hr1_1 hc1_1
 have HB := aM (Below.refl w.heap.size w)
 have H : (if a0_0 = a1_0 then ((laws_eqInt64S.f k l0_1 l1_1).bind fun t587 => (if t587 = true then (some true) else (some false))) else (some false)) = some r := h
 clear h
 by_cases c3 : a0_0 = a1_0
 ·rw [if_pos c3] at H
  have c3b0 : (a0_0 == a1_0) = true := beq_iff_eq.mpr c3
  have c3b1 : (a0_0 != a1_0) = false := bne_eq_false_iff_eq.mpr c3
  clear c3
  replace H := Option.bind_eq_some_iff.mp H
  obtain ⟨t587, A40, H⟩ := H
  replace H : (if t587 = true then (some true) else (some false)) = some r := H
  have A4 := aM A40
  clear A40
  by_cases c5 : t587 = true
  ·subst c5
   have H1 : (some true) = some r := z14
   clear H
   have H := H1
   clear H1
   obtain rfl := Option.some.inj H
   go_enter Tryz.func8, Tryz.ntmps8
   go_wp2_with (first | ((with_reducible refine gate_dst (N := 2) rfl ?_); refine box_event ?hg (N := 2) ?hd (cs := #[.int .i64 a0_0, .slice A0_1 l0_1.length c0_1]) (t := 25) ?hr ?_; (case hd => rfl); (case hg => rfl); (case hr => exact z8); intro gb585 hg w6 hbox hb; have BK585 := aM (hbox); have GW585 := aM ((z11 : w.heap.size ≤ gb585)); have GE585 := aM ((z11 : w.heap.size ≤ gb585)); replace HB := aM (below_step bB hb); clear hb hbox hg) | ((with_reducible refine gate_dst (N := 3) rfl ?_); refine box_event ?hg (N := 3) ?hd (cs := #[.int .i64 a1_0, .slice A1_1 l1_1.length c1_1]) (t := 25) ?hr ?_; (case hd => rfl); (case hg => rfl); (case hr => exact z8); intro gb586 hg w7 hbox hb; have BK586 := aM (hbox); have GW586 := aM ((z55 : w.heap.size ≤ gb586)); have GE586 := aM ((z55 : w.heap.size ≤ gb586)); replace HB := aM (below_step (bG GE585) hb); have NB585_586 := aM ((z41 : gb585 ≠ gb586)); have NB586_585 := aM ((z42 : gb586 ≠ gb585)); replace BK585 := aM (blk_below (g := gb585) (o := .cells #[.int .i64 a0_0, .slice A0_1 l0_1.length c0_1] 25 (0, 0)) (bL BK585) hb); clear hb hbox hg; have hnb8 := NB585_586.out; have hnc8 := NB586_585.out; have hcz9_0 : w7.cell? ⟨gb585, 0, none⟩ = some (.int .i64 a0_0) := (blk_cell BK585.out 0).trans rfl; have hcz9_1 : w7.cell? ⟨gb585, 1, none⟩ = some (.slice A0_1 l0_1.length c0_1) := (blk_cell BK585.out 1).trans rfl; have hfz9_0 := blk_frozen BK585.out 0; have hfz9_1 := blk_frozen BK585.out 1; have hcz10_0 : w7.cell? ⟨gb586, 0, none⟩ = some (.int .i64 a1_0) := (blk_cell BK586.out 0).trans rfl; have hcz10_1 : w7.cell? ⟨gb586, 1, none⟩ = some (.slice A1_1 l1_1.length c1_1) := (blk_cell BK586.out 1).trans rfl; have hfz10_0 := blk_frozen BK586.out 0; have hfz10_1 := blk_frozen BK586.out 1) | ((with_reducible refine gate_callee (f := 26) rfl ?_); refine gL_ (some 14) Tryz.func26 #[.slice A0_1 l0_1.length c0_1, .slice A1_1 l1_1.length c1_1] ?_; (with_reducible refine (laws_eqInt64S.calls k _ _ l0_1 _ _ l1_1 true _ ?side1 ?side2 ?side3 ?side4 A4.out).mono ?_); (case side1 => exact z4 HR0_1.out); (case side2 => exact HC0_1.out); (case side3 => exact z4 HR1_1.out); (case side4 => exact HC1_1.out); rintro e w' ⟨rfl, ⟨nd, rfl⟩⟩; refine ⟨_, rfl, ?_⟩))
   go_ret
   exact ⟨bE, bG2 GE585 GE586⟩
  replace c5 := Bool.eq_false_iff.mpr c5
  subst c5
  have H1 : (some false) = some r := z5
  clear H
  have H := H1
  clear H1
  obtain rfl := Option.some.inj H
  go_enter Tryz.func8, Tryz.ntmps8
  go_wp2_with (first | ((with_reducible refine gate_dst (N := 2) rfl ?_); refine box_event ?hg (N := 2) ?hd (cs := #[.int .i64 a0_0, .slice A0_1 l0_1.length c0_1]) (t := 25) ?hr ?_; (case hd => rfl); (case hg => rfl); (case hr => exact z8); intro gb585 hg w11 hbox hb; have BK585 := aM (hbox); have GW585 := aM ((z11 : w.heap.size ≤ gb585)); have GE585 := aM ((z11 : w.heap.size ≤ gb585)); replace HB := aM (below_step bB hb); clear hb hbox hg) | ((with_reducible refine gate_dst (N := 3) rfl ?_); refine box_event ?hg (N := 3) ?hd (cs := #[.int .i64 a1_0, .slice A1_1 l1_1.length c1_1]) (t := 25) ?hr ?_; (case hd => rfl); (case hg => rfl); (case hr => exact z8); intro gb586 hg w12 hbox hb; have BK586 := aM (hbox); have GW586 := aM ((z55 : w.heap.size ≤ gb586)); have GE586 := aM ((z55 : w.heap.size ≤ gb586)); replace HB := aM (below_step (bG GE585) hb); have NB585_586 := aM ((z41 : gb585 ≠ gb586)); have NB586_585 := aM ((z42 : gb586 ≠ gb585)); replace BK585 := aM (blk_below (g := gb585) (o := .cells #[.int .i64 a0_0, .slice A0_1 l0_1.length c0_1] 25 (0, 0)) (bL BK585) hb); clear hb hbox hg; have hnb13 := NB585_586.out; have hnc13 := NB586_585.out; have hcz14_0 : w12.cell? ⟨gb585, 0, none⟩ = some (.int .i64 a0_0) := (blk_cell BK585.out 0).trans rfl; have hcz14_1 : w12.cell? ⟨gb585, 1, none⟩ = some (.slice A0_1 l0_1.length c0_1) := (blk_cell BK585.out 1).trans rfl; have hfz14_0 := blk_frozen BK585.out 0; have hfz14_1 := blk_frozen BK585.out 1; have hcz15_0 : w12.cell? ⟨gb586, 0, none⟩ = some (.int .i64 a1_0) := (blk_cell BK586.out 0).trans rfl; have hcz15_1 : w12.cell? ⟨gb586, 1, none⟩ = some (.slice A1_1 l1_1.length c1_1) := (blk_cell BK586.out 1).trans rfl; have hfz15_0 := blk_frozen BK586.out 0; have hfz15_1 := blk_frozen BK586.out 1) | ((with_reducible refine gate_callee (f := 26) rfl ?_); refine gL_ (some 14) Tryz.func26 #[.slice A0_1 l0_1.length c0_1, .slice A1_1 l1_1.length c1_1] ?_; (with_reducible refine (laws_eqInt64S.calls k _ _ l0_1 _ _ l1_1 false _ ?side1 ?side2 ?side3 ?side4 A4.out).mono ?_); (case side1 => exact z4 HR0_1.out); (case side2 => exact HC0_1.out); (case side3 => exact z4 HR1_1.out); (case side4 => exact HC1_1.out); rintro e w' ⟨rfl, ⟨nd, rfl⟩⟩; refine ⟨_, rfl, ?_⟩))
  go_ret
  exact ⟨bE, bG2 GE585 GE586⟩
 rw [if_neg c3] at H
 have c3b0 : (a0_0 == a1_0) = false := beq_eq_false_iff_ne.mpr c3
 have c3b1 : (a0_0 != a1_0) = true := bne_iff_ne.mpr c3
 obtain rfl := Option.some.inj H
 go_enter Tryz.func8, Tryz.ntmps8
 go_wp2_with (first | ((with_reducible refine gate_dst (N := 2) rfl ?_); refine box_event ?hg (N := 2) ?hd (cs := #[.int .i64 a0_0, .slice A0_1 l0_1.length c0_1]) (t := 25) ?hr ?_; (case hd => rfl); (case hg => rfl); (case hr => exact z8); intro gb585 hg w16 hbox hb; have BK585 := aM (hbox); have GW585 := aM ((z11 : w.heap.size ≤ gb585)); have GE585 := aM ((z11 : w.heap.size ≤ gb585)); replace HB := aM (below_step bB hb); clear hb hbox hg) | ((with_reducible refine gate_dst (N := 3) rfl ?_); refine box_event ?hg (N := 3) ?hd (cs := #[.int .i64 a1_0, .slice A1_1 l1_1.length c1_1]) (t := 25) ?hr ?_; (case hd => rfl); (case hg => rfl); (case hr => exact z8); intro gb586 hg w17 hbox hb; have BK586 := aM (hbox); have GW586 := aM ((z55 : w.heap.size ≤ gb586)); have GE586 := aM ((z55 : w.heap.size ≤ gb586)); replace HB := aM (below_step (bG GE585) hb); have NB585_586 := aM ((z41 : gb585 ≠ gb586)); have NB586_585 := aM ((z42 : gb586 ≠ gb585)); replace BK585 := aM (blk_below (g := gb585) (o := .cells #[.int .i64 a0_0, .slice A0_1 l0_1.length c0_1] 25 (0, 0)) (bL BK585) hb); clear hb hbox hg; have hnb18 := NB585_586.out; have hnc18 := NB586_585.out; have hcz19_0 : w17.cell? ⟨gb585, 0, none⟩ = some (.int .i64 a0_0) := (blk_cell BK585.out 0).trans rfl; have hcz19_1 : w17.cell? ⟨gb585, 1, none⟩ = some (.slice A0_1 l0_1.length c0_1) := (blk_cell BK585.out 1).trans rfl; have hfz19_0 := blk_frozen BK585.out 0; have hfz19_1 := blk_frozen BK585.out 1; have hcz20_0 : w17.cell? ⟨gb586, 0, none⟩ = some (.int .i64 a1_0) := (blk_cell BK586.out 0).trans rfl; have hcz20_1 : w17.cell? ⟨gb586, 1, none⟩ = some (.slice A1_1 l1_1.length c1_1) := (blk_cell BK586.out 1).trans rfl; have hfz20_0 := blk_frozen BK586.out 0; have hfz20_1 := blk_frozen BK586.out 1))
 go_ret
 exact ⟨bE, bG2 GE585 GE586⟩
def laws_eqByteS.l0 : Nat → List Int → List Int → Int → Option (Bool)
 | 0, _, _, _ => none
 | k + 1, x0, x1, x5 => if x5 < (x0.length : Int) then (if 0 ≤ x5 then (if x5 < (x1.length : Int) then (if (rd x0 x5) = (rd x1 x5) then (laws_eqByteS.l0 k x0 x1 (wrap64 (x5 + 1))) else (some false)) else (none)) else (none)) else (some true)
def laws_eqByteS.f (k : Nat) (l0 : List Int) (l1 : List Int) : Option (Bool) := if (l0.length : Int) = (l1.length : Int) then (laws_eqByteS.l0 k l0 l1 0) else (some false)
set_option maxHeartbeats 8000000 in
set_option maxRecDepth 100000 in
theorem laws_eqByteS.calls (k : Nat) (A0 : Option Addr) (c0 : Nat) (l0 : List Int) (A1 : Option Addr) (c1 : Nat) (l1 : List Int) (r : Bool) (w : World) (hr0 : Kd.C (Kd.int .u8) w A0 l0.length l0) (hc0 : l0.length ≤ c0) (hr1 : Kd.C (Kd.int .u8) w A1 l1.length l1) (hc1 : l1.length ≤ c1) (h : laws_eqByteS.f k l0 l1 = some r) :
  Calls Tryz.prog 9 #[.slice A0 l0.length c0, .slice A1 l1.length c1] w fun e w' => e = .returned (.bool r) ∧ Drawn0 w w' := by
 have HR0 := aM hr0
 have HC0 := aM hc0
 clear hr0 hc0
 have HR1 := aM hr1
 have HC1 := aM hc1
 clear hr1 hc1
 have H : (if (l0.length : Int) = (l1.length : Int) then (laws_eqByteS.l0 k l0 l1 0) else (some false)) = some r := h
 clear h
 by_cases c3 : (l0.length : Int) = (l1.length : Int)
 ·rw [if_pos c3] at H
  have c3b0 : ((l0.length : Int) == (l1.length : Int)) = true := beq_iff_eq.mpr c3
  have c3b1 : ((l0.length : Int) != (l1.length : Int)) = false := bne_eq_false_iff_eq.mpr c3
  have c3b2 : (l0.length == l1.length) = true := z56
  clear c3
  have H' := aM H
  clear H
  go_enter Tryz.func9, Tryz.ntmps9
  go_wp2
  repeat (go_quiet (fail); try go_wp2)
  go_loopg [5] k (fun kq v5 w' => ∃ (x5_1 : Int), v5 = .int .i64 x5_1 ∧ Aside0 (laws_eqByteS.l0 kq l0 l1 x5_1 = some r) ∧ Aside0 (kq ≤ k) ∧ Drawn0 w w')
  case atStart => exact ⟨(0), bS, H', ⟨Nat.le_refl _⟩, z1⟩
  case round =>
   clear H'
   try clear c1
   try clear p2
   try clear c3
   try clear c3b0
   try clear c3b1
   try clear c3b2
   obtain ⟨x5_1, rfl, HA, HK1, ⟨m1, rfl⟩⟩ := hrel
   cases gk with
   | zero => exact absurd HA.out (by simp [laws_eqByteS.l0])
   | succ k1 =>
    have H := HA.out
    clear HA
    simp only [laws_eqByteS.l0] at H
    by_cases c4 : x5_1 < (l0.length : Int)
    ·rw [if_pos c4] at H
     have c4b0 : decide (x5_1 < (l0.length : Int)) = true := decide_eq_true c4
     clear c4
     by_cases c5 : 0 ≤ x5_1
     ·rw [if_pos c5] at H
      have c5b0 : decide (0 ≤ x5_1) = true := decide_eq_true c5
      clear c5
      by_cases c6 : x5_1 < (l1.length : Int)
      ·rw [if_pos c6] at H
       have c6b0 : decide (x5_1 < (l1.length : Int)) = true := decide_eq_true c6
       clear c6
       by_cases c7 : (rd l0 x5_1) = (rd l1 x5_1)
       ·rw [if_pos c7] at H
        have c7b0 : ((rd l0 x5_1) == (rd l1 x5_1)) = true := beq_iff_eq.mpr c7
        have c7b1 : ((rd l0 x5_1) != (rd l1 x5_1)) = false := bne_eq_false_iff_eq.mpr c7
        clear c7
        have H' := aM H
        clear H
        have p588 : 0 ≤ (x5_1 : Int) := pI
        have q588 : x5_1 < (l0.length : Int) := pI
        obtain ⟨ad588, e588, hx588_0⟩ := Kd.at_int HR0.out x5_1 p588 q588
        cases e588
        replace p588 := eq_true p588
        replace q588 := eq_true q588
        have p589 : 0 ≤ (x5_1 : Int) := pI
        have q589 : x5_1 < (l1.length : Int) := pI
        obtain ⟨ad589, e589, hx589_0⟩ := Kd.at_int HR1.out x5_1 p589 q589
        cases e589
        replace p589 := eq_true p589
        replace q589 := eq_true q589
        go_wp2
        repeat (go_quiet (fail); try go_wp2)
        go_roundg k1
        case measure => have := HK1.out; omega
        case rel => exact ⟨(wrap64 (x5_1 + 1)), bS, H', ⟨by have := HK1.out; omega⟩, z1⟩
       rw [if_neg c7] at H
       have c7b0 : ((rd l0 x5_1) == (rd l1 x5_1)) = false := beq_eq_false_iff_ne.mpr c7
       have c7b1 : ((rd l0 x5_1) != (rd l1 x5_1)) = true := bne_iff_ne.mpr c7
       obtain rfl := Option.some.inj H
       have p588 : 0 ≤ (x5_1 : Int) := pI
       have q588 : x5_1 < (l0.length : Int) := pI
       obtain ⟨ad588, e588, hx588_0⟩ := Kd.at_int HR0.out x5_1 p588 q588
       cases e588
       replace p588 := eq_true p588
       replace q588 := eq_true q588
       have p589 : 0 ≤ (x5_1 : Int) := pI
       have q589 : x5_1 < (l1.length : Int) := pI
       obtain ⟨ad589, e589, hx589_0⟩ := Kd.at_int HR1.out x5_1 p589 q589
       cases e589
       replace p589 := eq_true p589
       replace q589 := eq_true q589
       go_wp2
       repeat (go_quiet (fail); try go_wp2)
       go_ret
       exact ⟨bS, z1⟩
      rw [if_neg c6] at H
      exact absurd H (by simp)
     rw [if_neg c5] at H
     exact absurd H (by simp)
    rw [if_neg c4] at H
    have c4b0 : decide (x5_1 < (l0.length : Int)) = false := decide_eq_false c4
    clear c4
    obtain rfl := Option.some.inj H
    go_wp2
    repeat (go_quiet (fail); try go_wp2)
    go_ret
    exact ⟨bS, z1⟩
 rw [if_neg c3] at H
 have c3b0 : ((l0.length : Int) == (l1.length : Int)) = false := beq_eq_false_iff_ne.mpr c3
 have c3b1 : ((l0.length : Int) != (l1.length : Int)) = true := bne_iff_ne.mpr c3
 have c3b2 : (l0.length == l1.length) = false := z56
 obtain rfl := Option.some.inj H
 go_enter Tryz.func9, Tryz.ntmps9
 go_wp2
 repeat (go_quiet (fail); try go_wp2)
 go_ret
 exact ⟨bS, z1⟩
def laws_markByteS.l0 : Nat → List Int → Int → Int → Option (Int × List Int)
 | 0, _, _, _ => none
 | k + 1, x0, x1, x5 => if x5 < (x0.length : Int) then (if 0 ≤ x5 then (laws_markByteS.l0 k (x0.set (x5 : Int).toNat ((x1) % 256)) (wrap64 (x1 + 1)) (wrap64 (x5 + 1))) else (none)) else (some (x1, x0))
def laws_markByteS.f (k : Nat) (l0 : List Int) (a1 : Int) : Option (Int × List Int) := laws_markByteS.l0 k l0 a1 0
set_option maxHeartbeats 8000000 in
set_option maxRecDepth 100000 in
theorem laws_markByteS.calls (k : Nat) (P0_ : Nat → Prop) (u9000_ : Value) (l0 : List Int) (a1 : Int) (r1 : Int) (r2 : List Int) (w0 w : World) (hB : Below w0.heap.size w0 w) (ho0 : Kd.R (Kd.int .u8) 5 w w0.heap.size P0_ u9000_ l0) (h : laws_markByteS.f k l0 a1 = some (r1, r2)) :
  Calls Tryz.prog 10 #[u9000_, .int .i64 a1] w fun e w' => e = .returned (.int .i64 r1) ∧ Kd.R (Kd.int .u8) 5 w' w0.heap.size (fun k_ => (P0_ k_ ∨ w.heap.size ≤ k_)) u9000_ r2 ∧ Below w0.heap.size w0 w' ∧ Kept w w' (fun k_ => P0_ k_) := by
 have HO0 := aM (show Kd.R (Kd.int .u8) 5 w w0.heap.size (fun k_ => (P0_ k_ ∨ w.heap.size ≤ k_)) u9000_ l0 from Kd.R_mono ho0 (fun k_ hk => (.inl hk)))
 have HK := aM (Kept.refl w (fun k_ => P0_ k_))
 have HW0 := aM hB.size
 have HB := aM hB
 clear hB
 have H : (laws_markByteS.l0 k l0 a1 0) = some (r1, r2) := h
 clear h
 have H' := aM H
 clear H
 go_enter Tryz.func10, Tryz.ntmps10
 go_wp2
 go_loopg [1, 5] k (fun kq v1 v5 w' => ∃ (x0_1 : List Int) (x1_1 : Int) (x5_1 : Int), v1 = .int .i64 x1_1 ∧ v5 = .int .i64 x5_1 ∧ Aside0 (laws_markByteS.l0 kq x0_1 x1_1 x5_1 = some (r1, r2)) ∧ Aside0 (kq ≤ k) ∧ Aside0 (Kd.R (Kd.int .u8) 5 w' w0.heap.size (fun k_ => (P0_ k_ ∨ w.heap.size ≤ k_)) u9000_ x0_1) ∧ Aside0 (Kept w w' (fun k_ => P0_ k_)) ∧ Aside0 (Below w0.heap.size w0 w'))
 case atStart => exact ⟨(l0), (a1), (0), bS, bS, H', ⟨Nat.le_refl _⟩, ⟨bR HO0⟩, ⟨bK⟩, ⟨bB⟩⟩
 case round =>
  clear H'
  try clear c1
  try clear p2
  obtain ⟨x0_1, x1_1, x5_1, rfl, rfl, HA, HK1, HO_0, HK, HB⟩ := hrel
  cases gk with
  | zero => exact absurd HA.out (by simp [laws_markByteS.l0])
  | succ k1 =>
   have H := HA.out
   clear HA
   simp only [laws_markByteS.l0] at H
   by_cases c3 : x5_1 < (x0_1.length : Int)
   ·rw [if_pos c3] at H
    have c3b0 : decide (x5_1 < (x0_1.length : Int)) = true := decide_eq_true c3
    clear c3
    by_cases c4 : 0 ≤ x5_1
    ·rw [if_pos c4] at H
     have c4b0 : decide (0 ≤ x5_1) = true := decide_eq_true c4
     clear c4
     obtain ⟨y590, hy590⟩ : ∃ y_ : List Int, y_ = (x0_1.set (x5_1 : Int).toNat ((x1_1) % 256)) := ⟨_, rfl⟩
     replace H : (laws_markByteS.l0 k1 y590 (wrap64 (x1_1 + 1)) (wrap64 (x5_1 + 1))) = some (r1, r2) := z0 hy590
     have Ny590 := aM hy590
     clear hy590
     have H' := aM H
     clear H
     obtain ⟨Ao6, co6, eo6⟩ := Kd.R_slice HO_0.out
     subst eo6
     have p5 : 0 ≤ (x5_1 : Int) := pI
     have q5 : (x5_1 : Int) < ((x0_1.length : Int) : Int) := pI
     obtain ⟨go5, co5, eo5, gb5, gl5, cl5, HG5⟩ := Kd.R_form HO_0.out (by omega)
     (first | cases eo5 | (injection eo5 with ea_ en_ ec_; (first | subst ea_ | (injection ea_ with ea_; subst ea_)); subst ec_; clear en_))
     have GB5 := aM gb5
     have GG5 := aM HG5
     clear gb5 gl5 HG5
     have HMgo5 := aM (show (P0_ go5 ∨ w.heap.size ≤ go5) from (HO_0.out.1 _ rfl))
     obtain ⟨hx5_0, hf5_0⟩ := Kd.R_celln 0 HO_0.out (x5_1 : Int) p5 q5
     replace p5 := eq_true p5
     replace q5 := eq_true q5
     have HP7 := Kd.R_putg HO_0.out (x5_1 : Int) ((x1_1) % 256)
     go_wp2_with (first | ((with_reducible refine gate_store (t := 5) (p := 16) rfl ?_); refine store_event (t := 5) (p := 16) (v := ?vo_w8) (w1 := (wr.setCell ⟨go5, (x5_1 : Int).toNat, none⟩ (.int .u8 ((x1_1) % 256)))) ?hg ?ho ?hn ?hr ?_; (case ho => rfl); (case hg => rfl); (case hn => rfl); (case hr => exact z8); intro w8 hw; have hg : wr.grownBy w8 (some go5) := (by rw [hw]; exact HP7.2); have hp_ : Kd.R (Kd.int .u8) 5 w8 w0.heap.size (fun k_ => (P0_ k_ ∨ w.heap.size ≤ k_)) (.slice (some ⟨go5, 0, none⟩) x0_1.length co6) y590 := (by rw [hw, Ny590.out]; exact HP7.1); clear HP7; replace HB := aM ((z48 GB5.out : Below w0.heap.size w0 w8)); replace HK := aM (Kept.of_grown (S := (fun k_ => P0_ k_)) hg bK (fun k_ e_ => (HO_0.out.1 k_ e_))); replace HO_0 := aM (hp_); clear hg hw hp_))
     go_roundg k1
     case measure => have := HK1.out; omega
     case rel => exact ⟨(y590), (wrap64 (x1_1 + 1)), (wrap64 (x5_1 + 1)), bS, bS, H', ⟨by have := HK1.out; omega⟩, ⟨bR HO_0⟩, ⟨bK⟩, ⟨bB⟩⟩
    rw [if_neg c4] at H
    exact absurd H (by simp)
   rw [if_neg c3] at H
   have c3b0 : decide (x5_1 < (x0_1.length : Int)) = false := decide_eq_false c3
   clear c3
   simp only [Option.some.injEq, Prod.mk.injEq] at H
   obtain ⟨rfl, rfl⟩ := H
   obtain ⟨Ao9, co9, eo9⟩ := Kd.R_slice HO_0.out
   subst eo9
   go_wp2
   go_ret
   exact ⟨bE, bR HO_0, bB, bK⟩
end Go.Proofs.YtjopgmjmjnfcjaaGreatDoor.PSubjectOf
