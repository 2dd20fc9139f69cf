/- Part of the proof; words that it uses. -/
import Derived.Test.YtecpanfndodjgaaDoorPPartAtx0
import Derived.Test.YtecpanfndodjgaaDoorPPartAtx1
namespace Go.Proofs.YtecpanfndodjgaaDoor.PPartAt
open Go.RowKit Go.Proofs.YtecpanfndodjgaaDoorW.PrintWords Go.Proofs.YtecpanfndodjgaaDoorW.PrintLast Go.Proofs.YtecpanfndodjgaaDoorW.PrintMore
attribute [local go_sem] max2_int max_two
set_option linter.unusedVariables false
set_option linter.unusedSimpArgs false
def spec_l2Of.l0 : Nat → ByteArray → Int → Option (Int)
 | 0, _, _ => none
 | k + 1, x0, x3 => if x3 ≤ 5 then ((spec_l2Name.f x3).bind fun t130 => ((spec_l2Lower.f k x0).bind fun t131 => (if t130.toList = t131.toList then (some x3) else (spec_l2Of.l0 k x0 (wrap64 (x3 + 1)))))) else (some 0)
def spec_l2Of.f (k : Nat) (a0 : ByteArray) : Option (Int) := spec_l2Of.l0 k a0 1
theorem spec_l2Of.mono_l : ∀ k, (∀ y0 y1, LeO (spec_l2Of.l0 k y0 y1) (spec_l2Of.l0 (k + 1) y0 y1))
 | 0 => fun _ _ r h => by simp [spec_l2Of.l0] at h
 | k + 1 => by
  have ih0 := spec_l2Of.mono_l k
  ·intro y0 y1
   unfold spec_l2Of.l0
   repeat' first
   | (with_reducible exact ih0 _ _)
   | (with_reducible exact spec_l2Lower.mono _ _)
   | (with_reducible exact LeO.refl _)
   | (with_reducible exact LeO.none _)
   | (with_reducible refine LeO.ite ?_ ?_)
   | (with_reducible refine LeO.bind ?_ (fun _ => ?_))
   | exact ih0 _ _
   | exact spec_l2Lower.mono _ _
   | exact LeO.none _
   | refine LeO.ite ?_ ?_
   | refine LeO.bind ?_ (fun _ => ?_)
theorem spec_l2Of.mono : ∀ a0 k, LeO (spec_l2Of.f k a0) (spec_l2Of.f (k + 1) a0) := by
 intro a0 k
 have ih0 := spec_l2Of.mono_l k
 unfold spec_l2Of.f
 repeat' first
   | (with_reducible exact ih0 _ _)
   | (with_reducible exact spec_l2Lower.mono _ _)
   | (with_reducible exact LeO.refl _)
   | (with_reducible exact LeO.none _)
   | (with_reducible refine LeO.ite ?_ ?_)
   | (with_reducible refine LeO.bind ?_ (fun _ => ?_))
   | exact ih0 _ _
   | exact spec_l2Lower.mono _ _
   | exact LeO.none _
   | refine LeO.ite ?_ ?_
   | refine LeO.bind ?_ (fun _ => ?_)
set_option maxHeartbeats 8000000 in
set_option maxRecDepth 100000 in
theorem spec_l2Of.calls (k : Nat) (a0 : ByteArray) (r : Int) (w : World) (h : spec_l2Of.f k a0 = some r) :
  Calls Tryd.prog 76 #[.string a0] w fun e w' => e = .returned (.int .i64 r) ∧ Below w.heap.size w w' := by
 have HB := aM (Below.refl w.heap.size w)
 have H : (spec_l2Of.l0 k a0 1) = some r := h
 clear h
 have H' := aM H
 clear H
 go_enter Tryd.func76, Tryd.ntmps76
 go_wp2
 go_loopg [3] k (fun kq v3 w' => ∃ (x3_1 : Int), v3 = .int .i64 x3_1 ∧ Aside0 (spec_l2Of.l0 kq a0 x3_1 = some r) ∧ Aside0 (kq ≤ k) ∧ Aside0 (Below w.heap.size w w'))
 case atStart => exact ⟨(1), bS, H', ⟨Nat.le_refl _⟩, ⟨bB⟩⟩
 case round =>
  clear H'
  obtain ⟨x3_1, rfl, HA, HK1, HB⟩ := hrel
  cases gk with
  | zero => exact absurd HA.out (by simp [spec_l2Of.l0])
  | succ k1 =>
   have H := HA.out
   clear HA
   simp only [spec_l2Of.l0] at H
   by_cases c2 : x3_1 ≤ 5
   ·rw [if_pos c2] at H
    have c2b0 : decide (x3_1 ≤ 5) = true := decide_eq_true c2
    clear c2
    replace H := Option.bind_eq_some_iff.mp H
    obtain ⟨t130, A30, H⟩ := H
    replace H : ((spec_l2Lower.f k1 a0).bind fun t131 => (if t130.toList = t131.toList then (some x3_1) else (spec_l2Of.l0 k1 a0 (wrap64 (x3_1 + 1))))) = some r := H
    have A3 := aM A30
    clear A30
    replace H := Option.bind_eq_some_iff.mp H
    obtain ⟨t131, A40, H⟩ := H
    replace H : (if t130.toList = t131.toList then (some x3_1) else (spec_l2Of.l0 k1 a0 (wrap64 (x3_1 + 1)))) = some r := H
    have A4 := aM A40
    clear A40
    by_cases c5 : t130.toList = t131.toList
    ·rw [if_pos c5] at H
     have c5b0 : (t130.toList == t131.toList) = true := beq_iff_eq.mpr c5
     have c5b1 : (t130.toList != t131.toList) = false := bne_eq_false_iff_eq.mpr c5
     clear c5
     obtain rfl := Option.some.inj H
     go_wp2_with (first | ((with_reducible refine gate_callee (f := 98) rfl ?_); refine gL_ (some 9) Tryd.func98 #[.int .i64 x3_1] ?_; (with_reducible refine (spec_l2Name.calls x3_1 t130 _ A3.out).mono ?_); rintro e w6 ⟨rfl, hb⟩; refine ⟨_, rfl, ?_⟩; replace HB := aM (below_step bB hb); (try clear hi)) | ((with_reducible refine gate_callee (f := 97) rfl ?_); refine gL_ (some 11) Tryd.func97 #[.string a0] ?_; (with_reducible refine (spec_l2Lower.calls k1 a0 t131 _ A4.out).mono ?_); rintro e w7 ⟨rfl, hb⟩; refine ⟨_, rfl, ?_⟩; replace HB := aM (below_step bB hb); (try clear hi)))
     go_ret
     exact ⟨bE, bB⟩
    rw [if_neg c5] at H
    have c5b0 : (t130.toList == t131.toList) = false := beq_eq_false_iff_ne.mpr c5
    have c5b1 : (t130.toList != t131.toList) = true := bne_iff_ne.mpr c5
    have H' := aM H
    clear H
    go_wp2_with (first | ((with_reducible refine gate_callee (f := 98) rfl ?_); refine gL_ (some 9) Tryd.func98 #[.int .i64 x3_1] ?_; (with_reducible refine (spec_l2Name.calls x3_1 t130 _ A3.out).mono ?_); rintro e w8 ⟨rfl, hb⟩; refine ⟨_, rfl, ?_⟩; replace HB := aM (below_step bB hb); (try clear hi)) | ((with_reducible refine gate_callee (f := 97) rfl ?_); refine gL_ (some 11) Tryd.func97 #[.string a0] ?_; (with_reducible refine (spec_l2Lower.calls k1 a0 t131 _ A4.out).mono ?_); rintro e w9 ⟨rfl, hb⟩; refine ⟨_, rfl, ?_⟩; replace HB := aM (below_step bB hb); (try clear hi)))
    go_roundg k1
    case measure => have := HK1.out; omega
    case rel => exact ⟨(wrap64 (x3_1 + 1)), bS, H', ⟨by have := HK1.out; omega⟩, ⟨bB⟩⟩
   rw [if_neg c2] at H
   have c2b0 : decide (x3_1 ≤ 5) = false := decide_eq_false c2
   clear c2
   obtain rfl := Option.some.inj H
   go_wp2
   go_ret
   exact ⟨bE, bB⟩
def spec_l5Type.f (k : Nat) (a0 : ByteArray) : Option (Int × Int × Int × Int × Int × Int × Int) := (spec_l5Pieces.f k a0).bind fun t133 => (if (t133.length : Int) = 0 then (some (3, 0, 0, 0, 0, 0, 0)) else (if 0 < (t133.length : Int) then ((spec_l5Begins.f k (rdOf ByteArray.empty t133 0) (⟨#[109, 117, 108, 116, 105, 112, 97, 114, 116, 47]⟩ : ByteArray)).bind fun t137 => (if t137 = true then (some (2, 0, 0, 0, 0, 0, 0)) else ((spec_l5Begins.f k (rdOf ByteArray.empty t133 0) (⟨#[116, 101, 120, 116, 47]⟩ : ByteArray)).bind fun t139 => (if t139 = true then ((spec_l5Named.f k t133 (⟨#[99, 104, 97, 114, 115, 101, 116, 61]⟩ : ByteArray)).bind fun bt141 => (if bt141.2 = true then ((spec_l2Of.f k bt141.1).bind fun t143 => (some (1, t143, 0, 0, 0, 0, 0))) else (some (1, 1, 0, 0, 0, 0, 0)))) else (some (3, 0, 0, 0, 0, 0, 0)))))) else (none)))
theorem spec_l5Type.mono : ∀ a0 k, LeO (spec_l5Type.f k a0) (spec_l5Type.f (k + 1) a0) := by
 intro a0 k
 unfold spec_l5Type.f
 repeat' first
   | (with_reducible exact spec_l2Of.mono _ _)
   | (with_reducible exact spec_l5Begins.mono _ _ _)
   | (with_reducible exact spec_l5Named.mono _ _ _)
   | (with_reducible exact spec_l5Pieces.mono _ _)
   | (with_reducible exact LeO.refl _)
   | (with_reducible exact LeO.none _)
   | (with_reducible refine LeO.ite ?_ ?_)
   | (with_reducible refine LeO.bind ?_ (fun _ => ?_))
   | exact spec_l2Of.mono _ _
   | exact spec_l5Begins.mono _ _ _
   | exact spec_l5Named.mono _ _ _
   | exact spec_l5Pieces.mono _ _
   | exact LeO.none _
   | refine LeO.ite ?_ ?_
   | refine LeO.bind ?_ (fun _ => ?_)
set_option maxHeartbeats 8000000 in
set_option maxRecDepth 100000 in
theorem spec_l5Type.calls (k : Nat) (a0 : ByteArray) (r1 : Int) (r2 : Int) (r3 : Int) (r4 : Int) (r5 : Int) (r6 : Int) (r7 : Int) (w : World) (h : spec_l5Type.f k a0 = some (r1, r2, r3, r4, r5, r6, r7)) :
  Calls Tryd.prog 40 #[.string a0] w fun e w' => e = .returned (.agg #[.int .i64 r1, .int .i64 r2, .int .i64 r3, .int .i64 r4, .int .i64 r5, .int .i64 r6, .int .i64 r7]) ∧ Below w.heap.size w w' := by
 have hu23 := Tryd.underlying23
 have HB := aM (Below.refl w.heap.size w)
 have H : ((spec_l5Pieces.f k a0).bind fun t133 => (if (t133.length : Int) = 0 then (some (3, 0, 0, 0, 0, 0, 0)) else (if 0 < (t133.length : Int) then ((spec_l5Begins.f k (rdOf ByteArray.empty t133 0) (⟨#[109, 117, 108, 116, 105, 112, 97, 114, 116, 47]⟩ : ByteArray)).bind fun t137 => (if t137 = true then (some (2, 0, 0, 0, 0, 0, 0)) else ((spec_l5Begins.f k (rdOf ByteArray.empty t133 0) (⟨#[116, 101, 120, 116, 47]⟩ : ByteArray)).bind fun t139 => (if t139 = true then ((spec_l5Named.f k t133 (⟨#[99, 104, 97, 114, 115, 101, 116, 61]⟩ : ByteArray)).bind fun bt141 => (if bt141.2 = true then ((spec_l2Of.f k bt141.1).bind fun t143 => (some (1, t143, 0, 0, 0, 0, 0))) else (some (1, 1, 0, 0, 0, 0, 0)))) else (some (3, 0, 0, 0, 0, 0, 0)))))) else (none)))) = some (r1, r2, r3, r4, r5, r6, r7) := h
 clear h
 replace H := Option.bind_eq_some_iff.mp H
 obtain ⟨t133, A20, H⟩ := H
 replace H : (if (t133.length : Int) = 0 then (some (3, 0, 0, 0, 0, 0, 0)) else (if 0 < (t133.length : Int) then ((spec_l5Begins.f k (rdOf ByteArray.empty t133 0) (⟨#[109, 117, 108, 116, 105, 112, 97, 114, 116, 47]⟩ : ByteArray)).bind fun t137 => (if t137 = true then (some (2, 0, 0, 0, 0, 0, 0)) else ((spec_l5Begins.f k (rdOf ByteArray.empty t133 0) (⟨#[116, 101, 120, 116, 47]⟩ : ByteArray)).bind fun t139 => (if t139 = true then ((spec_l5Named.f k t133 (⟨#[99, 104, 97, 114, 115, 101, 116, 61]⟩ : ByteArray)).bind fun bt141 => (if bt141.2 = true then ((spec_l2Of.f k bt141.1).bind fun t143 => (some (1, t143, 0, 0, 0, 0, 0))) else (some (1, 1, 0, 0, 0, 0, 0)))) else (some (3, 0, 0, 0, 0, 0, 0)))))) else (none))) = some (r1, r2, r3, r4, r5, r6, r7) := H
 have A2 := aM A20
 clear A20
 have HQ_ := aM H
 clear H
 go_enter Tryd.func40, Tryd.ntmps40
 have H := HQ_.out
 clear HQ_
 by_cases c3 : (t133.length : Int) = 0
 ·rw [if_pos c3] at H
  have c3b0 : ((t133.length : Int) == 0) = true := beq_iff_eq.mpr c3
  have c3b1 : ((t133.length : Int) != 0) = false := bne_eq_false_iff_eq.mpr c3
  clear c3
  simp only [Option.some.injEq, Prod.mk.injEq] at H
  obtain ⟨rfl, rfl, rfl, rfl, rfl, rfl, rfl⟩ := H
  (try simp only [c3b0, c3b1])
  go_wp2_with (first | ((with_reducible refine gate_dst (N := 2) rfl ?_); refine box_event ?hg (N := 2) ?hd (cs := #[.int .i64 0, .int .i64 0, .int .i64 0, .int .i64 0, .int .i64 0, .int .i64 0, .int .i64 0]) (t := 23) ?hr ?_; (case hd => rfl); (case hg => rfl); (case hr => exact zz13); intro gb132 hg w4 hbox hb; have BK132 := aM (hbox); have GW132 := aM ((zz18 : w.heap.size ≤ gb132)); have GE132 := aM ((zz18 : w.heap.size ≤ gb132)); replace HB := aM (below_step bB hb); clear hb hbox hg) | ((with_reducible refine gate_callee (f := 73) rfl ?_); refine gL_ (some 8) Tryd.func73 #[.string a0] ?_; (with_reducible refine (spec_l5Pieces.calls k a0 t133 _ A2.out).mono ?_); rintro e w5 ⟨v134, rfl, ho0, hb⟩; refine ⟨_, rfl, ?_⟩; have HO135 := aM (Kd.R_lower ho0 (below_size (bG GE132))); replace BK132 := aM (blk_below (g := gb132) (o := .cells #[.int .i64 0, .int .i64 0, .int .i64 0, .int .i64 0, .int .i64 0, .int .i64 0, .int .i64 0] 23 (0, 0)) (bL BK132) hb); replace HB := aM (below_step (bG GE132) hb); (try clear ho0); obtain ⟨Ao6, co6, eo6⟩ := Kd.R_slice HO135.out; subst eo6; have hcz7_0 : w5.cell? ⟨gb132, 0, none⟩ = some (.int .i64 0) := (blk_cell BK132.out 0).trans rfl; have hcz7_1 : w5.cell? ⟨gb132, 1, none⟩ = some (.int .i64 0) := (blk_cell BK132.out 1).trans rfl; have hcz7_2 : w5.cell? ⟨gb132, 2, none⟩ = some (.int .i64 0) := (blk_cell BK132.out 2).trans rfl; have hcz7_3 : w5.cell? ⟨gb132, 3, none⟩ = some (.int .i64 0) := (blk_cell BK132.out 3).trans rfl; have hcz7_4 : w5.cell? ⟨gb132, 4, none⟩ = some (.int .i64 0) := (blk_cell BK132.out 4).trans rfl; have hcz7_5 : w5.cell? ⟨gb132, 5, none⟩ = some (.int .i64 0) := (blk_cell BK132.out 5).trans rfl; have hcz7_6 : w5.cell? ⟨gb132, 6, none⟩ = some (.int .i64 0) := (blk_cell BK132.out 6).trans rfl; have hfz7_0 := blk_frozen BK132.out 0; have hfz7_1 := blk_frozen BK132.out 1; have hfz7_2 := blk_frozen BK132.out 2; have hfz7_3 := blk_frozen BK132.out 3; have hfz7_4 := blk_frozen BK132.out 4; have hfz7_5 := blk_frozen BK132.out 5; have hfz7_6 := blk_frozen BK132.out 6))
  refine bodyPost_ret (results_cell_row rfl _ _ gb132 23 #[.int .i64 3, .int .i64 0, .int .i64 0, .int .i64 0, .int .i64 0, .int .i64 0, .int .i64 0] (0, 0) _ rfl (zz3 BK132.out) Tryd.underlying23 rfl (by kernel_rfl)) rfl ?_
  exact ⟨bE, bG GE132⟩
 rw [if_neg c3] at H
 have c3b0 : ((t133.length : Int) == 0) = false := beq_eq_false_iff_ne.mpr c3
 have c3b1 : ((t133.length : Int) != 0) = true := bne_iff_ne.mpr c3
 have c3b2 : ¬ (t133 = []) := fun h_ => c3 (by rw [h_]; rfl)
 (try simp only [c3b0, c3b1, c3b2])
 by_cases c8 : 0 < (t133.length : Int)
 ·rw [if_pos c8] at H
  have c8b0 : decide (0 < (t133.length : Int)) = true := decide_eq_true c8
  have c8b1 : decide (0 < t133.length) = true := decide_eq_true (by omega)
  clear c8
  replace H := Option.bind_eq_some_iff.mp H
  obtain ⟨t137, A90, H⟩ := H
  replace H : (if t137 = true then (some (2, 0, 0, 0, 0, 0, 0)) else ((spec_l5Begins.f k (rdOf ByteArray.empty t133 0) (⟨#[116, 101, 120, 116, 47]⟩ : ByteArray)).bind fun t139 => (if t139 = true then ((spec_l5Named.f k t133 (⟨#[99, 104, 97, 114, 115, 101, 116, 61]⟩ : ByteArray)).bind fun bt141 => (if bt141.2 = true then ((spec_l2Of.f k bt141.1).bind fun t143 => (some (1, t143, 0, 0, 0, 0, 0))) else (some (1, 1, 0, 0, 0, 0, 0)))) else (some (3, 0, 0, 0, 0, 0, 0))))) = some (r1, r2, r3, r4, r5, r6, r7) := H
  have A9 := aM A90
  clear A90
  by_cases c10 : t137 = true
  ·subst c10
   have H1 : (some (2, 0, 0, 0, 0, 0, 0)) = some (r1, r2, r3, r4, r5, r6, r7) := zz29
   clear H
   have H := H1
   clear H1
   simp only [Option.some.injEq, Prod.mk.injEq] at H
   obtain ⟨rfl, rfl, rfl, rfl, rfl, rfl, rfl⟩ := H
   go_wp2_with (first | ((with_reducible refine gate_dst (N := 2) rfl ?_); refine box_event ?hg (N := 2) ?hd (cs := #[.int .i64 0, .int .i64 0, .int .i64 0, .int .i64 0, .int .i64 0, .int .i64 0, .int .i64 0]) (t := 23) ?hr ?_; (case hd => rfl); (case hg => rfl); (case hr => exact zz13); intro gb132 hg w11 hbox hb; have BK132 := aM (hbox); have GW132 := aM ((zz18 : w.heap.size ≤ gb132)); have GE132 := aM ((zz18 : w.heap.size ≤ gb132)); replace HB := aM (below_step bB hb); clear hb hbox hg) | ((with_reducible refine gate_callee (f := 73) rfl ?_); refine gL_ (some 8) Tryd.func73 #[.string a0] ?_; (with_reducible refine (spec_l5Pieces.calls k a0 t133 _ A2.out).mono ?_); rintro e w12 ⟨v134, rfl, ho0, hb⟩; refine ⟨_, rfl, ?_⟩; have HO135 := aM (Kd.R_lower ho0 (below_size (bG GE132))); replace BK132 := aM (blk_below (g := gb132) (o := .cells #[.int .i64 0, .int .i64 0, .int .i64 0, .int .i64 0, .int .i64 0, .int .i64 0, .int .i64 0] 23 (0, 0)) (bL BK132) hb); replace HB := aM (below_step (bG GE132) hb); (try clear ho0); obtain ⟨Ao13, co13, eo13⟩ := Kd.R_slice HO135.out; subst eo13; have p136 : 0 ≤ (0 : Int) := (by omega); have q136 : 0 < (t133.length : Int) := pI; obtain ⟨ad136, e136, hx136_0⟩ := Kd.at_string (Kd.R_reads' HO135.out).2.2 0 p136 q136; cases e136; have qi136 : (0 < t133.length) = True := eq_true (by omega); (try rw [show ((0 : Int)).toNat = 0 from rfl] at hx136_0); (try rw [Addr.add_zero'] at hx136_0); replace p136 := eq_true p136; replace q136 := eq_true q136) | ((with_reducible refine gate_callee (f := 74) rfl ?_); refine gL_ (some 16) Tryd.func74 #[.string (rdOf ByteArray.empty t133 0), .string (⟨#[109, 117, 108, 116, 105, 112, 97, 114, 116, 47]⟩ : ByteArray)] ?_; (with_reducible refine (spec_l5Begins.calls k (rdOf ByteArray.empty t133 0) (⟨#[109, 117, 108, 116, 105, 112, 97, 114, 116, 47]⟩ : ByteArray) true _ A9.out).mono ?_); rintro e w14 ⟨rfl, hb⟩; refine ⟨_, rfl, ?_⟩; replace HO135 := aM (Kd.R_below (bR HO135) hb); replace BK132 := aM (blk_below (g := gb132) (o := .cells #[.int .i64 0, .int .i64 0, .int .i64 0, .int .i64 0, .int .i64 0, .int .i64 0, .int .i64 0] 23 (0, 0)) (bL BK132) hb); replace HB := aM (below_step (bG GE132) hb); have hcz15_0 : w14.cell? ⟨gb132, 0, none⟩ = some (.int .i64 0) := (blk_cell BK132.out 0).trans rfl; have hcz15_1 : w14.cell? ⟨gb132, 1, none⟩ = some (.int .i64 0) := (blk_cell BK132.out 1).trans rfl; have hcz15_2 : w14.cell? ⟨gb132, 2, none⟩ = some (.int .i64 0) := (blk_cell BK132.out 2).trans rfl; have hcz15_3 : w14.cell? ⟨gb132, 3, none⟩ = some (.int .i64 0) := (blk_cell BK132.out 3).trans rfl; have hcz15_4 : w14.cell? ⟨gb132, 4, none⟩ = some (.int .i64 0) := (blk_cell BK132.out 4).trans rfl; have hcz15_5 : w14.cell? ⟨gb132, 5, none⟩ = some (.int .i64 0) := (blk_cell BK132.out 5).trans rfl; have hcz15_6 : w14.cell? ⟨gb132, 6, none⟩ = some (.int .i64 0) := (blk_cell BK132.out 6).trans rfl; have hfz15_0 := blk_frozen BK132.out 0; have hfz15_1 := blk_frozen BK132.out 1; have hfz15_2 := blk_frozen BK132.out 2; have hfz15_3 := blk_frozen BK132.out 3; have hfz15_4 := blk_frozen BK132.out 4; have hfz15_5 := blk_frozen BK132.out 5; have hfz15_6 := blk_frozen BK132.out 6))
   refine bodyPost_ret (results_cell_row rfl _ _ gb132 23 #[.int .i64 2, .int .i64 0, .int .i64 0, .int .i64 0, .int .i64 0, .int .i64 0, .int .i64 0] (0, 0) _ rfl (by (with_reducible repeat (first | refine blk_drewN ?_ _ | refine blk_drew ?_ | refine blk_alloc ?_ _)); refine blk_put (cs := #[.int .i64 2, .int .i64 0, .int .i64 0, .int .i64 0, .int .i64 0, .int .i64 0, .int .i64 0]) ?_ 6 _ rfl; (with_reducible repeat (first | refine blk_drewN ?_ _ | refine blk_drew ?_ | refine blk_alloc ?_ _)); refine blk_put (cs := #[.int .i64 2, .int .i64 0, .int .i64 0, .int .i64 0, .int .i64 0, .int .i64 0, .int .i64 0]) ?_ 5 _ rfl; (with_reducible repeat (first | refine blk_drewN ?_ _ | refine blk_drew ?_ | refine blk_alloc ?_ _)); refine blk_put (cs := #[.int .i64 2, .int .i64 0, .int .i64 0, .int .i64 0, .int .i64 0, .int .i64 0, .int .i64 0]) ?_ 4 _ rfl; (with_reducible repeat (first | refine blk_drewN ?_ _ | refine blk_drew ?_ | refine blk_alloc ?_ _)); refine blk_put (cs := #[.int .i64 2, .int .i64 0, .int .i64 0, .int .i64 0, .int .i64 0, .int .i64 0, .int .i64 0]) ?_ 3 _ rfl; (with_reducible repeat (first | refine blk_drewN ?_ _ | refine blk_drew ?_ | refine blk_alloc ?_ _)); refine blk_put (cs := #[.int .i64 2, .int .i64 0, .int .i64 0, .int .i64 0, .int .i64 0, .int .i64 0, .int .i64 0]) ?_ 2 _ rfl; (with_reducible repeat (first | refine blk_drewN ?_ _ | refine blk_drew ?_ | refine blk_alloc ?_ _)); refine blk_put (cs := #[.int .i64 2, .int .i64 0, .int .i64 0, .int .i64 0, .int .i64 0, .int .i64 0, .int .i64 0]) ?_ 1 _ rfl; (with_reducible repeat (first | refine blk_drewN ?_ _ | refine blk_drew ?_ | refine blk_alloc ?_ _)); refine blk_put (cs := #[.int .i64 0, .int .i64 0, .int .i64 0, .int .i64 0, .int .i64 0, .int .i64 0, .int .i64 0]) ?_ 0 _ rfl; (with_reducible repeat (first | refine blk_drewN ?_ _ | refine blk_drew ?_ | refine blk_alloc ?_ _)); exact BK132.out) Tryd.underlying23 rfl (by kernel_rfl)) rfl ?_
   exact ⟨bE, bG GE132⟩
  replace c10 := Bool.eq_false_iff.mpr c10
  subst c10
  have H1 : ((spec_l5Begins.f k (rdOf ByteArray.empty t133 0) (⟨#[116, 101, 120, 116, 47]⟩ : ByteArray)).bind fun t139 => (if t139 = true then ((spec_l5Named.f k t133 (⟨#[99, 104, 97, 114, 115, 101, 116, 61]⟩ : ByteArray)).bind fun bt141 => (if bt141.2 = true then ((spec_l2Of.f k bt141.1).bind fun t143 => (some (1, t143, 0, 0, 0, 0, 0))) else (some (1, 1, 0, 0, 0, 0, 0)))) else (some (3, 0, 0, 0, 0, 0, 0)))) = some (r1, r2, r3, r4, r5, r6, r7) := zz15
  clear H
  have H := H1
  clear H1
  replace H := Option.bind_eq_some_iff.mp H
  obtain ⟨t139, A160, H⟩ := H
  replace H : (if t139 = true then ((spec_l5Named.f k t133 (⟨#[99, 104, 97, 114, 115, 101, 116, 61]⟩ : ByteArray)).bind fun bt141 => (if bt141.2 = true then ((spec_l2Of.f k bt141.1).bind fun t143 => (some (1, t143, 0, 0, 0, 0, 0))) else (some (1, 1, 0, 0, 0, 0, 0)))) else (some (3, 0, 0, 0, 0, 0, 0))) = some (r1, r2, r3, r4, r5, r6, r7) := H
  have A16 := aM A160
  clear A160
  by_cases c17 : t139 = true
  ·subst c17
   have H1 : ((spec_l5Named.f k t133 (⟨#[99, 104, 97, 114, 115, 101, 116, 61]⟩ : ByteArray)).bind fun bt141 => (if bt141.2 = true then ((spec_l2Of.f k bt141.1).bind fun t143 => (some (1, t143, 0, 0, 0, 0, 0))) else (some (1, 1, 0, 0, 0, 0, 0)))) = some (r1, r2, r3, r4, r5, r6, r7) := zz29
   clear H
   have H := H1
   clear H1
   replace H := Option.bind_eq_some_iff.mp H
   obtain ⟨⟨t141, t142⟩, A180, H⟩ := H
   replace H : (if t142 = true then ((spec_l2Of.f k t141).bind fun t143 => (some (1, t143, 0, 0, 0, 0, 0))) else (some (1, 1, 0, 0, 0, 0, 0))) = some (r1, r2, r3, r4, r5, r6, r7) := H
   have A18 := aM A180
   clear A180
   by_cases c19 : t142 = true
   ·subst c19
    have H1 : ((spec_l2Of.f k t141).bind fun t143 => (some (1, t143, 0, 0, 0, 0, 0))) = some (r1, r2, r3, r4, r5, r6, r7) := zz29
    clear H
    have H := H1
    clear H1
    replace H := Option.bind_eq_some_iff.mp H
    obtain ⟨t143, A200, H⟩ := H
    replace H : (some (1, t143, 0, 0, 0, 0, 0)) = some (r1, r2, r3, r4, r5, r6, r7) := H
    have A20 := aM A200
    clear A200
    simp only [Option.some.injEq, Prod.mk.injEq] at H
    obtain ⟨rfl, rfl, rfl, rfl, rfl, rfl, rfl⟩ := H
    go_wp2_with (first | ((with_reducible refine gate_dst (N := 2) rfl ?_); refine box_event ?hg (N := 2) ?hd (cs := #[.int .i64 0, .int .i64 0, .int .i64 0, .int .i64 0, .int .i64 0, .int .i64 0, .int .i64 0]) (t := 23) ?hr ?_; (case hd => rfl); (case hg => rfl); (case hr => exact zz13); intro gb132 hg w21 hbox hb; have BK132 := aM (hbox); have GW132 := aM ((zz18 : w.heap.size ≤ gb132)); have GE132 := aM ((zz18 : w.heap.size ≤ gb132)); replace HB := aM (below_step bB hb); clear hb hbox hg) | ((with_reducible refine gate_callee (f := 73) rfl ?_); refine gL_ (some 8) Tryd.func73 #[.string a0] ?_; (with_reducible refine (spec_l5Pieces.calls k a0 t133 _ A2.out).mono ?_); rintro e w22 ⟨v134, rfl, ho0, hb⟩; refine ⟨_, rfl, ?_⟩; have HO135 := aM (Kd.R_lower ho0 (below_size (bG GE132))); replace BK132 := aM (blk_below (g := gb132) (o := .cells #[.int .i64 0, .int .i64 0, .int .i64 0, .int .i64 0, .int .i64 0, .int .i64 0, .int .i64 0] 23 (0, 0)) (bL BK132) hb); replace HB := aM (below_step (bG GE132) hb); (try clear ho0); obtain ⟨Ao23, co23, eo23⟩ := Kd.R_slice HO135.out; subst eo23; have p136 : 0 ≤ (0 : Int) := (by omega); have q136 : 0 < (t133.length : Int) := pI; obtain ⟨ad136, e136, hx136_0⟩ := Kd.at_string (Kd.R_reads' HO135.out).2.2 0 p136 q136; cases e136; have qi136 : (0 < t133.length) = True := eq_true (by omega); (try rw [show ((0 : Int)).toNat = 0 from rfl] at hx136_0); (try rw [Addr.add_zero'] at hx136_0); replace p136 := eq_true p136; replace q136 := eq_true q136) | ((with_reducible refine gate_callee (f := 74) rfl ?_); refine gL_ (some 16) Tryd.func74 #[.string (rdOf ByteArray.empty t133 0), .string (⟨#[109, 117, 108, 116, 105, 112, 97, 114, 116, 47]⟩ : ByteArray)] ?_; (with_reducible refine (spec_l5Begins.calls k (rdOf ByteArray.empty t133 0) (⟨#[109, 117, 108, 116, 105, 112, 97, 114, 116, 47]⟩ : ByteArray) false _ A9.out).mono ?_); rintro e w24 ⟨rfl, hb⟩; refine ⟨_, rfl, ?_⟩; replace HO135 := aM (Kd.R_below (bR HO135) hb); replace BK132 := aM (blk_below (g := gb132) (o := .cells #[.int .i64 0, .int .i64 0, .int .i64 0, .int .i64 0, .int .i64 0, .int .i64 0, .int .i64 0] 23 (0, 0)) (bL BK132) hb); replace HB := aM (below_step (bG GE132) hb); have p138 : 0 ≤ (0 : Int) := (by omega); have q138 : 0 < (t133.length : Int) := pI; obtain ⟨ad138, e138, hx138_0⟩ := Kd.at_string (Kd.R_reads' HO135.out).2.2 0 p138 q138; obtain rfl : ad136 = ad138 := (by injection e138); have qi138 : (0 < t133.length) = True := eq_true (by omega); (try rw [show ((0 : Int)).toNat = 0 from rfl] at hx138_0); (try rw [Addr.add_zero'] at hx138_0); replace p138 := eq_true p138; replace q138 := eq_true q138) | ((with_reducible refine gate_callee (f := 74) rfl ?_); refine gL_ (some 21) Tryd.func74 #[.string (rdOf ByteArray.empty t133 0), .string (⟨#[116, 101, 120, 116, 47]⟩ : ByteArray)] ?_; (with_reducible refine (spec_l5Begins.calls k (rdOf ByteArray.empty t133 0) (⟨#[116, 101, 120, 116, 47]⟩ : ByteArray) true _ A16.out).mono ?_); rintro e w25 ⟨rfl, hb⟩; refine ⟨_, rfl, ?_⟩; replace HO135 := aM (Kd.R_below (bR HO135) hb); replace BK132 := aM (blk_below (g := gb132) (o := .cells #[.int .i64 0, .int .i64 0, .int .i64 0, .int .i64 0, .int .i64 0, .int .i64 0, .int .i64 0] 23 (0, 0)) (bL BK132) hb); replace HB := aM (below_step (bG GE132) hb); (try clear hi)) | ((with_reducible refine gate_dst (N := 4) rfl ?_); refine box_event ?hg (N := 4) ?hd (cs := #[.int .i64 0, .int .i64 0, .int .i64 0, .int .i64 0, .int .i64 0, .int .i64 0, .int .i64 0]) (t := 23) ?hr ?_; (case hd => rfl); (case hg => rfl); (case hr => exact zz13); intro gb140 hg w26 hbox hb; replace HO135 := aM (Kd.R_below (bR HO135) hb); have BK140 := aM (hbox); have GW140 := aM ((by rw [hg]; exact (below_size (bG GE132)) : w.heap.size ≤ gb140)); have GE140 := aM ((by rw [hg]; exact (below_size (bG GE132)) : w.heap.size ≤ gb140)); replace HB := aM (below_step (bG GE132) hb); have NB132_140 := aM ((by rw [hg]; exact Nat.ne_of_lt (blk_lt (g := gb132) (o := .cells #[.int .i64 0, .int .i64 0, .int .i64 0, .int .i64 0, .int .i64 0, .int .i64 0, .int .i64 0] 23 (0, 0)) (bL BK132)) : gb132 ≠ gb140)); have NB140_132 := aM ((by rw [hg]; exact Nat.ne_of_gt (blk_lt (g := gb132) (o := .cells #[.int .i64 0, .int .i64 0, .int .i64 0, .int .i64 0, .int .i64 0, .int .i64 0, .int .i64 0] 23 (0, 0)) (bL BK132)) : gb140 ≠ gb132)); replace BK132 := aM (blk_below (g := gb132) (o := .cells #[.int .i64 0, .int .i64 0, .int .i64 0, .int .i64 0, .int .i64 0, .int .i64 0, .int .i64 0] 23 (0, 0)) (bL BK132) hb); clear hb hbox hg; have hnb27 := NB140_132.out; have hnc27 := NB132_140.out; have hcz28_0 : w26.cell? ⟨gb140, 0, none⟩ = some (.int .i64 0) := (blk_cell BK140.out 0).trans rfl; have hcz28_1 : w26.cell? ⟨gb140, 1, none⟩ = some (.int .i64 0) := (blk_cell BK140.out 1).trans rfl; have hcz28_2 : w26.cell? ⟨gb140, 2, none⟩ = some (.int .i64 0) := (blk_cell BK140.out 2).trans rfl; have hcz28_3 : w26.cell? ⟨gb140, 3, none⟩ = some (.int .i64 0) := (blk_cell BK140.out 3).trans rfl; have hcz28_4 : w26.cell? ⟨gb140, 4, none⟩ = some (.int .i64 0) := (blk_cell BK140.out 4).trans rfl; have hcz28_5 : w26.cell? ⟨gb140, 5, none⟩ = some (.int .i64 0) := (blk_cell BK140.out 5).trans rfl; have hcz28_6 : w26.cell? ⟨gb140, 6, none⟩ = some (.int .i64 0) := (blk_cell BK140.out 6).trans rfl; have hfz28_0 := blk_frozen BK140.out 0; have hfz28_1 := blk_frozen BK140.out 1; have hfz28_2 := blk_frozen BK140.out 2; have hfz28_3 := blk_frozen BK140.out 3; have hfz28_4 := blk_frozen BK140.out 4; have hfz28_5 := blk_frozen BK140.out 5; have hfz28_6 := blk_frozen BK140.out 6) | ((with_reducible refine gate_callee (f := 75) rfl ?_); refine gL_ (some 27) Tryd.func75 #[.slice (some ad136) t133.length co23, .string (⟨#[99, 104, 97, 114, 115, 101, 116, 61]⟩ : ByteArray)] ?_; (with_reducible refine (spec_l5Named.calls k _ _ t133 (⟨#[99, 104, 97, 114, 115, 101, 116, 61]⟩ : ByteArray) t141 true _ ?side1 ?side2 A18.out).mono ?_); (case side1 => refine (Kd.R_reads' (e := 9) (base := w.heap.size) (ok := fun k_ => True) (n := t133.length) (c := co23) ?_).2.2; exact (zz11 HO135.out BK140.out)); (case side2 => exact (Kd.R_reads' HO135.out).2.1); rintro e w29 ⟨rfl, hb⟩; refine ⟨_, rfl, ?_⟩; replace HO135 := aM (Kd.R_below (zz11 HO135.out BK140.out) hb); replace BK132 := aM (blk_below (g := gb132) (o := .cells #[.int .i64 0, .int .i64 0, .int .i64 0, .int .i64 0, .int .i64 0, .int .i64 0, .int .i64 0] 23 (0, 0)) (zz1 NB132_140.out BK132.out) hb); replace BK140 := aM (blk_below (g := gb140) (o := .cells #[.int .i64 1, .int .i64 1, .int .i64 0, .int .i64 0, .int .i64 0, .int .i64 0, .int .i64 0] 23 (0, 0)) (zz0 BK140.out) hb); replace HB := aM (below_step (bG2 GE132 GE140) hb); (try clear hi)) | ((with_reducible refine gate_callee (f := 76) rfl ?_); refine gL_ (some 32) Tryd.func76 #[.string t141] ?_; (with_reducible refine (spec_l2Of.calls k t141 t143 _ A20.out).mono ?_); rintro e w30 ⟨rfl, hb⟩; refine ⟨_, rfl, ?_⟩; replace HO135 := aM (Kd.R_below (bR HO135) hb); replace BK132 := aM (blk_below (g := gb132) (o := .cells #[.int .i64 0, .int .i64 0, .int .i64 0, .int .i64 0, .int .i64 0, .int .i64 0, .int .i64 0] 23 (0, 0)) (bL BK132) hb); replace BK140 := aM (blk_below (g := gb140) (o := .cells #[.int .i64 1, .int .i64 1, .int .i64 0, .int .i64 0, .int .i64 0, .int .i64 0, .int .i64 0] 23 (0, 0)) (bL BK140) hb); replace HB := aM (below_step (bG2 GE132 GE140) hb); have hcz31_0 : w30.cell? ⟨gb140, 0, none⟩ = some (.int .i64 1) := (blk_cell BK140.out 0).trans rfl; have hcz31_1 : w30.cell? ⟨gb140, 1, none⟩ = some (.int .i64 1) := (blk_cell BK140.out 1).trans rfl; have hcz31_2 : w30.cell? ⟨gb140, 2, none⟩ = some (.int .i64 0) := (blk_cell BK140.out 2).trans rfl; have hcz31_3 : w30.cell? ⟨gb140, 3, none⟩ = some (.int .i64 0) := (blk_cell BK140.out 3).trans rfl; have hcz31_4 : w30.cell? ⟨gb140, 4, none⟩ = some (.int .i64 0) := (blk_cell BK140.out 4).trans rfl; have hcz31_5 : w30.cell? ⟨gb140, 5, none⟩ = some (.int .i64 0) := (blk_cell BK140.out 5).trans rfl; have hcz31_6 : w30.cell? ⟨gb140, 6, none⟩ = some (.int .i64 0) := (blk_cell BK140.out 6).trans rfl; have hfz31_0 := blk_frozen BK140.out 0; have hfz31_1 := blk_frozen BK140.out 1; have hfz31_2 := blk_frozen BK140.out 2; have hfz31_3 := blk_frozen BK140.out 3; have hfz31_4 := blk_frozen BK140.out 4; have hfz31_5 := blk_frozen BK140.out 5; have hfz31_6 := blk_frozen BK140.out 6; have hcz32_0 : w30.cell? ⟨gb132, 0, none⟩ = some (.int .i64 0) := (blk_cell BK132.out 0).trans rfl; have hcz32_1 : w30.cell? ⟨gb132, 1, none⟩ = some (.int .i64 0) := (blk_cell BK132.out 1).trans rfl; have hcz32_2 : w30.cell? ⟨gb132, 2, none⟩ = some (.int .i64 0) := (blk_cell BK132.out 2).trans rfl; have hcz32_3 : w30.cell? ⟨gb132, 3, none⟩ = some (.int .i64 0) := (blk_cell BK132.out 3).trans rfl; have hcz32_4 : w30.cell? ⟨gb132, 4, none⟩ = some (.int .i64 0) := (blk_cell BK132.out 4).trans rfl; have hcz32_5 : w30.cell? ⟨gb132, 5, none⟩ = some (.int .i64 0) := (blk_cell BK132.out 5).trans rfl; have hcz32_6 : w30.cell? ⟨gb132, 6, none⟩ = some (.int .i64 0) := (blk_cell BK132.out 6).trans rfl; have hfz32_0 := blk_frozen BK132.out 0; have hfz32_1 := blk_frozen BK132.out 1; have hfz32_2 := blk_frozen BK132.out 2; have hfz32_3 := blk_frozen BK132.out 3; have hfz32_4 := blk_frozen BK132.out 4; have hfz32_5 := blk_frozen BK132.out 5; have hfz32_6 := blk_frozen BK132.out 6))
    refine bodyPost_ret (results_cell_row rfl _ _ gb132 23 #[.int .i64 1, .int .i64 t143, .int .i64 0, .int .i64 0, .int .i64 0, .int .i64 0, .int .i64 0] (0, 0) _ rfl (by (with_reducible repeat (first | refine blk_drewN ?_ _ | refine blk_drew ?_ | refine blk_alloc ?_ _)); refine blk_put (cs := #[.int .i64 1, .int .i64 t143, .int .i64 0, .int .i64 0, .int .i64 0, .int .i64 0, .int .i64 0]) ?_ 6 _ rfl; (with_reducible repeat (first | refine blk_drewN ?_ _ | refine blk_drew ?_ | refine blk_alloc ?_ _)); refine blk_put (cs := #[.int .i64 1, .int .i64 t143, .int .i64 0, .int .i64 0, .int .i64 0, .int .i64 0, .int .i64 0]) ?_ 5 _ rfl; (with_reducible repeat (first | refine blk_drewN ?_ _ | refine blk_drew ?_ | refine blk_alloc ?_ _)); refine blk_put (cs := #[.int .i64 1, .int .i64 t143, .int .i64 0, .int .i64 0, .int .i64 0, .int .i64 0, .int .i64 0]) ?_ 4 _ rfl; (with_reducible repeat (first | refine blk_drewN ?_ _ | refine blk_drew ?_ | refine blk_alloc ?_ _)); refine blk_put (cs := #[.int .i64 1, .int .i64 t143, .int .i64 0, .int .i64 0, .int .i64 0, .int .i64 0, .int .i64 0]) ?_ 3 _ rfl; (with_reducible repeat (first | refine blk_drewN ?_ _ | refine blk_drew ?_ | refine blk_alloc ?_ _)); refine blk_put (cs := #[.int .i64 1, .int .i64 t143, .int .i64 0, .int .i64 0, .int .i64 0, .int .i64 0, .int .i64 0]) ?_ 2 _ rfl; (with_reducible repeat (first | refine blk_drewN ?_ _ | refine blk_drew ?_ | refine blk_alloc ?_ _)); refine blk_put (cs := #[.int .i64 1, .int .i64 0, .int .i64 0, .int .i64 0, .int .i64 0, .int .i64 0, .int .i64 0]) ?_ 1 _ rfl; (with_reducible repeat (first | refine blk_drewN ?_ _ | refine blk_drew ?_ | refine blk_alloc ?_ _)); refine blk_put (cs := #[.int .i64 0, .int .i64 0, .int .i64 0, .int .i64 0, .int .i64 0, .int .i64 0, .int .i64 0]) ?_ 0 _ rfl; (with_reducible repeat (first | refine blk_drewN ?_ _ | refine blk_drew ?_ | refine blk_alloc ?_ _)); refine blk_far ?_ NB132_140.out _; (with_reducible repeat (first | refine blk_drewN ?_ _ | refine blk_drew ?_ | refine blk_alloc ?_ _)); exact BK132.out) Tryd.underlying23 rfl (by kernel_rfl)) rfl ?_
    exact ⟨bE, bG2 GE132 GE140⟩
   replace c19 := Bool.eq_false_iff.mpr c19
   subst c19
   have H1 : (some (1, 1, 0, 0, 0, 0, 0)) = some (r1, r2, r3, r4, r5, r6, r7) := zz15
   clear H
   have H := H1
   clear H1
   simp only [Option.some.injEq, Prod.mk.injEq] at H
   obtain ⟨rfl, rfl, rfl, rfl, rfl, rfl, rfl⟩ := H
   go_wp2_with (first | ((with_reducible refine gate_dst (N := 2) rfl ?_); refine box_event ?hg (N := 2) ?hd (cs := #[.int .i64 0, .int .i64 0, .int .i64 0, .int .i64 0, .int .i64 0, .int .i64 0, .int .i64 0]) (t := 23) ?hr ?_; (case hd => rfl); (case hg => rfl); (case hr => exact zz13); intro gb132 hg w33 hbox hb; have BK132 := aM (hbox); have GW132 := aM ((zz18 : w.heap.size ≤ gb132)); have GE132 := aM ((zz18 : w.heap.size ≤ gb132)); replace HB := aM (below_step bB hb); clear hb hbox hg) | ((with_reducible refine gate_callee (f := 73) rfl ?_); refine gL_ (some 8) Tryd.func73 #[.string a0] ?_; (with_reducible refine (spec_l5Pieces.calls k a0 t133 _ A2.out).mono ?_); rintro e w34 ⟨v134, rfl, ho0, hb⟩; refine ⟨_, rfl, ?_⟩; have HO135 := aM (Kd.R_lower ho0 (below_size (bG GE132))); replace BK132 := aM (blk_below (g := gb132) (o := .cells #[.int .i64 0, .int .i64 0, .int .i64 0, .int .i64 0, .int .i64 0, .int .i64 0, .int .i64 0] 23 (0, 0)) (bL BK132) hb); replace HB := aM (below_step (bG GE132) hb); (try clear ho0); obtain ⟨Ao35, co35, eo35⟩ := Kd.R_slice HO135.out; subst eo35; have p136 : 0 ≤ (0 : Int) := (by omega); have q136 : 0 < (t133.length : Int) := pI; obtain ⟨ad136, e136, hx136_0⟩ := Kd.at_string (Kd.R_reads' HO135.out).2.2 0 p136 q136; cases e136; have qi136 : (0 < t133.length) = True := eq_true (by omega); (try rw [show ((0 : Int)).toNat = 0 from rfl] at hx136_0); (try rw [Addr.add_zero'] at hx136_0); replace p136 := eq_true p136; replace q136 := eq_true q136) | ((with_reducible refine gate_callee (f := 74) rfl ?_); refine gL_ (some 16) Tryd.func74 #[.string (rdOf ByteArray.empty t133 0), .string (⟨#[109, 117, 108, 116, 105, 112, 97, 114, 116, 47]⟩ : ByteArray)] ?_; (with_reducible refine (spec_l5Begins.calls k (rdOf ByteArray.empty t133 0) (⟨#[109, 117, 108, 116, 105, 112, 97, 114, 116, 47]⟩ : ByteArray) false _ A9.out).mono ?_); rintro e w36 ⟨rfl, hb⟩; refine ⟨_, rfl, ?_⟩; replace HO135 := aM (Kd.R_below (bR HO135) hb); replace BK132 := aM (blk_below (g := gb132) (o := .cells #[.int .i64 0, .int .i64 0, .int .i64 0, .int .i64 0, .int .i64 0, .int .i64 0, .int .i64 0] 23 (0, 0)) (bL BK132) hb); replace HB := aM (below_step (bG GE132) hb); have p138 : 0 ≤ (0 : Int) := (by omega); have q138 : 0 < (t133.length : Int) := pI; obtain ⟨ad138, e138, hx138_0⟩ := Kd.at_string (Kd.R_reads' HO135.out).2.2 0 p138 q138; obtain rfl : ad136 = ad138 := (by injection e138); have qi138 : (0 < t133.length) = True := eq_true (by omega); (try rw [show ((0 : Int)).toNat = 0 from rfl] at hx138_0); (try rw [Addr.add_zero'] at hx138_0); replace p138 := eq_true p138; replace q138 := eq_true q138) | ((with_reducible refine gate_callee (f := 74) rfl ?_); refine gL_ (some 21) Tryd.func74 #[.string (rdOf ByteArray.empty t133 0), .string (⟨#[116, 101, 120, 116, 47]⟩ : ByteArray)] ?_; (with_reducible refine (spec_l5Begins.calls k (rdOf ByteArray.empty t133 0) (⟨#[116, 101, 120, 116, 47]⟩ : ByteArray) true _ A16.out).mono ?_); rintro e w37 ⟨rfl, hb⟩; refine ⟨_, rfl, ?_⟩; replace HO135 := aM (Kd.R_below (bR HO135) hb); replace BK132 := aM (blk_below (g := gb132) (o := .cells #[.int .i64 0, .int .i64 0, .int .i64 0, .int .i64 0, .int .i64 0, .int .i64 0, .int .i64 0] 23 (0, 0)) (bL BK132) hb); replace HB := aM (below_step (bG GE132) hb); (try clear hi)) | ((with_reducible refine gate_dst (N := 4) rfl ?_); refine box_event ?hg (N := 4) ?hd (cs := #[.int .i64 0, .int .i64 0, .int .i64 0, .int .i64 0, .int .i64 0, .int .i64 0, .int .i64 0]) (t := 23) ?hr ?_; (case hd => rfl); (case hg => rfl); (case hr => exact zz13); intro gb140 hg w38 hbox hb; replace HO135 := aM (Kd.R_below (bR HO135) hb); have BK140 := aM (hbox); have GW140 := aM ((by rw [hg]; exact (below_size (bG GE132)) : w.heap.size ≤ gb140)); have GE140 := aM ((by rw [hg]; exact (below_size (bG GE132)) : w.heap.size ≤ gb140)); replace HB := aM (below_step (bG GE132) hb); have NB132_140 := aM ((by rw [hg]; exact Nat.ne_of_lt (blk_lt (g := gb132) (o := .cells #[.int .i64 0, .int .i64 0, .int .i64 0, .int .i64 0, .int .i64 0, .int .i64 0, .int .i64 0] 23 (0, 0)) (bL BK132)) : gb132 ≠ gb140)); have NB140_132 := aM ((by rw [hg]; exact Nat.ne_of_gt (blk_lt (g := gb132) (o := .cells #[.int .i64 0, .int .i64 0, .int .i64 0, .int .i64 0, .int .i64 0, .int .i64 0, .int .i64 0] 23 (0, 0)) (bL BK132)) : gb140 ≠ gb132)); replace BK132 := aM (blk_below (g := gb132) (o := .cells #[.int .i64 0, .int .i64 0, .int .i64 0, .int .i64 0, .int .i64 0, .int .i64 0, .int .i64 0] 23 (0, 0)) (bL BK132) hb); clear hb hbox hg; have hnb39 := NB140_132.out; have hnc39 := NB132_140.out; have hcz40_0 : w38.cell? ⟨gb140, 0, none⟩ = some (.int .i64 0) := (blk_cell BK140.out 0).trans rfl; have hcz40_1 : w38.cell? ⟨gb140, 1, none⟩ = some (.int .i64 0) := (blk_cell BK140.out 1).trans rfl; have hcz40_2 : w38.cell? ⟨gb140, 2, none⟩ = some (.int .i64 0) := (blk_cell BK140.out 2).trans rfl; have hcz40_3 : w38.cell? ⟨gb140, 3, none⟩ = some (.int .i64 0) := (blk_cell BK140.out 3).trans rfl; have hcz40_4 : w38.cell? ⟨gb140, 4, none⟩ = some (.int .i64 0) := (blk_cell BK140.out 4).trans rfl; have hcz40_5 : w38.cell? ⟨gb140, 5, none⟩ = some (.int .i64 0) := (blk_cell BK140.out 5).trans rfl; have hcz40_6 : w38.cell? ⟨gb140, 6, none⟩ = some (.int .i64 0) := (blk_cell BK140.out 6).trans rfl; have hfz40_0 := blk_frozen BK140.out 0; have hfz40_1 := blk_frozen BK140.out 1; have hfz40_2 := blk_frozen BK140.out 2; have hfz40_3 := blk_frozen BK140.out 3; have hfz40_4 := blk_frozen BK140.out 4; have hfz40_5 := blk_frozen BK140.out 5; have hfz40_6 := blk_frozen BK140.out 6) | ((with_reducible refine gate_callee (f := 75) rfl ?_); refine gL_ (some 27) Tryd.func75 #[.slice (some ad136) t133.length co35, .string (⟨#[99, 104, 97, 114, 115, 101, 116, 61]⟩ : ByteArray)] ?_; (with_reducible refine (spec_l5Named.calls k _ _ t133 (⟨#[99, 104, 97, 114, 115, 101, 116, 61]⟩ : ByteArray) t141 false _ ?side1 ?side2 A18.out).mono ?_); (case side1 => refine (Kd.R_reads' (e := 9) (base := w.heap.size) (ok := fun k_ => True) (n := t133.length) (c := co35) ?_).2.2; exact (zz11 HO135.out BK140.out)); (case side2 => exact (Kd.R_reads' HO135.out).2.1); rintro e w41 ⟨rfl, hb⟩; refine ⟨_, rfl, ?_⟩; replace HO135 := aM (Kd.R_below (zz11 HO135.out BK140.out) hb); replace BK132 := aM (blk_below (g := gb132) (o := .cells #[.int .i64 0, .int .i64 0, .int .i64 0, .int .i64 0, .int .i64 0, .int .i64 0, .int .i64 0] 23 (0, 0)) (zz1 NB132_140.out BK132.out) hb); replace BK140 := aM (blk_below (g := gb140) (o := .cells #[.int .i64 1, .int .i64 1, .int .i64 0, .int .i64 0, .int .i64 0, .int .i64 0, .int .i64 0] 23 (0, 0)) (zz0 BK140.out) hb); replace HB := aM (below_step (bG2 GE132 GE140) hb); have hcz42_0 : w41.cell? ⟨gb140, 0, none⟩ = some (.int .i64 1) := (blk_cell BK140.out 0).trans rfl; have hcz42_1 : w41.cell? ⟨gb140, 1, none⟩ = some (.int .i64 1) := (blk_cell BK140.out 1).trans rfl; have hcz42_2 : w41.cell? ⟨gb140, 2, none⟩ = some (.int .i64 0) := (blk_cell BK140.out 2).trans rfl; have hcz42_3 : w41.cell? ⟨gb140, 3, none⟩ = some (.int .i64 0) := (blk_cell BK140.out 3).trans rfl; have hcz42_4 : w41.cell? ⟨gb140, 4, none⟩ = some (.int .i64 0) := (blk_cell BK140.out 4).trans rfl; have hcz42_5 : w41.cell? ⟨gb140, 5, none⟩ = some (.int .i64 0) := (blk_cell BK140.out 5).trans rfl; have hcz42_6 : w41.cell? ⟨gb140, 6, none⟩ = some (.int .i64 0) := (blk_cell BK140.out 6).trans rfl; have hfz42_0 := blk_frozen BK140.out 0; have hfz42_1 := blk_frozen BK140.out 1; have hfz42_2 := blk_frozen BK140.out 2; have hfz42_3 := blk_frozen BK140.out 3; have hfz42_4 := blk_frozen BK140.out 4; have hfz42_5 := blk_frozen BK140.out 5; have hfz42_6 := blk_frozen BK140.out 6; have hcz43_0 : w41.cell? ⟨gb132, 0, none⟩ = some (.int .i64 0) := (blk_cell BK132.out 0).trans rfl; have hcz43_1 : w41.cell? ⟨gb132, 1, none⟩ = some (.int .i64 0) := (blk_cell BK132.out 1).trans rfl; have hcz43_2 : w41.cell? ⟨gb132, 2, none⟩ = some (.int .i64 0) := (blk_cell BK132.out 2).trans rfl; have hcz43_3 : w41.cell? ⟨gb132, 3, none⟩ = some (.int .i64 0) := (blk_cell BK132.out 3).trans rfl; have hcz43_4 : w41.cell? ⟨gb132, 4, none⟩ = some (.int .i64 0) := (blk_cell BK132.out 4).trans rfl; have hcz43_5 : w41.cell? ⟨gb132, 5, none⟩ = some (.int .i64 0) := (blk_cell BK132.out 5).trans rfl; have hcz43_6 : w41.cell? ⟨gb132, 6, none⟩ = some (.int .i64 0) := (blk_cell BK132.out 6).trans rfl; have hfz43_0 := blk_frozen BK132.out 0; have hfz43_1 := blk_frozen BK132.out 1; have hfz43_2 := blk_frozen BK132.out 2; have hfz43_3 := blk_frozen BK132.out 3; have hfz43_4 := blk_frozen BK132.out 4; have hfz43_5 := blk_frozen BK132.out 5; have hfz43_6 := blk_frozen BK132.out 6))
   refine bodyPost_ret (results_cell_row rfl _ _ gb132 23 #[.int .i64 1, .int .i64 1, .int .i64 0, .int .i64 0, .int .i64 0, .int .i64 0, .int .i64 0] (0, 0) _ rfl (zz0 BK132.out) Tryd.underlying23 rfl (by kernel_rfl)) rfl ?_
   exact ⟨bE, bG2 GE132 GE140⟩
  replace c17 := Bool.eq_false_iff.mpr c17
  subst c17
  have H1 : (some (3, 0, 0, 0, 0, 0, 0)) = some (r1, r2, r3, r4, r5, r6, r7) := zz15
  clear H
  have H := H1
  clear H1
  simp only [Option.some.injEq, Prod.mk.injEq] at H
  obtain ⟨rfl, rfl, rfl, rfl, rfl, rfl, rfl⟩ := H
  go_wp2_with (first | ((with_reducible refine gate_dst (N := 2) rfl ?_); refine box_event ?hg (N := 2) ?hd (cs := #[.int .i64 0, .int .i64 0, .int .i64 0, .int .i64 0, .int .i64 0, .int .i64 0, .int .i64 0]) (t := 23) ?hr ?_; (case hd => rfl); (case hg => rfl); (case hr => exact zz13); intro gb132 hg w44 hbox hb; have BK132 := aM (hbox); have GW132 := aM ((zz18 : w.heap.size ≤ gb132)); have GE132 := aM ((zz18 : w.heap.size ≤ gb132)); replace HB := aM (below_step bB hb); clear hb hbox hg) | ((with_reducible refine gate_callee (f := 73) rfl ?_); refine gL_ (some 8) Tryd.func73 #[.string a0] ?_; (with_reducible refine (spec_l5Pieces.calls k a0 t133 _ A2.out).mono ?_); rintro e w45 ⟨v134, rfl, ho0, hb⟩; refine ⟨_, rfl, ?_⟩; have HO135 := aM (Kd.R_lower ho0 (below_size (bG GE132))); replace BK132 := aM (blk_below (g := gb132) (o := .cells #[.int .i64 0, .int .i64 0, .int .i64 0, .int .i64 0, .int .i64 0, .int .i64 0, .int .i64 0] 23 (0, 0)) (bL BK132) hb); replace HB := aM (below_step (bG GE132) hb); (try clear ho0); obtain ⟨Ao46, co46, eo46⟩ := Kd.R_slice HO135.out; subst eo46; have p136 : 0 ≤ (0 : Int) := (by omega); have q136 : 0 < (t133.length : Int) := pI; obtain ⟨ad136, e136, hx136_0⟩ := Kd.at_string (Kd.R_reads' HO135.out).2.2 0 p136 q136; cases e136; have qi136 : (0 < t133.length) = True := eq_true (by omega); (try rw [show ((0 : Int)).toNat = 0 from rfl] at hx136_0); (try rw [Addr.add_zero'] at hx136_0); replace p136 := eq_true p136; replace q136 := eq_true q136) | ((with_reducible refine gate_callee (f := 74) rfl ?_); refine gL_ (some 16) Tryd.func74 #[.string (rdOf ByteArray.empty t133 0), .string (⟨#[109, 117, 108, 116, 105, 112, 97, 114, 116, 47]⟩ : ByteArray)] ?_; (with_reducible refine (spec_l5Begins.calls k (rdOf ByteArray.empty t133 0) (⟨#[109, 117, 108, 116, 105, 112, 97, 114, 116, 47]⟩ : ByteArray) false _ A9.out).mono ?_); rintro e w47 ⟨rfl, hb⟩; refine ⟨_, rfl, ?_⟩; replace HO135 := aM (Kd.R_below (bR HO135) hb); replace BK132 := aM (blk_below (g := gb132) (o := .cells #[.int .i64 0, .int .i64 0, .int .i64 0, .int .i64 0, .int .i64 0, .int .i64 0, .int .i64 0] 23 (0, 0)) (bL BK132) hb); replace HB := aM (below_step (bG GE132) hb); have p138 : 0 ≤ (0 : Int) := (by omega); have q138 : 0 < (t133.length : Int) := pI; obtain ⟨ad138, e138, hx138_0⟩ := Kd.at_string (Kd.R_reads' HO135.out).2.2 0 p138 q138; obtain rfl : ad136 = ad138 := (by injection e138); have qi138 : (0 < t133.length) = True := eq_true (by omega); (try rw [show ((0 : Int)).toNat = 0 from rfl] at hx138_0); (try rw [Addr.add_zero'] at hx138_0); replace p138 := eq_true p138; replace q138 := eq_true q138) | ((with_reducible refine gate_callee (f := 74) rfl ?_); refine gL_ (some 21) Tryd.func74 #[.string (rdOf ByteArray.empty t133 0), .string (⟨#[116, 101, 120, 116, 47]⟩ : ByteArray)] ?_; (with_reducible refine (spec_l5Begins.calls k (rdOf ByteArray.empty t133 0) (⟨#[116, 101, 120, 116, 47]⟩ : ByteArray) false _ A16.out).mono ?_); rintro e w48 ⟨rfl, hb⟩; refine ⟨_, rfl, ?_⟩; replace HO135 := aM (Kd.R_below (bR HO135) hb); replace BK132 := aM (blk_below (g := gb132) (o := .cells #[.int .i64 0, .int .i64 0, .int .i64 0, .int .i64 0, .int .i64 0, .int .i64 0, .int .i64 0] 23 (0, 0)) (bL BK132) hb); replace HB := aM (below_step (bG GE132) hb); have hcz49_0 : w48.cell? ⟨gb132, 0, none⟩ = some (.int .i64 0) := (blk_cell BK132.out 0).trans rfl; have hcz49_1 : w48.cell? ⟨gb132, 1, none⟩ = some (.int .i64 0) := (blk_cell BK132.out 1).trans rfl; have hcz49_2 : w48.cell? ⟨gb132, 2, none⟩ = some (.int .i64 0) := (blk_cell BK132.out 2).trans rfl; have hcz49_3 : w48.cell? ⟨gb132, 3, none⟩ = some (.int .i64 0) := (blk_cell BK132.out 3).trans rfl; have hcz49_4 : w48.cell? ⟨gb132, 4, none⟩ = some (.int .i64 0) := (blk_cell BK132.out 4).trans rfl; have hcz49_5 : w48.cell? ⟨gb132, 5, none⟩ = some (.int .i64 0) := (blk_cell BK132.out 5).trans rfl; have hcz49_6 : w48.cell? ⟨gb132, 6, none⟩ = some (.int .i64 0) := (blk_cell BK132.out 6).trans rfl; have hfz49_0 := blk_frozen BK132.out 0; have hfz49_1 := blk_frozen BK132.out 1; have hfz49_2 := blk_frozen BK132.out 2; have hfz49_3 := blk_frozen BK132.out 3; have hfz49_4 := blk_frozen BK132.out 4; have hfz49_5 := blk_frozen BK132.out 5; have hfz49_6 := blk_frozen BK132.out 6))
  refine bodyPost_ret (results_cell_row rfl _ _ gb132 23 #[.int .i64 3, .int .i64 0, .int .i64 0, .int .i64 0, .int .i64 0, .int .i64 0, .int .i64 0] (0, 0) _ rfl (zz3 BK132.out) Tryd.underlying23 rfl (by kernel_rfl)) rfl ?_
  exact ⟨bE, bG GE132⟩
 rw [if_neg c8] at H
 exact absurd H (by simp)
def spec_l4End.l0 : Nat → List Int → Int → Option (Int)
 | 0, _, _ => none
 | k + 1, x0, x1 => if x1 < (x0.length : Int) then (if 0 ≤ x1 then (if (rd x0 x1) = 10 then (some x1) else (spec_l4End.l0 k x0 (wrap64 (x1 + 1)))) else (none)) else (some x1)
def spec_l4End.f (k : Nat) (l0 : List Int) (a1 : Int) : Option (Int) := spec_l4End.l0 k l0 a1
set_option maxHeartbeats 8000000 in
set_option maxRecDepth 100000 in
theorem spec_l4End.calls (k : Nat) (A0 : Option Addr) (c0 : Nat) (l0 : List Int) (a1 : Int) (r : Int) (w : World) (hr0 : Kd.C (Kd.int .u8) w A0 l0.length l0) (hc0 : l0.length ≤ c0) (h : spec_l4End.f k l0 a1 = some r) :
  Calls Tryd.prog 128 #[.slice A0 l0.length c0, .int .i64 a1] w fun e w' => e = .returned (.int .i64 r) ∧ Drawn0 w w' := by
 have HR0 := aM hr0
 have HC0 := aM hc0
 clear hr0 hc0
 have H : (spec_l4End.l0 k l0 a1) = some r := h
 clear h
 have H' := aM H
 clear H
 go_enter Tryd.func128, Tryd.ntmps128
 go_wp2
 go_loopg [1] k (fun kq v1 w' => ∃ (x1_1 : Int), v1 = .int .i64 x1_1 ∧ Aside0 (spec_l4End.l0 kq l0 x1_1 = some r) ∧ Aside0 (kq ≤ k) ∧ Drawn0 w w')
 case atStart => exact ⟨(a1), bS, H', ⟨Nat.le_refl _⟩, zz5⟩
 case round =>
  clear H'
  try clear c1
  try clear p2
  obtain ⟨x1_1, rfl, HA, HK1, ⟨m1, rfl⟩⟩ := hrel
  cases gk with
  | zero => exact absurd HA.out (by simp [spec_l4End.l0])
  | succ k1 =>
   have H := HA.out
   clear HA
   simp only [spec_l4End.l0] at H
   by_cases c3 : x1_1 < (l0.length : Int)
   ·rw [if_pos c3] at H
    have c3b0 : decide (x1_1 < (l0.length : Int)) = true := decide_eq_true c3
    clear c3
    by_cases c4 : 0 ≤ x1_1
    ·rw [if_pos c4] at H
     have c4b0 : decide (0 ≤ x1_1) = true := decide_eq_true c4
     clear c4
     by_cases c5 : (rd l0 x1_1) = 10
     ·rw [if_pos c5] at H
      have c5b0 : ((rd l0 x1_1) == 10) = true := beq_iff_eq.mpr c5
      have c5b1 : ((rd l0 x1_1) != 10) = false := bne_eq_false_iff_eq.mpr c5
      clear c5
      obtain rfl := Option.some.inj H
      have p144 : 0 ≤ (x1_1 : Int) := pI
      have q144 : x1_1 < (l0.length : Int) := pI
      obtain ⟨ad144, e144, hx144_0⟩ := Kd.at_int HR0.out x1_1 p144 q144
      cases e144
      replace p144 := eq_true p144
      replace q144 := eq_true q144
      go_wp2
      go_ret
      exact ⟨bS, zz5⟩
     rw [if_neg c5] at H
     have c5b0 : ((rd l0 x1_1) == 10) = false := beq_eq_false_iff_ne.mpr c5
     have c5b1 : ((rd l0 x1_1) != 10) = true := bne_iff_ne.mpr c5
     have H' := aM H
     clear H
     have p144 : 0 ≤ (x1_1 : Int) := pI
     have q144 : x1_1 < (l0.length : Int) := pI
     obtain ⟨ad144, e144, hx144_0⟩ := Kd.at_int HR0.out x1_1 p144 q144
     cases e144
     replace p144 := eq_true p144
     replace q144 := eq_true q144
     go_wp2
     go_roundg k1
     case measure => have := HK1.out; omega
     case rel => exact ⟨(wrap64 (x1_1 + 1)), bS, H', ⟨by have := HK1.out; omega⟩, zz5⟩
    rw [if_neg c4] at H
    exact absurd H (by simp)
   rw [if_neg c3] at H
   have c3b0 : decide (x1_1 < (l0.length : Int)) = false := decide_eq_false c3
   clear c3
   obtain rfl := Option.some.inj H
   go_wp2
   go_ret
   exact ⟨bS, zz5⟩
end Go.Proofs.YtecpanfndodjgaaDoor.PPartAt
