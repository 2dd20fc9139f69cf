/- Part of the proof; words that it uses. -/
import Derived.Test.YtecpanfndodjgaaDoorPParsePartsx0
import Derived.Test.YtecpanfndodjgaaDoorPParsePartsx1
import Derived.Test.YtecpanfndodjgaaDoorPParsePartsx5
import Derived.Test.YtecpanfndodjgaaDoorPParsePartsx10
namespace Go.Proofs.YtecpanfndodjgaaDoor.PParseParts
open Go.RowKit Go.Proofs.YtecpanfndodjgaaDoorW.PrintWords Go.Proofs.YtecpanfndodjgaaDoorW.PrintLast Go.Proofs.YtecpanfndodjgaaDoorW.PrintMore
attribute [local go_sem] max2_int max_two
set_option linter.unusedVariables false
set_option linter.unusedSimpArgs false
def laws_FnExactParseParts.j0 : Nat → List Int → Bool → Int → List (S23) → Int → List (S23) → Option (Bool)
 | 0, _, _, _, _, _, _ => none
 | k + 1, x0, x39, x456000, x456001, x464000, x464001 => if x39 = true then (some false) else ((laws_markPartsResult.f k x464000 x464001 1).bind fun bt472 => ((laws_heldPartsResult.f k x464000 bt472.2 1).bind fun t474 => (if t474 < 0 then (some false) else (if t474 = bt472.1 then ((laws_toByteS.f k x0).bind fun t475 => ((impl_ParseParts.f k t475).bind fun bt478 => ((laws_eqPartsResult.f k bt478.1 bt478.2 x456000 x456001).bind fun t483 => (if t483 = true then ((laws_heldPartsResult.f k x464000 bt472.2 1).bind fun t484 => (if t484 < 0 then (some false) else (if t484 = bt472.1 then (some true) else (some false)))) else (some false))))) else (some false)))))
def laws_FnExactParseParts.f (k : Nat) (l0 : List Int) : Option (Bool) := if (l0.length : Int) > 1048576 then (some true) else ((laws_toByteS.f k l0).bind fun t448 => ((spec_ParseParts.f k t448).bind fun bt451 => ((laws_toByteS.f k l0).bind fun t456 => ((impl_ParseParts.f k t456).bind fun bt459 => ((laws_eqPartsResult.f k bt459.1 bt459.2 bt451.1 bt451.2).bind fun t464 => (if t464 = true then ((laws_toByteS.f k l0).bind fun t465 => ((laws_eqByteS.f k t456 t465).bind fun t468 => (if t468 = true then ((laws_markByteS.f k t456 1).bind fun bt469 => (if bt469.1 < 0 then (laws_FnExactParseParts.j0 k l0 true bt451.1 bt451.2 bt459.1 bt459.2) else ((laws_eqPartsResult.f k bt459.1 bt459.2 bt451.1 bt451.2).bind fun t471 => (laws_FnExactParseParts.j0 k l0 (!t471) bt451.1 bt451.2 bt459.1 bt459.2)))) else (some false)))) else (some false)))))))
set_option maxHeartbeats 8000000 in
set_option maxRecDepth 100000 in
theorem laws_FnExactParseParts.calls (k : Nat) (A0 : Option Addr) (c0 : Nat) (l0 : List Int) (w : World) (hr0 : Kd.C (Kd.int .u8) w A0 l0.length l0) (hc0 : l0.length ≤ c0) (h : laws_FnExactParseParts.f k l0 = some true) :
  Calls Tryd.prog 7 #[.slice A0 l0.length c0] w fun e w' => e = .returned (.bool true) ∧ Below w.heap.size w w' := by
 have hu52 := Tryd.underlying52
 have HR0 := aM hr0
 have HC0 := aM hc0
 clear hr0 hc0
 have HB := aM (Below.refl w.heap.size w)
 have H : (if (l0.length : Int) > 1048576 then (some true) else ((laws_toByteS.f k l0).bind fun t448 => ((spec_ParseParts.f k t448).bind fun bt451 => ((laws_toByteS.f k l0).bind fun t456 => ((impl_ParseParts.f k t456).bind fun bt459 => ((laws_eqPartsResult.f k bt459.1 bt459.2 bt451.1 bt451.2).bind fun t464 => (if t464 = true then ((laws_toByteS.f k l0).bind fun t465 => ((laws_eqByteS.f k t456 t465).bind fun t468 => (if t468 = true then ((laws_markByteS.f k t456 1).bind fun bt469 => (if bt469.1 < 0 then (laws_FnExactParseParts.j0 k l0 true bt451.1 bt451.2 bt459.1 bt459.2) else ((laws_eqPartsResult.f k bt459.1 bt459.2 bt451.1 bt451.2).bind fun t471 => (laws_FnExactParseParts.j0 k l0 (!t471) bt451.1 bt451.2 bt459.1 bt459.2)))) else (some false)))) else (some false)))))))) = some true := h
 clear h
 have HQ_ := aM H
 clear H
 go_enter Tryd.func7, Tryd.ntmps7
 have H := HQ_.out
 clear HQ_
 by_cases c2 : (l0.length : Int) > 1048576
 ·rw [if_pos c2] at H
  have c2b0 : decide (1048576 < (l0.length : Int)) = true := decide_eq_true c2
  have c2b1 : decide (1048576 < l0.length) = true := decide_eq_true (by omega)
  clear c2
  have HTR_ := Option.some.inj H
  (try simp only [c2b0, c2b1])
  go_wp2
  go_ret
  exact ⟨bE, bB⟩
 rw [if_neg c2] at H
 have c2b0 : decide (1048576 < (l0.length : Int)) = false := decide_eq_false c2
 have c2b1 : decide (1048576 < l0.length) = false := decide_eq_false (by omega)
 clear c2
 replace H := Option.bind_eq_some_iff.mp H
 obtain ⟨t448, A30, H⟩ := H
 replace H : ((spec_ParseParts.f k t448).bind fun bt451 => ((laws_toByteS.f k l0).bind fun t456 => ((impl_ParseParts.f k t456).bind fun bt459 => ((laws_eqPartsResult.f k bt459.1 bt459.2 bt451.1 bt451.2).bind fun t464 => (if t464 = true then ((laws_toByteS.f k l0).bind fun t465 => ((laws_eqByteS.f k t456 t465).bind fun t468 => (if t468 = true then ((laws_markByteS.f k t456 1).bind fun bt469 => (if bt469.1 < 0 then (laws_FnExactParseParts.j0 k l0 true bt451.1 bt451.2 bt459.1 bt459.2) else ((laws_eqPartsResult.f k bt459.1 bt459.2 bt451.1 bt451.2).bind fun t471 => (laws_FnExactParseParts.j0 k l0 (!t471) bt451.1 bt451.2 bt459.1 bt459.2)))) else (some false)))) else (some false)))))) = some true := H
 have A3 := aM A30
 clear A30
 replace H := Option.bind_eq_some_iff.mp H
 obtain ⟨⟨t451, t452⟩, A40, H⟩ := H
 replace H : ((laws_toByteS.f k l0).bind fun t456 => ((impl_ParseParts.f k t456).bind fun bt459 => ((laws_eqPartsResult.f k bt459.1 bt459.2 t451 t452).bind fun t464 => (if t464 = true then ((laws_toByteS.f k l0).bind fun t465 => ((laws_eqByteS.f k t456 t465).bind fun t468 => (if t468 = true then ((laws_markByteS.f k t456 1).bind fun bt469 => (if bt469.1 < 0 then (laws_FnExactParseParts.j0 k l0 true t451 t452 bt459.1 bt459.2) else ((laws_eqPartsResult.f k bt459.1 bt459.2 t451 t452).bind fun t471 => (laws_FnExactParseParts.j0 k l0 (!t471) t451 t452 bt459.1 bt459.2)))) else (some false)))) else (some false))))) = some true := H
 have A4 := aM A40
 clear A40
 replace H := Option.bind_eq_some_iff.mp H
 obtain ⟨t456, A50, H⟩ := H
 replace H : ((impl_ParseParts.f k t456).bind fun bt459 => ((laws_eqPartsResult.f k bt459.1 bt459.2 t451 t452).bind fun t464 => (if t464 = true then ((laws_toByteS.f k l0).bind fun t465 => ((laws_eqByteS.f k t456 t465).bind fun t468 => (if t468 = true then ((laws_markByteS.f k t456 1).bind fun bt469 => (if bt469.1 < 0 then (laws_FnExactParseParts.j0 k l0 true t451 t452 bt459.1 bt459.2) else ((laws_eqPartsResult.f k bt459.1 bt459.2 t451 t452).bind fun t471 => (laws_FnExactParseParts.j0 k l0 (!t471) t451 t452 bt459.1 bt459.2)))) else (some false)))) else (some false)))) = some true := H
 have A5 := aM A50
 clear A50
 replace H := Option.bind_eq_some_iff.mp H
 obtain ⟨⟨t459, t460⟩, A60, H⟩ := H
 replace H : ((laws_eqPartsResult.f k t459 t460 t451 t452).bind fun t464 => (if t464 = true then ((laws_toByteS.f k l0).bind fun t465 => ((laws_eqByteS.f k t456 t465).bind fun t468 => (if t468 = true then ((laws_markByteS.f k t456 1).bind fun bt469 => (if bt469.1 < 0 then (laws_FnExactParseParts.j0 k l0 true t451 t452 t459 t460) else ((laws_eqPartsResult.f k t459 t460 t451 t452).bind fun t471 => (laws_FnExactParseParts.j0 k l0 (!t471) t451 t452 t459 t460)))) else (some false)))) else (some false))) = some true := H
 have A6 := aM A60
 clear A60
 replace H := Option.bind_eq_some_iff.mp H
 obtain ⟨t464, A70, H⟩ := H
 replace H : (if t464 = true then ((laws_toByteS.f k l0).bind fun t465 => ((laws_eqByteS.f k t456 t465).bind fun t468 => (if t468 = true then ((laws_markByteS.f k t456 1).bind fun bt469 => (if bt469.1 < 0 then (laws_FnExactParseParts.j0 k l0 true t451 t452 t459 t460) else ((laws_eqPartsResult.f k t459 t460 t451 t452).bind fun t471 => (laws_FnExactParseParts.j0 k l0 (!t471) t451 t452 t459 t460)))) else (some false)))) else (some false)) = some true := H
 have A7 := aM A70
 clear A70
 (try simp only [c2b0, c2b1])
 by_cases c8 : t464 = true
 ·subst c8
  have H1 : ((laws_toByteS.f k l0).bind fun t465 => ((laws_eqByteS.f k t456 t465).bind fun t468 => (if t468 = true then ((laws_markByteS.f k t456 1).bind fun bt469 => (if bt469.1 < 0 then (laws_FnExactParseParts.j0 k l0 true t451 t452 t459 t460) else ((laws_eqPartsResult.f k t459 t460 t451 t452).bind fun t471 => (laws_FnExactParseParts.j0 k l0 (!t471) t451 t452 t459 t460)))) else (some false)))) = some true := zz27
  clear H
  have H := H1
  clear H1
  replace H := Option.bind_eq_some_iff.mp H
  obtain ⟨t465, A90, H⟩ := H
  replace H : ((laws_eqByteS.f k t456 t465).bind fun t468 => (if t468 = true then ((laws_markByteS.f k t456 1).bind fun bt469 => (if bt469.1 < 0 then (laws_FnExactParseParts.j0 k l0 true t451 t452 t459 t460) else ((laws_eqPartsResult.f k t459 t460 t451 t452).bind fun t471 => (laws_FnExactParseParts.j0 k l0 (!t471) t451 t452 t459 t460)))) else (some false))) = some true := H
  have A9 := aM A90
  clear A90
  replace H := Option.bind_eq_some_iff.mp H
  obtain ⟨t468, A100, H⟩ := H
  replace H : (if t468 = true then ((laws_markByteS.f k t456 1).bind fun bt469 => (if bt469.1 < 0 then (laws_FnExactParseParts.j0 k l0 true t451 t452 t459 t460) else ((laws_eqPartsResult.f k t459 t460 t451 t452).bind fun t471 => (laws_FnExactParseParts.j0 k l0 (!t471) t451 t452 t459 t460)))) else (some false)) = some true := H
  have A10 := aM A100
  clear A100
  by_cases c11 : t468 = true
  ·subst c11
   have H1 : ((laws_markByteS.f k t456 1).bind fun bt469 => (if bt469.1 < 0 then (laws_FnExactParseParts.j0 k l0 true t451 t452 t459 t460) else ((laws_eqPartsResult.f k t459 t460 t451 t452).bind fun t471 => (laws_FnExactParseParts.j0 k l0 (!t471) t451 t452 t459 t460)))) = some true := zz27
   clear H
   have H := H1
   clear H1
   replace H := Option.bind_eq_some_iff.mp H
   obtain ⟨⟨t469, t470⟩, A120, H⟩ := H
   replace H : (if t469 < 0 then (laws_FnExactParseParts.j0 k l0 true t451 t452 t459 t460) else ((laws_eqPartsResult.f k t459 t460 t451 t452).bind fun t471 => (laws_FnExactParseParts.j0 k l0 (!t471) t451 t452 t459 t460))) = some true := H
   have A12 := aM A120
   clear A120
   have HC13 := aM H
   clear H
   go_upto_region 12 with (first | ((with_reducible refine gate_callee (f := 13) rfl ?_); refine gL_ (some 14) Tryd.func13 #[.slice A0 l0.length c0] ?_; (with_reducible refine (laws_toByteS.calls k _ _ l0 t448 _ ?side1 ?side2 A3.out).mono ?_); (case side1 => exact zz40 HR0.out); (case side2 => exact HC0.out); rintro e w14 ⟨v449, rfl, ho0, hb⟩; refine ⟨_, rfl, ?_⟩; have HO450 := aM (Kd.R_lower ho0 (below_size bB)); replace HB := aM (below_step bB hb); (try clear ho0); obtain ⟨Ao15, co15, eo15⟩ := Kd.R_slice HO450.out; subst eo15) | ((with_reducible refine gate_callee (f := 30) rfl ?_); refine gL_ (some 15) Tryd.func30 #[.slice Ao15 t448.length co15] ?_; (with_reducible refine (spec_ParseParts.calls k _ _ t448 t451 t452 _ ?side1 ?side2 A4.out).mono ?_); (case side1 => exact zz7 HO450.out); (case side2 => exact (Kd.R_reads' HO450.out).2.1); rintro e w16 ⟨v453, rfl, ho0, hb⟩; refine ⟨_, rfl, ?_⟩; replace HO450 := aM (Kd.R_below (bR HO450) hb); have HO454 := aM (Kd.R_lower ho0 (below_size bB)); replace HB := aM (below_step bB hb); (try clear ho0)) | ((with_reducible refine gate_dst (N := 3) rfl ?_); refine box_event ?hg (N := 3) ?hd (cs := #[.int .i64 0, .slice none 0 0]) (t := 52) ?hr ?_; (case hd => rfl); (case hg => rfl); (case hr => exact zz10); intro gb455 hg w17 hbox hb; replace HO450 := aM (Kd.R_below (bR HO450) hb); replace HO454 := aM (Kd.R_below (bR HO454) hb); have BK455 := aM (hbox); have GW455 := aM ((zz15 : w.heap.size ≤ gb455)); have GE455 := aM ((zz15 : w.heap.size ≤ gb455)); replace HB := aM (below_step bB hb); clear hb hbox hg; have hcz18_0 : w17.cell? ⟨gb455, 0, none⟩ = some (.int .i64 0) := (blk_cell BK455.out 0).trans rfl; have hcz18_1 : w17.cell? ⟨gb455, 1, none⟩ = some (.slice none 0 0) := (blk_cell BK455.out 1).trans rfl; have hfz18_0 := blk_frozen BK455.out 0; have hfz18_1 := blk_frozen BK455.out 1; obtain ⟨Ao19, co19, eo19⟩ := Kd.R_slice HO454.out; subst eo19) | ((with_reducible refine gate_callee (f := 13) rfl ?_); refine gL_ (some 17) Tryd.func13 #[.slice A0 l0.length c0] ?_; (with_reducible refine (laws_toByteS.calls k _ _ l0 t456 _ ?side1 ?side2 A5.out).mono ?_); (case side1 => exact Kd.C_below HR0.out (bG GE455)); (case side2 => exact HC0.out); rintro e w20 ⟨v457, rfl, ho0, hb⟩; refine ⟨_, rfl, ?_⟩; replace HO454 := aM (Kd.R_below (zz31 HO454.out BK455.out) hb); have HO458 := aM (Kd.R_lower (Kd.R_new' ho0 (Kd.R_lt (zz31 HO450.out BK455.out))) (below_size (bG GE455))); replace HO450 := aM (Kd.R_elder' (zz31 HO450.out BK455.out) (Kd.R_base ho0) hb); replace BK455 := aM (blk_below (g := gb455) (o := .cells #[.int .i64 t451, .slice Ao19 t452.length co19] 52 (0, 0)) (by (with_reducible repeat (first | refine blk_drewN ?_ _ | refine blk_drew ?_ | refine blk_alloc ?_ _)); refine blk_put (cs := #[.int .i64 t451, .slice none 0 0]) ?_ 1 _ rfl; (with_reducible repeat (first | refine blk_drewN ?_ _ | refine blk_drew ?_ | refine blk_alloc ?_ _)); refine blk_put (cs := #[.int .i64 0, .slice none 0 0]) ?_ 0 _ rfl; (with_reducible repeat (first | refine blk_drewN ?_ _ | refine blk_drew ?_ | refine blk_alloc ?_ _)); exact BK455.out) hb); replace HB := aM (below_step (bG GE455) hb); (try clear ho0); obtain ⟨Ao21, co21, eo21⟩ := Kd.R_slice HO458.out; subst eo21) | ((with_reducible refine gate_callee (f := 31) rfl ?_); refine gL_ (some 19) Tryd.func31 #[.slice Ao21 t456.length co21] ?_; (with_reducible refine (impl_ParseParts.calls k _ _ t456 t459 t460 _ ?side1 ?side2 A6.out).mono ?_); (case side1 => exact zz7 HO458.out); (case side2 => exact (Kd.R_reads' HO458.out).2.1); rintro e w22 ⟨v461, rfl, ho0, hb⟩; refine ⟨_, rfl, ?_⟩; replace HO450 := aM (Kd.R_below (bR HO450) hb); replace HO458 := aM (Kd.R_below (bR HO458) hb); have HO462 := aM (Kd.R_lower (Kd.R_new' ho0 (Kd.R_lt (bR HO454))) (below_size (bG GE455))); replace HO454 := aM (Kd.R_elder' (bR HO454) (Kd.R_base ho0) hb); replace BK455 := aM (blk_below (g := gb455) (o := .cells #[.int .i64 t451, .slice Ao19 t452.length co19] 52 (0, 0)) (bL BK455) hb); replace HB := aM (below_step (bG GE455) hb); (try clear ho0)) | ((with_reducible refine gate_dst (N := 5) rfl ?_); refine box_event ?hg (N := 5) ?hd (cs := #[.int .i64 0, .slice none 0 0]) (t := 52) ?hr ?_; (case hd => rfl); (case hg => rfl); (case hr => exact zz10); intro gb463 hg w23 hbox hb; replace HO450 := aM (Kd.R_below (bR HO450) hb); replace HO454 := aM (Kd.R_below (bR HO454) hb); replace HO458 := aM (Kd.R_below (bR HO458) hb); replace HO462 := aM (Kd.R_below (bR HO462) hb); have BK463 := aM (hbox); have GW463 := aM ((by rw [hg]; exact (below_size (bG GE455)) : w.heap.size ≤ gb463)); have GE463 := aM ((by rw [hg]; exact (below_size (bG GE455)) : w.heap.size ≤ gb463)); replace HB := aM (below_step (bG GE455) hb); have NB455_463 := aM ((by rw [hg]; exact Nat.ne_of_lt (blk_lt (g := gb455) (o := .cells #[.int .i64 t451, .slice Ao19 t452.length co19] 52 (0, 0)) (bL BK455)) : gb455 ≠ gb463)); have NB463_455 := aM ((by rw [hg]; exact Nat.ne_of_gt (blk_lt (g := gb455) (o := .cells #[.int .i64 t451, .slice Ao19 t452.length co19] 52 (0, 0)) (bL BK455)) : gb463 ≠ gb455)); replace BK455 := aM (blk_below (g := gb455) (o := .cells #[.int .i64 t451, .slice Ao19 t452.length co19] 52 (0, 0)) (bL BK455) hb); clear hb hbox hg; have hnb24 := NB463_455.out; have hnc24 := NB455_463.out; have hcz25_0 : w23.cell? ⟨gb463, 0, none⟩ = some (.int .i64 0) := (blk_cell BK463.out 0).trans rfl; have hcz25_1 : w23.cell? ⟨gb463, 1, none⟩ = some (.slice none 0 0) := (blk_cell BK463.out 1).trans rfl; have hfz25_0 := blk_frozen BK463.out 0; have hfz25_1 := blk_frozen BK463.out 1; obtain ⟨Ao26, co26, eo26⟩ := Kd.R_slice HO462.out; subst eo26; have hcz27_0 : w23.cell? ⟨gb455, 0, none⟩ = some (.int .i64 t451) := (blk_cell BK455.out 0).trans rfl; have hcz27_1 : w23.cell? ⟨gb455, 1, none⟩ = some (.slice Ao19 t452.length co19) := (blk_cell BK455.out 1).trans rfl; have hfz27_0 := blk_frozen BK455.out 0; have hfz27_1 := blk_frozen BK455.out 1) | ((with_reducible refine gate_callee (f := 32) rfl ?_); refine gL_ (some 22) Tryd.func32 #[.agg #[.int .i64 t459, .slice Ao26 t460.length co26], .agg #[.int .i64 t451, .slice Ao19 t452.length co19]] ?_; (with_reducible refine (laws_eqPartsResult.calls k t459 _ _ t460 t451 _ _ t452 true _ ?side1 ?side2 ?side3 ?side4 A7.out).mono ?_); (case side1 => refine (Kd.R_reads' (e := 23) (base := w.heap.size) (ok := fun k_ => (True ∧ some k_ ≠ (.slice Ao19 t452.length co19 : Value).ownBlock)) (n := t460.length) (c := co26) ?_).2.2; exact (zz19 HO462.out BK463.out)); (case side2 => exact (Kd.R_reads' HO462.out).2.1); (case side3 => refine (Kd.R_reads' (e := 23) (base := w.heap.size) (ok := fun k_ => (True ∧ some k_ ≠ (.slice Ao26 t460.length co26 : Value).ownBlock)) (n := t452.length) (c := co19) ?_).2.2; exact (zz19 HO454.out BK463.out)); (case side4 => exact (Kd.R_reads' HO454.out).2.1); rintro e w28 ⟨rfl, hb⟩; refine ⟨_, rfl, ?_⟩; replace HO450 := aM (Kd.R_below (zz19 HO450.out BK463.out) hb); replace HO454 := aM (Kd.R_below (zz19 HO454.out BK463.out) hb); replace HO458 := aM (Kd.R_below (zz19 HO458.out BK463.out) hb); replace HO462 := aM (Kd.R_below (zz19 HO462.out BK463.out) hb); replace BK455 := aM (blk_below (g := gb455) (o := .cells #[.int .i64 t451, .slice Ao19 t452.length co19] 52 (0, 0)) (zz16 NB455_463.out BK455.out) hb); replace BK463 := aM (blk_below (g := gb463) (o := .cells #[.int .i64 t459, .slice Ao26 t460.length co26] 52 (0, 0)) (by (with_reducible repeat (first | refine blk_drewN ?_ _ | refine blk_drew ?_ | refine blk_alloc ?_ _)); refine blk_put (cs := #[.int .i64 t459, .slice none 0 0]) ?_ 1 _ rfl; (with_reducible repeat (first | refine blk_drewN ?_ _ | refine blk_drew ?_ | refine blk_alloc ?_ _)); refine blk_put (cs := #[.int .i64 0, .slice none 0 0]) ?_ 0 _ rfl; (with_reducible repeat (first | refine blk_drewN ?_ _ | refine blk_drew ?_ | refine blk_alloc ?_ _)); exact BK463.out) hb); replace HB := aM (below_step (bG2 GE455 GE463) hb); (try clear hi)) | ((with_reducible refine gate_callee (f := 13) rfl ?_); refine gL_ (some 26) Tryd.func13 #[.slice A0 l0.length c0] ?_; (with_reducible refine (laws_toByteS.calls k _ _ l0 t465 _ ?side1 ?side2 A9.out).mono ?_); (case side1 => exact zz6 HR0.out); (case side2 => exact HC0.out); rintro e w29 ⟨v466, rfl, ho0, hb⟩; refine ⟨_, rfl, ?_⟩; replace HO454 := aM (Kd.R_below (bR HO454) hb); replace HO462 := aM (Kd.R_below (bR HO462) hb); have HO467 := aM (Kd.R_lower (Kd.R_new' (Kd.R_new' ho0 (Kd.R_lt (bR HO450))) (Kd.R_lt (bR HO458))) (below_size (bG2 GE455 GE463))); replace HO450 := aM (Kd.R_elder' (bR HO450) (Kd.R_base ho0) hb); replace HO458 := aM (Kd.R_elder' (bR HO458) (Kd.R_base ho0) hb); replace BK455 := aM (blk_below (g := gb455) (o := .cells #[.int .i64 t451, .slice Ao19 t452.length co19] 52 (0, 0)) (bL BK455) hb); replace BK463 := aM (blk_below (g := gb463) (o := .cells #[.int .i64 t459, .slice Ao26 t460.length co26] 52 (0, 0)) (bL BK463) hb); replace HB := aM (below_step (bG2 GE455 GE463) hb); (try clear ho0); obtain ⟨Ao30, co30, eo30⟩ := Kd.R_slice HO467.out; subst eo30) | ((with_reducible refine gate_callee (f := 16) rfl ?_); refine gL_ (some 27) Tryd.func16 #[.slice Ao21 t456.length co21, .slice Ao30 t465.length co30] ?_; (with_reducible refine (laws_eqByteS.calls k _ _ t456 _ _ t465 true _ ?side1 ?side2 ?side3 ?side4 A10.out).mono ?_); (case side1 => exact zz7 HO458.out); (case side2 => exact (Kd.R_reads' HO458.out).2.1); (case side3 => exact zz7 HO467.out); (case side4 => exact (Kd.R_reads' HO467.out).2.1); rintro e w' ⟨rfl, ⟨nd, rfl⟩⟩; refine ⟨_, rfl, ?_⟩) | ((with_reducible refine gate_callee (f := 17) rfl ?_); refine gL_ (some 31) Tryd.func17 #[.slice Ao21 t456.length co21, .int .i64 1] ?_; (with_reducible refine (laws_markByteS.calls k (fun k_ => some k_ = (.slice Ao21 t456.length co21 : Value).ownBlock) (.slice Ao21 t456.length co21) t456 1 t469 t470 w _ ?side1 ?side2 A12.out).mono ?_); (case side1 => repeat (first | (with_reducible first | exact HB.out | apply below_alloc | apply pw_below_drewN | apply below_drew1 | refine below_set ?_ GE455.out | refine below_set ?_ GE463.out) | exact HB.out)); (case side2 => exact Kd.R_tight rfl HO458.out); rintro e w31 ⟨rfl, hy0, hb, hkp⟩; refine ⟨_, rfl, ?_⟩; replace HO450 := aM (Kd.R_mono (ok' := fun k_ => some k_ ≠ (.slice Ao21 t456.length co21 : Value).ownBlock ∧ some k_ ≠ (.slice Ao30 t465.length co30 : Value).ownBlock) (Kd.R_keptB (HO450.out) hkp (fun k_ hk_ hs_ => (hk_.1.2) hs_)) (fun k_ hk_ => ⟨hk_.1.1.2, hk_.1.2⟩)); replace HO454 := aM (Kd.R_mono (ok' := fun k_ => some k_ ≠ (.slice Ao26 t460.length co26 : Value).ownBlock) (Kd.R_keptB ((Kd.R_apart' HO454.out (Kd.R_typed HO458.out) (by decide))) hkp (fun k_ hk_ hs_ => (hk_.2) hs_)) (fun k_ hk_ => hk_.1.1.2)); replace BK455 := aM (blk_kept (bL BK455) hkp (fun hs_ => (fun e_ => (Kd.R_ne HO458.out BK455.out (by decide)) e_) hs_)); replace HO462 := aM (Kd.R_mono (ok' := fun k_ => some k_ ≠ (.slice Ao19 t452.length co19 : Value).ownBlock) (Kd.R_keptB ((Kd.R_apart' HO462.out (Kd.R_typed HO458.out) (by decide))) hkp (fun k_ hk_ hs_ => (hk_.2) hs_)) (fun k_ hk_ => hk_.1.1.2)); replace BK463 := aM (blk_kept (bL BK463) hkp (fun hs_ => (fun e_ => (Kd.R_ne HO458.out BK463.out (by decide)) e_) hs_)); replace HO458 := aM (Kd.R_reok rfl hy0 (fun k_ e_ => HO458.out.1 k_ e_)); replace HO467 := aM (Kd.R_mono (ok' := fun k_ => some k_ ≠ (.slice Ao15 t448.length co15 : Value).ownBlock ∧ some k_ ≠ (.slice Ao21 t456.length co21 : Value).ownBlock) (Kd.R_keptB (HO467.out) hkp (fun k_ hk_ hs_ => (hk_.2) hs_)) (fun k_ hk_ => ⟨hk_.1.1.2, hk_.1.2⟩)); replace HB := aM (hb); (try clear hkp); (try clear hy0)))
   (try simp only [Act.put, List.setIfInBounds_toArray, List.set_cons_zero, List.set_cons_succ])
   go_cut [39] (fun v39 wc => ∃ (kq : Nat) (x39_12 : Bool), v39 = .bool x39_12 ∧ Aside0 (laws_FnExactParseParts.j0 kq l0 x39_12 t451 t452 t459 t460 = some true) ∧ Aside0 (kq ≤ k) ∧ Aside0 (Kd.R k23 23 wc w.heap.size (fun k_ => some k_ ≠ ((.slice Ao26 t460.length co26) : Value).ownBlock) (.slice Ao19 t452.length co19) t452) ∧ Aside0 (Kd.R k23 23 wc w.heap.size (fun k_ => some k_ ≠ ((.slice Ao19 t452.length co19) : Value).ownBlock) (.slice Ao26 t460.length co26) t460) ∧ Aside0 (wc.heap[gb455]? = some (.cells #[.int .i64 t451, (.slice Ao19 t452.length co19)] 52 (0, 0))) ∧ Aside0 (wc.heap[gb463]? = some (.cells #[.int .i64 t459, (.slice Ao26 t460.length co26)] 52 (0, 0))) ∧ Aside0 (Below w.heap.size w wc))
   case first =>
    have H := HC13.out
    clear HC13
    by_cases c32 : t469 < 0
    ·rw [if_pos c32] at H
     have c32b0 : decide (t469 < 0) = true := decide_eq_true c32
     clear c32
     (first | rw [c32b0] | (simp only [i64_w, i32_w]; rw [c32b0]) | skip)
     have H' := aM H
     clear H
     go_wp2
     go_meet
     case rel => exact ⟨_, (true), bS, H', ⟨zz48⟩, ⟨bR HO454⟩, ⟨bR HO462⟩, ⟨bL BK455⟩, ⟨bL BK463⟩, ⟨bG2 GE455 GE463⟩⟩
    rw [if_neg c32] at H
    have c32b0 : decide (t469 < 0) = false := decide_eq_false c32
    clear c32
    (first | rw [c32b0] | (simp only [i64_w, i32_w]; rw [c32b0]) | skip)
    replace H := Option.bind_eq_some_iff.mp H
    obtain ⟨t471, A330, H⟩ := H
    replace H : (laws_FnExactParseParts.j0 k l0 (!t471) t451 t452 t459 t460) = some true := H
    have A33 := aM A330
    clear A330
    have H' := aM H
    clear H
    have hnb34 := NB463_455.out
    have hnc34 := NB455_463.out
    have hcz35_0 : w31.cell? ⟨gb463, 0, none⟩ = some (.int .i64 t459) := (blk_cell BK463.out 0).trans rfl
    have hcz35_1 : w31.cell? ⟨gb463, 1, none⟩ = some (.slice Ao26 t460.length co26) := (blk_cell BK463.out 1).trans rfl
    have hfz35_0 := blk_frozen BK463.out 0
    have hfz35_1 := blk_frozen BK463.out 1
    have hcz36_0 : w31.cell? ⟨gb455, 0, none⟩ = some (.int .i64 t451) := (blk_cell BK455.out 0).trans rfl
    have hcz36_1 : w31.cell? ⟨gb455, 1, none⟩ = some (.slice Ao19 t452.length co19) := (blk_cell BK455.out 1).trans rfl
    have hfz36_0 := blk_frozen BK455.out 0
    have hfz36_1 := blk_frozen BK455.out 1
    go_wp2_with (first | (go_at_call 32; (with_reducible refine (laws_eqPartsResult.calls k t459 _ _ t460 t451 _ _ t452 t471 _ ?side1 ?side2 ?side3 ?side4 A33.out).mono ?_); (case side1 => exact zz7 HO462.out); (case side2 => exact (Kd.R_reads' HO462.out).2.1); (case side3 => exact zz7 HO454.out); (case side4 => exact (Kd.R_reads' HO454.out).2.1); rintro e w37 ⟨rfl, hb⟩; replace HO450 := aM (Kd.R_below (bR HO450) hb); replace HO454 := aM (Kd.R_below (bR HO454) hb); replace HO458 := aM (Kd.R_below (bR HO458) hb); replace HO462 := aM (Kd.R_below (bR HO462) hb); replace HO467 := aM (Kd.R_below (bR HO467) hb); replace BK455 := aM (blk_below (g := gb455) (o := .cells #[.int .i64 t451, .slice Ao19 t452.length co19] 52 (0, 0)) (bL BK455) hb); replace BK463 := aM (blk_below (g := gb463) (o := .cells #[.int .i64 t459, .slice Ao26 t460.length co26] 52 (0, 0)) (bL BK463) hb); replace HB := aM (below_step (bG2 GE455 GE463) hb); (try clear hi)))
    go_meet
    case rel => exact ⟨_, (!t471), bS, H', ⟨zz48⟩, ⟨bR HO454⟩, ⟨bR HO462⟩, ⟨bL BK455⟩, ⟨bL BK463⟩, ⟨bG2 GE455 GE463⟩⟩
   case rest =>
    clear HC13
    try clear c1
    try clear c2
    try clear c2b0
    try clear c2b1
    try clear p2
    try clear c3
    try clear c7
    try clear c8
    try clear c11
    try clear c13
    try clear c16
    try clear c17
    try clear c24
    try clear c30
    try clear c31
    try clear c32
    try clear c32b0
    try clear c34
    try clear hcz18_0
    try clear hcz18_1
    try clear hcz25_0
    try clear hcz25_1
    try clear hcz27_0
    try clear hcz27_1
    try clear hcz35_0
    try clear hcz35_1
    try clear hcz36_0
    try clear hcz36_1
    try clear hfz18_0
    try clear hfz18_1
    try clear hfz25_0
    try clear hfz25_1
    try clear hfz27_0
    try clear hfz27_1
    try clear hfz35_0
    try clear hfz35_1
    try clear hfz36_0
    try clear hfz36_1
    obtain ⟨kq, x39_12, rfl, HA, HJ12, HO_456001, HO_464001, BK455, BK463, HB⟩ := hcut
    cases kq with
    | zero => exact absurd HA.out (by simp [laws_FnExactParseParts.j0])
    | succ kj12 =>
     have H := HA.out
     clear HA
     simp only [laws_FnExactParseParts.j0] at H
     by_cases c38 : x39_12 = true
     ·subst c38
      have H1 : (some false) = some true := zz27
      exact absurd H1 (by simp)
     replace c38 := Bool.eq_false_iff.mpr c38
     subst c38
     have H1 : ((laws_markPartsResult.f kj12 t459 t460 1).bind fun bt472 => ((laws_heldPartsResult.f kj12 t459 bt472.2 1).bind fun t474 => (if t474 < 0 then (some false) else (if t474 = bt472.1 then ((laws_toByteS.f kj12 l0).bind fun t475 => ((impl_ParseParts.f kj12 t475).bind fun bt478 => ((laws_eqPartsResult.f kj12 bt478.1 bt478.2 t451 t452).bind fun t483 => (if t483 = true then ((laws_heldPartsResult.f kj12 t459 bt472.2 1).bind fun t484 => (if t484 < 0 then (some false) else (if t484 = bt472.1 then (some true) else (some false)))) else (some false))))) else (some false))))) = some true := zz14
     clear H
     have H := H1
     clear H1
     replace H := Option.bind_eq_some_iff.mp H
     obtain ⟨⟨t472, t473⟩, A390, H⟩ := H
     replace H : ((laws_heldPartsResult.f kj12 t459 t473 1).bind fun t474 => (if t474 < 0 then (some false) else (if t474 = t472 then ((laws_toByteS.f kj12 l0).bind fun t475 => ((impl_ParseParts.f kj12 t475).bind fun bt478 => ((laws_eqPartsResult.f kj12 bt478.1 bt478.2 t451 t452).bind fun t483 => (if t483 = true then ((laws_heldPartsResult.f kj12 t459 t473 1).bind fun t484 => (if t484 < 0 then (some false) else (if t484 = t472 then (some true) else (some false)))) else (some false))))) else (some false)))) = some true := H
     have A39 := aM A390
     clear A390
     replace H := Option.bind_eq_some_iff.mp H
     obtain ⟨t474, A400, H⟩ := H
     replace H : (if t474 < 0 then (some false) else (if t474 = t472 then ((laws_toByteS.f kj12 l0).bind fun t475 => ((impl_ParseParts.f kj12 t475).bind fun bt478 => ((laws_eqPartsResult.f kj12 bt478.1 bt478.2 t451 t452).bind fun t483 => (if t483 = true then ((laws_heldPartsResult.f kj12 t459 t473 1).bind fun t484 => (if t484 < 0 then (some false) else (if t484 = t472 then (some true) else (some false)))) else (some false))))) else (some false))) = some true := H
     have A40 := aM A400
     clear A400
     have HQ_ := aM H
     clear H
     have hnb42 := NB463_455.out
     have hnc42 := NB455_463.out
     have hcz43_0 : wc.cell? ⟨gb463, 0, none⟩ = some (.int .i64 t459) := (blk_cell BK463.out 0).trans rfl
     have hcz43_1 : wc.cell? ⟨gb463, 1, none⟩ = some (.slice Ao26 t460.length co26) := (blk_cell BK463.out 1).trans rfl
     have hfz43_0 := blk_frozen BK463.out 0
     have hfz43_1 := blk_frozen BK463.out 1
     have H := HQ_.out
     clear HQ_
     by_cases c41 : t474 < 0
     ·rw [if_pos c41] at H
      exact absurd H (by simp)
     rw [if_neg c41] at H
     have c41b0 : decide (t474 < 0) = false := decide_eq_false c41
     clear c41
     (try simp only [c41b0])
     by_cases c47 : t474 = t472
     ·rw [if_pos c47] at H
      have c47b0 : (t474 == t472) = true := beq_iff_eq.mpr c47
      have c47b1 : (t474 != t472) = false := bne_eq_false_iff_eq.mpr c47
      clear c47
      replace H := Option.bind_eq_some_iff.mp H
      obtain ⟨t475, A480, H⟩ := H
      replace H : ((impl_ParseParts.f kj12 t475).bind fun bt478 => ((laws_eqPartsResult.f kj12 bt478.1 bt478.2 t451 t452).bind fun t483 => (if t483 = true then ((laws_heldPartsResult.f kj12 t459 t473 1).bind fun t484 => (if t484 < 0 then (some false) else (if t484 = t472 then (some true) else (some false)))) else (some false)))) = some true := H
      have A48 := aM A480
      clear A480
      replace H := Option.bind_eq_some_iff.mp H
      obtain ⟨⟨t478, t479⟩, A490, H⟩ := H
      replace H : ((laws_eqPartsResult.f kj12 t478 t479 t451 t452).bind fun t483 => (if t483 = true then ((laws_heldPartsResult.f kj12 t459 t473 1).bind fun t484 => (if t484 < 0 then (some false) else (if t484 = t472 then (some true) else (some false)))) else (some false))) = some true := H
      have A49 := aM A490
      clear A490
      replace H := Option.bind_eq_some_iff.mp H
      obtain ⟨t483, A500, H⟩ := H
      replace H : (if t483 = true then ((laws_heldPartsResult.f kj12 t459 t473 1).bind fun t484 => (if t484 < 0 then (some false) else (if t484 = t472 then (some true) else (some false)))) else (some false)) = some true := H
      have A50 := aM A500
      clear A500
      (try simp only [c47b0, c47b1])
      by_cases c51 : t483 = true
      ·subst c51
       have H1 : ((laws_heldPartsResult.f kj12 t459 t473 1).bind fun t484 => (if t484 < 0 then (some false) else (if t484 = t472 then (some true) else (some false)))) = some true := zz27
       clear H
       have H := H1
       clear H1
       replace H := Option.bind_eq_some_iff.mp H
       obtain ⟨t484, A520, H⟩ := H
       replace H : (if t484 < 0 then (some false) else (if t484 = t472 then (some true) else (some false))) = some true := H
       have A52 := aM A520
       clear A520
       by_cases c53 : t484 < 0
       ·rw [if_pos c53] at H
        exact absurd H (by simp)
       rw [if_neg c53] at H
       have c53b0 : decide (t484 < 0) = false := decide_eq_false c53
       clear c53
       (try simp only [c53b0])
       by_cases c71 : t484 = t472
       ·rw [if_pos c71] at H
        have c71b0 : (t484 == t472) = true := beq_iff_eq.mpr c71
        have c71b1 : (t484 != t472) = false := bne_eq_false_iff_eq.mpr c71
        clear c71
        have HTR_ := Option.some.inj H
        (try simp only [c71b0, c71b1])
        go_wp2_with (first | ((with_reducible refine gate_callee (f := 33) rfl ?_); refine gL_ (some 42) Tryd.func33 #[.agg #[.int .i64 t459, .slice Ao26 t460.length co26], .int .i64 1] ?_; (with_reducible refine (laws_markPartsResult.calls kj12 t459 (fun k_ => some k_ = (.slice Ao26 t460.length co26 : Value).ownBlock) (.slice Ao26 t460.length co26) t460 1 t472 t473 w _ ?side1 ?side2 A39.out).mono ?_); (case side1 => repeat (first | (with_reducible first | exact HB.out | apply below_alloc | apply pw_below_drewN | apply below_drew1 | refine below_set ?_ GE455.out | refine below_set ?_ GE463.out) | exact HB.out)); (case side2 => exact Kd.R_tight rfl HO_464001.out); rintro e w74 ⟨rfl, hy0, hb, hkp⟩; refine ⟨_, rfl, ?_⟩; replace HO_456001 := aM (Kd.R_mono (ok' := fun k_ => some k_ ≠ (.slice Ao26 t460.length co26 : Value).ownBlock) (Kd.R_keptB (HO_456001.out) hkp (fun k_ hk_ hs_ => (hk_) hs_)) (fun k_ hk_ => hk_.1)); replace BK455 := aM (blk_kept (bL BK455) hkp (fun hs_ => (fun e_ => (Kd.R_ne HO_464001.out BK455.out (by decide)) e_) hs_)); replace BK463 := aM (blk_kept (bL BK463) hkp (fun hs_ => (fun e_ => (Kd.R_ne HO_464001.out BK463.out (by decide)) e_) hs_)); replace HO_464001 := aM (Kd.R_reok rfl hy0 (fun k_ e_ => HO_464001.out.1 k_ e_)); replace HB := aM (hb); (try clear hkp); (try clear hy0); have hcz75_0 : w74.cell? ⟨gb463, 0, none⟩ = some (.int .i64 t459) := (blk_cell BK463.out 0).trans rfl; have hcz75_1 : w74.cell? ⟨gb463, 1, none⟩ = some (.slice Ao26 t460.length co26) := (blk_cell BK463.out 1).trans rfl; have hfz75_0 := blk_frozen BK463.out 0; have hfz75_1 := blk_frozen BK463.out 1) | ((with_reducible refine gate_callee (f := 34) rfl ?_); refine goesL_ (some 45) rfl rfl Tryd.func34 (by kernel_rfl) rfl #[.agg #[.int .i64 t459, .slice Ao26 t473.length co26], .int .i64 1] rfl (by (try simp only [List.map_toArray, List.map_cons, List.map_nil]); first | done | (rw [show t473.length = t460.length from (Kd.R_reads' HO_464001.out).1.symm] <;> rfl) | rfl | (simp only [List.length_drop, List.length_take]; rfl)) ?_; (with_reducible refine (laws_heldPartsResult.calls kj12 t459 _ _ t473 1 t474 _ ?side1 ?side2 A40.out).mono ?_); (case side1 => exact zz7 HO_464001.out); (case side2 => rw [show t473.length = t460.length from (Kd.R_reads' HO_464001.out).1.symm]; exact (Kd.R_reads' HO_464001.out).2.1); rintro e w76 ⟨rfl, hb⟩; refine ⟨_, rfl, ?_⟩; replace HO_456001 := aM (Kd.R_below (bR HO_456001) hb); replace HO_464001 := aM (Kd.R_below (bR HO_464001) hb); replace BK455 := aM (blk_below (g := gb455) (o := .cells #[.int .i64 t451, .slice Ao19 t452.length co19] 52 (0, 0)) (bL BK455) hb); replace BK463 := aM (blk_below (g := gb463) (o := .cells #[.int .i64 t459, .slice Ao26 t460.length co26] 52 (0, 0)) (bL BK463) hb); replace HB := aM (below_step (bG2 GE455 GE463) hb); (try clear hi)) | ((with_reducible refine gate_callee (f := 13) rfl ?_); refine gL_ (some 52) Tryd.func13 #[.slice A0 l0.length c0] ?_; (with_reducible refine (laws_toByteS.calls kj12 _ _ l0 t475 _ ?side1 ?side2 A48.out).mono ?_); (case side1 => exact zz6 HR0.out); (case side2 => exact HC0.out); rintro e w77 ⟨v476, rfl, ho0, hb⟩; refine ⟨_, rfl, ?_⟩; replace HO_456001 := aM (Kd.R_below (bR HO_456001) hb); replace HO_464001 := aM (Kd.R_below (bR HO_464001) hb); have HO477 := aM (Kd.R_lower ho0 (below_size (bG2 GE455 GE463))); replace BK455 := aM (blk_below (g := gb455) (o := .cells #[.int .i64 t451, .slice Ao19 t452.length co19] 52 (0, 0)) (bL BK455) hb); replace BK463 := aM (blk_below (g := gb463) (o := .cells #[.int .i64 t459, .slice Ao26 t460.length co26] 52 (0, 0)) (bL BK463) hb); replace HB := aM (below_step (bG2 GE455 GE463) hb); (try clear ho0); obtain ⟨Ao78, co78, eo78⟩ := Kd.R_slice HO477.out; subst eo78) | ((with_reducible refine gate_callee (f := 31) rfl ?_); refine gL_ (some 53) Tryd.func31 #[.slice Ao78 t475.length co78] ?_; (with_reducible refine (impl_ParseParts.calls kj12 _ _ t475 t478 t479 _ ?side1 ?side2 A49.out).mono ?_); (case side1 => exact zz7 HO477.out); (case side2 => exact (Kd.R_reads' HO477.out).2.1); rintro e w79 ⟨v480, rfl, ho0, hb⟩; refine ⟨_, rfl, ?_⟩; replace HO477 := aM (Kd.R_below (bR HO477) hb); have HO481 := aM (Kd.R_lower (Kd.R_new' (Kd.R_new' ho0 (Kd.R_lt (bR HO_456001))) (Kd.R_lt (bR HO_464001))) (below_size (bG2 GE455 GE463))); replace HO_456001 := aM (Kd.R_elder' (bR HO_456001) (Kd.R_base ho0) hb); replace HO_464001 := aM (Kd.R_elder' (bR HO_464001) (Kd.R_base ho0) hb); replace BK455 := aM (blk_below (g := gb455) (o := .cells #[.int .i64 t451, .slice Ao19 t452.length co19] 52 (0, 0)) (bL BK455) hb); replace BK463 := aM (blk_below (g := gb463) (o := .cells #[.int .i64 t459, .slice Ao26 t460.length co26] 52 (0, 0)) (bL BK463) hb); replace HB := aM (below_step (bG2 GE455 GE463) hb); (try clear ho0)) | ((with_reducible refine gate_dst (N := 9) rfl ?_); refine box_event ?hg (N := 9) ?hd (cs := #[.int .i64 0, .slice none 0 0]) (t := 52) ?hr ?_; (case hd => rfl); (case hg => rfl); (case hr => exact zz10); intro gb482 hg w80 hbox hb; replace HO_456001 := aM (Kd.R_below (bR HO_456001) hb); replace HO_464001 := aM (Kd.R_below (bR HO_464001) hb); replace HO477 := aM (Kd.R_below (bR HO477) hb); replace HO481 := aM (Kd.R_below (bR HO481) hb); have BK482 := aM (hbox); have GW482 := aM ((by rw [hg]; exact (below_size (bG2 GE455 GE463)) : w.heap.size ≤ gb482)); have GE482 := aM ((by rw [hg]; exact (below_size (bG2 GE455 GE463)) : w.heap.size ≤ gb482)); replace HB := aM (below_step (bG2 GE455 GE463) hb); have NB455_482 := aM ((by rw [hg]; exact Nat.ne_of_lt (blk_lt (g := gb455) (o := .cells #[.int .i64 t451, .slice Ao19 t452.length co19] 52 (0, 0)) (bL BK455)) : gb455 ≠ gb482)); have NB482_455 := aM ((by rw [hg]; exact Nat.ne_of_gt (blk_lt (g := gb455) (o := .cells #[.int .i64 t451, .slice Ao19 t452.length co19] 52 (0, 0)) (bL BK455)) : gb482 ≠ gb455)); replace BK455 := aM (blk_below (g := gb455) (o := .cells #[.int .i64 t451, .slice Ao19 t452.length co19] 52 (0, 0)) (bL BK455) hb); have NB463_482 := aM ((by rw [hg]; exact Nat.ne_of_lt (blk_lt (g := gb463) (o := .cells #[.int .i64 t459, .slice Ao26 t460.length co26] 52 (0, 0)) (bL BK463)) : gb463 ≠ gb482)); have NB482_463 := aM ((by rw [hg]; exact Nat.ne_of_gt (blk_lt (g := gb463) (o := .cells #[.int .i64 t459, .slice Ao26 t460.length co26] 52 (0, 0)) (bL BK463)) : gb482 ≠ gb463)); replace BK463 := aM (blk_below (g := gb463) (o := .cells #[.int .i64 t459, .slice Ao26 t460.length co26] 52 (0, 0)) (bL BK463) hb); clear hb hbox hg; have hnb81 := NB482_455.out; have hnc81 := NB455_482.out; have hnb82 := NB482_463.out; have hnc82 := NB463_482.out; have hcz83_0 : w80.cell? ⟨gb482, 0, none⟩ = some (.int .i64 0) := (blk_cell BK482.out 0).trans rfl; have hcz83_1 : w80.cell? ⟨gb482, 1, none⟩ = some (.slice none 0 0) := (blk_cell BK482.out 1).trans rfl; have hfz83_0 := blk_frozen BK482.out 0; have hfz83_1 := blk_frozen BK482.out 1; obtain ⟨Ao84, co84, eo84⟩ := Kd.R_slice HO481.out; subst eo84; have hcz85_0 : w80.cell? ⟨gb455, 0, none⟩ = some (.int .i64 t451) := (blk_cell BK455.out 0).trans rfl; have hcz85_1 : w80.cell? ⟨gb455, 1, none⟩ = some (.slice Ao19 t452.length co19) := (blk_cell BK455.out 1).trans rfl; have hfz85_0 := blk_frozen BK455.out 0; have hfz85_1 := blk_frozen BK455.out 1) | ((with_reducible refine gate_callee (f := 32) rfl ?_); refine gL_ (some 56) Tryd.func32 #[.agg #[.int .i64 t478, .slice Ao84 t479.length co84], .agg #[.int .i64 t451, .slice Ao19 t452.length co19]] ?_; (with_reducible refine (laws_eqPartsResult.calls kj12 t478 _ _ t479 t451 _ _ t452 true _ ?side1 ?side2 ?side3 ?side4 A50.out).mono ?_); (case side1 => refine (Kd.R_reads' (e := 23) (base := w.heap.size) (ok := fun k_ => ((True ∧ some k_ ≠ (.slice Ao19 t452.length co19 : Value).ownBlock) ∧ some k_ ≠ (.slice Ao26 t460.length co26 : Value).ownBlock)) (n := t479.length) (c := co84) ?_).2.2; exact (zz20 HO481.out BK482.out)); (case side2 => exact (Kd.R_reads' HO481.out).2.1); (case side3 => refine (Kd.R_reads' (e := 23) (base := w.heap.size) (ok := fun k_ => (some k_ ≠ (.slice Ao26 t460.length co26 : Value).ownBlock ∧ some k_ ≠ (.slice Ao84 t479.length co84 : Value).ownBlock)) (n := t452.length) (c := co19) ?_).2.2; exact (zz20 HO_456001.out BK482.out)); (case side4 => exact (Kd.R_reads' HO_456001.out).2.1); rintro e w86 ⟨rfl, hb⟩; refine ⟨_, rfl, ?_⟩; replace HO_456001 := aM (Kd.R_below (zz20 HO_456001.out BK482.out) hb); replace HO_464001 := aM (Kd.R_below (zz20 HO_464001.out BK482.out) hb); replace HO477 := aM (Kd.R_below (zz20 HO477.out BK482.out) hb); replace HO481 := aM (Kd.R_below (zz20 HO481.out BK482.out) hb); replace BK455 := aM (blk_below (g := gb455) (o := .cells #[.int .i64 t451, .slice Ao19 t452.length co19] 52 (0, 0)) (zz16 NB455_482.out BK455.out) hb); replace BK463 := aM (blk_below (g := gb463) (o := .cells #[.int .i64 t459, .slice Ao26 t460.length co26] 52 (0, 0)) (zz16 NB463_482.out BK463.out) hb); replace BK482 := aM (blk_below (g := gb482) (o := .cells #[.int .i64 t478, .slice Ao84 t479.length co84] 52 (0, 0)) (by (with_reducible repeat (first | refine blk_drewN ?_ _ | refine blk_drew ?_ | refine blk_alloc ?_ _)); refine blk_put (cs := #[.int .i64 t478, .slice none 0 0]) ?_ 1 _ rfl; (with_reducible repeat (first | refine blk_drewN ?_ _ | refine blk_drew ?_ | refine blk_alloc ?_ _)); refine blk_put (cs := #[.int .i64 0, .slice none 0 0]) ?_ 0 _ rfl; (with_reducible repeat (first | refine blk_drewN ?_ _ | refine blk_drew ?_ | refine blk_alloc ?_ _)); exact BK482.out) hb); replace HB := aM (below_step (zz25 GE455.out GE463.out GE482.out) hb); have hcz87_0 : w86.cell? ⟨gb463, 0, none⟩ = some (.int .i64 t459) := (blk_cell BK463.out 0).trans rfl; have hcz87_1 : w86.cell? ⟨gb463, 1, none⟩ = some (.slice Ao26 t460.length co26) := (blk_cell BK463.out 1).trans rfl; have hfz87_0 := blk_frozen BK463.out 0; have hfz87_1 := blk_frozen BK463.out 1) | ((with_reducible refine gate_callee (f := 34) rfl ?_); refine goesL_ (some 60) rfl rfl Tryd.func34 (by kernel_rfl) rfl #[.agg #[.int .i64 t459, .slice Ao26 t473.length co26], .int .i64 1] rfl (by (try simp only [List.map_toArray, List.map_cons, List.map_nil]); first | done | (rw [show t473.length = t460.length from (Kd.R_reads' HO_464001.out).1.symm] <;> rfl) | rfl | (simp only [List.length_drop, List.length_take]; rfl)) ?_; (with_reducible refine (laws_heldPartsResult.calls kj12 t459 _ _ t473 1 t484 _ ?side1 ?side2 A52.out).mono ?_); (case side1 => exact zz7 HO_464001.out); (case side2 => rw [show t473.length = t460.length from (Kd.R_reads' HO_464001.out).1.symm]; exact (Kd.R_reads' HO_464001.out).2.1); rintro e w88 ⟨rfl, hb⟩; refine ⟨_, rfl, ?_⟩; replace HO_456001 := aM (Kd.R_below (bR HO_456001) hb); replace HO_464001 := aM (Kd.R_below (bR HO_464001) hb); replace HO477 := aM (Kd.R_below (bR HO477) hb); replace HO481 := aM (Kd.R_below (bR HO481) hb); replace BK455 := aM (blk_below (g := gb455) (o := .cells #[.int .i64 t451, .slice Ao19 t452.length co19] 52 (0, 0)) (bL BK455) hb); replace BK463 := aM (blk_below (g := gb463) (o := .cells #[.int .i64 t459, .slice Ao26 t460.length co26] 52 (0, 0)) (bL BK463) hb); replace BK482 := aM (blk_below (g := gb482) (o := .cells #[.int .i64 t478, .slice Ao84 t479.length co84] 52 (0, 0)) (bL BK482) hb); replace HB := aM (below_step (zz25 GE455.out GE463.out GE482.out) hb); (try clear hi)))
        go_ret
        exact ⟨bE, zz25 GE455.out GE463.out GE482.out⟩
       rw [if_neg c71] at H
       exact absurd H (by simp)
      replace c51 := Bool.eq_false_iff.mpr c51
      subst c51
      have H1 : (some false) = some true := zz14
      exact absurd H1 (by simp)
     rw [if_neg c47] at H
     exact absurd H (by simp)
  replace c11 := Bool.eq_false_iff.mpr c11
  subst c11
  have H1 : (some false) = some true := zz14
  exact absurd H1 (by simp)
 replace c8 := Bool.eq_false_iff.mpr c8
 subst c8
 have H1 : (some false) = some true := zz14
 exact absurd H1 (by simp)
def laws_FnExactParseParts.Pure : Prop := ∀ (l0 : List Int), l0.length ≤ maxLen → l0.length * 1 ≤ 140737488351232 → (∀ x ∈ l0, (Lit.int .u8 x).wf = true) → ∃ k, laws_FnExactParseParts.f k l0 = some true
theorem laws_FnExactParseParts.walk (P : laws_FnExactParseParts.Pure) (a0 : Option Addr) (len0 cap0 : Nat) (z0 : List Int) (w : World) (w0 : (a0 = none ∧ len0 = 0 ∧ cap0 = 0 ∧ z0 = []) ∨ ∃ x, a0 = some x ∧ len0 ≤ cap0 ∧ cap0 ≤ maxLen ∧ z0.length = cap0 ∧ (∀ i, i < z0.length → w.cell? (x.add i) = some (.int .u8 (z0.getD i 0))) ∧ ∀ n ∈ z0, (Lit.int .u8 n).wf = true) (y0 : len0 * 1 ≤ 140737488351232) :
  Calls Tryd.prog 7 #[.slice a0 len0 cap0] w fun e w' => e = .returned (.bool true) ∧ Below w.heap.size w w' := by
 obtain ⟨l0, rfl, hr0, hm0, hw0, hc0⟩ := ReadsInt.ofRowC w0
 obtain ⟨k, h⟩ := P l0 hm0 y0 hw0
 refine (laws_FnExactParseParts.calls k _ _ l0 w (Kd.C_of_reads (d := (0 : Int)) (h1 := fun _ => rfl) hr0) hc0 h).mono ?_
 rintro e w' ⟨rfl, hd⟩
 exact ⟨rfl, hd⟩
end Go.Proofs.YtecpanfndodjgaaDoor.PParseParts
