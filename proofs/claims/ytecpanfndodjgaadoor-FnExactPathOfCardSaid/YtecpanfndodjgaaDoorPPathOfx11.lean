/- Part of the proof; words that it uses. -/
import Derived.Test.YtecpanfndodjgaaDoorPPathOfx0
import Derived.Test.YtecpanfndodjgaaDoorPPathOfx1
import Derived.Test.YtecpanfndodjgaaDoorPPathOfx5
import Derived.Test.YtecpanfndodjgaaDoorPPathOfx10
namespace Go.Proofs.YtecpanfndodjgaaDoor.PPathOf
open Go.RowKit Go.Proofs.YtecpanfndodjgaaDoorW.PrintWords Go.Proofs.YtecpanfndodjgaaDoorW.PrintLast Go.Proofs.YtecpanfndodjgaaDoorW.PrintMore
attribute [local go_sem] max2_int max_two
set_option linter.unusedVariables false
set_option linter.unusedSimpArgs false
def laws_FnExactPathOf.j0 : Nat → List Int → Int → Bool → Int → List Int → Int → List Int → Option (Bool)
 | 0, _, _, _, _, _, _, _ => none
 | k + 1, x0, x1, x43, x479000, x479001, x487000, x487001 => if x43 = true then (some false) else ((laws_markIntsResult.f k x487000 x487001 1).bind fun bt495 => ((laws_heldIntsResult.f k x487000 bt495.2 1).bind fun t497 => (if t497 < 0 then (some false) else (if t497 = bt495.1 then ((laws_toByteS.f k x0).bind fun t498 => ((impl_PathOf.f k t498 x1).bind fun bt501 => ((laws_eqIntsResult.f k bt501.1 bt501.2 x479000 x479001).bind fun t506 => (if t506 = true then ((laws_heldIntsResult.f k x487000 bt495.2 1).bind fun t507 => (if t507 < 0 then (some false) else (if t507 = bt495.1 then (some true) else (some false)))) else (some false))))) else (some false)))))
def laws_FnExactPathOf.f (k : Nat) (l0 : List Int) (a1 : Int) : Option (Bool) := if (l0.length : Int) > 1048576 then (some true) else ((laws_toByteS.f k l0).bind fun t471 => ((spec_PathOf.f k t471 a1).bind fun bt474 => ((laws_toByteS.f k l0).bind fun t479 => ((impl_PathOf.f k t479 a1).bind fun bt482 => ((laws_eqIntsResult.f k bt482.1 bt482.2 bt474.1 bt474.2).bind fun t487 => (if t487 = true then ((laws_toByteS.f k l0).bind fun t488 => ((laws_eqByteS.f k t479 t488).bind fun t491 => (if t491 = true then ((laws_markByteS.f k t479 1).bind fun bt492 => (if bt492.1 < 0 then (laws_FnExactPathOf.j0 k l0 a1 true bt474.1 bt474.2 bt482.1 bt482.2) else ((laws_eqIntsResult.f k bt482.1 bt482.2 bt474.1 bt474.2).bind fun t494 => (laws_FnExactPathOf.j0 k l0 a1 (!t494) bt474.1 bt474.2 bt482.1 bt482.2)))) else (some false)))) else (some false)))))))
set_option maxHeartbeats 8000000 in
set_option maxRecDepth 100000 in
theorem laws_FnExactPathOf.calls (k : Nat) (A0 : Option Addr) (c0 : Nat) (l0 : List Int) (a1 : Int) (w : World) (hr0 : Kd.C (Kd.int .u8) w A0 l0.length l0) (hc0 : l0.length ≤ c0) (h : laws_FnExactPathOf.f k l0 a1 = some true) :
  Calls Tryd.prog 6 #[.slice A0 l0.length c0, .int .i64 a1] w fun e w' => e = .returned (.bool true) ∧ Below w.heap.size w w' := by
 have hu46 := Tryd.underlying46
 have HR0 := aM hr0
 have HC0 := aM hc0
 clear hr0 hc0
 have HB := aM (Below.refl w.heap.size w)
 have H : (if (l0.length : Int) > 1048576 then (some true) else ((laws_toByteS.f k l0).bind fun t471 => ((spec_PathOf.f k t471 a1).bind fun bt474 => ((laws_toByteS.f k l0).bind fun t479 => ((impl_PathOf.f k t479 a1).bind fun bt482 => ((laws_eqIntsResult.f k bt482.1 bt482.2 bt474.1 bt474.2).bind fun t487 => (if t487 = true then ((laws_toByteS.f k l0).bind fun t488 => ((laws_eqByteS.f k t479 t488).bind fun t491 => (if t491 = true then ((laws_markByteS.f k t479 1).bind fun bt492 => (if bt492.1 < 0 then (laws_FnExactPathOf.j0 k l0 a1 true bt474.1 bt474.2 bt482.1 bt482.2) else ((laws_eqIntsResult.f k bt482.1 bt482.2 bt474.1 bt474.2).bind fun t494 => (laws_FnExactPathOf.j0 k l0 a1 (!t494) bt474.1 bt474.2 bt482.1 bt482.2)))) else (some false)))) else (some false)))))))) = some true := h
 clear h
 have HQ_ := aM H
 clear H
 go_enter Tryd.func6, Tryd.ntmps6
 have H := HQ_.out
 clear HQ_
 by_cases c3 : (l0.length : Int) > 1048576
 ·rw [if_pos c3] at H
  have c3b0 : decide (1048576 < (l0.length : Int)) = true := decide_eq_true c3
  have c3b1 : decide (1048576 < l0.length) = true := decide_eq_true (by omega)
  clear c3
  have HTR_ := Option.some.inj H
  (try simp only [c3b0, c3b1])
  go_wp2
  go_ret
  exact ⟨bE, bB⟩
 rw [if_neg c3] at H
 have c3b0 : decide (1048576 < (l0.length : Int)) = false := decide_eq_false c3
 have c3b1 : decide (1048576 < l0.length) = false := decide_eq_false (by omega)
 clear c3
 replace H := Option.bind_eq_some_iff.mp H
 obtain ⟨t471, A40, H⟩ := H
 replace H : ((spec_PathOf.f k t471 a1).bind fun bt474 => ((laws_toByteS.f k l0).bind fun t479 => ((impl_PathOf.f k t479 a1).bind fun bt482 => ((laws_eqIntsResult.f k bt482.1 bt482.2 bt474.1 bt474.2).bind fun t487 => (if t487 = true then ((laws_toByteS.f k l0).bind fun t488 => ((laws_eqByteS.f k t479 t488).bind fun t491 => (if t491 = true then ((laws_markByteS.f k t479 1).bind fun bt492 => (if bt492.1 < 0 then (laws_FnExactPathOf.j0 k l0 a1 true bt474.1 bt474.2 bt482.1 bt482.2) else ((laws_eqIntsResult.f k bt482.1 bt482.2 bt474.1 bt474.2).bind fun t494 => (laws_FnExactPathOf.j0 k l0 a1 (!t494) bt474.1 bt474.2 bt482.1 bt482.2)))) else (some false)))) else (some false)))))) = some true := H
 have A4 := aM A40
 clear A40
 replace H := Option.bind_eq_some_iff.mp H
 obtain ⟨⟨t474, t475⟩, A50, H⟩ := H
 replace H : ((laws_toByteS.f k l0).bind fun t479 => ((impl_PathOf.f k t479 a1).bind fun bt482 => ((laws_eqIntsResult.f k bt482.1 bt482.2 t474 t475).bind fun t487 => (if t487 = true then ((laws_toByteS.f k l0).bind fun t488 => ((laws_eqByteS.f k t479 t488).bind fun t491 => (if t491 = true then ((laws_markByteS.f k t479 1).bind fun bt492 => (if bt492.1 < 0 then (laws_FnExactPathOf.j0 k l0 a1 true t474 t475 bt482.1 bt482.2) else ((laws_eqIntsResult.f k bt482.1 bt482.2 t474 t475).bind fun t494 => (laws_FnExactPathOf.j0 k l0 a1 (!t494) t474 t475 bt482.1 bt482.2)))) else (some false)))) else (some false))))) = some true := H
 have A5 := aM A50
 clear A50
 replace H := Option.bind_eq_some_iff.mp H
 obtain ⟨t479, A60, H⟩ := H
 replace H : ((impl_PathOf.f k t479 a1).bind fun bt482 => ((laws_eqIntsResult.f k bt482.1 bt482.2 t474 t475).bind fun t487 => (if t487 = true then ((laws_toByteS.f k l0).bind fun t488 => ((laws_eqByteS.f k t479 t488).bind fun t491 => (if t491 = true then ((laws_markByteS.f k t479 1).bind fun bt492 => (if bt492.1 < 0 then (laws_FnExactPathOf.j0 k l0 a1 true t474 t475 bt482.1 bt482.2) else ((laws_eqIntsResult.f k bt482.1 bt482.2 t474 t475).bind fun t494 => (laws_FnExactPathOf.j0 k l0 a1 (!t494) t474 t475 bt482.1 bt482.2)))) else (some false)))) else (some false)))) = some true := H
 have A6 := aM A60
 clear A60
 replace H := Option.bind_eq_some_iff.mp H
 obtain ⟨⟨t482, t483⟩, A70, H⟩ := H
 replace H : ((laws_eqIntsResult.f k t482 t483 t474 t475).bind fun t487 => (if t487 = true then ((laws_toByteS.f k l0).bind fun t488 => ((laws_eqByteS.f k t479 t488).bind fun t491 => (if t491 = true then ((laws_markByteS.f k t479 1).bind fun bt492 => (if bt492.1 < 0 then (laws_FnExactPathOf.j0 k l0 a1 true t474 t475 t482 t483) else ((laws_eqIntsResult.f k t482 t483 t474 t475).bind fun t494 => (laws_FnExactPathOf.j0 k l0 a1 (!t494) t474 t475 t482 t483)))) else (some false)))) else (some false))) = some true := H
 have A7 := aM A70
 clear A70
 replace H := Option.bind_eq_some_iff.mp H
 obtain ⟨t487, A80, H⟩ := H
 replace H : (if t487 = true then ((laws_toByteS.f k l0).bind fun t488 => ((laws_eqByteS.f k t479 t488).bind fun t491 => (if t491 = true then ((laws_markByteS.f k t479 1).bind fun bt492 => (if bt492.1 < 0 then (laws_FnExactPathOf.j0 k l0 a1 true t474 t475 t482 t483) else ((laws_eqIntsResult.f k t482 t483 t474 t475).bind fun t494 => (laws_FnExactPathOf.j0 k l0 a1 (!t494) t474 t475 t482 t483)))) else (some false)))) else (some false)) = some true := H
 have A8 := aM A80
 clear A80
 (try simp only [c3b0, c3b1])
 by_cases c9 : t487 = true
 ·subst c9
  have H1 : ((laws_toByteS.f k l0).bind fun t488 => ((laws_eqByteS.f k t479 t488).bind fun t491 => (if t491 = true then ((laws_markByteS.f k t479 1).bind fun bt492 => (if bt492.1 < 0 then (laws_FnExactPathOf.j0 k l0 a1 true t474 t475 t482 t483) else ((laws_eqIntsResult.f k t482 t483 t474 t475).bind fun t494 => (laws_FnExactPathOf.j0 k l0 a1 (!t494) t474 t475 t482 t483)))) else (some false)))) = some true := zz25
  clear H
  have H := H1
  clear H1
  replace H := Option.bind_eq_some_iff.mp H
  obtain ⟨t488, A100, H⟩ := H
  replace H : ((laws_eqByteS.f k t479 t488).bind fun t491 => (if t491 = true then ((laws_markByteS.f k t479 1).bind fun bt492 => (if bt492.1 < 0 then (laws_FnExactPathOf.j0 k l0 a1 true t474 t475 t482 t483) else ((laws_eqIntsResult.f k t482 t483 t474 t475).bind fun t494 => (laws_FnExactPathOf.j0 k l0 a1 (!t494) t474 t475 t482 t483)))) else (some false))) = some true := H
  have A10 := aM A100
  clear A100
  replace H := Option.bind_eq_some_iff.mp H
  obtain ⟨t491, A110, H⟩ := H
  replace H : (if t491 = true then ((laws_markByteS.f k t479 1).bind fun bt492 => (if bt492.1 < 0 then (laws_FnExactPathOf.j0 k l0 a1 true t474 t475 t482 t483) else ((laws_eqIntsResult.f k t482 t483 t474 t475).bind fun t494 => (laws_FnExactPathOf.j0 k l0 a1 (!t494) t474 t475 t482 t483)))) else (some false)) = some true := H
  have A11 := aM A110
  clear A110
  by_cases c12 : t491 = true
  ·subst c12
   have H1 : ((laws_markByteS.f k t479 1).bind fun bt492 => (if bt492.1 < 0 then (laws_FnExactPathOf.j0 k l0 a1 true t474 t475 t482 t483) else ((laws_eqIntsResult.f k t482 t483 t474 t475).bind fun t494 => (laws_FnExactPathOf.j0 k l0 a1 (!t494) t474 t475 t482 t483)))) = some true := zz25
   clear H
   have H := H1
   clear H1
   replace H := Option.bind_eq_some_iff.mp H
   obtain ⟨⟨t492, t493⟩, A130, H⟩ := H
   replace H : (if t492 < 0 then (laws_FnExactPathOf.j0 k l0 a1 true t474 t475 t482 t483) else ((laws_eqIntsResult.f k t482 t483 t474 t475).bind fun t494 => (laws_FnExactPathOf.j0 k l0 a1 (!t494) t474 t475 t482 t483))) = some true := H
   have A13 := aM A130
   clear A130
   have HC14 := aM H
   clear H
   go_upto_region 12 with (first | ((with_reducible refine gate_callee (f := 13) rfl ?_); refine gL_ (some 16) Tryd.func13 #[.slice A0 l0.length c0] ?_; (with_reducible refine (laws_toByteS.calls k _ _ l0 t471 _ ?side1 ?side2 A4.out).mono ?_); (case side1 => exact zz32 HR0.out); (case side2 => exact HC0.out); rintro e w15 ⟨v472, rfl, ho0, hb⟩; refine ⟨_, rfl, ?_⟩; have HO473 := aM (Kd.R_lower ho0 (below_size bB)); replace HB := aM (below_step bB hb); (try clear ho0); obtain ⟨Ao16, co16, eo16⟩ := Kd.R_slice HO473.out; subst eo16) | ((with_reducible refine gate_callee (f := 25) rfl ?_); refine gL_ (some 18) Tryd.func25 #[.slice Ao16 t471.length co16, .int .i64 a1] ?_; (with_reducible refine (spec_PathOf.calls k _ _ t471 a1 t474 t475 _ ?side1 ?side2 A5.out).mono ?_); (case side1 => exact zz7 HO473.out); (case side2 => exact (Kd.R_reads' HO473.out).2.1); rintro e w17 ⟨v476, rfl, ho0, hb⟩; refine ⟨_, rfl, ?_⟩; replace HO473 := aM (Kd.R_below (bR HO473) hb); have HO477 := aM (Kd.R_lower ho0 (below_size bB)); replace HB := aM (below_step bB hb); (try clear ho0)) | ((with_reducible refine gate_dst (N := 5) rfl ?_); refine box_event ?hg (N := 5) ?hd (cs := #[.int .i64 0, .slice none 0 0]) (t := 46) ?hr ?_; (case hd => rfl); (case hg => rfl); (case hr => exact zz12); intro gb478 hg w18 hbox hb; replace HO473 := aM (Kd.R_below (bR HO473) hb); replace HO477 := aM (Kd.R_below (bR HO477) hb); have BK478 := aM (hbox); have GW478 := aM ((zz20 : w.heap.size ≤ gb478)); have GE478 := aM ((zz20 : w.heap.size ≤ gb478)); replace HB := aM (below_step bB hb); clear hb hbox hg; have hcz19_0 : w18.cell? ⟨gb478, 0, none⟩ = some (.int .i64 0) := (blk_cell BK478.out 0).trans rfl; have hcz19_1 : w18.cell? ⟨gb478, 1, none⟩ = some (.slice none 0 0) := (blk_cell BK478.out 1).trans rfl; have hfz19_0 := blk_frozen BK478.out 0; have hfz19_1 := blk_frozen BK478.out 1; obtain ⟨Ao20, co20, eo20⟩ := Kd.R_slice HO477.out; subst eo20) | ((with_reducible refine gate_callee (f := 13) rfl ?_); refine gL_ (some 20) Tryd.func13 #[.slice A0 l0.length c0] ?_; (with_reducible refine (laws_toByteS.calls k _ _ l0 t479 _ ?side1 ?side2 A6.out).mono ?_); (case side1 => exact Kd.C_below HR0.out (bG GE478)); (case side2 => exact HC0.out); rintro e w21 ⟨v480, rfl, ho0, hb⟩; refine ⟨_, rfl, ?_⟩; replace HO477 := aM (Kd.R_below (zz30 HO477.out BK478.out) hb); have HO481 := aM (Kd.R_lower (Kd.R_new' ho0 (Kd.R_lt (zz30 HO473.out BK478.out))) (below_size (bG GE478))); replace HO473 := aM (Kd.R_elder' (zz30 HO473.out BK478.out) (Kd.R_base ho0) hb); replace BK478 := aM (blk_below (g := gb478) (o := .cells #[.int .i64 t474, .slice Ao20 t475.length co20] 46 (0, 0)) (by (with_reducible repeat (first | refine blk_drewN ?_ _ | refine blk_drew ?_ | refine blk_alloc ?_ _)); refine blk_put (cs := #[.int .i64 t474, .slice none 0 0]) ?_ 1 _ rfl; (with_reducible repeat (first | refine blk_drewN ?_ _ | refine blk_drew ?_ | refine blk_alloc ?_ _)); refine blk_put (cs := #[.int .i64 0, .slice none 0 0]) ?_ 0 _ rfl; (with_reducible repeat (first | refine blk_drewN ?_ _ | refine blk_drew ?_ | refine blk_alloc ?_ _)); exact BK478.out) hb); replace HB := aM (below_step (bG GE478) hb); (try clear ho0); obtain ⟨Ao22, co22, eo22⟩ := Kd.R_slice HO481.out; subst eo22) | ((with_reducible refine gate_callee (f := 26) rfl ?_); refine gL_ (some 23) Tryd.func26 #[.slice Ao22 t479.length co22, .int .i64 a1] ?_; (with_reducible refine (impl_PathOf.calls k _ _ t479 a1 t482 t483 _ ?side1 ?side2 A7.out).mono ?_); (case side1 => exact zz7 HO481.out); (case side2 => exact (Kd.R_reads' HO481.out).2.1); rintro e w23 ⟨v484, rfl, ho0, hb⟩; refine ⟨_, rfl, ?_⟩; replace HO473 := aM (Kd.R_below (bR HO473) hb); replace HO481 := aM (Kd.R_below (bR HO481) hb); have HO485 := aM (Kd.R_lower (Kd.R_new' ho0 (Kd.R_lt (bR HO477))) (below_size (bG GE478))); replace HO477 := aM (Kd.R_elder' (bR HO477) (Kd.R_base ho0) hb); replace BK478 := aM (blk_below (g := gb478) (o := .cells #[.int .i64 t474, .slice Ao20 t475.length co20] 46 (0, 0)) (bL BK478) hb); replace HB := aM (below_step (bG GE478) hb); (try clear ho0)) | ((with_reducible refine gate_dst (N := 7) rfl ?_); refine box_event ?hg (N := 7) ?hd (cs := #[.int .i64 0, .slice none 0 0]) (t := 46) ?hr ?_; (case hd => rfl); (case hg => rfl); (case hr => exact zz12); intro gb486 hg w24 hbox hb; replace HO473 := aM (Kd.R_below (bR HO473) hb); replace HO477 := aM (Kd.R_below (bR HO477) hb); replace HO481 := aM (Kd.R_below (bR HO481) hb); replace HO485 := aM (Kd.R_below (bR HO485) hb); have BK486 := aM (hbox); have GW486 := aM ((by rw [hg]; exact (below_size (bG GE478)) : w.heap.size ≤ gb486)); have GE486 := aM ((by rw [hg]; exact (below_size (bG GE478)) : w.heap.size ≤ gb486)); replace HB := aM (below_step (bG GE478) hb); have NB478_486 := aM ((by rw [hg]; exact Nat.ne_of_lt (blk_lt (g := gb478) (o := .cells #[.int .i64 t474, .slice Ao20 t475.length co20] 46 (0, 0)) (bL BK478)) : gb478 ≠ gb486)); have NB486_478 := aM ((by rw [hg]; exact Nat.ne_of_gt (blk_lt (g := gb478) (o := .cells #[.int .i64 t474, .slice Ao20 t475.length co20] 46 (0, 0)) (bL BK478)) : gb486 ≠ gb478)); replace BK478 := aM (blk_below (g := gb478) (o := .cells #[.int .i64 t474, .slice Ao20 t475.length co20] 46 (0, 0)) (bL BK478) hb); clear hb hbox hg; have hnb25 := NB486_478.out; have hnc25 := NB478_486.out; have hcz26_0 : w24.cell? ⟨gb486, 0, none⟩ = some (.int .i64 0) := (blk_cell BK486.out 0).trans rfl; have hcz26_1 : w24.cell? ⟨gb486, 1, none⟩ = some (.slice none 0 0) := (blk_cell BK486.out 1).trans rfl; have hfz26_0 := blk_frozen BK486.out 0; have hfz26_1 := blk_frozen BK486.out 1; obtain ⟨Ao27, co27, eo27⟩ := Kd.R_slice HO485.out; subst eo27; have hcz28_0 : w24.cell? ⟨gb478, 0, none⟩ = some (.int .i64 t474) := (blk_cell BK478.out 0).trans rfl; have hcz28_1 : w24.cell? ⟨gb478, 1, none⟩ = some (.slice Ao20 t475.length co20) := (blk_cell BK478.out 1).trans rfl; have hfz28_0 := blk_frozen BK478.out 0; have hfz28_1 := blk_frozen BK478.out 1) | ((with_reducible refine gate_callee (f := 27) rfl ?_); refine gL_ (some 26) Tryd.func27 #[.agg #[.int .i64 t482, .slice Ao27 t483.length co27], .agg #[.int .i64 t474, .slice Ao20 t475.length co20]] ?_; (with_reducible refine (laws_eqIntsResult.calls k t482 _ _ t483 t474 _ _ t475 true _ ?side1 ?side2 ?side3 ?side4 A8.out).mono ?_); (case side1 => refine (Kd.R_reads' (e := 2) (base := w.heap.size) (ok := fun k_ => (True ∧ some k_ ≠ (.slice Ao20 t475.length co20 : Value).ownBlock)) (n := t483.length) (c := co27) ?_).2.2; exact (zz19 HO485.out BK486.out)); (case side2 => exact (Kd.R_reads' HO485.out).2.1); (case side3 => refine (Kd.R_reads' (e := 2) (base := w.heap.size) (ok := fun k_ => (True ∧ some k_ ≠ (.slice Ao27 t483.length co27 : Value).ownBlock)) (n := t475.length) (c := co20) ?_).2.2; exact (zz19 HO477.out BK486.out)); (case side4 => exact (Kd.R_reads' HO477.out).2.1); rintro e w29 ⟨rfl, hb⟩; refine ⟨_, rfl, ?_⟩; replace HO473 := aM (Kd.R_below (zz19 HO473.out BK486.out) hb); replace HO477 := aM (Kd.R_below (zz19 HO477.out BK486.out) hb); replace HO481 := aM (Kd.R_below (zz19 HO481.out BK486.out) hb); replace HO485 := aM (Kd.R_below (zz19 HO485.out BK486.out) hb); replace BK478 := aM (blk_below (g := gb478) (o := .cells #[.int .i64 t474, .slice Ao20 t475.length co20] 46 (0, 0)) (zz15 NB478_486.out BK478.out) hb); replace BK486 := aM (blk_below (g := gb486) (o := .cells #[.int .i64 t482, .slice Ao27 t483.length co27] 46 (0, 0)) (by (with_reducible repeat (first | refine blk_drewN ?_ _ | refine blk_drew ?_ | refine blk_alloc ?_ _)); refine blk_put (cs := #[.int .i64 t482, .slice none 0 0]) ?_ 1 _ rfl; (with_reducible repeat (first | refine blk_drewN ?_ _ | refine blk_drew ?_ | refine blk_alloc ?_ _)); refine blk_put (cs := #[.int .i64 0, .slice none 0 0]) ?_ 0 _ rfl; (with_reducible repeat (first | refine blk_drewN ?_ _ | refine blk_drew ?_ | refine blk_alloc ?_ _)); exact BK486.out) hb); replace HB := aM (below_step (bG2 GE478 GE486) hb); (try clear hi)) | ((with_reducible refine gate_callee (f := 13) rfl ?_); refine gL_ (some 30) Tryd.func13 #[.slice A0 l0.length c0] ?_; (with_reducible refine (laws_toByteS.calls k _ _ l0 t488 _ ?side1 ?side2 A10.out).mono ?_); (case side1 => exact zz5 HR0.out); (case side2 => exact HC0.out); rintro e w30 ⟨v489, rfl, ho0, hb⟩; refine ⟨_, rfl, ?_⟩; replace HO477 := aM (Kd.R_below (bR HO477) hb); replace HO485 := aM (Kd.R_below (bR HO485) hb); have HO490 := aM (Kd.R_lower (Kd.R_new' (Kd.R_new' ho0 (Kd.R_lt (bR HO473))) (Kd.R_lt (bR HO481))) (below_size (bG2 GE478 GE486))); replace HO473 := aM (Kd.R_elder' (bR HO473) (Kd.R_base ho0) hb); replace HO481 := aM (Kd.R_elder' (bR HO481) (Kd.R_base ho0) hb); replace BK478 := aM (blk_below (g := gb478) (o := .cells #[.int .i64 t474, .slice Ao20 t475.length co20] 46 (0, 0)) (bL BK478) hb); replace BK486 := aM (blk_below (g := gb486) (o := .cells #[.int .i64 t482, .slice Ao27 t483.length co27] 46 (0, 0)) (bL BK486) hb); replace HB := aM (below_step (bG2 GE478 GE486) hb); (try clear ho0); obtain ⟨Ao31, co31, eo31⟩ := Kd.R_slice HO490.out; subst eo31) | ((with_reducible refine gate_callee (f := 16) rfl ?_); refine gL_ (some 31) Tryd.func16 #[.slice Ao22 t479.length co22, .slice Ao31 t488.length co31] ?_; (with_reducible refine (laws_eqByteS.calls k _ _ t479 _ _ t488 true _ ?side1 ?side2 ?side3 ?side4 A11.out).mono ?_); (case side1 => exact zz7 HO481.out); (case side2 => exact (Kd.R_reads' HO481.out).2.1); (case side3 => exact zz7 HO490.out); (case side4 => exact (Kd.R_reads' HO490.out).2.1); rintro e w' ⟨rfl, ⟨nd, rfl⟩⟩; refine ⟨_, rfl, ?_⟩) | ((with_reducible refine gate_callee (f := 17) rfl ?_); refine gL_ (some 35) Tryd.func17 #[.slice Ao22 t479.length co22, .int .i64 1] ?_; (with_reducible refine (laws_markByteS.calls k (fun k_ => some k_ = (.slice Ao22 t479.length co22 : Value).ownBlock) (.slice Ao22 t479.length co22) t479 1 t492 t493 w _ ?side1 ?side2 A13.out).mono ?_); (case side1 => repeat (first | (with_reducible first | exact HB.out | apply below_alloc | apply pw_below_drewN | apply below_drew1 | refine below_set ?_ GE478.out | refine below_set ?_ GE486.out) | exact HB.out)); (case side2 => exact Kd.R_tight rfl HO481.out); rintro e w32 ⟨rfl, hy0, hb, hkp⟩; refine ⟨_, rfl, ?_⟩; replace HO473 := aM (Kd.R_mono (ok' := fun k_ => some k_ ≠ (.slice Ao22 t479.length co22 : Value).ownBlock ∧ some k_ ≠ (.slice Ao31 t488.length co31 : Value).ownBlock) (Kd.R_keptB (HO473.out) hkp (fun k_ hk_ hs_ => (hk_.1.2) hs_)) (fun k_ hk_ => ⟨hk_.1.1.2, hk_.1.2⟩)); replace HO477 := aM (Kd.R_mono (ok' := fun k_ => some k_ ≠ (.slice Ao27 t483.length co27 : Value).ownBlock) (Kd.R_keptB ((Kd.R_apart' HO477.out (Kd.R_typed HO481.out) (by decide))) hkp (fun k_ hk_ hs_ => (hk_.2) hs_)) (fun k_ hk_ => hk_.1.1.2)); replace BK478 := aM (blk_kept (bL BK478) hkp (fun hs_ => (fun e_ => (Kd.R_ne HO481.out BK478.out (by decide)) e_) hs_)); replace HO485 := aM (Kd.R_mono (ok' := fun k_ => some k_ ≠ (.slice Ao20 t475.length co20 : Value).ownBlock) (Kd.R_keptB ((Kd.R_apart' HO485.out (Kd.R_typed HO481.out) (by decide))) hkp (fun k_ hk_ hs_ => (hk_.2) hs_)) (fun k_ hk_ => hk_.1.1.2)); replace BK486 := aM (blk_kept (bL BK486) hkp (fun hs_ => (fun e_ => (Kd.R_ne HO481.out BK486.out (by decide)) e_) hs_)); replace HO481 := aM (Kd.R_reok rfl hy0 (fun k_ e_ => HO481.out.1 k_ e_)); replace HO490 := aM (Kd.R_mono (ok' := fun k_ => some k_ ≠ (.slice Ao16 t471.length co16 : Value).ownBlock ∧ some k_ ≠ (.slice Ao22 t479.length co22 : Value).ownBlock) (Kd.R_keptB (HO490.out) hkp (fun k_ hk_ hs_ => (hk_.2) hs_)) (fun k_ hk_ => ⟨hk_.1.1.2, hk_.1.2⟩)); replace HB := aM (hb); (try clear hkp); (try clear hy0)))
   (try simp only [Act.put, List.setIfInBounds_toArray, List.set_cons_zero, List.set_cons_succ])
   go_cut [43] (fun v43 wc => ∃ (kq : Nat) (x43_13 : Bool), v43 = .bool x43_13 ∧ Aside0 (laws_FnExactPathOf.j0 kq l0 a1 x43_13 t474 t475 t482 t483 = some true) ∧ Aside0 (kq ≤ k) ∧ Aside0 (Kd.R (Kd.int .i64) 2 wc w.heap.size (fun k_ => some k_ ≠ ((.slice Ao27 t483.length co27) : Value).ownBlock) (.slice Ao20 t475.length co20) t475) ∧ Aside0 (Kd.R (Kd.int .i64) 2 wc w.heap.size (fun k_ => some k_ ≠ ((.slice Ao20 t475.length co20) : Value).ownBlock) (.slice Ao27 t483.length co27) t483) ∧ Aside0 (wc.heap[gb478]? = some (.cells #[.int .i64 t474, (.slice Ao20 t475.length co20)] 46 (0, 0))) ∧ Aside0 (wc.heap[gb486]? = some (.cells #[.int .i64 t482, (.slice Ao27 t483.length co27)] 46 (0, 0))) ∧ Aside0 (Below w.heap.size w wc))
   case first =>
    have H := HC14.out
    clear HC14
    by_cases c33 : t492 < 0
    ·rw [if_pos c33] at H
     have c33b0 : decide (t492 < 0) = true := decide_eq_true c33
     clear c33
     (first | rw [c33b0] | (simp only [i64_w, i32_w]; rw [c33b0]) | skip)
     have H' := aM H
     clear H
     go_wp2
     go_meet
     case rel => exact ⟨_, (true), bS, H', ⟨zz45⟩, ⟨bR HO477⟩, ⟨bR HO485⟩, ⟨bL BK478⟩, ⟨bL BK486⟩, ⟨bG2 GE478 GE486⟩⟩
    rw [if_neg c33] at H
    have c33b0 : decide (t492 < 0) = false := decide_eq_false c33
    clear c33
    (first | rw [c33b0] | (simp only [i64_w, i32_w]; rw [c33b0]) | skip)
    replace H := Option.bind_eq_some_iff.mp H
    obtain ⟨t494, A340, H⟩ := H
    replace H : (laws_FnExactPathOf.j0 k l0 a1 (!t494) t474 t475 t482 t483) = some true := H
    have A34 := aM A340
    clear A340
    have H' := aM H
    clear H
    have hnb35 := NB486_478.out
    have hnc35 := NB478_486.out
    have hcz36_0 : w32.cell? ⟨gb486, 0, none⟩ = some (.int .i64 t482) := (blk_cell BK486.out 0).trans rfl
    have hcz36_1 : w32.cell? ⟨gb486, 1, none⟩ = some (.slice Ao27 t483.length co27) := (blk_cell BK486.out 1).trans rfl
    have hfz36_0 := blk_frozen BK486.out 0
    have hfz36_1 := blk_frozen BK486.out 1
    have hcz37_0 : w32.cell? ⟨gb478, 0, none⟩ = some (.int .i64 t474) := (blk_cell BK478.out 0).trans rfl
    have hcz37_1 : w32.cell? ⟨gb478, 1, none⟩ = some (.slice Ao20 t475.length co20) := (blk_cell BK478.out 1).trans rfl
    have hfz37_0 := blk_frozen BK478.out 0
    have hfz37_1 := blk_frozen BK478.out 1
    go_wp2_with (first | (go_at_call 27; (with_reducible refine (laws_eqIntsResult.calls k t482 _ _ t483 t474 _ _ t475 t494 _ ?side1 ?side2 ?side3 ?side4 A34.out).mono ?_); (case side1 => exact zz7 HO485.out); (case side2 => exact (Kd.R_reads' HO485.out).2.1); (case side3 => exact zz7 HO477.out); (case side4 => exact (Kd.R_reads' HO477.out).2.1); rintro e w38 ⟨rfl, hb⟩; replace HO473 := aM (Kd.R_below (bR HO473) hb); replace HO477 := aM (Kd.R_below (bR HO477) hb); replace HO481 := aM (Kd.R_below (bR HO481) hb); replace HO485 := aM (Kd.R_below (bR HO485) hb); replace HO490 := aM (Kd.R_below (bR HO490) hb); replace BK478 := aM (blk_below (g := gb478) (o := .cells #[.int .i64 t474, .slice Ao20 t475.length co20] 46 (0, 0)) (bL BK478) hb); replace BK486 := aM (blk_below (g := gb486) (o := .cells #[.int .i64 t482, .slice Ao27 t483.length co27] 46 (0, 0)) (bL BK486) hb); replace HB := aM (below_step (bG2 GE478 GE486) hb); (try clear hi)))
    go_meet
    case rel => exact ⟨_, (!t494), bS, H', ⟨zz45⟩, ⟨bR HO477⟩, ⟨bR HO485⟩, ⟨bL BK478⟩, ⟨bL BK486⟩, ⟨bG2 GE478 GE486⟩⟩
   case rest =>
    clear HC14
    try clear c1
    try clear c2
    try clear p2
    try clear c3
    try clear c3b0
    try clear c3b1
    try clear c6
    try clear c9
    try clear c12
    try clear c13
    try clear c16
    try clear c17
    try clear c25
    try clear c26
    try clear c27
    try clear c33
    try clear c33b0
    try clear c35
    try clear hcz19_0
    try clear hcz19_1
    try clear hcz26_0
    try clear hcz26_1
    try clear hcz28_0
    try clear hcz28_1
    try clear hcz36_0
    try clear hcz36_1
    try clear hcz37_0
    try clear hcz37_1
    try clear hfz19_0
    try clear hfz19_1
    try clear hfz26_0
    try clear hfz26_1
    try clear hfz28_0
    try clear hfz28_1
    try clear hfz36_0
    try clear hfz36_1
    try clear hfz37_0
    try clear hfz37_1
    obtain ⟨kq, x43_13, rfl, HA, HJ13, HO_479001, HO_487001, BK478, BK486, HB⟩ := hcut
    cases kq with
    | zero => exact absurd HA.out (by simp [laws_FnExactPathOf.j0])
    | succ kj13 =>
     have H := HA.out
     clear HA
     simp only [laws_FnExactPathOf.j0] at H
     by_cases c39 : x43_13 = true
     ·subst c39
      have H1 : (some false) = some true := zz25
      exact absurd H1 (by simp)
     replace c39 := Bool.eq_false_iff.mpr c39
     subst c39
     have H1 : ((laws_markIntsResult.f kj13 t482 t483 1).bind fun bt495 => ((laws_heldIntsResult.f kj13 t482 bt495.2 1).bind fun t497 => (if t497 < 0 then (some false) else (if t497 = bt495.1 then ((laws_toByteS.f kj13 l0).bind fun t498 => ((impl_PathOf.f kj13 t498 a1).bind fun bt501 => ((laws_eqIntsResult.f kj13 bt501.1 bt501.2 t474 t475).bind fun t506 => (if t506 = true then ((laws_heldIntsResult.f kj13 t482 bt495.2 1).bind fun t507 => (if t507 < 0 then (some false) else (if t507 = bt495.1 then (some true) else (some false)))) else (some false))))) else (some false))))) = some true := zz14
     clear H
     have H := H1
     clear H1
     replace H := Option.bind_eq_some_iff.mp H
     obtain ⟨⟨t495, t496⟩, A400, H⟩ := H
     replace H : ((laws_heldIntsResult.f kj13 t482 t496 1).bind fun t497 => (if t497 < 0 then (some false) else (if t497 = t495 then ((laws_toByteS.f kj13 l0).bind fun t498 => ((impl_PathOf.f kj13 t498 a1).bind fun bt501 => ((laws_eqIntsResult.f kj13 bt501.1 bt501.2 t474 t475).bind fun t506 => (if t506 = true then ((laws_heldIntsResult.f kj13 t482 t496 1).bind fun t507 => (if t507 < 0 then (some false) else (if t507 = t495 then (some true) else (some false)))) else (some false))))) else (some false)))) = some true := H
     have A40 := aM A400
     clear A400
     replace H := Option.bind_eq_some_iff.mp H
     obtain ⟨t497, A410, H⟩ := H
     replace H : (if t497 < 0 then (some false) else (if t497 = t495 then ((laws_toByteS.f kj13 l0).bind fun t498 => ((impl_PathOf.f kj13 t498 a1).bind fun bt501 => ((laws_eqIntsResult.f kj13 bt501.1 bt501.2 t474 t475).bind fun t506 => (if t506 = true then ((laws_heldIntsResult.f kj13 t482 t496 1).bind fun t507 => (if t507 < 0 then (some false) else (if t507 = t495 then (some true) else (some false)))) else (some false))))) else (some false))) = some true := H
     have A41 := aM A410
     clear A410
     have HQ_ := aM H
     clear H
     have hnb43 := NB486_478.out
     have hnc43 := NB478_486.out
     have hcz44_0 : wc.cell? ⟨gb486, 0, none⟩ = some (.int .i64 t482) := (blk_cell BK486.out 0).trans rfl
     have hcz44_1 : wc.cell? ⟨gb486, 1, none⟩ = some (.slice Ao27 t483.length co27) := (blk_cell BK486.out 1).trans rfl
     have hfz44_0 := blk_frozen BK486.out 0
     have hfz44_1 := blk_frozen BK486.out 1
     have H := HQ_.out
     clear HQ_
     by_cases c42 : t497 < 0
     ·rw [if_pos c42] at H
      exact absurd H (by simp)
     rw [if_neg c42] at H
     have c42b0 : decide (t497 < 0) = false := decide_eq_false c42
     clear c42
     (try simp only [c42b0])
     by_cases c48 : t497 = t495
     ·rw [if_pos c48] at H
      have c48b0 : (t497 == t495) = true := beq_iff_eq.mpr c48
      have c48b1 : (t497 != t495) = false := bne_eq_false_iff_eq.mpr c48
      clear c48
      replace H := Option.bind_eq_some_iff.mp H
      obtain ⟨t498, A490, H⟩ := H
      replace H : ((impl_PathOf.f kj13 t498 a1).bind fun bt501 => ((laws_eqIntsResult.f kj13 bt501.1 bt501.2 t474 t475).bind fun t506 => (if t506 = true then ((laws_heldIntsResult.f kj13 t482 t496 1).bind fun t507 => (if t507 < 0 then (some false) else (if t507 = t495 then (some true) else (some false)))) else (some false)))) = some true := H
      have A49 := aM A490
      clear A490
      replace H := Option.bind_eq_some_iff.mp H
      obtain ⟨⟨t501, t502⟩, A500, H⟩ := H
      replace H : ((laws_eqIntsResult.f kj13 t501 t502 t474 t475).bind fun t506 => (if t506 = true then ((laws_heldIntsResult.f kj13 t482 t496 1).bind fun t507 => (if t507 < 0 then (some false) else (if t507 = t495 then (some true) else (some false)))) else (some false))) = some true := H
      have A50 := aM A500
      clear A500
      replace H := Option.bind_eq_some_iff.mp H
      obtain ⟨t506, A510, H⟩ := H
      replace H : (if t506 = true then ((laws_heldIntsResult.f kj13 t482 t496 1).bind fun t507 => (if t507 < 0 then (some false) else (if t507 = t495 then (some true) else (some false)))) else (some false)) = some true := H
      have A51 := aM A510
      clear A510
      (try simp only [c48b0, c48b1])
      by_cases c52 : t506 = true
      ·subst c52
       have H1 : ((laws_heldIntsResult.f kj13 t482 t496 1).bind fun t507 => (if t507 < 0 then (some false) else (if t507 = t495 then (some true) else (some false)))) = some true := zz25
       clear H
       have H := H1
       clear H1
       replace H := Option.bind_eq_some_iff.mp H
       obtain ⟨t507, A530, H⟩ := H
       replace H : (if t507 < 0 then (some false) else (if t507 = t495 then (some true) else (some false))) = some true := H
       have A53 := aM A530
       clear A530
       by_cases c54 : t507 < 0
       ·rw [if_pos c54] at H
        exact absurd H (by simp)
       rw [if_neg c54] at H
       have c54b0 : decide (t507 < 0) = false := decide_eq_false c54
       clear c54
       (try simp only [c54b0])
       by_cases c72 : t507 = t495
       ·rw [if_pos c72] at H
        have c72b0 : (t507 == t495) = true := beq_iff_eq.mpr c72
        have c72b1 : (t507 != t495) = false := bne_eq_false_iff_eq.mpr c72
        clear c72
        have HTR_ := Option.some.inj H
        (try simp only [c72b0, c72b1])
        go_wp2_with (first | ((with_reducible refine gate_callee (f := 28) rfl ?_); refine gL_ (some 46) Tryd.func28 #[.agg #[.int .i64 t482, .slice Ao27 t483.length co27], .int .i64 1] ?_; (with_reducible refine (laws_markIntsResult.calls kj13 t482 (fun k_ => some k_ = (.slice Ao27 t483.length co27 : Value).ownBlock) (.slice Ao27 t483.length co27) t483 1 t495 t496 w _ ?side1 ?side2 A40.out).mono ?_); (case side1 => repeat (first | (with_reducible first | exact HB.out | apply below_alloc | apply pw_below_drewN | apply below_drew1 | refine below_set ?_ GE478.out | refine below_set ?_ GE486.out) | exact HB.out)); (case side2 => exact Kd.R_tight rfl HO_487001.out); rintro e w75 ⟨rfl, hy0, hb, hkp⟩; refine ⟨_, rfl, ?_⟩; replace HO_479001 := aM (Kd.R_mono (ok' := fun k_ => some k_ ≠ (.slice Ao27 t483.length co27 : Value).ownBlock) (Kd.R_keptB (HO_479001.out) hkp (fun k_ hk_ hs_ => (hk_) hs_)) (fun k_ hk_ => hk_.1)); replace BK478 := aM (blk_kept (bL BK478) hkp (fun hs_ => (fun e_ => (Kd.R_ne HO_487001.out BK478.out (by decide)) e_) hs_)); replace BK486 := aM (blk_kept (bL BK486) hkp (fun hs_ => (fun e_ => (Kd.R_ne HO_487001.out BK486.out (by decide)) e_) hs_)); replace HO_487001 := aM (Kd.R_reok rfl hy0 (fun k_ e_ => HO_487001.out.1 k_ e_)); replace HB := aM (hb); (try clear hkp); (try clear hy0); have hcz76_0 : w75.cell? ⟨gb486, 0, none⟩ = some (.int .i64 t482) := (blk_cell BK486.out 0).trans rfl; have hcz76_1 : w75.cell? ⟨gb486, 1, none⟩ = some (.slice Ao27 t483.length co27) := (blk_cell BK486.out 1).trans rfl; have hfz76_0 := blk_frozen BK486.out 0; have hfz76_1 := blk_frozen BK486.out 1) | ((with_reducible refine gate_callee (f := 29) rfl ?_); refine goesL_ (some 49) rfl rfl Tryd.func29 (by kernel_rfl) rfl #[.agg #[.int .i64 t482, .slice Ao27 t496.length co27], .int .i64 1] rfl (by (try simp only [List.map_toArray, List.map_cons, List.map_nil]); first | done | (rw [show t496.length = t483.length from (Kd.R_reads' HO_487001.out).1.symm] <;> rfl) | rfl | (simp only [List.length_drop, List.length_take]; rfl)) ?_; (with_reducible refine (laws_heldIntsResult.calls kj13 t482 _ _ t496 1 t497 _ ?side1 ?side2 A41.out).mono ?_); (case side1 => exact zz7 HO_487001.out); (case side2 => rw [show t496.length = t483.length from (Kd.R_reads' HO_487001.out).1.symm]; exact (Kd.R_reads' HO_487001.out).2.1); rintro e w77 ⟨rfl, hb⟩; refine ⟨_, rfl, ?_⟩; replace HO_479001 := aM (Kd.R_below (bR HO_479001) hb); replace HO_487001 := aM (Kd.R_below (bR HO_487001) hb); replace BK478 := aM (blk_below (g := gb478) (o := .cells #[.int .i64 t474, .slice Ao20 t475.length co20] 46 (0, 0)) (bL BK478) hb); replace BK486 := aM (blk_below (g := gb486) (o := .cells #[.int .i64 t482, .slice Ao27 t483.length co27] 46 (0, 0)) (bL BK486) hb); replace HB := aM (below_step (bG2 GE478 GE486) hb); (try clear hi)) | ((with_reducible refine gate_callee (f := 13) rfl ?_); refine gL_ (some 56) Tryd.func13 #[.slice A0 l0.length c0] ?_; (with_reducible refine (laws_toByteS.calls kj13 _ _ l0 t498 _ ?side1 ?side2 A49.out).mono ?_); (case side1 => exact zz5 HR0.out); (case side2 => exact HC0.out); rintro e w78 ⟨v499, rfl, ho0, hb⟩; refine ⟨_, rfl, ?_⟩; replace HO_479001 := aM (Kd.R_below (bR HO_479001) hb); replace HO_487001 := aM (Kd.R_below (bR HO_487001) hb); have HO500 := aM (Kd.R_lower ho0 (below_size (bG2 GE478 GE486))); replace BK478 := aM (blk_below (g := gb478) (o := .cells #[.int .i64 t474, .slice Ao20 t475.length co20] 46 (0, 0)) (bL BK478) hb); replace BK486 := aM (blk_below (g := gb486) (o := .cells #[.int .i64 t482, .slice Ao27 t483.length co27] 46 (0, 0)) (bL BK486) hb); replace HB := aM (below_step (bG2 GE478 GE486) hb); (try clear ho0); obtain ⟨Ao79, co79, eo79⟩ := Kd.R_slice HO500.out; subst eo79) | ((with_reducible refine gate_callee (f := 26) rfl ?_); refine gL_ (some 58) Tryd.func26 #[.slice Ao79 t498.length co79, .int .i64 a1] ?_; (with_reducible refine (impl_PathOf.calls kj13 _ _ t498 a1 t501 t502 _ ?side1 ?side2 A50.out).mono ?_); (case side1 => exact zz7 HO500.out); (case side2 => exact (Kd.R_reads' HO500.out).2.1); rintro e w80 ⟨v503, rfl, ho0, hb⟩; refine ⟨_, rfl, ?_⟩; replace HO500 := aM (Kd.R_below (bR HO500) hb); have HO504 := aM (Kd.R_lower (Kd.R_new' (Kd.R_new' ho0 (Kd.R_lt (bR HO_479001))) (Kd.R_lt (bR HO_487001))) (below_size (bG2 GE478 GE486))); replace HO_479001 := aM (Kd.R_elder' (bR HO_479001) (Kd.R_base ho0) hb); replace HO_487001 := aM (Kd.R_elder' (bR HO_487001) (Kd.R_base ho0) hb); replace BK478 := aM (blk_below (g := gb478) (o := .cells #[.int .i64 t474, .slice Ao20 t475.length co20] 46 (0, 0)) (bL BK478) hb); replace BK486 := aM (blk_below (g := gb486) (o := .cells #[.int .i64 t482, .slice Ao27 t483.length co27] 46 (0, 0)) (bL BK486) hb); replace HB := aM (below_step (bG2 GE478 GE486) hb); (try clear ho0)) | ((with_reducible refine gate_dst (N := 11) rfl ?_); refine box_event ?hg (N := 11) ?hd (cs := #[.int .i64 0, .slice none 0 0]) (t := 46) ?hr ?_; (case hd => rfl); (case hg => rfl); (case hr => exact zz12); intro gb505 hg w81 hbox hb; replace HO_479001 := aM (Kd.R_below (bR HO_479001) hb); replace HO_487001 := aM (Kd.R_below (bR HO_487001) hb); replace HO500 := aM (Kd.R_below (bR HO500) hb); replace HO504 := aM (Kd.R_below (bR HO504) hb); have BK505 := aM (hbox); have GW505 := aM ((by rw [hg]; exact (below_size (bG2 GE478 GE486)) : w.heap.size ≤ gb505)); have GE505 := aM ((by rw [hg]; exact (below_size (bG2 GE478 GE486)) : w.heap.size ≤ gb505)); replace HB := aM (below_step (bG2 GE478 GE486) hb); have NB478_505 := aM ((by rw [hg]; exact Nat.ne_of_lt (blk_lt (g := gb478) (o := .cells #[.int .i64 t474, .slice Ao20 t475.length co20] 46 (0, 0)) (bL BK478)) : gb478 ≠ gb505)); have NB505_478 := aM ((by rw [hg]; exact Nat.ne_of_gt (blk_lt (g := gb478) (o := .cells #[.int .i64 t474, .slice Ao20 t475.length co20] 46 (0, 0)) (bL BK478)) : gb505 ≠ gb478)); replace BK478 := aM (blk_below (g := gb478) (o := .cells #[.int .i64 t474, .slice Ao20 t475.length co20] 46 (0, 0)) (bL BK478) hb); have NB486_505 := aM ((by rw [hg]; exact Nat.ne_of_lt (blk_lt (g := gb486) (o := .cells #[.int .i64 t482, .slice Ao27 t483.length co27] 46 (0, 0)) (bL BK486)) : gb486 ≠ gb505)); have NB505_486 := aM ((by rw [hg]; exact Nat.ne_of_gt (blk_lt (g := gb486) (o := .cells #[.int .i64 t482, .slice Ao27 t483.length co27] 46 (0, 0)) (bL BK486)) : gb505 ≠ gb486)); replace BK486 := aM (blk_below (g := gb486) (o := .cells #[.int .i64 t482, .slice Ao27 t483.length co27] 46 (0, 0)) (bL BK486) hb); clear hb hbox hg; have hnb82 := NB505_478.out; have hnc82 := NB478_505.out; have hnb83 := NB505_486.out; have hnc83 := NB486_505.out; have hcz84_0 : w81.cell? ⟨gb505, 0, none⟩ = some (.int .i64 0) := (blk_cell BK505.out 0).trans rfl; have hcz84_1 : w81.cell? ⟨gb505, 1, none⟩ = some (.slice none 0 0) := (blk_cell BK505.out 1).trans rfl; have hfz84_0 := blk_frozen BK505.out 0; have hfz84_1 := blk_frozen BK505.out 1; obtain ⟨Ao85, co85, eo85⟩ := Kd.R_slice HO504.out; subst eo85; have hcz86_0 : w81.cell? ⟨gb478, 0, none⟩ = some (.int .i64 t474) := (blk_cell BK478.out 0).trans rfl; have hcz86_1 : w81.cell? ⟨gb478, 1, none⟩ = some (.slice Ao20 t475.length co20) := (blk_cell BK478.out 1).trans rfl; have hfz86_0 := blk_frozen BK478.out 0; have hfz86_1 := blk_frozen BK478.out 1) | ((with_reducible refine gate_callee (f := 27) rfl ?_); refine gL_ (some 61) Tryd.func27 #[.agg #[.int .i64 t501, .slice Ao85 t502.length co85], .agg #[.int .i64 t474, .slice Ao20 t475.length co20]] ?_; (with_reducible refine (laws_eqIntsResult.calls kj13 t501 _ _ t502 t474 _ _ t475 true _ ?side1 ?side2 ?side3 ?side4 A51.out).mono ?_); (case side1 => refine (Kd.R_reads' (e := 2) (base := w.heap.size) (ok := fun k_ => ((True ∧ some k_ ≠ (.slice Ao20 t475.length co20 : Value).ownBlock) ∧ some k_ ≠ (.slice Ao27 t483.length co27 : Value).ownBlock)) (n := t502.length) (c := co85) ?_).2.2; exact (zz18 HO504.out BK505.out)); (case side2 => exact (Kd.R_reads' HO504.out).2.1); (case side3 => refine (Kd.R_reads' (e := 2) (base := w.heap.size) (ok := fun k_ => (some k_ ≠ (.slice Ao27 t483.length co27 : Value).ownBlock ∧ some k_ ≠ (.slice Ao85 t502.length co85 : Value).ownBlock)) (n := t475.length) (c := co20) ?_).2.2; exact (zz18 HO_479001.out BK505.out)); (case side4 => exact (Kd.R_reads' HO_479001.out).2.1); rintro e w87 ⟨rfl, hb⟩; refine ⟨_, rfl, ?_⟩; replace HO_479001 := aM (Kd.R_below (zz18 HO_479001.out BK505.out) hb); replace HO_487001 := aM (Kd.R_below (zz18 HO_487001.out BK505.out) hb); replace HO500 := aM (Kd.R_below (zz18 HO500.out BK505.out) hb); replace HO504 := aM (Kd.R_below (zz18 HO504.out BK505.out) hb); replace BK478 := aM (blk_below (g := gb478) (o := .cells #[.int .i64 t474, .slice Ao20 t475.length co20] 46 (0, 0)) (zz15 NB478_505.out BK478.out) hb); replace BK486 := aM (blk_below (g := gb486) (o := .cells #[.int .i64 t482, .slice Ao27 t483.length co27] 46 (0, 0)) (zz15 NB486_505.out BK486.out) hb); replace BK505 := aM (blk_below (g := gb505) (o := .cells #[.int .i64 t501, .slice Ao85 t502.length co85] 46 (0, 0)) (by (with_reducible repeat (first | refine blk_drewN ?_ _ | refine blk_drew ?_ | refine blk_alloc ?_ _)); refine blk_put (cs := #[.int .i64 t501, .slice none 0 0]) ?_ 1 _ rfl; (with_reducible repeat (first | refine blk_drewN ?_ _ | refine blk_drew ?_ | refine blk_alloc ?_ _)); refine blk_put (cs := #[.int .i64 0, .slice none 0 0]) ?_ 0 _ rfl; (with_reducible repeat (first | refine blk_drewN ?_ _ | refine blk_drew ?_ | refine blk_alloc ?_ _)); exact BK505.out) hb); replace HB := aM (below_step (zz24 GE478.out GE486.out GE505.out) hb); have hcz88_0 : w87.cell? ⟨gb486, 0, none⟩ = some (.int .i64 t482) := (blk_cell BK486.out 0).trans rfl; have hcz88_1 : w87.cell? ⟨gb486, 1, none⟩ = some (.slice Ao27 t483.length co27) := (blk_cell BK486.out 1).trans rfl; have hfz88_0 := blk_frozen BK486.out 0; have hfz88_1 := blk_frozen BK486.out 1) | ((with_reducible refine gate_callee (f := 29) rfl ?_); refine goesL_ (some 65) rfl rfl Tryd.func29 (by kernel_rfl) rfl #[.agg #[.int .i64 t482, .slice Ao27 t496.length co27], .int .i64 1] rfl (by (try simp only [List.map_toArray, List.map_cons, List.map_nil]); first | done | (rw [show t496.length = t483.length from (Kd.R_reads' HO_487001.out).1.symm] <;> rfl) | rfl | (simp only [List.length_drop, List.length_take]; rfl)) ?_; (with_reducible refine (laws_heldIntsResult.calls kj13 t482 _ _ t496 1 t507 _ ?side1 ?side2 A53.out).mono ?_); (case side1 => exact zz7 HO_487001.out); (case side2 => rw [show t496.length = t483.length from (Kd.R_reads' HO_487001.out).1.symm]; exact (Kd.R_reads' HO_487001.out).2.1); rintro e w89 ⟨rfl, hb⟩; refine ⟨_, rfl, ?_⟩; replace HO_479001 := aM (Kd.R_below (bR HO_479001) hb); replace HO_487001 := aM (Kd.R_below (bR HO_487001) hb); replace HO500 := aM (Kd.R_below (bR HO500) hb); replace HO504 := aM (Kd.R_below (bR HO504) hb); replace BK478 := aM (blk_below (g := gb478) (o := .cells #[.int .i64 t474, .slice Ao20 t475.length co20] 46 (0, 0)) (bL BK478) hb); replace BK486 := aM (blk_below (g := gb486) (o := .cells #[.int .i64 t482, .slice Ao27 t483.length co27] 46 (0, 0)) (bL BK486) hb); replace BK505 := aM (blk_below (g := gb505) (o := .cells #[.int .i64 t501, .slice Ao85 t502.length co85] 46 (0, 0)) (bL BK505) hb); replace HB := aM (below_step (zz24 GE478.out GE486.out GE505.out) hb); (try clear hi)))
        go_ret
        exact ⟨bE, zz24 GE478.out GE486.out GE505.out⟩
       rw [if_neg c72] at H
       exact absurd H (by simp)
      replace c52 := Bool.eq_false_iff.mpr c52
      subst c52
      have H1 : (some false) = some true := zz14
      exact absurd H1 (by simp)
     rw [if_neg c48] at H
     exact absurd H (by simp)
  replace c12 := Bool.eq_false_iff.mpr c12
  subst c12
  have H1 : (some false) = some true := zz14
  exact absurd H1 (by simp)
 replace c9 := Bool.eq_false_iff.mpr c9
 subst c9
 have H1 : (some false) = some true := zz14
 exact absurd H1 (by simp)
def laws_FnExactPathOf.Pure : Prop := ∀ (l0 : List Int) (a1 : Int), l0.length ≤ maxLen → l0.length * 1 ≤ 140737488351232 → (∀ x ∈ l0, (Lit.int .u8 x).wf = true) → (Lit.int .i64 a1).wf = true → ∃ k, laws_FnExactPathOf.f k l0 a1 = some true
theorem laws_FnExactPathOf.walk (P : laws_FnExactPathOf.Pure) (a0 : Option Addr) (len0 cap0 : Nat) (z0 : List Int) (a1 : Int) (w : World) (w0 : (a0 = none ∧ len0 = 0 ∧ cap0 = 0 ∧ z0 = []) ∨ ∃ x, a0 = some x ∧ len0 ≤ cap0 ∧ cap0 ≤ maxLen ∧ z0.length = cap0 ∧ (∀ i, i < z0.length → w.cell? (x.add i) = some (.int .u8 (z0.getD i 0))) ∧ ∀ n ∈ z0, (Lit.int .u8 n).wf = true) (y0 : len0 * 1 ≤ 140737488351232) (w1 : (Lit.int .i64 a1).wf = true) :
  Calls Tryd.prog 6 #[.slice a0 len0 cap0, .int .i64 a1] w fun e w' => e = .returned (.bool true) ∧ Below w.heap.size w w' := by
 obtain ⟨l0, rfl, hr0, hm0, hw0, hc0⟩ := ReadsInt.ofRowC w0
 obtain ⟨k, h⟩ := P l0 a1 hm0 y0 hw0 w1
 refine (laws_FnExactPathOf.calls k _ _ l0 a1 w (Kd.C_of_reads (d := (0 : Int)) (h1 := fun _ => rfl) hr0) hc0 h).mono ?_
 rintro e w' ⟨rfl, hd⟩
 exact ⟨rfl, hd⟩
end Go.Proofs.YtecpanfndodjgaaDoor.PPathOf
