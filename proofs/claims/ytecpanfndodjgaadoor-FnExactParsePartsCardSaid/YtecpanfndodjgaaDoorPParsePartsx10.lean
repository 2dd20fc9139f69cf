/- Part of the proof; words that it uses. -/
import Derived.Test.YtecpanfndodjgaaDoorPParsePartsx0
import Derived.Test.YtecpanfndodjgaaDoorPParsePartsx9
namespace Go.Proofs.YtecpanfndodjgaaDoor.PParseParts
open Go.RowKit Go.Proofs.YtecpanfndodjgaaDoorW.PrintWords Go.Proofs.YtecpanfndodjgaaDoorW.PrintLast Go.Proofs.YtecpanfndodjgaaDoorW.PrintMore
attribute [local go_sem] max2_int max_two
set_option linter.unusedVariables false
set_option linter.unusedSimpArgs false
def impl_length_byte.f (l0 : List Int) : Option (Int) := some (l0.length : Int)
set_option maxHeartbeats 8000000 in
set_option maxRecDepth 100000 in
theorem impl_length_byte.calls (A0 : Option Addr) (c0 : Nat) (l0 : List Int) (r : Int) (w : World) (hr0 : Kd.C (Kd.int .u8) w A0 l0.length l0) (hc0 : l0.length ≤ c0) (h : impl_length_byte.f l0 = some r) :
  Calls Tryd.prog 87 #[.slice A0 l0.length c0] w fun e w' => e = .returned (.int .i64 r) ∧ Drawn0 w w' := by
 have HR0 := aM hr0
 have HC0 := aM hc0
 clear hr0 hc0
 have H : (some (l0.length : Int)) = some r := h
 clear h
 obtain rfl := Option.some.inj H
 go_enter Tryd.func87, Tryd.ntmps87
 go_wp2
 go_ret
 exact ⟨bS, zz5⟩
def impl_partsOf.f (k : Nat) (l0 : List Int) : Option ((List (S23))) := (impl_length_byte.f l0).bind fun t413 => ((impl_parser_part.f k l0 0 t413 (-1) 0 0 ([] : List (S23))).bind fun t414 => (some t414))
set_option maxHeartbeats 8000000 in
set_option maxRecDepth 100000 in
theorem impl_partsOf.calls (k : Nat) (A0 : Option Addr) (c0 : Nat) (l0 : List Int) (r : List (S23)) (w : World) (hr0 : Kd.C (Kd.int .u8) w A0 l0.length l0) (hc0 : l0.length ≤ c0) (h : impl_partsOf.f k l0 = some r) :
  Calls Tryd.prog 53 #[.slice A0 l0.length c0] w fun e w' => ∃ v0_ : Value, e = .returned (v0_) ∧ Kd.R k23 23 w' w.heap.size (fun _ => True) v0_ r ∧ Below w.heap.size w w' := by
 have hu98 := Tryd.underlying98
 have HR0 := aM hr0
 have HC0 := aM hc0
 clear hr0 hc0
 have HB := aM (Below.refl w.heap.size w)
 have H : ((impl_length_byte.f l0).bind fun t413 => ((impl_parser_part.f k l0 0 t413 (-1) 0 0 ([] : List (S23))).bind fun t414 => (some t414))) = some r := h
 clear h
 replace H := Option.bind_eq_some_iff.mp H
 obtain ⟨t413, A20, H⟩ := H
 replace H : ((impl_parser_part.f k l0 0 t413 (-1) 0 0 ([] : List (S23))).bind fun t414 => (some t414)) = some r := H
 have A2 := aM A20
 clear A20
 replace H := Option.bind_eq_some_iff.mp H
 obtain ⟨t414, A30, H⟩ := H
 replace H : (some t414) = some r := H
 have A3 := aM A30
 clear A30
 obtain rfl := Option.some.inj H
 go_enter Tryd.func53, Tryd.ntmps53
 go_wp2_with (first | ((with_reducible refine gate_dst (N := 6) rfl ?_); refine box_event ?hg (N := 6) ?hd (cs := #[.slice A0 l0.length c0, .slice none 0 0]) (t := 98) ?hr ?_; (case hd => rfl); (case hg => rfl); (case hr => exact zz10); intro gb412 hg w4 hbox hb; have BK412 := aM (hbox); have GW412 := aM ((zz15 : w.heap.size ≤ gb412)); have GE412 := aM ((zz15 : w.heap.size ≤ gb412)); replace HB := aM (below_step bB hb); clear hb hbox hg) | ((with_reducible refine gate_callee (f := 87) rfl ?_); refine gL_ (some 9) Tryd.func87 #[.slice A0 l0.length c0] ?_; (with_reducible refine (impl_length_byte.calls _ _ l0 t413 _ ?side1 ?side2 A2.out).mono ?_); (case side1 => exact zz6 HR0.out); (case side2 => exact HC0.out); rintro e w' ⟨rfl, ⟨nd, rfl⟩⟩; refine ⟨_, rfl, ?_⟩; (try (rw [drewN_self w4]; generalize hq_ : World.drewN w4 _ = w4; have n0_ : Aside0 (w4.heap[gb412]? = some (.cells #[.slice A0 l0.length c0, .slice none 0 0] 98 (0, 0))) := ⟨by rw [← hq_]; exact (bL BK412)⟩; have n1_ : Aside0 (Below w.heap.size w w4) := ⟨by rw [← hq_]; exact (bG GE412)⟩; clear BK412 HB hq_; have BK412 := n0_; have HB := n1_; clear n0_ n1_)); have hcz5_0 : w4.cell? ⟨gb412, 0, none⟩ = some (.slice A0 l0.length c0) := (blk_cell BK412.out 0).trans rfl; have hcz5_1 : w4.cell? ⟨gb412, 1, none⟩ = some (.slice none 0 0) := (blk_cell BK412.out 1).trans rfl; have hfz5_0 := blk_frozen BK412.out 0; have hfz5_1 := blk_frozen BK412.out 1) | ((with_reducible refine gate_callee (f := 86) rfl ?_); refine gL_ (some 10) Tryd.func86 #[.pointer (some ⟨gb412, 0, none⟩), .int .i64 0, .int .i64 t413, .int .i64 (-1), .int .i64 0, .int .i64 0] ?_; (refine (impl_parser_part.calls k A0 c0 l0 0 t413 (-1) 0 0 (fun k_ => some k_ = (.slice none 0 0 : Value).ownBlock ∨ k_ = gb412) (.slice none 0 0) ([] : List (S23)) t414 w _ gb412 ?sidg GE412.out (.inr rfl) ?side1 ?side2 ?side3 ?side4 A3.out).mono ?_); (case sidg => (with_reducible repeat (first | refine blk_drewN ?_ _ | refine blk_drew ?_ | refine blk_alloc ?_ _)); exact BK412.out); (case side1 => exact zz47 GE412.out); (case side2 => exact Kd.C_kept_came (Kd.heap_int .u8) HR0.out (bG GE412) (fun k_ hs_ => hs_.elim (fun hs_ => (fun e_ => by simp [Value.ownBlock] at e_) hs_) (fun e_ => by rw [e_]; exact GW412.out))); (case side3 => exact HC0.out); (case side4 => exact Kd.R_mono (Kd.R_nil _ _ _ _ _) (fun k_ hk_ => .inl hk_)); rintro e w6 ⟨rfl, v415, hbk_, ho0, hb, hkp⟩; refine ⟨_, rfl, ?_⟩; replace BK412 := aM hbk_; have HO416 := aM (Kd.R_mono (ok' := fun k_ => True) ho0 (fun k_ hk_ => trivial)); replace HB := aM (hb); (try clear hkp); (try clear ho0); obtain ⟨Ao7, co7, eo7⟩ := Kd.R_slice HO416.out; subst eo7; have hcz8_0 : w6.cell? ⟨gb412, 0, none⟩ = some (.slice A0 l0.length c0) := (blk_cell BK412.out 0).trans rfl; have hcz8_1 : w6.cell? ⟨gb412, 1, none⟩ = some (.slice Ao7 t414.length co7) := (blk_cell BK412.out 1).trans rfl; have hfz8_0 := blk_frozen BK412.out 0; have hfz8_1 := blk_frozen BK412.out 1))
 go_ret
 exact ⟨_, bE, bR HO416, bG GE412⟩
def impl_ParseParts.f (k : Nat) (l0 : List Int) : Option (Int × (List (S23))) := if (l0.length : Int) > 400 then (some (2, ([] : List (S23)))) else ((impl_partsOf.f k l0).bind fun t418 => (some (0, t418)))
set_option maxHeartbeats 8000000 in
set_option maxRecDepth 100000 in
theorem impl_ParseParts.calls (k : Nat) (A0 : Option Addr) (c0 : Nat) (l0 : List Int) (r1 : Int) (r2 : List (S23)) (w : World) (hr0 : Kd.C (Kd.int .u8) w A0 l0.length l0) (hc0 : l0.length ≤ c0) (h : impl_ParseParts.f k l0 = some (r1, r2)) :
  Calls Tryd.prog 31 #[.slice A0 l0.length c0] w fun e w' => ∃ v1_ : Value, e = .returned (.agg #[.int .i64 r1, v1_]) ∧ Kd.R k23 23 w' w.heap.size (fun _ => True) v1_ r2 ∧ Below w.heap.size w w' := by
 have hu52 := Tryd.underlying52
 have HR0 := aM hr0
 have HC0 := aM hc0
 clear hr0 hc0
 have HB := aM (Below.refl w.heap.size w)
 have H : (if (l0.length : Int) > 400 then (some (2, ([] : List (S23)))) else ((impl_partsOf.f k l0).bind fun t418 => (some (0, t418)))) = some (r1, r2) := h
 clear h
 by_cases c2 : (l0.length : Int) > 400
 ·rw [if_pos c2] at H
  have c2b0 : decide (400 < (l0.length : Int)) = true := decide_eq_true c2
  have c2b1 : decide (400 < l0.length) = true := decide_eq_true (by omega)
  clear c2
  simp only [Option.some.injEq, Prod.mk.injEq] at H
  obtain ⟨rfl, rfl⟩ := H
  go_enter Tryd.func31, Tryd.ntmps31
  go_wp2_with (first | ((with_reducible refine gate_dst (N := 2) rfl ?_); refine box_event ?hg (N := 2) ?hd (cs := #[.int .i64 0, .slice none 0 0]) (t := 52) ?hr ?_; (case hd => rfl); (case hg => rfl); (case hr => exact zz10); intro gb417 hg w3 hbox hb; have BK417 := aM (hbox); have GW417 := aM ((zz15 : w.heap.size ≤ gb417)); have GE417 := aM ((zz15 : w.heap.size ≤ gb417)); replace HB := aM (below_step bB hb); clear hb hbox hg; have hcz4_0 : w3.cell? ⟨gb417, 0, none⟩ = some (.int .i64 0) := (blk_cell BK417.out 0).trans rfl; have hcz4_1 : w3.cell? ⟨gb417, 1, none⟩ = some (.slice none 0 0) := (blk_cell BK417.out 1).trans rfl; have hfz4_0 := blk_frozen BK417.out 0; have hfz4_1 := blk_frozen BK417.out 1))
  refine bodyPost_ret (results_cell_row rfl _ _ gb417 52 #[.int .i64 2, .slice none 0 0] (0, 0) _ rfl (by (with_reducible repeat (first | refine blk_drewN ?_ _ | refine blk_drew ?_ | refine blk_alloc ?_ _)); refine blk_put (cs := #[.int .i64 2, .slice none 0 0]) ?_ 1 _ rfl; (with_reducible repeat (first | refine blk_drewN ?_ _ | refine blk_drew ?_ | refine blk_alloc ?_ _)); refine blk_put (cs := #[.int .i64 0, .slice none 0 0]) ?_ 0 _ rfl; (with_reducible repeat (first | refine blk_drewN ?_ _ | refine blk_drew ?_ | refine blk_alloc ?_ _)); exact BK417.out) Tryd.underlying52 rfl (by kernel_rfl)) rfl ?_
  exact ⟨_, bE, zz30, bG GE417⟩
 rw [if_neg c2] at H
 have c2b0 : decide (400 < (l0.length : Int)) = false := decide_eq_false c2
 have c2b1 : decide (400 < l0.length) = false := decide_eq_false (by omega)
 clear c2
 replace H := Option.bind_eq_some_iff.mp H
 obtain ⟨t418, A50, H⟩ := H
 replace H : (some (0, t418)) = some (r1, r2) := H
 have A5 := aM A50
 clear A50
 simp only [Option.some.injEq, Prod.mk.injEq] at H
 obtain ⟨rfl, rfl⟩ := H
 go_enter Tryd.func31, Tryd.ntmps31
 go_wp2_with (first | ((with_reducible refine gate_dst (N := 2) rfl ?_); refine box_event ?hg (N := 2) ?hd (cs := #[.int .i64 0, .slice none 0 0]) (t := 52) ?hr ?_; (case hd => rfl); (case hg => rfl); (case hr => exact zz10); intro gb417 hg w6 hbox hb; have BK417 := aM (hbox); have GW417 := aM ((zz15 : w.heap.size ≤ gb417)); have GE417 := aM ((zz15 : w.heap.size ≤ gb417)); replace HB := aM (below_step bB hb); clear hb hbox hg) | ((with_reducible refine gate_callee (f := 53) rfl ?_); refine gL_ (some 8) Tryd.func53 #[.slice A0 l0.length c0] ?_; (with_reducible refine (impl_partsOf.calls k _ _ l0 t418 _ ?side1 ?side2 A5.out).mono ?_); (case side1 => exact zz6 HR0.out); (case side2 => exact HC0.out); rintro e w7 ⟨v419, rfl, ho0, hb⟩; refine ⟨_, rfl, ?_⟩; have HO420 := aM (Kd.R_lower ho0 (below_size (bG GE417))); replace BK417 := aM (blk_below (g := gb417) (o := .cells #[.int .i64 0, .slice none 0 0] 52 (0, 0)) (bL BK417) hb); replace HB := aM (below_step (bG GE417) hb); (try clear ho0); obtain ⟨Ao8, co8, eo8⟩ := Kd.R_slice HO420.out; subst eo8; have hcz9_0 : w7.cell? ⟨gb417, 0, none⟩ = some (.int .i64 0) := (blk_cell BK417.out 0).trans rfl; have hcz9_1 : w7.cell? ⟨gb417, 1, none⟩ = some (.slice none 0 0) := (blk_cell BK417.out 1).trans rfl; have hfz9_0 := blk_frozen BK417.out 0; have hfz9_1 := blk_frozen BK417.out 1))
 refine bodyPost_ret (results_cell_row rfl _ _ gb417 52 #[.int .i64 0, .slice Ao8 t418.length co8] (0, 0) _ rfl (by (with_reducible repeat (first | refine blk_drewN ?_ _ | refine blk_drew ?_ | refine blk_alloc ?_ _)); refine blk_put (cs := #[.int .i64 0, .slice none 0 0]) ?_ 1 _ rfl; (with_reducible repeat (first | refine blk_drewN ?_ _ | refine blk_drew ?_ | refine blk_alloc ?_ _)); refine blk_put (cs := #[.int .i64 0, .slice none 0 0]) ?_ 0 _ rfl; (with_reducible repeat (first | refine blk_drewN ?_ _ | refine blk_drew ?_ | refine blk_alloc ?_ _)); exact BK417.out) Tryd.underlying52 rfl (by kernel_rfl)) rfl ?_
 exact ⟨_, bE, by (with_reducible repeat (first | apply Kd.R_alloc | apply Kd.R_drewN | apply Kd.R_drew)); exact Kd.R_mono (Kd.R_far (p := ⟨gb417, 1, none⟩) (Kd.R_far (p := ⟨gb417, 0, none⟩) (Kd.R_types HO420.out BK417.out (by decide)) (fun _ hk => hk.2) (.int .i64 0)) (fun _ hk => hk.2) (.slice Ao8 t418.length co8)) (fun _ hk => trivial), bG GE417⟩
def laws_eqPart.f (a0_0 : Int) (a0_1 : Int) (a0_2 : Int) (a0_3 : Int) (a0_4 : Int) (a0_5 : Int) (a0_6 : Int) (a1_0 : Int) (a1_1 : Int) (a1_2 : Int) (a1_3 : Int) (a1_4 : Int) (a1_5 : Int) (a1_6 : Int) : Option (Bool) := if a0_0 = a1_0 then (if a0_1 = a1_1 then (if a0_2 = a1_2 then (if a0_3 = a1_3 then (if a0_4 = a1_4 then (if a0_5 = a1_5 then (if a0_6 = a1_6 then (some true) else (some false)) else (some false)) else (some false)) else (some false)) else (some false)) else (some false)) else (some false)
set_option maxHeartbeats 8000000 in
set_option maxRecDepth 100000 in
theorem laws_eqPart.calls (a0_0 : Int) (a0_1 : Int) (a0_2 : Int) (a0_3 : Int) (a0_4 : Int) (a0_5 : Int) (a0_6 : Int) (a1_0 : Int) (a1_1 : Int) (a1_2 : Int) (a1_3 : Int) (a1_4 : Int) (a1_5 : Int) (a1_6 : Int) (r : Bool) (w : World) (h : laws_eqPart.f a0_0 a0_1 a0_2 a0_3 a0_4 a0_5 a0_6 a1_0 a1_1 a1_2 a1_3 a1_4 a1_5 a1_6 = some r) :
  Calls Tryd.prog 11 #[.agg #[.int .i64 a0_0, .int .i64 a0_1, .int .i64 a0_2, .int .i64 a0_3, .int .i64 a0_4, .int .i64 a0_5, .int .i64 a0_6], .agg #[.int .i64 a1_0, .int .i64 a1_1, .int .i64 a1_2, .int .i64 a1_3, .int .i64 a1_4, .int .i64 a1_5, .int .i64 a1_6]] w fun e w' => e = .returned (.bool r) ∧ Below w.heap.size w w' := by
 have hu23 := Tryd.underlying23
 have HB := aM (Below.refl w.heap.size w)
 have H : (if a0_0 = a1_0 then (if a0_1 = a1_1 then (if a0_2 = a1_2 then (if a0_3 = a1_3 then (if a0_4 = a1_4 then (if a0_5 = a1_5 then (if a0_6 = a1_6 then (some true) else (some false)) else (some false)) else (some false)) else (some false)) else (some false)) else (some false)) else (some false)) = some r := h
 clear h
 have HQ_ := aM H
 clear H
 go_enter Tryd.func11, Tryd.ntmps11
 have H := HQ_.out
 clear HQ_
 by_cases c3 : a0_0 = a1_0
 ·rw [if_pos c3] at H
  have c3b0 : (a0_0 == a1_0) = true := beq_iff_eq.mpr c3
  have c3b1 : (a0_0 != a1_0) = false := bne_eq_false_iff_eq.mpr c3
  clear c3
  (try simp only [c3b0, c3b1])
  by_cases c4 : a0_1 = a1_1
  ·rw [if_pos c4] at H
   have c4b0 : (a0_1 == a1_1) = true := beq_iff_eq.mpr c4
   have c4b1 : (a0_1 != a1_1) = false := bne_eq_false_iff_eq.mpr c4
   clear c4
   (try simp only [c4b0, c4b1])
   by_cases c5 : a0_2 = a1_2
   ·rw [if_pos c5] at H
    have c5b0 : (a0_2 == a1_2) = true := beq_iff_eq.mpr c5
    have c5b1 : (a0_2 != a1_2) = false := bne_eq_false_iff_eq.mpr c5
    clear c5
    (try simp only [c5b0, c5b1])
    by_cases c6 : a0_3 = a1_3
    ·rw [if_pos c6] at H
     have c6b0 : (a0_3 == a1_3) = true := beq_iff_eq.mpr c6
     have c6b1 : (a0_3 != a1_3) = false := bne_eq_false_iff_eq.mpr c6
     clear c6
     (try simp only [c6b0, c6b1])
     by_cases c7 : a0_4 = a1_4
     ·rw [if_pos c7] at H
      have c7b0 : (a0_4 == a1_4) = true := beq_iff_eq.mpr c7
      have c7b1 : (a0_4 != a1_4) = false := bne_eq_false_iff_eq.mpr c7
      clear c7
      (try simp only [c7b0, c7b1])
      by_cases c8 : a0_5 = a1_5
      ·rw [if_pos c8] at H
       have c8b0 : (a0_5 == a1_5) = true := beq_iff_eq.mpr c8
       have c8b1 : (a0_5 != a1_5) = false := bne_eq_false_iff_eq.mpr c8
       clear c8
       (try simp only [c8b0, c8b1])
       by_cases c9 : a0_6 = a1_6
       ·rw [if_pos c9] at H
        have c9b0 : (a0_6 == a1_6) = true := beq_iff_eq.mpr c9
        have c9b1 : (a0_6 != a1_6) = false := bne_eq_false_iff_eq.mpr c9
        clear c9
        obtain rfl := Option.some.inj H
        (try simp only [c9b0, c9b1])
        go_wp2_with (first | ((with_reducible refine gate_dst (N := 2) rfl ?_); refine box_event ?hg (N := 2) ?hd (cs := #[.int .i64 a0_0, .int .i64 a0_1, .int .i64 a0_2, .int .i64 a0_3, .int .i64 a0_4, .int .i64 a0_5, .int .i64 a0_6]) (t := 23) ?hr ?_; (case hd => rfl); (case hg => rfl); (case hr => exact zz10); intro gb421 hg w10 hbox hb; have BK421 := aM (hbox); have GW421 := aM ((zz15 : w.heap.size ≤ gb421)); have GE421 := aM ((zz15 : w.heap.size ≤ gb421)); replace HB := aM (below_step bB hb); clear hb hbox hg) | ((with_reducible refine gate_dst (N := 3) rfl ?_); refine box_event ?hg (N := 3) ?hd (cs := #[.int .i64 a1_0, .int .i64 a1_1, .int .i64 a1_2, .int .i64 a1_3, .int .i64 a1_4, .int .i64 a1_5, .int .i64 a1_6]) (t := 23) ?hr ?_; (case hd => rfl); (case hg => rfl); (case hr => exact zz10); intro gb422 hg w11 hbox hb; have BK422 := aM (hbox); have GW422 := aM ((zz38 : w.heap.size ≤ gb422)); have GE422 := aM ((zz38 : w.heap.size ≤ gb422)); replace HB := aM (below_step (bG GE421) hb); have NB421_422 := aM ((zz22 : gb421 ≠ gb422)); have NB422_421 := aM ((zz21 : gb422 ≠ gb421)); replace BK421 := aM (blk_below (g := gb421) (o := .cells #[.int .i64 a0_0, .int .i64 a0_1, .int .i64 a0_2, .int .i64 a0_3, .int .i64 a0_4, .int .i64 a0_5, .int .i64 a0_6] 23 (0, 0)) (bL BK421) hb); clear hb hbox hg; have hnb12 := NB421_422.out; have hnc12 := NB422_421.out; have hcz13_0 : w11.cell? ⟨gb421, 0, none⟩ = some (.int .i64 a0_0) := (blk_cell BK421.out 0).trans rfl; have hcz13_1 : w11.cell? ⟨gb421, 1, none⟩ = some (.int .i64 a0_1) := (blk_cell BK421.out 1).trans rfl; have hcz13_2 : w11.cell? ⟨gb421, 2, none⟩ = some (.int .i64 a0_2) := (blk_cell BK421.out 2).trans rfl; have hcz13_3 : w11.cell? ⟨gb421, 3, none⟩ = some (.int .i64 a0_3) := (blk_cell BK421.out 3).trans rfl; have hcz13_4 : w11.cell? ⟨gb421, 4, none⟩ = some (.int .i64 a0_4) := (blk_cell BK421.out 4).trans rfl; have hcz13_5 : w11.cell? ⟨gb421, 5, none⟩ = some (.int .i64 a0_5) := (blk_cell BK421.out 5).trans rfl; have hcz13_6 : w11.cell? ⟨gb421, 6, none⟩ = some (.int .i64 a0_6) := (blk_cell BK421.out 6).trans rfl; have hfz13_0 := blk_frozen BK421.out 0; have hfz13_1 := blk_frozen BK421.out 1; have hfz13_2 := blk_frozen BK421.out 2; have hfz13_3 := blk_frozen BK421.out 3; have hfz13_4 := blk_frozen BK421.out 4; have hfz13_5 := blk_frozen BK421.out 5; have hfz13_6 := blk_frozen BK421.out 6; have hcz14_0 : w11.cell? ⟨gb422, 0, none⟩ = some (.int .i64 a1_0) := (blk_cell BK422.out 0).trans rfl; have hcz14_1 : w11.cell? ⟨gb422, 1, none⟩ = some (.int .i64 a1_1) := (blk_cell BK422.out 1).trans rfl; have hcz14_2 : w11.cell? ⟨gb422, 2, none⟩ = some (.int .i64 a1_2) := (blk_cell BK422.out 2).trans rfl; have hcz14_3 : w11.cell? ⟨gb422, 3, none⟩ = some (.int .i64 a1_3) := (blk_cell BK422.out 3).trans rfl; have hcz14_4 : w11.cell? ⟨gb422, 4, none⟩ = some (.int .i64 a1_4) := (blk_cell BK422.out 4).trans rfl; have hcz14_5 : w11.cell? ⟨gb422, 5, none⟩ = some (.int .i64 a1_5) := (blk_cell BK422.out 5).trans rfl; have hcz14_6 : w11.cell? ⟨gb422, 6, none⟩ = some (.int .i64 a1_6) := (blk_cell BK422.out 6).trans rfl; have hfz14_0 := blk_frozen BK422.out 0; have hfz14_1 := blk_frozen BK422.out 1; have hfz14_2 := blk_frozen BK422.out 2; have hfz14_3 := blk_frozen BK422.out 3; have hfz14_4 := blk_frozen BK422.out 4; have hfz14_5 := blk_frozen BK422.out 5; have hfz14_6 := blk_frozen BK422.out 6))
        go_ret
        exact ⟨bE, bG2 GE421 GE422⟩
       rw [if_neg c9] at H
       have c9b0 : (a0_6 == a1_6) = false := beq_eq_false_iff_ne.mpr c9
       have c9b1 : (a0_6 != a1_6) = true := bne_iff_ne.mpr c9
       obtain rfl := Option.some.inj H
       (try simp only [c9b0, c9b1])
       go_wp2_with (first | ((with_reducible refine gate_dst (N := 2) rfl ?_); refine box_event ?hg (N := 2) ?hd (cs := #[.int .i64 a0_0, .int .i64 a0_1, .int .i64 a0_2, .int .i64 a0_3, .int .i64 a0_4, .int .i64 a0_5, .int .i64 a0_6]) (t := 23) ?hr ?_; (case hd => rfl); (case hg => rfl); (case hr => exact zz10); intro gb421 hg w15 hbox hb; have BK421 := aM (hbox); have GW421 := aM ((zz15 : w.heap.size ≤ gb421)); have GE421 := aM ((zz15 : w.heap.size ≤ gb421)); replace HB := aM (below_step bB hb); clear hb hbox hg) | ((with_reducible refine gate_dst (N := 3) rfl ?_); refine box_event ?hg (N := 3) ?hd (cs := #[.int .i64 a1_0, .int .i64 a1_1, .int .i64 a1_2, .int .i64 a1_3, .int .i64 a1_4, .int .i64 a1_5, .int .i64 a1_6]) (t := 23) ?hr ?_; (case hd => rfl); (case hg => rfl); (case hr => exact zz10); intro gb422 hg w16 hbox hb; have BK422 := aM (hbox); have GW422 := aM ((zz38 : w.heap.size ≤ gb422)); have GE422 := aM ((zz38 : w.heap.size ≤ gb422)); replace HB := aM (below_step (bG GE421) hb); have NB421_422 := aM ((zz22 : gb421 ≠ gb422)); have NB422_421 := aM ((zz21 : gb422 ≠ gb421)); replace BK421 := aM (blk_below (g := gb421) (o := .cells #[.int .i64 a0_0, .int .i64 a0_1, .int .i64 a0_2, .int .i64 a0_3, .int .i64 a0_4, .int .i64 a0_5, .int .i64 a0_6] 23 (0, 0)) (bL BK421) hb); clear hb hbox hg; have hnb17 := NB421_422.out; have hnc17 := NB422_421.out; have hcz18_0 : w16.cell? ⟨gb421, 0, none⟩ = some (.int .i64 a0_0) := (blk_cell BK421.out 0).trans rfl; have hcz18_1 : w16.cell? ⟨gb421, 1, none⟩ = some (.int .i64 a0_1) := (blk_cell BK421.out 1).trans rfl; have hcz18_2 : w16.cell? ⟨gb421, 2, none⟩ = some (.int .i64 a0_2) := (blk_cell BK421.out 2).trans rfl; have hcz18_3 : w16.cell? ⟨gb421, 3, none⟩ = some (.int .i64 a0_3) := (blk_cell BK421.out 3).trans rfl; have hcz18_4 : w16.cell? ⟨gb421, 4, none⟩ = some (.int .i64 a0_4) := (blk_cell BK421.out 4).trans rfl; have hcz18_5 : w16.cell? ⟨gb421, 5, none⟩ = some (.int .i64 a0_5) := (blk_cell BK421.out 5).trans rfl; have hcz18_6 : w16.cell? ⟨gb421, 6, none⟩ = some (.int .i64 a0_6) := (blk_cell BK421.out 6).trans rfl; have hfz18_0 := blk_frozen BK421.out 0; have hfz18_1 := blk_frozen BK421.out 1; have hfz18_2 := blk_frozen BK421.out 2; have hfz18_3 := blk_frozen BK421.out 3; have hfz18_4 := blk_frozen BK421.out 4; have hfz18_5 := blk_frozen BK421.out 5; have hfz18_6 := blk_frozen BK421.out 6; have hcz19_0 : w16.cell? ⟨gb422, 0, none⟩ = some (.int .i64 a1_0) := (blk_cell BK422.out 0).trans rfl; have hcz19_1 : w16.cell? ⟨gb422, 1, none⟩ = some (.int .i64 a1_1) := (blk_cell BK422.out 1).trans rfl; have hcz19_2 : w16.cell? ⟨gb422, 2, none⟩ = some (.int .i64 a1_2) := (blk_cell BK422.out 2).trans rfl; have hcz19_3 : w16.cell? ⟨gb422, 3, none⟩ = some (.int .i64 a1_3) := (blk_cell BK422.out 3).trans rfl; have hcz19_4 : w16.cell? ⟨gb422, 4, none⟩ = some (.int .i64 a1_4) := (blk_cell BK422.out 4).trans rfl; have hcz19_5 : w16.cell? ⟨gb422, 5, none⟩ = some (.int .i64 a1_5) := (blk_cell BK422.out 5).trans rfl; have hcz19_6 : w16.cell? ⟨gb422, 6, none⟩ = some (.int .i64 a1_6) := (blk_cell BK422.out 6).trans rfl; have hfz19_0 := blk_frozen BK422.out 0; have hfz19_1 := blk_frozen BK422.out 1; have hfz19_2 := blk_frozen BK422.out 2; have hfz19_3 := blk_frozen BK422.out 3; have hfz19_4 := blk_frozen BK422.out 4; have hfz19_5 := blk_frozen BK422.out 5; have hfz19_6 := blk_frozen BK422.out 6))
       go_ret
       exact ⟨bE, bG2 GE421 GE422⟩
      rw [if_neg c8] at H
      have c8b0 : (a0_5 == a1_5) = false := beq_eq_false_iff_ne.mpr c8
      have c8b1 : (a0_5 != a1_5) = true := bne_iff_ne.mpr c8
      obtain rfl := Option.some.inj H
      (try simp only [c8b0, c8b1])
      go_wp2_with (first | ((with_reducible refine gate_dst (N := 2) rfl ?_); refine box_event ?hg (N := 2) ?hd (cs := #[.int .i64 a0_0, .int .i64 a0_1, .int .i64 a0_2, .int .i64 a0_3, .int .i64 a0_4, .int .i64 a0_5, .int .i64 a0_6]) (t := 23) ?hr ?_; (case hd => rfl); (case hg => rfl); (case hr => exact zz10); intro gb421 hg w20 hbox hb; have BK421 := aM (hbox); have GW421 := aM ((zz15 : w.heap.size ≤ gb421)); have GE421 := aM ((zz15 : w.heap.size ≤ gb421)); replace HB := aM (below_step bB hb); clear hb hbox hg) | ((with_reducible refine gate_dst (N := 3) rfl ?_); refine box_event ?hg (N := 3) ?hd (cs := #[.int .i64 a1_0, .int .i64 a1_1, .int .i64 a1_2, .int .i64 a1_3, .int .i64 a1_4, .int .i64 a1_5, .int .i64 a1_6]) (t := 23) ?hr ?_; (case hd => rfl); (case hg => rfl); (case hr => exact zz10); intro gb422 hg w21 hbox hb; have BK422 := aM (hbox); have GW422 := aM ((zz38 : w.heap.size ≤ gb422)); have GE422 := aM ((zz38 : w.heap.size ≤ gb422)); replace HB := aM (below_step (bG GE421) hb); have NB421_422 := aM ((zz22 : gb421 ≠ gb422)); have NB422_421 := aM ((zz21 : gb422 ≠ gb421)); replace BK421 := aM (blk_below (g := gb421) (o := .cells #[.int .i64 a0_0, .int .i64 a0_1, .int .i64 a0_2, .int .i64 a0_3, .int .i64 a0_4, .int .i64 a0_5, .int .i64 a0_6] 23 (0, 0)) (bL BK421) hb); clear hb hbox hg; have hnb22 := NB421_422.out; have hnc22 := NB422_421.out; have hcz23_0 : w21.cell? ⟨gb421, 0, none⟩ = some (.int .i64 a0_0) := (blk_cell BK421.out 0).trans rfl; have hcz23_1 : w21.cell? ⟨gb421, 1, none⟩ = some (.int .i64 a0_1) := (blk_cell BK421.out 1).trans rfl; have hcz23_2 : w21.cell? ⟨gb421, 2, none⟩ = some (.int .i64 a0_2) := (blk_cell BK421.out 2).trans rfl; have hcz23_3 : w21.cell? ⟨gb421, 3, none⟩ = some (.int .i64 a0_3) := (blk_cell BK421.out 3).trans rfl; have hcz23_4 : w21.cell? ⟨gb421, 4, none⟩ = some (.int .i64 a0_4) := (blk_cell BK421.out 4).trans rfl; have hcz23_5 : w21.cell? ⟨gb421, 5, none⟩ = some (.int .i64 a0_5) := (blk_cell BK421.out 5).trans rfl; have hcz23_6 : w21.cell? ⟨gb421, 6, none⟩ = some (.int .i64 a0_6) := (blk_cell BK421.out 6).trans rfl; have hfz23_0 := blk_frozen BK421.out 0; have hfz23_1 := blk_frozen BK421.out 1; have hfz23_2 := blk_frozen BK421.out 2; have hfz23_3 := blk_frozen BK421.out 3; have hfz23_4 := blk_frozen BK421.out 4; have hfz23_5 := blk_frozen BK421.out 5; have hfz23_6 := blk_frozen BK421.out 6; have hcz24_0 : w21.cell? ⟨gb422, 0, none⟩ = some (.int .i64 a1_0) := (blk_cell BK422.out 0).trans rfl; have hcz24_1 : w21.cell? ⟨gb422, 1, none⟩ = some (.int .i64 a1_1) := (blk_cell BK422.out 1).trans rfl; have hcz24_2 : w21.cell? ⟨gb422, 2, none⟩ = some (.int .i64 a1_2) := (blk_cell BK422.out 2).trans rfl; have hcz24_3 : w21.cell? ⟨gb422, 3, none⟩ = some (.int .i64 a1_3) := (blk_cell BK422.out 3).trans rfl; have hcz24_4 : w21.cell? ⟨gb422, 4, none⟩ = some (.int .i64 a1_4) := (blk_cell BK422.out 4).trans rfl; have hcz24_5 : w21.cell? ⟨gb422, 5, none⟩ = some (.int .i64 a1_5) := (blk_cell BK422.out 5).trans rfl; have hcz24_6 : w21.cell? ⟨gb422, 6, none⟩ = some (.int .i64 a1_6) := (blk_cell BK422.out 6).trans rfl; have hfz24_0 := blk_frozen BK422.out 0; have hfz24_1 := blk_frozen BK422.out 1; have hfz24_2 := blk_frozen BK422.out 2; have hfz24_3 := blk_frozen BK422.out 3; have hfz24_4 := blk_frozen BK422.out 4; have hfz24_5 := blk_frozen BK422.out 5; have hfz24_6 := blk_frozen BK422.out 6))
      go_ret
      exact ⟨bE, bG2 GE421 GE422⟩
     rw [if_neg c7] at H
     have c7b0 : (a0_4 == a1_4) = false := beq_eq_false_iff_ne.mpr c7
     have c7b1 : (a0_4 != a1_4) = true := bne_iff_ne.mpr c7
     obtain rfl := Option.some.inj H
     (try simp only [c7b0, c7b1])
     go_wp2_with (first | ((with_reducible refine gate_dst (N := 2) rfl ?_); refine box_event ?hg (N := 2) ?hd (cs := #[.int .i64 a0_0, .int .i64 a0_1, .int .i64 a0_2, .int .i64 a0_3, .int .i64 a0_4, .int .i64 a0_5, .int .i64 a0_6]) (t := 23) ?hr ?_; (case hd => rfl); (case hg => rfl); (case hr => exact zz10); intro gb421 hg w25 hbox hb; have BK421 := aM (hbox); have GW421 := aM ((zz15 : w.heap.size ≤ gb421)); have GE421 := aM ((zz15 : w.heap.size ≤ gb421)); replace HB := aM (below_step bB hb); clear hb hbox hg) | ((with_reducible refine gate_dst (N := 3) rfl ?_); refine box_event ?hg (N := 3) ?hd (cs := #[.int .i64 a1_0, .int .i64 a1_1, .int .i64 a1_2, .int .i64 a1_3, .int .i64 a1_4, .int .i64 a1_5, .int .i64 a1_6]) (t := 23) ?hr ?_; (case hd => rfl); (case hg => rfl); (case hr => exact zz10); intro gb422 hg w26 hbox hb; have BK422 := aM (hbox); have GW422 := aM ((zz38 : w.heap.size ≤ gb422)); have GE422 := aM ((zz38 : w.heap.size ≤ gb422)); replace HB := aM (below_step (bG GE421) hb); have NB421_422 := aM ((zz22 : gb421 ≠ gb422)); have NB422_421 := aM ((zz21 : gb422 ≠ gb421)); replace BK421 := aM (blk_below (g := gb421) (o := .cells #[.int .i64 a0_0, .int .i64 a0_1, .int .i64 a0_2, .int .i64 a0_3, .int .i64 a0_4, .int .i64 a0_5, .int .i64 a0_6] 23 (0, 0)) (bL BK421) hb); clear hb hbox hg; have hnb27 := NB421_422.out; have hnc27 := NB422_421.out; have hcz28_0 : w26.cell? ⟨gb421, 0, none⟩ = some (.int .i64 a0_0) := (blk_cell BK421.out 0).trans rfl; have hcz28_1 : w26.cell? ⟨gb421, 1, none⟩ = some (.int .i64 a0_1) := (blk_cell BK421.out 1).trans rfl; have hcz28_2 : w26.cell? ⟨gb421, 2, none⟩ = some (.int .i64 a0_2) := (blk_cell BK421.out 2).trans rfl; have hcz28_3 : w26.cell? ⟨gb421, 3, none⟩ = some (.int .i64 a0_3) := (blk_cell BK421.out 3).trans rfl; have hcz28_4 : w26.cell? ⟨gb421, 4, none⟩ = some (.int .i64 a0_4) := (blk_cell BK421.out 4).trans rfl; have hcz28_5 : w26.cell? ⟨gb421, 5, none⟩ = some (.int .i64 a0_5) := (blk_cell BK421.out 5).trans rfl; have hcz28_6 : w26.cell? ⟨gb421, 6, none⟩ = some (.int .i64 a0_6) := (blk_cell BK421.out 6).trans rfl; have hfz28_0 := blk_frozen BK421.out 0; have hfz28_1 := blk_frozen BK421.out 1; have hfz28_2 := blk_frozen BK421.out 2; have hfz28_3 := blk_frozen BK421.out 3; have hfz28_4 := blk_frozen BK421.out 4; have hfz28_5 := blk_frozen BK421.out 5; have hfz28_6 := blk_frozen BK421.out 6; have hcz29_0 : w26.cell? ⟨gb422, 0, none⟩ = some (.int .i64 a1_0) := (blk_cell BK422.out 0).trans rfl; have hcz29_1 : w26.cell? ⟨gb422, 1, none⟩ = some (.int .i64 a1_1) := (blk_cell BK422.out 1).trans rfl; have hcz29_2 : w26.cell? ⟨gb422, 2, none⟩ = some (.int .i64 a1_2) := (blk_cell BK422.out 2).trans rfl; have hcz29_3 : w26.cell? ⟨gb422, 3, none⟩ = some (.int .i64 a1_3) := (blk_cell BK422.out 3).trans rfl; have hcz29_4 : w26.cell? ⟨gb422, 4, none⟩ = some (.int .i64 a1_4) := (blk_cell BK422.out 4).trans rfl; have hcz29_5 : w26.cell? ⟨gb422, 5, none⟩ = some (.int .i64 a1_5) := (blk_cell BK422.out 5).trans rfl; have hcz29_6 : w26.cell? ⟨gb422, 6, none⟩ = some (.int .i64 a1_6) := (blk_cell BK422.out 6).trans rfl; have hfz29_0 := blk_frozen BK422.out 0; have hfz29_1 := blk_frozen BK422.out 1; have hfz29_2 := blk_frozen BK422.out 2; have hfz29_3 := blk_frozen BK422.out 3; have hfz29_4 := blk_frozen BK422.out 4; have hfz29_5 := blk_frozen BK422.out 5; have hfz29_6 := blk_frozen BK422.out 6))
     go_ret
     exact ⟨bE, bG2 GE421 GE422⟩
    rw [if_neg c6] at H
    have c6b0 : (a0_3 == a1_3) = false := beq_eq_false_iff_ne.mpr c6
    have c6b1 : (a0_3 != a1_3) = true := bne_iff_ne.mpr c6
    obtain rfl := Option.some.inj H
    (try simp only [c6b0, c6b1])
    go_wp2_with (first | ((with_reducible refine gate_dst (N := 2) rfl ?_); refine box_event ?hg (N := 2) ?hd (cs := #[.int .i64 a0_0, .int .i64 a0_1, .int .i64 a0_2, .int .i64 a0_3, .int .i64 a0_4, .int .i64 a0_5, .int .i64 a0_6]) (t := 23) ?hr ?_; (case hd => rfl); (case hg => rfl); (case hr => exact zz10); intro gb421 hg w30 hbox hb; have BK421 := aM (hbox); have GW421 := aM ((zz15 : w.heap.size ≤ gb421)); have GE421 := aM ((zz15 : w.heap.size ≤ gb421)); replace HB := aM (below_step bB hb); clear hb hbox hg) | ((with_reducible refine gate_dst (N := 3) rfl ?_); refine box_event ?hg (N := 3) ?hd (cs := #[.int .i64 a1_0, .int .i64 a1_1, .int .i64 a1_2, .int .i64 a1_3, .int .i64 a1_4, .int .i64 a1_5, .int .i64 a1_6]) (t := 23) ?hr ?_; (case hd => rfl); (case hg => rfl); (case hr => exact zz10); intro gb422 hg w31 hbox hb; have BK422 := aM (hbox); have GW422 := aM ((zz38 : w.heap.size ≤ gb422)); have GE422 := aM ((zz38 : w.heap.size ≤ gb422)); replace HB := aM (below_step (bG GE421) hb); have NB421_422 := aM ((zz22 : gb421 ≠ gb422)); have NB422_421 := aM ((zz21 : gb422 ≠ gb421)); replace BK421 := aM (blk_below (g := gb421) (o := .cells #[.int .i64 a0_0, .int .i64 a0_1, .int .i64 a0_2, .int .i64 a0_3, .int .i64 a0_4, .int .i64 a0_5, .int .i64 a0_6] 23 (0, 0)) (bL BK421) hb); clear hb hbox hg; have hnb32 := NB421_422.out; have hnc32 := NB422_421.out; have hcz33_0 : w31.cell? ⟨gb421, 0, none⟩ = some (.int .i64 a0_0) := (blk_cell BK421.out 0).trans rfl; have hcz33_1 : w31.cell? ⟨gb421, 1, none⟩ = some (.int .i64 a0_1) := (blk_cell BK421.out 1).trans rfl; have hcz33_2 : w31.cell? ⟨gb421, 2, none⟩ = some (.int .i64 a0_2) := (blk_cell BK421.out 2).trans rfl; have hcz33_3 : w31.cell? ⟨gb421, 3, none⟩ = some (.int .i64 a0_3) := (blk_cell BK421.out 3).trans rfl; have hcz33_4 : w31.cell? ⟨gb421, 4, none⟩ = some (.int .i64 a0_4) := (blk_cell BK421.out 4).trans rfl; have hcz33_5 : w31.cell? ⟨gb421, 5, none⟩ = some (.int .i64 a0_5) := (blk_cell BK421.out 5).trans rfl; have hcz33_6 : w31.cell? ⟨gb421, 6, none⟩ = some (.int .i64 a0_6) := (blk_cell BK421.out 6).trans rfl; have hfz33_0 := blk_frozen BK421.out 0; have hfz33_1 := blk_frozen BK421.out 1; have hfz33_2 := blk_frozen BK421.out 2; have hfz33_3 := blk_frozen BK421.out 3; have hfz33_4 := blk_frozen BK421.out 4; have hfz33_5 := blk_frozen BK421.out 5; have hfz33_6 := blk_frozen BK421.out 6; have hcz34_0 : w31.cell? ⟨gb422, 0, none⟩ = some (.int .i64 a1_0) := (blk_cell BK422.out 0).trans rfl; have hcz34_1 : w31.cell? ⟨gb422, 1, none⟩ = some (.int .i64 a1_1) := (blk_cell BK422.out 1).trans rfl; have hcz34_2 : w31.cell? ⟨gb422, 2, none⟩ = some (.int .i64 a1_2) := (blk_cell BK422.out 2).trans rfl; have hcz34_3 : w31.cell? ⟨gb422, 3, none⟩ = some (.int .i64 a1_3) := (blk_cell BK422.out 3).trans rfl; have hcz34_4 : w31.cell? ⟨gb422, 4, none⟩ = some (.int .i64 a1_4) := (blk_cell BK422.out 4).trans rfl; have hcz34_5 : w31.cell? ⟨gb422, 5, none⟩ = some (.int .i64 a1_5) := (blk_cell BK422.out 5).trans rfl; have hcz34_6 : w31.cell? ⟨gb422, 6, none⟩ = some (.int .i64 a1_6) := (blk_cell BK422.out 6).trans rfl; have hfz34_0 := blk_frozen BK422.out 0; have hfz34_1 := blk_frozen BK422.out 1; have hfz34_2 := blk_frozen BK422.out 2; have hfz34_3 := blk_frozen BK422.out 3; have hfz34_4 := blk_frozen BK422.out 4; have hfz34_5 := blk_frozen BK422.out 5; have hfz34_6 := blk_frozen BK422.out 6))
    go_ret
    exact ⟨bE, bG2 GE421 GE422⟩
   rw [if_neg c5] at H
   have c5b0 : (a0_2 == a1_2) = false := beq_eq_false_iff_ne.mpr c5
   have c5b1 : (a0_2 != a1_2) = true := bne_iff_ne.mpr c5
   obtain rfl := Option.some.inj H
   (try simp only [c5b0, c5b1])
   go_wp2_with (first | ((with_reducible refine gate_dst (N := 2) rfl ?_); refine box_event ?hg (N := 2) ?hd (cs := #[.int .i64 a0_0, .int .i64 a0_1, .int .i64 a0_2, .int .i64 a0_3, .int .i64 a0_4, .int .i64 a0_5, .int .i64 a0_6]) (t := 23) ?hr ?_; (case hd => rfl); (case hg => rfl); (case hr => exact zz10); intro gb421 hg w35 hbox hb; have BK421 := aM (hbox); have GW421 := aM ((zz15 : w.heap.size ≤ gb421)); have GE421 := aM ((zz15 : w.heap.size ≤ gb421)); replace HB := aM (below_step bB hb); clear hb hbox hg) | ((with_reducible refine gate_dst (N := 3) rfl ?_); refine box_event ?hg (N := 3) ?hd (cs := #[.int .i64 a1_0, .int .i64 a1_1, .int .i64 a1_2, .int .i64 a1_3, .int .i64 a1_4, .int .i64 a1_5, .int .i64 a1_6]) (t := 23) ?hr ?_; (case hd => rfl); (case hg => rfl); (case hr => exact zz10); intro gb422 hg w36 hbox hb; have BK422 := aM (hbox); have GW422 := aM ((zz38 : w.heap.size ≤ gb422)); have GE422 := aM ((zz38 : w.heap.size ≤ gb422)); replace HB := aM (below_step (bG GE421) hb); have NB421_422 := aM ((zz22 : gb421 ≠ gb422)); have NB422_421 := aM ((zz21 : gb422 ≠ gb421)); replace BK421 := aM (blk_below (g := gb421) (o := .cells #[.int .i64 a0_0, .int .i64 a0_1, .int .i64 a0_2, .int .i64 a0_3, .int .i64 a0_4, .int .i64 a0_5, .int .i64 a0_6] 23 (0, 0)) (bL BK421) hb); clear hb hbox hg; have hnb37 := NB421_422.out; have hnc37 := NB422_421.out; have hcz38_0 : w36.cell? ⟨gb421, 0, none⟩ = some (.int .i64 a0_0) := (blk_cell BK421.out 0).trans rfl; have hcz38_1 : w36.cell? ⟨gb421, 1, none⟩ = some (.int .i64 a0_1) := (blk_cell BK421.out 1).trans rfl; have hcz38_2 : w36.cell? ⟨gb421, 2, none⟩ = some (.int .i64 a0_2) := (blk_cell BK421.out 2).trans rfl; have hcz38_3 : w36.cell? ⟨gb421, 3, none⟩ = some (.int .i64 a0_3) := (blk_cell BK421.out 3).trans rfl; have hcz38_4 : w36.cell? ⟨gb421, 4, none⟩ = some (.int .i64 a0_4) := (blk_cell BK421.out 4).trans rfl; have hcz38_5 : w36.cell? ⟨gb421, 5, none⟩ = some (.int .i64 a0_5) := (blk_cell BK421.out 5).trans rfl; have hcz38_6 : w36.cell? ⟨gb421, 6, none⟩ = some (.int .i64 a0_6) := (blk_cell BK421.out 6).trans rfl; have hfz38_0 := blk_frozen BK421.out 0; have hfz38_1 := blk_frozen BK421.out 1; have hfz38_2 := blk_frozen BK421.out 2; have hfz38_3 := blk_frozen BK421.out 3; have hfz38_4 := blk_frozen BK421.out 4; have hfz38_5 := blk_frozen BK421.out 5; have hfz38_6 := blk_frozen BK421.out 6; have hcz39_0 : w36.cell? ⟨gb422, 0, none⟩ = some (.int .i64 a1_0) := (blk_cell BK422.out 0).trans rfl; have hcz39_1 : w36.cell? ⟨gb422, 1, none⟩ = some (.int .i64 a1_1) := (blk_cell BK422.out 1).trans rfl; have hcz39_2 : w36.cell? ⟨gb422, 2, none⟩ = some (.int .i64 a1_2) := (blk_cell BK422.out 2).trans rfl; have hcz39_3 : w36.cell? ⟨gb422, 3, none⟩ = some (.int .i64 a1_3) := (blk_cell BK422.out 3).trans rfl; have hcz39_4 : w36.cell? ⟨gb422, 4, none⟩ = some (.int .i64 a1_4) := (blk_cell BK422.out 4).trans rfl; have hcz39_5 : w36.cell? ⟨gb422, 5, none⟩ = some (.int .i64 a1_5) := (blk_cell BK422.out 5).trans rfl; have hcz39_6 : w36.cell? ⟨gb422, 6, none⟩ = some (.int .i64 a1_6) := (blk_cell BK422.out 6).trans rfl; have hfz39_0 := blk_frozen BK422.out 0; have hfz39_1 := blk_frozen BK422.out 1; have hfz39_2 := blk_frozen BK422.out 2; have hfz39_3 := blk_frozen BK422.out 3; have hfz39_4 := blk_frozen BK422.out 4; have hfz39_5 := blk_frozen BK422.out 5; have hfz39_6 := blk_frozen BK422.out 6))
   go_ret
   exact ⟨bE, bG2 GE421 GE422⟩
  rw [if_neg c4] at H
  have c4b0 : (a0_1 == a1_1) = false := beq_eq_false_iff_ne.mpr c4
  have c4b1 : (a0_1 != a1_1) = true := bne_iff_ne.mpr c4
  obtain rfl := Option.some.inj H
  (try simp only [c4b0, c4b1])
  go_wp2_with (first | ((with_reducible refine gate_dst (N := 2) rfl ?_); refine box_event ?hg (N := 2) ?hd (cs := #[.int .i64 a0_0, .int .i64 a0_1, .int .i64 a0_2, .int .i64 a0_3, .int .i64 a0_4, .int .i64 a0_5, .int .i64 a0_6]) (t := 23) ?hr ?_; (case hd => rfl); (case hg => rfl); (case hr => exact zz10); intro gb421 hg w40 hbox hb; have BK421 := aM (hbox); have GW421 := aM ((zz15 : w.heap.size ≤ gb421)); have GE421 := aM ((zz15 : w.heap.size ≤ gb421)); replace HB := aM (below_step bB hb); clear hb hbox hg) | ((with_reducible refine gate_dst (N := 3) rfl ?_); refine box_event ?hg (N := 3) ?hd (cs := #[.int .i64 a1_0, .int .i64 a1_1, .int .i64 a1_2, .int .i64 a1_3, .int .i64 a1_4, .int .i64 a1_5, .int .i64 a1_6]) (t := 23) ?hr ?_; (case hd => rfl); (case hg => rfl); (case hr => exact zz10); intro gb422 hg w41 hbox hb; have BK422 := aM (hbox); have GW422 := aM ((zz38 : w.heap.size ≤ gb422)); have GE422 := aM ((zz38 : w.heap.size ≤ gb422)); replace HB := aM (below_step (bG GE421) hb); have NB421_422 := aM ((zz22 : gb421 ≠ gb422)); have NB422_421 := aM ((zz21 : gb422 ≠ gb421)); replace BK421 := aM (blk_below (g := gb421) (o := .cells #[.int .i64 a0_0, .int .i64 a0_1, .int .i64 a0_2, .int .i64 a0_3, .int .i64 a0_4, .int .i64 a0_5, .int .i64 a0_6] 23 (0, 0)) (bL BK421) hb); clear hb hbox hg; have hnb42 := NB421_422.out; have hnc42 := NB422_421.out; have hcz43_0 : w41.cell? ⟨gb421, 0, none⟩ = some (.int .i64 a0_0) := (blk_cell BK421.out 0).trans rfl; have hcz43_1 : w41.cell? ⟨gb421, 1, none⟩ = some (.int .i64 a0_1) := (blk_cell BK421.out 1).trans rfl; have hcz43_2 : w41.cell? ⟨gb421, 2, none⟩ = some (.int .i64 a0_2) := (blk_cell BK421.out 2).trans rfl; have hcz43_3 : w41.cell? ⟨gb421, 3, none⟩ = some (.int .i64 a0_3) := (blk_cell BK421.out 3).trans rfl; have hcz43_4 : w41.cell? ⟨gb421, 4, none⟩ = some (.int .i64 a0_4) := (blk_cell BK421.out 4).trans rfl; have hcz43_5 : w41.cell? ⟨gb421, 5, none⟩ = some (.int .i64 a0_5) := (blk_cell BK421.out 5).trans rfl; have hcz43_6 : w41.cell? ⟨gb421, 6, none⟩ = some (.int .i64 a0_6) := (blk_cell BK421.out 6).trans rfl; have hfz43_0 := blk_frozen BK421.out 0; have hfz43_1 := blk_frozen BK421.out 1; have hfz43_2 := blk_frozen BK421.out 2; have hfz43_3 := blk_frozen BK421.out 3; have hfz43_4 := blk_frozen BK421.out 4; have hfz43_5 := blk_frozen BK421.out 5; have hfz43_6 := blk_frozen BK421.out 6; have hcz44_0 : w41.cell? ⟨gb422, 0, none⟩ = some (.int .i64 a1_0) := (blk_cell BK422.out 0).trans rfl; have hcz44_1 : w41.cell? ⟨gb422, 1, none⟩ = some (.int .i64 a1_1) := (blk_cell BK422.out 1).trans rfl; have hcz44_2 : w41.cell? ⟨gb422, 2, none⟩ = some (.int .i64 a1_2) := (blk_cell BK422.out 2).trans rfl; have hcz44_3 : w41.cell? ⟨gb422, 3, none⟩ = some (.int .i64 a1_3) := (blk_cell BK422.out 3).trans rfl; have hcz44_4 : w41.cell? ⟨gb422, 4, none⟩ = some (.int .i64 a1_4) := (blk_cell BK422.out 4).trans rfl; have hcz44_5 : w41.cell? ⟨gb422, 5, none⟩ = some (.int .i64 a1_5) := (blk_cell BK422.out 5).trans rfl; have hcz44_6 : w41.cell? ⟨gb422, 6, none⟩ = some (.int .i64 a1_6) := (blk_cell BK422.out 6).trans rfl; have hfz44_0 := blk_frozen BK422.out 0; have hfz44_1 := blk_frozen BK422.out 1; have hfz44_2 := blk_frozen BK422.out 2; have hfz44_3 := blk_frozen BK422.out 3; have hfz44_4 := blk_frozen BK422.out 4; have hfz44_5 := blk_frozen BK422.out 5; have hfz44_6 := blk_frozen BK422.out 6))
  go_ret
  exact ⟨bE, bG2 GE421 GE422⟩
 rw [if_neg c3] at H
 have c3b0 : (a0_0 == a1_0) = false := beq_eq_false_iff_ne.mpr c3
 have c3b1 : (a0_0 != a1_0) = true := bne_iff_ne.mpr c3
 obtain rfl := Option.some.inj H
 (try simp only [c3b0, c3b1])
 go_wp2_with (first | ((with_reducible refine gate_dst (N := 2) rfl ?_); refine box_event ?hg (N := 2) ?hd (cs := #[.int .i64 a0_0, .int .i64 a0_1, .int .i64 a0_2, .int .i64 a0_3, .int .i64 a0_4, .int .i64 a0_5, .int .i64 a0_6]) (t := 23) ?hr ?_; (case hd => rfl); (case hg => rfl); (case hr => exact zz10); intro gb421 hg w45 hbox hb; have BK421 := aM (hbox); have GW421 := aM ((zz15 : w.heap.size ≤ gb421)); have GE421 := aM ((zz15 : w.heap.size ≤ gb421)); replace HB := aM (below_step bB hb); clear hb hbox hg) | ((with_reducible refine gate_dst (N := 3) rfl ?_); refine box_event ?hg (N := 3) ?hd (cs := #[.int .i64 a1_0, .int .i64 a1_1, .int .i64 a1_2, .int .i64 a1_3, .int .i64 a1_4, .int .i64 a1_5, .int .i64 a1_6]) (t := 23) ?hr ?_; (case hd => rfl); (case hg => rfl); (case hr => exact zz10); intro gb422 hg w46 hbox hb; have BK422 := aM (hbox); have GW422 := aM ((zz38 : w.heap.size ≤ gb422)); have GE422 := aM ((zz38 : w.heap.size ≤ gb422)); replace HB := aM (below_step (bG GE421) hb); have NB421_422 := aM ((zz22 : gb421 ≠ gb422)); have NB422_421 := aM ((zz21 : gb422 ≠ gb421)); replace BK421 := aM (blk_below (g := gb421) (o := .cells #[.int .i64 a0_0, .int .i64 a0_1, .int .i64 a0_2, .int .i64 a0_3, .int .i64 a0_4, .int .i64 a0_5, .int .i64 a0_6] 23 (0, 0)) (bL BK421) hb); clear hb hbox hg; have hnb47 := NB421_422.out; have hnc47 := NB422_421.out; have hcz48_0 : w46.cell? ⟨gb421, 0, none⟩ = some (.int .i64 a0_0) := (blk_cell BK421.out 0).trans rfl; have hcz48_1 : w46.cell? ⟨gb421, 1, none⟩ = some (.int .i64 a0_1) := (blk_cell BK421.out 1).trans rfl; have hcz48_2 : w46.cell? ⟨gb421, 2, none⟩ = some (.int .i64 a0_2) := (blk_cell BK421.out 2).trans rfl; have hcz48_3 : w46.cell? ⟨gb421, 3, none⟩ = some (.int .i64 a0_3) := (blk_cell BK421.out 3).trans rfl; have hcz48_4 : w46.cell? ⟨gb421, 4, none⟩ = some (.int .i64 a0_4) := (blk_cell BK421.out 4).trans rfl; have hcz48_5 : w46.cell? ⟨gb421, 5, none⟩ = some (.int .i64 a0_5) := (blk_cell BK421.out 5).trans rfl; have hcz48_6 : w46.cell? ⟨gb421, 6, none⟩ = some (.int .i64 a0_6) := (blk_cell BK421.out 6).trans rfl; have hfz48_0 := blk_frozen BK421.out 0; have hfz48_1 := blk_frozen BK421.out 1; have hfz48_2 := blk_frozen BK421.out 2; have hfz48_3 := blk_frozen BK421.out 3; have hfz48_4 := blk_frozen BK421.out 4; have hfz48_5 := blk_frozen BK421.out 5; have hfz48_6 := blk_frozen BK421.out 6; have hcz49_0 : w46.cell? ⟨gb422, 0, none⟩ = some (.int .i64 a1_0) := (blk_cell BK422.out 0).trans rfl; have hcz49_1 : w46.cell? ⟨gb422, 1, none⟩ = some (.int .i64 a1_1) := (blk_cell BK422.out 1).trans rfl; have hcz49_2 : w46.cell? ⟨gb422, 2, none⟩ = some (.int .i64 a1_2) := (blk_cell BK422.out 2).trans rfl; have hcz49_3 : w46.cell? ⟨gb422, 3, none⟩ = some (.int .i64 a1_3) := (blk_cell BK422.out 3).trans rfl; have hcz49_4 : w46.cell? ⟨gb422, 4, none⟩ = some (.int .i64 a1_4) := (blk_cell BK422.out 4).trans rfl; have hcz49_5 : w46.cell? ⟨gb422, 5, none⟩ = some (.int .i64 a1_5) := (blk_cell BK422.out 5).trans rfl; have hcz49_6 : w46.cell? ⟨gb422, 6, none⟩ = some (.int .i64 a1_6) := (blk_cell BK422.out 6).trans rfl; have hfz49_0 := blk_frozen BK422.out 0; have hfz49_1 := blk_frozen BK422.out 1; have hfz49_2 := blk_frozen BK422.out 2; have hfz49_3 := blk_frozen BK422.out 3; have hfz49_4 := blk_frozen BK422.out 4; have hfz49_5 := blk_frozen BK422.out 5; have hfz49_6 := blk_frozen BK422.out 6))
 go_ret
 exact ⟨bE, bG2 GE421 GE422⟩
def laws_eqPartS.l0 : Nat → List (S23) → List (S23) → Int → Option (Bool)
 | 0, _, _, _ => none
 | k + 1, x0, x1, x5 => if x5 < (x0.length : Int) then (if 0 ≤ x5 then (if x5 < (x1.length : Int) then ((laws_eqPart.f ((rd_T23 x0 x5).f0) ((rd_T23 x0 x5).f1) ((rd_T23 x0 x5).f2) ((rd_T23 x0 x5).f3) ((rd_T23 x0 x5).f4) ((rd_T23 x0 x5).f5) ((rd_T23 x0 x5).f6) ((rd_T23 x1 x5).f0) ((rd_T23 x1 x5).f1) ((rd_T23 x1 x5).f2) ((rd_T23 x1 x5).f3) ((rd_T23 x1 x5).f4) ((rd_T23 x1 x5).f5) ((rd_T23 x1 x5).f6)).bind fun t425 => (if t425 = true then (laws_eqPartS.l0 k x0 x1 (wrap64 (x5 + 1))) else (some false))) else (none)) else (none)) else (some true)
def laws_eqPartS.f (k : Nat) (l0 : List (S23)) (l1 : List (S23)) : Option (Bool) := if (l0.length : Int) = (l1.length : Int) then (laws_eqPartS.l0 k l0 l1 0) else (some false)
def laws_eqPartS.T6 : Bool × List (List Nat × List Nat) := (true, [([], []), ([], []), ([0, 1], [0, 1]), ([2], [2]), ([], []), ([], []), ([4, 5], [4, 5]), ([6], [6]), ([3, 7], [3, 7]), ([8], [8])])
def laws_eqPartS.B6 : List Nat := [0, 0, 3, 7, 0, 0, 48, 112, 255, 511]
theorem laws_eqPartS.tab6 : rtab .any (opsOf Tryd.f60 6) = laws_eqPartS.T6 := by kernel_rfl
theorem laws_eqPartS.bits6 : waitsOk laws_eqPartS.T6.2 laws_eqPartS.B6 = true := by kernel_rfl
set_option maxHeartbeats 8000000 in
set_option maxRecDepth 100000 in
theorem laws_eqPartS.calls (k : Nat) (A0 : Option Addr) (c0 : Nat) (l0 : List (S23)) (A1 : Option Addr) (c1 : Nat) (l1 : List (S23)) (r : Bool) (w : World) (hr0 : Kd.C k23 w A0 l0.length l0) (hc0 : l0.length ≤ c0) (hr1 : Kd.C k23 w A1 l1.length l1) (hc1 : l1.length ≤ c1) (h : laws_eqPartS.f k l0 l1 = some r) :
  Calls Tryd.prog 60 #[.slice A0 l0.length c0, .slice A1 l1.length c1] w fun e w' => e = .returned (.bool r) ∧ Below w.heap.size w w' := by
 have hu23 := Tryd.underlying23
 have HR0 := aM hr0
 have HC0 := aM hc0
 clear hr0 hc0
 have HR1 := aM hr1
 have HC1 := aM hc1
 clear hr1 hc1
 have HB := aM (Below.refl w.heap.size w)
 have H : (if (l0.length : Int) = (l1.length : Int) then (laws_eqPartS.l0 k l0 l1 0) else (some false)) = some r := h
 clear h
 have HQ_ := aM H
 clear H
 go_enter Tryd.func60, Tryd.ntmps60
 have H := HQ_.out
 clear HQ_
 by_cases c3 : (l0.length : Int) = (l1.length : Int)
 ·rw [if_pos c3] at H
  have c3b0 : ((l0.length : Int) == (l1.length : Int)) = true := beq_iff_eq.mpr c3
  have c3b1 : ((l0.length : Int) != (l1.length : Int)) = false := bne_eq_false_iff_eq.mpr c3
  have c3b2 : (l0.length == l1.length) = true := zz62
  clear c3
  have H' := aM H
  clear H
  (try simp only [c3b0, c3b1, c3b2])
  go_wp2
  go_loopg [5] k (fun kq v5 w' => ∃ (x5_1 : Int), v5 = .int .i64 x5_1 ∧ Aside0 (laws_eqPartS.l0 kq l0 l1 x5_1 = some r) ∧ Aside0 (kq ≤ k) ∧ Aside0 (Below w.heap.size w w'))
  case atStart => exact ⟨(0), bS, H', ⟨Nat.le_refl _⟩, ⟨bB⟩⟩
  case round =>
   clear H'
   try clear c1
   try clear p2
   try clear c3
   try clear c3b0
   try clear c3b1
   try clear c3b2
   obtain ⟨x5_1, rfl, HA, HK1, HB⟩ := hrel
   cases gk with
   | zero => exact absurd HA.out (by simp [laws_eqPartS.l0])
   | succ k1 =>
    have H := HA.out
    clear HA
    simp only [laws_eqPartS.l0] at H
    by_cases c4 : x5_1 < (l0.length : Int)
    ·rw [if_pos c4] at H
     have c4b0 : decide (x5_1 < (l0.length : Int)) = true := decide_eq_true c4
     clear c4
     by_cases c5 : 0 ≤ x5_1
     ·rw [if_pos c5] at H
      have c5b0 : decide (0 ≤ x5_1) = true := decide_eq_true c5
      clear c5
      by_cases c6 : x5_1 < (l1.length : Int)
      ·rw [if_pos c6] at H
       have c6b0 : decide (x5_1 < (l1.length : Int)) = true := decide_eq_true c6
       clear c6
       replace H := Option.bind_eq_some_iff.mp H
       obtain ⟨t425, A70, H⟩ := H
       replace H : (if t425 = true then (laws_eqPartS.l0 k1 l0 l1 (wrap64 (x5_1 + 1))) else (some false)) = some r := H
       have A7 := aM A70
       clear A70
       by_cases c8 : t425 = true
       ·subst c8
        have H1 : (laws_eqPartS.l0 k1 l0 l1 (wrap64 (x5_1 + 1))) = some r := zz27
        clear H
        have H := H1
        clear H1
        have H' := aM H
        clear H
        try go_wp2
        replace HB := aM (below_drew1 HB.out)
        have p423 : 0 ≤ (x5_1 : Int) := pI
        have q423 : x5_1 < (l0.length : Int) := pI
        obtain ⟨ad423, e423, hx423_0, hx423_1, hx423_2, hx423_3, hx423_4, hx423_5, hx423_6⟩ := at_T23 HR0.out x5_1 p423 q423
        have hw423_6 := hx423_6
        have hw423_5 := hx423_5
        have hw423_4 := hx423_4
        have hw423_3 := hx423_3
        have hw423_2 := hx423_2
        have hw423_1 := hx423_1
        have hw423_0 := hx423_0
        cases e423
        replace hx423_0 := (HB.out.cell (World.block_lt_of_cell? w _ hx423_0)).trans hx423_0
        replace hx423_1 := (HB.out.cell (World.block_lt_of_cell? w _ hx423_1)).trans hx423_1
        replace hx423_2 := (HB.out.cell (World.block_lt_of_cell? w _ hx423_2)).trans hx423_2
        replace hx423_3 := (HB.out.cell (World.block_lt_of_cell? w _ hx423_3)).trans hx423_3
        replace hx423_4 := (HB.out.cell (World.block_lt_of_cell? w _ hx423_4)).trans hx423_4
        replace hx423_5 := (HB.out.cell (World.block_lt_of_cell? w _ hx423_5)).trans hx423_5
        replace hx423_6 := (HB.out.cell (World.block_lt_of_cell? w _ hx423_6)).trans hx423_6
        replace p423 := eq_true p423
        replace q423 := eq_true q423
        have p424 : 0 ≤ (x5_1 : Int) := pI
        have q424 : x5_1 < (l1.length : Int) := pI
        obtain ⟨ad424, e424, hx424_0, hx424_1, hx424_2, hx424_3, hx424_4, hx424_5, hx424_6⟩ := at_T23 HR1.out x5_1 p424 q424
        have hw424_6 := hx424_6
        have hw424_5 := hx424_5
        have hw424_4 := hx424_4
        have hw424_3 := hx424_3
        have hw424_2 := hx424_2
        have hw424_1 := hx424_1
        have hw424_0 := hx424_0
        cases e424
        replace hx424_0 := (HB.out.cell (World.block_lt_of_cell? w _ hx424_0)).trans hx424_0
        replace hx424_1 := (HB.out.cell (World.block_lt_of_cell? w _ hx424_1)).trans hx424_1
        replace hx424_2 := (HB.out.cell (World.block_lt_of_cell? w _ hx424_2)).trans hx424_2
        replace hx424_3 := (HB.out.cell (World.block_lt_of_cell? w _ hx424_3)).trans hx424_3
        replace hx424_4 := (HB.out.cell (World.block_lt_of_cell? w _ hx424_4)).trans hx424_4
        replace hx424_5 := (HB.out.cell (World.block_lt_of_cell? w _ hx424_5)).trans hx424_5
        replace hx424_6 := (HB.out.cell (World.block_lt_of_cell? w _ hx424_6)).trans hx424_6
        replace p424 := eq_true p424
        replace q424 := eq_true q424
        refine start_ (n := 10) (S := fun w' => w'.cell? (ad423.add ((x5_1).toNat * 7)) = some (.int .i64 ((rd_T23 l0 x5_1).f0)) ∧ w'.cell? ⟨(ad423.add ((x5_1).toNat * 7)).block, (ad423.add ((x5_1).toNat * 7)).off + 1, none⟩ = some (.int .i64 ((rd_T23 l0 x5_1).f1)) ∧ w'.cell? ⟨(ad423.add ((x5_1).toNat * 7)).block, (ad423.add ((x5_1).toNat * 7)).off + 2, none⟩ = some (.int .i64 ((rd_T23 l0 x5_1).f2)) ∧ w'.cell? ⟨(ad423.add ((x5_1).toNat * 7)).block, (ad423.add ((x5_1).toNat * 7)).off + 3, none⟩ = some (.int .i64 ((rd_T23 l0 x5_1).f3)) ∧ w'.cell? ⟨(ad423.add ((x5_1).toNat * 7)).block, (ad423.add ((x5_1).toNat * 7)).off + 4, none⟩ = some (.int .i64 ((rd_T23 l0 x5_1).f4)) ∧ w'.cell? ⟨(ad423.add ((x5_1).toNat * 7)).block, (ad423.add ((x5_1).toNat * 7)).off + 5, none⟩ = some (.int .i64 ((rd_T23 l0 x5_1).f5)) ∧ w'.cell? ⟨(ad423.add ((x5_1).toNat * 7)).block, (ad423.add ((x5_1).toNat * 7)).off + 6, none⟩ = some (.int .i64 ((rd_T23 l0 x5_1).f6)) ∧ w'.cell? (ad424.add ((x5_1).toNat * 7)) = some (.int .i64 ((rd_T23 l1 x5_1).f0)) ∧ w'.cell? ⟨(ad424.add ((x5_1).toNat * 7)).block, (ad424.add ((x5_1).toNat * 7)).off + 1, none⟩ = some (.int .i64 ((rd_T23 l1 x5_1).f1)) ∧ w'.cell? ⟨(ad424.add ((x5_1).toNat * 7)).block, (ad424.add ((x5_1).toNat * 7)).off + 2, none⟩ = some (.int .i64 ((rd_T23 l1 x5_1).f2)) ∧ w'.cell? ⟨(ad424.add ((x5_1).toNat * 7)).block, (ad424.add ((x5_1).toNat * 7)).off + 3, none⟩ = some (.int .i64 ((rd_T23 l1 x5_1).f3)) ∧ w'.cell? ⟨(ad424.add ((x5_1).toNat * 7)).block, (ad424.add ((x5_1).toNat * 7)).off + 4, none⟩ = some (.int .i64 ((rd_T23 l1 x5_1).f4)) ∧ w'.cell? ⟨(ad424.add ((x5_1).toNat * 7)).block, (ad424.add ((x5_1).toNat * 7)).off + 5, none⟩ = some (.int .i64 ((rd_T23 l1 x5_1).f5)) ∧ w'.cell? ⟨(ad424.add ((x5_1).toNat * 7)).block, (ad424.add ((x5_1).toNat * 7)).off + 6, none⟩ = some (.int .i64 ((rd_T23 l1 x5_1).f6))) (ds := []) (bsA 10 0) (by kernel_rfl) rfl rfl ⟨((HB.out.cell (World.block_lt_of_cell? w _ hw423_0)).trans hw423_0), ((HB.out.cell (World.block_lt_of_cell? w _ hw423_1)).trans hw423_1), ((HB.out.cell (World.block_lt_of_cell? w _ hw423_2)).trans hw423_2), ((HB.out.cell (World.block_lt_of_cell? w _ hw423_3)).trans hw423_3), ((HB.out.cell (World.block_lt_of_cell? w _ hw423_4)).trans hw423_4), ((HB.out.cell (World.block_lt_of_cell? w _ hw423_5)).trans hw423_5), ((HB.out.cell (World.block_lt_of_cell? w _ hw423_6)).trans hw423_6), ((HB.out.cell (World.block_lt_of_cell? w _ hw424_0)).trans hw424_0), ((HB.out.cell (World.block_lt_of_cell? w _ hw424_1)).trans hw424_1), ((HB.out.cell (World.block_lt_of_cell? w _ hw424_2)).trans hw424_2), ((HB.out.cell (World.block_lt_of_cell? w _ hw424_3)).trans hw424_3), ((HB.out.cell (World.block_lt_of_cell? w _ hw424_4)).trans hw424_4), ((HB.out.cell (World.block_lt_of_cell? w _ hw424_5)).trans hw424_5), ((HB.out.cell (World.block_lt_of_cell? w _ hw424_6)).trans hw424_6)⟩ (fun hHeld => ?_); refine with_tabW laws_eqPartS.tab6 laws_eqPartS.bits6 (fun HT_ HW_ => ?_)
        generalize wr.drew = w9 at HB hx423_0 hx423_1 hx423_2 hx423_3 hx423_4 hx423_5 hx423_6 hx424_0 hx424_1 hx424_2 hx424_3 hx424_4 hx424_5 hx424_6 hHeld ⊢
        refine pa_ (i := 0) (N := some 17) (bsA 10 1) (h := ?_)
        refine pa_ (i := 1) (N := some 18) (bsA 10 3) (h := ?_)
        refine pa_ (i := 2) (N := some 19) (bsA 10 7) (h := ?_)
        refine pa_ (i := 4) (N := some 21) (bsA 10 23) (h := ?_)
        refine pa_ (i := 5) (N := some 22) (bsA 10 55) (h := ?_)
        refine pa_ (i := 6) (N := some 23) (bsA 10 119) (h := ?_)
        refine take_ (i := 3) (N := some 20) (v := ?_) (a' := ?_) (bsA 10 127) rfl rfl (take_ofW HT_.out HW_.out (by kernel_rfl)) (fun _ _ _ h => h) (Or.inl ⟨by rfl, ?_⟩) hHeld ?_ ?_
        rotate_left
        ·rintro w' ⟨s0, s1, s2, s3, s4, s5, s6, s7, s8, s9, s10, s11, s12, s13⟩
         go_simp
         with_reducible rfl
        rotate_left
        ·simp only [Act.put, List.setIfInBounds_toArray, List.set_cons_zero, List.set_cons_succ, i64_w, i32_w]
         rfl
        refine take_ (i := 7) (N := some 24) (v := ?_) (a' := ?_) (bsA 10 255) rfl rfl (take_ofW HT_.out HW_.out (by kernel_rfl)) (fun _ _ _ h => h) (Or.inl ⟨by rfl, ?_⟩) hHeld ?_ ?_
        rotate_left
        ·rintro w' ⟨s0, s1, s2, s3, s4, s5, s6, s7, s8, s9, s10, s11, s12, s13⟩
         go_simp
         with_reducible rfl
        rotate_left
        ·simp only [Act.put, List.setIfInBounds_toArray, List.set_cons_zero, List.set_cons_succ, i64_w, i32_w]
         rfl
        refine one_ (i := 8) (N := some 25) (bsA 10 511) rfl rfl (one_of HT_.out (by kernel_rfl)) (by decide) (fun K hK => ?_)
        refine goes_ Tryd.func11 (by kernel_rfl) rfl #[.agg #[.int .i64 ((rd_T23 l0 x5_1).f0), .int .i64 ((rd_T23 l0 x5_1).f1), .int .i64 ((rd_T23 l0 x5_1).f2), .int .i64 ((rd_T23 l0 x5_1).f3), .int .i64 ((rd_T23 l0 x5_1).f4), .int .i64 ((rd_T23 l0 x5_1).f5), .int .i64 ((rd_T23 l0 x5_1).f6)], .agg #[.int .i64 ((rd_T23 l1 x5_1).f0), .int .i64 ((rd_T23 l1 x5_1).f1), .int .i64 ((rd_T23 l1 x5_1).f2), .int .i64 ((rd_T23 l1 x5_1).f3), .int .i64 ((rd_T23 l1 x5_1).f4), .int .i64 ((rd_T23 l1 x5_1).f5), .int .i64 ((rd_T23 l1 x5_1).f6)]] (by rfl) rfl rfl bM ?_
        with_reducible refine (laws_eqPart.calls ((rd_T23 l0 x5_1).f0) ((rd_T23 l0 x5_1).f1) ((rd_T23 l0 x5_1).f2) ((rd_T23 l0 x5_1).f3) ((rd_T23 l0 x5_1).f4) ((rd_T23 l0 x5_1).f5) ((rd_T23 l0 x5_1).f6) ((rd_T23 l1 x5_1).f0) ((rd_T23 l1 x5_1).f1) ((rd_T23 l1 x5_1).f2) ((rd_T23 l1 x5_1).f3) ((rd_T23 l1 x5_1).f4) ((rd_T23 l1 x5_1).f5) ((rd_T23 l1 x5_1).f6) true _ A7.out).mono ?_
        rintro e w10 ⟨rfl, hb⟩
        refine ⟨_, rfl, ?_⟩
        replace HB := aM (below_step bB hb)
        (try clear hb)
        (try clear hb2)
        (try clear hk)
        (try clear hi)
        refine hK.out _ _ ⟨((HB.out.cell (World.block_lt_of_cell? w _ hw423_0)).trans hw423_0), ((HB.out.cell (World.block_lt_of_cell? w _ hw423_1)).trans hw423_1), ((HB.out.cell (World.block_lt_of_cell? w _ hw423_2)).trans hw423_2), ((HB.out.cell (World.block_lt_of_cell? w _ hw423_3)).trans hw423_3), ((HB.out.cell (World.block_lt_of_cell? w _ hw423_4)).trans hw423_4), ((HB.out.cell (World.block_lt_of_cell? w _ hw423_5)).trans hw423_5), ((HB.out.cell (World.block_lt_of_cell? w _ hw423_6)).trans hw423_6), ((HB.out.cell (World.block_lt_of_cell? w _ hw424_0)).trans hw424_0), ((HB.out.cell (World.block_lt_of_cell? w _ hw424_1)).trans hw424_1), ((HB.out.cell (World.block_lt_of_cell? w _ hw424_2)).trans hw424_2), ((HB.out.cell (World.block_lt_of_cell? w _ hw424_3)).trans hw424_3), ((HB.out.cell (World.block_lt_of_cell? w _ hw424_4)).trans hw424_4), ((HB.out.cell (World.block_lt_of_cell? w _ hw424_5)).trans hw424_5), ((HB.out.cell (World.block_lt_of_cell? w _ hw424_6)).trans hw424_6)⟩ (fun hHeld => ?_)
        clear hK K
        refine na_ (N := some 25) (h := ?_)
        refine pa_ (i := 9) (N := some 26) (bsA 10 1023) (h := ?_)
        refine done_ (done_of HT_.out (by kernel_rfl)) ?_
        try go_wp2
        go_roundg k1
        case measure => have := HK1.out; omega
        case rel => exact ⟨(wrap64 (x5_1 + 1)), bS, H', ⟨by have := HK1.out; omega⟩, ⟨bB⟩⟩
       replace c8 := Bool.eq_false_iff.mpr c8
       subst c8
       have H1 : (some false) = some r := zz14
       clear H
       have H := H1
       clear H1
       obtain rfl := Option.some.inj H
       try go_wp2
       replace HB := aM (below_drew1 HB.out)
       have p423 : 0 ≤ (x5_1 : Int) := pI
       have q423 : x5_1 < (l0.length : Int) := pI
       obtain ⟨ad423, e423, hx423_0, hx423_1, hx423_2, hx423_3, hx423_4, hx423_5, hx423_6⟩ := at_T23 HR0.out x5_1 p423 q423
       have hw423_6 := hx423_6
       have hw423_5 := hx423_5
       have hw423_4 := hx423_4
       have hw423_3 := hx423_3
       have hw423_2 := hx423_2
       have hw423_1 := hx423_1
       have hw423_0 := hx423_0
       cases e423
       replace hx423_0 := (HB.out.cell (World.block_lt_of_cell? w _ hx423_0)).trans hx423_0
       replace hx423_1 := (HB.out.cell (World.block_lt_of_cell? w _ hx423_1)).trans hx423_1
       replace hx423_2 := (HB.out.cell (World.block_lt_of_cell? w _ hx423_2)).trans hx423_2
       replace hx423_3 := (HB.out.cell (World.block_lt_of_cell? w _ hx423_3)).trans hx423_3
       replace hx423_4 := (HB.out.cell (World.block_lt_of_cell? w _ hx423_4)).trans hx423_4
       replace hx423_5 := (HB.out.cell (World.block_lt_of_cell? w _ hx423_5)).trans hx423_5
       replace hx423_6 := (HB.out.cell (World.block_lt_of_cell? w _ hx423_6)).trans hx423_6
       replace p423 := eq_true p423
       replace q423 := eq_true q423
       have p424 : 0 ≤ (x5_1 : Int) := pI
       have q424 : x5_1 < (l1.length : Int) := pI
       obtain ⟨ad424, e424, hx424_0, hx424_1, hx424_2, hx424_3, hx424_4, hx424_5, hx424_6⟩ := at_T23 HR1.out x5_1 p424 q424
       have hw424_6 := hx424_6
       have hw424_5 := hx424_5
       have hw424_4 := hx424_4
       have hw424_3 := hx424_3
       have hw424_2 := hx424_2
       have hw424_1 := hx424_1
       have hw424_0 := hx424_0
       cases e424
       replace hx424_0 := (HB.out.cell (World.block_lt_of_cell? w _ hx424_0)).trans hx424_0
       replace hx424_1 := (HB.out.cell (World.block_lt_of_cell? w _ hx424_1)).trans hx424_1
       replace hx424_2 := (HB.out.cell (World.block_lt_of_cell? w _ hx424_2)).trans hx424_2
       replace hx424_3 := (HB.out.cell (World.block_lt_of_cell? w _ hx424_3)).trans hx424_3
       replace hx424_4 := (HB.out.cell (World.block_lt_of_cell? w _ hx424_4)).trans hx424_4
       replace hx424_5 := (HB.out.cell (World.block_lt_of_cell? w _ hx424_5)).trans hx424_5
       replace hx424_6 := (HB.out.cell (World.block_lt_of_cell? w _ hx424_6)).trans hx424_6
       replace p424 := eq_true p424
       replace q424 := eq_true q424
       refine start_ (n := 10) (S := fun w' => w'.cell? (ad423.add ((x5_1).toNat * 7)) = some (.int .i64 ((rd_T23 l0 x5_1).f0)) ∧ w'.cell? ⟨(ad423.add ((x5_1).toNat * 7)).block, (ad423.add ((x5_1).toNat * 7)).off + 1, none⟩ = some (.int .i64 ((rd_T23 l0 x5_1).f1)) ∧ w'.cell? ⟨(ad423.add ((x5_1).toNat * 7)).block, (ad423.add ((x5_1).toNat * 7)).off + 2, none⟩ = some (.int .i64 ((rd_T23 l0 x5_1).f2)) ∧ w'.cell? ⟨(ad423.add ((x5_1).toNat * 7)).block, (ad423.add ((x5_1).toNat * 7)).off + 3, none⟩ = some (.int .i64 ((rd_T23 l0 x5_1).f3)) ∧ w'.cell? ⟨(ad423.add ((x5_1).toNat * 7)).block, (ad423.add ((x5_1).toNat * 7)).off + 4, none⟩ = some (.int .i64 ((rd_T23 l0 x5_1).f4)) ∧ w'.cell? ⟨(ad423.add ((x5_1).toNat * 7)).block, (ad423.add ((x5_1).toNat * 7)).off + 5, none⟩ = some (.int .i64 ((rd_T23 l0 x5_1).f5)) ∧ w'.cell? ⟨(ad423.add ((x5_1).toNat * 7)).block, (ad423.add ((x5_1).toNat * 7)).off + 6, none⟩ = some (.int .i64 ((rd_T23 l0 x5_1).f6)) ∧ w'.cell? (ad424.add ((x5_1).toNat * 7)) = some (.int .i64 ((rd_T23 l1 x5_1).f0)) ∧ w'.cell? ⟨(ad424.add ((x5_1).toNat * 7)).block, (ad424.add ((x5_1).toNat * 7)).off + 1, none⟩ = some (.int .i64 ((rd_T23 l1 x5_1).f1)) ∧ w'.cell? ⟨(ad424.add ((x5_1).toNat * 7)).block, (ad424.add ((x5_1).toNat * 7)).off + 2, none⟩ = some (.int .i64 ((rd_T23 l1 x5_1).f2)) ∧ w'.cell? ⟨(ad424.add ((x5_1).toNat * 7)).block, (ad424.add ((x5_1).toNat * 7)).off + 3, none⟩ = some (.int .i64 ((rd_T23 l1 x5_1).f3)) ∧ w'.cell? ⟨(ad424.add ((x5_1).toNat * 7)).block, (ad424.add ((x5_1).toNat * 7)).off + 4, none⟩ = some (.int .i64 ((rd_T23 l1 x5_1).f4)) ∧ w'.cell? ⟨(ad424.add ((x5_1).toNat * 7)).block, (ad424.add ((x5_1).toNat * 7)).off + 5, none⟩ = some (.int .i64 ((rd_T23 l1 x5_1).f5)) ∧ w'.cell? ⟨(ad424.add ((x5_1).toNat * 7)).block, (ad424.add ((x5_1).toNat * 7)).off + 6, none⟩ = some (.int .i64 ((rd_T23 l1 x5_1).f6))) (ds := []) (bsA 10 0) (by kernel_rfl) rfl rfl ⟨((HB.out.cell (World.block_lt_of_cell? w _ hw423_0)).trans hw423_0), ((HB.out.cell (World.block_lt_of_cell? w _ hw423_1)).trans hw423_1), ((HB.out.cell (World.block_lt_of_cell? w _ hw423_2)).trans hw423_2), ((HB.out.cell (World.block_lt_of_cell? w _ hw423_3)).trans hw423_3), ((HB.out.cell (World.block_lt_of_cell? w _ hw423_4)).trans hw423_4), ((HB.out.cell (World.block_lt_of_cell? w _ hw423_5)).trans hw423_5), ((HB.out.cell (World.block_lt_of_cell? w _ hw423_6)).trans hw423_6), ((HB.out.cell (World.block_lt_of_cell? w _ hw424_0)).trans hw424_0), ((HB.out.cell (World.block_lt_of_cell? w _ hw424_1)).trans hw424_1), ((HB.out.cell (World.block_lt_of_cell? w _ hw424_2)).trans hw424_2), ((HB.out.cell (World.block_lt_of_cell? w _ hw424_3)).trans hw424_3), ((HB.out.cell (World.block_lt_of_cell? w _ hw424_4)).trans hw424_4), ((HB.out.cell (World.block_lt_of_cell? w _ hw424_5)).trans hw424_5), ((HB.out.cell (World.block_lt_of_cell? w _ hw424_6)).trans hw424_6)⟩ (fun hHeld => ?_); refine with_tabW laws_eqPartS.tab6 laws_eqPartS.bits6 (fun HT_ HW_ => ?_)
       generalize wr.drew = w11 at HB hx423_0 hx423_1 hx423_2 hx423_3 hx423_4 hx423_5 hx423_6 hx424_0 hx424_1 hx424_2 hx424_3 hx424_4 hx424_5 hx424_6 hHeld ⊢
       refine pa_ (i := 0) (N := some 17) (bsA 10 1) (h := ?_)
       refine pa_ (i := 1) (N := some 18) (bsA 10 3) (h := ?_)
       refine pa_ (i := 2) (N := some 19) (bsA 10 7) (h := ?_)
       refine pa_ (i := 4) (N := some 21) (bsA 10 23) (h := ?_)
       refine pa_ (i := 5) (N := some 22) (bsA 10 55) (h := ?_)
       refine pa_ (i := 6) (N := some 23) (bsA 10 119) (h := ?_)
       refine take_ (i := 3) (N := some 20) (v := ?_) (a' := ?_) (bsA 10 127) rfl rfl (take_ofW HT_.out HW_.out (by kernel_rfl)) (fun _ _ _ h => h) (Or.inl ⟨by rfl, ?_⟩) hHeld ?_ ?_
       rotate_left
       ·rintro w' ⟨s0, s1, s2, s3, s4, s5, s6, s7, s8, s9, s10, s11, s12, s13⟩
        go_simp
        with_reducible rfl
       rotate_left
       ·simp only [Act.put, List.setIfInBounds_toArray, List.set_cons_zero, List.set_cons_succ, i64_w, i32_w]
        rfl
       refine take_ (i := 7) (N := some 24) (v := ?_) (a' := ?_) (bsA 10 255) rfl rfl (take_ofW HT_.out HW_.out (by kernel_rfl)) (fun _ _ _ h => h) (Or.inl ⟨by rfl, ?_⟩) hHeld ?_ ?_
       rotate_left
       ·rintro w' ⟨s0, s1, s2, s3, s4, s5, s6, s7, s8, s9, s10, s11, s12, s13⟩
        go_simp
        with_reducible rfl
       rotate_left
       ·simp only [Act.put, List.setIfInBounds_toArray, List.set_cons_zero, List.set_cons_succ, i64_w, i32_w]
        rfl
       refine one_ (i := 8) (N := some 25) (bsA 10 511) rfl rfl (one_of HT_.out (by kernel_rfl)) (by decide) (fun K hK => ?_)
       refine goes_ Tryd.func11 (by kernel_rfl) rfl #[.agg #[.int .i64 ((rd_T23 l0 x5_1).f0), .int .i64 ((rd_T23 l0 x5_1).f1), .int .i64 ((rd_T23 l0 x5_1).f2), .int .i64 ((rd_T23 l0 x5_1).f3), .int .i64 ((rd_T23 l0 x5_1).f4), .int .i64 ((rd_T23 l0 x5_1).f5), .int .i64 ((rd_T23 l0 x5_1).f6)], .agg #[.int .i64 ((rd_T23 l1 x5_1).f0), .int .i64 ((rd_T23 l1 x5_1).f1), .int .i64 ((rd_T23 l1 x5_1).f2), .int .i64 ((rd_T23 l1 x5_1).f3), .int .i64 ((rd_T23 l1 x5_1).f4), .int .i64 ((rd_T23 l1 x5_1).f5), .int .i64 ((rd_T23 l1 x5_1).f6)]] (by rfl) rfl rfl bM ?_
       with_reducible refine (laws_eqPart.calls ((rd_T23 l0 x5_1).f0) ((rd_T23 l0 x5_1).f1) ((rd_T23 l0 x5_1).f2) ((rd_T23 l0 x5_1).f3) ((rd_T23 l0 x5_1).f4) ((rd_T23 l0 x5_1).f5) ((rd_T23 l0 x5_1).f6) ((rd_T23 l1 x5_1).f0) ((rd_T23 l1 x5_1).f1) ((rd_T23 l1 x5_1).f2) ((rd_T23 l1 x5_1).f3) ((rd_T23 l1 x5_1).f4) ((rd_T23 l1 x5_1).f5) ((rd_T23 l1 x5_1).f6) false _ A7.out).mono ?_
       rintro e w12 ⟨rfl, hb⟩
       refine ⟨_, rfl, ?_⟩
       replace HB := aM (below_step bB hb)
       (try clear hb)
       (try clear hb2)
       (try clear hk)
       (try clear hi)
       refine hK.out _ _ ⟨((HB.out.cell (World.block_lt_of_cell? w _ hw423_0)).trans hw423_0), ((HB.out.cell (World.block_lt_of_cell? w _ hw423_1)).trans hw423_1), ((HB.out.cell (World.block_lt_of_cell? w _ hw423_2)).trans hw423_2), ((HB.out.cell (World.block_lt_of_cell? w _ hw423_3)).trans hw423_3), ((HB.out.cell (World.block_lt_of_cell? w _ hw423_4)).trans hw423_4), ((HB.out.cell (World.block_lt_of_cell? w _ hw423_5)).trans hw423_5), ((HB.out.cell (World.block_lt_of_cell? w _ hw423_6)).trans hw423_6), ((HB.out.cell (World.block_lt_of_cell? w _ hw424_0)).trans hw424_0), ((HB.out.cell (World.block_lt_of_cell? w _ hw424_1)).trans hw424_1), ((HB.out.cell (World.block_lt_of_cell? w _ hw424_2)).trans hw424_2), ((HB.out.cell (World.block_lt_of_cell? w _ hw424_3)).trans hw424_3), ((HB.out.cell (World.block_lt_of_cell? w _ hw424_4)).trans hw424_4), ((HB.out.cell (World.block_lt_of_cell? w _ hw424_5)).trans hw424_5), ((HB.out.cell (World.block_lt_of_cell? w _ hw424_6)).trans hw424_6)⟩ (fun hHeld => ?_)
       clear hK K
       refine na_ (N := some 25) (h := ?_)
       refine pa_ (i := 9) (N := some 26) (bsA 10 1023) (h := ?_)
       refine done_ (done_of HT_.out (by kernel_rfl)) ?_
       try go_wp2
       go_ret
       exact ⟨bE, bB⟩
      rw [if_neg c6] at H
      exact absurd H (by simp)
     rw [if_neg c5] at H
     exact absurd H (by simp)
    rw [if_neg c4] at H
    have c4b0 : decide (x5_1 < (l0.length : Int)) = false := decide_eq_false c4
    clear c4
    obtain rfl := Option.some.inj H
    go_wp2
    go_ret
    exact ⟨bE, bB⟩
 rw [if_neg c3] at H
 have c3b0 : ((l0.length : Int) == (l1.length : Int)) = false := beq_eq_false_iff_ne.mpr c3
 have c3b1 : ((l0.length : Int) != (l1.length : Int)) = true := bne_iff_ne.mpr c3
 have c3b2 : (l0.length == l1.length) = false := zz62
 obtain rfl := Option.some.inj H
 (try simp only [c3b0, c3b1, c3b2])
 go_wp2
 go_ret
 exact ⟨bE, bB⟩
def laws_eqPartsResult.f (k : Nat) (a0_0 : Int) (l0_1 : List (S23)) (a1_0 : Int) (l1_1 : List (S23)) : Option (Bool) := if a0_0 = a1_0 then ((laws_eqPartS.f k l0_1 l1_1).bind fun t428 => (if t428 = true then (some true) else (some false))) else (some false)
set_option maxHeartbeats 8000000 in
set_option maxRecDepth 100000 in
theorem laws_eqPartsResult.calls (k : Nat) (a0_0 : Int) (A0_1 : Option Addr) (c0_1 : Nat) (l0_1 : List (S23)) (a1_0 : Int) (A1_1 : Option Addr) (c1_1 : Nat) (l1_1 : List (S23)) (r : Bool) (w : World) (hr0_1 : Kd.C k23 w A0_1 l0_1.length l0_1) (hc0_1 : l0_1.length ≤ c0_1) (hr1_1 : Kd.C k23 w A1_1 l1_1.length l1_1) (hc1_1 : l1_1.length ≤ c1_1) (h : laws_eqPartsResult.f k a0_0 l0_1 a1_0 l1_1 = some r) :
  Calls Tryd.prog 32 #[.agg #[.int .i64 a0_0, .slice A0_1 l0_1.length c0_1], .agg #[.int .i64 a1_0, .slice A1_1 l1_1.length c1_1]] w fun e w' => e = .returned (.bool r) ∧ Below w.heap.size w w' := by
 have hu52 := Tryd.underlying52
 have HR0_1 := aM hr0_1
 have HC0_1 := aM hc0_1
 clear hr0_1 hc0_1
 have HR1_1 := aM hr1_1
 have HC1_1 := aM hc1_1
 clear hr1_1 hc1_1
 have HB := aM (Below.refl w.heap.size w)
 have H : (if a0_0 = a1_0 then ((laws_eqPartS.f k l0_1 l1_1).bind fun t428 => (if t428 = true then (some true) else (some false))) else (some false)) = some r := h
 clear h
 have HQ_ := aM H
 clear H
 go_enter Tryd.func32, Tryd.ntmps32
 have H := HQ_.out
 clear HQ_
 by_cases c3 : a0_0 = a1_0
 ·rw [if_pos c3] at H
  have c3b0 : (a0_0 == a1_0) = true := beq_iff_eq.mpr c3
  have c3b1 : (a0_0 != a1_0) = false := bne_eq_false_iff_eq.mpr c3
  clear c3
  replace H := Option.bind_eq_some_iff.mp H
  obtain ⟨t428, A40, H⟩ := H
  replace H : (if t428 = true then (some true) else (some false)) = some r := H
  have A4 := aM A40
  clear A40
  (try simp only [c3b0, c3b1])
  by_cases c5 : t428 = true
  ·subst c5
   have H1 : (some true) = some r := zz27
   clear H
   have H := H1
   clear H1
   obtain rfl := Option.some.inj H
   go_wp2_with (first | ((with_reducible refine gate_dst (N := 2) rfl ?_); refine box_event ?hg (N := 2) ?hd (cs := #[.int .i64 a0_0, .slice A0_1 l0_1.length c0_1]) (t := 52) ?hr ?_; (case hd => rfl); (case hg => rfl); (case hr => exact zz10); intro gb426 hg w6 hbox hb; have BK426 := aM (hbox); have GW426 := aM ((zz15 : w.heap.size ≤ gb426)); have GE426 := aM ((zz15 : w.heap.size ≤ gb426)); replace HB := aM (below_step bB hb); clear hb hbox hg) | ((with_reducible refine gate_dst (N := 3) rfl ?_); refine box_event ?hg (N := 3) ?hd (cs := #[.int .i64 a1_0, .slice A1_1 l1_1.length c1_1]) (t := 52) ?hr ?_; (case hd => rfl); (case hg => rfl); (case hr => exact zz10); intro gb427 hg w7 hbox hb; have BK427 := aM (hbox); have GW427 := aM ((zz58 : w.heap.size ≤ gb427)); have GE427 := aM ((zz58 : w.heap.size ≤ gb427)); replace HB := aM (below_step (bG GE426) hb); have NB426_427 := aM ((zz52 : gb426 ≠ gb427)); have NB427_426 := aM ((zz53 : gb427 ≠ gb426)); replace BK426 := aM (blk_below (g := gb426) (o := .cells #[.int .i64 a0_0, .slice A0_1 l0_1.length c0_1] 52 (0, 0)) (bL BK426) hb); clear hb hbox hg; have hnb8 := NB426_427.out; have hnc8 := NB427_426.out; have hcz9_0 : w7.cell? ⟨gb426, 0, none⟩ = some (.int .i64 a0_0) := (blk_cell BK426.out 0).trans rfl; have hcz9_1 : w7.cell? ⟨gb426, 1, none⟩ = some (.slice A0_1 l0_1.length c0_1) := (blk_cell BK426.out 1).trans rfl; have hfz9_0 := blk_frozen BK426.out 0; have hfz9_1 := blk_frozen BK426.out 1; have hcz10_0 : w7.cell? ⟨gb427, 0, none⟩ = some (.int .i64 a1_0) := (blk_cell BK427.out 0).trans rfl; have hcz10_1 : w7.cell? ⟨gb427, 1, none⟩ = some (.slice A1_1 l1_1.length c1_1) := (blk_cell BK427.out 1).trans rfl; have hfz10_0 := blk_frozen BK427.out 0; have hfz10_1 := blk_frozen BK427.out 1) | ((with_reducible refine gate_callee (f := 60) rfl ?_); refine gL_ (some 14) Tryd.func60 #[.slice A0_1 l0_1.length c0_1, .slice A1_1 l1_1.length c1_1] ?_; (with_reducible refine (laws_eqPartS.calls k _ _ l0_1 _ _ l1_1 true _ ?side1 ?side2 ?side3 ?side4 A4.out).mono ?_); (case side1 => exact zz6 HR0_1.out); (case side2 => exact HC0_1.out); (case side3 => exact zz6 HR1_1.out); (case side4 => exact HC1_1.out); rintro e w11 ⟨rfl, hb⟩; refine ⟨_, rfl, ?_⟩; replace BK426 := aM (blk_below (g := gb426) (o := .cells #[.int .i64 a0_0, .slice A0_1 l0_1.length c0_1] 52 (0, 0)) (bL BK426) hb); replace BK427 := aM (blk_below (g := gb427) (o := .cells #[.int .i64 a1_0, .slice A1_1 l1_1.length c1_1] 52 (0, 0)) (bL BK427) hb); replace HB := aM (below_step (bG2 GE426 GE427) hb); (try clear hi)))
   go_ret
   exact ⟨bE, bG2 GE426 GE427⟩
  replace c5 := Bool.eq_false_iff.mpr c5
  subst c5
  have H1 : (some false) = some r := zz14
  clear H
  have H := H1
  clear H1
  obtain rfl := Option.some.inj H
  go_wp2_with (first | ((with_reducible refine gate_dst (N := 2) rfl ?_); refine box_event ?hg (N := 2) ?hd (cs := #[.int .i64 a0_0, .slice A0_1 l0_1.length c0_1]) (t := 52) ?hr ?_; (case hd => rfl); (case hg => rfl); (case hr => exact zz10); intro gb426 hg w12 hbox hb; have BK426 := aM (hbox); have GW426 := aM ((zz15 : w.heap.size ≤ gb426)); have GE426 := aM ((zz15 : w.heap.size ≤ gb426)); replace HB := aM (below_step bB hb); clear hb hbox hg) | ((with_reducible refine gate_dst (N := 3) rfl ?_); refine box_event ?hg (N := 3) ?hd (cs := #[.int .i64 a1_0, .slice A1_1 l1_1.length c1_1]) (t := 52) ?hr ?_; (case hd => rfl); (case hg => rfl); (case hr => exact zz10); intro gb427 hg w13 hbox hb; have BK427 := aM (hbox); have GW427 := aM ((zz58 : w.heap.size ≤ gb427)); have GE427 := aM ((zz58 : w.heap.size ≤ gb427)); replace HB := aM (below_step (bG GE426) hb); have NB426_427 := aM ((zz52 : gb426 ≠ gb427)); have NB427_426 := aM ((zz53 : gb427 ≠ gb426)); replace BK426 := aM (blk_below (g := gb426) (o := .cells #[.int .i64 a0_0, .slice A0_1 l0_1.length c0_1] 52 (0, 0)) (bL BK426) hb); clear hb hbox hg; have hnb14 := NB426_427.out; have hnc14 := NB427_426.out; have hcz15_0 : w13.cell? ⟨gb426, 0, none⟩ = some (.int .i64 a0_0) := (blk_cell BK426.out 0).trans rfl; have hcz15_1 : w13.cell? ⟨gb426, 1, none⟩ = some (.slice A0_1 l0_1.length c0_1) := (blk_cell BK426.out 1).trans rfl; have hfz15_0 := blk_frozen BK426.out 0; have hfz15_1 := blk_frozen BK426.out 1; have hcz16_0 : w13.cell? ⟨gb427, 0, none⟩ = some (.int .i64 a1_0) := (blk_cell BK427.out 0).trans rfl; have hcz16_1 : w13.cell? ⟨gb427, 1, none⟩ = some (.slice A1_1 l1_1.length c1_1) := (blk_cell BK427.out 1).trans rfl; have hfz16_0 := blk_frozen BK427.out 0; have hfz16_1 := blk_frozen BK427.out 1) | ((with_reducible refine gate_callee (f := 60) rfl ?_); refine gL_ (some 14) Tryd.func60 #[.slice A0_1 l0_1.length c0_1, .slice A1_1 l1_1.length c1_1] ?_; (with_reducible refine (laws_eqPartS.calls k _ _ l0_1 _ _ l1_1 false _ ?side1 ?side2 ?side3 ?side4 A4.out).mono ?_); (case side1 => exact zz6 HR0_1.out); (case side2 => exact HC0_1.out); (case side3 => exact zz6 HR1_1.out); (case side4 => exact HC1_1.out); rintro e w17 ⟨rfl, hb⟩; refine ⟨_, rfl, ?_⟩; replace BK426 := aM (blk_below (g := gb426) (o := .cells #[.int .i64 a0_0, .slice A0_1 l0_1.length c0_1] 52 (0, 0)) (bL BK426) hb); replace BK427 := aM (blk_below (g := gb427) (o := .cells #[.int .i64 a1_0, .slice A1_1 l1_1.length c1_1] 52 (0, 0)) (bL BK427) hb); replace HB := aM (below_step (bG2 GE426 GE427) hb); (try clear hi)))
  go_ret
  exact ⟨bE, bG2 GE426 GE427⟩
 rw [if_neg c3] at H
 have c3b0 : (a0_0 == a1_0) = false := beq_eq_false_iff_ne.mpr c3
 have c3b1 : (a0_0 != a1_0) = true := bne_iff_ne.mpr c3
 obtain rfl := Option.some.inj H
 (try simp only [c3b0, c3b1])
 go_wp2_with (first | ((with_reducible refine gate_dst (N := 2) rfl ?_); refine box_event ?hg (N := 2) ?hd (cs := #[.int .i64 a0_0, .slice A0_1 l0_1.length c0_1]) (t := 52) ?hr ?_; (case hd => rfl); (case hg => rfl); (case hr => exact zz10); intro gb426 hg w18 hbox hb; have BK426 := aM (hbox); have GW426 := aM ((zz15 : w.heap.size ≤ gb426)); have GE426 := aM ((zz15 : w.heap.size ≤ gb426)); replace HB := aM (below_step bB hb); clear hb hbox hg) | ((with_reducible refine gate_dst (N := 3) rfl ?_); refine box_event ?hg (N := 3) ?hd (cs := #[.int .i64 a1_0, .slice A1_1 l1_1.length c1_1]) (t := 52) ?hr ?_; (case hd => rfl); (case hg => rfl); (case hr => exact zz10); intro gb427 hg w19 hbox hb; have BK427 := aM (hbox); have GW427 := aM ((zz58 : w.heap.size ≤ gb427)); have GE427 := aM ((zz58 : w.heap.size ≤ gb427)); replace HB := aM (below_step (bG GE426) hb); have NB426_427 := aM ((zz52 : gb426 ≠ gb427)); have NB427_426 := aM ((zz53 : gb427 ≠ gb426)); replace BK426 := aM (blk_below (g := gb426) (o := .cells #[.int .i64 a0_0, .slice A0_1 l0_1.length c0_1] 52 (0, 0)) (bL BK426) hb); clear hb hbox hg; have hnb20 := NB426_427.out; have hnc20 := NB427_426.out; have hcz21_0 : w19.cell? ⟨gb426, 0, none⟩ = some (.int .i64 a0_0) := (blk_cell BK426.out 0).trans rfl; have hcz21_1 : w19.cell? ⟨gb426, 1, none⟩ = some (.slice A0_1 l0_1.length c0_1) := (blk_cell BK426.out 1).trans rfl; have hfz21_0 := blk_frozen BK426.out 0; have hfz21_1 := blk_frozen BK426.out 1; have hcz22_0 : w19.cell? ⟨gb427, 0, none⟩ = some (.int .i64 a1_0) := (blk_cell BK427.out 0).trans rfl; have hcz22_1 : w19.cell? ⟨gb427, 1, none⟩ = some (.slice A1_1 l1_1.length c1_1) := (blk_cell BK427.out 1).trans rfl; have hfz22_0 := blk_frozen BK427.out 0; have hfz22_1 := blk_frozen BK427.out 1))
 go_ret
 exact ⟨bE, bG2 GE426 GE427⟩
def laws_markPartS.l0 : Nat → List (S23) → Int → Int → Option (Int × (List (S23)))
 | 0, _, _, _ => none
 | k + 1, x0, x1, x5 => if x5 < (x0.length : Int) then (if 0 ≤ x5 then ((some (x0.set (x5 : Int).toNat (⟨x1, (rd_T23 x0 x5).f1, (rd_T23 x0 x5).f2, (rd_T23 x0 x5).f3, (rd_T23 x0 x5).f4, (rd_T23 x0 x5).f5, (rd_T23 x0 x5).f6⟩ : S23) : List (S23))).bind fun y429 => ((some (y429.set (x5 : Int).toNat (⟨(rd_T23 y429 x5).f0, wrap64 (x1 + 1), (rd_T23 y429 x5).f2, (rd_T23 y429 x5).f3, (rd_T23 y429 x5).f4, (rd_T23 y429 x5).f5, (rd_T23 y429 x5).f6⟩ : S23) : List (S23))).bind fun y430 => ((some (y430.set (x5 : Int).toNat (⟨(rd_T23 y430 x5).f0, (rd_T23 y430 x5).f1, wrap64 ((wrap64 (x1 + 1)) + 1), (rd_T23 y430 x5).f3, (rd_T23 y430 x5).f4, (rd_T23 y430 x5).f5, (rd_T23 y430 x5).f6⟩ : S23) : List (S23))).bind fun y431 => ((some (y431.set (x5 : Int).toNat (⟨(rd_T23 y431 x5).f0, (rd_T23 y431 x5).f1, (rd_T23 y431 x5).f2, wrap64 ((wrap64 ((wrap64 (x1 + 1)) + 1)) + 1), (rd_T23 y431 x5).f4, (rd_T23 y431 x5).f5, (rd_T23 y431 x5).f6⟩ : S23) : List (S23))).bind fun y432 => ((some (y432.set (x5 : Int).toNat (⟨(rd_T23 y432 x5).f0, (rd_T23 y432 x5).f1, (rd_T23 y432 x5).f2, (rd_T23 y432 x5).f3, wrap64 ((wrap64 ((wrap64 ((wrap64 (x1 + 1)) + 1)) + 1)) + 1), (rd_T23 y432 x5).f5, (rd_T23 y432 x5).f6⟩ : S23) : List (S23))).bind fun y433 => ((some (y433.set (x5 : Int).toNat (⟨(rd_T23 y433 x5).f0, (rd_T23 y433 x5).f1, (rd_T23 y433 x5).f2, (rd_T23 y433 x5).f3, (rd_T23 y433 x5).f4, wrap64 ((wrap64 ((wrap64 ((wrap64 ((wrap64 (x1 + 1)) + 1)) + 1)) + 1)) + 1), (rd_T23 y433 x5).f6⟩ : S23) : List (S23))).bind fun y434 => (laws_markPartS.l0 k (y434.set (x5 : Int).toNat (⟨(rd_T23 y434 x5).f0, (rd_T23 y434 x5).f1, (rd_T23 y434 x5).f2, (rd_T23 y434 x5).f3, (rd_T23 y434 x5).f4, (rd_T23 y434 x5).f5, wrap64 ((wrap64 ((wrap64 ((wrap64 ((wrap64 ((wrap64 (x1 + 1)) + 1)) + 1)) + 1)) + 1)) + 1)⟩ : S23)) (wrap64 ((wrap64 ((wrap64 ((wrap64 ((wrap64 ((wrap64 ((wrap64 (x1 + 1)) + 1)) + 1)) + 1)) + 1)) + 1)) + 1)) (wrap64 (x5 + 1))))))))) else (none)) else (some (x1, x0))
def laws_markPartS.f (k : Nat) (l0 : List (S23)) (a1 : Int) : Option (Int × (List (S23))) := laws_markPartS.l0 k l0 a1 0
set_option maxHeartbeats 8000000 in
set_option maxRecDepth 100000 in
theorem laws_markPartS.calls (k : Nat) (P0_ : Nat → Prop) (u9000_ : Value) (l0 : List (S23)) (a1 : Int) (r1 : Int) (r2 : List (S23)) (w0 w : World) (hB : Below w0.heap.size w0 w) (ho0 : Kd.R k23 23 w w0.heap.size P0_ u9000_ l0) (h : laws_markPartS.f k l0 a1 = some (r1, r2)) :
  Calls Tryd.prog 61 #[u9000_, .int .i64 a1] w fun e w' => e = .returned (.int .i64 r1) ∧ Kd.R k23 23 w' w0.heap.size (fun k_ => (P0_ k_ ∨ w.heap.size ≤ k_)) u9000_ r2 ∧ Below w0.heap.size w0 w' ∧ Kept w w' (fun k_ => P0_ k_) := by
 have HO0 := aM (show Kd.R k23 23 w w0.heap.size (fun k_ => (P0_ k_ ∨ w.heap.size ≤ k_)) u9000_ l0 from Kd.R_mono ho0 (fun k_ hk => (.inl hk)))
 have HK := aM (Kept.refl w (fun k_ => P0_ k_))
 have HW0 := aM hB.size
 have HB := aM hB
 clear hB
 have H : (laws_markPartS.l0 k l0 a1 0) = some (r1, r2) := h
 clear h
 have H' := aM H
 clear H
 go_enter Tryd.func61, Tryd.ntmps61
 go_wp2
 go_loopg [1, 5] k (fun kq v1 v5 w' => ∃ (x0_1 : List (S23)) (x1_1 : Int) (x5_1 : Int), v1 = .int .i64 x1_1 ∧ v5 = .int .i64 x5_1 ∧ Aside0 (laws_markPartS.l0 kq x0_1 x1_1 x5_1 = some (r1, r2)) ∧ Aside0 (kq ≤ k) ∧ Aside0 (Kd.R k23 23 w' w0.heap.size (fun k_ => (P0_ k_ ∨ w.heap.size ≤ k_)) u9000_ x0_1) ∧ Aside0 (Kept w w' (fun k_ => P0_ k_)) ∧ Aside0 (Below w0.heap.size w0 w'))
 case atStart => exact ⟨(l0), (a1), (0), bS, bS, H', ⟨Nat.le_refl _⟩, ⟨bR HO0⟩, ⟨bK⟩, ⟨bB⟩⟩
 case round =>
  clear H'
  try clear p2
  obtain ⟨x0_1, x1_1, x5_1, rfl, rfl, HA, HK1, HO_0, HK, HB⟩ := hrel
  cases gk with
  | zero => exact absurd HA.out (by simp [laws_markPartS.l0])
  | succ k1 =>
   have H := HA.out
   clear HA
   simp only [laws_markPartS.l0] at H
   have HQ_ := aM H
   clear H
   obtain ⟨Ao12, co12, eo12⟩ := Kd.R_slice HO_0.out
   subst eo12
   have H := HQ_.out
   clear HQ_
   by_cases c3 : x5_1 < (x0_1.length : Int)
   ·rw [if_pos c3] at H
    have c3b0 : decide (x5_1 < (x0_1.length : Int)) = true := decide_eq_true c3
    clear c3
    (try simp only [c3b0])
    by_cases c4 : 0 ≤ x5_1
    ·rw [if_pos c4] at H
     have c4b0 : decide (0 ≤ x5_1) = true := decide_eq_true c4
     clear c4
     obtain ⟨y429, hy429⟩ : ∃ y_ : List (S23), y_ = (x0_1.set (x5_1 : Int).toNat (⟨x1_1, (rd_T23 x0_1 x5_1).f1, (rd_T23 x0_1 x5_1).f2, (rd_T23 x0_1 x5_1).f3, (rd_T23 x0_1 x5_1).f4, (rd_T23 x0_1 x5_1).f5, (rd_T23 x0_1 x5_1).f6⟩ : S23)) := ⟨_, rfl⟩
     replace H : ((some (y429.set (x5_1 : Int).toNat (⟨(rd_T23 y429 x5_1).f0, wrap64 (x1_1 + 1), (rd_T23 y429 x5_1).f2, (rd_T23 y429 x5_1).f3, (rd_T23 y429 x5_1).f4, (rd_T23 y429 x5_1).f5, (rd_T23 y429 x5_1).f6⟩ : S23) : List (S23))).bind fun y430 => ((some (y430.set (x5_1 : Int).toNat (⟨(rd_T23 y430 x5_1).f0, (rd_T23 y430 x5_1).f1, wrap64 ((wrap64 (x1_1 + 1)) + 1), (rd_T23 y430 x5_1).f3, (rd_T23 y430 x5_1).f4, (rd_T23 y430 x5_1).f5, (rd_T23 y430 x5_1).f6⟩ : S23) : List (S23))).bind fun y431 => ((some (y431.set (x5_1 : Int).toNat (⟨(rd_T23 y431 x5_1).f0, (rd_T23 y431 x5_1).f1, (rd_T23 y431 x5_1).f2, wrap64 ((wrap64 ((wrap64 (x1_1 + 1)) + 1)) + 1), (rd_T23 y431 x5_1).f4, (rd_T23 y431 x5_1).f5, (rd_T23 y431 x5_1).f6⟩ : S23) : List (S23))).bind fun y432 => ((some (y432.set (x5_1 : Int).toNat (⟨(rd_T23 y432 x5_1).f0, (rd_T23 y432 x5_1).f1, (rd_T23 y432 x5_1).f2, (rd_T23 y432 x5_1).f3, wrap64 ((wrap64 ((wrap64 ((wrap64 (x1_1 + 1)) + 1)) + 1)) + 1), (rd_T23 y432 x5_1).f5, (rd_T23 y432 x5_1).f6⟩ : S23) : List (S23))).bind fun y433 => ((some (y433.set (x5_1 : Int).toNat (⟨(rd_T23 y433 x5_1).f0, (rd_T23 y433 x5_1).f1, (rd_T23 y433 x5_1).f2, (rd_T23 y433 x5_1).f3, (rd_T23 y433 x5_1).f4, wrap64 ((wrap64 ((wrap64 ((wrap64 ((wrap64 (x1_1 + 1)) + 1)) + 1)) + 1)) + 1), (rd_T23 y433 x5_1).f6⟩ : S23) : List (S23))).bind fun y434 => (laws_markPartS.l0 k1 (y434.set (x5_1 : Int).toNat (⟨(rd_T23 y434 x5_1).f0, (rd_T23 y434 x5_1).f1, (rd_T23 y434 x5_1).f2, (rd_T23 y434 x5_1).f3, (rd_T23 y434 x5_1).f4, (rd_T23 y434 x5_1).f5, wrap64 ((wrap64 ((wrap64 ((wrap64 ((wrap64 ((wrap64 (x1_1 + 1)) + 1)) + 1)) + 1)) + 1)) + 1)⟩ : S23)) (wrap64 ((wrap64 ((wrap64 ((wrap64 ((wrap64 ((wrap64 ((wrap64 (x1_1 + 1)) + 1)) + 1)) + 1)) + 1)) + 1)) + 1)) (wrap64 (x5_1 + 1)))))))) = some (r1, r2) := zz0 hy429
     have Ny429 := aM hy429
     clear hy429
     obtain ⟨y430, hy430⟩ : ∃ y_ : List (S23), y_ = (y429.set (x5_1 : Int).toNat (⟨(rd_T23 y429 x5_1).f0, wrap64 (x1_1 + 1), (rd_T23 y429 x5_1).f2, (rd_T23 y429 x5_1).f3, (rd_T23 y429 x5_1).f4, (rd_T23 y429 x5_1).f5, (rd_T23 y429 x5_1).f6⟩ : S23)) := ⟨_, rfl⟩
     replace H : ((some (y430.set (x5_1 : Int).toNat (⟨(rd_T23 y430 x5_1).f0, (rd_T23 y430 x5_1).f1, wrap64 ((wrap64 (x1_1 + 1)) + 1), (rd_T23 y430 x5_1).f3, (rd_T23 y430 x5_1).f4, (rd_T23 y430 x5_1).f5, (rd_T23 y430 x5_1).f6⟩ : S23) : List (S23))).bind fun y431 => ((some (y431.set (x5_1 : Int).toNat (⟨(rd_T23 y431 x5_1).f0, (rd_T23 y431 x5_1).f1, (rd_T23 y431 x5_1).f2, wrap64 ((wrap64 ((wrap64 (x1_1 + 1)) + 1)) + 1), (rd_T23 y431 x5_1).f4, (rd_T23 y431 x5_1).f5, (rd_T23 y431 x5_1).f6⟩ : S23) : List (S23))).bind fun y432 => ((some (y432.set (x5_1 : Int).toNat (⟨(rd_T23 y432 x5_1).f0, (rd_T23 y432 x5_1).f1, (rd_T23 y432 x5_1).f2, (rd_T23 y432 x5_1).f3, wrap64 ((wrap64 ((wrap64 ((wrap64 (x1_1 + 1)) + 1)) + 1)) + 1), (rd_T23 y432 x5_1).f5, (rd_T23 y432 x5_1).f6⟩ : S23) : List (S23))).bind fun y433 => ((some (y433.set (x5_1 : Int).toNat (⟨(rd_T23 y433 x5_1).f0, (rd_T23 y433 x5_1).f1, (rd_T23 y433 x5_1).f2, (rd_T23 y433 x5_1).f3, (rd_T23 y433 x5_1).f4, wrap64 ((wrap64 ((wrap64 ((wrap64 ((wrap64 (x1_1 + 1)) + 1)) + 1)) + 1)) + 1), (rd_T23 y433 x5_1).f6⟩ : S23) : List (S23))).bind fun y434 => (laws_markPartS.l0 k1 (y434.set (x5_1 : Int).toNat (⟨(rd_T23 y434 x5_1).f0, (rd_T23 y434 x5_1).f1, (rd_T23 y434 x5_1).f2, (rd_T23 y434 x5_1).f3, (rd_T23 y434 x5_1).f4, (rd_T23 y434 x5_1).f5, wrap64 ((wrap64 ((wrap64 ((wrap64 ((wrap64 ((wrap64 (x1_1 + 1)) + 1)) + 1)) + 1)) + 1)) + 1)⟩ : S23)) (wrap64 ((wrap64 ((wrap64 ((wrap64 ((wrap64 ((wrap64 ((wrap64 (x1_1 + 1)) + 1)) + 1)) + 1)) + 1)) + 1)) + 1)) (wrap64 (x5_1 + 1))))))) = some (r1, r2) := zz0 hy430
     have Ny430 := aM hy430
     clear hy430
     obtain ⟨y431, hy431⟩ : ∃ y_ : List (S23), y_ = (y430.set (x5_1 : Int).toNat (⟨(rd_T23 y430 x5_1).f0, (rd_T23 y430 x5_1).f1, wrap64 ((wrap64 (x1_1 + 1)) + 1), (rd_T23 y430 x5_1).f3, (rd_T23 y430 x5_1).f4, (rd_T23 y430 x5_1).f5, (rd_T23 y430 x5_1).f6⟩ : S23)) := ⟨_, rfl⟩
     replace H : ((some (y431.set (x5_1 : Int).toNat (⟨(rd_T23 y431 x5_1).f0, (rd_T23 y431 x5_1).f1, (rd_T23 y431 x5_1).f2, wrap64 ((wrap64 ((wrap64 (x1_1 + 1)) + 1)) + 1), (rd_T23 y431 x5_1).f4, (rd_T23 y431 x5_1).f5, (rd_T23 y431 x5_1).f6⟩ : S23) : List (S23))).bind fun y432 => ((some (y432.set (x5_1 : Int).toNat (⟨(rd_T23 y432 x5_1).f0, (rd_T23 y432 x5_1).f1, (rd_T23 y432 x5_1).f2, (rd_T23 y432 x5_1).f3, wrap64 ((wrap64 ((wrap64 ((wrap64 (x1_1 + 1)) + 1)) + 1)) + 1), (rd_T23 y432 x5_1).f5, (rd_T23 y432 x5_1).f6⟩ : S23) : List (S23))).bind fun y433 => ((some (y433.set (x5_1 : Int).toNat (⟨(rd_T23 y433 x5_1).f0, (rd_T23 y433 x5_1).f1, (rd_T23 y433 x5_1).f2, (rd_T23 y433 x5_1).f3, (rd_T23 y433 x5_1).f4, wrap64 ((wrap64 ((wrap64 ((wrap64 ((wrap64 (x1_1 + 1)) + 1)) + 1)) + 1)) + 1), (rd_T23 y433 x5_1).f6⟩ : S23) : List (S23))).bind fun y434 => (laws_markPartS.l0 k1 (y434.set (x5_1 : Int).toNat (⟨(rd_T23 y434 x5_1).f0, (rd_T23 y434 x5_1).f1, (rd_T23 y434 x5_1).f2, (rd_T23 y434 x5_1).f3, (rd_T23 y434 x5_1).f4, (rd_T23 y434 x5_1).f5, wrap64 ((wrap64 ((wrap64 ((wrap64 ((wrap64 ((wrap64 (x1_1 + 1)) + 1)) + 1)) + 1)) + 1)) + 1)⟩ : S23)) (wrap64 ((wrap64 ((wrap64 ((wrap64 ((wrap64 ((wrap64 ((wrap64 (x1_1 + 1)) + 1)) + 1)) + 1)) + 1)) + 1)) + 1)) (wrap64 (x5_1 + 1)))))) = some (r1, r2) := zz0 hy431
     have Ny431 := aM hy431
     clear hy431
     obtain ⟨y432, hy432⟩ : ∃ y_ : List (S23), y_ = (y431.set (x5_1 : Int).toNat (⟨(rd_T23 y431 x5_1).f0, (rd_T23 y431 x5_1).f1, (rd_T23 y431 x5_1).f2, wrap64 ((wrap64 ((wrap64 (x1_1 + 1)) + 1)) + 1), (rd_T23 y431 x5_1).f4, (rd_T23 y431 x5_1).f5, (rd_T23 y431 x5_1).f6⟩ : S23)) := ⟨_, rfl⟩
     replace H : ((some (y432.set (x5_1 : Int).toNat (⟨(rd_T23 y432 x5_1).f0, (rd_T23 y432 x5_1).f1, (rd_T23 y432 x5_1).f2, (rd_T23 y432 x5_1).f3, wrap64 ((wrap64 ((wrap64 ((wrap64 (x1_1 + 1)) + 1)) + 1)) + 1), (rd_T23 y432 x5_1).f5, (rd_T23 y432 x5_1).f6⟩ : S23) : List (S23))).bind fun y433 => ((some (y433.set (x5_1 : Int).toNat (⟨(rd_T23 y433 x5_1).f0, (rd_T23 y433 x5_1).f1, (rd_T23 y433 x5_1).f2, (rd_T23 y433 x5_1).f3, (rd_T23 y433 x5_1).f4, wrap64 ((wrap64 ((wrap64 ((wrap64 ((wrap64 (x1_1 + 1)) + 1)) + 1)) + 1)) + 1), (rd_T23 y433 x5_1).f6⟩ : S23) : List (S23))).bind fun y434 => (laws_markPartS.l0 k1 (y434.set (x5_1 : Int).toNat (⟨(rd_T23 y434 x5_1).f0, (rd_T23 y434 x5_1).f1, (rd_T23 y434 x5_1).f2, (rd_T23 y434 x5_1).f3, (rd_T23 y434 x5_1).f4, (rd_T23 y434 x5_1).f5, wrap64 ((wrap64 ((wrap64 ((wrap64 ((wrap64 ((wrap64 (x1_1 + 1)) + 1)) + 1)) + 1)) + 1)) + 1)⟩ : S23)) (wrap64 ((wrap64 ((wrap64 ((wrap64 ((wrap64 ((wrap64 ((wrap64 (x1_1 + 1)) + 1)) + 1)) + 1)) + 1)) + 1)) + 1)) (wrap64 (x5_1 + 1))))) = some (r1, r2) := zz0 hy432
     have Ny432 := aM hy432
     clear hy432
     obtain ⟨y433, hy433⟩ : ∃ y_ : List (S23), y_ = (y432.set (x5_1 : Int).toNat (⟨(rd_T23 y432 x5_1).f0, (rd_T23 y432 x5_1).f1, (rd_T23 y432 x5_1).f2, (rd_T23 y432 x5_1).f3, wrap64 ((wrap64 ((wrap64 ((wrap64 (x1_1 + 1)) + 1)) + 1)) + 1), (rd_T23 y432 x5_1).f5, (rd_T23 y432 x5_1).f6⟩ : S23)) := ⟨_, rfl⟩
     replace H : ((some (y433.set (x5_1 : Int).toNat (⟨(rd_T23 y433 x5_1).f0, (rd_T23 y433 x5_1).f1, (rd_T23 y433 x5_1).f2, (rd_T23 y433 x5_1).f3, (rd_T23 y433 x5_1).f4, wrap64 ((wrap64 ((wrap64 ((wrap64 ((wrap64 (x1_1 + 1)) + 1)) + 1)) + 1)) + 1), (rd_T23 y433 x5_1).f6⟩ : S23) : List (S23))).bind fun y434 => (laws_markPartS.l0 k1 (y434.set (x5_1 : Int).toNat (⟨(rd_T23 y434 x5_1).f0, (rd_T23 y434 x5_1).f1, (rd_T23 y434 x5_1).f2, (rd_T23 y434 x5_1).f3, (rd_T23 y434 x5_1).f4, (rd_T23 y434 x5_1).f5, wrap64 ((wrap64 ((wrap64 ((wrap64 ((wrap64 ((wrap64 (x1_1 + 1)) + 1)) + 1)) + 1)) + 1)) + 1)⟩ : S23)) (wrap64 ((wrap64 ((wrap64 ((wrap64 ((wrap64 ((wrap64 ((wrap64 (x1_1 + 1)) + 1)) + 1)) + 1)) + 1)) + 1)) + 1)) (wrap64 (x5_1 + 1)))) = some (r1, r2) := zz0 hy433
     have Ny433 := aM hy433
     clear hy433
     obtain ⟨y434, hy434⟩ : ∃ y_ : List (S23), y_ = (y433.set (x5_1 : Int).toNat (⟨(rd_T23 y433 x5_1).f0, (rd_T23 y433 x5_1).f1, (rd_T23 y433 x5_1).f2, (rd_T23 y433 x5_1).f3, (rd_T23 y433 x5_1).f4, wrap64 ((wrap64 ((wrap64 ((wrap64 ((wrap64 (x1_1 + 1)) + 1)) + 1)) + 1)) + 1), (rd_T23 y433 x5_1).f6⟩ : S23)) := ⟨_, rfl⟩
     replace H : (laws_markPartS.l0 k1 (y434.set (x5_1 : Int).toNat (⟨(rd_T23 y434 x5_1).f0, (rd_T23 y434 x5_1).f1, (rd_T23 y434 x5_1).f2, (rd_T23 y434 x5_1).f3, (rd_T23 y434 x5_1).f4, (rd_T23 y434 x5_1).f5, wrap64 ((wrap64 ((wrap64 ((wrap64 ((wrap64 ((wrap64 (x1_1 + 1)) + 1)) + 1)) + 1)) + 1)) + 1)⟩ : S23)) (wrap64 ((wrap64 ((wrap64 ((wrap64 ((wrap64 ((wrap64 ((wrap64 (x1_1 + 1)) + 1)) + 1)) + 1)) + 1)) + 1)) + 1)) (wrap64 (x5_1 + 1))) = some (r1, r2) := zz0 hy434
     have Ny434 := aM hy434
     clear hy434
     obtain ⟨y435, hy435⟩ : ∃ y_ : List (S23), y_ = (y434.set (x5_1 : Int).toNat (⟨(rd_T23 y434 x5_1).f0, (rd_T23 y434 x5_1).f1, (rd_T23 y434 x5_1).f2, (rd_T23 y434 x5_1).f3, (rd_T23 y434 x5_1).f4, (rd_T23 y434 x5_1).f5, wrap64 ((wrap64 ((wrap64 ((wrap64 ((wrap64 ((wrap64 (x1_1 + 1)) + 1)) + 1)) + 1)) + 1)) + 1)⟩ : S23)) := ⟨_, rfl⟩
     replace H : (laws_markPartS.l0 k1 y435 (wrap64 ((wrap64 ((wrap64 ((wrap64 ((wrap64 ((wrap64 ((wrap64 (x1_1 + 1)) + 1)) + 1)) + 1)) + 1)) + 1)) + 1)) (wrap64 (x5_1 + 1))) = some (r1, r2) := zz0 hy435
     have Ny435 := aM hy435
     clear hy435
     have H' := aM H
     clear H
     have p5 : 0 ≤ (x5_1 : Int) := pI
     have q5 : (x5_1 : Int) < ((x0_1.length : Int) : Int) := pI
     obtain ⟨go5, co5, eo5, gb5, gl5, cl5, HG5⟩ := Kd.R_form HO_0.out (by omega)
     (first | cases eo5 | (injection eo5 with ea_ en_ ec_; (first | subst ea_ | (injection ea_ with ea_; subst ea_)); subst ec_; clear en_))
     have GB5 := aM gb5
     have GG5 := aM HG5
     clear gb5 gl5 HG5
     have HMgo5 := aM (show (P0_ go5 ∨ w.heap.size ≤ go5) from (HO_0.out.1 _ rfl))
     obtain ⟨ce5, hcl5, hM5, hcc5, hfr5⟩ := Kd.R_elem HO_0.out z23 (x5_1 : Int) p5 q5
     obtain rfl := k23_openM hM5
     have hx5_0 : wr.cell? ⟨go5, (x5_1 : Int).toNat * 7, none⟩ = some (.int .i64 ((rd_T23 x0_1 x5_1).f0)) := hcc5 0 _ rfl
     have hx5_1 : wr.cell? ⟨go5, (x5_1 : Int).toNat * 7 + 1, none⟩ = some (.int .i64 ((rd_T23 x0_1 x5_1).f1)) := hcc5 1 _ rfl
     have hx5_2 : wr.cell? ⟨go5, (x5_1 : Int).toNat * 7 + 2, none⟩ = some (.int .i64 ((rd_T23 x0_1 x5_1).f2)) := hcc5 2 _ rfl
     have hx5_3 : wr.cell? ⟨go5, (x5_1 : Int).toNat * 7 + 3, none⟩ = some (.int .i64 ((rd_T23 x0_1 x5_1).f3)) := hcc5 3 _ rfl
     have hx5_4 : wr.cell? ⟨go5, (x5_1 : Int).toNat * 7 + 4, none⟩ = some (.int .i64 ((rd_T23 x0_1 x5_1).f4)) := hcc5 4 _ rfl
     have hx5_5 : wr.cell? ⟨go5, (x5_1 : Int).toNat * 7 + 5, none⟩ = some (.int .i64 ((rd_T23 x0_1 x5_1).f5)) := hcc5 5 _ rfl
     have hx5_6 : wr.cell? ⟨go5, (x5_1 : Int).toNat * 7 + 6, none⟩ = some (.int .i64 ((rd_T23 x0_1 x5_1).f6)) := hcc5 6 _ rfl
     have hf5_0 : wr.frozen? ⟨go5, (x5_1 : Int).toNat * 7, none⟩ = false := hfr5 0 (by decide)
     have hf5_1 : wr.frozen? ⟨go5, (x5_1 : Int).toNat * 7 + 1, none⟩ = false := hfr5 1 (by decide)
     have hf5_2 : wr.frozen? ⟨go5, (x5_1 : Int).toNat * 7 + 2, none⟩ = false := hfr5 2 (by decide)
     have hf5_3 : wr.frozen? ⟨go5, (x5_1 : Int).toNat * 7 + 3, none⟩ = false := hfr5 3 (by decide)
     have hf5_4 : wr.frozen? ⟨go5, (x5_1 : Int).toNat * 7 + 4, none⟩ = false := hfr5 4 (by decide)
     have hf5_5 : wr.frozen? ⟨go5, (x5_1 : Int).toNat * 7 + 5, none⟩ = false := hfr5 5 (by decide)
     have hf5_6 : wr.frozen? ⟨go5, (x5_1 : Int).toNat * 7 + 6, none⟩ = false := hfr5 6 (by decide)
     clear hcl5 hcc5 hfr5 hM5
     replace p5 := eq_true p5
     replace q5 := eq_true q5
     have HX13 := aM (show Kd.R k23 23 wr w0.heap.size (fun k_ => (P0_ k_ ∨ w.heap.size ≤ k_)) (.slice (some ⟨go5, 0, none⟩) x0_1.length co12) x0_1 from (bR HO_0))
     obtain ⟨ce13, hcl13, hM13, hcc13, hfr13⟩ := Kd.R_elem HX13.out z23 (x5_1 : Int) (pI) (bH (pI : (x5_1 : Int) < ((x0_1.length : Int) : Int)) (Kd.R_reads' HO_0.out).1)
     obtain rfl := k23_openM hM13
     have HP13 := Kd.R_seg HX13.out (x5_1 : Int) (pI) (bH (pI : (x5_1 : Int) < ((x0_1.length : Int) : Int)) (Kd.R_reads' HO_0.out).1) (seg := [.int .i64 x1_1]) (j := 0) hcl13 hcc13 (show 1 ≤ 7 from by decide) (x' := (⟨x1_1, (rd_T23 x0_1 x5_1).f1, (rd_T23 x0_1 x5_1).f2, (rd_T23 x0_1 x5_1).f3, (rd_T23 x0_1 x5_1).f4, (rd_T23 x0_1 x5_1).f5, (rd_T23 x0_1 x5_1).f6⟩ : S23)) (k23_mkM _ _ _ (⟨x1_1, (rd_T23 x0_1 x5_1).f1, (rd_T23 x0_1 x5_1).f2, (rd_T23 x0_1 x5_1).f3, (rd_T23 x0_1 x5_1).f4, (rd_T23 x0_1 x5_1).f5, (rd_T23 x0_1 x5_1).f6⟩ : S23) ) (fun _ hk => hk)
     have hx13_0 := hcc13 0 _ rfl
     (try simp only [show (k23).sz = 7 from rfl, Nat.mul_one, Nat.add_zero] at hx13_0)
     have hf13_0 := hfr13 0 (by decide)
     (try simp only [show (k23).sz = 7 from rfl, Nat.mul_one, Nat.add_zero] at hf13_0)
     clear hcl13 hcc13 hfr13 hM13
     go_wp2_with (first | ((with_reducible refine gate_store (t := 2) (p := 16) rfl ?_); refine store_event (t := 2) (p := 16) (v := ?vo_w14) (w1 := (wr.setCell ⟨go5, (x5_1 : Int).toNat * 7, none⟩ (.int .i64 x1_1))) ?hg ?ho ?hn ?hr ?_; (case ho => rfl); (case hg => rfl); (case hn => rfl); (case hr => exact zz10); intro w14 hw; have hg : wr.grownBy w14 (some go5) := (by rw [hw]; exact HP13.2); have hp_ : Kd.R k23 23 w14 w0.heap.size (fun k_ => (P0_ k_ ∨ w.heap.size ≤ k_)) (.slice (some ⟨go5, 0, none⟩) x0_1.length co12) y429 := (by rw [hw, Ny429.out]; exact HP13.1); clear HP13; replace HB := aM ((zz51 GB5.out : Below w0.heap.size w0 w14)); replace HK := aM (Kept.of_grown (S := (fun k_ => P0_ k_)) hg bK (fun k_ e_ => (HO_0.out.1 k_ e_))); replace HO_0 := aM (hp_); clear hg hw hp_; have p6 : 0 ≤ (x5_1 : Int) := pI; have q6 : (x5_1 : Int) < ((x0_1.length : Int) : Int) := pI; obtain ⟨ce6, hcl6, hM6, hcc6, hfr6⟩ := Kd.R_elem HO_0.out z23 (x5_1 : Int) p6 q6; obtain rfl := k23_openM hM6; have hx6_0 : w14.cell? ⟨go5, (x5_1 : Int).toNat * 7, none⟩ = some (.int .i64 ((rd_T23 y429 x5_1).f0)) := hcc6 0 _ rfl; have hx6_1 : w14.cell? ⟨go5, (x5_1 : Int).toNat * 7 + 1, none⟩ = some (.int .i64 ((rd_T23 y429 x5_1).f1)) := hcc6 1 _ rfl; have hx6_2 : w14.cell? ⟨go5, (x5_1 : Int).toNat * 7 + 2, none⟩ = some (.int .i64 ((rd_T23 y429 x5_1).f2)) := hcc6 2 _ rfl; have hx6_3 : w14.cell? ⟨go5, (x5_1 : Int).toNat * 7 + 3, none⟩ = some (.int .i64 ((rd_T23 y429 x5_1).f3)) := hcc6 3 _ rfl; have hx6_4 : w14.cell? ⟨go5, (x5_1 : Int).toNat * 7 + 4, none⟩ = some (.int .i64 ((rd_T23 y429 x5_1).f4)) := hcc6 4 _ rfl; have hx6_5 : w14.cell? ⟨go5, (x5_1 : Int).toNat * 7 + 5, none⟩ = some (.int .i64 ((rd_T23 y429 x5_1).f5)) := hcc6 5 _ rfl; have hx6_6 : w14.cell? ⟨go5, (x5_1 : Int).toNat * 7 + 6, none⟩ = some (.int .i64 ((rd_T23 y429 x5_1).f6)) := hcc6 6 _ rfl; have hf6_0 : w14.frozen? ⟨go5, (x5_1 : Int).toNat * 7, none⟩ = false := hfr6 0 (by decide); have hf6_1 : w14.frozen? ⟨go5, (x5_1 : Int).toNat * 7 + 1, none⟩ = false := hfr6 1 (by decide); have hf6_2 : w14.frozen? ⟨go5, (x5_1 : Int).toNat * 7 + 2, none⟩ = false := hfr6 2 (by decide); have hf6_3 : w14.frozen? ⟨go5, (x5_1 : Int).toNat * 7 + 3, none⟩ = false := hfr6 3 (by decide); have hf6_4 : w14.frozen? ⟨go5, (x5_1 : Int).toNat * 7 + 4, none⟩ = false := hfr6 4 (by decide); have hf6_5 : w14.frozen? ⟨go5, (x5_1 : Int).toNat * 7 + 5, none⟩ = false := hfr6 5 (by decide); have hf6_6 : w14.frozen? ⟨go5, (x5_1 : Int).toNat * 7 + 6, none⟩ = false := hfr6 6 (by decide); clear hcl6 hcc6 hfr6 hM6; replace p6 := eq_true p6; replace q6 := eq_true q6; have HX15 := aM (show Kd.R k23 23 w14 w0.heap.size (fun k_ => (P0_ k_ ∨ w.heap.size ≤ k_)) (.slice (some ⟨go5, 0, none⟩) x0_1.length co12) y429 from (bR HO_0)); obtain ⟨ce15, hcl15, hM15, hcc15, hfr15⟩ := Kd.R_elem HX15.out z23 (x5_1 : Int) (pI) (bH (pI : (x5_1 : Int) < ((x0_1.length : Int) : Int)) (Kd.R_reads' HO_0.out).1); obtain rfl := k23_openM hM15; have HP15 := Kd.R_seg HX15.out (x5_1 : Int) (pI) (bH (pI : (x5_1 : Int) < ((x0_1.length : Int) : Int)) (Kd.R_reads' HO_0.out).1) (seg := [.int .i64 (wrap64 (x1_1 + 1))]) (j := 1) hcl15 hcc15 (show 2 ≤ 7 from by decide) (x' := (⟨(rd_T23 y429 x5_1).f0, wrap64 (x1_1 + 1), (rd_T23 y429 x5_1).f2, (rd_T23 y429 x5_1).f3, (rd_T23 y429 x5_1).f4, (rd_T23 y429 x5_1).f5, (rd_T23 y429 x5_1).f6⟩ : S23)) (k23_mkM _ _ _ (⟨(rd_T23 y429 x5_1).f0, wrap64 (x1_1 + 1), (rd_T23 y429 x5_1).f2, (rd_T23 y429 x5_1).f3, (rd_T23 y429 x5_1).f4, (rd_T23 y429 x5_1).f5, (rd_T23 y429 x5_1).f6⟩ : S23) ) (fun _ hk => hk); have hx15_1 := hcc15 1 _ rfl; (try simp only [show (k23).sz = 7 from rfl, Nat.mul_one, Nat.add_zero] at hx15_1); have hf15_1 := hfr15 1 (by decide); (try simp only [show (k23).sz = 7 from rfl, Nat.mul_one, Nat.add_zero] at hf15_1); clear hcl15 hcc15 hfr15 hM15) | ((with_reducible refine gate_store (t := 2) (p := 23) rfl ?_); refine store_event (t := 2) (p := 23) (v := ?vo_w16) (w1 := (w14.setCell ⟨go5, (x5_1 : Int).toNat * 7 + 1, none⟩ (.int .i64 (wrap64 (x1_1 + 1))))) ?hg ?ho ?hn ?hr ?_; (case ho => rfl); (case hg => rfl); (case hn => rfl); (case hr => exact zz10); intro w16 hw; have hg : w14.grownBy w16 (some go5) := (by rw [hw]; exact HP15.2); have hp_ : Kd.R k23 23 w16 w0.heap.size (fun k_ => (P0_ k_ ∨ w.heap.size ≤ k_)) (.slice (some ⟨go5, 0, none⟩) x0_1.length co12) y430 := (by rw [hw, Ny430.out]; exact HP15.1); clear HP15; replace HB := aM ((zz51 GB5.out : Below w0.heap.size w0 w16)); replace HK := aM (Kept.of_grown (S := (fun k_ => P0_ k_)) hg bK (fun k_ e_ => (HO_0.out.1 k_ e_))); replace HO_0 := aM (hp_); clear hg hw hp_; have p7 : 0 ≤ (x5_1 : Int) := pI; have q7 : (x5_1 : Int) < ((x0_1.length : Int) : Int) := pI; obtain ⟨ce7, hcl7, hM7, hcc7, hfr7⟩ := Kd.R_elem HO_0.out z23 (x5_1 : Int) p7 q7; obtain rfl := k23_openM hM7; have hx7_0 : w16.cell? ⟨go5, (x5_1 : Int).toNat * 7, none⟩ = some (.int .i64 ((rd_T23 y430 x5_1).f0)) := hcc7 0 _ rfl; have hx7_1 : w16.cell? ⟨go5, (x5_1 : Int).toNat * 7 + 1, none⟩ = some (.int .i64 ((rd_T23 y430 x5_1).f1)) := hcc7 1 _ rfl; have hx7_2 : w16.cell? ⟨go5, (x5_1 : Int).toNat * 7 + 2, none⟩ = some (.int .i64 ((rd_T23 y430 x5_1).f2)) := hcc7 2 _ rfl; have hx7_3 : w16.cell? ⟨go5, (x5_1 : Int).toNat * 7 + 3, none⟩ = some (.int .i64 ((rd_T23 y430 x5_1).f3)) := hcc7 3 _ rfl; have hx7_4 : w16.cell? ⟨go5, (x5_1 : Int).toNat * 7 + 4, none⟩ = some (.int .i64 ((rd_T23 y430 x5_1).f4)) := hcc7 4 _ rfl; have hx7_5 : w16.cell? ⟨go5, (x5_1 : Int).toNat * 7 + 5, none⟩ = some (.int .i64 ((rd_T23 y430 x5_1).f5)) := hcc7 5 _ rfl; have hx7_6 : w16.cell? ⟨go5, (x5_1 : Int).toNat * 7 + 6, none⟩ = some (.int .i64 ((rd_T23 y430 x5_1).f6)) := hcc7 6 _ rfl; have hf7_0 : w16.frozen? ⟨go5, (x5_1 : Int).toNat * 7, none⟩ = false := hfr7 0 (by decide); have hf7_1 : w16.frozen? ⟨go5, (x5_1 : Int).toNat * 7 + 1, none⟩ = false := hfr7 1 (by decide); have hf7_2 : w16.frozen? ⟨go5, (x5_1 : Int).toNat * 7 + 2, none⟩ = false := hfr7 2 (by decide); have hf7_3 : w16.frozen? ⟨go5, (x5_1 : Int).toNat * 7 + 3, none⟩ = false := hfr7 3 (by decide); have hf7_4 : w16.frozen? ⟨go5, (x5_1 : Int).toNat * 7 + 4, none⟩ = false := hfr7 4 (by decide); have hf7_5 : w16.frozen? ⟨go5, (x5_1 : Int).toNat * 7 + 5, none⟩ = false := hfr7 5 (by decide); have hf7_6 : w16.frozen? ⟨go5, (x5_1 : Int).toNat * 7 + 6, none⟩ = false := hfr7 6 (by decide); clear hcl7 hcc7 hfr7 hM7; replace p7 := eq_true p7; replace q7 := eq_true q7; have HX17 := aM (show Kd.R k23 23 w16 w0.heap.size (fun k_ => (P0_ k_ ∨ w.heap.size ≤ k_)) (.slice (some ⟨go5, 0, none⟩) x0_1.length co12) y430 from (bR HO_0)); obtain ⟨ce17, hcl17, hM17, hcc17, hfr17⟩ := Kd.R_elem HX17.out z23 (x5_1 : Int) (pI) (bH (pI : (x5_1 : Int) < ((x0_1.length : Int) : Int)) (Kd.R_reads' HO_0.out).1); obtain rfl := k23_openM hM17; have HP17 := Kd.R_seg HX17.out (x5_1 : Int) (pI) (bH (pI : (x5_1 : Int) < ((x0_1.length : Int) : Int)) (Kd.R_reads' HO_0.out).1) (seg := [.int .i64 (wrap64 ((wrap64 (x1_1 + 1)) + 1))]) (j := 2) hcl17 hcc17 (show 3 ≤ 7 from by decide) (x' := (⟨(rd_T23 y430 x5_1).f0, (rd_T23 y430 x5_1).f1, wrap64 ((wrap64 (x1_1 + 1)) + 1), (rd_T23 y430 x5_1).f3, (rd_T23 y430 x5_1).f4, (rd_T23 y430 x5_1).f5, (rd_T23 y430 x5_1).f6⟩ : S23)) (k23_mkM _ _ _ (⟨(rd_T23 y430 x5_1).f0, (rd_T23 y430 x5_1).f1, wrap64 ((wrap64 (x1_1 + 1)) + 1), (rd_T23 y430 x5_1).f3, (rd_T23 y430 x5_1).f4, (rd_T23 y430 x5_1).f5, (rd_T23 y430 x5_1).f6⟩ : S23) ) (fun _ hk => hk); have hx17_2 := hcc17 2 _ rfl; (try simp only [show (k23).sz = 7 from rfl, Nat.mul_one, Nat.add_zero] at hx17_2); have hf17_2 := hfr17 2 (by decide); (try simp only [show (k23).sz = 7 from rfl, Nat.mul_one, Nat.add_zero] at hf17_2); clear hcl17 hcc17 hfr17 hM17) | ((with_reducible refine gate_store (t := 2) (p := 30) rfl ?_); refine store_event (t := 2) (p := 30) (v := ?vo_w18) (w1 := (w16.setCell ⟨go5, (x5_1 : Int).toNat * 7 + 2, none⟩ (.int .i64 (wrap64 ((wrap64 (x1_1 + 1)) + 1))))) ?hg ?ho ?hn ?hr ?_; (case ho => rfl); (case hg => rfl); (case hn => rfl); (case hr => exact zz10); intro w18 hw; have hg : w16.grownBy w18 (some go5) := (by rw [hw]; exact HP17.2); have hp_ : Kd.R k23 23 w18 w0.heap.size (fun k_ => (P0_ k_ ∨ w.heap.size ≤ k_)) (.slice (some ⟨go5, 0, none⟩) x0_1.length co12) y431 := (by rw [hw, Ny431.out]; exact HP17.1); clear HP17; replace HB := aM ((zz51 GB5.out : Below w0.heap.size w0 w18)); replace HK := aM (Kept.of_grown (S := (fun k_ => P0_ k_)) hg bK (fun k_ e_ => (HO_0.out.1 k_ e_))); replace HO_0 := aM (hp_); clear hg hw hp_; have p8 : 0 ≤ (x5_1 : Int) := pI; have q8 : (x5_1 : Int) < ((x0_1.length : Int) : Int) := pI; obtain ⟨ce8, hcl8, hM8, hcc8, hfr8⟩ := Kd.R_elem HO_0.out z23 (x5_1 : Int) p8 q8; obtain rfl := k23_openM hM8; have hx8_0 : w18.cell? ⟨go5, (x5_1 : Int).toNat * 7, none⟩ = some (.int .i64 ((rd_T23 y431 x5_1).f0)) := hcc8 0 _ rfl; have hx8_1 : w18.cell? ⟨go5, (x5_1 : Int).toNat * 7 + 1, none⟩ = some (.int .i64 ((rd_T23 y431 x5_1).f1)) := hcc8 1 _ rfl; have hx8_2 : w18.cell? ⟨go5, (x5_1 : Int).toNat * 7 + 2, none⟩ = some (.int .i64 ((rd_T23 y431 x5_1).f2)) := hcc8 2 _ rfl; have hx8_3 : w18.cell? ⟨go5, (x5_1 : Int).toNat * 7 + 3, none⟩ = some (.int .i64 ((rd_T23 y431 x5_1).f3)) := hcc8 3 _ rfl; have hx8_4 : w18.cell? ⟨go5, (x5_1 : Int).toNat * 7 + 4, none⟩ = some (.int .i64 ((rd_T23 y431 x5_1).f4)) := hcc8 4 _ rfl; have hx8_5 : w18.cell? ⟨go5, (x5_1 : Int).toNat * 7 + 5, none⟩ = some (.int .i64 ((rd_T23 y431 x5_1).f5)) := hcc8 5 _ rfl; have hx8_6 : w18.cell? ⟨go5, (x5_1 : Int).toNat * 7 + 6, none⟩ = some (.int .i64 ((rd_T23 y431 x5_1).f6)) := hcc8 6 _ rfl; have hf8_0 : w18.frozen? ⟨go5, (x5_1 : Int).toNat * 7, none⟩ = false := hfr8 0 (by decide); have hf8_1 : w18.frozen? ⟨go5, (x5_1 : Int).toNat * 7 + 1, none⟩ = false := hfr8 1 (by decide); have hf8_2 : w18.frozen? ⟨go5, (x5_1 : Int).toNat * 7 + 2, none⟩ = false := hfr8 2 (by decide); have hf8_3 : w18.frozen? ⟨go5, (x5_1 : Int).toNat * 7 + 3, none⟩ = false := hfr8 3 (by decide); have hf8_4 : w18.frozen? ⟨go5, (x5_1 : Int).toNat * 7 + 4, none⟩ = false := hfr8 4 (by decide); have hf8_5 : w18.frozen? ⟨go5, (x5_1 : Int).toNat * 7 + 5, none⟩ = false := hfr8 5 (by decide); have hf8_6 : w18.frozen? ⟨go5, (x5_1 : Int).toNat * 7 + 6, none⟩ = false := hfr8 6 (by decide); clear hcl8 hcc8 hfr8 hM8; replace p8 := eq_true p8; replace q8 := eq_true q8; have HX19 := aM (show Kd.R k23 23 w18 w0.heap.size (fun k_ => (P0_ k_ ∨ w.heap.size ≤ k_)) (.slice (some ⟨go5, 0, none⟩) x0_1.length co12) y431 from (bR HO_0)); obtain ⟨ce19, hcl19, hM19, hcc19, hfr19⟩ := Kd.R_elem HX19.out z23 (x5_1 : Int) (pI) (bH (pI : (x5_1 : Int) < ((x0_1.length : Int) : Int)) (Kd.R_reads' HO_0.out).1); obtain rfl := k23_openM hM19; have HP19 := Kd.R_seg HX19.out (x5_1 : Int) (pI) (bH (pI : (x5_1 : Int) < ((x0_1.length : Int) : Int)) (Kd.R_reads' HO_0.out).1) (seg := [.int .i64 (wrap64 ((wrap64 ((wrap64 (x1_1 + 1)) + 1)) + 1))]) (j := 3) hcl19 hcc19 (show 4 ≤ 7 from by decide) (x' := (⟨(rd_T23 y431 x5_1).f0, (rd_T23 y431 x5_1).f1, (rd_T23 y431 x5_1).f2, wrap64 ((wrap64 ((wrap64 (x1_1 + 1)) + 1)) + 1), (rd_T23 y431 x5_1).f4, (rd_T23 y431 x5_1).f5, (rd_T23 y431 x5_1).f6⟩ : S23)) (k23_mkM _ _ _ (⟨(rd_T23 y431 x5_1).f0, (rd_T23 y431 x5_1).f1, (rd_T23 y431 x5_1).f2, wrap64 ((wrap64 ((wrap64 (x1_1 + 1)) + 1)) + 1), (rd_T23 y431 x5_1).f4, (rd_T23 y431 x5_1).f5, (rd_T23 y431 x5_1).f6⟩ : S23) ) (fun _ hk => hk); have hx19_3 := hcc19 3 _ rfl; (try simp only [show (k23).sz = 7 from rfl, Nat.mul_one, Nat.add_zero] at hx19_3); have hf19_3 := hfr19 3 (by decide); (try simp only [show (k23).sz = 7 from rfl, Nat.mul_one, Nat.add_zero] at hf19_3); clear hcl19 hcc19 hfr19 hM19) | ((with_reducible refine gate_store (t := 2) (p := 37) rfl ?_); refine store_event (t := 2) (p := 37) (v := ?vo_w20) (w1 := (w18.setCell ⟨go5, (x5_1 : Int).toNat * 7 + 3, none⟩ (.int .i64 (wrap64 ((wrap64 ((wrap64 (x1_1 + 1)) + 1)) + 1))))) ?hg ?ho ?hn ?hr ?_; (case ho => rfl); (case hg => rfl); (case hn => rfl); (case hr => exact zz10); intro w20 hw; have hg : w18.grownBy w20 (some go5) := (by rw [hw]; exact HP19.2); have hp_ : Kd.R k23 23 w20 w0.heap.size (fun k_ => (P0_ k_ ∨ w.heap.size ≤ k_)) (.slice (some ⟨go5, 0, none⟩) x0_1.length co12) y432 := (by rw [hw, Ny432.out]; exact HP19.1); clear HP19; replace HB := aM ((zz51 GB5.out : Below w0.heap.size w0 w20)); replace HK := aM (Kept.of_grown (S := (fun k_ => P0_ k_)) hg bK (fun k_ e_ => (HO_0.out.1 k_ e_))); replace HO_0 := aM (hp_); clear hg hw hp_; have p9 : 0 ≤ (x5_1 : Int) := pI; have q9 : (x5_1 : Int) < ((x0_1.length : Int) : Int) := pI; obtain ⟨ce9, hcl9, hM9, hcc9, hfr9⟩ := Kd.R_elem HO_0.out z23 (x5_1 : Int) p9 q9; obtain rfl := k23_openM hM9; have hx9_0 : w20.cell? ⟨go5, (x5_1 : Int).toNat * 7, none⟩ = some (.int .i64 ((rd_T23 y432 x5_1).f0)) := hcc9 0 _ rfl; have hx9_1 : w20.cell? ⟨go5, (x5_1 : Int).toNat * 7 + 1, none⟩ = some (.int .i64 ((rd_T23 y432 x5_1).f1)) := hcc9 1 _ rfl; have hx9_2 : w20.cell? ⟨go5, (x5_1 : Int).toNat * 7 + 2, none⟩ = some (.int .i64 ((rd_T23 y432 x5_1).f2)) := hcc9 2 _ rfl; have hx9_3 : w20.cell? ⟨go5, (x5_1 : Int).toNat * 7 + 3, none⟩ = some (.int .i64 ((rd_T23 y432 x5_1).f3)) := hcc9 3 _ rfl; have hx9_4 : w20.cell? ⟨go5, (x5_1 : Int).toNat * 7 + 4, none⟩ = some (.int .i64 ((rd_T23 y432 x5_1).f4)) := hcc9 4 _ rfl; have hx9_5 : w20.cell? ⟨go5, (x5_1 : Int).toNat * 7 + 5, none⟩ = some (.int .i64 ((rd_T23 y432 x5_1).f5)) := hcc9 5 _ rfl; have hx9_6 : w20.cell? ⟨go5, (x5_1 : Int).toNat * 7 + 6, none⟩ = some (.int .i64 ((rd_T23 y432 x5_1).f6)) := hcc9 6 _ rfl; have hf9_0 : w20.frozen? ⟨go5, (x5_1 : Int).toNat * 7, none⟩ = false := hfr9 0 (by decide); have hf9_1 : w20.frozen? ⟨go5, (x5_1 : Int).toNat * 7 + 1, none⟩ = false := hfr9 1 (by decide); have hf9_2 : w20.frozen? ⟨go5, (x5_1 : Int).toNat * 7 + 2, none⟩ = false := hfr9 2 (by decide); have hf9_3 : w20.frozen? ⟨go5, (x5_1 : Int).toNat * 7 + 3, none⟩ = false := hfr9 3 (by decide); have hf9_4 : w20.frozen? ⟨go5, (x5_1 : Int).toNat * 7 + 4, none⟩ = false := hfr9 4 (by decide); have hf9_5 : w20.frozen? ⟨go5, (x5_1 : Int).toNat * 7 + 5, none⟩ = false := hfr9 5 (by decide); have hf9_6 : w20.frozen? ⟨go5, (x5_1 : Int).toNat * 7 + 6, none⟩ = false := hfr9 6 (by decide); clear hcl9 hcc9 hfr9 hM9; replace p9 := eq_true p9; replace q9 := eq_true q9; have HX21 := aM (show Kd.R k23 23 w20 w0.heap.size (fun k_ => (P0_ k_ ∨ w.heap.size ≤ k_)) (.slice (some ⟨go5, 0, none⟩) x0_1.length co12) y432 from (bR HO_0)); obtain ⟨ce21, hcl21, hM21, hcc21, hfr21⟩ := Kd.R_elem HX21.out z23 (x5_1 : Int) (pI) (bH (pI : (x5_1 : Int) < ((x0_1.length : Int) : Int)) (Kd.R_reads' HO_0.out).1); obtain rfl := k23_openM hM21; have HP21 := Kd.R_seg HX21.out (x5_1 : Int) (pI) (bH (pI : (x5_1 : Int) < ((x0_1.length : Int) : Int)) (Kd.R_reads' HO_0.out).1) (seg := [.int .i64 (wrap64 ((wrap64 ((wrap64 ((wrap64 (x1_1 + 1)) + 1)) + 1)) + 1))]) (j := 4) hcl21 hcc21 (show 5 ≤ 7 from by decide) (x' := (⟨(rd_T23 y432 x5_1).f0, (rd_T23 y432 x5_1).f1, (rd_T23 y432 x5_1).f2, (rd_T23 y432 x5_1).f3, wrap64 ((wrap64 ((wrap64 ((wrap64 (x1_1 + 1)) + 1)) + 1)) + 1), (rd_T23 y432 x5_1).f5, (rd_T23 y432 x5_1).f6⟩ : S23)) (k23_mkM _ _ _ (⟨(rd_T23 y432 x5_1).f0, (rd_T23 y432 x5_1).f1, (rd_T23 y432 x5_1).f2, (rd_T23 y432 x5_1).f3, wrap64 ((wrap64 ((wrap64 ((wrap64 (x1_1 + 1)) + 1)) + 1)) + 1), (rd_T23 y432 x5_1).f5, (rd_T23 y432 x5_1).f6⟩ : S23) ) (fun _ hk => hk); have hx21_4 := hcc21 4 _ rfl; (try simp only [show (k23).sz = 7 from rfl, Nat.mul_one, Nat.add_zero] at hx21_4); have hf21_4 := hfr21 4 (by decide); (try simp only [show (k23).sz = 7 from rfl, Nat.mul_one, Nat.add_zero] at hf21_4); clear hcl21 hcc21 hfr21 hM21) | ((with_reducible refine gate_store (t := 2) (p := 44) rfl ?_); refine store_event (t := 2) (p := 44) (v := ?vo_w22) (w1 := (w20.setCell ⟨go5, (x5_1 : Int).toNat * 7 + 4, none⟩ (.int .i64 (wrap64 ((wrap64 ((wrap64 ((wrap64 (x1_1 + 1)) + 1)) + 1)) + 1))))) ?hg ?ho ?hn ?hr ?_; (case ho => rfl); (case hg => rfl); (case hn => rfl); (case hr => exact zz10); intro w22 hw; have hg : w20.grownBy w22 (some go5) := (by rw [hw]; exact HP21.2); have hp_ : Kd.R k23 23 w22 w0.heap.size (fun k_ => (P0_ k_ ∨ w.heap.size ≤ k_)) (.slice (some ⟨go5, 0, none⟩) x0_1.length co12) y433 := (by rw [hw, Ny433.out]; exact HP21.1); clear HP21; replace HB := aM ((zz51 GB5.out : Below w0.heap.size w0 w22)); replace HK := aM (Kept.of_grown (S := (fun k_ => P0_ k_)) hg bK (fun k_ e_ => (HO_0.out.1 k_ e_))); replace HO_0 := aM (hp_); clear hg hw hp_; have p10 : 0 ≤ (x5_1 : Int) := pI; have q10 : (x5_1 : Int) < ((x0_1.length : Int) : Int) := pI; obtain ⟨ce10, hcl10, hM10, hcc10, hfr10⟩ := Kd.R_elem HO_0.out z23 (x5_1 : Int) p10 q10; obtain rfl := k23_openM hM10; have hx10_0 : w22.cell? ⟨go5, (x5_1 : Int).toNat * 7, none⟩ = some (.int .i64 ((rd_T23 y433 x5_1).f0)) := hcc10 0 _ rfl; have hx10_1 : w22.cell? ⟨go5, (x5_1 : Int).toNat * 7 + 1, none⟩ = some (.int .i64 ((rd_T23 y433 x5_1).f1)) := hcc10 1 _ rfl; have hx10_2 : w22.cell? ⟨go5, (x5_1 : Int).toNat * 7 + 2, none⟩ = some (.int .i64 ((rd_T23 y433 x5_1).f2)) := hcc10 2 _ rfl; have hx10_3 : w22.cell? ⟨go5, (x5_1 : Int).toNat * 7 + 3, none⟩ = some (.int .i64 ((rd_T23 y433 x5_1).f3)) := hcc10 3 _ rfl; have hx10_4 : w22.cell? ⟨go5, (x5_1 : Int).toNat * 7 + 4, none⟩ = some (.int .i64 ((rd_T23 y433 x5_1).f4)) := hcc10 4 _ rfl; have hx10_5 : w22.cell? ⟨go5, (x5_1 : Int).toNat * 7 + 5, none⟩ = some (.int .i64 ((rd_T23 y433 x5_1).f5)) := hcc10 5 _ rfl; have hx10_6 : w22.cell? ⟨go5, (x5_1 : Int).toNat * 7 + 6, none⟩ = some (.int .i64 ((rd_T23 y433 x5_1).f6)) := hcc10 6 _ rfl; have hf10_0 : w22.frozen? ⟨go5, (x5_1 : Int).toNat * 7, none⟩ = false := hfr10 0 (by decide); have hf10_1 : w22.frozen? ⟨go5, (x5_1 : Int).toNat * 7 + 1, none⟩ = false := hfr10 1 (by decide); have hf10_2 : w22.frozen? ⟨go5, (x5_1 : Int).toNat * 7 + 2, none⟩ = false := hfr10 2 (by decide); have hf10_3 : w22.frozen? ⟨go5, (x5_1 : Int).toNat * 7 + 3, none⟩ = false := hfr10 3 (by decide); have hf10_4 : w22.frozen? ⟨go5, (x5_1 : Int).toNat * 7 + 4, none⟩ = false := hfr10 4 (by decide); have hf10_5 : w22.frozen? ⟨go5, (x5_1 : Int).toNat * 7 + 5, none⟩ = false := hfr10 5 (by decide); have hf10_6 : w22.frozen? ⟨go5, (x5_1 : Int).toNat * 7 + 6, none⟩ = false := hfr10 6 (by decide); clear hcl10 hcc10 hfr10 hM10; replace p10 := eq_true p10; replace q10 := eq_true q10; have HX23 := aM (show Kd.R k23 23 w22 w0.heap.size (fun k_ => (P0_ k_ ∨ w.heap.size ≤ k_)) (.slice (some ⟨go5, 0, none⟩) x0_1.length co12) y433 from (bR HO_0)); obtain ⟨ce23, hcl23, hM23, hcc23, hfr23⟩ := Kd.R_elem HX23.out z23 (x5_1 : Int) (pI) (bH (pI : (x5_1 : Int) < ((x0_1.length : Int) : Int)) (Kd.R_reads' HO_0.out).1); obtain rfl := k23_openM hM23; have HP23 := Kd.R_seg HX23.out (x5_1 : Int) (pI) (bH (pI : (x5_1 : Int) < ((x0_1.length : Int) : Int)) (Kd.R_reads' HO_0.out).1) (seg := [.int .i64 (wrap64 ((wrap64 ((wrap64 ((wrap64 ((wrap64 (x1_1 + 1)) + 1)) + 1)) + 1)) + 1))]) (j := 5) hcl23 hcc23 (show 6 ≤ 7 from by decide) (x' := (⟨(rd_T23 y433 x5_1).f0, (rd_T23 y433 x5_1).f1, (rd_T23 y433 x5_1).f2, (rd_T23 y433 x5_1).f3, (rd_T23 y433 x5_1).f4, wrap64 ((wrap64 ((wrap64 ((wrap64 ((wrap64 (x1_1 + 1)) + 1)) + 1)) + 1)) + 1), (rd_T23 y433 x5_1).f6⟩ : S23)) (k23_mkM _ _ _ (⟨(rd_T23 y433 x5_1).f0, (rd_T23 y433 x5_1).f1, (rd_T23 y433 x5_1).f2, (rd_T23 y433 x5_1).f3, (rd_T23 y433 x5_1).f4, wrap64 ((wrap64 ((wrap64 ((wrap64 ((wrap64 (x1_1 + 1)) + 1)) + 1)) + 1)) + 1), (rd_T23 y433 x5_1).f6⟩ : S23) ) (fun _ hk => hk); have hx23_5 := hcc23 5 _ rfl; (try simp only [show (k23).sz = 7 from rfl, Nat.mul_one, Nat.add_zero] at hx23_5); have hf23_5 := hfr23 5 (by decide); (try simp only [show (k23).sz = 7 from rfl, Nat.mul_one, Nat.add_zero] at hf23_5); clear hcl23 hcc23 hfr23 hM23) | ((with_reducible refine gate_store (t := 2) (p := 51) rfl ?_); refine store_event (t := 2) (p := 51) (v := ?vo_w24) (w1 := (w22.setCell ⟨go5, (x5_1 : Int).toNat * 7 + 5, none⟩ (.int .i64 (wrap64 ((wrap64 ((wrap64 ((wrap64 ((wrap64 (x1_1 + 1)) + 1)) + 1)) + 1)) + 1))))) ?hg ?ho ?hn ?hr ?_; (case ho => rfl); (case hg => rfl); (case hn => rfl); (case hr => exact zz10); intro w24 hw; have hg : w22.grownBy w24 (some go5) := (by rw [hw]; exact HP23.2); have hp_ : Kd.R k23 23 w24 w0.heap.size (fun k_ => (P0_ k_ ∨ w.heap.size ≤ k_)) (.slice (some ⟨go5, 0, none⟩) x0_1.length co12) y434 := (by rw [hw, Ny434.out]; exact HP23.1); clear HP23; replace HB := aM ((zz51 GB5.out : Below w0.heap.size w0 w24)); replace HK := aM (Kept.of_grown (S := (fun k_ => P0_ k_)) hg bK (fun k_ e_ => (HO_0.out.1 k_ e_))); replace HO_0 := aM (hp_); clear hg hw hp_; have p11 : 0 ≤ (x5_1 : Int) := pI; have q11 : (x5_1 : Int) < ((x0_1.length : Int) : Int) := pI; obtain ⟨ce11, hcl11, hM11, hcc11, hfr11⟩ := Kd.R_elem HO_0.out z23 (x5_1 : Int) p11 q11; obtain rfl := k23_openM hM11; have hx11_0 : w24.cell? ⟨go5, (x5_1 : Int).toNat * 7, none⟩ = some (.int .i64 ((rd_T23 y434 x5_1).f0)) := hcc11 0 _ rfl; have hx11_1 : w24.cell? ⟨go5, (x5_1 : Int).toNat * 7 + 1, none⟩ = some (.int .i64 ((rd_T23 y434 x5_1).f1)) := hcc11 1 _ rfl; have hx11_2 : w24.cell? ⟨go5, (x5_1 : Int).toNat * 7 + 2, none⟩ = some (.int .i64 ((rd_T23 y434 x5_1).f2)) := hcc11 2 _ rfl; have hx11_3 : w24.cell? ⟨go5, (x5_1 : Int).toNat * 7 + 3, none⟩ = some (.int .i64 ((rd_T23 y434 x5_1).f3)) := hcc11 3 _ rfl; have hx11_4 : w24.cell? ⟨go5, (x5_1 : Int).toNat * 7 + 4, none⟩ = some (.int .i64 ((rd_T23 y434 x5_1).f4)) := hcc11 4 _ rfl; have hx11_5 : w24.cell? ⟨go5, (x5_1 : Int).toNat * 7 + 5, none⟩ = some (.int .i64 ((rd_T23 y434 x5_1).f5)) := hcc11 5 _ rfl; have hx11_6 : w24.cell? ⟨go5, (x5_1 : Int).toNat * 7 + 6, none⟩ = some (.int .i64 ((rd_T23 y434 x5_1).f6)) := hcc11 6 _ rfl; have hf11_0 : w24.frozen? ⟨go5, (x5_1 : Int).toNat * 7, none⟩ = false := hfr11 0 (by decide); have hf11_1 : w24.frozen? ⟨go5, (x5_1 : Int).toNat * 7 + 1, none⟩ = false := hfr11 1 (by decide); have hf11_2 : w24.frozen? ⟨go5, (x5_1 : Int).toNat * 7 + 2, none⟩ = false := hfr11 2 (by decide); have hf11_3 : w24.frozen? ⟨go5, (x5_1 : Int).toNat * 7 + 3, none⟩ = false := hfr11 3 (by decide); have hf11_4 : w24.frozen? ⟨go5, (x5_1 : Int).toNat * 7 + 4, none⟩ = false := hfr11 4 (by decide); have hf11_5 : w24.frozen? ⟨go5, (x5_1 : Int).toNat * 7 + 5, none⟩ = false := hfr11 5 (by decide); have hf11_6 : w24.frozen? ⟨go5, (x5_1 : Int).toNat * 7 + 6, none⟩ = false := hfr11 6 (by decide); clear hcl11 hcc11 hfr11 hM11; replace p11 := eq_true p11; replace q11 := eq_true q11; have HX25 := aM (show Kd.R k23 23 w24 w0.heap.size (fun k_ => (P0_ k_ ∨ w.heap.size ≤ k_)) (.slice (some ⟨go5, 0, none⟩) x0_1.length co12) y434 from (bR HO_0)); obtain ⟨ce25, hcl25, hM25, hcc25, hfr25⟩ := Kd.R_elem HX25.out z23 (x5_1 : Int) (pI) (bH (pI : (x5_1 : Int) < ((x0_1.length : Int) : Int)) (Kd.R_reads' HO_0.out).1); obtain rfl := k23_openM hM25; have HP25 := Kd.R_seg HX25.out (x5_1 : Int) (pI) (bH (pI : (x5_1 : Int) < ((x0_1.length : Int) : Int)) (Kd.R_reads' HO_0.out).1) (seg := [.int .i64 (wrap64 ((wrap64 ((wrap64 ((wrap64 ((wrap64 ((wrap64 (x1_1 + 1)) + 1)) + 1)) + 1)) + 1)) + 1))]) (j := 6) hcl25 hcc25 (show 7 ≤ 7 from by decide) (x' := (⟨(rd_T23 y434 x5_1).f0, (rd_T23 y434 x5_1).f1, (rd_T23 y434 x5_1).f2, (rd_T23 y434 x5_1).f3, (rd_T23 y434 x5_1).f4, (rd_T23 y434 x5_1).f5, wrap64 ((wrap64 ((wrap64 ((wrap64 ((wrap64 ((wrap64 (x1_1 + 1)) + 1)) + 1)) + 1)) + 1)) + 1)⟩ : S23)) (k23_mkM _ _ _ (⟨(rd_T23 y434 x5_1).f0, (rd_T23 y434 x5_1).f1, (rd_T23 y434 x5_1).f2, (rd_T23 y434 x5_1).f3, (rd_T23 y434 x5_1).f4, (rd_T23 y434 x5_1).f5, wrap64 ((wrap64 ((wrap64 ((wrap64 ((wrap64 ((wrap64 (x1_1 + 1)) + 1)) + 1)) + 1)) + 1)) + 1)⟩ : S23) ) (fun _ hk => hk); have hx25_6 := hcc25 6 _ rfl; (try simp only [show (k23).sz = 7 from rfl, Nat.mul_one, Nat.add_zero] at hx25_6); have hf25_6 := hfr25 6 (by decide); (try simp only [show (k23).sz = 7 from rfl, Nat.mul_one, Nat.add_zero] at hf25_6); clear hcl25 hcc25 hfr25 hM25) | ((with_reducible refine gate_store (t := 2) (p := 58) rfl ?_); refine store_event (t := 2) (p := 58) (v := ?vo_w26) (w1 := (w24.setCell ⟨go5, (x5_1 : Int).toNat * 7 + 6, none⟩ (.int .i64 (wrap64 ((wrap64 ((wrap64 ((wrap64 ((wrap64 ((wrap64 (x1_1 + 1)) + 1)) + 1)) + 1)) + 1)) + 1))))) ?hg ?ho ?hn ?hr ?_; (case ho => rfl); (case hg => rfl); (case hn => rfl); (case hr => exact zz10); intro w26 hw; have hg : w24.grownBy w26 (some go5) := (by rw [hw]; exact HP25.2); have hp_ : Kd.R k23 23 w26 w0.heap.size (fun k_ => (P0_ k_ ∨ w.heap.size ≤ k_)) (.slice (some ⟨go5, 0, none⟩) x0_1.length co12) y435 := (by rw [hw, Ny435.out]; exact HP25.1); clear HP25; replace HB := aM ((zz51 GB5.out : Below w0.heap.size w0 w26)); replace HK := aM (Kept.of_grown (S := (fun k_ => P0_ k_)) hg bK (fun k_ e_ => (HO_0.out.1 k_ e_))); replace HO_0 := aM (hp_); clear hg hw hp_))
     go_roundg k1
     case measure => have := HK1.out; omega
     case rel => exact ⟨(y435), (wrap64 ((wrap64 ((wrap64 ((wrap64 ((wrap64 ((wrap64 ((wrap64 (x1_1 + 1)) + 1)) + 1)) + 1)) + 1)) + 1)) + 1)), (wrap64 (x5_1 + 1)), bS, bS, H', ⟨by have := HK1.out; omega⟩, ⟨bR HO_0⟩, ⟨bK⟩, ⟨bB⟩⟩
    rw [if_neg c4] at H
    exact absurd H (by simp)
   rw [if_neg c3] at H
   have c3b0 : decide (x5_1 < (x0_1.length : Int)) = false := decide_eq_false c3
   clear c3
   simp only [Option.some.injEq, Prod.mk.injEq] at H
   obtain ⟨rfl, rfl⟩ := H
   (try simp only [c3b0])
   go_wp2
   go_ret
   exact ⟨bE, bR HO_0, bB, bK⟩
def laws_markPartsResult.f (k : Nat) (a0_0 : Int) (l0_1 : List (S23)) (a1 : Int) : Option (Int × (List (S23))) := (laws_markPartS.f k l0_1 a1).bind fun bt437 => (some (bt437.1, bt437.2))
set_option maxHeartbeats 8000000 in
set_option maxRecDepth 100000 in
theorem laws_markPartsResult.calls (k : Nat) (a0_0 : Int) (P0_1_ : Nat → Prop) (u9000_ : Value) (l0_1 : List (S23)) (a1 : Int) (r1 : Int) (r2 : List (S23)) (w0 w : World) (hB : Below w0.heap.size w0 w) (ho0_1 : Kd.R k23 23 w w0.heap.size P0_1_ u9000_ l0_1) (h : laws_markPartsResult.f k a0_0 l0_1 a1 = some (r1, r2)) :
  Calls Tryd.prog 33 #[.agg #[.int .i64 a0_0, u9000_], .int .i64 a1] w fun e w' => e = .returned (.int .i64 r1) ∧ Kd.R k23 23 w' w0.heap.size (fun k_ => (P0_1_ k_ ∨ w.heap.size ≤ k_)) u9000_ r2 ∧ Below w0.heap.size w0 w' ∧ Kept w w' (fun k_ => P0_1_ k_) := by
 have hu52 := Tryd.underlying52
 have HO0_1 := aM (show Kd.R k23 23 w w0.heap.size (fun k_ => (P0_1_ k_ ∨ w.heap.size ≤ k_)) u9000_ l0_1 from Kd.R_mono ho0_1 (fun k_ hk => (.inl hk)))
 have HK := aM (Kept.refl w (fun k_ => P0_1_ k_))
 have HW0 := aM hB.size
 have HB := aM hB
 clear hB
 have H : ((laws_markPartS.f k l0_1 a1).bind fun bt437 => (some (bt437.1, bt437.2))) = some (r1, r2) := h
 clear h
 replace H := Option.bind_eq_some_iff.mp H
 obtain ⟨⟨t437, t438⟩, A30, H⟩ := H
 replace H : (some (t437, t438)) = some (r1, r2) := H
 have A3 := aM A30
 clear A30
 simp only [Option.some.injEq, Prod.mk.injEq] at H
 obtain ⟨rfl, rfl⟩ := H
 obtain ⟨Ao4, co4, eo4⟩ := Kd.R_slice HO0_1.out
 subst eo4
 go_enter Tryd.func33, Tryd.ntmps33
 go_wp2_with (first | ((with_reducible refine gate_dst (N := 2) rfl ?_); refine box_event ?hg (N := 2) ?hd (cs := #[.int .i64 a0_0, .slice Ao4 l0_1.length co4]) (t := 52) ?hr ?_; (case hd => rfl); (case hg => rfl); (case hr => exact zz10); intro gb436 hg w5 hbox hb; replace HO0_1 := aM (Kd.R_below (bR HO0_1) hb); have BK436 := aM (hbox); have GW436 := aM ((by rw [hg]; exact (by first | exact HK.out.1 | exact (show Kept w _ (fun k_ => P0_1_ k_) from bK).1) : w.heap.size ≤ gb436)); replace HK := aM (Kept.below (S := (fun k_ => P0_1_ k_)) bK hb); have GE436 := aM ((zz15 : w0.heap.size ≤ gb436)); replace HB := aM (below_step bB hb); clear hb hbox hg; have hcz6_0 : w5.cell? ⟨gb436, 0, none⟩ = some (.int .i64 a0_0) := (blk_cell BK436.out 0).trans rfl; have hcz6_1 : w5.cell? ⟨gb436, 1, none⟩ = some (.slice Ao4 l0_1.length co4) := (blk_cell BK436.out 1).trans rfl; have hfz6_0 := blk_frozen BK436.out 0; have hfz6_1 := blk_frozen BK436.out 1) | ((with_reducible refine gate_callee (f := 61) rfl ?_); refine gL_ (some 8) Tryd.func61 #[.slice Ao4 l0_1.length co4, .int .i64 a1] ?_; (with_reducible refine (laws_markPartS.calls k (fun k_ => some k_ = (.slice Ao4 l0_1.length co4 : Value).ownBlock) (.slice Ao4 l0_1.length co4) l0_1 a1 t437 t438 w0 _ ?side1 ?side2 A3.out).mono ?_); (case side1 => exact zz47 GE436.out); (case side2 => exact Kd.R_tight rfl HO0_1.out); rintro e w7 ⟨rfl, hy0, hb, hkp⟩; refine ⟨_, rfl, ?_⟩; replace BK436 := aM (blk_kept (bL BK436) hkp (fun hs_ => (fun e_ => (Kd.R_ne HO0_1.out BK436.out (by decide)) e_) hs_)); replace HK := aM (Kept.then_ (S := (fun k_ => P0_1_ k_)) (zz11 GW436.out) hkp (fun k_ hs_ => (fun e_ => (HO0_1.out.1 k_ e_.symm)) hs_)); replace HO0_1 := aM (Kd.R_reok rfl hy0 (fun k_ e_ => HO0_1.out.1 k_ e_)); replace HB := aM (hb); (try clear hkp); (try clear hy0)))
 go_ret
 exact ⟨bE, bR HO0_1, bG GE436, zz11 GW436.out⟩
def laws_heldPartS.l0 : Nat → List (S23) → Int → Int → Option (Int)
 | 0, _, _, _ => none
 | k + 1, x0, x1, x5 => if x5 < (x0.length : Int) then (if 0 ≤ x5 then (if ((rd_T23 x0 x5).f0) = x1 then (if ((rd_T23 x0 x5).f1) = (wrap64 (x1 + 1)) then (if ((rd_T23 x0 x5).f2) = (wrap64 ((wrap64 (x1 + 1)) + 1)) then (if ((rd_T23 x0 x5).f3) = (wrap64 ((wrap64 ((wrap64 (x1 + 1)) + 1)) + 1)) then (if ((rd_T23 x0 x5).f4) = (wrap64 ((wrap64 ((wrap64 ((wrap64 (x1 + 1)) + 1)) + 1)) + 1)) then (if ((rd_T23 x0 x5).f5) = (wrap64 ((wrap64 ((wrap64 ((wrap64 ((wrap64 (x1 + 1)) + 1)) + 1)) + 1)) + 1)) then (if ((rd_T23 x0 x5).f6) = (wrap64 ((wrap64 ((wrap64 ((wrap64 ((wrap64 ((wrap64 (x1 + 1)) + 1)) + 1)) + 1)) + 1)) + 1)) then (laws_heldPartS.l0 k x0 (wrap64 ((wrap64 ((wrap64 ((wrap64 ((wrap64 ((wrap64 ((wrap64 (x1 + 1)) + 1)) + 1)) + 1)) + 1)) + 1)) + 1)) (wrap64 (x5 + 1))) else (some (-1))) else (some (-1))) else (some (-1))) else (some (-1))) else (some (-1))) else (some (-1))) else (some (-1))) else (none)) else (some x1)
def laws_heldPartS.f (k : Nat) (l0 : List (S23)) (a1 : Int) : Option (Int) := laws_heldPartS.l0 k l0 a1 0
set_option maxHeartbeats 8000000 in
set_option maxRecDepth 100000 in
theorem laws_heldPartS.calls (k : Nat) (A0 : Option Addr) (c0 : Nat) (l0 : List (S23)) (a1 : Int) (r : Int) (w : World) (hr0 : Kd.C k23 w A0 l0.length l0) (hc0 : l0.length ≤ c0) (h : laws_heldPartS.f k l0 a1 = some r) :
  Calls Tryd.prog 62 #[.slice A0 l0.length c0, .int .i64 a1] w fun e w' => e = .returned (.int .i64 r) ∧ Drawn0 w w' := by
 have HR0 := aM hr0
 have HC0 := aM hc0
 clear hr0 hc0
 have H : (laws_heldPartS.l0 k l0 a1 0) = some r := h
 clear h
 have H' := aM H
 clear H
 go_enter Tryd.func62, Tryd.ntmps62
 go_wp2
 go_loopg [1, 5] k (fun kq v1 v5 w' => ∃ (x1_1 : Int) (x5_1 : Int), v1 = .int .i64 x1_1 ∧ v5 = .int .i64 x5_1 ∧ Aside0 (laws_heldPartS.l0 kq l0 x1_1 x5_1 = some r) ∧ Aside0 (kq ≤ k) ∧ Drawn0 w w')
 case atStart => exact ⟨(a1), (0), bS, bS, H', ⟨Nat.le_refl _⟩, zz5⟩
 case round =>
  clear H'
  try clear p2
  obtain ⟨x1_1, x5_1, rfl, rfl, HA, HK1, ⟨m1, rfl⟩⟩ := hrel
  cases gk with
  | zero => exact absurd HA.out (by simp [laws_heldPartS.l0])
  | succ k1 =>
   have H := HA.out
   clear HA
   simp only [laws_heldPartS.l0] at H
   by_cases c3 : x5_1 < (l0.length : Int)
   ·rw [if_pos c3] at H
    have c3b0 : decide (x5_1 < (l0.length : Int)) = true := decide_eq_true c3
    clear c3
    by_cases c4 : 0 ≤ x5_1
    ·rw [if_pos c4] at H
     have c4b0 : decide (0 ≤ x5_1) = true := decide_eq_true c4
     clear c4
     have HQ_ := aM H
     clear H
     have p439 : 0 ≤ (x5_1 : Int) := pI
     have q439 : x5_1 < (l0.length : Int) := pI
     obtain ⟨ad439, e439, hx439_0, hx439_1, hx439_2, hx439_3, hx439_4, hx439_5, hx439_6⟩ := at_T23 HR0.out x5_1 p439 q439
     cases e439
     replace p439 := eq_true p439
     replace q439 := eq_true q439
     have H := HQ_.out
     clear HQ_
     by_cases c5 : ((rd_T23 l0 x5_1).f0) = x1_1
     ·rw [if_pos c5] at H
      have c5b0 : (((rd_T23 l0 x5_1).f0) == x1_1) = true := beq_iff_eq.mpr c5
      have c5b1 : (((rd_T23 l0 x5_1).f0) != x1_1) = false := bne_eq_false_iff_eq.mpr c5
      clear c5
      (try simp only [c5b0, c5b1])
      have HQ_ := aM H
      clear H
      have p440 : 0 ≤ (x5_1 : Int) := pI
      have q440 : x5_1 < (l0.length : Int) := pI
      obtain ⟨ad440, e440, hx440_0, hx440_1, hx440_2, hx440_3, hx440_4, hx440_5, hx440_6⟩ := at_T23 HR0.out x5_1 p440 q440
      obtain rfl : ad439 = ad440 := (by injection e440)
      replace p440 := eq_true p440
      replace q440 := eq_true q440
      have H := HQ_.out
      clear HQ_
      by_cases c6 : ((rd_T23 l0 x5_1).f1) = (wrap64 (x1_1 + 1))
      ·rw [if_pos c6] at H
       have c6b0 : (((rd_T23 l0 x5_1).f1) == (wrap64 (x1_1 + 1))) = true := beq_iff_eq.mpr c6
       have c6b1 : (((rd_T23 l0 x5_1).f1) != (wrap64 (x1_1 + 1))) = false := bne_eq_false_iff_eq.mpr c6
       clear c6
       (try simp only [c6b0, c6b1])
       have HQ_ := aM H
       clear H
       have p441 : 0 ≤ (x5_1 : Int) := pI
       have q441 : x5_1 < (l0.length : Int) := pI
       obtain ⟨ad441, e441, hx441_0, hx441_1, hx441_2, hx441_3, hx441_4, hx441_5, hx441_6⟩ := at_T23 HR0.out x5_1 p441 q441
       obtain rfl : ad439 = ad441 := (by injection e441)
       replace p441 := eq_true p441
       replace q441 := eq_true q441
       have H := HQ_.out
       clear HQ_
       by_cases c7 : ((rd_T23 l0 x5_1).f2) = (wrap64 ((wrap64 (x1_1 + 1)) + 1))
       ·rw [if_pos c7] at H
        have c7b0 : (((rd_T23 l0 x5_1).f2) == (wrap64 ((wrap64 (x1_1 + 1)) + 1))) = true := beq_iff_eq.mpr c7
        have c7b1 : (((rd_T23 l0 x5_1).f2) != (wrap64 ((wrap64 (x1_1 + 1)) + 1))) = false := bne_eq_false_iff_eq.mpr c7
        clear c7
        (try simp only [c7b0, c7b1])
        have HQ_ := aM H
        clear H
        have p442 : 0 ≤ (x5_1 : Int) := pI
        have q442 : x5_1 < (l0.length : Int) := pI
        obtain ⟨ad442, e442, hx442_0, hx442_1, hx442_2, hx442_3, hx442_4, hx442_5, hx442_6⟩ := at_T23 HR0.out x5_1 p442 q442
        obtain rfl : ad439 = ad442 := (by injection e442)
        replace p442 := eq_true p442
        replace q442 := eq_true q442
        have H := HQ_.out
        clear HQ_
        by_cases c8 : ((rd_T23 l0 x5_1).f3) = (wrap64 ((wrap64 ((wrap64 (x1_1 + 1)) + 1)) + 1))
        ·rw [if_pos c8] at H
         have c8b0 : (((rd_T23 l0 x5_1).f3) == (wrap64 ((wrap64 ((wrap64 (x1_1 + 1)) + 1)) + 1))) = true := beq_iff_eq.mpr c8
         have c8b1 : (((rd_T23 l0 x5_1).f3) != (wrap64 ((wrap64 ((wrap64 (x1_1 + 1)) + 1)) + 1))) = false := bne_eq_false_iff_eq.mpr c8
         clear c8
         (try simp only [c8b0, c8b1])
         have HQ_ := aM H
         clear H
         have p443 : 0 ≤ (x5_1 : Int) := pI
         have q443 : x5_1 < (l0.length : Int) := pI
         obtain ⟨ad443, e443, hx443_0, hx443_1, hx443_2, hx443_3, hx443_4, hx443_5, hx443_6⟩ := at_T23 HR0.out x5_1 p443 q443
         obtain rfl : ad439 = ad443 := (by injection e443)
         replace p443 := eq_true p443
         replace q443 := eq_true q443
         have H := HQ_.out
         clear HQ_
         by_cases c9 : ((rd_T23 l0 x5_1).f4) = (wrap64 ((wrap64 ((wrap64 ((wrap64 (x1_1 + 1)) + 1)) + 1)) + 1))
         ·rw [if_pos c9] at H
          have c9b0 : (((rd_T23 l0 x5_1).f4) == (wrap64 ((wrap64 ((wrap64 ((wrap64 (x1_1 + 1)) + 1)) + 1)) + 1))) = true := beq_iff_eq.mpr c9
          have c9b1 : (((rd_T23 l0 x5_1).f4) != (wrap64 ((wrap64 ((wrap64 ((wrap64 (x1_1 + 1)) + 1)) + 1)) + 1))) = false := bne_eq_false_iff_eq.mpr c9
          clear c9
          (try simp only [c9b0, c9b1])
          have HQ_ := aM H
          clear H
          have p444 : 0 ≤ (x5_1 : Int) := pI
          have q444 : x5_1 < (l0.length : Int) := pI
          obtain ⟨ad444, e444, hx444_0, hx444_1, hx444_2, hx444_3, hx444_4, hx444_5, hx444_6⟩ := at_T23 HR0.out x5_1 p444 q444
          obtain rfl : ad439 = ad444 := (by injection e444)
          replace p444 := eq_true p444
          replace q444 := eq_true q444
          have H := HQ_.out
          clear HQ_
          by_cases c10 : ((rd_T23 l0 x5_1).f5) = (wrap64 ((wrap64 ((wrap64 ((wrap64 ((wrap64 (x1_1 + 1)) + 1)) + 1)) + 1)) + 1))
          ·rw [if_pos c10] at H
           have c10b0 : (((rd_T23 l0 x5_1).f5) == (wrap64 ((wrap64 ((wrap64 ((wrap64 ((wrap64 (x1_1 + 1)) + 1)) + 1)) + 1)) + 1))) = true := beq_iff_eq.mpr c10
           have c10b1 : (((rd_T23 l0 x5_1).f5) != (wrap64 ((wrap64 ((wrap64 ((wrap64 ((wrap64 (x1_1 + 1)) + 1)) + 1)) + 1)) + 1))) = false := bne_eq_false_iff_eq.mpr c10
           clear c10
           (try simp only [c10b0, c10b1])
           have HQ_ := aM H
           clear H
           have p445 : 0 ≤ (x5_1 : Int) := pI
           have q445 : x5_1 < (l0.length : Int) := pI
           obtain ⟨ad445, e445, hx445_0, hx445_1, hx445_2, hx445_3, hx445_4, hx445_5, hx445_6⟩ := at_T23 HR0.out x5_1 p445 q445
           obtain rfl : ad439 = ad445 := (by injection e445)
           replace p445 := eq_true p445
           replace q445 := eq_true q445
           have H := HQ_.out
           clear HQ_
           by_cases c11 : ((rd_T23 l0 x5_1).f6) = (wrap64 ((wrap64 ((wrap64 ((wrap64 ((wrap64 ((wrap64 (x1_1 + 1)) + 1)) + 1)) + 1)) + 1)) + 1))
           ·rw [if_pos c11] at H
            have c11b0 : (((rd_T23 l0 x5_1).f6) == (wrap64 ((wrap64 ((wrap64 ((wrap64 ((wrap64 ((wrap64 (x1_1 + 1)) + 1)) + 1)) + 1)) + 1)) + 1))) = true := beq_iff_eq.mpr c11
            have c11b1 : (((rd_T23 l0 x5_1).f6) != (wrap64 ((wrap64 ((wrap64 ((wrap64 ((wrap64 ((wrap64 (x1_1 + 1)) + 1)) + 1)) + 1)) + 1)) + 1))) = false := bne_eq_false_iff_eq.mpr c11
            clear c11
            have H' := aM H
            clear H
            (try simp only [c11b0, c11b1])
            go_wp2
            go_roundg k1
            case measure => have := HK1.out; omega
            case rel => exact ⟨(wrap64 ((wrap64 ((wrap64 ((wrap64 ((wrap64 ((wrap64 ((wrap64 (x1_1 + 1)) + 1)) + 1)) + 1)) + 1)) + 1)) + 1)), (wrap64 (x5_1 + 1)), bS, bS, H', ⟨by have := HK1.out; omega⟩, zz5⟩
           rw [if_neg c11] at H
           have c11b0 : (((rd_T23 l0 x5_1).f6) == (wrap64 ((wrap64 ((wrap64 ((wrap64 ((wrap64 ((wrap64 (x1_1 + 1)) + 1)) + 1)) + 1)) + 1)) + 1))) = false := beq_eq_false_iff_ne.mpr c11
           have c11b1 : (((rd_T23 l0 x5_1).f6) != (wrap64 ((wrap64 ((wrap64 ((wrap64 ((wrap64 ((wrap64 (x1_1 + 1)) + 1)) + 1)) + 1)) + 1)) + 1))) = true := bne_iff_ne.mpr c11
           obtain rfl := Option.some.inj H
           (try simp only [c11b0, c11b1])
           go_wp2
           go_ret
           exact ⟨bS, zz5⟩
          rw [if_neg c10] at H
          have c10b0 : (((rd_T23 l0 x5_1).f5) == (wrap64 ((wrap64 ((wrap64 ((wrap64 ((wrap64 (x1_1 + 1)) + 1)) + 1)) + 1)) + 1))) = false := beq_eq_false_iff_ne.mpr c10
          have c10b1 : (((rd_T23 l0 x5_1).f5) != (wrap64 ((wrap64 ((wrap64 ((wrap64 ((wrap64 (x1_1 + 1)) + 1)) + 1)) + 1)) + 1))) = true := bne_iff_ne.mpr c10
          obtain rfl := Option.some.inj H
          (try simp only [c10b0, c10b1])
          go_wp2
          go_ret
          exact ⟨bS, zz5⟩
         rw [if_neg c9] at H
         have c9b0 : (((rd_T23 l0 x5_1).f4) == (wrap64 ((wrap64 ((wrap64 ((wrap64 (x1_1 + 1)) + 1)) + 1)) + 1))) = false := beq_eq_false_iff_ne.mpr c9
         have c9b1 : (((rd_T23 l0 x5_1).f4) != (wrap64 ((wrap64 ((wrap64 ((wrap64 (x1_1 + 1)) + 1)) + 1)) + 1))) = true := bne_iff_ne.mpr c9
         obtain rfl := Option.some.inj H
         (try simp only [c9b0, c9b1])
         go_wp2
         go_ret
         exact ⟨bS, zz5⟩
        rw [if_neg c8] at H
        have c8b0 : (((rd_T23 l0 x5_1).f3) == (wrap64 ((wrap64 ((wrap64 (x1_1 + 1)) + 1)) + 1))) = false := beq_eq_false_iff_ne.mpr c8
        have c8b1 : (((rd_T23 l0 x5_1).f3) != (wrap64 ((wrap64 ((wrap64 (x1_1 + 1)) + 1)) + 1))) = true := bne_iff_ne.mpr c8
        obtain rfl := Option.some.inj H
        (try simp only [c8b0, c8b1])
        go_wp2
        go_ret
        exact ⟨bS, zz5⟩
       rw [if_neg c7] at H
       have c7b0 : (((rd_T23 l0 x5_1).f2) == (wrap64 ((wrap64 (x1_1 + 1)) + 1))) = false := beq_eq_false_iff_ne.mpr c7
       have c7b1 : (((rd_T23 l0 x5_1).f2) != (wrap64 ((wrap64 (x1_1 + 1)) + 1))) = true := bne_iff_ne.mpr c7
       obtain rfl := Option.some.inj H
       (try simp only [c7b0, c7b1])
       go_wp2
       go_ret
       exact ⟨bS, zz5⟩
      rw [if_neg c6] at H
      have c6b0 : (((rd_T23 l0 x5_1).f1) == (wrap64 (x1_1 + 1))) = false := beq_eq_false_iff_ne.mpr c6
      have c6b1 : (((rd_T23 l0 x5_1).f1) != (wrap64 (x1_1 + 1))) = true := bne_iff_ne.mpr c6
      obtain rfl := Option.some.inj H
      (try simp only [c6b0, c6b1])
      go_wp2
      go_ret
      exact ⟨bS, zz5⟩
     rw [if_neg c5] at H
     have c5b0 : (((rd_T23 l0 x5_1).f0) == x1_1) = false := beq_eq_false_iff_ne.mpr c5
     have c5b1 : (((rd_T23 l0 x5_1).f0) != x1_1) = true := bne_iff_ne.mpr c5
     obtain rfl := Option.some.inj H
     (try simp only [c5b0, c5b1])
     go_wp2
     go_ret
     exact ⟨bS, zz5⟩
    rw [if_neg c4] at H
    exact absurd H (by simp)
   rw [if_neg c3] at H
   have c3b0 : decide (x5_1 < (l0.length : Int)) = false := decide_eq_false c3
   clear c3
   obtain rfl := Option.some.inj H
   go_wp2
   go_ret
   exact ⟨bS, zz5⟩
def laws_heldPartsResult.f (k : Nat) (a0_0 : Int) (l0_1 : List (S23)) (a1 : Int) : Option (Int) := (laws_heldPartS.f k l0_1 a1).bind fun t447 => (if t447 < 0 then (some (-1)) else (some t447))
set_option maxHeartbeats 8000000 in
set_option maxRecDepth 100000 in
theorem laws_heldPartsResult.calls (k : Nat) (a0_0 : Int) (A0_1 : Option Addr) (c0_1 : Nat) (l0_1 : List (S23)) (a1 : Int) (r : Int) (w : World) (hr0_1 : Kd.C k23 w A0_1 l0_1.length l0_1) (hc0_1 : l0_1.length ≤ c0_1) (h : laws_heldPartsResult.f k a0_0 l0_1 a1 = some r) :
  Calls Tryd.prog 34 #[.agg #[.int .i64 a0_0, .slice A0_1 l0_1.length c0_1], .int .i64 a1] w fun e w' => e = .returned (.int .i64 r) ∧ Below w.heap.size w w' := by
 have hu52 := Tryd.underlying52
 have HR0_1 := aM hr0_1
 have HC0_1 := aM hc0_1
 clear hr0_1 hc0_1
 have HB := aM (Below.refl w.heap.size w)
 have H : ((laws_heldPartS.f k l0_1 a1).bind fun t447 => (if t447 < 0 then (some (-1)) else (some t447))) = some r := h
 clear h
 replace H := Option.bind_eq_some_iff.mp H
 obtain ⟨t447, A30, H⟩ := H
 replace H : (if t447 < 0 then (some (-1)) else (some t447)) = some r := H
 have A3 := aM A30
 clear A30
 by_cases c4 : t447 < 0
 ·rw [if_pos c4] at H
  have c4b0 : decide (t447 < 0) = true := decide_eq_true c4
  clear c4
  obtain rfl := Option.some.inj H
  go_enter Tryd.func34, Tryd.ntmps34
  go_wp2_with (first | ((with_reducible refine gate_dst (N := 2) rfl ?_); refine box_event ?hg (N := 2) ?hd (cs := #[.int .i64 a0_0, .slice A0_1 l0_1.length c0_1]) (t := 52) ?hr ?_; (case hd => rfl); (case hg => rfl); (case hr => exact zz10); intro gb446 hg w5 hbox hb; have BK446 := aM (hbox); have GW446 := aM ((zz15 : w.heap.size ≤ gb446)); have GE446 := aM ((zz15 : w.heap.size ≤ gb446)); replace HB := aM (below_step bB hb); clear hb hbox hg; have hcz6_0 : w5.cell? ⟨gb446, 0, none⟩ = some (.int .i64 a0_0) := (blk_cell BK446.out 0).trans rfl; have hcz6_1 : w5.cell? ⟨gb446, 1, none⟩ = some (.slice A0_1 l0_1.length c0_1) := (blk_cell BK446.out 1).trans rfl; have hfz6_0 := blk_frozen BK446.out 0; have hfz6_1 := blk_frozen BK446.out 1) | ((with_reducible refine gate_callee (f := 62) rfl ?_); refine gL_ (some 8) Tryd.func62 #[.slice A0_1 l0_1.length c0_1, .int .i64 a1] ?_; (with_reducible refine (laws_heldPartS.calls k _ _ l0_1 a1 t447 _ ?side1 ?side2 A3.out).mono ?_); (case side1 => exact zz6 HR0_1.out); (case side2 => exact HC0_1.out); rintro e w' ⟨rfl, ⟨nd, rfl⟩⟩; refine ⟨_, rfl, ?_⟩))
  go_ret
  exact ⟨bE, bG GE446⟩
 rw [if_neg c4] at H
 have c4b0 : decide (t447 < 0) = false := decide_eq_false c4
 clear c4
 obtain rfl := Option.some.inj H
 go_enter Tryd.func34, Tryd.ntmps34
 go_wp2_with (first | ((with_reducible refine gate_dst (N := 2) rfl ?_); refine box_event ?hg (N := 2) ?hd (cs := #[.int .i64 a0_0, .slice A0_1 l0_1.length c0_1]) (t := 52) ?hr ?_; (case hd => rfl); (case hg => rfl); (case hr => exact zz10); intro gb446 hg w7 hbox hb; have BK446 := aM (hbox); have GW446 := aM ((zz15 : w.heap.size ≤ gb446)); have GE446 := aM ((zz15 : w.heap.size ≤ gb446)); replace HB := aM (below_step bB hb); clear hb hbox hg; have hcz8_0 : w7.cell? ⟨gb446, 0, none⟩ = some (.int .i64 a0_0) := (blk_cell BK446.out 0).trans rfl; have hcz8_1 : w7.cell? ⟨gb446, 1, none⟩ = some (.slice A0_1 l0_1.length c0_1) := (blk_cell BK446.out 1).trans rfl; have hfz8_0 := blk_frozen BK446.out 0; have hfz8_1 := blk_frozen BK446.out 1) | ((with_reducible refine gate_callee (f := 62) rfl ?_); refine gL_ (some 8) Tryd.func62 #[.slice A0_1 l0_1.length c0_1, .int .i64 a1] ?_; (with_reducible refine (laws_heldPartS.calls k _ _ l0_1 a1 t447 _ ?side1 ?side2 A3.out).mono ?_); (case side1 => exact zz6 HR0_1.out); (case side2 => exact HC0_1.out); rintro e w' ⟨rfl, ⟨nd, rfl⟩⟩; refine ⟨_, rfl, ?_⟩))
 go_ret
 exact ⟨bE, bG GE446⟩
end Go.Proofs.YtecpanfndodjgaaDoor.PParseParts
