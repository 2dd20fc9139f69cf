/- Part of the proof; words that it uses. -/
import Derived.Test.YtecpanfndodjgaaDoorPPartAtx0
import Derived.Test.YtecpanfndodjgaaDoorPPartAtx1
import Derived.Test.YtecpanfndodjgaaDoorPPartAtx5
import Derived.Test.YtecpanfndodjgaaDoorPPartAtx6
import Derived.Test.YtecpanfndodjgaaDoorPPartAtx9
namespace Go.Proofs.YtecpanfndodjgaaDoor.PPartAt
open Go.RowKit Go.Proofs.YtecpanfndodjgaaDoorW.PrintWords Go.Proofs.YtecpanfndodjgaaDoorW.PrintLast Go.Proofs.YtecpanfndodjgaaDoorW.PrintMore
attribute [local go_sem] max2_int max_two
set_option linter.unusedVariables false
set_option linter.unusedSimpArgs false
def impl_length_byte.f (l0 : List Int) : Option (Int) := some (l0.length : Int)
set_option maxHeartbeats 8000000 in
set_option maxRecDepth 100000 in
theorem impl_length_byte.calls (A0 : Option Addr) (c0 : Nat) (l0 : List Int) (r : Int) (w : World) (hr0 : Kd.C (Kd.int .u8) w A0 l0.length l0) (hc0 : l0.length ≤ c0) (h : impl_length_byte.f l0 = some r) :
  Calls Tryd.prog 87 #[.slice A0 l0.length c0] w fun e w' => e = .returned (.int .i64 r) ∧ Drawn0 w w' := by
 have HR0 := aM hr0
 have HC0 := aM hc0
 clear hr0 hc0
 have H : (some (l0.length : Int)) = some r := h
 clear h
 obtain rfl := Option.some.inj H
 go_enter Tryd.func87, Tryd.ntmps87
 go_wp2
 go_ret
 exact ⟨bS, zz5⟩
def impl_partsOf.f (k : Nat) (l0 : List Int) : Option ((List (S23))) := (impl_length_byte.f l0).bind fun t421 => ((impl_parser_part.f k l0 0 t421 (-1) 0 0 ([] : List (S23))).bind fun t422 => (some t422))
set_option maxHeartbeats 8000000 in
set_option maxRecDepth 100000 in
theorem impl_partsOf.calls (k : Nat) (A0 : Option Addr) (c0 : Nat) (l0 : List Int) (r : List (S23)) (w : World) (hr0 : Kd.C (Kd.int .u8) w A0 l0.length l0) (hc0 : l0.length ≤ c0) (h : impl_partsOf.f k l0 = some r) :
  Calls Tryd.prog 53 #[.slice A0 l0.length c0] w fun e w' => ∃ v0_ : Value, e = .returned (v0_) ∧ Kd.R k23 23 w' w.heap.size (fun _ => True) v0_ r ∧ Below w.heap.size w w' := by
 have hu98 := Tryd.underlying98
 have HR0 := aM hr0
 have HC0 := aM hc0
 clear hr0 hc0
 have HB := aM (Below.refl w.heap.size w)
 have H : ((impl_length_byte.f l0).bind fun t421 => ((impl_parser_part.f k l0 0 t421 (-1) 0 0 ([] : List (S23))).bind fun t422 => (some t422))) = some r := h
 clear h
 replace H := Option.bind_eq_some_iff.mp H
 obtain ⟨t421, A20, H⟩ := H
 replace H : ((impl_parser_part.f k l0 0 t421 (-1) 0 0 ([] : List (S23))).bind fun t422 => (some t422)) = some r := H
 have A2 := aM A20
 clear A20
 replace H := Option.bind_eq_some_iff.mp H
 obtain ⟨t422, A30, H⟩ := H
 replace H : (some t422) = some r := H
 have A3 := aM A30
 clear A30
 obtain rfl := Option.some.inj H
 go_enter Tryd.func53, Tryd.ntmps53
 go_wp2_with (first | ((with_reducible refine gate_dst (N := 6) rfl ?_); refine box_event ?hg (N := 6) ?hd (cs := #[.slice A0 l0.length c0, .slice none 0 0]) (t := 98) ?hr ?_; (case hd => rfl); (case hg => rfl); (case hr => exact zz13); intro gb420 hg w4 hbox hb; have BK420 := aM (hbox); have GW420 := aM ((zz18 : w.heap.size ≤ gb420)); have GE420 := aM ((zz18 : w.heap.size ≤ gb420)); replace HB := aM (below_step bB hb); clear hb hbox hg) | ((with_reducible refine gate_callee (f := 87) rfl ?_); refine gL_ (some 9) Tryd.func87 #[.slice A0 l0.length c0] ?_; (with_reducible refine (impl_length_byte.calls _ _ l0 t421 _ ?side1 ?side2 A2.out).mono ?_); (case side1 => exact zz6 HR0.out); (case side2 => exact HC0.out); rintro e w' ⟨rfl, ⟨nd, rfl⟩⟩; refine ⟨_, rfl, ?_⟩; (try (rw [drewN_self w4]; generalize hq_ : World.drewN w4 _ = w4; have n0_ : Aside0 (w4.heap[gb420]? = some (.cells #[.slice A0 l0.length c0, .slice none 0 0] 98 (0, 0))) := ⟨by rw [← hq_]; exact (bL BK420)⟩; have n1_ : Aside0 (Below w.heap.size w w4) := ⟨by rw [← hq_]; exact (bG GE420)⟩; clear BK420 HB hq_; have BK420 := n0_; have HB := n1_; clear n0_ n1_)); have hcz5_0 : w4.cell? ⟨gb420, 0, none⟩ = some (.slice A0 l0.length c0) := (blk_cell BK420.out 0).trans rfl; have hcz5_1 : w4.cell? ⟨gb420, 1, none⟩ = some (.slice none 0 0) := (blk_cell BK420.out 1).trans rfl; have hfz5_0 := blk_frozen BK420.out 0; have hfz5_1 := blk_frozen BK420.out 1) | ((with_reducible refine gate_callee (f := 86) rfl ?_); refine gL_ (some 10) Tryd.func86 #[.pointer (some ⟨gb420, 0, none⟩), .int .i64 0, .int .i64 t421, .int .i64 (-1), .int .i64 0, .int .i64 0] ?_; (refine (impl_parser_part.calls k A0 c0 l0 0 t421 (-1) 0 0 (fun k_ => some k_ = (.slice none 0 0 : Value).ownBlock ∨ k_ = gb420) (.slice none 0 0) ([] : List (S23)) t422 w _ gb420 ?sidg GE420.out (.inr rfl) ?side1 ?side2 ?side3 ?side4 A3.out).mono ?_); (case sidg => (with_reducible repeat (first | refine blk_drewN ?_ _ | refine blk_drew ?_ | refine blk_alloc ?_ _)); exact BK420.out); (case side1 => repeat (first | (with_reducible first | exact HB.out | apply below_alloc | apply pw_below_drewN | apply below_drew1 | refine below_set ?_ GE420.out) | exact HB.out)); (case side2 => exact Kd.C_kept_came (Kd.heap_int .u8) HR0.out (bG GE420) (fun k_ hs_ => hs_.elim (fun hs_ => (fun e_ => by simp [Value.ownBlock] at e_) hs_) (fun e_ => by rw [e_]; exact GW420.out))); (case side3 => exact HC0.out); (case side4 => exact Kd.R_mono (Kd.R_nil _ _ _ _ _) (fun k_ hk_ => .inl hk_)); rintro e w6 ⟨rfl, v423, hbk_, ho0, hb, hkp⟩; refine ⟨_, rfl, ?_⟩; replace BK420 := aM hbk_; have HO424 := aM (Kd.R_mono (ok' := fun k_ => True) ho0 (fun k_ hk_ => trivial)); replace HB := aM (hb); (try clear hkp); (try clear ho0); obtain ⟨Ao7, co7, eo7⟩ := Kd.R_slice HO424.out; subst eo7; have hcz8_0 : w6.cell? ⟨gb420, 0, none⟩ = some (.slice A0 l0.length c0) := (blk_cell BK420.out 0).trans rfl; have hcz8_1 : w6.cell? ⟨gb420, 1, none⟩ = some (.slice Ao7 t422.length co7) := (blk_cell BK420.out 1).trans rfl; have hfz8_0 := blk_frozen BK420.out 0; have hfz8_1 := blk_frozen BK420.out 1))
 go_ret
 exact ⟨_, bE, bR HO424, bG GE420⟩
def impl_Part_54.l0 : Nat → List (S23) → Int → Int → Int → Option Int
  | 0, _, _, _, _ => none
  | k + 1, x0, a1, a2, x8 => if x8 < (x0.length : Int) then (if 0 ≤ x8 then (if (rd_T23 x0 x8).f5 = a1 then (if (rd_T23 x0 x8).f6 = a2 then some x8 else impl_Part_54.l0 k x0 a1 a2 (wrap64 (x8 + 1))) else impl_Part_54.l0 k x0 a1 a2 (wrap64 (x8 + 1))) else none) else some (-1)
def impl_Part_54.f (k : Nat) (l0 : List (S23)) (a1 : Int) (a2 : Int) : Option Int := impl_Part_54.l0 k l0 a1 a2 0
set_option maxHeartbeats 8000000 in
set_option maxRecDepth 100000 in
theorem impl_Part_54.pred (g5 g8 : Nat) (a1 a2 : Int) (x : S23) (W : World) (h5 : W.cell? ⟨g5, 0, none⟩ = some (.int .i64 a1)) (h8 : W.cell? ⟨g8, 0, none⟩ = some (.int .i64 a2)) :
    Calls Tryd.prog 55 #[.agg #[.int .i64 x.f0, .int .i64 x.f1, .int .i64 x.f2, .int .i64 x.f3, .int .i64 x.f4, .int .i64 x.f5, .int .i64 x.f6], .pointer (some ⟨g5, 0, none⟩), .pointer (some ⟨g8, 0, none⟩)] W fun e w' => e = .returned (.bool (decide (x.f5 = a1) && decide (x.f6 = a2))) ∧ Below W.heap.size W w' := by
  have b5 : g5 < W.heap.size := World.block_lt_of_cell? _ _ h5
  have b8 : g8 < W.heap.size := World.block_lt_of_cell? _ _ h8
  have n5 : g5 ≠ W.heap.size := by omega
  have n8 : g8 ≠ W.heap.size := by omega
  have HB := aM (Below.refl W.heap.size W)
  by_cases c5 : x.f5 = a1
  · have c5b0 : (x.f5 == a1) = true := beq_iff_eq.mpr c5
    by_cases c6 : x.f6 = a2
    · have c6b0 : (x.f6 == a2) = true := beq_iff_eq.mpr c6
      rw [decide_eq_true c5, decide_eq_true c6]
      clear c5 c6
      go_enter Tryd.func55, Tryd.ntmps55
      go_wp2
      go_ret
      exact ⟨by simp_all, zz28⟩
    · have c6b0 : (x.f6 == a2) = false := beq_eq_false_iff_ne.mpr c6
      rw [decide_eq_true c5, decide_eq_false c6]
      clear c5 c6
      go_enter Tryd.func55, Tryd.ntmps55
      go_wp2
      go_ret
      exact ⟨by simp_all, zz28⟩
  · have c5b0 : (x.f5 == a1) = false := beq_eq_false_iff_ne.mpr c5
    rw [decide_eq_false c5]
    clear c5
    go_enter Tryd.func55, Tryd.ntmps55
    go_wp2
    go_ret
    exact ⟨by simp_all, zz28⟩
set_option maxHeartbeats 8000000 in
set_option maxRecDepth 100000 in
theorem impl_Part_54.calls (k : Nat) (A0 : Option Addr) (c0 : Nat) (l0 : List (S23)) (a1 : Int) (a2 : Int) (r : Int) (w : World) (g5 g8 : Nat) (h5 : w.cell? ⟨g5, 0, none⟩ = some (.int .i64 a1)) (h8 : w.cell? ⟨g8, 0, none⟩ = some (.int .i64 a2)) (hr0 : Kd.C k23 w A0 l0.length l0) (hc0 : l0.length ≤ c0) (h : impl_Part_54.f k l0 a1 a2 = some r) :
    Calls Tryd.prog 54 #[.slice A0 l0.length c0, .func (.func 55) #[] #[.pointer (some ⟨g5, 0, none⟩), .pointer (some ⟨g8, 0, none⟩)]] w fun e w' => e = .returned (.int .i64 r) ∧ Below w.heap.size w w' := by
  have eg : ∀ args w, (callFunc 55 args).run Tryd.prog w = .ok (.enter 55 args) w := enters_of Tryd.func55 (by kernel_rfl) rfl
  have HR0 := aM hr0
  have HC0 := aM hc0
  have H5 := aM h5
  have H8 := aM h8
  clear hr0 hc0 h5 h8
  have HB := aM (Below.refl w.heap.size w)
  have H' := aM (show impl_Part_54.l0 k l0 a1 a2 0 = some r from h)
  clear h
  go_enter Tryd.func54, Tryd.ntmps54
  go_wp2
  go_loopg [5, 8] k (fun kq v5 v8 w' => ∃ (x8 : Int), v8 = .int .i64 x8 ∧ Aside0 (impl_Part_54.l0 kq l0 a1 a2 x8 = some r) ∧ Aside0 (kq ≤ k) ∧ Aside0 (Below w.heap.size w w'))
  case atStart => exact ⟨0, rfl, H', ⟨Nat.le_refl _⟩, ⟨zz28⟩⟩
  case round =>
    clear H'
    obtain ⟨x8, rfl, HA, HK1, HB⟩ := hrel
    cases gk with
    | zero => exact absurd HA.out (by simp [impl_Part_54.l0])
    | succ k1 =>
      have H := HA.out
      clear HA
      simp only [impl_Part_54.l0] at H
      by_cases c3 : x8 < (l0.length : Int)
      · rw [if_pos c3] at H
        have c3b0 : decide (x8 < (l0.length : Int)) = true := decide_eq_true c3
        by_cases c4 : 0 ≤ x8
        · rw [if_pos c4] at H
          have c4b0 : decide (0 ≤ x8) = true := decide_eq_true c4
          obtain ⟨ad, e417, hx0, hx1, hx2, hx3, hx4, hx5, hx6⟩ := at_T23 (Kd.C_below HR0.out HB.out) x8 c4 c3
          cases e417
          have hcall := impl_Part_54.pred g5 g8 a1 a2 (rd_T23 l0 x8) wr ((HB.out.cell (World.block_lt_of_cell? _ _ H5.out)).trans H5.out) ((HB.out.cell (World.block_lt_of_cell? _ _ H8.out)).trans H8.out)
          replace c3 := eq_true c3
          replace c4 := eq_true c4
          by_cases c5 : (rd_T23 l0 x8).f5 = a1 ∧ (rd_T23 l0 x8).f6 = a2
          · rw [if_pos c5.1, if_pos c5.2] at H
            obtain rfl := Option.some.inj H
            rw [decide_eq_true c5.1, decide_eq_true c5.2] at hcall
            clear c5
            go_wp2_with (go_at_fn 55; refine hcall.mono ?_; rintro e w' ⟨rfl, hb'⟩; have n0_ := aM (below_step HB.out hb'); clear HB; have HB := n0_; clear n0_ hb')
            go_ret
            exact ⟨rfl, zz28⟩
          · have hb : (decide ((rd_T23 l0 x8).f5 = a1) && decide ((rd_T23 l0 x8).f6 = a2)) = false := by
              rw [Bool.and_eq_false_iff]
              by_cases d : (rd_T23 l0 x8).f5 = a1
              · exact .inr (decide_eq_false (fun q => c5 ⟨d, q⟩))
              · exact .inl (decide_eq_false d)
            have H2 : impl_Part_54.l0 k1 l0 a1 a2 (wrap64 (x8 + 1)) = some r := by
              by_cases d : (rd_T23 l0 x8).f5 = a1
              · rw [if_pos d, if_neg (fun q => c5 ⟨d, q⟩)] at H; exact H
              · rw [if_neg d] at H; exact H
            have H' := aM H2
            clear H2 H c5
            rw [hb] at hcall
            clear hb
            go_wp2_with (go_at_fn 55; refine hcall.mono ?_; rintro e w' ⟨rfl, hb'⟩; have n0_ := aM (below_step HB.out hb'); clear HB; have HB := n0_; clear n0_ hb')
            go_roundg k1
            case measure => have := HK1.out; omega
            case rel => exact ⟨(wrap64 (x8 + 1)), rfl, H', ⟨by have := HK1.out; omega⟩, ⟨zz28⟩⟩
        · rw [if_neg c4] at H
          exact absurd H (by simp)
      · rw [if_neg c3] at H
        have c3b0 : decide (x8 < (l0.length : Int)) = false := decide_eq_false c3
        obtain rfl := Option.some.inj H
        go_wp2
        go_ret
        exact ⟨rfl, zz28⟩
def impl_PartAt.l0 : Nat → List (S23) → List Int → Int → Int → Int → Option (Int × Int)
 | 0, _, _, _, _, _ => none
 | k + 1, x6, x15, x16, x17, x431000 => if x17 < x16 then (if 0 ≤ x17 then (if x17 < (x15.length : Int) then ((impl_Part_54.f k x6 x431000 (rd x15 x17)).bind fun t433 => (if t433 < 0 then (some (4, 0)) else (impl_PartAt.l0 k x6 x15 x16 (wrap64 (x17 + 1)) t433))) else (none)) else (none)) else (some (0, x431000))
def impl_PartAt.f (k : Nat) (l0 : List Int) (l1 : List Int) : Option (Int × Int) := if (l0.length : Int) > 400 then (some (2, 0)) else ((impl_partsOf.f k l0).bind fun t427 => (impl_PartAt.l0 k t427 l1 (l1.length : Int) 0 0))
set_option maxHeartbeats 8000000 in
set_option maxRecDepth 100000 in
theorem impl_PartAt.calls (k : Nat) (A0 : Option Addr) (c0 : Nat) (l0 : List Int) (A1 : Option Addr) (c1 : Nat) (l1 : List Int) (r1 : Int) (r2 : Int) (w : World) (hr0 : Kd.C (Kd.int .u8) w A0 l0.length l0) (hc0 : l0.length ≤ c0) (hr1 : Kd.C (Kd.int .i64) w A1 l1.length l1) (hc1 : l1.length ≤ c1) (h : impl_PartAt.f k l0 l1 = some (r1, r2)) :
  Calls Tryd.prog 22 #[.slice A0 l0.length c0, .slice A1 l1.length c1] w fun e w' => e = .returned (.agg #[.int .i64 r1, .int .i64 r2]) ∧ Below w.heap.size w w' := by
 have hu39 := Tryd.underlying39
 have HR0 := aM hr0
 have HC0 := aM hc0
 clear hr0 hc0
 have HR1 := aM hr1
 have HC1 := aM hc1
 clear hr1 hc1
 have HB := aM (Below.refl w.heap.size w)
 have H : (if (l0.length : Int) > 400 then (some (2, 0)) else ((impl_partsOf.f k l0).bind fun t427 => (impl_PartAt.l0 k t427 l1 (l1.length : Int) 0 0))) = some (r1, r2) := h
 clear h
 by_cases c3 : (l0.length : Int) > 400
 ·rw [if_pos c3] at H
  have c3b0 : decide (400 < (l0.length : Int)) = true := decide_eq_true c3
  have c3b1 : decide (400 < l0.length) = true := decide_eq_true (by omega)
  clear c3
  simp only [Option.some.injEq, Prod.mk.injEq] at H
  obtain ⟨rfl, rfl⟩ := H
  go_enter Tryd.func22, Tryd.ntmps22
  go_wp2_with (first | ((with_reducible refine gate_dst (N := 4) rfl ?_); refine box_event ?hg (N := 4) ?hd (cs := #[.int .i64 0, .int .i64 0]) (t := 39) ?hr ?_; (case hd => rfl); (case hg => rfl); (case hr => exact zz13); intro gb426 hg w4 hbox hb; have BK426 := aM (hbox); have GW426 := aM ((zz18 : w.heap.size ≤ gb426)); have GE426 := aM ((zz18 : w.heap.size ≤ gb426)); replace HB := aM (below_step bB hb); clear hb hbox hg; have hcz5_0 : w4.cell? ⟨gb426, 0, none⟩ = some (.int .i64 0) := (blk_cell BK426.out 0).trans rfl; have hcz5_1 : w4.cell? ⟨gb426, 1, none⟩ = some (.int .i64 0) := (blk_cell BK426.out 1).trans rfl; have hfz5_0 := blk_frozen BK426.out 0; have hfz5_1 := blk_frozen BK426.out 1))
  refine bodyPost_ret (results_cell_row rfl _ _ gb426 39 #[.int .i64 2, .int .i64 0] (0, 0) _ rfl (by (with_reducible repeat (first | refine blk_drewN ?_ _ | refine blk_drew ?_ | refine blk_alloc ?_ _)); refine blk_put (cs := #[.int .i64 2, .int .i64 0]) ?_ 1 _ rfl; (with_reducible repeat (first | refine blk_drewN ?_ _ | refine blk_drew ?_ | refine blk_alloc ?_ _)); refine blk_put (cs := #[.int .i64 0, .int .i64 0]) ?_ 0 _ rfl; (with_reducible repeat (first | refine blk_drewN ?_ _ | refine blk_drew ?_ | refine blk_alloc ?_ _)); exact BK426.out) Tryd.underlying39 rfl (by kernel_rfl)) rfl ?_
  exact ⟨bE, bG GE426⟩
 rw [if_neg c3] at H
 have c3b0 : decide (400 < (l0.length : Int)) = false := decide_eq_false c3
 have c3b1 : decide (400 < l0.length) = false := decide_eq_false (by omega)
 clear c3
 replace H := Option.bind_eq_some_iff.mp H
 obtain ⟨t427, A60, H⟩ := H
 replace H : (impl_PartAt.l0 k t427 l1 (l1.length : Int) 0 0) = some (r1, r2) := H
 have A6 := aM A60
 clear A60
 have H' := aM H
 clear H
 go_enter Tryd.func22, Tryd.ntmps22
 go_wp2_with (first | ((with_reducible refine gate_dst (N := 4) rfl ?_); refine box_event ?hg (N := 4) ?hd (cs := #[.int .i64 0, .int .i64 0]) (t := 39) ?hr ?_; (case hd => rfl); (case hg => rfl); (case hr => exact zz13); intro gb426 hg w7 hbox hb; have BK426 := aM (hbox); have GW426 := aM ((zz18 : w.heap.size ≤ gb426)); have GE426 := aM ((zz18 : w.heap.size ≤ gb426)); replace HB := aM (below_step bB hb); clear hb hbox hg) | ((with_reducible refine gate_callee (f := 53) rfl ?_); refine gL_ (some 14) Tryd.func53 #[.slice A0 l0.length c0] ?_; (with_reducible refine (impl_partsOf.calls k _ _ l0 t427 _ ?side1 ?side2 A6.out).mono ?_); (case side1 => exact zz6 HR0.out); (case side2 => exact HC0.out); rintro e w8 ⟨v428, rfl, ho0, hb⟩; refine ⟨_, rfl, ?_⟩; have HO429 := aM (Kd.R_lower ho0 (below_size (bG GE426))); replace BK426 := aM (blk_below (g := gb426) (o := .cells #[.int .i64 0, .int .i64 0] 39 (0, 0)) (bL BK426) hb); replace HB := aM (below_step (bG GE426) hb); (try clear ho0)) | ((with_reducible refine gate_dst (N := 5) rfl ?_); refine box_event ?hg (N := 5) ?hd (cs := #[.int .i64 0]) (t := 3) ?hr ?_; (case hd => rfl); (case hg => rfl); (case hr => exact zz13); intro gb430 hg w9 hbox hb; replace HO429 := aM (Kd.R_below (bR HO429) hb); have BK430 := aM (hbox); have GW430 := aM ((by rw [hg]; exact (below_size (bG GE426)) : w.heap.size ≤ gb430)); have GE430 := aM ((by rw [hg]; exact (below_size (bG GE426)) : w.heap.size ≤ gb430)); replace HB := aM (below_step (bG GE426) hb); have NB426_430 := aM ((by rw [hg]; exact Nat.ne_of_lt (blk_lt (g := gb426) (o := .cells #[.int .i64 0, .int .i64 0] 39 (0, 0)) (bL BK426)) : gb426 ≠ gb430)); have NB430_426 := aM ((by rw [hg]; exact Nat.ne_of_gt (blk_lt (g := gb426) (o := .cells #[.int .i64 0, .int .i64 0] 39 (0, 0)) (bL BK426)) : gb430 ≠ gb426)); replace BK426 := aM (blk_below (g := gb426) (o := .cells #[.int .i64 0, .int .i64 0] 39 (0, 0)) (bL BK426) hb); clear hb hbox hg; have hnb10 := NB430_426.out; have hnc10 := NB426_430.out; have hcz11_0 : w9.cell? ⟨gb430, 0, none⟩ = some (.int .i64 0) := (blk_cell BK430.out 0).trans rfl; have hfz11_0 := blk_frozen BK430.out 0))
 go_loopg [17] k (fun kq v17 w' => ∃ (x17_1 : Int) (x427000_1 : Int) (x427001_1 : Int) (x431000_1 : Int), v17 = .int .i64 x17_1 ∧ Aside0 (impl_PartAt.l0 kq t427 l1 (l1.length : Int) x17_1 x431000_1 = some (r1, r2)) ∧ Aside0 (kq ≤ k) ∧ Aside0 (Kd.R k23 23 w' w.heap.size (fun _ => True) v428 t427) ∧ Aside0 (w'.heap[gb426]? = some (.cells #[.int .i64 x427000_1, .int .i64 x427001_1] 39 (0, 0))) ∧ Aside0 (w'.heap[gb430]? = some (.cells #[.int .i64 x431000_1] 3 (0, 0))) ∧ Aside0 (Below w.heap.size w w'))
 case atStart => exact ⟨(0), (0), (0), (0), bS, H', ⟨Nat.le_refl _⟩, ⟨by (with_reducible repeat (first | apply Kd.R_alloc | apply Kd.R_drewN | apply Kd.R_drew)); exact Kd.R_mono (Kd.R_far (p := ⟨gb430, 0, none⟩) (Kd.R_types HO429.out BK430.out (by decide)) (fun _ hk => hk.2) (.int .i64 0)) (fun _ hk => trivial)⟩, ⟨zz14 NB426_430.out BK426.out⟩, ⟨zz23 BK430.out⟩, ⟨bG2 GE426 GE430⟩⟩
 case round =>
  clear H'
  try clear c1
  try clear c2
  try clear p2
  try clear c3
  try clear c3b0
  try clear c3b1
  try clear c5
  try clear c10
  try clear hcz11_0
  try clear hcz5_0
  try clear hcz5_1
  try clear hfz11_0
  try clear hfz5_0
  try clear hfz5_1
  obtain ⟨x17_1, x427000_1, x427001_1, x431000_1, rfl, HA, HK1, HO_6, BK426, BK430, HB⟩ := hrel
  cases gk with
  | zero => exact absurd HA.out (by simp [impl_PartAt.l0])
  | succ k1 =>
   have H := HA.out
   clear HA
   simp only [impl_PartAt.l0] at H
   by_cases c12 : x17_1 < (l1.length : Int)
   ·rw [if_pos c12] at H
    have c12b0 : decide (x17_1 < (l1.length : Int)) = true := decide_eq_true c12
    clear c12
    by_cases c13 : 0 ≤ x17_1
    ·rw [if_pos c13] at H
     have c13b0 : decide (0 ≤ x17_1) = true := decide_eq_true c13
     clear c13
     by_cases c14 : x17_1 < (l1.length : Int)
     ·rw [if_pos c14] at H
      have c14b0 : decide (x17_1 < (l1.length : Int)) = true := decide_eq_true c14
      clear c14
      replace H := Option.bind_eq_some_iff.mp H
      obtain ⟨t433, A150, H⟩ := H
      replace H : (if t433 < 0 then (some (4, 0)) else (impl_PartAt.l0 k1 t427 l1 (l1.length : Int) (wrap64 (x17_1 + 1)) t433)) = some (r1, r2) := H
      have A15 := aM A150
      clear A150
      by_cases c16 : t433 < 0
      ·rw [if_pos c16] at H
       have c16b0 : decide (t433 < 0) = true := decide_eq_true c16
       clear c16
       simp only [Option.some.injEq, Prod.mk.injEq] at H
       obtain ⟨rfl, rfl⟩ := H
       have p431 : 0 ≤ (x17_1 : Int) := pI
       have q431 : x17_1 < (l1.length : Int) := pI
       obtain ⟨ad431, e431, hx431_0⟩ := Kd.at_int HR1.out x17_1 p431 q431
       cases e431
       replace hx431_0 := (HB.out.cell (World.block_lt_of_cell? w _ hx431_0)).trans hx431_0
       replace p431 := eq_true p431
       replace q431 := eq_true q431
       go_wp2_with (first | ((with_reducible refine gate_dst (N := 8) rfl ?_); refine box_event ?hg (N := 8) ?hd (cs := #[.int .i64 0]) (t := 2) ?hr ?_; (case hd => rfl); (case hg => rfl); (case hr => exact zz13); intro gb432 hg w17 hbox hb; replace HO_6 := aM (Kd.R_below (bR HO_6) hb); have BK432 := aM (hbox); have GW432 := aM ((zz62 : w.heap.size ≤ gb432)); have GE432 := aM ((zz62 : w.heap.size ≤ gb432)); replace HB := aM (below_step (bG2 GE426 GE430) hb); have NB426_432 := aM ((by rw [hg]; exact Nat.ne_of_lt (blk_lt (g := gb426) (o := .cells #[.int .i64 x427000_1, .int .i64 x427001_1] 39 (0, 0)) (bL BK426)) : gb426 ≠ gb432)); have NB432_426 := aM ((by rw [hg]; exact Nat.ne_of_gt (blk_lt (g := gb426) (o := .cells #[.int .i64 x427000_1, .int .i64 x427001_1] 39 (0, 0)) (bL BK426)) : gb432 ≠ gb426)); replace BK426 := aM (blk_below (g := gb426) (o := .cells #[.int .i64 x427000_1, .int .i64 x427001_1] 39 (0, 0)) (bL BK426) hb); have NB430_432 := aM ((by rw [hg]; exact Nat.ne_of_lt (blk_lt (g := gb430) (o := .cells #[.int .i64 x431000_1] 3 (0, 0)) (bL BK430)) : gb430 ≠ gb432)); have NB432_430 := aM ((by rw [hg]; exact Nat.ne_of_gt (blk_lt (g := gb430) (o := .cells #[.int .i64 x431000_1] 3 (0, 0)) (bL BK430)) : gb432 ≠ gb430)); replace BK430 := aM (blk_below (g := gb430) (o := .cells #[.int .i64 x431000_1] 3 (0, 0)) (bL BK430) hb); clear hb hbox hg; have hnb18 := NB432_426.out; have hnc18 := NB426_432.out; have hnb19 := NB432_430.out; have hnc19 := NB430_432.out; have hcz20_0 : w17.cell? ⟨gb432, 0, none⟩ = some (.int .i64 0) := (blk_cell BK432.out 0).trans rfl; have hfz20_0 := blk_frozen BK432.out 0; have hnb21 := NB430_426.out; have hnc21 := NB426_430.out; have hcz22_0 : w17.cell? ⟨gb430, 0, none⟩ = some (.int .i64 x431000_1) := (blk_cell BK430.out 0).trans rfl; have hfz22_0 := blk_frozen BK430.out 0; obtain ⟨Ao23, co23, eo23⟩ := Kd.R_slice HO_6.out; subst eo23) | ((with_reducible refine gate_callee (f := 54) rfl ?_); refine gL_ (some 23) Tryd.func54 #[.slice Ao23 t427.length co23, .func (.func 55) #[] #[.pointer (some ⟨gb430, 0, none⟩), .pointer (some ⟨gb432, 0, none⟩)]] ?_; (with_reducible refine (impl_Part_54.calls k1 _ _ t427 x431000_1 (rd l1 x17_1) t433 _ gb430 gb432 ?sp5 ?sp8 ?side1 ?side2 A15.out).mono ?_); (case sp5 => refine (blk_cell (g := gb430) (cs := #[.int .i64 x431000_1]) (t := 3) ?_ 0).trans rfl; exact (zz14 NB430_432.out BK430.out)); (case sp8 => refine (blk_cell (g := gb432) (cs := #[.int .i64 (rd l1 x17_1)]) (t := 2) ?_ 0).trans rfl; exact (zz23 BK432.out)); (case side1 => refine (Kd.R_reads' (e := 23) (base := w.heap.size) (ok := fun k_ => True) (n := t427.length) (c := co23) ?_).2.2; exact (zz30 HO_6.out BK432.out)); (case side2 => exact (Kd.R_reads' HO_6.out).2.1); rintro e w24 ⟨rfl, hb⟩; refine ⟨_, rfl, ?_⟩; replace HO_6 := aM (Kd.R_below (zz30 HO_6.out BK432.out) hb); replace BK426 := aM (blk_below (g := gb426) (o := .cells #[.int .i64 x427000_1, .int .i64 x427001_1] 39 (0, 0)) (zz14 NB426_432.out BK426.out) hb); replace BK430 := aM (blk_below (g := gb430) (o := .cells #[.int .i64 x431000_1] 3 (0, 0)) (zz14 NB430_432.out BK430.out) hb); replace BK432 := aM (blk_below (g := gb432) (o := .cells #[.int .i64 (rd l1 x17_1)] 2 (0, 0)) (zz23 BK432.out) hb); replace HB := aM (below_step (zz21 GE426.out GE430.out GE432.out) hb); have hcz25_0 : w24.cell? ⟨gb430, 0, none⟩ = some (.int .i64 x431000_1) := (blk_cell BK430.out 0).trans rfl; have hfz25_0 := blk_frozen BK430.out 0; have hcz26_0 : w24.cell? ⟨gb426, 0, none⟩ = some (.int .i64 x427000_1) := (blk_cell BK426.out 0).trans rfl; have hcz26_1 : w24.cell? ⟨gb426, 1, none⟩ = some (.int .i64 x427001_1) := (blk_cell BK426.out 1).trans rfl; have hfz26_0 := blk_frozen BK426.out 0; have hfz26_1 := blk_frozen BK426.out 1))
       refine bodyPost_ret (results_cell_row rfl _ _ gb426 39 #[.int .i64 4, .int .i64 0] (0, 0) _ rfl (by (with_reducible repeat (first | refine blk_drewN ?_ _ | refine blk_drew ?_ | refine blk_alloc ?_ _)); refine blk_put (cs := #[.int .i64 4, .int .i64 x427001_1]) ?_ 1 _ rfl; (with_reducible repeat (first | refine blk_drewN ?_ _ | refine blk_drew ?_ | refine blk_alloc ?_ _)); refine blk_put (cs := #[.int .i64 x427000_1, .int .i64 x427001_1]) ?_ 0 _ rfl; (with_reducible repeat (first | refine blk_drewN ?_ _ | refine blk_drew ?_ | refine blk_alloc ?_ _)); refine blk_far ?_ NB426_430.out _; (with_reducible repeat (first | refine blk_drewN ?_ _ | refine blk_drew ?_ | refine blk_alloc ?_ _)); exact BK426.out) Tryd.underlying39 rfl (by kernel_rfl)) rfl ?_
       exact ⟨bE, zz21 GE426.out GE430.out GE432.out⟩
      rw [if_neg c16] at H
      have c16b0 : decide (t433 < 0) = false := decide_eq_false c16
      clear c16
      have H' := aM H
      clear H
      have p431 : 0 ≤ (x17_1 : Int) := pI
      have q431 : x17_1 < (l1.length : Int) := pI
      obtain ⟨ad431, e431, hx431_0⟩ := Kd.at_int HR1.out x17_1 p431 q431
      cases e431
      replace hx431_0 := (HB.out.cell (World.block_lt_of_cell? w _ hx431_0)).trans hx431_0
      replace p431 := eq_true p431
      replace q431 := eq_true q431
      go_wp2_with (first | ((with_reducible refine gate_dst (N := 8) rfl ?_); refine box_event ?hg (N := 8) ?hd (cs := #[.int .i64 0]) (t := 2) ?hr ?_; (case hd => rfl); (case hg => rfl); (case hr => exact zz13); intro gb432 hg w27 hbox hb; replace HO_6 := aM (Kd.R_below (bR HO_6) hb); have BK432 := aM (hbox); have GW432 := aM ((zz62 : w.heap.size ≤ gb432)); have GE432 := aM ((zz62 : w.heap.size ≤ gb432)); replace HB := aM (below_step (bG2 GE426 GE430) hb); have NB426_432 := aM ((by rw [hg]; exact Nat.ne_of_lt (blk_lt (g := gb426) (o := .cells #[.int .i64 x427000_1, .int .i64 x427001_1] 39 (0, 0)) (bL BK426)) : gb426 ≠ gb432)); have NB432_426 := aM ((by rw [hg]; exact Nat.ne_of_gt (blk_lt (g := gb426) (o := .cells #[.int .i64 x427000_1, .int .i64 x427001_1] 39 (0, 0)) (bL BK426)) : gb432 ≠ gb426)); replace BK426 := aM (blk_below (g := gb426) (o := .cells #[.int .i64 x427000_1, .int .i64 x427001_1] 39 (0, 0)) (bL BK426) hb); have NB430_432 := aM ((by rw [hg]; exact Nat.ne_of_lt (blk_lt (g := gb430) (o := .cells #[.int .i64 x431000_1] 3 (0, 0)) (bL BK430)) : gb430 ≠ gb432)); have NB432_430 := aM ((by rw [hg]; exact Nat.ne_of_gt (blk_lt (g := gb430) (o := .cells #[.int .i64 x431000_1] 3 (0, 0)) (bL BK430)) : gb432 ≠ gb430)); replace BK430 := aM (blk_below (g := gb430) (o := .cells #[.int .i64 x431000_1] 3 (0, 0)) (bL BK430) hb); clear hb hbox hg; have hnb28 := NB432_426.out; have hnc28 := NB426_432.out; have hnb29 := NB432_430.out; have hnc29 := NB430_432.out; have hcz30_0 : w27.cell? ⟨gb432, 0, none⟩ = some (.int .i64 0) := (blk_cell BK432.out 0).trans rfl; have hfz30_0 := blk_frozen BK432.out 0; have hnb31 := NB430_426.out; have hnc31 := NB426_430.out; have hcz32_0 : w27.cell? ⟨gb430, 0, none⟩ = some (.int .i64 x431000_1) := (blk_cell BK430.out 0).trans rfl; have hfz32_0 := blk_frozen BK430.out 0; obtain ⟨Ao33, co33, eo33⟩ := Kd.R_slice HO_6.out; subst eo33) | ((with_reducible refine gate_callee (f := 54) rfl ?_); refine gL_ (some 23) Tryd.func54 #[.slice Ao33 t427.length co33, .func (.func 55) #[] #[.pointer (some ⟨gb430, 0, none⟩), .pointer (some ⟨gb432, 0, none⟩)]] ?_; (with_reducible refine (impl_Part_54.calls k1 _ _ t427 x431000_1 (rd l1 x17_1) t433 _ gb430 gb432 ?sp5 ?sp8 ?side1 ?side2 A15.out).mono ?_); (case sp5 => refine (blk_cell (g := gb430) (cs := #[.int .i64 x431000_1]) (t := 3) ?_ 0).trans rfl; exact (zz14 NB430_432.out BK430.out)); (case sp8 => refine (blk_cell (g := gb432) (cs := #[.int .i64 (rd l1 x17_1)]) (t := 2) ?_ 0).trans rfl; exact (zz23 BK432.out)); (case side1 => refine (Kd.R_reads' (e := 23) (base := w.heap.size) (ok := fun k_ => True) (n := t427.length) (c := co33) ?_).2.2; exact (zz30 HO_6.out BK432.out)); (case side2 => exact (Kd.R_reads' HO_6.out).2.1); rintro e w34 ⟨rfl, hb⟩; refine ⟨_, rfl, ?_⟩; replace HO_6 := aM (Kd.R_below (zz30 HO_6.out BK432.out) hb); replace BK426 := aM (blk_below (g := gb426) (o := .cells #[.int .i64 x427000_1, .int .i64 x427001_1] 39 (0, 0)) (zz14 NB426_432.out BK426.out) hb); replace BK430 := aM (blk_below (g := gb430) (o := .cells #[.int .i64 x431000_1] 3 (0, 0)) (zz14 NB430_432.out BK430.out) hb); replace BK432 := aM (blk_below (g := gb432) (o := .cells #[.int .i64 (rd l1 x17_1)] 2 (0, 0)) (zz23 BK432.out) hb); replace HB := aM (below_step (zz21 GE426.out GE430.out GE432.out) hb); have hcz35_0 : w34.cell? ⟨gb430, 0, none⟩ = some (.int .i64 x431000_1) := (blk_cell BK430.out 0).trans rfl; have hfz35_0 := blk_frozen BK430.out 0))
      go_roundg k1
      case measure => have := HK1.out; omega
      case rel => exact ⟨(wrap64 (x17_1 + 1)), (x427000_1), (x427001_1), (t433), bS, H', ⟨by have := HK1.out; omega⟩, ⟨by (with_reducible repeat (first | apply Kd.R_alloc | apply Kd.R_drewN | apply Kd.R_drew)); exact Kd.R_mono (Kd.R_far (p := ⟨gb430, 0, none⟩) (Kd.R_types HO_6.out BK430.out (by decide)) (fun _ hk => hk.2) (.int .i64 t433)) (fun _ hk => trivial)⟩, ⟨zz14 NB426_430.out BK426.out⟩, ⟨by (with_reducible repeat (first | refine blk_drewN ?_ _ | refine blk_drew ?_ | refine blk_alloc ?_ _)); refine blk_put (cs := #[.int .i64 x431000_1]) ?_ 0 _ rfl; (with_reducible repeat (first | refine blk_drewN ?_ _ | refine blk_drew ?_ | refine blk_alloc ?_ _)); exact BK430.out⟩, ⟨zz21 GE426.out GE430.out GE432.out⟩⟩
     rw [if_neg c14] at H
     exact absurd H (by simp)
    rw [if_neg c13] at H
    exact absurd H (by simp)
   rw [if_neg c12] at H
   have c12b0 : decide (x17_1 < (l1.length : Int)) = false := decide_eq_false c12
   clear c12
   simp only [Option.some.injEq, Prod.mk.injEq] at H
   obtain ⟨rfl, rfl⟩ := H
   have hnb36 := NB430_426.out
   have hnc36 := NB426_430.out
   have hcz37_0 : wr.cell? ⟨gb430, 0, none⟩ = some (.int .i64 x431000_1) := (blk_cell BK430.out 0).trans rfl
   have hfz37_0 := blk_frozen BK430.out 0
   have hcz38_0 : wr.cell? ⟨gb426, 0, none⟩ = some (.int .i64 x427000_1) := (blk_cell BK426.out 0).trans rfl
   have hcz38_1 : wr.cell? ⟨gb426, 1, none⟩ = some (.int .i64 x427001_1) := (blk_cell BK426.out 1).trans rfl
   have hfz38_0 := blk_frozen BK426.out 0
   have hfz38_1 := blk_frozen BK426.out 1
   go_wp2
   refine bodyPost_ret (results_cell_row rfl _ _ gb426 39 #[.int .i64 0, .int .i64 x431000_1] (0, 0) _ rfl (by (with_reducible repeat (first | refine blk_drewN ?_ _ | refine blk_drew ?_ | refine blk_alloc ?_ _)); refine blk_put (cs := #[.int .i64 0, .int .i64 x427001_1]) ?_ 1 _ rfl; (with_reducible repeat (first | refine blk_drewN ?_ _ | refine blk_drew ?_ | refine blk_alloc ?_ _)); refine blk_put (cs := #[.int .i64 x427000_1, .int .i64 x427001_1]) ?_ 0 _ rfl; (with_reducible repeat (first | refine blk_drewN ?_ _ | refine blk_drew ?_ | refine blk_alloc ?_ _)); exact BK426.out) Tryd.underlying39 rfl (by kernel_rfl)) rfl ?_
   exact ⟨bE, bG2 GE426 GE430⟩
def laws_eqIntResult.f (a0_0 : Int) (a0_1 : Int) (a1_0 : Int) (a1_1 : Int) : Option (Bool) := if a0_0 = a1_0 then (if a0_1 = a1_1 then (some true) else (some false)) else (some false)
set_option maxHeartbeats 8000000 in
set_option maxRecDepth 100000 in
theorem laws_eqIntResult.calls (a0_0 : Int) (a0_1 : Int) (a1_0 : Int) (a1_1 : Int) (r : Bool) (w : World) (h : laws_eqIntResult.f a0_0 a0_1 a1_0 a1_1 = some r) :
  Calls Tryd.prog 23 #[.agg #[.int .i64 a0_0, .int .i64 a0_1], .agg #[.int .i64 a1_0, .int .i64 a1_1]] w fun e w' => e = .returned (.bool r) ∧ Below w.heap.size w w' := by
 have hu39 := Tryd.underlying39
 have HB := aM (Below.refl w.heap.size w)
 have H : (if a0_0 = a1_0 then (if a0_1 = a1_1 then (some true) else (some false)) else (some false)) = some r := h
 clear h
 by_cases c3 : a0_0 = a1_0
 ·rw [if_pos c3] at H
  have c3b0 : (a0_0 == a1_0) = true := beq_iff_eq.mpr c3
  have c3b1 : (a0_0 != a1_0) = false := bne_eq_false_iff_eq.mpr c3
  clear c3
  by_cases c4 : a0_1 = a1_1
  ·rw [if_pos c4] at H
   have c4b0 : (a0_1 == a1_1) = true := beq_iff_eq.mpr c4
   have c4b1 : (a0_1 != a1_1) = false := bne_eq_false_iff_eq.mpr c4
   clear c4
   obtain rfl := Option.some.inj H
   go_enter Tryd.func23, Tryd.ntmps23
   go_wp2_with (first | ((with_reducible refine gate_dst (N := 2) rfl ?_); refine box_event ?hg (N := 2) ?hd (cs := #[.int .i64 a0_0, .int .i64 a0_1]) (t := 39) ?hr ?_; (case hd => rfl); (case hg => rfl); (case hr => exact zz13); intro gb434 hg w5 hbox hb; have BK434 := aM (hbox); have GW434 := aM ((zz18 : w.heap.size ≤ gb434)); have GE434 := aM ((zz18 : w.heap.size ≤ gb434)); replace HB := aM (below_step bB hb); clear hb hbox hg) | ((with_reducible refine gate_dst (N := 3) rfl ?_); refine box_event ?hg (N := 3) ?hd (cs := #[.int .i64 a1_0, .int .i64 a1_1]) (t := 39) ?hr ?_; (case hd => rfl); (case hg => rfl); (case hr => exact zz13); intro gb435 hg w6 hbox hb; have BK435 := aM (hbox); have GW435 := aM ((zz56 : w.heap.size ≤ gb435)); have GE435 := aM ((zz56 : w.heap.size ≤ gb435)); replace HB := aM (below_step (bG GE434) hb); have NB434_435 := aM ((zz50 : gb434 ≠ gb435)); have NB435_434 := aM ((zz49 : gb435 ≠ gb434)); replace BK434 := aM (blk_below (g := gb434) (o := .cells #[.int .i64 a0_0, .int .i64 a0_1] 39 (0, 0)) (bL BK434) hb); clear hb hbox hg; have hnb7 := NB434_435.out; have hnc7 := NB435_434.out; have hcz8_0 : w6.cell? ⟨gb434, 0, none⟩ = some (.int .i64 a0_0) := (blk_cell BK434.out 0).trans rfl; have hcz8_1 : w6.cell? ⟨gb434, 1, none⟩ = some (.int .i64 a0_1) := (blk_cell BK434.out 1).trans rfl; have hfz8_0 := blk_frozen BK434.out 0; have hfz8_1 := blk_frozen BK434.out 1; have hcz9_0 : w6.cell? ⟨gb435, 0, none⟩ = some (.int .i64 a1_0) := (blk_cell BK435.out 0).trans rfl; have hcz9_1 : w6.cell? ⟨gb435, 1, none⟩ = some (.int .i64 a1_1) := (blk_cell BK435.out 1).trans rfl; have hfz9_0 := blk_frozen BK435.out 0; have hfz9_1 := blk_frozen BK435.out 1))
   go_ret
   exact ⟨bE, bG2 GE434 GE435⟩
  rw [if_neg c4] at H
  have c4b0 : (a0_1 == a1_1) = false := beq_eq_false_iff_ne.mpr c4
  have c4b1 : (a0_1 != a1_1) = true := bne_iff_ne.mpr c4
  obtain rfl := Option.some.inj H
  go_enter Tryd.func23, Tryd.ntmps23
  go_wp2_with (first | ((with_reducible refine gate_dst (N := 2) rfl ?_); refine box_event ?hg (N := 2) ?hd (cs := #[.int .i64 a0_0, .int .i64 a0_1]) (t := 39) ?hr ?_; (case hd => rfl); (case hg => rfl); (case hr => exact zz13); intro gb434 hg w10 hbox hb; have BK434 := aM (hbox); have GW434 := aM ((zz18 : w.heap.size ≤ gb434)); have GE434 := aM ((zz18 : w.heap.size ≤ gb434)); replace HB := aM (below_step bB hb); clear hb hbox hg) | ((with_reducible refine gate_dst (N := 3) rfl ?_); refine box_event ?hg (N := 3) ?hd (cs := #[.int .i64 a1_0, .int .i64 a1_1]) (t := 39) ?hr ?_; (case hd => rfl); (case hg => rfl); (case hr => exact zz13); intro gb435 hg w11 hbox hb; have BK435 := aM (hbox); have GW435 := aM ((zz56 : w.heap.size ≤ gb435)); have GE435 := aM ((zz56 : w.heap.size ≤ gb435)); replace HB := aM (below_step (bG GE434) hb); have NB434_435 := aM ((zz50 : gb434 ≠ gb435)); have NB435_434 := aM ((zz49 : gb435 ≠ gb434)); replace BK434 := aM (blk_below (g := gb434) (o := .cells #[.int .i64 a0_0, .int .i64 a0_1] 39 (0, 0)) (bL BK434) hb); clear hb hbox hg; have hnb12 := NB434_435.out; have hnc12 := NB435_434.out; have hcz13_0 : w11.cell? ⟨gb434, 0, none⟩ = some (.int .i64 a0_0) := (blk_cell BK434.out 0).trans rfl; have hcz13_1 : w11.cell? ⟨gb434, 1, none⟩ = some (.int .i64 a0_1) := (blk_cell BK434.out 1).trans rfl; have hfz13_0 := blk_frozen BK434.out 0; have hfz13_1 := blk_frozen BK434.out 1; have hcz14_0 : w11.cell? ⟨gb435, 0, none⟩ = some (.int .i64 a1_0) := (blk_cell BK435.out 0).trans rfl; have hcz14_1 : w11.cell? ⟨gb435, 1, none⟩ = some (.int .i64 a1_1) := (blk_cell BK435.out 1).trans rfl; have hfz14_0 := blk_frozen BK435.out 0; have hfz14_1 := blk_frozen BK435.out 1))
  go_ret
  exact ⟨bE, bG2 GE434 GE435⟩
 rw [if_neg c3] at H
 have c3b0 : (a0_0 == a1_0) = false := beq_eq_false_iff_ne.mpr c3
 have c3b1 : (a0_0 != a1_0) = true := bne_iff_ne.mpr c3
 obtain rfl := Option.some.inj H
 go_enter Tryd.func23, Tryd.ntmps23
 go_wp2_with (first | ((with_reducible refine gate_dst (N := 2) rfl ?_); refine box_event ?hg (N := 2) ?hd (cs := #[.int .i64 a0_0, .int .i64 a0_1]) (t := 39) ?hr ?_; (case hd => rfl); (case hg => rfl); (case hr => exact zz13); intro gb434 hg w15 hbox hb; have BK434 := aM (hbox); have GW434 := aM ((zz18 : w.heap.size ≤ gb434)); have GE434 := aM ((zz18 : w.heap.size ≤ gb434)); replace HB := aM (below_step bB hb); clear hb hbox hg) | ((with_reducible refine gate_dst (N := 3) rfl ?_); refine box_event ?hg (N := 3) ?hd (cs := #[.int .i64 a1_0, .int .i64 a1_1]) (t := 39) ?hr ?_; (case hd => rfl); (case hg => rfl); (case hr => exact zz13); intro gb435 hg w16 hbox hb; have BK435 := aM (hbox); have GW435 := aM ((zz56 : w.heap.size ≤ gb435)); have GE435 := aM ((zz56 : w.heap.size ≤ gb435)); replace HB := aM (below_step (bG GE434) hb); have NB434_435 := aM ((zz50 : gb434 ≠ gb435)); have NB435_434 := aM ((zz49 : gb435 ≠ gb434)); replace BK434 := aM (blk_below (g := gb434) (o := .cells #[.int .i64 a0_0, .int .i64 a0_1] 39 (0, 0)) (bL BK434) hb); clear hb hbox hg; have hnb17 := NB434_435.out; have hnc17 := NB435_434.out; have hcz18_0 : w16.cell? ⟨gb434, 0, none⟩ = some (.int .i64 a0_0) := (blk_cell BK434.out 0).trans rfl; have hcz18_1 : w16.cell? ⟨gb434, 1, none⟩ = some (.int .i64 a0_1) := (blk_cell BK434.out 1).trans rfl; have hfz18_0 := blk_frozen BK434.out 0; have hfz18_1 := blk_frozen BK434.out 1; have hcz19_0 : w16.cell? ⟨gb435, 0, none⟩ = some (.int .i64 a1_0) := (blk_cell BK435.out 0).trans rfl; have hcz19_1 : w16.cell? ⟨gb435, 1, none⟩ = some (.int .i64 a1_1) := (blk_cell BK435.out 1).trans rfl; have hfz19_0 := blk_frozen BK435.out 0; have hfz19_1 := blk_frozen BK435.out 1))
 go_ret
 exact ⟨bE, bG2 GE434 GE435⟩
def laws_eqInt64S.l0 : Nat → List Int → List Int → Int → Option (Bool)
 | 0, _, _, _ => none
 | k + 1, x0, x1, x5 => if x5 < (x0.length : Int) then (if 0 ≤ x5 then (if x5 < (x1.length : Int) then (if (rd x0 x5) = (rd x1 x5) then (laws_eqInt64S.l0 k x0 x1 (wrap64 (x5 + 1))) else (some false)) else (none)) else (none)) else (some true)
def laws_eqInt64S.f (k : Nat) (l0 : List Int) (l1 : List Int) : Option (Bool) := if (l0.length : Int) = (l1.length : Int) then (laws_eqInt64S.l0 k l0 l1 0) else (some false)
set_option maxHeartbeats 8000000 in
set_option maxRecDepth 100000 in
theorem laws_eqInt64S.calls (k : Nat) (A0 : Option Addr) (c0 : Nat) (l0 : List Int) (A1 : Option Addr) (c1 : Nat) (l1 : List Int) (r : Bool) (w : World) (hr0 : Kd.C (Kd.int .i64) w A0 l0.length l0) (hc0 : l0.length ≤ c0) (hr1 : Kd.C (Kd.int .i64) w A1 l1.length l1) (hc1 : l1.length ≤ c1) (h : laws_eqInt64S.f k l0 l1 = some r) :
  Calls Tryd.prog 24 #[.slice A0 l0.length c0, .slice A1 l1.length c1] w fun e w' => e = .returned (.bool r) ∧ Drawn0 w w' := by
 have HR0 := aM hr0
 have HC0 := aM hc0
 clear hr0 hc0
 have HR1 := aM hr1
 have HC1 := aM hc1
 clear hr1 hc1
 have H : (if (l0.length : Int) = (l1.length : Int) then (laws_eqInt64S.l0 k l0 l1 0) else (some false)) = some r := h
 clear h
 by_cases c3 : (l0.length : Int) = (l1.length : Int)
 ·rw [if_pos c3] at H
  have c3b0 : ((l0.length : Int) == (l1.length : Int)) = true := beq_iff_eq.mpr c3
  have c3b1 : ((l0.length : Int) != (l1.length : Int)) = false := bne_eq_false_iff_eq.mpr c3
  have c3b2 : (l0.length == l1.length) = true := zz60
  clear c3
  have H' := aM H
  clear H
  go_enter Tryd.func24, Tryd.ntmps24
  go_wp2
  repeat (go_quiet (fail); try go_wp2)
  go_loopg [5] k (fun kq v5 w' => ∃ (x5_1 : Int), v5 = .int .i64 x5_1 ∧ Aside0 (laws_eqInt64S.l0 kq l0 l1 x5_1 = some r) ∧ Aside0 (kq ≤ k) ∧ Drawn0 w w')
  case atStart => exact ⟨(0), bS, H', ⟨Nat.le_refl _⟩, zz5⟩
  case round =>
   clear H'
   try clear c1
   try clear c2
   try clear p2
   try clear c3
   try clear c3b0
   try clear c3b1
   try clear c3b2
   obtain ⟨x5_1, rfl, HA, HK1, ⟨m1, rfl⟩⟩ := hrel
   cases gk with
   | zero => exact absurd HA.out (by simp [laws_eqInt64S.l0])
   | succ k1 =>
    have H := HA.out
    clear HA
    simp only [laws_eqInt64S.l0] at H
    by_cases c4 : x5_1 < (l0.length : Int)
    ·rw [if_pos c4] at H
     have c4b0 : decide (x5_1 < (l0.length : Int)) = true := decide_eq_true c4
     clear c4
     by_cases c5 : 0 ≤ x5_1
     ·rw [if_pos c5] at H
      have c5b0 : decide (0 ≤ x5_1) = true := decide_eq_true c5
      clear c5
      by_cases c6 : x5_1 < (l1.length : Int)
      ·rw [if_pos c6] at H
       have c6b0 : decide (x5_1 < (l1.length : Int)) = true := decide_eq_true c6
       clear c6
       by_cases c7 : (rd l0 x5_1) = (rd l1 x5_1)
       ·rw [if_pos c7] at H
        have c7b0 : ((rd l0 x5_1) == (rd l1 x5_1)) = true := beq_iff_eq.mpr c7
        have c7b1 : ((rd l0 x5_1) != (rd l1 x5_1)) = false := bne_eq_false_iff_eq.mpr c7
        clear c7
        have H' := aM H
        clear H
        have p436 : 0 ≤ (x5_1 : Int) := pI
        have q436 : x5_1 < (l0.length : Int) := pI
        obtain ⟨ad436, e436, hx436_0⟩ := Kd.at_int HR0.out x5_1 p436 q436
        cases e436
        replace p436 := eq_true p436
        replace q436 := eq_true q436
        have p437 : 0 ≤ (x5_1 : Int) := pI
        have q437 : x5_1 < (l1.length : Int) := pI
        obtain ⟨ad437, e437, hx437_0⟩ := Kd.at_int HR1.out x5_1 p437 q437
        cases e437
        replace p437 := eq_true p437
        replace q437 := eq_true q437
        go_wp2
        repeat (go_quiet (fail); try go_wp2)
        go_roundg k1
        case measure => have := HK1.out; omega
        case rel => exact ⟨(wrap64 (x5_1 + 1)), bS, H', ⟨by have := HK1.out; omega⟩, zz5⟩
       rw [if_neg c7] at H
       have c7b0 : ((rd l0 x5_1) == (rd l1 x5_1)) = false := beq_eq_false_iff_ne.mpr c7
       have c7b1 : ((rd l0 x5_1) != (rd l1 x5_1)) = true := bne_iff_ne.mpr c7
       obtain rfl := Option.some.inj H
       have p436 : 0 ≤ (x5_1 : Int) := pI
       have q436 : x5_1 < (l0.length : Int) := pI
       obtain ⟨ad436, e436, hx436_0⟩ := Kd.at_int HR0.out x5_1 p436 q436
       cases e436
       replace p436 := eq_true p436
       replace q436 := eq_true q436
       have p437 : 0 ≤ (x5_1 : Int) := pI
       have q437 : x5_1 < (l1.length : Int) := pI
       obtain ⟨ad437, e437, hx437_0⟩ := Kd.at_int HR1.out x5_1 p437 q437
       cases e437
       replace p437 := eq_true p437
       replace q437 := eq_true q437
       go_wp2
       repeat (go_quiet (fail); try go_wp2)
       go_ret
       exact ⟨bS, zz5⟩
      rw [if_neg c6] at H
      exact absurd H (by simp)
     rw [if_neg c5] at H
     exact absurd H (by simp)
    rw [if_neg c4] at H
    have c4b0 : decide (x5_1 < (l0.length : Int)) = false := decide_eq_false c4
    clear c4
    obtain rfl := Option.some.inj H
    go_wp2
    repeat (go_quiet (fail); try go_wp2)
    go_ret
    exact ⟨bS, zz5⟩
 rw [if_neg c3] at H
 have c3b0 : ((l0.length : Int) == (l1.length : Int)) = false := beq_eq_false_iff_ne.mpr c3
 have c3b1 : ((l0.length : Int) != (l1.length : Int)) = true := bne_iff_ne.mpr c3
 have c3b2 : (l0.length == l1.length) = false := zz60
 obtain rfl := Option.some.inj H
 go_enter Tryd.func24, Tryd.ntmps24
 go_wp2
 repeat (go_quiet (fail); try go_wp2)
 go_ret
 exact ⟨bS, zz5⟩
def laws_FnExactPartAt.f (k : Nat) (l0 : List Int) (l1 : List Int) : Option (Bool) := if (l0.length : Int) > 1048576 then (some true) else (if (l1.length : Int) > 1048576 then (some true) else ((laws_toByteS.f k l0).bind fun t438 => ((laws_toInt64S.f k l1).bind fun t441 => ((spec_PartAt.f k t438 t441).bind fun bt444 => ((laws_toByteS.f k l0).bind fun t447 => ((laws_toInt64S.f k l1).bind fun t450 => ((impl_PartAt.f k t447 t450).bind fun bt453 => ((laws_eqIntResult.f bt453.1 bt453.2 bt444.1 bt444.2).bind fun t456 => (if t456 = true then ((laws_toByteS.f k l0).bind fun t457 => ((laws_eqByteS.f k t447 t457).bind fun t460 => (if t460 = true then ((laws_toInt64S.f k l1).bind fun t461 => ((laws_eqInt64S.f k t450 t461).bind fun t464 => (if t464 = true then (some true) else (some false)))) else (some false)))) else (some false))))))))))
set_option maxHeartbeats 8000000 in
set_option maxRecDepth 100000 in
theorem laws_FnExactPartAt.calls (k : Nat) (A0 : Option Addr) (c0 : Nat) (l0 : List Int) (A1 : Option Addr) (c1 : Nat) (l1 : List Int) (w : World) (hr0 : Kd.C (Kd.int .u8) w A0 l0.length l0) (hc0 : l0.length ≤ c0) (hr1 : Kd.C (Kd.int .i64) w A1 l1.length l1) (hc1 : l1.length ≤ c1) (h : laws_FnExactPartAt.f k l0 l1 = some true) :
  Calls Tryd.prog 5 #[.slice A0 l0.length c0, .slice A1 l1.length c1] w fun e w' => e = .returned (.bool true) ∧ Below w.heap.size w w' := by
 have hu39 := Tryd.underlying39
 have HR0 := aM hr0
 have HC0 := aM hc0
 clear hr0 hc0
 have HR1 := aM hr1
 have HC1 := aM hc1
 clear hr1 hc1
 have HB := aM (Below.refl w.heap.size w)
 have H : (if (l0.length : Int) > 1048576 then (some true) else (if (l1.length : Int) > 1048576 then (some true) else ((laws_toByteS.f k l0).bind fun t438 => ((laws_toInt64S.f k l1).bind fun t441 => ((spec_PartAt.f k t438 t441).bind fun bt444 => ((laws_toByteS.f k l0).bind fun t447 => ((laws_toInt64S.f k l1).bind fun t450 => ((impl_PartAt.f k t447 t450).bind fun bt453 => ((laws_eqIntResult.f bt453.1 bt453.2 bt444.1 bt444.2).bind fun t456 => (if t456 = true then ((laws_toByteS.f k l0).bind fun t457 => ((laws_eqByteS.f k t447 t457).bind fun t460 => (if t460 = true then ((laws_toInt64S.f k l1).bind fun t461 => ((laws_eqInt64S.f k t450 t461).bind fun t464 => (if t464 = true then (some true) else (some false)))) else (some false)))) else (some false))))))))))) = some true := h
 clear h
 have HQ_ := aM H
 clear H
 go_enter Tryd.func5, Tryd.ntmps5
 have H := HQ_.out
 clear HQ_
 by_cases c3 : (l0.length : Int) > 1048576
 ·rw [if_pos c3] at H
  have c3b0 : decide (1048576 < (l0.length : Int)) = true := decide_eq_true c3
  have c3b1 : decide (1048576 < l0.length) = true := decide_eq_true (by omega)
  clear c3
  have HTR_ := Option.some.inj H
  (try simp only [c3b0, c3b1])
  go_wp2
  go_ret
  exact ⟨bE, bB⟩
 rw [if_neg c3] at H
 have c3b0 : decide (1048576 < (l0.length : Int)) = false := decide_eq_false c3
 have c3b1 : decide (1048576 < l0.length) = false := decide_eq_false (by omega)
 clear c3
 (try simp only [c3b0, c3b1])
 by_cases c4 : (l1.length : Int) > 1048576
 ·rw [if_pos c4] at H
  have c4b0 : decide (1048576 < (l1.length : Int)) = true := decide_eq_true c4
  have c4b1 : decide (1048576 < l1.length) = true := decide_eq_true (by omega)
  clear c4
  have HTR_ := Option.some.inj H
  (try simp only [c4b0, c4b1])
  go_wp2
  go_ret
  exact ⟨bE, bB⟩
 rw [if_neg c4] at H
 have c4b0 : decide (1048576 < (l1.length : Int)) = false := decide_eq_false c4
 have c4b1 : decide (1048576 < l1.length) = false := decide_eq_false (by omega)
 clear c4
 replace H := Option.bind_eq_some_iff.mp H
 obtain ⟨t438, A50, H⟩ := H
 replace H : ((laws_toInt64S.f k l1).bind fun t441 => ((spec_PartAt.f k t438 t441).bind fun bt444 => ((laws_toByteS.f k l0).bind fun t447 => ((laws_toInt64S.f k l1).bind fun t450 => ((impl_PartAt.f k t447 t450).bind fun bt453 => ((laws_eqIntResult.f bt453.1 bt453.2 bt444.1 bt444.2).bind fun t456 => (if t456 = true then ((laws_toByteS.f k l0).bind fun t457 => ((laws_eqByteS.f k t447 t457).bind fun t460 => (if t460 = true then ((laws_toInt64S.f k l1).bind fun t461 => ((laws_eqInt64S.f k t450 t461).bind fun t464 => (if t464 = true then (some true) else (some false)))) else (some false)))) else (some false)))))))) = some true := H
 have A5 := aM A50
 clear A50
 replace H := Option.bind_eq_some_iff.mp H
 obtain ⟨t441, A60, H⟩ := H
 replace H : ((spec_PartAt.f k t438 t441).bind fun bt444 => ((laws_toByteS.f k l0).bind fun t447 => ((laws_toInt64S.f k l1).bind fun t450 => ((impl_PartAt.f k t447 t450).bind fun bt453 => ((laws_eqIntResult.f bt453.1 bt453.2 bt444.1 bt444.2).bind fun t456 => (if t456 = true then ((laws_toByteS.f k l0).bind fun t457 => ((laws_eqByteS.f k t447 t457).bind fun t460 => (if t460 = true then ((laws_toInt64S.f k l1).bind fun t461 => ((laws_eqInt64S.f k t450 t461).bind fun t464 => (if t464 = true then (some true) else (some false)))) else (some false)))) else (some false))))))) = some true := H
 have A6 := aM A60
 clear A60
 replace H := Option.bind_eq_some_iff.mp H
 obtain ⟨⟨t444, t445⟩, A70, H⟩ := H
 replace H : ((laws_toByteS.f k l0).bind fun t447 => ((laws_toInt64S.f k l1).bind fun t450 => ((impl_PartAt.f k t447 t450).bind fun bt453 => ((laws_eqIntResult.f bt453.1 bt453.2 t444 t445).bind fun t456 => (if t456 = true then ((laws_toByteS.f k l0).bind fun t457 => ((laws_eqByteS.f k t447 t457).bind fun t460 => (if t460 = true then ((laws_toInt64S.f k l1).bind fun t461 => ((laws_eqInt64S.f k t450 t461).bind fun t464 => (if t464 = true then (some true) else (some false)))) else (some false)))) else (some false)))))) = some true := H
 have A7 := aM A70
 clear A70
 replace H := Option.bind_eq_some_iff.mp H
 obtain ⟨t447, A80, H⟩ := H
 replace H : ((laws_toInt64S.f k l1).bind fun t450 => ((impl_PartAt.f k t447 t450).bind fun bt453 => ((laws_eqIntResult.f bt453.1 bt453.2 t444 t445).bind fun t456 => (if t456 = true then ((laws_toByteS.f k l0).bind fun t457 => ((laws_eqByteS.f k t447 t457).bind fun t460 => (if t460 = true then ((laws_toInt64S.f k l1).bind fun t461 => ((laws_eqInt64S.f k t450 t461).bind fun t464 => (if t464 = true then (some true) else (some false)))) else (some false)))) else (some false))))) = some true := H
 have A8 := aM A80
 clear A80
 replace H := Option.bind_eq_some_iff.mp H
 obtain ⟨t450, A90, H⟩ := H
 replace H : ((impl_PartAt.f k t447 t450).bind fun bt453 => ((laws_eqIntResult.f bt453.1 bt453.2 t444 t445).bind fun t456 => (if t456 = true then ((laws_toByteS.f k l0).bind fun t457 => ((laws_eqByteS.f k t447 t457).bind fun t460 => (if t460 = true then ((laws_toInt64S.f k l1).bind fun t461 => ((laws_eqInt64S.f k t450 t461).bind fun t464 => (if t464 = true then (some true) else (some false)))) else (some false)))) else (some false)))) = some true := H
 have A9 := aM A90
 clear A90
 replace H := Option.bind_eq_some_iff.mp H
 obtain ⟨⟨t453, t454⟩, A100, H⟩ := H
 replace H : ((laws_eqIntResult.f t453 t454 t444 t445).bind fun t456 => (if t456 = true then ((laws_toByteS.f k l0).bind fun t457 => ((laws_eqByteS.f k t447 t457).bind fun t460 => (if t460 = true then ((laws_toInt64S.f k l1).bind fun t461 => ((laws_eqInt64S.f k t450 t461).bind fun t464 => (if t464 = true then (some true) else (some false)))) else (some false)))) else (some false))) = some true := H
 have A10 := aM A100
 clear A100
 replace H := Option.bind_eq_some_iff.mp H
 obtain ⟨t456, A110, H⟩ := H
 replace H : (if t456 = true then ((laws_toByteS.f k l0).bind fun t457 => ((laws_eqByteS.f k t447 t457).bind fun t460 => (if t460 = true then ((laws_toInt64S.f k l1).bind fun t461 => ((laws_eqInt64S.f k t450 t461).bind fun t464 => (if t464 = true then (some true) else (some false)))) else (some false)))) else (some false)) = some true := H
 have A11 := aM A110
 clear A110
 (try simp only [c4b0, c4b1])
 by_cases c12 : t456 = true
 ·subst c12
  have H1 : ((laws_toByteS.f k l0).bind fun t457 => ((laws_eqByteS.f k t447 t457).bind fun t460 => (if t460 = true then ((laws_toInt64S.f k l1).bind fun t461 => ((laws_eqInt64S.f k t450 t461).bind fun t464 => (if t464 = true then (some true) else (some false)))) else (some false)))) = some true := zz29
  clear H
  have H := H1
  clear H1
  replace H := Option.bind_eq_some_iff.mp H
  obtain ⟨t457, A130, H⟩ := H
  replace H : ((laws_eqByteS.f k t447 t457).bind fun t460 => (if t460 = true then ((laws_toInt64S.f k l1).bind fun t461 => ((laws_eqInt64S.f k t450 t461).bind fun t464 => (if t464 = true then (some true) else (some false)))) else (some false))) = some true := H
  have A13 := aM A130
  clear A130
  replace H := Option.bind_eq_some_iff.mp H
  obtain ⟨t460, A140, H⟩ := H
  replace H : (if t460 = true then ((laws_toInt64S.f k l1).bind fun t461 => ((laws_eqInt64S.f k t450 t461).bind fun t464 => (if t464 = true then (some true) else (some false)))) else (some false)) = some true := H
  have A14 := aM A140
  clear A140
  by_cases c15 : t460 = true
  ·subst c15
   have H1 : ((laws_toInt64S.f k l1).bind fun t461 => ((laws_eqInt64S.f k t450 t461).bind fun t464 => (if t464 = true then (some true) else (some false)))) = some true := zz29
   clear H
   have H := H1
   clear H1
   replace H := Option.bind_eq_some_iff.mp H
   obtain ⟨t461, A160, H⟩ := H
   replace H : ((laws_eqInt64S.f k t450 t461).bind fun t464 => (if t464 = true then (some true) else (some false))) = some true := H
   have A16 := aM A160
   clear A160
   replace H := Option.bind_eq_some_iff.mp H
   obtain ⟨t464, A170, H⟩ := H
   replace H : (if t464 = true then (some true) else (some false)) = some true := H
   have A17 := aM A170
   clear A170
   by_cases c18 : t464 = true
   ·subst c18
    have H1 : (some true) = some true := rfl
    clear H
    have H := H1
    clear H1
    have HTR_ := Option.some.inj H
    go_wp2_with (first | ((with_reducible refine gate_callee (f := 13) rfl ?_); refine gL_ (some 16) Tryd.func13 #[.slice A0 l0.length c0] ?_; (with_reducible refine (laws_toByteS.calls k _ _ l0 t438 _ ?side1 ?side2 A5.out).mono ?_); (case side1 => exact zz40 HR0.out); (case side2 => exact HC0.out); rintro e w19 ⟨v439, rfl, ho0, hb⟩; refine ⟨_, rfl, ?_⟩; have HO440 := aM (Kd.R_lower ho0 (below_size bB)); replace HB := aM (below_step bB hb); (try clear ho0)) | ((with_reducible refine gate_callee (f := 21) rfl ?_); refine gL_ (some 18) Tryd.func21 #[.slice A1 l1.length c1] ?_; (with_reducible refine (laws_toInt64S.calls k _ _ l1 t441 _ ?side1 ?side2 A6.out).mono ?_); (case side1 => exact zz6 HR1.out); (case side2 => exact HC1.out); rintro e w20 ⟨v442, rfl, ho0, hb⟩; refine ⟨_, rfl, ?_⟩; replace HO440 := aM (Kd.R_below (bR HO440) hb); have HO443 := aM (Kd.R_lower ho0 (below_size bB)); replace HB := aM (below_step bB hb); (try clear ho0); obtain ⟨Ao21, co21, eo21⟩ := Kd.R_slice HO440.out; subst eo21; obtain ⟨Ao22, co22, eo22⟩ := Kd.R_slice HO443.out; subst eo22) | ((with_reducible refine gate_callee (f := 20) rfl ?_); refine gL_ (some 19) Tryd.func20 #[.slice Ao21 t438.length co21, .slice Ao22 t441.length co22] ?_; (with_reducible refine (spec_PartAt.calls k _ _ t438 _ _ t441 t444 t445 _ ?side1 ?side2 ?side3 ?side4 A7.out).mono ?_); (case side1 => exact zz7 HO440.out); (case side2 => exact (Kd.R_reads' HO440.out).2.1); (case side3 => exact zz7 HO443.out); (case side4 => exact (Kd.R_reads' HO443.out).2.1); rintro e w23 ⟨rfl, hb⟩; refine ⟨_, rfl, ?_⟩; replace HO440 := aM (Kd.R_below (bR HO440) hb); replace HO443 := aM (Kd.R_below (bR HO443) hb); replace HB := aM (below_step bB hb); (try clear hi)) | ((with_reducible refine gate_dst (N := 5) rfl ?_); refine box_event ?hg (N := 5) ?hd (cs := #[.int .i64 0, .int .i64 0]) (t := 39) ?hr ?_; (case hd => rfl); (case hg => rfl); (case hr => exact zz13); intro gb446 hg w24 hbox hb; replace HO440 := aM (Kd.R_below (bR HO440) hb); replace HO443 := aM (Kd.R_below (bR HO443) hb); have BK446 := aM (hbox); have GW446 := aM ((zz18 : w.heap.size ≤ gb446)); have GE446 := aM ((zz18 : w.heap.size ≤ gb446)); replace HB := aM (below_step bB hb); clear hb hbox hg; have hcz25_0 : w24.cell? ⟨gb446, 0, none⟩ = some (.int .i64 0) := (blk_cell BK446.out 0).trans rfl; have hcz25_1 : w24.cell? ⟨gb446, 1, none⟩ = some (.int .i64 0) := (blk_cell BK446.out 1).trans rfl; have hfz25_0 := blk_frozen BK446.out 0; have hfz25_1 := blk_frozen BK446.out 1) | ((with_reducible refine gate_callee (f := 13) rfl ?_); refine gL_ (some 21) Tryd.func13 #[.slice A0 l0.length c0] ?_; (with_reducible refine (laws_toByteS.calls k _ _ l0 t447 _ ?side1 ?side2 A8.out).mono ?_); (case side1 => exact Kd.C_below HR0.out (bG GE446)); (case side2 => exact HC0.out); rintro e w26 ⟨v448, rfl, ho0, hb⟩; refine ⟨_, rfl, ?_⟩; replace HO443 := aM (Kd.R_below (zz31 HO443.out BK446.out) hb); have HO449 := aM (Kd.R_lower (Kd.R_new' ho0 (Kd.R_lt (zz31 HO440.out BK446.out))) (below_size (bG GE446))); replace HO440 := aM (Kd.R_elder' (zz31 HO440.out BK446.out) (Kd.R_base ho0) hb); replace BK446 := aM (blk_below (g := gb446) (o := .cells #[.int .i64 t444, .int .i64 t445] 39 (0, 0)) (by (with_reducible repeat (first | refine blk_drewN ?_ _ | refine blk_drew ?_ | refine blk_alloc ?_ _)); refine blk_put (cs := #[.int .i64 t444, .int .i64 0]) ?_ 1 _ rfl; (with_reducible repeat (first | refine blk_drewN ?_ _ | refine blk_drew ?_ | refine blk_alloc ?_ _)); refine blk_put (cs := #[.int .i64 0, .int .i64 0]) ?_ 0 _ rfl; (with_reducible repeat (first | refine blk_drewN ?_ _ | refine blk_drew ?_ | refine blk_alloc ?_ _)); exact BK446.out) hb); replace HB := aM (below_step (bG GE446) hb); (try clear ho0)) | ((with_reducible refine gate_callee (f := 21) rfl ?_); refine gL_ (some 23) Tryd.func21 #[.slice A1 l1.length c1] ?_; (with_reducible refine (laws_toInt64S.calls k _ _ l1 t450 _ ?side1 ?side2 A9.out).mono ?_); (case side1 => exact zz6 HR1.out); (case side2 => exact HC1.out); rintro e w27 ⟨v451, rfl, ho0, hb⟩; refine ⟨_, rfl, ?_⟩; replace HO440 := aM (Kd.R_below (bR HO440) hb); replace HO449 := aM (Kd.R_below (bR HO449) hb); have HO452 := aM (Kd.R_lower (Kd.R_new' ho0 (Kd.R_lt (bR HO443))) (below_size (bG GE446))); replace HO443 := aM (Kd.R_elder' (bR HO443) (Kd.R_base ho0) hb); replace BK446 := aM (blk_below (g := gb446) (o := .cells #[.int .i64 t444, .int .i64 t445] 39 (0, 0)) (bL BK446) hb); replace HB := aM (below_step (bG GE446) hb); (try clear ho0); obtain ⟨Ao28, co28, eo28⟩ := Kd.R_slice HO449.out; subst eo28; obtain ⟨Ao29, co29, eo29⟩ := Kd.R_slice HO452.out; subst eo29) | ((with_reducible refine gate_callee (f := 22) rfl ?_); refine gL_ (some 26) Tryd.func22 #[.slice Ao28 t447.length co28, .slice Ao29 t450.length co29] ?_; (with_reducible refine (impl_PartAt.calls k _ _ t447 _ _ t450 t453 t454 _ ?side1 ?side2 ?side3 ?side4 A10.out).mono ?_); (case side1 => exact zz7 HO449.out); (case side2 => exact (Kd.R_reads' HO449.out).2.1); (case side3 => exact zz7 HO452.out); (case side4 => exact (Kd.R_reads' HO452.out).2.1); rintro e w30 ⟨rfl, hb⟩; refine ⟨_, rfl, ?_⟩; replace HO440 := aM (Kd.R_below (bR HO440) hb); replace HO443 := aM (Kd.R_below (bR HO443) hb); replace HO449 := aM (Kd.R_below (bR HO449) hb); replace HO452 := aM (Kd.R_below (bR HO452) hb); replace BK446 := aM (blk_below (g := gb446) (o := .cells #[.int .i64 t444, .int .i64 t445] 39 (0, 0)) (bL BK446) hb); replace HB := aM (below_step (bG GE446) hb); (try clear hi)) | ((with_reducible refine gate_dst (N := 8) rfl ?_); refine box_event ?hg (N := 8) ?hd (cs := #[.int .i64 0, .int .i64 0]) (t := 39) ?hr ?_; (case hd => rfl); (case hg => rfl); (case hr => exact zz13); intro gb455 hg w31 hbox hb; replace HO440 := aM (Kd.R_below (bR HO440) hb); replace HO443 := aM (Kd.R_below (bR HO443) hb); replace HO449 := aM (Kd.R_below (bR HO449) hb); replace HO452 := aM (Kd.R_below (bR HO452) hb); have BK455 := aM (hbox); have GW455 := aM ((by rw [hg]; exact (below_size (bG GE446)) : w.heap.size ≤ gb455)); have GE455 := aM ((by rw [hg]; exact (below_size (bG GE446)) : w.heap.size ≤ gb455)); replace HB := aM (below_step (bG GE446) hb); have NB446_455 := aM ((by rw [hg]; exact Nat.ne_of_lt (blk_lt (g := gb446) (o := .cells #[.int .i64 t444, .int .i64 t445] 39 (0, 0)) (bL BK446)) : gb446 ≠ gb455)); have NB455_446 := aM ((by rw [hg]; exact Nat.ne_of_gt (blk_lt (g := gb446) (o := .cells #[.int .i64 t444, .int .i64 t445] 39 (0, 0)) (bL BK446)) : gb455 ≠ gb446)); replace BK446 := aM (blk_below (g := gb446) (o := .cells #[.int .i64 t444, .int .i64 t445] 39 (0, 0)) (bL BK446) hb); clear hb hbox hg; have hnb32 := NB455_446.out; have hnc32 := NB446_455.out; have hcz33_0 : w31.cell? ⟨gb455, 0, none⟩ = some (.int .i64 0) := (blk_cell BK455.out 0).trans rfl; have hcz33_1 : w31.cell? ⟨gb455, 1, none⟩ = some (.int .i64 0) := (blk_cell BK455.out 1).trans rfl; have hfz33_0 := blk_frozen BK455.out 0; have hfz33_1 := blk_frozen BK455.out 1; have hcz34_0 : w31.cell? ⟨gb446, 0, none⟩ = some (.int .i64 t444) := (blk_cell BK446.out 0).trans rfl; have hcz34_1 : w31.cell? ⟨gb446, 1, none⟩ = some (.int .i64 t445) := (blk_cell BK446.out 1).trans rfl; have hfz34_0 := blk_frozen BK446.out 0; have hfz34_1 := blk_frozen BK446.out 1) | ((with_reducible refine gate_callee (f := 23) rfl ?_); refine gL_ (some 29) Tryd.func23 #[.agg #[.int .i64 t453, .int .i64 t454], .agg #[.int .i64 t444, .int .i64 t445]] ?_; (with_reducible refine (laws_eqIntResult.calls t453 t454 t444 t445 true _ A11.out).mono ?_); rintro e w35 ⟨rfl, hb⟩; refine ⟨_, rfl, ?_⟩; replace HO440 := aM (Kd.R_below (zz24 HO440.out BK455.out) hb); replace HO443 := aM (Kd.R_below (zz24 HO443.out BK455.out) hb); replace HO449 := aM (Kd.R_below (zz24 HO449.out BK455.out) hb); replace HO452 := aM (Kd.R_below (zz24 HO452.out BK455.out) hb); replace BK446 := aM (blk_below (g := gb446) (o := .cells #[.int .i64 t444, .int .i64 t445] 39 (0, 0)) (zz19 NB446_455.out BK446.out) hb); replace BK455 := aM (blk_below (g := gb455) (o := .cells #[.int .i64 t453, .int .i64 t454] 39 (0, 0)) (by (with_reducible repeat (first | refine blk_drewN ?_ _ | refine blk_drew ?_ | refine blk_alloc ?_ _)); refine blk_put (cs := #[.int .i64 t453, .int .i64 0]) ?_ 1 _ rfl; (with_reducible repeat (first | refine blk_drewN ?_ _ | refine blk_drew ?_ | refine blk_alloc ?_ _)); refine blk_put (cs := #[.int .i64 0, .int .i64 0]) ?_ 0 _ rfl; (with_reducible repeat (first | refine blk_drewN ?_ _ | refine blk_drew ?_ | refine blk_alloc ?_ _)); exact BK455.out) hb); replace HB := aM (below_step (bG2 GE446 GE455) hb); (try clear hi)) | ((with_reducible refine gate_callee (f := 13) rfl ?_); refine gL_ (some 33) Tryd.func13 #[.slice A0 l0.length c0] ?_; (with_reducible refine (laws_toByteS.calls k _ _ l0 t457 _ ?side1 ?side2 A13.out).mono ?_); (case side1 => exact zz6 HR0.out); (case side2 => exact HC0.out); rintro e w36 ⟨v458, rfl, ho0, hb⟩; refine ⟨_, rfl, ?_⟩; replace HO443 := aM (Kd.R_below (bR HO443) hb); replace HO452 := aM (Kd.R_below (bR HO452) hb); have HO459 := aM (Kd.R_lower (Kd.R_new' (Kd.R_new' ho0 (Kd.R_lt (bR HO440))) (Kd.R_lt (bR HO449))) (below_size (bG2 GE446 GE455))); replace HO440 := aM (Kd.R_elder' (bR HO440) (Kd.R_base ho0) hb); replace HO449 := aM (Kd.R_elder' (bR HO449) (Kd.R_base ho0) hb); replace BK446 := aM (blk_below (g := gb446) (o := .cells #[.int .i64 t444, .int .i64 t445] 39 (0, 0)) (bL BK446) hb); replace BK455 := aM (blk_below (g := gb455) (o := .cells #[.int .i64 t453, .int .i64 t454] 39 (0, 0)) (bL BK455) hb); replace HB := aM (below_step (bG2 GE446 GE455) hb); (try clear ho0); obtain ⟨Ao37, co37, eo37⟩ := Kd.R_slice HO459.out; subst eo37) | ((with_reducible refine gate_callee (f := 16) rfl ?_); refine gL_ (some 34) Tryd.func16 #[.slice Ao28 t447.length co28, .slice Ao37 t457.length co37] ?_; (with_reducible refine (laws_eqByteS.calls k _ _ t447 _ _ t457 true _ ?side1 ?side2 ?side3 ?side4 A14.out).mono ?_); (case side1 => exact zz7 HO449.out); (case side2 => exact (Kd.R_reads' HO449.out).2.1); (case side3 => exact zz7 HO459.out); (case side4 => exact (Kd.R_reads' HO459.out).2.1); rintro e w' ⟨rfl, ⟨nd, rfl⟩⟩; refine ⟨_, rfl, ?_⟩) | ((with_reducible refine gate_callee (f := 21) rfl ?_); refine gL_ (some 38) Tryd.func21 #[.slice A1 l1.length c1] ?_; (with_reducible refine (laws_toInt64S.calls k _ _ l1 t461 _ ?side1 ?side2 A16.out).mono ?_); (case side1 => repeat (first | exact (Kd.C_below HR1.out (bG2 GE446 GE455)) | (with_reducible refine Kd.C_alloc ?_ _) | (with_reducible refine Kd.C_drewN ?_ _) | (with_reducible refine Kd.C_drew ?_))); (case side2 => exact HC1.out); rintro e w38 ⟨v462, rfl, ho0, hb⟩; refine ⟨_, rfl, ?_⟩; replace HO440 := aM (Kd.R_below (bR HO440) hb); replace HO449 := aM (Kd.R_below (bR HO449) hb); replace HO459 := aM (Kd.R_below (bR HO459) hb); have HO463 := aM (Kd.R_lower (Kd.R_new' (Kd.R_new' ho0 (Kd.R_lt (bR HO443))) (Kd.R_lt (bR HO452))) (below_size (bG2 GE446 GE455))); replace HO443 := aM (Kd.R_elder' (bR HO443) (Kd.R_base ho0) hb); replace HO452 := aM (Kd.R_elder' (bR HO452) (Kd.R_base ho0) hb); replace BK446 := aM (blk_below (g := gb446) (o := .cells #[.int .i64 t444, .int .i64 t445] 39 (0, 0)) (bL BK446) hb); replace BK455 := aM (blk_below (g := gb455) (o := .cells #[.int .i64 t453, .int .i64 t454] 39 (0, 0)) (bL BK455) hb); replace HB := aM (below_step (bG2 GE446 GE455) hb); (try clear ho0); obtain ⟨Ao39, co39, eo39⟩ := Kd.R_slice HO463.out; subst eo39) | ((with_reducible refine gate_callee (f := 24) rfl ?_); refine gL_ (some 39) Tryd.func24 #[.slice Ao29 t450.length co29, .slice Ao39 t461.length co39] ?_; (with_reducible refine (laws_eqInt64S.calls k _ _ t450 _ _ t461 true _ ?side1 ?side2 ?side3 ?side4 A17.out).mono ?_); (case side1 => exact zz7 HO452.out); (case side2 => exact (Kd.R_reads' HO452.out).2.1); (case side3 => exact zz7 HO463.out); (case side4 => exact (Kd.R_reads' HO463.out).2.1); rintro e w' ⟨rfl, ⟨nd, rfl⟩⟩; refine ⟨_, rfl, ?_⟩))
    go_ret
    exact ⟨bE, bG2 GE446 GE455⟩
   replace c18 := Bool.eq_false_iff.mpr c18
   subst c18
   have H1 : (some false) = some true := zz15
   exact absurd H1 (by simp)
  replace c15 := Bool.eq_false_iff.mpr c15
  subst c15
  have H1 : (some false) = some true := zz15
  exact absurd H1 (by simp)
 replace c12 := Bool.eq_false_iff.mpr c12
 subst c12
 have H1 : (some false) = some true := zz15
 exact absurd H1 (by simp)
def laws_FnExactPartAt.Pure : Prop := ∀ (l0 : List Int) (l1 : List Int), l0.length ≤ maxLen → l0.length * 1 ≤ 140737488351232 → (∀ x ∈ l0, (Lit.int .u8 x).wf = true) → l1.length ≤ maxLen → l1.length * 8 ≤ 140737488351232 → (∀ x ∈ l1, (Lit.int .i64 x).wf = true) → ∃ k, laws_FnExactPartAt.f k l0 l1 = some true
theorem laws_FnExactPartAt.walk (P : laws_FnExactPartAt.Pure) (a0 : Option Addr) (len0 cap0 : Nat) (z0 : List Int) (a1 : Option Addr) (len1 cap1 : Nat) (z1 : List Int) (w : World) (w0 : (a0 = none ∧ len0 = 0 ∧ cap0 = 0 ∧ z0 = []) ∨ ∃ x, a0 = some x ∧ len0 ≤ cap0 ∧ cap0 ≤ maxLen ∧ z0.length = cap0 ∧ (∀ i, i < z0.length → w.cell? (x.add i) = some (.int .u8 (z0.getD i 0))) ∧ ∀ n ∈ z0, (Lit.int .u8 n).wf = true) (y0 : len0 * 1 ≤ 140737488351232) (w1 : (a1 = none ∧ len1 = 0 ∧ cap1 = 0 ∧ z1 = []) ∨ ∃ x, a1 = some x ∧ len1 ≤ cap1 ∧ cap1 ≤ maxLen ∧ z1.length = cap1 ∧ (∀ i, i < z1.length → w.cell? (x.add i) = some (.int .i64 (z1.getD i 0))) ∧ ∀ n ∈ z1, (Lit.int .i64 n).wf = true) (y1 : len1 * 8 ≤ 140737488351232) :
  Calls Tryd.prog 5 #[.slice a0 len0 cap0, .slice a1 len1 cap1] w fun e w' => e = .returned (.bool true) ∧ Below w.heap.size w w' := by
 obtain ⟨l0, rfl, hr0, hm0, hw0, hc0⟩ := ReadsInt.ofRowC w0
 obtain ⟨l1, rfl, hr1, hm1, hw1, hc1⟩ := ReadsInt.ofRowC w1
 obtain ⟨k, h⟩ := P l0 l1 hm0 y0 hw0 hm1 y1 hw1
 refine (laws_FnExactPartAt.calls k _ _ l0 _ _ l1 w (Kd.C_of_reads (d := (0 : Int)) (h1 := fun _ => rfl) hr0) hc0 (Kd.C_of_reads (d := (0 : Int)) (h1 := fun _ => rfl) hr1) hc1 h).mono ?_
 rintro e w' ⟨rfl, hd⟩
 exact ⟨rfl, hd⟩
end Go.Proofs.YtecpanfndodjgaaDoor.PPartAt
