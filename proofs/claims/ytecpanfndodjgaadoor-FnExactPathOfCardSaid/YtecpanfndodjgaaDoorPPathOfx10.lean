/- Part of the proof; words that it uses. -/
import Derived.Test.YtecpanfndodjgaaDoorPPathOfx0
import Derived.Test.YtecpanfndodjgaaDoorPPathOfx6
import Derived.Test.YtecpanfndodjgaaDoorPPathOfx9
namespace Go.Proofs.YtecpanfndodjgaaDoor.PPathOf
open Go.RowKit Go.Proofs.YtecpanfndodjgaaDoorW.PrintWords Go.Proofs.YtecpanfndodjgaaDoorW.PrintLast Go.Proofs.YtecpanfndodjgaaDoorW.PrintMore
attribute [local go_sem] max2_int max_two
set_option linter.unusedVariables false
set_option linter.unusedSimpArgs false
def impl_length_byte.f (l0 : List Int) : Option (Int) := some (l0.length : Int)
set_option maxHeartbeats 8000000 in
set_option maxRecDepth 100000 in
theorem impl_length_byte.calls (A0 : Option Addr) (c0 : Nat) (l0 : List Int) (r : Int) (w : World) (hr0 : Kd.C (Kd.int .u8) w A0 l0.length l0) (hc0 : l0.length ≤ c0) (h : impl_length_byte.f l0 = some r) :
  Calls Tryd.prog 87 #[.slice A0 l0.length c0] w fun e w' => e = .returned (.int .i64 r) ∧ Drawn0 w w' := by
 have HR0 := aM hr0
 have HC0 := aM hc0
 clear hr0 hc0
 have H : (some (l0.length : Int)) = some r := h
 clear h
 obtain rfl := Option.some.inj H
 go_enter Tryd.func87, Tryd.ntmps87
 go_wp2
 go_ret
 exact ⟨bS, zz6⟩
def impl_partsOf.f (k : Nat) (l0 : List Int) : Option ((List (S23))) := (impl_length_byte.f l0).bind fun t432 => ((impl_parser_part.f k l0 0 t432 (-1) 0 0 ([] : List (S23))).bind fun t433 => (some t433))
set_option maxHeartbeats 8000000 in
set_option maxRecDepth 100000 in
theorem impl_partsOf.calls (k : Nat) (A0 : Option Addr) (c0 : Nat) (l0 : List Int) (r : List (S23)) (w : World) (hr0 : Kd.C (Kd.int .u8) w A0 l0.length l0) (hc0 : l0.length ≤ c0) (h : impl_partsOf.f k l0 = some r) :
  Calls Tryd.prog 53 #[.slice A0 l0.length c0] w fun e w' => ∃ v0_ : Value, e = .returned (v0_) ∧ Kd.R k23 23 w' w.heap.size (fun _ => True) v0_ r ∧ Below w.heap.size w w' := by
 have hu98 := Tryd.underlying98
 have HR0 := aM hr0
 have HC0 := aM hc0
 clear hr0 hc0
 have HB := aM (Below.refl w.heap.size w)
 have H : ((impl_length_byte.f l0).bind fun t432 => ((impl_parser_part.f k l0 0 t432 (-1) 0 0 ([] : List (S23))).bind fun t433 => (some t433))) = some r := h
 clear h
 replace H := Option.bind_eq_some_iff.mp H
 obtain ⟨t432, A20, H⟩ := H
 replace H : ((impl_parser_part.f k l0 0 t432 (-1) 0 0 ([] : List (S23))).bind fun t433 => (some t433)) = some r := H
 have A2 := aM A20
 clear A20
 replace H := Option.bind_eq_some_iff.mp H
 obtain ⟨t433, A30, H⟩ := H
 replace H : (some t433) = some r := H
 have A3 := aM A30
 clear A30
 obtain rfl := Option.some.inj H
 go_enter Tryd.func53, Tryd.ntmps53
 go_wp2_with (first | ((with_reducible refine gate_dst (N := 6) rfl ?_); refine box_event ?hg (N := 6) ?hd (cs := #[.slice A0 l0.length c0, .slice none 0 0]) (t := 98) ?hr ?_; (case hd => rfl); (case hg => rfl); (case hr => exact zz12); intro gb431 hg w4 hbox hb; have BK431 := aM (hbox); have GW431 := aM ((zz20 : w.heap.size ≤ gb431)); have GE431 := aM ((zz20 : w.heap.size ≤ gb431)); replace HB := aM (below_step bB hb); clear hb hbox hg) | ((with_reducible refine gate_callee (f := 87) rfl ?_); refine gL_ (some 9) Tryd.func87 #[.slice A0 l0.length c0] ?_; (with_reducible refine (impl_length_byte.calls _ _ l0 t432 _ ?side1 ?side2 A2.out).mono ?_); (case side1 => exact zz5 HR0.out); (case side2 => exact HC0.out); rintro e w' ⟨rfl, ⟨nd, rfl⟩⟩; refine ⟨_, rfl, ?_⟩; (try (rw [drewN_self w4]; generalize hq_ : World.drewN w4 _ = w4; have n0_ : Aside0 (w4.heap[gb431]? = some (.cells #[.slice A0 l0.length c0, .slice none 0 0] 98 (0, 0))) := ⟨by rw [← hq_]; exact (bL BK431)⟩; have n1_ : Aside0 (Below w.heap.size w w4) := ⟨by rw [← hq_]; exact (bG GE431)⟩; clear BK431 HB hq_; have BK431 := n0_; have HB := n1_; clear n0_ n1_)); have hcz5_0 : w4.cell? ⟨gb431, 0, none⟩ = some (.slice A0 l0.length c0) := (blk_cell BK431.out 0).trans rfl; have hcz5_1 : w4.cell? ⟨gb431, 1, none⟩ = some (.slice none 0 0) := (blk_cell BK431.out 1).trans rfl; have hfz5_0 := blk_frozen BK431.out 0; have hfz5_1 := blk_frozen BK431.out 1) | ((with_reducible refine gate_callee (f := 86) rfl ?_); refine gL_ (some 10) Tryd.func86 #[.pointer (some ⟨gb431, 0, none⟩), .int .i64 0, .int .i64 t432, .int .i64 (-1), .int .i64 0, .int .i64 0] ?_; (refine (impl_parser_part.calls k A0 c0 l0 0 t432 (-1) 0 0 (fun k_ => some k_ = (.slice none 0 0 : Value).ownBlock ∨ k_ = gb431) (.slice none 0 0) ([] : List (S23)) t433 w _ gb431 ?sidg GE431.out (.inr rfl) ?side1 ?side2 ?side3 ?side4 A3.out).mono ?_); (case sidg => (with_reducible repeat (first | refine blk_drewN ?_ _ | refine blk_drew ?_ | refine blk_alloc ?_ _)); exact BK431.out); (case side1 => exact zz38 GE431.out); (case side2 => exact Kd.C_kept_came (Kd.heap_int .u8) HR0.out (bG GE431) (fun k_ hs_ => hs_.elim (fun hs_ => (fun e_ => by simp [Value.ownBlock] at e_) hs_) (fun e_ => by rw [e_]; exact GW431.out))); (case side3 => exact HC0.out); (case side4 => exact Kd.R_mono (Kd.R_nil _ _ _ _ _) (fun k_ hk_ => .inl hk_)); rintro e w6 ⟨rfl, v434, hbk_, ho0, hb, hkp⟩; refine ⟨_, rfl, ?_⟩; replace BK431 := aM hbk_; have HO435 := aM (Kd.R_mono (ok' := fun k_ => True) ho0 (fun k_ hk_ => trivial)); replace HB := aM (hb); (try clear hkp); (try clear ho0); obtain ⟨Ao7, co7, eo7⟩ := Kd.R_slice HO435.out; subst eo7; have hcz8_0 : w6.cell? ⟨gb431, 0, none⟩ = some (.slice A0 l0.length c0) := (blk_cell BK431.out 0).trans rfl; have hcz8_1 : w6.cell? ⟨gb431, 1, none⟩ = some (.slice Ao7 t433.length co7) := (blk_cell BK431.out 1).trans rfl; have hfz8_0 := blk_frozen BK431.out 0; have hfz8_1 := blk_frozen BK431.out 1))
 go_ret
 exact ⟨_, bE, bR HO435, bG GE431⟩
def impl_partCode.f (k : Nat) (l0 : List Int) (a1 : Int) : Option ((List (S23)) × Int) := if (l0.length : Int) > 400 then (some (([] : List (S23)), 2)) else ((impl_partsOf.f k l0).bind fun t436 => ((impl_Part.f t436).bind fun t439 => ((impl_within.f a1 0 (wrap64 (t439 - 1))).bind fun t440 => (if t440 = true then (some (t436, 0)) else (some (([] : List (S23)), 3))))))
set_option maxHeartbeats 8000000 in
set_option maxRecDepth 100000 in
theorem impl_partCode.calls (k : Nat) (A0 : Option Addr) (c0 : Nat) (l0 : List Int) (a1 : Int) (r1 : List (S23)) (r2 : Int) (w : World) (hr0 : Kd.C (Kd.int .u8) w A0 l0.length l0) (hc0 : l0.length ≤ c0) (h : impl_partCode.f k l0 a1 = some (r1, r2)) :
  Calls Tryd.prog 49 #[.slice A0 l0.length c0, .int .i64 a1] w fun e w' => ∃ v0_ : Value, e = .returned (.tuple #[v0_, .int .i64 r2]) ∧ Kd.R k23 23 w' w.heap.size (fun _ => True) v0_ r1 ∧ Below w.heap.size w w' := by
 have HR0 := aM hr0
 have HC0 := aM hc0
 clear hr0 hc0
 have HB := aM (Below.refl w.heap.size w)
 have H : (if (l0.length : Int) > 400 then (some (([] : List (S23)), 2)) else ((impl_partsOf.f k l0).bind fun t436 => ((impl_Part.f t436).bind fun t439 => ((impl_within.f a1 0 (wrap64 (t439 - 1))).bind fun t440 => (if t440 = true then (some (t436, 0)) else (some (([] : List (S23)), 3))))))) = some (r1, r2) := h
 clear h
 by_cases c3 : (l0.length : Int) > 400
 ·rw [if_pos c3] at H
  have c3b0 : decide (400 < (l0.length : Int)) = true := decide_eq_true c3
  have c3b1 : decide (400 < l0.length) = true := decide_eq_true (by omega)
  clear c3
  simp only [Option.some.injEq, Prod.mk.injEq] at H
  obtain ⟨rfl, rfl⟩ := H
  go_enter Tryd.func49, Tryd.ntmps49
  go_wp2
  go_ret2
  exact ⟨_, bE, zz22, bB⟩
 rw [if_neg c3] at H
 have c3b0 : decide (400 < (l0.length : Int)) = false := decide_eq_false c3
 have c3b1 : decide (400 < l0.length) = false := decide_eq_false (by omega)
 clear c3
 replace H := Option.bind_eq_some_iff.mp H
 obtain ⟨t436, A40, H⟩ := H
 replace H : ((impl_Part.f t436).bind fun t439 => ((impl_within.f a1 0 (wrap64 (t439 - 1))).bind fun t440 => (if t440 = true then (some (t436, 0)) else (some (([] : List (S23)), 3))))) = some (r1, r2) := H
 have A4 := aM A40
 clear A40
 replace H := Option.bind_eq_some_iff.mp H
 obtain ⟨t439, A50, H⟩ := H
 replace H : ((impl_within.f a1 0 (wrap64 (t439 - 1))).bind fun t440 => (if t440 = true then (some (t436, 0)) else (some (([] : List (S23)), 3)))) = some (r1, r2) := H
 have A5 := aM A50
 clear A50
 replace H := Option.bind_eq_some_iff.mp H
 obtain ⟨t440, A60, H⟩ := H
 replace H : (if t440 = true then (some (t436, 0)) else (some (([] : List (S23)), 3))) = some (r1, r2) := H
 have A6 := aM A60
 clear A60
 by_cases c7 : t440 = true
 ·subst c7
  have H1 : (some (t436, 0)) = some (r1, r2) := zz25
  clear H
  have H := H1
  clear H1
  simp only [Option.some.injEq, Prod.mk.injEq] at H
  obtain ⟨rfl, rfl⟩ := H
  go_enter Tryd.func49, Tryd.ntmps49
  go_wp2_with (first | ((with_reducible refine gate_callee (f := 53) rfl ?_); refine gL_ (some 11) Tryd.func53 #[.slice A0 l0.length c0] ?_; (with_reducible refine (impl_partsOf.calls k _ _ l0 t436 _ ?side1 ?side2 A4.out).mono ?_); (case side1 => exact zz32 HR0.out); (case side2 => exact HC0.out); rintro e w8 ⟨v437, rfl, ho0, hb⟩; refine ⟨_, rfl, ?_⟩; have HO438 := aM (Kd.R_lower ho0 (below_size bB)); replace HB := aM (below_step bB hb); (try clear ho0); obtain ⟨Ao9, co9, eo9⟩ := Kd.R_slice HO438.out; subst eo9) | ((with_reducible refine gate_callee (f := 85) rfl ?_); refine gL_ (some 14) Tryd.func85 #[.slice Ao9 t436.length co9] ?_; (with_reducible refine (impl_Part.calls _ _ t436 t439 _ ?side1 ?side2 A5.out).mono ?_); (case side1 => exact zz7 HO438.out); (case side2 => exact (Kd.R_reads' HO438.out).2.1); rintro e w' ⟨rfl, ⟨nd, rfl⟩⟩; refine ⟨_, rfl, ?_⟩) | ((with_reducible refine gate_callee (f := 84) rfl ?_); refine gL_ (some 16) Tryd.func84 #[.int .i64 a1, .int .i64 0, .int .i64 (wrap64 (t439 - 1))] ?_; (with_reducible refine (impl_within.calls a1 0 (wrap64 (t439 - 1)) true _ A6.out).mono ?_); rintro e w' ⟨rfl, ⟨nd, rfl⟩⟩; refine ⟨_, rfl, ?_⟩))
  go_ret2
  exact ⟨_, bE, bR HO438, bB⟩
 replace c7 := Bool.eq_false_iff.mpr c7
 subst c7
 have H1 : (some (([] : List (S23)), 3)) = some (r1, r2) := zz14
 clear H
 have H := H1
 clear H1
 simp only [Option.some.injEq, Prod.mk.injEq] at H
 obtain ⟨rfl, rfl⟩ := H
 go_enter Tryd.func49, Tryd.ntmps49
 go_wp2_with (first | ((with_reducible refine gate_callee (f := 53) rfl ?_); refine gL_ (some 11) Tryd.func53 #[.slice A0 l0.length c0] ?_; (with_reducible refine (impl_partsOf.calls k _ _ l0 t436 _ ?side1 ?side2 A4.out).mono ?_); (case side1 => exact zz32 HR0.out); (case side2 => exact HC0.out); rintro e w10 ⟨v437, rfl, ho0, hb⟩; refine ⟨_, rfl, ?_⟩; have HO438 := aM (Kd.R_lower ho0 (below_size bB)); replace HB := aM (below_step bB hb); (try clear ho0); obtain ⟨Ao11, co11, eo11⟩ := Kd.R_slice HO438.out; subst eo11) | ((with_reducible refine gate_callee (f := 85) rfl ?_); refine gL_ (some 14) Tryd.func85 #[.slice Ao11 t436.length co11] ?_; (with_reducible refine (impl_Part.calls _ _ t436 t439 _ ?side1 ?side2 A5.out).mono ?_); (case side1 => exact zz7 HO438.out); (case side2 => exact (Kd.R_reads' HO438.out).2.1); rintro e w' ⟨rfl, ⟨nd, rfl⟩⟩; refine ⟨_, rfl, ?_⟩) | ((with_reducible refine gate_callee (f := 84) rfl ?_); refine gL_ (some 16) Tryd.func84 #[.int .i64 a1, .int .i64 0, .int .i64 (wrap64 (t439 - 1))] ?_; (with_reducible refine (impl_within.calls a1 0 (wrap64 (t439 - 1)) false _ A6.out).mono ?_); rintro e w' ⟨rfl, ⟨nd, rfl⟩⟩; refine ⟨_, rfl, ?_⟩))
 go_ret2
 exact ⟨_, bE, zz22, bB⟩
def slices_Reverse_int64_int64.l0 : Nat → List Int → Int → Int → Option (List Int)
 | 0, _, _, _ => none
 | k + 1, x0, x2, x3 => if x2 < x3 then (if 0 ≤ x3 then (if x3 < (x0.length : Int) then (if 0 ≤ x2 then (if x2 < (x0.length : Int) then (slices_Reverse_int64_int64.l0 k ((x0.set (x2 : Int).toNat (rd x0 x3)).set (x3 : Int).toNat (rd x0 x2)) (wrap64 (x2 + 1)) (wrap64 (x3 - 1))) else (none)) else (none)) else (none)) else (none)) else (some x0)
def slices_Reverse_int64_int64.f (k : Nat) (l0 : List Int) : Option (List Int) := slices_Reverse_int64_int64.l0 k l0 0 (wrap64 ((l0.length : Int) - 1))
def slices_Reverse_int64_int64.T3 : Bool × List (List Nat × List Nat) := (true, [([], []), ([], []), ([], []), ([], []), ([], []), ([], []), ([4, 5], [4, 5]), ([6], [6]), ([], []), ([], []), ([8, 9], [8, 9]), ([10], [10]), ([0, 1, 0, 1, 4, 5, 6, 7, 11], [0, 1]), ([12, 7, 0, 1, 4, 5, 6, 7, 11], [7, 12]), ([2, 3, 0, 1, 2, 3, 4, 5, 6, 7, 8, 9, 10, 11, 12, 13], [2, 3]), ([14, 11, 13, 0, 1, 2, 3, 4, 5, 6, 7, 8, 9, 10, 11, 12, 13], [11, 14])])
def slices_Reverse_int64_int64.B3 : List Nat := [0, 0, 0, 0, 0, 0, 48, 112, 0, 0, 768, 1792, 4083, 8179, 16383, 32767]
theorem slices_Reverse_int64_int64.tab3 : rtab .any (opsOf Tryd.f57 3) = slices_Reverse_int64_int64.T3 := by kernel_rfl
theorem slices_Reverse_int64_int64.bits3 : waitsOk slices_Reverse_int64_int64.T3.2 slices_Reverse_int64_int64.B3 = true := by kernel_rfl
set_option maxHeartbeats 8000000 in
set_option maxRecDepth 100000 in
theorem slices_Reverse_int64_int64.calls (k : Nat) (P0_ : Nat → Prop) (u9000_ : Value) (l0 : List Int) (r : List Int) (w0 w : World) (hB : Below w0.heap.size w0 w) (ho0 : Kd.R (Kd.int .i64) 2 w w0.heap.size P0_ u9000_ l0) (h : slices_Reverse_int64_int64.f k l0 = some r) :
  Calls Tryd.prog 57 #[u9000_] w fun e w' => e = .returned (.tuple #[]) ∧ Kd.R (Kd.int .i64) 2 w' w0.heap.size (fun k_ => (P0_ k_ ∨ w.heap.size ≤ k_)) u9000_ r ∧ Below w0.heap.size w0 w' ∧ Kept w w' (fun k_ => P0_ k_) := by
 have HO0 := aM (show Kd.R (Kd.int .i64) 2 w w0.heap.size (fun k_ => (P0_ k_ ∨ w.heap.size ≤ k_)) u9000_ l0 from Kd.R_mono ho0 (fun k_ hk => (.inl hk)))
 have HK := aM (Kept.refl w (fun k_ => P0_ k_))
 have HW0 := aM hB.size
 have HB := aM hB
 clear hB
 have H : (slices_Reverse_int64_int64.l0 k l0 0 (wrap64 ((l0.length : Int) - 1))) = some r := h
 clear h
 have H' := aM H
 clear H
 obtain ⟨Ao2, co2, eo2⟩ := Kd.R_slice HO0.out
 subst eo2
 go_enter Tryd.func57, Tryd.ntmps57
 go_wp2
 go_loopg [2, 3] k (fun kq v2 v3 w' => ∃ (x0_1 : List Int) (x2_1 : Int) (x3_1 : Int), v2 = .int .i64 x2_1 ∧ v3 = .int .i64 x3_1 ∧ Aside0 (slices_Reverse_int64_int64.l0 kq x0_1 x2_1 x3_1 = some r) ∧ Aside0 (kq ≤ k) ∧ Aside0 (Kd.R (Kd.int .i64) 2 w' w0.heap.size (fun k_ => (P0_ k_ ∨ w.heap.size ≤ k_)) (.slice Ao2 l0.length co2) x0_1) ∧ Aside0 (Kept w w' (fun k_ => P0_ k_)) ∧ Aside0 (Below w0.heap.size w0 w'))
 case atStart => exact ⟨(l0), (0), (wrap64 ((l0.length : Int) - 1)), bS, bS, H', ⟨Nat.le_refl _⟩, ⟨bR HO0⟩, ⟨bK⟩, ⟨bB⟩⟩
 case round =>
  clear H'
  try clear p2
  obtain ⟨x0_1, x2_1, x3_1, rfl, rfl, HA, HK1, HO_0, HK, HB⟩ := hrel
  have hl0_1 := (Kd.R_reads' HO_0.out).1
  rw [hl0_1] at HO_0
  (try simp only [hl0_1])
  cases gk with
  | zero => exact absurd HA.out (by simp [slices_Reverse_int64_int64.l0])
  | succ k1 =>
   have H := HA.out
   clear HA
   simp only [slices_Reverse_int64_int64.l0] at H
   by_cases c3 : x2_1 < x3_1
   ·rw [if_pos c3] at H
    have c3b0 : decide (x2_1 < x3_1) = true := decide_eq_true c3
    (try simp only [hl0_1] at c3b0)
    clear c3
    by_cases c4 : 0 ≤ x3_1
    ·rw [if_pos c4] at H
     have c4b0 : decide (0 ≤ x3_1) = true := decide_eq_true c4
     (try simp only [hl0_1] at c4b0)
     clear c4
     by_cases c5 : x3_1 < (x0_1.length : Int)
     ·rw [if_pos c5] at H
      have c5b0 : decide (x3_1 < (x0_1.length : Int)) = true := decide_eq_true c5
      (try simp only [hl0_1] at c5b0)
      clear c5
      by_cases c6 : 0 ≤ x2_1
      ·rw [if_pos c6] at H
       have c6b0 : decide (0 ≤ x2_1) = true := decide_eq_true c6
       (try simp only [hl0_1] at c6b0)
       clear c6
       by_cases c7 : x2_1 < (x0_1.length : Int)
       ·rw [if_pos c7] at H
        have c7b0 : decide (x2_1 < (x0_1.length : Int)) = true := decide_eq_true c7
        (try simp only [hl0_1] at c7b0)
        clear c7
        obtain ⟨y443, hy443⟩ : ∃ y_ : List Int, y_ = (x0_1.set (x2_1 : Int).toNat (rd x0_1 x3_1)) := ⟨_, rfl⟩
        replace H : (slices_Reverse_int64_int64.l0 k1 (y443.set (x3_1 : Int).toNat (rd x0_1 x2_1)) (wrap64 (x2_1 + 1)) (wrap64 (x3_1 - 1))) = some r := zz0 hy443
        have Ny443 := aM hy443
        clear hy443
        obtain ⟨y444, hy444⟩ : ∃ y_ : List Int, y_ = (y443.set (x3_1 : Int).toNat (rd x0_1 x2_1)) := ⟨_, rfl⟩
        replace H : (slices_Reverse_int64_int64.l0 k1 y444 (wrap64 (x2_1 + 1)) (wrap64 (x3_1 - 1))) = some r := zz0 hy444
        have Ny444 := aM hy444
        clear hy444
        have H' := aM H
        clear H
        try go_wp2
        replace HO_0 := aM (Kd.R_drew HO_0.out)
        replace HK := aM (Kept.drew HK.out)
        replace HB := aM (below_drew1 HB.out)
        have p441 : 0 ≤ (x3_1 : Int) := pI
        have q441 : x3_1 < (x0_1.length : Int) := pI
        obtain ⟨ad441, e441, hx441_0⟩ := Kd.at_int (Kd.R_reads' HO_0.out).2.2 x3_1 p441 q441
        cases e441
        replace p441 := eq_true p441
        replace q441 := eq_true q441
        have p442 : 0 ≤ (x2_1 : Int) := pI
        have q442 : x2_1 < (x0_1.length : Int) := pI
        obtain ⟨ad442, e442, hx442_0⟩ := Kd.at_int (Kd.R_reads' HO_0.out).2.2 x2_1 p442 q442
        obtain rfl : ad441 = ad442 := (by injection e442)
        replace p442 := eq_true p442
        replace q442 := eq_true q442
        have p8 : 0 ≤ (x2_1 : Int) := pI
        have q8 : (x2_1 : Int) < ((x0_1.length : Int) : Int) := pI
        obtain ⟨go8, co8, eo8, gb8, gl8, cl8, HG8⟩ := Kd.R_form HO_0.out (by omega)
        (first | cases eo8 | (injection eo8 with ea_ en_ ec_; (first | subst ea_ | (injection ea_ with ea_; subst ea_)); subst ec_; clear en_))
        have GB8 := aM gb8
        have GG8 := aM HG8
        clear gb8 gl8 HG8
        have HMgo8 := aM (show (P0_ go8 ∨ w.heap.size ≤ go8) from (HO_0.out.1 _ rfl))
        (first | simp only [add_plain] at hx441_0 | skip)
        (first | simp only [add_plain] at hx442_0 | skip)
        obtain ⟨hx8_0, hf8_0⟩ := Kd.R_celln 0 HO_0.out (x2_1 : Int) p8 q8
        replace p8 := eq_true p8
        replace q8 := eq_true q8
        have HP11 := Kd.R_putn HO_0.out (x2_1 : Int) (rd x0_1 x3_1)
        rw [← Ny443.out] at HP11
        have HQ11 := aM HP11
        clear HP11
        have p9 : 0 ≤ (x3_1 : Int) := pI
        have q9 : (x3_1 : Int) < ((x0_1.length : Int) : Int) := pI
        obtain ⟨hx9_0, hf9_0⟩ := Kd.R_celln 0 HQ11.out (x3_1 : Int) p9 q9
        replace p9 := eq_true p9
        replace q9 := eq_true q9
        have HP12 := Kd.R_putn HQ11.out (x3_1 : Int) (rd x0_1 x2_1)
        rw [← Ny444.out] at HP12
        have HQ12 := aM HP12
        clear HP12
        refine start_ (n := 16) (S := fun w' => w'.cell? ⟨go8, (x3_1).toNat, none⟩ = some (.int .i64 (rd x0_1 x3_1)) ∧ w'.cell? ⟨go8, (x2_1).toNat, none⟩ = some (.int .i64 (rd x0_1 x2_1))) (ds := [13, 15]) (bsA 16 0) (by kernel_rfl) rfl rfl ⟨hx441_0, hx442_0⟩ (fun hHeld => ?_); refine with_tabW slices_Reverse_int64_int64.tab3 slices_Reverse_int64_int64.bits3 (fun HT_ HW_ => ?_)
        generalize wr.drew = w10 at HO_0 HK HB GG8 HQ11 HQ12 hf8_0 hf9_0 hx441_0 hx442_0 hx8_0 hx9_0 hHeld ⊢
        refine pa_ (i := 0) (N := some 14) (bsA 16 1) (h := ?_)
        refine pa_ (i := 1) (N := some 15) (bsA 16 3) (h := ?_)
        refine pa_ (i := 2) (N := some 16) (bsA 16 7) (h := ?_)
        refine pa_ (i := 3) (N := some 17) (bsA 16 15) (h := ?_)
        refine pa_ (i := 4) (N := some 18) (bsA 16 31) (h := ?_)
        refine pa_ (i := 5) (N := some 19) (bsA 16 63) (h := ?_)
        refine pa_ (i := 6) (N := some 20) (bsA 16 127) (h := ?_)
        refine pa_ (i := 8) (N := some 22) (bsA 16 383) (h := ?_)
        refine pa_ (i := 9) (N := some 23) (bsA 16 895) (h := ?_)
        refine pa_ (i := 10) (N := some 24) (bsA 16 1919) (h := ?_)
        refine take_ (i := 7) (N := some 21) (v := ?_) (a' := ?_) (bsA 16 2047) rfl rfl (take_ofW HT_.out HW_.out (by kernel_rfl)) (fun _ _ _ h => h) (Or.inl ⟨by rfl, ?_⟩) hHeld ?_ ?_
        rotate_left
        ·rintro w' ⟨s0, s1⟩
         go_simp
         with_reducible rfl
        rotate_left
        ·simp only [Act.put, List.setIfInBounds_toArray, List.set_cons_zero, List.set_cons_succ, i64_w, i32_w]
         rfl
        refine take_ (i := 11) (N := some 25) (v := ?_) (a' := ?_) (bsA 16 4095) rfl rfl (take_ofW HT_.out HW_.out (by kernel_rfl)) (fun _ _ _ h => h) (Or.inl ⟨by rfl, ?_⟩) hHeld ?_ ?_
        rotate_left
        ·rintro w' ⟨s0, s1⟩
         go_simp
         with_reducible rfl
        rotate_left
        ·simp only [Act.put, List.setIfInBounds_toArray, List.set_cons_zero, List.set_cons_succ, i64_w, i32_w]
         rfl
        refine pa_ (i := 12) (N := some 26) (bsA 16 8191) (h := ?_)
        refine last_ (i := 13) (N := none) (bsA 16 16383) rfl rfl (one_of HT_.out (by kernel_rfl)) (by decide) (fun K hK => ?_)
        refine skip_ (w1 := ?_) (by rfl) rfl ?_ ?_
        rotate_left
        ·go_simp
         rfl
        refine hK.out _ _ ?_
        clear hK K
        refine pa_ (i := 14) (N := some 27) (bsA 16 32767) (h := ?_)
        refine last_ (i := 15) (N := none) (bsA 16 65535) rfl rfl (one_of HT_.out (by kernel_rfl)) (by decide) (fun K hK => ?_)
        refine skip_ (w1 := ?_) (by rfl) rfl ?_ ?_
        rotate_left
        ·go_simp
         rfl
        refine hK.out _ _ ?_
        clear hK K
        refine done_ (done_of HT_.out (by kernel_rfl)) ?_
        try go_wp2
        (try simp only [← hl0_1])
        go_roundg k1
        case measure => have := HK1.out; omega
        case rel => exact ⟨(y444), (wrap64 (x2_1 + 1)), (wrap64 (x3_1 - 1)), bS, bS, H', ⟨by have := HK1.out; omega⟩, ⟨by (try simp only [hl0_1]); (with_reducible repeat (first | apply Kd.R_alloc | apply Kd.R_drewN | apply Kd.R_drew)); exact HQ12.out⟩, ⟨by repeat (first | (with_reducible first | exact HK.out | apply Kept.alloc | apply Kept.drewN | apply Kept.drew | refine Kept.setCell ?_ HMgo8.out _ | refine Kept.setCell ?_ HMgo8.out _) | exact HK.out)⟩, ⟨bG2 GB8 GB8⟩⟩
       rw [if_neg c7] at H
       exact absurd H (by simp)
      rw [if_neg c6] at H
      exact absurd H (by simp)
     rw [if_neg c5] at H
     exact absurd H (by simp)
    rw [if_neg c4] at H
    exact absurd H (by simp)
   rw [if_neg c3] at H
   have c3b0 : decide (x2_1 < x3_1) = false := decide_eq_false c3
   (try simp only [hl0_1] at c3b0)
   clear c3
   obtain rfl := Option.some.inj H
   go_wp2
   first | go_end0 | ((try simp only [Exit.inBlock, Exit.then]); refine bodyPost_ret (results_none rfl _ _ _) rfl ?_)
   exact ⟨bE, (by first | exact (bR HO_0) | (simp only [hl0_1]; exact (bR HO_0))), bB, bK⟩
def impl_PathOf.l0 : Nat → Int → List (S23) → List Int → Option (Int × List Int)
 | 0, _, _, _ => none
 | k + 1, x1, x5, x7 => if x1 > 0 then (if 0 ≤ x1 then (if x1 < (x5.length : Int) then (if x7.length < 17592186044416 then (impl_PathOf.l0 k ((rd_T23 x5 x1).f5) x5 (x7 ++ [(rd_T23 x5 x1).f6])) else (none)) else (none)) else (none)) else ((slices_Reverse_int64_int64.f k x7).bind fun t458 => (some (0, t458)))
def impl_PathOf.f (k : Nat) (l0 : List Int) (a1 : Int) : Option (Int × List Int) := (impl_partCode.f k l0 a1).bind fun bt446 => (if bt446.2 = 0 then (impl_PathOf.l0 k a1 bt446.1 (([] : List Int))) else (some (bt446.2, ([] : List Int))))
set_option maxHeartbeats 8000000 in
set_option maxRecDepth 100000 in
theorem impl_PathOf.calls (k : Nat) (A0 : Option Addr) (c0 : Nat) (l0 : List Int) (a1 : Int) (r1 : Int) (r2 : List Int) (w : World) (hr0 : Kd.C (Kd.int .u8) w A0 l0.length l0) (hc0 : l0.length ≤ c0) (h : impl_PathOf.f k l0 a1 = some (r1, r2)) :
  Calls Tryd.prog 26 #[.slice A0 l0.length c0, .int .i64 a1] w fun e w' => ∃ v1_ : Value, e = .returned (.agg #[.int .i64 r1, v1_]) ∧ Kd.R (Kd.int .i64) 2 w' w.heap.size (fun _ => True) v1_ r2 ∧ Below w.heap.size w w' := by
 have hu46 := Tryd.underlying46
 have HR0 := aM hr0
 have HC0 := aM hc0
 clear hr0 hc0
 have HB := aM (Below.refl w.heap.size w)
 have H : ((impl_partCode.f k l0 a1).bind fun bt446 => (if bt446.2 = 0 then (impl_PathOf.l0 k a1 bt446.1 (([] : List Int))) else (some (bt446.2, ([] : List Int))))) = some (r1, r2) := h
 clear h
 replace H := Option.bind_eq_some_iff.mp H
 obtain ⟨⟨t446, t447⟩, A30, H⟩ := H
 replace H : (if t447 = 0 then (impl_PathOf.l0 k a1 t446 (([] : List Int))) else (some (t447, ([] : List Int)))) = some (r1, r2) := H
 have A3 := aM A30
 clear A30
 by_cases c4 : t447 = 0
 ·rw [if_pos c4] at H
  have c4b0 : (t447 == 0) = true := beq_iff_eq.mpr c4
  have c4b1 : (t447 != 0) = false := bne_eq_false_iff_eq.mpr c4
  clear c4
  obtain ⟨y450, hy450⟩ : ∃ y_ : List Int, y_ = (([] : List Int)) := ⟨_, rfl⟩
  replace H : (impl_PathOf.l0 k a1 t446 y450) = some (r1, r2) := zz0 hy450
  have Ny450 := aM hy450
  clear hy450
  have H' := aM H
  clear H
  go_enter Tryd.func26, Tryd.ntmps26
  go_wp2_with (first | ((with_reducible refine gate_dst (N := 4) rfl ?_); refine box_event ?hg (N := 4) ?hd (cs := #[.int .i64 0, .slice none 0 0]) (t := 46) ?hr ?_; (case hd => rfl); (case hg => rfl); (case hr => exact zz12); intro gb445 hg w5 hbox hb; have BK445 := aM (hbox); have GW445 := aM ((zz20 : w.heap.size ≤ gb445)); have GE445 := aM ((zz20 : w.heap.size ≤ gb445)); replace HB := aM (below_step bB hb); clear hb hbox hg) | ((with_reducible refine gate_callee (f := 49) rfl ?_); refine gL_ (some 11) Tryd.func49 #[.slice A0 l0.length c0, .int .i64 a1] ?_; (with_reducible refine (impl_partCode.calls k _ _ l0 a1 t446 t447 _ ?side1 ?side2 A3.out).mono ?_); (case side1 => exact zz5 HR0.out); (case side2 => exact HC0.out); rintro e w6 ⟨v448, rfl, ho0, hb⟩; refine ⟨_, rfl, ?_⟩; have HO449 := aM (Kd.R_lower ho0 (below_size (bG GE445))); replace BK445 := aM (blk_below (g := gb445) (o := .cells #[.int .i64 0, .slice none 0 0] 46 (0, 0)) (bL BK445) hb); replace HB := aM (below_step (bG GE445) hb); (try clear ho0)) | ((with_reducible refine gate_dst (N := 18) rfl ?_); refine Kd.R_lit (Kd.int .i64) _ 2 ?hg (N := 18) ?hd (xs := ([] : List Int)) (inner := []) (ok := fun _ => True) (okp := fun _ => True) ?hr ?hp (fun _ hk => hk) trivial (Below.refl _ _) (Nat.le_refl _) (by simp) ?_; (case hd => rfl); (case hg => rfl); (case hr => exact zz12); (case hp => exact (Reps.none _ _)); intro v451 w7 ho8 hb hg_ hnew_; clear hg_ hnew_; (first | rw [← Ny450.out] at ho8 | (simp only [Int.reduceToNat] at ho8; rw [← Ny450.out] at ho8)); replace HO449 := aM (Kd.R_below (bR HO449) hb); have HO452 := aM (Kd.R_lower ho8 (below_size (bG GE445))); replace BK445 := aM (blk_below (g := gb445) (o := .cells #[.int .i64 0, .slice none 0 0] 46 (0, 0)) (bL BK445) hb); replace HB := aM (below_step (bG GE445) hb); clear hb ho8))
  go_loopg [1, 7] k (fun kq v1 v7 w' => ∃ (x1_1 : Int) (x7_1 : List Int), v1 = .int .i64 x1_1 ∧ Aside0 (impl_PathOf.l0 kq x1_1 t446 x7_1 = some (r1, r2)) ∧ Aside0 (kq ≤ k) ∧ Aside0 (Kd.R k23 23 w' w.heap.size (fun _ => True) v448 t446) ∧ Aside0 (Kd.R (Kd.int .i64) 2 w' w.heap.size (fun _ => True) v7 x7_1) ∧ Aside0 (w'.heap[gb445]? = some (.cells #[.int .i64 0, (.slice none 0 0)] 46 (0, 0))) ∧ Aside0 (Below w.heap.size w w'))
  case atStart => exact ⟨(a1), (y450), bS, H', ⟨Nat.le_refl _⟩, ⟨bR HO449⟩, ⟨bR HO452⟩, ⟨bL BK445⟩, ⟨bG GE445⟩⟩
  case round =>
   clear H'
   try clear c2
   try clear p2
   try clear c4
   try clear c4b0
   try clear c4b1
   obtain ⟨x1_1, x7_1, rfl, HA, HK1, HO_5, HO_7, BK445, HB⟩ := hrel
   cases gk with
   | zero => exact absurd HA.out (by simp [impl_PathOf.l0])
   | succ k1 =>
    have H := HA.out
    clear HA
    simp only [impl_PathOf.l0] at H
    by_cases c9 : x1_1 > 0
    ·rw [if_pos c9] at H
     have c9b0 : decide (0 < x1_1) = true := decide_eq_true c9
     clear c9
     by_cases c10 : 0 ≤ x1_1
     ·rw [if_pos c10] at H
      have c10b0 : decide (0 ≤ x1_1) = true := decide_eq_true c10
      clear c10
      by_cases c11 : x1_1 < (t446.length : Int)
      ·rw [if_pos c11] at H
       have c11b0 : decide (x1_1 < (t446.length : Int)) = true := decide_eq_true c11
       clear c11
       by_cases c12 : x7_1.length < 17592186044416
       ·rw [if_pos c12] at H
        have LMc12 := aM c12
        clear c12
        obtain ⟨y454, hy454⟩ : ∃ y_ : List Int, y_ = (x7_1 ++ [(rd_T23 t446 x1_1).f6]) := ⟨_, rfl⟩
        replace H : (impl_PathOf.l0 k1 ((rd_T23 t446 x1_1).f5) t446 y454) = some (r1, r2) := zz0 hy454
        have Ny454 := aM hy454
        clear hy454
        have H' := aM H
        clear H
        obtain ⟨Ao13, co13, eo13⟩ := Kd.R_slice HO_5.out
        subst eo13
        have p453 : 0 ≤ (x1_1 : Int) := pI
        have q453 : x1_1 < (t446.length : Int) := pI
        obtain ⟨ad453, e453, hx453_0, hx453_1, hx453_2, hx453_3, hx453_4, hx453_5, hx453_6⟩ := at_T23 (Kd.R_reads' HO_5.out).2.2 x1_1 p453 q453
        cases e453
        replace p453 := eq_true p453
        replace q453 := eq_true q453
        go_wp2_with (first | ((with_reducible refine gate_builtin (b := .append) (xs := #[.tmp 26, .tmp 32]) rfl ?_); at_builtin; refine Kd.R_append (Kd.int .i64) (w0 := w) w.heap.size rfl (.tmp 26) (.tmp 32) 37 2 (.int .i64 0) 8 rfl Tryd.underlying37 info2 rfl (by decide) (by omega) u7 x7_1 ((rd_T23 t446 x1_1).f6) [.int .i64 ((rd_T23 t446 x1_1).f6)] (fun _ => True) (fun _ => False) rfl rfl ?aP (fun _ hk => hk.elim) ?aF ?aO ?aB ?aS ?aL ?_; (case aP => exact rfl); (case aB => exact (bG GE445)); (case aF => exact (fun _ _ => trivial)); (case aO => exact (bR HO_7)); (case aS => exact (below_size (bG GE445))); (case aL => have := LMc12.out; omega); intro v455 w14 ho hb hg hat; rw [← Ny454.out] at ho; have n0_ := aM (Kd.R_over' (bR HO_5) (Kd.R_typed (bR HO_7)) (by decide) hg); have n1_ := aM (blk_grown (g := gb445) (o := .cells #[.int .i64 0, .slice none 0 0] 46 (0, 0)) (bL BK445) hg (Kd.R_ne HO_7.out BK445.out (by decide))); have n2_ := aM (hb); have n3_ := aM (ho); clear HO_5; clear BK445; clear HB; clear HO_7; have HO_5 := n0_; have BK445 := n1_; have HB := n2_; have HO456 := n3_; clear n0_ n1_ n2_ n3_; clear ho hb hg hat; have p457 : 0 ≤ (x1_1 : Int) := pI; have q457 : x1_1 < (t446.length : Int) := pI; obtain ⟨ad457, e457, hx457_0, hx457_1, hx457_2, hx457_3, hx457_4, hx457_5, hx457_6⟩ := at_T23 (Kd.R_reads' HO_5.out).2.2 x1_1 p457 q457; obtain rfl : ad453 = ad457 := (by injection e457); replace p457 := eq_true p457; replace q457 := eq_true q457))
        go_roundg k1
        case measure => have := HK1.out; omega
        case rel => exact ⟨((rd_T23 t446 x1_1).f5), (y454), bS, H', ⟨by have := HK1.out; omega⟩, ⟨bR HO_5⟩, ⟨bR HO456⟩, ⟨bL BK445⟩, ⟨bG GE445⟩⟩
       rw [if_neg c12] at H
       exact absurd H (by simp)
      rw [if_neg c11] at H
      exact absurd H (by simp)
     rw [if_neg c10] at H
     exact absurd H (by simp)
    rw [if_neg c9] at H
    have c9b0 : decide (0 < x1_1) = false := decide_eq_false c9
    clear c9
    replace H := Option.bind_eq_some_iff.mp H
    obtain ⟨t458, A150, H⟩ := H
    replace H : (some (0, t458)) = some (r1, r2) := H
    have A15 := aM A150
    clear A150
    simp only [Option.some.injEq, Prod.mk.injEq] at H
    obtain ⟨rfl, rfl⟩ := H
    obtain ⟨Ao16, co16, eo16⟩ := Kd.R_slice HO_7.out
    subst eo16
    go_wp2_with (first | ((with_reducible refine gate_callee (f := 57) rfl ?_); refine gL_ (some 35) Tryd.func57 #[.slice Ao16 x7_1.length co16] ?_; (with_reducible refine (slices_Reverse_int64_int64.calls k1 (fun k_ => some k_ = (.slice Ao16 x7_1.length co16 : Value).ownBlock) (.slice Ao16 x7_1.length co16) x7_1 t458 w _ ?side1 ?side2 A15.out).mono ?_); (case side1 => exact zz38 GE445.out); (case side2 => exact Kd.R_tight rfl HO_7.out); rintro e w17 ⟨rfl, hy0, hb, hkp⟩; refine ⟨_, rfl, ?_⟩; replace HO_5 := aM (Kd.R_mono (ok' := fun k_ => True) (Kd.R_keptB ((Kd.R_apart' HO_5.out (Kd.R_typed HO_7.out) (by decide))) hkp (fun k_ hk_ hs_ => (hk_.2) hs_)) (fun k_ hk_ => trivial)); replace BK445 := aM (blk_kept (bL BK445) hkp (fun hs_ => (fun e_ => (Kd.R_ne HO_7.out BK445.out (by decide)) e_) hs_)); replace HO_7 := aM (Kd.R_reok rfl hy0 (fun k_ e_ => HO_7.out.1 k_ e_)); replace HB := aM (hb); (try clear hkp); (try clear hy0); have hcz18_0 : w17.cell? ⟨gb445, 0, none⟩ = some (.int .i64 0) := (blk_cell BK445.out 0).trans rfl; have hcz18_1 : w17.cell? ⟨gb445, 1, none⟩ = some (.slice none 0 0) := (blk_cell BK445.out 1).trans rfl; have hfz18_0 := blk_frozen BK445.out 0; have hfz18_1 := blk_frozen BK445.out 1))
    refine bodyPost_ret (results_cell_row rfl _ _ gb445 46 #[.int .i64 0, .slice Ao16 x7_1.length co16] (0, 0) _ rfl (by (with_reducible repeat (first | refine blk_drewN ?_ _ | refine blk_drew ?_ | refine blk_alloc ?_ _)); refine blk_put (cs := #[.int .i64 0, .slice none 0 0]) ?_ 1 _ rfl; (with_reducible repeat (first | refine blk_drewN ?_ _ | refine blk_drew ?_ | refine blk_alloc ?_ _)); refine blk_put (cs := #[.int .i64 0, .slice none 0 0]) ?_ 0 _ rfl; (with_reducible repeat (first | refine blk_drewN ?_ _ | refine blk_drew ?_ | refine blk_alloc ?_ _)); exact BK445.out) Tryd.underlying46 rfl (by kernel_rfl)) rfl ?_
    exact ⟨_, bE, by (with_reducible repeat (first | apply Kd.R_alloc | apply Kd.R_drewN | apply Kd.R_drew)); exact Kd.R_mono (Kd.R_far (p := ⟨gb445, 1, none⟩) (Kd.R_far (p := ⟨gb445, 0, none⟩) (Kd.R_types HO_7.out BK445.out (by decide)) (fun _ hk => hk.2) (.int .i64 0)) (fun _ hk => hk.2) (.slice Ao16 x7_1.length co16)) (fun _ hk => trivial), bG GE445⟩
 rw [if_neg c4] at H
 have c4b0 : (t447 == 0) = false := beq_eq_false_iff_ne.mpr c4
 have c4b1 : (t447 != 0) = true := bne_iff_ne.mpr c4
 simp only [Option.some.injEq, Prod.mk.injEq] at H
 obtain ⟨rfl, rfl⟩ := H
 go_enter Tryd.func26, Tryd.ntmps26
 go_wp2_with (first | ((with_reducible refine gate_dst (N := 4) rfl ?_); refine box_event ?hg (N := 4) ?hd (cs := #[.int .i64 0, .slice none 0 0]) (t := 46) ?hr ?_; (case hd => rfl); (case hg => rfl); (case hr => exact zz12); intro gb445 hg w19 hbox hb; have BK445 := aM (hbox); have GW445 := aM ((zz20 : w.heap.size ≤ gb445)); have GE445 := aM ((zz20 : w.heap.size ≤ gb445)); replace HB := aM (below_step bB hb); clear hb hbox hg) | ((with_reducible refine gate_callee (f := 49) rfl ?_); refine gL_ (some 11) Tryd.func49 #[.slice A0 l0.length c0, .int .i64 a1] ?_; (with_reducible refine (impl_partCode.calls k _ _ l0 a1 t446 t447 _ ?side1 ?side2 A3.out).mono ?_); (case side1 => exact zz5 HR0.out); (case side2 => exact HC0.out); rintro e w20 ⟨v448, rfl, ho0, hb⟩; refine ⟨_, rfl, ?_⟩; have HO449 := aM (Kd.R_lower ho0 (below_size (bG GE445))); replace BK445 := aM (blk_below (g := gb445) (o := .cells #[.int .i64 0, .slice none 0 0] 46 (0, 0)) (bL BK445) hb); replace HB := aM (below_step (bG GE445) hb); (try clear ho0); have hcz21_0 : w20.cell? ⟨gb445, 0, none⟩ = some (.int .i64 0) := (blk_cell BK445.out 0).trans rfl; have hcz21_1 : w20.cell? ⟨gb445, 1, none⟩ = some (.slice none 0 0) := (blk_cell BK445.out 1).trans rfl; have hfz21_0 := blk_frozen BK445.out 0; have hfz21_1 := blk_frozen BK445.out 1))
 refine bodyPost_ret (results_cell_row rfl _ _ gb445 46 #[.int .i64 t447, .slice none 0 0] (0, 0) _ rfl (by (with_reducible repeat (first | refine blk_drewN ?_ _ | refine blk_drew ?_ | refine blk_alloc ?_ _)); refine blk_put (cs := #[.int .i64 t447, .slice none 0 0]) ?_ 1 _ rfl; (with_reducible repeat (first | refine blk_drewN ?_ _ | refine blk_drew ?_ | refine blk_alloc ?_ _)); refine blk_put (cs := #[.int .i64 0, .slice none 0 0]) ?_ 0 _ rfl; (with_reducible repeat (first | refine blk_drewN ?_ _ | refine blk_drew ?_ | refine blk_alloc ?_ _)); exact BK445.out) Tryd.underlying46 rfl (by kernel_rfl)) rfl ?_
 exact ⟨_, bE, zz22, bG GE445⟩
def laws_eqInt64S.l0 : Nat → List Int → List Int → Int → Option (Bool)
 | 0, _, _, _ => none
 | k + 1, x0, x1, x5 => if x5 < (x0.length : Int) then (if 0 ≤ x5 then (if x5 < (x1.length : Int) then (if (rd x0 x5) = (rd x1 x5) then (laws_eqInt64S.l0 k x0 x1 (wrap64 (x5 + 1))) else (some false)) else (none)) else (none)) else (some true)
def laws_eqInt64S.f (k : Nat) (l0 : List Int) (l1 : List Int) : Option (Bool) := if (l0.length : Int) = (l1.length : Int) then (laws_eqInt64S.l0 k l0 l1 0) else (some false)
set_option maxHeartbeats 8000000 in
set_option maxRecDepth 100000 in
theorem laws_eqInt64S.calls (k : Nat) (A0 : Option Addr) (c0 : Nat) (l0 : List Int) (A1 : Option Addr) (c1 : Nat) (l1 : List Int) (r : Bool) (w : World) (hr0 : Kd.C (Kd.int .i64) w A0 l0.length l0) (hc0 : l0.length ≤ c0) (hr1 : Kd.C (Kd.int .i64) w A1 l1.length l1) (hc1 : l1.length ≤ c1) (h : laws_eqInt64S.f k l0 l1 = some r) :
  Calls Tryd.prog 24 #[.slice A0 l0.length c0, .slice A1 l1.length c1] w fun e w' => e = .returned (.bool r) ∧ Drawn0 w w' := by
 have HR0 := aM hr0
 have HC0 := aM hc0
 clear hr0 hc0
 have HR1 := aM hr1
 have HC1 := aM hc1
 clear hr1 hc1
 have H : (if (l0.length : Int) = (l1.length : Int) then (laws_eqInt64S.l0 k l0 l1 0) else (some false)) = some r := h
 clear h
 by_cases c3 : (l0.length : Int) = (l1.length : Int)
 ·rw [if_pos c3] at H
  have c3b0 : ((l0.length : Int) == (l1.length : Int)) = true := beq_iff_eq.mpr c3
  have c3b1 : ((l0.length : Int) != (l1.length : Int)) = false := bne_eq_false_iff_eq.mpr c3
  have c3b2 : (l0.length == l1.length) = true := zz59
  clear c3
  have H' := aM H
  clear H
  go_enter Tryd.func24, Tryd.ntmps24
  go_wp2
  repeat (go_quiet (fail); try go_wp2)
  go_loopg [5] k (fun kq v5 w' => ∃ (x5_1 : Int), v5 = .int .i64 x5_1 ∧ Aside0 (laws_eqInt64S.l0 kq l0 l1 x5_1 = some r) ∧ Aside0 (kq ≤ k) ∧ Drawn0 w w')
  case atStart => exact ⟨(0), bS, H', ⟨Nat.le_refl _⟩, zz6⟩
  case round =>
   clear H'
   try clear c1
   try clear c2
   try clear p2
   try clear c3
   try clear c3b0
   try clear c3b1
   try clear c3b2
   obtain ⟨x5_1, rfl, HA, HK1, ⟨m1, rfl⟩⟩ := hrel
   cases gk with
   | zero => exact absurd HA.out (by simp [laws_eqInt64S.l0])
   | succ k1 =>
    have H := HA.out
    clear HA
    simp only [laws_eqInt64S.l0] at H
    by_cases c4 : x5_1 < (l0.length : Int)
    ·rw [if_pos c4] at H
     have c4b0 : decide (x5_1 < (l0.length : Int)) = true := decide_eq_true c4
     clear c4
     by_cases c5 : 0 ≤ x5_1
     ·rw [if_pos c5] at H
      have c5b0 : decide (0 ≤ x5_1) = true := decide_eq_true c5
      clear c5
      by_cases c6 : x5_1 < (l1.length : Int)
      ·rw [if_pos c6] at H
       have c6b0 : decide (x5_1 < (l1.length : Int)) = true := decide_eq_true c6
       clear c6
       by_cases c7 : (rd l0 x5_1) = (rd l1 x5_1)
       ·rw [if_pos c7] at H
        have c7b0 : ((rd l0 x5_1) == (rd l1 x5_1)) = true := beq_iff_eq.mpr c7
        have c7b1 : ((rd l0 x5_1) != (rd l1 x5_1)) = false := bne_eq_false_iff_eq.mpr c7
        clear c7
        have H' := aM H
        clear H
        have p459 : 0 ≤ (x5_1 : Int) := pI
        have q459 : x5_1 < (l0.length : Int) := pI
        obtain ⟨ad459, e459, hx459_0⟩ := Kd.at_int HR0.out x5_1 p459 q459
        cases e459
        replace p459 := eq_true p459
        replace q459 := eq_true q459
        have p460 : 0 ≤ (x5_1 : Int) := pI
        have q460 : x5_1 < (l1.length : Int) := pI
        obtain ⟨ad460, e460, hx460_0⟩ := Kd.at_int HR1.out x5_1 p460 q460
        cases e460
        replace p460 := eq_true p460
        replace q460 := eq_true q460
        go_wp2
        repeat (go_quiet (fail); try go_wp2)
        go_roundg k1
        case measure => have := HK1.out; omega
        case rel => exact ⟨(wrap64 (x5_1 + 1)), bS, H', ⟨by have := HK1.out; omega⟩, zz6⟩
       rw [if_neg c7] at H
       have c7b0 : ((rd l0 x5_1) == (rd l1 x5_1)) = false := beq_eq_false_iff_ne.mpr c7
       have c7b1 : ((rd l0 x5_1) != (rd l1 x5_1)) = true := bne_iff_ne.mpr c7
       obtain rfl := Option.some.inj H
       have p459 : 0 ≤ (x5_1 : Int) := pI
       have q459 : x5_1 < (l0.length : Int) := pI
       obtain ⟨ad459, e459, hx459_0⟩ := Kd.at_int HR0.out x5_1 p459 q459
       cases e459
       replace p459 := eq_true p459
       replace q459 := eq_true q459
       have p460 : 0 ≤ (x5_1 : Int) := pI
       have q460 : x5_1 < (l1.length : Int) := pI
       obtain ⟨ad460, e460, hx460_0⟩ := Kd.at_int HR1.out x5_1 p460 q460
       cases e460
       replace p460 := eq_true p460
       replace q460 := eq_true q460
       go_wp2
       repeat (go_quiet (fail); try go_wp2)
       go_ret
       exact ⟨bS, zz6⟩
      rw [if_neg c6] at H
      exact absurd H (by simp)
     rw [if_neg c5] at H
     exact absurd H (by simp)
    rw [if_neg c4] at H
    have c4b0 : decide (x5_1 < (l0.length : Int)) = false := decide_eq_false c4
    clear c4
    obtain rfl := Option.some.inj H
    go_wp2
    repeat (go_quiet (fail); try go_wp2)
    go_ret
    exact ⟨bS, zz6⟩
 rw [if_neg c3] at H
 have c3b0 : ((l0.length : Int) == (l1.length : Int)) = false := beq_eq_false_iff_ne.mpr c3
 have c3b1 : ((l0.length : Int) != (l1.length : Int)) = true := bne_iff_ne.mpr c3
 have c3b2 : (l0.length == l1.length) = false := zz59
 obtain rfl := Option.some.inj H
 go_enter Tryd.func24, Tryd.ntmps24
 go_wp2
 repeat (go_quiet (fail); try go_wp2)
 go_ret
 exact ⟨bS, zz6⟩
def laws_eqIntsResult.f (k : Nat) (a0_0 : Int) (l0_1 : List Int) (a1_0 : Int) (l1_1 : List Int) : Option (Bool) := if a0_0 = a1_0 then ((laws_eqInt64S.f k l0_1 l1_1).bind fun t463 => (if t463 = true then (some true) else (some false))) else (some false)
set_option maxHeartbeats 8000000 in
set_option maxRecDepth 100000 in
theorem laws_eqIntsResult.calls (k : Nat) (a0_0 : Int) (A0_1 : Option Addr) (c0_1 : Nat) (l0_1 : List Int) (a1_0 : Int) (A1_1 : Option Addr) (c1_1 : Nat) (l1_1 : List Int) (r : Bool) (w : World) (hr0_1 : Kd.C (Kd.int .i64) w A0_1 l0_1.length l0_1) (hc0_1 : l0_1.length ≤ c0_1) (hr1_1 : Kd.C (Kd.int .i64) w A1_1 l1_1.length l1_1) (hc1_1 : l1_1.length ≤ c1_1) (h : laws_eqIntsResult.f k a0_0 l0_1 a1_0 l1_1 = some r) :
  Calls Tryd.prog 27 #[.agg #[.int .i64 a0_0, .slice A0_1 l0_1.length c0_1], .agg #[.int .i64 a1_0, .slice A1_1 l1_1.length c1_1]] w fun e w' => e = .returned (.bool r) ∧ Below w.heap.size w w' := by
 have hu46 := Tryd.underlying46
 have HR0_1 := aM hr0_1
 have HC0_1 := aM hc0_1
 clear hr0_1 hc0_1
 have HR1_1 := aM hr1_1
 have HC1_1 := aM hc1_1
 clear hr1_1 hc1_1
 have HB := aM (Below.refl w.heap.size w)
 have H : (if a0_0 = a1_0 then ((laws_eqInt64S.f k l0_1 l1_1).bind fun t463 => (if t463 = true then (some true) else (some false))) else (some false)) = some r := h
 clear h
 by_cases c3 : a0_0 = a1_0
 ·rw [if_pos c3] at H
  have c3b0 : (a0_0 == a1_0) = true := beq_iff_eq.mpr c3
  have c3b1 : (a0_0 != a1_0) = false := bne_eq_false_iff_eq.mpr c3
  clear c3
  replace H := Option.bind_eq_some_iff.mp H
  obtain ⟨t463, A40, H⟩ := H
  replace H : (if t463 = true then (some true) else (some false)) = some r := H
  have A4 := aM A40
  clear A40
  by_cases c5 : t463 = true
  ·subst c5
   have H1 : (some true) = some r := zz25
   clear H
   have H := H1
   clear H1
   obtain rfl := Option.some.inj H
   go_enter Tryd.func27, Tryd.ntmps27
   go_wp2_with (first | ((with_reducible refine gate_dst (N := 2) rfl ?_); refine box_event ?hg (N := 2) ?hd (cs := #[.int .i64 a0_0, .slice A0_1 l0_1.length c0_1]) (t := 46) ?hr ?_; (case hd => rfl); (case hg => rfl); (case hr => exact zz12); intro gb461 hg w6 hbox hb; have BK461 := aM (hbox); have GW461 := aM ((zz20 : w.heap.size ≤ gb461)); have GE461 := aM ((zz20 : w.heap.size ≤ gb461)); replace HB := aM (below_step bB hb); clear hb hbox hg) | ((with_reducible refine gate_dst (N := 3) rfl ?_); refine box_event ?hg (N := 3) ?hd (cs := #[.int .i64 a1_0, .slice A1_1 l1_1.length c1_1]) (t := 46) ?hr ?_; (case hd => rfl); (case hg => rfl); (case hr => exact zz12); intro gb462 hg w7 hbox hb; have BK462 := aM (hbox); have GW462 := aM ((zz54 : w.heap.size ≤ gb462)); have GE462 := aM ((zz54 : w.heap.size ≤ gb462)); replace HB := aM (below_step (bG GE461) hb); have NB461_462 := aM ((zz48 : gb461 ≠ gb462)); have NB462_461 := aM ((zz49 : gb462 ≠ gb461)); replace BK461 := aM (blk_below (g := gb461) (o := .cells #[.int .i64 a0_0, .slice A0_1 l0_1.length c0_1] 46 (0, 0)) (bL BK461) hb); clear hb hbox hg; have hnb8 := NB461_462.out; have hnc8 := NB462_461.out; have hcz9_0 : w7.cell? ⟨gb461, 0, none⟩ = some (.int .i64 a0_0) := (blk_cell BK461.out 0).trans rfl; have hcz9_1 : w7.cell? ⟨gb461, 1, none⟩ = some (.slice A0_1 l0_1.length c0_1) := (blk_cell BK461.out 1).trans rfl; have hfz9_0 := blk_frozen BK461.out 0; have hfz9_1 := blk_frozen BK461.out 1; have hcz10_0 : w7.cell? ⟨gb462, 0, none⟩ = some (.int .i64 a1_0) := (blk_cell BK462.out 0).trans rfl; have hcz10_1 : w7.cell? ⟨gb462, 1, none⟩ = some (.slice A1_1 l1_1.length c1_1) := (blk_cell BK462.out 1).trans rfl; have hfz10_0 := blk_frozen BK462.out 0; have hfz10_1 := blk_frozen BK462.out 1) | ((with_reducible refine gate_callee (f := 24) rfl ?_); refine gL_ (some 14) Tryd.func24 #[.slice A0_1 l0_1.length c0_1, .slice A1_1 l1_1.length c1_1] ?_; (with_reducible refine (laws_eqInt64S.calls k _ _ l0_1 _ _ l1_1 true _ ?side1 ?side2 ?side3 ?side4 A4.out).mono ?_); (case side1 => exact zz5 HR0_1.out); (case side2 => exact HC0_1.out); (case side3 => exact zz5 HR1_1.out); (case side4 => exact HC1_1.out); rintro e w' ⟨rfl, ⟨nd, rfl⟩⟩; refine ⟨_, rfl, ?_⟩))
   go_ret
   exact ⟨bE, bG2 GE461 GE462⟩
  replace c5 := Bool.eq_false_iff.mpr c5
  subst c5
  have H1 : (some false) = some r := zz14
  clear H
  have H := H1
  clear H1
  obtain rfl := Option.some.inj H
  go_enter Tryd.func27, Tryd.ntmps27
  go_wp2_with (first | ((with_reducible refine gate_dst (N := 2) rfl ?_); refine box_event ?hg (N := 2) ?hd (cs := #[.int .i64 a0_0, .slice A0_1 l0_1.length c0_1]) (t := 46) ?hr ?_; (case hd => rfl); (case hg => rfl); (case hr => exact zz12); intro gb461 hg w11 hbox hb; have BK461 := aM (hbox); have GW461 := aM ((zz20 : w.heap.size ≤ gb461)); have GE461 := aM ((zz20 : w.heap.size ≤ gb461)); replace HB := aM (below_step bB hb); clear hb hbox hg) | ((with_reducible refine gate_dst (N := 3) rfl ?_); refine box_event ?hg (N := 3) ?hd (cs := #[.int .i64 a1_0, .slice A1_1 l1_1.length c1_1]) (t := 46) ?hr ?_; (case hd => rfl); (case hg => rfl); (case hr => exact zz12); intro gb462 hg w12 hbox hb; have BK462 := aM (hbox); have GW462 := aM ((zz54 : w.heap.size ≤ gb462)); have GE462 := aM ((zz54 : w.heap.size ≤ gb462)); replace HB := aM (below_step (bG GE461) hb); have NB461_462 := aM ((zz48 : gb461 ≠ gb462)); have NB462_461 := aM ((zz49 : gb462 ≠ gb461)); replace BK461 := aM (blk_below (g := gb461) (o := .cells #[.int .i64 a0_0, .slice A0_1 l0_1.length c0_1] 46 (0, 0)) (bL BK461) hb); clear hb hbox hg; have hnb13 := NB461_462.out; have hnc13 := NB462_461.out; have hcz14_0 : w12.cell? ⟨gb461, 0, none⟩ = some (.int .i64 a0_0) := (blk_cell BK461.out 0).trans rfl; have hcz14_1 : w12.cell? ⟨gb461, 1, none⟩ = some (.slice A0_1 l0_1.length c0_1) := (blk_cell BK461.out 1).trans rfl; have hfz14_0 := blk_frozen BK461.out 0; have hfz14_1 := blk_frozen BK461.out 1; have hcz15_0 : w12.cell? ⟨gb462, 0, none⟩ = some (.int .i64 a1_0) := (blk_cell BK462.out 0).trans rfl; have hcz15_1 : w12.cell? ⟨gb462, 1, none⟩ = some (.slice A1_1 l1_1.length c1_1) := (blk_cell BK462.out 1).trans rfl; have hfz15_0 := blk_frozen BK462.out 0; have hfz15_1 := blk_frozen BK462.out 1) | ((with_reducible refine gate_callee (f := 24) rfl ?_); refine gL_ (some 14) Tryd.func24 #[.slice A0_1 l0_1.length c0_1, .slice A1_1 l1_1.length c1_1] ?_; (with_reducible refine (laws_eqInt64S.calls k _ _ l0_1 _ _ l1_1 false _ ?side1 ?side2 ?side3 ?side4 A4.out).mono ?_); (case side1 => exact zz5 HR0_1.out); (case side2 => exact HC0_1.out); (case side3 => exact zz5 HR1_1.out); (case side4 => exact HC1_1.out); rintro e w' ⟨rfl, ⟨nd, rfl⟩⟩; refine ⟨_, rfl, ?_⟩))
  go_ret
  exact ⟨bE, bG2 GE461 GE462⟩
 rw [if_neg c3] at H
 have c3b0 : (a0_0 == a1_0) = false := beq_eq_false_iff_ne.mpr c3
 have c3b1 : (a0_0 != a1_0) = true := bne_iff_ne.mpr c3
 obtain rfl := Option.some.inj H
 go_enter Tryd.func27, Tryd.ntmps27
 go_wp2_with (first | ((with_reducible refine gate_dst (N := 2) rfl ?_); refine box_event ?hg (N := 2) ?hd (cs := #[.int .i64 a0_0, .slice A0_1 l0_1.length c0_1]) (t := 46) ?hr ?_; (case hd => rfl); (case hg => rfl); (case hr => exact zz12); intro gb461 hg w16 hbox hb; have BK461 := aM (hbox); have GW461 := aM ((zz20 : w.heap.size ≤ gb461)); have GE461 := aM ((zz20 : w.heap.size ≤ gb461)); replace HB := aM (below_step bB hb); clear hb hbox hg) | ((with_reducible refine gate_dst (N := 3) rfl ?_); refine box_event ?hg (N := 3) ?hd (cs := #[.int .i64 a1_0, .slice A1_1 l1_1.length c1_1]) (t := 46) ?hr ?_; (case hd => rfl); (case hg => rfl); (case hr => exact zz12); intro gb462 hg w17 hbox hb; have BK462 := aM (hbox); have GW462 := aM ((zz54 : w.heap.size ≤ gb462)); have GE462 := aM ((zz54 : w.heap.size ≤ gb462)); replace HB := aM (below_step (bG GE461) hb); have NB461_462 := aM ((zz48 : gb461 ≠ gb462)); have NB462_461 := aM ((zz49 : gb462 ≠ gb461)); replace BK461 := aM (blk_below (g := gb461) (o := .cells #[.int .i64 a0_0, .slice A0_1 l0_1.length c0_1] 46 (0, 0)) (bL BK461) hb); clear hb hbox hg; have hnb18 := NB461_462.out; have hnc18 := NB462_461.out; have hcz19_0 : w17.cell? ⟨gb461, 0, none⟩ = some (.int .i64 a0_0) := (blk_cell BK461.out 0).trans rfl; have hcz19_1 : w17.cell? ⟨gb461, 1, none⟩ = some (.slice A0_1 l0_1.length c0_1) := (blk_cell BK461.out 1).trans rfl; have hfz19_0 := blk_frozen BK461.out 0; have hfz19_1 := blk_frozen BK461.out 1; have hcz20_0 : w17.cell? ⟨gb462, 0, none⟩ = some (.int .i64 a1_0) := (blk_cell BK462.out 0).trans rfl; have hcz20_1 : w17.cell? ⟨gb462, 1, none⟩ = some (.slice A1_1 l1_1.length c1_1) := (blk_cell BK462.out 1).trans rfl; have hfz20_0 := blk_frozen BK462.out 0; have hfz20_1 := blk_frozen BK462.out 1))
 go_ret
 exact ⟨bE, bG2 GE461 GE462⟩
def laws_markInt64S.l0 : Nat → List Int → Int → Int → Option (Int × List Int)
 | 0, _, _, _ => none
 | k + 1, x0, x1, x5 => if x5 < (x0.length : Int) then (if 0 ≤ x5 then (laws_markInt64S.l0 k (x0.set (x5 : Int).toNat x1) (wrap64 (x1 + 1)) (wrap64 (x5 + 1))) else (none)) else (some (x1, x0))
def laws_markInt64S.f (k : Nat) (l0 : List Int) (a1 : Int) : Option (Int × List Int) := laws_markInt64S.l0 k l0 a1 0
set_option maxHeartbeats 8000000 in
set_option maxRecDepth 100000 in
theorem laws_markInt64S.calls (k : Nat) (P0_ : Nat → Prop) (u9000_ : Value) (l0 : List Int) (a1 : Int) (r1 : Int) (r2 : List Int) (w0 w : World) (hB : Below w0.heap.size w0 w) (ho0 : Kd.R (Kd.int .i64) 2 w w0.heap.size P0_ u9000_ l0) (h : laws_markInt64S.f k l0 a1 = some (r1, r2)) :
  Calls Tryd.prog 58 #[u9000_, .int .i64 a1] w fun e w' => e = .returned (.int .i64 r1) ∧ Kd.R (Kd.int .i64) 2 w' w0.heap.size (fun k_ => (P0_ k_ ∨ w.heap.size ≤ k_)) u9000_ r2 ∧ Below w0.heap.size w0 w' ∧ Kept w w' (fun k_ => P0_ k_) := by
 have HO0 := aM (show Kd.R (Kd.int .i64) 2 w w0.heap.size (fun k_ => (P0_ k_ ∨ w.heap.size ≤ k_)) u9000_ l0 from Kd.R_mono ho0 (fun k_ hk => (.inl hk)))
 have HK := aM (Kept.refl w (fun k_ => P0_ k_))
 have HW0 := aM hB.size
 have HB := aM hB
 clear hB
 have H : (laws_markInt64S.l0 k l0 a1 0) = some (r1, r2) := h
 clear h
 have H' := aM H
 clear H
 go_enter Tryd.func58, Tryd.ntmps58
 go_wp2
 go_loopg [1, 5] k (fun kq v1 v5 w' => ∃ (x0_1 : List Int) (x1_1 : Int) (x5_1 : Int), v1 = .int .i64 x1_1 ∧ v5 = .int .i64 x5_1 ∧ Aside0 (laws_markInt64S.l0 kq x0_1 x1_1 x5_1 = some (r1, r2)) ∧ Aside0 (kq ≤ k) ∧ Aside0 (Kd.R (Kd.int .i64) 2 w' w0.heap.size (fun k_ => (P0_ k_ ∨ w.heap.size ≤ k_)) u9000_ x0_1) ∧ Aside0 (Kept w w' (fun k_ => P0_ k_)) ∧ Aside0 (Below w0.heap.size w0 w'))
 case atStart => exact ⟨(l0), (a1), (0), bS, bS, H', ⟨Nat.le_refl _⟩, ⟨bR HO0⟩, ⟨bK⟩, ⟨bB⟩⟩
 case round =>
  clear H'
  try clear p2
  obtain ⟨x0_1, x1_1, x5_1, rfl, rfl, HA, HK1, HO_0, HK, HB⟩ := hrel
  cases gk with
  | zero => exact absurd HA.out (by simp [laws_markInt64S.l0])
  | succ k1 =>
   have H := HA.out
   clear HA
   simp only [laws_markInt64S.l0] at H
   by_cases c3 : x5_1 < (x0_1.length : Int)
   ·rw [if_pos c3] at H
    have c3b0 : decide (x5_1 < (x0_1.length : Int)) = true := decide_eq_true c3
    clear c3
    by_cases c4 : 0 ≤ x5_1
    ·rw [if_pos c4] at H
     have c4b0 : decide (0 ≤ x5_1) = true := decide_eq_true c4
     clear c4
     obtain ⟨y464, hy464⟩ : ∃ y_ : List Int, y_ = (x0_1.set (x5_1 : Int).toNat x1_1) := ⟨_, rfl⟩
     replace H : (laws_markInt64S.l0 k1 y464 (wrap64 (x1_1 + 1)) (wrap64 (x5_1 + 1))) = some (r1, r2) := zz0 hy464
     have Ny464 := aM hy464
     clear hy464
     have H' := aM H
     clear H
     obtain ⟨Ao6, co6, eo6⟩ := Kd.R_slice HO_0.out
     subst eo6
     have p5 : 0 ≤ (x5_1 : Int) := pI
     have q5 : (x5_1 : Int) < ((x0_1.length : Int) : Int) := pI
     obtain ⟨go5, co5, eo5, gb5, gl5, cl5, HG5⟩ := Kd.R_form HO_0.out (by omega)
     (first | cases eo5 | (injection eo5 with ea_ en_ ec_; (first | subst ea_ | (injection ea_ with ea_; subst ea_)); subst ec_; clear en_))
     have GB5 := aM gb5
     have GG5 := aM HG5
     clear gb5 gl5 HG5
     have HMgo5 := aM (show (P0_ go5 ∨ w.heap.size ≤ go5) from (HO_0.out.1 _ rfl))
     obtain ⟨hx5_0, hf5_0⟩ := Kd.R_celln 0 HO_0.out (x5_1 : Int) p5 q5
     replace p5 := eq_true p5
     replace q5 := eq_true q5
     have HP7 := Kd.R_putg HO_0.out (x5_1 : Int) x1_1
     go_wp2_with (first | ((with_reducible refine gate_store (t := 2) (p := 15) rfl ?_); refine store_event (t := 2) (p := 15) (v := ?vo_w8) (w1 := (wr.setCell ⟨go5, (x5_1 : Int).toNat, none⟩ (.int .i64 x1_1))) ?hg ?ho ?hn ?hr ?_; (case ho => rfl); (case hg => rfl); (case hn => rfl); (case hr => exact zz12); intro w8 hw; have hg : wr.grownBy w8 (some go5) := (by rw [hw]; exact HP7.2); have hp_ : Kd.R (Kd.int .i64) 2 w8 w0.heap.size (fun k_ => (P0_ k_ ∨ w.heap.size ≤ k_)) (.slice (some ⟨go5, 0, none⟩) x0_1.length co6) y464 := (by rw [hw, Ny464.out]; exact HP7.1); clear HP7; replace HB := aM ((zz56 GB5.out : Below w0.heap.size w0 w8)); replace HK := aM (Kept.of_grown (S := (fun k_ => P0_ k_)) hg bK (fun k_ e_ => (HO_0.out.1 k_ e_))); replace HO_0 := aM (hp_); clear hg hw hp_))
     go_roundg k1
     case measure => have := HK1.out; omega
     case rel => exact ⟨(y464), (wrap64 (x1_1 + 1)), (wrap64 (x5_1 + 1)), bS, bS, H', ⟨by have := HK1.out; omega⟩, ⟨bR HO_0⟩, ⟨bK⟩, ⟨bB⟩⟩
    rw [if_neg c4] at H
    exact absurd H (by simp)
   rw [if_neg c3] at H
   have c3b0 : decide (x5_1 < (x0_1.length : Int)) = false := decide_eq_false c3
   clear c3
   simp only [Option.some.injEq, Prod.mk.injEq] at H
   obtain ⟨rfl, rfl⟩ := H
   obtain ⟨Ao9, co9, eo9⟩ := Kd.R_slice HO_0.out
   subst eo9
   go_wp2
   go_ret
   exact ⟨bE, bR HO_0, bB, bK⟩
def laws_markIntsResult.f (k : Nat) (a0_0 : Int) (l0_1 : List Int) (a1 : Int) : Option (Int × List Int) := (laws_markInt64S.f k l0_1 a1).bind fun bt466 => (some (bt466.1, bt466.2))
set_option maxHeartbeats 8000000 in
set_option maxRecDepth 100000 in
theorem laws_markIntsResult.calls (k : Nat) (a0_0 : Int) (P0_1_ : Nat → Prop) (u9000_ : Value) (l0_1 : List Int) (a1 : Int) (r1 : Int) (r2 : List Int) (w0 w : World) (hB : Below w0.heap.size w0 w) (ho0_1 : Kd.R (Kd.int .i64) 2 w w0.heap.size P0_1_ u9000_ l0_1) (h : laws_markIntsResult.f k a0_0 l0_1 a1 = some (r1, r2)) :
  Calls Tryd.prog 28 #[.agg #[.int .i64 a0_0, u9000_], .int .i64 a1] w fun e w' => e = .returned (.int .i64 r1) ∧ Kd.R (Kd.int .i64) 2 w' w0.heap.size (fun k_ => (P0_1_ k_ ∨ w.heap.size ≤ k_)) u9000_ r2 ∧ Below w0.heap.size w0 w' ∧ Kept w w' (fun k_ => P0_1_ k_) := by
 have hu46 := Tryd.underlying46
 have HO0_1 := aM (show Kd.R (Kd.int .i64) 2 w w0.heap.size (fun k_ => (P0_1_ k_ ∨ w.heap.size ≤ k_)) u9000_ l0_1 from Kd.R_mono ho0_1 (fun k_ hk => (.inl hk)))
 have HK := aM (Kept.refl w (fun k_ => P0_1_ k_))
 have HW0 := aM hB.size
 have HB := aM hB
 clear hB
 have H : ((laws_markInt64S.f k l0_1 a1).bind fun bt466 => (some (bt466.1, bt466.2))) = some (r1, r2) := h
 clear h
 replace H := Option.bind_eq_some_iff.mp H
 obtain ⟨⟨t466, t467⟩, A30, H⟩ := H
 replace H : (some (t466, t467)) = some (r1, r2) := H
 have A3 := aM A30
 clear A30
 simp only [Option.some.injEq, Prod.mk.injEq] at H
 obtain ⟨rfl, rfl⟩ := H
 obtain ⟨Ao4, co4, eo4⟩ := Kd.R_slice HO0_1.out
 subst eo4
 go_enter Tryd.func28, Tryd.ntmps28
 go_wp2_with (first | ((with_reducible refine gate_dst (N := 2) rfl ?_); refine box_event ?hg (N := 2) ?hd (cs := #[.int .i64 a0_0, .slice Ao4 l0_1.length co4]) (t := 46) ?hr ?_; (case hd => rfl); (case hg => rfl); (case hr => exact zz12); intro gb465 hg w5 hbox hb; replace HO0_1 := aM (Kd.R_below (bR HO0_1) hb); have BK465 := aM (hbox); have GW465 := aM ((by rw [hg]; exact (by first | exact HK.out.1 | exact (show Kept w _ (fun k_ => P0_1_ k_) from bK).1) : w.heap.size ≤ gb465)); replace HK := aM (Kept.below (S := (fun k_ => P0_1_ k_)) bK hb); have GE465 := aM ((zz20 : w0.heap.size ≤ gb465)); replace HB := aM (below_step bB hb); clear hb hbox hg; have hcz6_0 : w5.cell? ⟨gb465, 0, none⟩ = some (.int .i64 a0_0) := (blk_cell BK465.out 0).trans rfl; have hcz6_1 : w5.cell? ⟨gb465, 1, none⟩ = some (.slice Ao4 l0_1.length co4) := (blk_cell BK465.out 1).trans rfl; have hfz6_0 := blk_frozen BK465.out 0; have hfz6_1 := blk_frozen BK465.out 1) | ((with_reducible refine gate_callee (f := 58) rfl ?_); refine gL_ (some 8) Tryd.func58 #[.slice Ao4 l0_1.length co4, .int .i64 a1] ?_; (with_reducible refine (laws_markInt64S.calls k (fun k_ => some k_ = (.slice Ao4 l0_1.length co4 : Value).ownBlock) (.slice Ao4 l0_1.length co4) l0_1 a1 t466 t467 w0 _ ?side1 ?side2 A3.out).mono ?_); (case side1 => exact zz38 GE465.out); (case side2 => exact Kd.R_tight rfl HO0_1.out); rintro e w7 ⟨rfl, hy0, hb, hkp⟩; refine ⟨_, rfl, ?_⟩; replace BK465 := aM (blk_kept (bL BK465) hkp (fun hs_ => (fun e_ => (Kd.R_ne HO0_1.out BK465.out (by decide)) e_) hs_)); replace HK := aM (Kept.then_ (S := (fun k_ => P0_1_ k_)) (zz11 GW465.out) hkp (fun k_ hs_ => (fun e_ => (HO0_1.out.1 k_ e_.symm)) hs_)); replace HO0_1 := aM (Kd.R_reok rfl hy0 (fun k_ e_ => HO0_1.out.1 k_ e_)); replace HB := aM (hb); (try clear hkp); (try clear hy0)))
 go_ret
 exact ⟨bE, bR HO0_1, bG GE465, zz11 GW465.out⟩
def laws_heldInt64S.l0 : Nat → List Int → Int → Int → Option (Int)
 | 0, _, _, _ => none
 | k + 1, x0, x1, x5 => if x5 < (x0.length : Int) then (if 0 ≤ x5 then (if (rd x0 x5) = x1 then (laws_heldInt64S.l0 k x0 (wrap64 (x1 + 1)) (wrap64 (x5 + 1))) else (some (-1))) else (none)) else (some x1)
def laws_heldInt64S.f (k : Nat) (l0 : List Int) (a1 : Int) : Option (Int) := laws_heldInt64S.l0 k l0 a1 0
set_option maxHeartbeats 8000000 in
set_option maxRecDepth 100000 in
theorem laws_heldInt64S.calls (k : Nat) (A0 : Option Addr) (c0 : Nat) (l0 : List Int) (a1 : Int) (r : Int) (w : World) (hr0 : Kd.C (Kd.int .i64) w A0 l0.length l0) (hc0 : l0.length ≤ c0) (h : laws_heldInt64S.f k l0 a1 = some r) :
  Calls Tryd.prog 59 #[.slice A0 l0.length c0, .int .i64 a1] w fun e w' => e = .returned (.int .i64 r) ∧ Drawn0 w w' := by
 have HR0 := aM hr0
 have HC0 := aM hc0
 clear hr0 hc0
 have H : (laws_heldInt64S.l0 k l0 a1 0) = some r := h
 clear h
 have H' := aM H
 clear H
 go_enter Tryd.func59, Tryd.ntmps59
 go_wp2
 go_loopg [1, 5] k (fun kq v1 v5 w' => ∃ (x1_1 : Int) (x5_1 : Int), v1 = .int .i64 x1_1 ∧ v5 = .int .i64 x5_1 ∧ Aside0 (laws_heldInt64S.l0 kq l0 x1_1 x5_1 = some r) ∧ Aside0 (kq ≤ k) ∧ Drawn0 w w')
 case atStart => exact ⟨(a1), (0), bS, bS, H', ⟨Nat.le_refl _⟩, zz6⟩
 case round =>
  clear H'
  try clear p2
  obtain ⟨x1_1, x5_1, rfl, rfl, HA, HK1, ⟨m1, rfl⟩⟩ := hrel
  cases gk with
  | zero => exact absurd HA.out (by simp [laws_heldInt64S.l0])
  | succ k1 =>
   have H := HA.out
   clear HA
   simp only [laws_heldInt64S.l0] at H
   by_cases c3 : x5_1 < (l0.length : Int)
   ·rw [if_pos c3] at H
    have c3b0 : decide (x5_1 < (l0.length : Int)) = true := decide_eq_true c3
    clear c3
    by_cases c4 : 0 ≤ x5_1
    ·rw [if_pos c4] at H
     have c4b0 : decide (0 ≤ x5_1) = true := decide_eq_true c4
     clear c4
     by_cases c5 : (rd l0 x5_1) = x1_1
     ·rw [if_pos c5] at H
      have c5b0 : ((rd l0 x5_1) == x1_1) = true := beq_iff_eq.mpr c5
      have c5b1 : ((rd l0 x5_1) != x1_1) = false := bne_eq_false_iff_eq.mpr c5
      clear c5
      have H' := aM H
      clear H
      have p468 : 0 ≤ (x5_1 : Int) := pI
      have q468 : x5_1 < (l0.length : Int) := pI
      obtain ⟨ad468, e468, hx468_0⟩ := Kd.at_int HR0.out x5_1 p468 q468
      cases e468
      replace p468 := eq_true p468
      replace q468 := eq_true q468
      go_wp2
      go_roundg k1
      case measure => have := HK1.out; omega
      case rel => exact ⟨(wrap64 (x1_1 + 1)), (wrap64 (x5_1 + 1)), bS, bS, H', ⟨by have := HK1.out; omega⟩, zz6⟩
     rw [if_neg c5] at H
     have c5b0 : ((rd l0 x5_1) == x1_1) = false := beq_eq_false_iff_ne.mpr c5
     have c5b1 : ((rd l0 x5_1) != x1_1) = true := bne_iff_ne.mpr c5
     obtain rfl := Option.some.inj H
     have p468 : 0 ≤ (x5_1 : Int) := pI
     have q468 : x5_1 < (l0.length : Int) := pI
     obtain ⟨ad468, e468, hx468_0⟩ := Kd.at_int HR0.out x5_1 p468 q468
     cases e468
     replace p468 := eq_true p468
     replace q468 := eq_true q468
     go_wp2
     go_ret
     exact ⟨bS, zz6⟩
    rw [if_neg c4] at H
    exact absurd H (by simp)
   rw [if_neg c3] at H
   have c3b0 : decide (x5_1 < (l0.length : Int)) = false := decide_eq_false c3
   clear c3
   obtain rfl := Option.some.inj H
   go_wp2
   go_ret
   exact ⟨bS, zz6⟩
def laws_heldIntsResult.f (k : Nat) (a0_0 : Int) (l0_1 : List Int) (a1 : Int) : Option (Int) := (laws_heldInt64S.f k l0_1 a1).bind fun t470 => (if t470 < 0 then (some (-1)) else (some t470))
set_option maxHeartbeats 8000000 in
set_option maxRecDepth 100000 in
theorem laws_heldIntsResult.calls (k : Nat) (a0_0 : Int) (A0_1 : Option Addr) (c0_1 : Nat) (l0_1 : List Int) (a1 : Int) (r : Int) (w : World) (hr0_1 : Kd.C (Kd.int .i64) w A0_1 l0_1.length l0_1) (hc0_1 : l0_1.length ≤ c0_1) (h : laws_heldIntsResult.f k a0_0 l0_1 a1 = some r) :
  Calls Tryd.prog 29 #[.agg #[.int .i64 a0_0, .slice A0_1 l0_1.length c0_1], .int .i64 a1] w fun e w' => e = .returned (.int .i64 r) ∧ Below w.heap.size w w' := by
 have hu46 := Tryd.underlying46
 have HR0_1 := aM hr0_1
 have HC0_1 := aM hc0_1
 clear hr0_1 hc0_1
 have HB := aM (Below.refl w.heap.size w)
 have H : ((laws_heldInt64S.f k l0_1 a1).bind fun t470 => (if t470 < 0 then (some (-1)) else (some t470))) = some r := h
 clear h
 replace H := Option.bind_eq_some_iff.mp H
 obtain ⟨t470, A30, H⟩ := H
 replace H : (if t470 < 0 then (some (-1)) else (some t470)) = some r := H
 have A3 := aM A30
 clear A30
 by_cases c4 : t470 < 0
 ·rw [if_pos c4] at H
  have c4b0 : decide (t470 < 0) = true := decide_eq_true c4
  clear c4
  obtain rfl := Option.some.inj H
  go_enter Tryd.func29, Tryd.ntmps29
  go_wp2_with (first | ((with_reducible refine gate_dst (N := 2) rfl ?_); refine box_event ?hg (N := 2) ?hd (cs := #[.int .i64 a0_0, .slice A0_1 l0_1.length c0_1]) (t := 46) ?hr ?_; (case hd => rfl); (case hg => rfl); (case hr => exact zz12); intro gb469 hg w5 hbox hb; have BK469 := aM (hbox); have GW469 := aM ((zz20 : w.heap.size ≤ gb469)); have GE469 := aM ((zz20 : w.heap.size ≤ gb469)); replace HB := aM (below_step bB hb); clear hb hbox hg; have hcz6_0 : w5.cell? ⟨gb469, 0, none⟩ = some (.int .i64 a0_0) := (blk_cell BK469.out 0).trans rfl; have hcz6_1 : w5.cell? ⟨gb469, 1, none⟩ = some (.slice A0_1 l0_1.length c0_1) := (blk_cell BK469.out 1).trans rfl; have hfz6_0 := blk_frozen BK469.out 0; have hfz6_1 := blk_frozen BK469.out 1) | ((with_reducible refine gate_callee (f := 59) rfl ?_); refine gL_ (some 8) Tryd.func59 #[.slice A0_1 l0_1.length c0_1, .int .i64 a1] ?_; (with_reducible refine (laws_heldInt64S.calls k _ _ l0_1 a1 t470 _ ?side1 ?side2 A3.out).mono ?_); (case side1 => exact zz5 HR0_1.out); (case side2 => exact HC0_1.out); rintro e w' ⟨rfl, ⟨nd, rfl⟩⟩; refine ⟨_, rfl, ?_⟩))
  go_ret
  exact ⟨bE, bG GE469⟩
 rw [if_neg c4] at H
 have c4b0 : decide (t470 < 0) = false := decide_eq_false c4
 clear c4
 obtain rfl := Option.some.inj H
 go_enter Tryd.func29, Tryd.ntmps29
 go_wp2_with (first | ((with_reducible refine gate_dst (N := 2) rfl ?_); refine box_event ?hg (N := 2) ?hd (cs := #[.int .i64 a0_0, .slice A0_1 l0_1.length c0_1]) (t := 46) ?hr ?_; (case hd => rfl); (case hg => rfl); (case hr => exact zz12); intro gb469 hg w7 hbox hb; have BK469 := aM (hbox); have GW469 := aM ((zz20 : w.heap.size ≤ gb469)); have GE469 := aM ((zz20 : w.heap.size ≤ gb469)); replace HB := aM (below_step bB hb); clear hb hbox hg; have hcz8_0 : w7.cell? ⟨gb469, 0, none⟩ = some (.int .i64 a0_0) := (blk_cell BK469.out 0).trans rfl; have hcz8_1 : w7.cell? ⟨gb469, 1, none⟩ = some (.slice A0_1 l0_1.length c0_1) := (blk_cell BK469.out 1).trans rfl; have hfz8_0 := blk_frozen BK469.out 0; have hfz8_1 := blk_frozen BK469.out 1) | ((with_reducible refine gate_callee (f := 59) rfl ?_); refine gL_ (some 8) Tryd.func59 #[.slice A0_1 l0_1.length c0_1, .int .i64 a1] ?_; (with_reducible refine (laws_heldInt64S.calls k _ _ l0_1 a1 t470 _ ?side1 ?side2 A3.out).mono ?_); (case side1 => exact zz5 HR0_1.out); (case side2 => exact HC0_1.out); rintro e w' ⟨rfl, ⟨nd, rfl⟩⟩; refine ⟨_, rfl, ?_⟩))
 go_ret
 exact ⟨bE, bG GE469⟩
end Go.Proofs.YtecpanfndodjgaaDoor.PPathOf
