/- Part of the proof; words that it uses. -/
import Derived.Test.YtecpanfndodjgaaDoorPBodyOfx0
import Derived.Test.YtecpanfndodjgaaDoorPBodyOfx4
import Derived.Test.YtecpanfndodjgaaDoorPBodyOfx5
import Derived.Test.YtecpanfndodjgaaDoorPBodyOfx8
namespace Go.Proofs.YtecpanfndodjgaaDoor.PBodyOf
open Go.RowKit Go.Proofs.YtecpanfndodjgaaDoorW.PrintWords Go.Proofs.YtecpanfndodjgaaDoorW.PrintLast Go.Proofs.YtecpanfndodjgaaDoorW.PrintMore
attribute [local go_sem] max2_int max_two
set_option linter.unusedVariables false
set_option linter.unusedSimpArgs false
def impl_length_byte.f (l0 : List Int) : Option (Int) := some (l0.length : Int)
set_option maxHeartbeats 8000000 in
set_option maxRecDepth 100000 in
theorem impl_length_byte.calls (A0 : Option Addr) (c0 : Nat) (l0 : List Int) (r : Int) (w : World) (hr0 : Kd.C (Kd.int .u8) w A0 l0.length l0) (hc0 : l0.length ≤ c0) (h : impl_length_byte.f l0 = some r) :
  Calls Tryd.prog 87 #[.slice A0 l0.length c0] w fun e w' => e = .returned (.int .i64 r) ∧ Drawn0 w w' := by
 have HR0 := aM hr0
 have HC0 := aM hc0
 clear hr0 hc0
 have H : (some (l0.length : Int)) = some r := h
 clear h
 obtain rfl := Option.some.inj H
 go_enter Tryd.func87, Tryd.ntmps87
 go_wp2
 go_ret
 exact ⟨bS, zz7⟩
def impl_partsOf.f (k : Nat) (l0 : List Int) : Option ((List (S23))) := (impl_length_byte.f l0).bind fun t423 => ((impl_parser_part.f k l0 0 t423 (-1) 0 0 ([] : List (S23))).bind fun t424 => (some t424))
set_option maxHeartbeats 8000000 in
set_option maxRecDepth 100000 in
theorem impl_partsOf.calls (k : Nat) (A0 : Option Addr) (c0 : Nat) (l0 : List Int) (r : List (S23)) (w : World) (hr0 : Kd.C (Kd.int .u8) w A0 l0.length l0) (hc0 : l0.length ≤ c0) (h : impl_partsOf.f k l0 = some r) :
  Calls Tryd.prog 53 #[.slice A0 l0.length c0] w fun e w' => ∃ v0_ : Value, e = .returned (v0_) ∧ Kd.R k23 23 w' w.heap.size (fun _ => True) v0_ r ∧ Below w.heap.size w w' := by
 have hu98 := Tryd.underlying98
 have HR0 := aM hr0
 have HC0 := aM hc0
 clear hr0 hc0
 have HB := aM (Below.refl w.heap.size w)
 have H : ((impl_length_byte.f l0).bind fun t423 => ((impl_parser_part.f k l0 0 t423 (-1) 0 0 ([] : List (S23))).bind fun t424 => (some t424))) = some r := h
 clear h
 replace H := Option.bind_eq_some_iff.mp H
 obtain ⟨t423, A20, H⟩ := H
 replace H : ((impl_parser_part.f k l0 0 t423 (-1) 0 0 ([] : List (S23))).bind fun t424 => (some t424)) = some r := H
 have A2 := aM A20
 clear A20
 replace H := Option.bind_eq_some_iff.mp H
 obtain ⟨t424, A30, H⟩ := H
 replace H : (some t424) = some r := H
 have A3 := aM A30
 clear A30
 obtain rfl := Option.some.inj H
 go_enter Tryd.func53, Tryd.ntmps53
 go_wp2_with (first | ((with_reducible refine gate_dst (N := 6) rfl ?_); refine box_event ?hg (N := 6) ?hd (cs := #[.slice A0 l0.length c0, .slice none 0 0]) (t := 98) ?hr ?_; (case hd => rfl); (case hg => rfl); (case hr => exact zz13); intro gb422 hg w4 hbox hb; have BK422 := aM (hbox); have GW422 := aM ((zz21 : w.heap.size ≤ gb422)); have GE422 := aM ((zz21 : w.heap.size ≤ gb422)); replace HB := aM (below_step bB hb); clear hb hbox hg) | ((with_reducible refine gate_callee (f := 87) rfl ?_); refine gL_ (some 9) Tryd.func87 #[.slice A0 l0.length c0] ?_; (with_reducible refine (impl_length_byte.calls _ _ l0 t423 _ ?side1 ?side2 A2.out).mono ?_); (case side1 => exact zz6 HR0.out); (case side2 => exact HC0.out); rintro e w' ⟨rfl, ⟨nd, rfl⟩⟩; refine ⟨_, rfl, ?_⟩; (try (rw [drewN_self w4]; generalize hq_ : World.drewN w4 _ = w4; have n0_ : Aside0 (w4.heap[gb422]? = some (.cells #[.slice A0 l0.length c0, .slice none 0 0] 98 (0, 0))) := ⟨by rw [← hq_]; exact (bL BK422)⟩; have n1_ : Aside0 (Below w.heap.size w w4) := ⟨by rw [← hq_]; exact (bG GE422)⟩; clear BK422 HB hq_; have BK422 := n0_; have HB := n1_; clear n0_ n1_)); have hcz5_0 : w4.cell? ⟨gb422, 0, none⟩ = some (.slice A0 l0.length c0) := (blk_cell BK422.out 0).trans rfl; have hcz5_1 : w4.cell? ⟨gb422, 1, none⟩ = some (.slice none 0 0) := (blk_cell BK422.out 1).trans rfl; have hfz5_0 := blk_frozen BK422.out 0; have hfz5_1 := blk_frozen BK422.out 1) | ((with_reducible refine gate_callee (f := 86) rfl ?_); refine gL_ (some 10) Tryd.func86 #[.pointer (some ⟨gb422, 0, none⟩), .int .i64 0, .int .i64 t423, .int .i64 (-1), .int .i64 0, .int .i64 0] ?_; (refine (impl_parser_part.calls k A0 c0 l0 0 t423 (-1) 0 0 (fun k_ => some k_ = (.slice none 0 0 : Value).ownBlock ∨ k_ = gb422) (.slice none 0 0) ([] : List (S23)) t424 w _ gb422 ?sidg GE422.out (.inr rfl) ?side1 ?side2 ?side3 ?side4 A3.out).mono ?_); (case sidg => (with_reducible repeat (first | refine blk_drewN ?_ _ | refine blk_drew ?_ | refine blk_alloc ?_ _)); exact BK422.out); (case side1 => exact zz46 GE422.out); (case side2 => exact Kd.C_kept_came (Kd.heap_int .u8) HR0.out (bG GE422) (fun k_ hs_ => hs_.elim (fun hs_ => (fun e_ => by simp [Value.ownBlock] at e_) hs_) (fun e_ => by rw [e_]; exact GW422.out))); (case side3 => exact HC0.out); (case side4 => exact Kd.R_mono (Kd.R_nil _ _ _ _ _) (fun k_ hk_ => .inl hk_)); rintro e w6 ⟨rfl, v425, hbk_, ho0, hb, hkp⟩; refine ⟨_, rfl, ?_⟩; replace BK422 := aM hbk_; have HO426 := aM (Kd.R_mono (ok' := fun k_ => True) ho0 (fun k_ hk_ => trivial)); replace HB := aM (hb); (try clear hkp); (try clear ho0); obtain ⟨Ao7, co7, eo7⟩ := Kd.R_slice HO426.out; subst eo7; have hcz8_0 : w6.cell? ⟨gb422, 0, none⟩ = some (.slice A0 l0.length c0) := (blk_cell BK422.out 0).trans rfl; have hcz8_1 : w6.cell? ⟨gb422, 1, none⟩ = some (.slice Ao7 t424.length co7) := (blk_cell BK422.out 1).trans rfl; have hfz8_0 := blk_frozen BK422.out 0; have hfz8_1 := blk_frozen BK422.out 1))
 go_ret
 exact ⟨_, bE, bR HO426, bG GE422⟩
def impl_partCode.f (k : Nat) (l0 : List Int) (a1 : Int) : Option ((List (S23)) × Int) := if (l0.length : Int) > 400 then (some (([] : List (S23)), 2)) else ((impl_partsOf.f k l0).bind fun t427 => ((impl_Part.f t427).bind fun t430 => ((impl_within.f a1 0 (wrap64 (t430 - 1))).bind fun t431 => (if t431 = true then (some (t427, 0)) else (some (([] : List (S23)), 3))))))
set_option maxHeartbeats 8000000 in
set_option maxRecDepth 100000 in
theorem impl_partCode.calls (k : Nat) (A0 : Option Addr) (c0 : Nat) (l0 : List Int) (a1 : Int) (r1 : List (S23)) (r2 : Int) (w : World) (hr0 : Kd.C (Kd.int .u8) w A0 l0.length l0) (hc0 : l0.length ≤ c0) (h : impl_partCode.f k l0 a1 = some (r1, r2)) :
  Calls Tryd.prog 49 #[.slice A0 l0.length c0, .int .i64 a1] w fun e w' => ∃ v0_ : Value, e = .returned (.tuple #[v0_, .int .i64 r2]) ∧ Kd.R k23 23 w' w.heap.size (fun _ => True) v0_ r1 ∧ Below w.heap.size w w' := by
 have HR0 := aM hr0
 have HC0 := aM hc0
 clear hr0 hc0
 have HB := aM (Below.refl w.heap.size w)
 have H : (if (l0.length : Int) > 400 then (some (([] : List (S23)), 2)) else ((impl_partsOf.f k l0).bind fun t427 => ((impl_Part.f t427).bind fun t430 => ((impl_within.f a1 0 (wrap64 (t430 - 1))).bind fun t431 => (if t431 = true then (some (t427, 0)) else (some (([] : List (S23)), 3))))))) = some (r1, r2) := h
 clear h
 by_cases c3 : (l0.length : Int) > 400
 ·rw [if_pos c3] at H
  have c3b0 : decide (400 < (l0.length : Int)) = true := decide_eq_true c3
  have c3b1 : decide (400 < l0.length) = true := decide_eq_true (by omega)
  clear c3
  simp only [Option.some.injEq, Prod.mk.injEq] at H
  obtain ⟨rfl, rfl⟩ := H
  go_enter Tryd.func49, Tryd.ntmps49
  go_wp2
  go_ret2
  exact ⟨_, bE, zz23, bB⟩
 rw [if_neg c3] at H
 have c3b0 : decide (400 < (l0.length : Int)) = false := decide_eq_false c3
 have c3b1 : decide (400 < l0.length) = false := decide_eq_false (by omega)
 clear c3
 replace H := Option.bind_eq_some_iff.mp H
 obtain ⟨t427, A40, H⟩ := H
 replace H : ((impl_Part.f t427).bind fun t430 => ((impl_within.f a1 0 (wrap64 (t430 - 1))).bind fun t431 => (if t431 = true then (some (t427, 0)) else (some (([] : List (S23)), 3))))) = some (r1, r2) := H
 have A4 := aM A40
 clear A40
 replace H := Option.bind_eq_some_iff.mp H
 obtain ⟨t430, A50, H⟩ := H
 replace H : ((impl_within.f a1 0 (wrap64 (t430 - 1))).bind fun t431 => (if t431 = true then (some (t427, 0)) else (some (([] : List (S23)), 3)))) = some (r1, r2) := H
 have A5 := aM A50
 clear A50
 replace H := Option.bind_eq_some_iff.mp H
 obtain ⟨t431, A60, H⟩ := H
 replace H : (if t431 = true then (some (t427, 0)) else (some (([] : List (S23)), 3))) = some (r1, r2) := H
 have A6 := aM A60
 clear A60
 by_cases c7 : t431 = true
 ·subst c7
  have H1 : (some (t427, 0)) = some (r1, r2) := zz27
  clear H
  have H := H1
  clear H1
  simp only [Option.some.injEq, Prod.mk.injEq] at H
  obtain ⟨rfl, rfl⟩ := H
  go_enter Tryd.func49, Tryd.ntmps49
  go_wp2_with (first | ((with_reducible refine gate_callee (f := 53) rfl ?_); refine gL_ (some 11) Tryd.func53 #[.slice A0 l0.length c0] ?_; (with_reducible refine (impl_partsOf.calls k _ _ l0 t427 _ ?side1 ?side2 A4.out).mono ?_); (case side1 => exact zz32 HR0.out); (case side2 => exact HC0.out); rintro e w8 ⟨v428, rfl, ho0, hb⟩; refine ⟨_, rfl, ?_⟩; have HO429 := aM (Kd.R_lower ho0 (below_size bB)); replace HB := aM (below_step bB hb); (try clear ho0); obtain ⟨Ao9, co9, eo9⟩ := Kd.R_slice HO429.out; subst eo9) | ((with_reducible refine gate_callee (f := 85) rfl ?_); refine gL_ (some 14) Tryd.func85 #[.slice Ao9 t427.length co9] ?_; (with_reducible refine (impl_Part.calls _ _ t427 t430 _ ?side1 ?side2 A5.out).mono ?_); (case side1 => exact zz8 HO429.out); (case side2 => exact (Kd.R_reads' HO429.out).2.1); rintro e w' ⟨rfl, ⟨nd, rfl⟩⟩; refine ⟨_, rfl, ?_⟩) | ((with_reducible refine gate_callee (f := 84) rfl ?_); refine gL_ (some 16) Tryd.func84 #[.int .i64 a1, .int .i64 0, .int .i64 (wrap64 (t430 - 1))] ?_; (with_reducible refine (impl_within.calls a1 0 (wrap64 (t430 - 1)) true _ A6.out).mono ?_); rintro e w' ⟨rfl, ⟨nd, rfl⟩⟩; refine ⟨_, rfl, ?_⟩))
  go_ret2
  exact ⟨_, bE, bR HO429, bB⟩
 replace c7 := Bool.eq_false_iff.mpr c7
 subst c7
 have H1 : (some (([] : List (S23)), 3)) = some (r1, r2) := zz15
 clear H
 have H := H1
 clear H1
 simp only [Option.some.injEq, Prod.mk.injEq] at H
 obtain ⟨rfl, rfl⟩ := H
 go_enter Tryd.func49, Tryd.ntmps49
 go_wp2_with (first | ((with_reducible refine gate_callee (f := 53) rfl ?_); refine gL_ (some 11) Tryd.func53 #[.slice A0 l0.length c0] ?_; (with_reducible refine (impl_partsOf.calls k _ _ l0 t427 _ ?side1 ?side2 A4.out).mono ?_); (case side1 => exact zz32 HR0.out); (case side2 => exact HC0.out); rintro e w10 ⟨v428, rfl, ho0, hb⟩; refine ⟨_, rfl, ?_⟩; have HO429 := aM (Kd.R_lower ho0 (below_size bB)); replace HB := aM (below_step bB hb); (try clear ho0); obtain ⟨Ao11, co11, eo11⟩ := Kd.R_slice HO429.out; subst eo11) | ((with_reducible refine gate_callee (f := 85) rfl ?_); refine gL_ (some 14) Tryd.func85 #[.slice Ao11 t427.length co11] ?_; (with_reducible refine (impl_Part.calls _ _ t427 t430 _ ?side1 ?side2 A5.out).mono ?_); (case side1 => exact zz8 HO429.out); (case side2 => exact (Kd.R_reads' HO429.out).2.1); rintro e w' ⟨rfl, ⟨nd, rfl⟩⟩; refine ⟨_, rfl, ?_⟩) | ((with_reducible refine gate_callee (f := 84) rfl ?_); refine gL_ (some 16) Tryd.func84 #[.int .i64 a1, .int .i64 0, .int .i64 (wrap64 (t430 - 1))] ?_; (with_reducible refine (impl_within.calls a1 0 (wrap64 (t430 - 1)) false _ A6.out).mono ?_); rintro e w' ⟨rfl, ⟨nd, rfl⟩⟩; refine ⟨_, rfl, ?_⟩))
 go_ret2
 exact ⟨_, bE, zz23, bB⟩
def slices_Clone_byte_byte.f (l0 : List Int) : Option (List Int) := if l0.length < 140737488355328 then some l0 else none
set_option maxHeartbeats 8000000 in
set_option maxRecDepth 100000 in
theorem slices_Clone_byte_byte.calls (A0 : Option Addr) (c0 : Nat) (l0 : List Int) (r : List Int) (w : World) (hr0 : Kd.C (Kd.int .u8) w A0 l0.length l0) (hc0 : l0.length ≤ c0) (h : slices_Clone_byte_byte.f l0 = some r) :
    Calls Tryd.prog 50 #[.slice A0 l0.length c0] w fun e w' => ∃ v0_ : Value, e = .returned (v0_) ∧ Kd.R (Kd.int .u8) 5 w' w.heap.size (fun _ => True) v0_ r ∧ Below w.heap.size w w' := by
  unfold slices_Clone_byte_byte.f at h
  by_cases c2 : l0.length < 140737488355328
  · rw [if_pos c2] at h
    obtain rfl := Option.some.inj h
    clear h
    have heq := fun W => Lib.run_eql_slice_nil (P := Tryd.prog) W 27 5 A0 l0.length c0 0 0 Tryd.underlying27
    cases A0 with
    | none =>
      have h0 : l0 = [] := by
        rcases Nat.eq_zero_or_pos l0.length with h0 | h0
        · exact List.eq_nil_of_length_eq_zero h0
        obtain ⟨ad, h, _⟩ := (Kd.reads_of_C (d := 0) hr0).2.2 h0
        cases h
      subst h0
      clear hr0 hc0 c2
      simp only [List.length_nil, Option.isNone_none] at heq ⊢
      go_enter Tryd.func50, Tryd.ntmps50
      go_wp2
      go_ret
      exact ⟨_, rfl, Kd.R_nil _ _ _ _ _, Below.refl _ _⟩
    | some ad =>
      simp only [Option.isNone_some] at heq
      have HR0 := aM hr0
      have HC0 := aM hc0
      clear hr0 hc0
      have HB := aM (Below.refl w.heap.size w)
      have LMc2 := aM c2
      clear c2
      obtain ⟨y108, hy108⟩ : ∃ y_ : List Int, y_ = (([] : List Int)) := ⟨_, rfl⟩
      have Ny108 := aM hy108
      obtain ⟨y111, hy111⟩ : ∃ y_ : List Int, y_ = (y108 ++ l0) := ⟨_, rfl⟩
      have hE : l0 = y111 := by rw [hy111, hy108]; rfl
      have Ny111 := aM hy111
      have HE := aM hE
      clear hy108 hy111 hE
      go_enter Tryd.func50, Tryd.ntmps50
      go_wp2_with (first | ((with_reducible refine gate_dst (N := 5) rfl ?_); refine Kd.R_lit (Kd.int .u8) _ 5 ?hg (N := 5) ?hd (xs := ([] : List Int)) (inner := []) (ok := fun _ => True) (okp := fun _ => True) ?hr ?hp (fun _ hk => hk) trivial (Below.refl _ _) (Nat.le_refl _) (by simp) ?_; (case hd => rfl); (case hg => rfl); (case hr => exact zz13); (case hp => exact (Reps.none _ _)); intro v109 w3 ho4 hb hg_ hnew_; clear hg_ hnew_; rw [← Ny108.out] at ho4; have n0_ := aM (Kd.R_lower ho4 (below_size zz34)); have n1_ := aM (below_step zz34 hb); clear HB; have HO110 := n0_; have HB := n1_; clear n0_ n1_; clear hb ho4) | ((with_reducible refine gate_builtin (b := .append) (xs := #[.tmp 5, .tmp 6]) rfl ?_); at_builtin; refine Kd.R_append_rows (Kd.int .u8) (w0 := w) w.heap.size rfl (.tmp 5) (.tmp 6) 27 5 (.int .u8 0) 1 rfl Tryd.underlying27 info5 rfl (by decide) (by omega) v109 y108 l0 _ _ _ (fun _ => True) (fun _ => False) rfl rfl ?aO ?aR (fun _ _ h => h) (fun _ h => h.elim) ?aF ?aB ?aS ?aL ?_; (case aR => exact zz6 HR0.out); (case aB => exact zz34); (case aF => exact (fun _ _ => trivial)); (case aO => exact (by (with_reducible repeat (first | apply Kd.R_alloc | apply Kd.R_drewN | apply Kd.R_drew)); exact HO110.out)); (case aS => exact (below_size zz34)); (case aL => have := LMc2.out; rw [Ny108.out]; simp only [List.length_nil]; omega); intro v112 w5 ho hb hg hat; rw [← Ny111.out] at ho; have n0_ := aM (hb); have n1_ := aM (ho); clear HB; clear HO110; have HB := n0_; have HO113 := n1_; clear n0_ n1_; clear ho hb hg hat))
      go_ret
      refine ⟨_, rfl, ?_, zz34⟩
      rw [HE.out]
      (with_reducible repeat (first | apply Kd.R_alloc | apply Kd.R_drewN | apply Kd.R_drew))
      exact HO113.out
  rw [if_neg c2] at h
  exact absurd h (by simp)
def impl_BodyOf.f (k : Nat) (l0 : List Int) (a1 : Int) : Option (Int × List Int) := (impl_partCode.f k l0 a1).bind fun bt433 => (if bt433.2 = 0 then (if 0 ≤ a1 then (if a1 < (bt433.1.length : Int) then (if 0 ≤ ((rd_T23 bt433.1 a1).f3) then (if ((rd_T23 bt433.1 a1).f3) ≤ ((rd_T23 bt433.1 a1).f4) then (if ((rd_T23 bt433.1 a1).f4) ≤ (l0.length : Int) then ((slices_Clone_byte_byte.f ((l0.take (((rd_T23 bt433.1 a1).f4) : Int).toNat).drop (((rd_T23 bt433.1 a1).f3) : Int).toNat)).bind fun t440 => (some (0, t440))) else (none)) else (none)) else (none)) else (none)) else (none)) else (some (bt433.2, ([] : List Int))))
def impl_BodyOf.T4 : Bool × List (List Nat × List Nat) := (true, [([], []), ([], []), ([], []), ([1, 2], [1, 2]), ([3], [3]), ([4], [4]), ([], []), ([], []), ([6, 7], [6, 7]), ([8], [8]), ([9], [9]), ([0, 5, 10], [0, 5, 10]), ([11], [11]), ([12], [12]), ([13, 12, 0, 1, 2, 3, 4, 5, 6, 7, 8, 9, 10, 11, 12, 13], [13])])
def impl_BodyOf.B4 : List Nat := [0, 0, 0, 6, 14, 30, 0, 0, 192, 448, 960, 2047, 4095, 8191, 16383]
theorem impl_BodyOf.tab4 : rtab .any (opsOf Tryd.f14 4) = impl_BodyOf.T4 := by kernel_rfl
theorem impl_BodyOf.bits4 : waitsOk impl_BodyOf.T4.2 impl_BodyOf.B4 = true := by kernel_rfl
set_option maxHeartbeats 8000000 in
set_option maxRecDepth 100000 in
theorem impl_BodyOf.calls (k : Nat) (A0 : Option Addr) (c0 : Nat) (l0 : List Int) (a1 : Int) (r1 : Int) (r2 : List Int) (w : World) (hr0 : Kd.C (Kd.int .u8) w A0 l0.length l0) (hc0 : l0.length ≤ c0) (h : impl_BodyOf.f k l0 a1 = some (r1, r2)) :
  Calls Tryd.prog 14 #[.slice A0 l0.length c0, .int .i64 a1] w fun e w' => ∃ v1_ : Value, e = .returned (.agg #[.int .i64 r1, v1_]) ∧ Kd.R (Kd.int .u8) 5 w' w.heap.size (fun _ => True) v1_ r2 ∧ Below w.heap.size w w' := by
 have hu29 := Tryd.underlying29
 have HR0 := aM hr0
 have HC0 := aM hc0
 clear hr0 hc0
 have HB := aM (Below.refl w.heap.size w)
 have H : ((impl_partCode.f k l0 a1).bind fun bt433 => (if bt433.2 = 0 then (if 0 ≤ a1 then (if a1 < (bt433.1.length : Int) then (if 0 ≤ ((rd_T23 bt433.1 a1).f3) then (if ((rd_T23 bt433.1 a1).f3) ≤ ((rd_T23 bt433.1 a1).f4) then (if ((rd_T23 bt433.1 a1).f4) ≤ (l0.length : Int) then ((slices_Clone_byte_byte.f ((l0.take (((rd_T23 bt433.1 a1).f4) : Int).toNat).drop (((rd_T23 bt433.1 a1).f3) : Int).toNat)).bind fun t440 => (some (0, t440))) else (none)) else (none)) else (none)) else (none)) else (none)) else (some (bt433.2, ([] : List Int))))) = some (r1, r2) := h
 clear h
 replace H := Option.bind_eq_some_iff.mp H
 obtain ⟨⟨t433, t434⟩, A30, H⟩ := H
 replace H : (if t434 = 0 then (if 0 ≤ a1 then (if a1 < (t433.length : Int) then (if 0 ≤ ((rd_T23 t433 a1).f3) then (if ((rd_T23 t433 a1).f3) ≤ ((rd_T23 t433 a1).f4) then (if ((rd_T23 t433 a1).f4) ≤ (l0.length : Int) then ((slices_Clone_byte_byte.f ((l0.take (((rd_T23 t433 a1).f4) : Int).toNat).drop (((rd_T23 t433 a1).f3) : Int).toNat)).bind fun t440 => (some (0, t440))) else (none)) else (none)) else (none)) else (none)) else (none)) else (some (t434, ([] : List Int)))) = some (r1, r2) := H
 have A3 := aM A30
 clear A30
 have HQ_ := aM H
 clear H
 go_enter Tryd.func14, Tryd.ntmps14
 have H := HQ_.out
 clear HQ_
 by_cases c4 : t434 = 0
 ·rw [if_pos c4] at H
  have c4b0 : (t434 == 0) = true := beq_iff_eq.mpr c4
  have c4b1 : (t434 != 0) = false := bne_eq_false_iff_eq.mpr c4
  clear c4
  (try simp only [c4b0, c4b1])
  by_cases c5 : 0 ≤ a1
  ·rw [if_pos c5] at H
   have c5b0 : decide (0 ≤ a1) = true := decide_eq_true c5
   clear c5
   by_cases c6 : a1 < (t433.length : Int)
   ·rw [if_pos c6] at H
    have c6b0 : decide (a1 < (t433.length : Int)) = true := decide_eq_true c6
    clear c6
    by_cases c7 : 0 ≤ ((rd_T23 t433 a1).f3)
    ·rw [if_pos c7] at H
     have c7b0 := eq_true c7
     have c7b1 : decide (0 ≤ ((rd_T23 t433 a1).f3)) = true := decide_eq_true c7
     clear c7
     by_cases c8 : ((rd_T23 t433 a1).f3) ≤ ((rd_T23 t433 a1).f4)
     ·rw [if_pos c8] at H
      have c8b0 := eq_true c8
      have c8b1 : decide (((rd_T23 t433 a1).f3) ≤ ((rd_T23 t433 a1).f4)) = true := decide_eq_true c8
      clear c8
      by_cases c9 : ((rd_T23 t433 a1).f4) ≤ (l0.length : Int)
      ·rw [if_pos c9] at H
       have c9b0 := eq_true c9
       have c9b1 : decide (((rd_T23 t433 a1).f4) ≤ (l0.length : Int)) = true := decide_eq_true c9
       clear c9
       replace H := Option.bind_eq_some_iff.mp H
       obtain ⟨t440, A100, H⟩ := H
       replace H : (some (0, t440)) = some (r1, r2) := H
       have A10 := aM A100
       clear A100
       simp only [Option.some.injEq, Prod.mk.injEq] at H
       obtain ⟨rfl, rfl⟩ := H
       try go_wp2_with (first | ((with_reducible refine gate_dst (N := 4) rfl ?_); refine box_event ?hg (N := 4) ?hd (cs := #[.int .i64 0, .slice none 0 0]) (t := 29) ?hr ?_; (case hd => rfl); (case hg => rfl); (case hr => exact zz13); intro gb432 hg w11 hbox hb; have BK432 := aM (hbox); have GW432 := aM ((zz21 : w.heap.size ≤ gb432)); have GE432 := aM ((zz21 : w.heap.size ≤ gb432)); replace HB := aM (below_step bB hb); clear hb hbox hg) | ((with_reducible refine gate_callee (f := 49) rfl ?_); refine gL_ (some 10) Tryd.func49 #[.slice A0 l0.length c0, .int .i64 a1] ?_; (with_reducible refine (impl_partCode.calls k _ _ l0 a1 t433 t434 _ ?side1 ?side2 A3.out).mono ?_); (case side1 => exact zz6 HR0.out); (case side2 => exact HC0.out); rintro e w12 ⟨v435, rfl, ho0, hb⟩; refine ⟨_, rfl, ?_⟩; have HO436 := aM (Kd.R_lower ho0 (below_size (bG GE432))); replace BK432 := aM (blk_below (g := gb432) (o := .cells #[.int .i64 0, .slice none 0 0] 29 (0, 0)) (bL BK432) hb); replace HB := aM (below_step (bG GE432) hb); (try clear ho0)))
       replace HO436 := aM (Kd.R_drew HO436.out)
       replace BK432 := aM (blk_drew BK432.out)
       replace HB := aM (below_drew1 HB.out)
       obtain ⟨Ao14, co14, eo14⟩ := Kd.R_slice HO436.out
       (first | subst eo14 | (injection eo14 with f1_ f2_ f3_; have f4_ := f1_.symm; have f5_ := f3_.symm; clear f1_ f2_ f3_; subst f4_; subst f5_))
       have p437 : 0 ≤ (a1 : Int) := pI
       have q437 : a1 < (t433.length : Int) := pI
       obtain ⟨ad437, e437, hx437_0, hx437_1, hx437_2, hx437_3, hx437_4, hx437_5, hx437_6⟩ := at_T23 (Kd.R_reads' HO436.out).2.2 a1 p437 q437
       cases e437
       replace p437 := eq_true p437
       replace q437 := eq_true q437
       have p438 : 0 ≤ (a1 : Int) := pI
       have q438 : a1 < (t433.length : Int) := pI
       obtain ⟨ad438, e438, hx438_0, hx438_1, hx438_2, hx438_3, hx438_4, hx438_5, hx438_6⟩ := at_T23 (Kd.R_reads' HO436.out).2.2 a1 p438 q438
       obtain rfl : ad437 = ad438 := (by injection e438)
       replace p438 := eq_true p438
       replace q438 := eq_true q438
       obtain ⟨i015, hi015, _, hsz15, _⟩ := info_parts info5
       obtain ⟨A15, hcut15, hA15, hC15⟩ := print_mid_of (P := Tryd.prog) (Value.int .u8) 0 27 5 .i64 .i64 Tryd.underlying27 hi015 hsz15 A0 c0 l0 ((rd_T23 t433 a1).f3) ((rd_T23 t433 a1).f4) (pI) (by first | omega | exact pI) (pI) HC0.out
       have HR439 := aM (Kd.C_of_reads (h1 := fun _ => rfl) (hA15 _ (Kd.reads_of_C HR0.out)))
       have HC439 := aM hC15
       clear hA15 hC15 hi015 hsz15
       refine start_ (n := 15) (S := fun w' => w'.cell? (ad437.add ((a1).toNat * 7)) = some (.int .i64 ((rd_T23 t433 a1).f0)) ∧ w'.cell? ⟨(ad437.add ((a1).toNat * 7)).block, (ad437.add ((a1).toNat * 7)).off + 1, none⟩ = some (.int .i64 ((rd_T23 t433 a1).f1)) ∧ w'.cell? ⟨(ad437.add ((a1).toNat * 7)).block, (ad437.add ((a1).toNat * 7)).off + 2, none⟩ = some (.int .i64 ((rd_T23 t433 a1).f2)) ∧ w'.cell? ⟨(ad437.add ((a1).toNat * 7)).block, (ad437.add ((a1).toNat * 7)).off + 3, none⟩ = some (.int .i64 ((rd_T23 t433 a1).f3)) ∧ w'.cell? ⟨(ad437.add ((a1).toNat * 7)).block, (ad437.add ((a1).toNat * 7)).off + 4, none⟩ = some (.int .i64 ((rd_T23 t433 a1).f4)) ∧ w'.cell? ⟨(ad437.add ((a1).toNat * 7)).block, (ad437.add ((a1).toNat * 7)).off + 5, none⟩ = some (.int .i64 ((rd_T23 t433 a1).f5)) ∧ w'.cell? ⟨(ad437.add ((a1).toNat * 7)).block, (ad437.add ((a1).toNat * 7)).off + 6, none⟩ = some (.int .i64 ((rd_T23 t433 a1).f6)) ∧ w'.cell? (ad437.add ((a1).toNat * 7)) = some (.int .i64 ((rd_T23 t433 a1).f0)) ∧ w'.cell? ⟨(ad437.add ((a1).toNat * 7)).block, (ad437.add ((a1).toNat * 7)).off + 1, none⟩ = some (.int .i64 ((rd_T23 t433 a1).f1)) ∧ w'.cell? ⟨(ad437.add ((a1).toNat * 7)).block, (ad437.add ((a1).toNat * 7)).off + 2, none⟩ = some (.int .i64 ((rd_T23 t433 a1).f2)) ∧ w'.cell? ⟨(ad437.add ((a1).toNat * 7)).block, (ad437.add ((a1).toNat * 7)).off + 3, none⟩ = some (.int .i64 ((rd_T23 t433 a1).f3)) ∧ w'.cell? ⟨(ad437.add ((a1).toNat * 7)).block, (ad437.add ((a1).toNat * 7)).off + 4, none⟩ = some (.int .i64 ((rd_T23 t433 a1).f4)) ∧ w'.cell? ⟨(ad437.add ((a1).toNat * 7)).block, (ad437.add ((a1).toNat * 7)).off + 5, none⟩ = some (.int .i64 ((rd_T23 t433 a1).f5)) ∧ w'.cell? ⟨(ad437.add ((a1).toNat * 7)).block, (ad437.add ((a1).toNat * 7)).off + 6, none⟩ = some (.int .i64 ((rd_T23 t433 a1).f6))) (ds := []) (bsA 15 0) (by kernel_rfl) rfl rfl ⟨hx437_0, hx437_1, hx437_2, hx437_3, hx437_4, hx437_5, hx437_6, hx438_0, hx438_1, hx438_2, hx438_3, hx438_4, hx438_5, hx438_6⟩ (fun hHeld => ?_); refine with_tabW impl_BodyOf.tab4 impl_BodyOf.bits4 (fun HT_ HW_ => ?_)
       generalize w12.drew = w13 at HO436 BK432 HB HR439 hx437_0 hx437_1 hx437_2 hx437_3 hx437_4 hx437_5 hx437_6 hx438_0 hx438_1 hx438_2 hx438_3 hx438_4 hx438_5 hx438_6 hHeld ⊢
       refine pa_ (i := 0) (N := some 17) (bsA 15 1) (h := ?_)
       refine pa_ (i := 1) (N := some 18) (bsA 15 3) (h := ?_)
       refine pa_ (i := 2) (N := some 19) (bsA 15 7) (h := ?_)
       refine pa_ (i := 3) (N := some 20) (bsA 15 15) (h := ?_)
       refine pa_ (i := 4) (N := some 21) (bsA 15 31) (h := ?_)
       refine pa_ (i := 6) (N := some 23) (bsA 15 95) (h := ?_)
       refine pa_ (i := 7) (N := some 24) (bsA 15 223) (h := ?_)
       refine pa_ (i := 8) (N := some 25) (bsA 15 479) (h := ?_)
       refine pa_ (i := 9) (N := some 26) (bsA 15 991) (h := ?_)
       refine take_ (i := 5) (N := some 22) (v := ?_) (a' := ?_) (bsA 15 1023) rfl rfl (take_ofW HT_.out HW_.out (by kernel_rfl)) (fun _ _ _ h => h) (Or.inl ⟨by rfl, ?_⟩) hHeld ?_ ?_
       rotate_left
       ·rintro w' ⟨s0, s1, s2, s3, s4, s5, s6, s7, s8, s9, s10, s11, s12, s13⟩
        go_simp
        with_reducible rfl
       rotate_left
       ·simp only [Act.put, List.setIfInBounds_toArray, List.set_cons_zero, List.set_cons_succ, i64_w, i32_w]
        rfl
       refine take_ (i := 10) (N := some 27) (v := ?_) (a' := ?_) (bsA 15 2047) rfl rfl (take_ofW HT_.out HW_.out (by kernel_rfl)) (fun _ _ _ h => h) (Or.inl ⟨by rfl, ?_⟩) hHeld ?_ ?_
       rotate_left
       ·rintro w' ⟨s0, s1, s2, s3, s4, s5, s6, s7, s8, s9, s10, s11, s12, s13⟩
        go_simp
        with_reducible rfl
       rotate_left
       ·simp only [Act.put, List.setIfInBounds_toArray, List.set_cons_zero, List.set_cons_succ, i64_w, i32_w]
        rfl
       refine pa_ (i := 11) (N := some 28) (bsA 15 4095) (h := ?_)
       refine one_ (i := 12) (N := some 29) (bsA 15 8191) rfl rfl (one_of HT_.out (by kernel_rfl)) (by decide) (fun K hK => ?_)
       refine goes_ Tryd.func50 (by kernel_rfl) rfl #[.slice A15 ((l0.take (((rd_T23 t433 a1).f4) : Int).toNat).drop (((rd_T23 t433 a1).f3) : Int).toNat).length (c0 - ((rd_T23 t433 a1).f3).toNat)] (by rfl) rfl rfl (by (try simp only [List.map_toArray, List.map_cons, List.map_nil]); first | done | (rw [show ((l0.take (((rd_T23 t433 a1).f4) : Int).toNat).drop (((rd_T23 t433 a1).f3) : Int).toNat).length = (((rd_T23 t433 a1).f4).toNat - ((rd_T23 t433 a1).f3).toNat) from (by rw [List.length_drop, List.length_take]; have h_ : (((rd_T23 t433 a1).f4) : Int) ≤ (l0.length : Int) := pI; omega)] <;> rfl) | rfl | (simp only [List.length_drop, List.length_take]; rfl)) ?_
       with_reducible refine (slices_Clone_byte_byte.calls _ _ ((l0.take (((rd_T23 t433 a1).f4) : Int).toNat).drop (((rd_T23 t433 a1).f3) : Int).toNat) t440 _ ?side1 ?side2 A10.out).mono ?_
       (case side1 => exact zz6 HR439.out)
       (case side2 => exact HC439.out)
       rintro e w16 ⟨v441, rfl, ho0, hb⟩
       have HS0_ := (hb.cell (World.block_lt_of_cell? _ _ (hHeld.1))).trans (hHeld.1)
       have HS1_ := (hb.cell (World.block_lt_of_cell? _ _ (hHeld.2.1))).trans (hHeld.2.1)
       have HS2_ := (hb.cell (World.block_lt_of_cell? _ _ (hHeld.2.2.1))).trans (hHeld.2.2.1)
       have HS3_ := (hb.cell (World.block_lt_of_cell? _ _ (hHeld.2.2.2.1))).trans (hHeld.2.2.2.1)
       have HS4_ := (hb.cell (World.block_lt_of_cell? _ _ (hHeld.2.2.2.2.1))).trans (hHeld.2.2.2.2.1)
       have HS5_ := (hb.cell (World.block_lt_of_cell? _ _ (hHeld.2.2.2.2.2.1))).trans (hHeld.2.2.2.2.2.1)
       have HS6_ := (hb.cell (World.block_lt_of_cell? _ _ (hHeld.2.2.2.2.2.2.1))).trans (hHeld.2.2.2.2.2.2.1)
       have HS7_ := (hb.cell (World.block_lt_of_cell? _ _ (hHeld.2.2.2.2.2.2.2.1))).trans (hHeld.2.2.2.2.2.2.2.1)
       have HS8_ := (hb.cell (World.block_lt_of_cell? _ _ (hHeld.2.2.2.2.2.2.2.2.1))).trans (hHeld.2.2.2.2.2.2.2.2.1)
       have HS9_ := (hb.cell (World.block_lt_of_cell? _ _ (hHeld.2.2.2.2.2.2.2.2.2.1))).trans (hHeld.2.2.2.2.2.2.2.2.2.1)
       have HS10_ := (hb.cell (World.block_lt_of_cell? _ _ (hHeld.2.2.2.2.2.2.2.2.2.2.1))).trans (hHeld.2.2.2.2.2.2.2.2.2.2.1)
       have HS11_ := (hb.cell (World.block_lt_of_cell? _ _ (hHeld.2.2.2.2.2.2.2.2.2.2.2.1))).trans (hHeld.2.2.2.2.2.2.2.2.2.2.2.1)
       have HS12_ := (hb.cell (World.block_lt_of_cell? _ _ (hHeld.2.2.2.2.2.2.2.2.2.2.2.2.1))).trans (hHeld.2.2.2.2.2.2.2.2.2.2.2.2.1)
       have HS13_ := (hb.cell (World.block_lt_of_cell? _ _ (hHeld.2.2.2.2.2.2.2.2.2.2.2.2.2))).trans (hHeld.2.2.2.2.2.2.2.2.2.2.2.2.2)
       refine ⟨_, rfl, ?_⟩
       replace HO436 := aM (Kd.R_below (bR HO436) hb)
       have HO442 := aM (Kd.R_lower ho0 (below_size (bG GE432)))
       replace BK432 := aM (blk_below (g := gb432) (o := .cells #[.int .i64 0, .slice none 0 0] 29 (0, 0)) (bL BK432) hb)
       replace HB := aM (below_step (bG GE432) hb)
       (try clear hb)
       (try clear hb2)
       (try clear hk)
       (try clear hi)
       (try clear ho0)
       obtain ⟨Ao17, co17, eo17⟩ := Kd.R_slice HO442.out
       (first | subst eo17 | (injection eo17 with f1_ f2_ f3_; have f4_ := f1_.symm; have f5_ := f3_.symm; clear f1_ f2_ f3_; subst f4_; subst f5_))
       refine hK.out _ _ ⟨HS0_, HS1_, HS2_, HS3_, HS4_, HS5_, HS6_, HS7_, HS8_, HS9_, HS10_, HS11_, HS12_, HS13_⟩ (fun hHeld => ?_)
       clear hK K
       refine na_ (N := some 29) (h := ?_)
       refine pa_ (i := 13) (N := some 30) (bsA 15 16383) (h := ?_)
       refine one_ (i := 14) (N := none) (bsA 15 32767) rfl rfl (one_of HT_.out (by kernel_rfl)) (by decide) (fun K hK => ?_)
       have hs18 : w16.cell? ⟨gb432, 0, none⟩ = some (.int .i64 0) := (blk_cell BK432.out 0).trans rfl
       have hfs18 := blk_frozen BK432.out 0
       have hs19 : w16.cell? ⟨gb432, 1, none⟩ = some (.slice none 0 0) := (blk_cell BK432.out 1).trans rfl
       have hfs19 := blk_frozen BK432.out 1
       refine skip_ (w1 := ?_) (by rfl) rfl ?_ ?_
       rotate_left
       ·go_simp
        rfl
       refine hK.out _ _ ⟨((cell_far (p := ⟨gb432, _, none⟩) (zz0 HO436.out BK432.out) _).trans (((cell_far (p := ⟨gb432, _, none⟩) (zz0 HO436.out BK432.out) _).trans (hHeld.1)))), ((cell_far (p := ⟨gb432, _, none⟩) (zz0 HO436.out BK432.out) _).trans (((cell_far (p := ⟨gb432, _, none⟩) (zz0 HO436.out BK432.out) _).trans (hHeld.2.1)))), ((cell_far (p := ⟨gb432, _, none⟩) (zz0 HO436.out BK432.out) _).trans (((cell_far (p := ⟨gb432, _, none⟩) (zz0 HO436.out BK432.out) _).trans (hHeld.2.2.1)))), ((cell_far (p := ⟨gb432, _, none⟩) (zz0 HO436.out BK432.out) _).trans (((cell_far (p := ⟨gb432, _, none⟩) (zz0 HO436.out BK432.out) _).trans (hHeld.2.2.2.1)))), ((cell_far (p := ⟨gb432, _, none⟩) (zz0 HO436.out BK432.out) _).trans (((cell_far (p := ⟨gb432, _, none⟩) (zz0 HO436.out BK432.out) _).trans (hHeld.2.2.2.2.1)))), ((cell_far (p := ⟨gb432, _, none⟩) (zz0 HO436.out BK432.out) _).trans (((cell_far (p := ⟨gb432, _, none⟩) (zz0 HO436.out BK432.out) _).trans (hHeld.2.2.2.2.2.1)))), ((cell_far (p := ⟨gb432, _, none⟩) (zz0 HO436.out BK432.out) _).trans (((cell_far (p := ⟨gb432, _, none⟩) (zz0 HO436.out BK432.out) _).trans (hHeld.2.2.2.2.2.2.1)))), ((cell_far (p := ⟨gb432, _, none⟩) (zz0 HO436.out BK432.out) _).trans (((cell_far (p := ⟨gb432, _, none⟩) (zz0 HO436.out BK432.out) _).trans (hHeld.2.2.2.2.2.2.2.1)))), ((cell_far (p := ⟨gb432, _, none⟩) (zz0 HO436.out BK432.out) _).trans (((cell_far (p := ⟨gb432, _, none⟩) (zz0 HO436.out BK432.out) _).trans (hHeld.2.2.2.2.2.2.2.2.1)))), ((cell_far (p := ⟨gb432, _, none⟩) (zz0 HO436.out BK432.out) _).trans (((cell_far (p := ⟨gb432, _, none⟩) (zz0 HO436.out BK432.out) _).trans (hHeld.2.2.2.2.2.2.2.2.2.1)))), ((cell_far (p := ⟨gb432, _, none⟩) (zz0 HO436.out BK432.out) _).trans (((cell_far (p := ⟨gb432, _, none⟩) (zz0 HO436.out BK432.out) _).trans (hHeld.2.2.2.2.2.2.2.2.2.2.1)))), ((cell_far (p := ⟨gb432, _, none⟩) (zz0 HO436.out BK432.out) _).trans (((cell_far (p := ⟨gb432, _, none⟩) (zz0 HO436.out BK432.out) _).trans (hHeld.2.2.2.2.2.2.2.2.2.2.2.1)))), ((cell_far (p := ⟨gb432, _, none⟩) (zz0 HO436.out BK432.out) _).trans (((cell_far (p := ⟨gb432, _, none⟩) (zz0 HO436.out BK432.out) _).trans (hHeld.2.2.2.2.2.2.2.2.2.2.2.2.1)))), ((cell_far (p := ⟨gb432, _, none⟩) (zz0 HO436.out BK432.out) _).trans (((cell_far (p := ⟨gb432, _, none⟩) (zz0 HO436.out BK432.out) _).trans (hHeld.2.2.2.2.2.2.2.2.2.2.2.2.2))))⟩ (fun hHeld => ?_)
       clear hK K
       refine done_ (done_of HT_.out (by kernel_rfl)) ?_
       try go_wp2
       refine bodyPost_ret (results_cell_row rfl _ _ gb432 29 #[.int .i64 0, .slice Ao17 t440.length co17] (0, 0) _ rfl (by (with_reducible repeat (first | refine blk_drewN ?_ _ | refine blk_drew ?_ | refine blk_alloc ?_ _)); refine blk_put (cs := #[.int .i64 0, .slice none 0 0]) ?_ 1 _ rfl; (with_reducible repeat (first | refine blk_drewN ?_ _ | refine blk_drew ?_ | refine blk_alloc ?_ _)); refine blk_put (cs := #[.int .i64 0, .slice none 0 0]) ?_ 0 _ rfl; (with_reducible repeat (first | refine blk_drewN ?_ _ | refine blk_drew ?_ | refine blk_alloc ?_ _)); exact BK432.out) Tryd.underlying29 rfl (by kernel_rfl)) rfl ?_
       exact ⟨_, bE, by (with_reducible repeat (first | apply Kd.R_alloc | apply Kd.R_drewN | apply Kd.R_drew)); exact Kd.R_mono (Kd.R_far (p := ⟨gb432, 1, none⟩) (Kd.R_far (p := ⟨gb432, 0, none⟩) (Kd.R_types HO442.out BK432.out (by decide)) (fun _ hk => hk.2) (.int .i64 0)) (fun _ hk => hk.2) (.slice Ao17 t440.length co17)) (fun _ hk => trivial), bG GE432⟩
      rw [if_neg c9] at H
      exact absurd H (by simp)
     rw [if_neg c8] at H
     exact absurd H (by simp)
    rw [if_neg c7] at H
    exact absurd H (by simp)
   rw [if_neg c6] at H
   exact absurd H (by simp)
  rw [if_neg c5] at H
  exact absurd H (by simp)
 rw [if_neg c4] at H
 have c4b0 : (t434 == 0) = false := beq_eq_false_iff_ne.mpr c4
 have c4b1 : (t434 != 0) = true := bne_iff_ne.mpr c4
 simp only [Option.some.injEq, Prod.mk.injEq] at H
 obtain ⟨rfl, rfl⟩ := H
 (try simp only [c4b0, c4b1])
 go_wp2_with (first | ((with_reducible refine gate_dst (N := 4) rfl ?_); refine box_event ?hg (N := 4) ?hd (cs := #[.int .i64 0, .slice none 0 0]) (t := 29) ?hr ?_; (case hd => rfl); (case hg => rfl); (case hr => exact zz13); intro gb432 hg w20 hbox hb; have BK432 := aM (hbox); have GW432 := aM ((zz21 : w.heap.size ≤ gb432)); have GE432 := aM ((zz21 : w.heap.size ≤ gb432)); replace HB := aM (below_step bB hb); clear hb hbox hg) | ((with_reducible refine gate_callee (f := 49) rfl ?_); refine gL_ (some 10) Tryd.func49 #[.slice A0 l0.length c0, .int .i64 a1] ?_; (with_reducible refine (impl_partCode.calls k _ _ l0 a1 t433 t434 _ ?side1 ?side2 A3.out).mono ?_); (case side1 => exact zz6 HR0.out); (case side2 => exact HC0.out); rintro e w21 ⟨v435, rfl, ho0, hb⟩; refine ⟨_, rfl, ?_⟩; have HO436 := aM (Kd.R_lower ho0 (below_size (bG GE432))); replace BK432 := aM (blk_below (g := gb432) (o := .cells #[.int .i64 0, .slice none 0 0] 29 (0, 0)) (bL BK432) hb); replace HB := aM (below_step (bG GE432) hb); (try clear ho0); have hcz22_0 : w21.cell? ⟨gb432, 0, none⟩ = some (.int .i64 0) := (blk_cell BK432.out 0).trans rfl; have hcz22_1 : w21.cell? ⟨gb432, 1, none⟩ = some (.slice none 0 0) := (blk_cell BK432.out 1).trans rfl; have hfz22_0 := blk_frozen BK432.out 0; have hfz22_1 := blk_frozen BK432.out 1))
 refine bodyPost_ret (results_cell_row rfl _ _ gb432 29 #[.int .i64 t434, .slice none 0 0] (0, 0) _ rfl (by (with_reducible repeat (first | refine blk_drewN ?_ _ | refine blk_drew ?_ | refine blk_alloc ?_ _)); refine blk_put (cs := #[.int .i64 t434, .slice none 0 0]) ?_ 1 _ rfl; (with_reducible repeat (first | refine blk_drewN ?_ _ | refine blk_drew ?_ | refine blk_alloc ?_ _)); refine blk_put (cs := #[.int .i64 0, .slice none 0 0]) ?_ 0 _ rfl; (with_reducible repeat (first | refine blk_drewN ?_ _ | refine blk_drew ?_ | refine blk_alloc ?_ _)); exact BK432.out) Tryd.underlying29 rfl (by kernel_rfl)) rfl ?_
 exact ⟨_, bE, zz23, bG GE432⟩
def laws_eqByteS.l0 : Nat → List Int → List Int → Int → Option (Bool)
 | 0, _, _, _ => none
 | k + 1, x0, x1, x5 => if x5 < (x0.length : Int) then (if 0 ≤ x5 then (if x5 < (x1.length : Int) then (if (rd x0 x5) = (rd x1 x5) then (laws_eqByteS.l0 k x0 x1 (wrap64 (x5 + 1))) else (some false)) else (none)) else (none)) else (some true)
def laws_eqByteS.f (k : Nat) (l0 : List Int) (l1 : List Int) : Option (Bool) := if (l0.length : Int) = (l1.length : Int) then (laws_eqByteS.l0 k l0 l1 0) else (some false)
set_option maxHeartbeats 8000000 in
set_option maxRecDepth 100000 in
theorem laws_eqByteS.calls (k : Nat) (A0 : Option Addr) (c0 : Nat) (l0 : List Int) (A1 : Option Addr) (c1 : Nat) (l1 : List Int) (r : Bool) (w : World) (hr0 : Kd.C (Kd.int .u8) w A0 l0.length l0) (hc0 : l0.length ≤ c0) (hr1 : Kd.C (Kd.int .u8) w A1 l1.length l1) (hc1 : l1.length ≤ c1) (h : laws_eqByteS.f k l0 l1 = some r) :
  Calls Tryd.prog 16 #[.slice A0 l0.length c0, .slice A1 l1.length c1] w fun e w' => e = .returned (.bool r) ∧ Drawn0 w w' := by
 have HR0 := aM hr0
 have HC0 := aM hc0
 clear hr0 hc0
 have HR1 := aM hr1
 have HC1 := aM hc1
 clear hr1 hc1
 have H : (if (l0.length : Int) = (l1.length : Int) then (laws_eqByteS.l0 k l0 l1 0) else (some false)) = some r := h
 clear h
 by_cases c3 : (l0.length : Int) = (l1.length : Int)
 ·rw [if_pos c3] at H
  have c3b0 : ((l0.length : Int) == (l1.length : Int)) = true := beq_iff_eq.mpr c3
  have c3b1 : ((l0.length : Int) != (l1.length : Int)) = false := bne_eq_false_iff_eq.mpr c3
  have c3b2 : (l0.length == l1.length) = true := by first | simpa using c3 | (simp at c3 ⊢; omega)
  clear c3
  have H' := aM H
  clear H
  go_enter Tryd.func16, Tryd.ntmps16
  go_wp2
  repeat (go_quiet (fail); try go_wp2)
  go_loopg [5] k (fun kq v5 w' => ∃ (x5_1 : Int), v5 = .int .i64 x5_1 ∧ Aside0 (laws_eqByteS.l0 kq l0 l1 x5_1 = some r) ∧ Aside0 (kq ≤ k) ∧ Drawn0 w w')
  case atStart => exact ⟨(0), bS, H', ⟨Nat.le_refl _⟩, zz7⟩
  case round =>
   clear H'
   try clear c1
   try clear p2
   try clear c3
   try clear c3b0
   try clear c3b1
   try clear c3b2
   obtain ⟨x5_1, rfl, HA, HK1, ⟨m1, rfl⟩⟩ := hrel
   cases gk with
   | zero => exact absurd HA.out (by simp [laws_eqByteS.l0])
   | succ k1 =>
    have H := HA.out
    clear HA
    simp only [laws_eqByteS.l0] at H
    by_cases c4 : x5_1 < (l0.length : Int)
    ·rw [if_pos c4] at H
     have c4b0 : decide (x5_1 < (l0.length : Int)) = true := decide_eq_true c4
     clear c4
     by_cases c5 : 0 ≤ x5_1
     ·rw [if_pos c5] at H
      have c5b0 : decide (0 ≤ x5_1) = true := decide_eq_true c5
      clear c5
      by_cases c6 : x5_1 < (l1.length : Int)
      ·rw [if_pos c6] at H
       have c6b0 : decide (x5_1 < (l1.length : Int)) = true := decide_eq_true c6
       clear c6
       by_cases c7 : (rd l0 x5_1) = (rd l1 x5_1)
       ·rw [if_pos c7] at H
        have c7b0 : ((rd l0 x5_1) == (rd l1 x5_1)) = true := beq_iff_eq.mpr c7
        have c7b1 : ((rd l0 x5_1) != (rd l1 x5_1)) = false := bne_eq_false_iff_eq.mpr c7
        clear c7
        have H' := aM H
        clear H
        have p443 : 0 ≤ (x5_1 : Int) := pI
        have q443 : x5_1 < (l0.length : Int) := pI
        obtain ⟨ad443, e443, hx443_0⟩ := Kd.at_int HR0.out x5_1 p443 q443
        cases e443
        replace p443 := eq_true p443
        replace q443 := eq_true q443
        have p444 : 0 ≤ (x5_1 : Int) := pI
        have q444 : x5_1 < (l1.length : Int) := pI
        obtain ⟨ad444, e444, hx444_0⟩ := Kd.at_int HR1.out x5_1 p444 q444
        cases e444
        replace p444 := eq_true p444
        replace q444 := eq_true q444
        go_wp2
        repeat (go_quiet (fail); try go_wp2)
        go_roundg k1
        case measure => have := HK1.out; omega
        case rel => exact ⟨(wrap64 (x5_1 + 1)), bS, H', ⟨by have := HK1.out; omega⟩, zz7⟩
       rw [if_neg c7] at H
       have c7b0 : ((rd l0 x5_1) == (rd l1 x5_1)) = false := beq_eq_false_iff_ne.mpr c7
       have c7b1 : ((rd l0 x5_1) != (rd l1 x5_1)) = true := bne_iff_ne.mpr c7
       obtain rfl := Option.some.inj H
       have p443 : 0 ≤ (x5_1 : Int) := pI
       have q443 : x5_1 < (l0.length : Int) := pI
       obtain ⟨ad443, e443, hx443_0⟩ := Kd.at_int HR0.out x5_1 p443 q443
       cases e443
       replace p443 := eq_true p443
       replace q443 := eq_true q443
       have p444 : 0 ≤ (x5_1 : Int) := pI
       have q444 : x5_1 < (l1.length : Int) := pI
       obtain ⟨ad444, e444, hx444_0⟩ := Kd.at_int HR1.out x5_1 p444 q444
       cases e444
       replace p444 := eq_true p444
       replace q444 := eq_true q444
       go_wp2
       repeat (go_quiet (fail); try go_wp2)
       go_ret
       exact ⟨bS, zz7⟩
      rw [if_neg c6] at H
      exact absurd H (by simp)
     rw [if_neg c5] at H
     exact absurd H (by simp)
    rw [if_neg c4] at H
    have c4b0 : decide (x5_1 < (l0.length : Int)) = false := decide_eq_false c4
    clear c4
    obtain rfl := Option.some.inj H
    go_wp2
    repeat (go_quiet (fail); try go_wp2)
    go_ret
    exact ⟨bS, zz7⟩
 rw [if_neg c3] at H
 have c3b0 : ((l0.length : Int) == (l1.length : Int)) = false := beq_eq_false_iff_ne.mpr c3
 have c3b1 : ((l0.length : Int) != (l1.length : Int)) = true := bne_iff_ne.mpr c3
 have c3b2 : (l0.length == l1.length) = false := by first | simpa using c3 | (simp at c3 ⊢; omega)
 obtain rfl := Option.some.inj H
 go_enter Tryd.func16, Tryd.ntmps16
 go_wp2
 repeat (go_quiet (fail); try go_wp2)
 go_ret
 exact ⟨bS, zz7⟩
def laws_eqBytesResult.f (k : Nat) (a0_0 : Int) (l0_1 : List Int) (a1_0 : Int) (l1_1 : List Int) : Option (Bool) := if a0_0 = a1_0 then ((laws_eqByteS.f k l0_1 l1_1).bind fun t447 => (if t447 = true then (some true) else (some false))) else (some false)
set_option maxHeartbeats 8000000 in
set_option maxRecDepth 100000 in
theorem laws_eqBytesResult.calls (k : Nat) (a0_0 : Int) (A0_1 : Option Addr) (c0_1 : Nat) (l0_1 : List Int) (a1_0 : Int) (A1_1 : Option Addr) (c1_1 : Nat) (l1_1 : List Int) (r : Bool) (w : World) (hr0_1 : Kd.C (Kd.int .u8) w A0_1 l0_1.length l0_1) (hc0_1 : l0_1.length ≤ c0_1) (hr1_1 : Kd.C (Kd.int .u8) w A1_1 l1_1.length l1_1) (hc1_1 : l1_1.length ≤ c1_1) (h : laws_eqBytesResult.f k a0_0 l0_1 a1_0 l1_1 = some r) :
  Calls Tryd.prog 15 #[.agg #[.int .i64 a0_0, .slice A0_1 l0_1.length c0_1], .agg #[.int .i64 a1_0, .slice A1_1 l1_1.length c1_1]] w fun e w' => e = .returned (.bool r) ∧ Below w.heap.size w w' := by
 have hu29 := Tryd.underlying29
 have HR0_1 := aM hr0_1
 have HC0_1 := aM hc0_1
 clear hr0_1 hc0_1
 have HR1_1 := aM hr1_1
 have HC1_1 := aM hc1_1
 clear hr1_1 hc1_1
 have HB := aM (Below.refl w.heap.size w)
 have H : (if a0_0 = a1_0 then ((laws_eqByteS.f k l0_1 l1_1).bind fun t447 => (if t447 = true then (some true) else (some false))) else (some false)) = some r := h
 clear h
 by_cases c3 : a0_0 = a1_0
 ·rw [if_pos c3] at H
  have c3b0 : (a0_0 == a1_0) = true := beq_iff_eq.mpr c3
  have c3b1 : (a0_0 != a1_0) = false := bne_eq_false_iff_eq.mpr c3
  clear c3
  replace H := Option.bind_eq_some_iff.mp H
  obtain ⟨t447, A40, H⟩ := H
  replace H : (if t447 = true then (some true) else (some false)) = some r := H
  have A4 := aM A40
  clear A40
  by_cases c5 : t447 = true
  ·subst c5
   have H1 : (some true) = some r := zz27
   clear H
   have H := H1
   clear H1
   obtain rfl := Option.some.inj H
   go_enter Tryd.func15, Tryd.ntmps15
   go_wp2_with (first | ((with_reducible refine gate_dst (N := 2) rfl ?_); refine box_event ?hg (N := 2) ?hd (cs := #[.int .i64 a0_0, .slice A0_1 l0_1.length c0_1]) (t := 29) ?hr ?_; (case hd => rfl); (case hg => rfl); (case hr => exact zz13); intro gb445 hg w6 hbox hb; have BK445 := aM (hbox); have GW445 := aM ((zz21 : w.heap.size ≤ gb445)); have GE445 := aM ((zz21 : w.heap.size ≤ gb445)); replace HB := aM (below_step bB hb); clear hb hbox hg) | ((with_reducible refine gate_dst (N := 3) rfl ?_); refine box_event ?hg (N := 3) ?hd (cs := #[.int .i64 a1_0, .slice A1_1 l1_1.length c1_1]) (t := 29) ?hr ?_; (case hd => rfl); (case hg => rfl); (case hr => exact zz13); intro gb446 hg w7 hbox hb; have BK446 := aM (hbox); have GW446 := aM ((zz56 : w.heap.size ≤ gb446)); have GE446 := aM ((zz56 : w.heap.size ≤ gb446)); replace HB := aM (below_step (bG GE445) hb); have NB445_446 := aM ((zz50 : gb445 ≠ gb446)); have NB446_445 := aM ((zz51 : gb446 ≠ gb445)); replace BK445 := aM (blk_below (g := gb445) (o := .cells #[.int .i64 a0_0, .slice A0_1 l0_1.length c0_1] 29 (0, 0)) (bL BK445) hb); clear hb hbox hg; have hnb8 := NB445_446.out; have hnc8 := NB446_445.out; have hcz9_0 : w7.cell? ⟨gb445, 0, none⟩ = some (.int .i64 a0_0) := (blk_cell BK445.out 0).trans rfl; have hcz9_1 : w7.cell? ⟨gb445, 1, none⟩ = some (.slice A0_1 l0_1.length c0_1) := (blk_cell BK445.out 1).trans rfl; have hfz9_0 := blk_frozen BK445.out 0; have hfz9_1 := blk_frozen BK445.out 1; have hcz10_0 : w7.cell? ⟨gb446, 0, none⟩ = some (.int .i64 a1_0) := (blk_cell BK446.out 0).trans rfl; have hcz10_1 : w7.cell? ⟨gb446, 1, none⟩ = some (.slice A1_1 l1_1.length c1_1) := (blk_cell BK446.out 1).trans rfl; have hfz10_0 := blk_frozen BK446.out 0; have hfz10_1 := blk_frozen BK446.out 1) | ((with_reducible refine gate_callee (f := 16) rfl ?_); refine gL_ (some 14) Tryd.func16 #[.slice A0_1 l0_1.length c0_1, .slice A1_1 l1_1.length c1_1] ?_; (with_reducible refine (laws_eqByteS.calls k _ _ l0_1 _ _ l1_1 true _ ?side1 ?side2 ?side3 ?side4 A4.out).mono ?_); (case side1 => exact zz6 HR0_1.out); (case side2 => exact HC0_1.out); (case side3 => exact zz6 HR1_1.out); (case side4 => exact HC1_1.out); rintro e w' ⟨rfl, ⟨nd, rfl⟩⟩; refine ⟨_, rfl, ?_⟩))
   go_ret
   exact ⟨bE, bG2 GE445 GE446⟩
  replace c5 := Bool.eq_false_iff.mpr c5
  subst c5
  have H1 : (some false) = some r := zz15
  clear H
  have H := H1
  clear H1
  obtain rfl := Option.some.inj H
  go_enter Tryd.func15, Tryd.ntmps15
  go_wp2_with (first | ((with_reducible refine gate_dst (N := 2) rfl ?_); refine box_event ?hg (N := 2) ?hd (cs := #[.int .i64 a0_0, .slice A0_1 l0_1.length c0_1]) (t := 29) ?hr ?_; (case hd => rfl); (case hg => rfl); (case hr => exact zz13); intro gb445 hg w11 hbox hb; have BK445 := aM (hbox); have GW445 := aM ((zz21 : w.heap.size ≤ gb445)); have GE445 := aM ((zz21 : w.heap.size ≤ gb445)); replace HB := aM (below_step bB hb); clear hb hbox hg) | ((with_reducible refine gate_dst (N := 3) rfl ?_); refine box_event ?hg (N := 3) ?hd (cs := #[.int .i64 a1_0, .slice A1_1 l1_1.length c1_1]) (t := 29) ?hr ?_; (case hd => rfl); (case hg => rfl); (case hr => exact zz13); intro gb446 hg w12 hbox hb; have BK446 := aM (hbox); have GW446 := aM ((zz56 : w.heap.size ≤ gb446)); have GE446 := aM ((zz56 : w.heap.size ≤ gb446)); replace HB := aM (below_step (bG GE445) hb); have NB445_446 := aM ((zz50 : gb445 ≠ gb446)); have NB446_445 := aM ((zz51 : gb446 ≠ gb445)); replace BK445 := aM (blk_below (g := gb445) (o := .cells #[.int .i64 a0_0, .slice A0_1 l0_1.length c0_1] 29 (0, 0)) (bL BK445) hb); clear hb hbox hg; have hnb13 := NB445_446.out; have hnc13 := NB446_445.out; have hcz14_0 : w12.cell? ⟨gb445, 0, none⟩ = some (.int .i64 a0_0) := (blk_cell BK445.out 0).trans rfl; have hcz14_1 : w12.cell? ⟨gb445, 1, none⟩ = some (.slice A0_1 l0_1.length c0_1) := (blk_cell BK445.out 1).trans rfl; have hfz14_0 := blk_frozen BK445.out 0; have hfz14_1 := blk_frozen BK445.out 1; have hcz15_0 : w12.cell? ⟨gb446, 0, none⟩ = some (.int .i64 a1_0) := (blk_cell BK446.out 0).trans rfl; have hcz15_1 : w12.cell? ⟨gb446, 1, none⟩ = some (.slice A1_1 l1_1.length c1_1) := (blk_cell BK446.out 1).trans rfl; have hfz15_0 := blk_frozen BK446.out 0; have hfz15_1 := blk_frozen BK446.out 1) | ((with_reducible refine gate_callee (f := 16) rfl ?_); refine gL_ (some 14) Tryd.func16 #[.slice A0_1 l0_1.length c0_1, .slice A1_1 l1_1.length c1_1] ?_; (with_reducible refine (laws_eqByteS.calls k _ _ l0_1 _ _ l1_1 false _ ?side1 ?side2 ?side3 ?side4 A4.out).mono ?_); (case side1 => exact zz6 HR0_1.out); (case side2 => exact HC0_1.out); (case side3 => exact zz6 HR1_1.out); (case side4 => exact HC1_1.out); rintro e w' ⟨rfl, ⟨nd, rfl⟩⟩; refine ⟨_, rfl, ?_⟩))
  go_ret
  exact ⟨bE, bG2 GE445 GE446⟩
 rw [if_neg c3] at H
 have c3b0 : (a0_0 == a1_0) = false := beq_eq_false_iff_ne.mpr c3
 have c3b1 : (a0_0 != a1_0) = true := bne_iff_ne.mpr c3
 obtain rfl := Option.some.inj H
 go_enter Tryd.func15, Tryd.ntmps15
 go_wp2_with (first | ((with_reducible refine gate_dst (N := 2) rfl ?_); refine box_event ?hg (N := 2) ?hd (cs := #[.int .i64 a0_0, .slice A0_1 l0_1.length c0_1]) (t := 29) ?hr ?_; (case hd => rfl); (case hg => rfl); (case hr => exact zz13); intro gb445 hg w16 hbox hb; have BK445 := aM (hbox); have GW445 := aM ((zz21 : w.heap.size ≤ gb445)); have GE445 := aM ((zz21 : w.heap.size ≤ gb445)); replace HB := aM (below_step bB hb); clear hb hbox hg) | ((with_reducible refine gate_dst (N := 3) rfl ?_); refine box_event ?hg (N := 3) ?hd (cs := #[.int .i64 a1_0, .slice A1_1 l1_1.length c1_1]) (t := 29) ?hr ?_; (case hd => rfl); (case hg => rfl); (case hr => exact zz13); intro gb446 hg w17 hbox hb; have BK446 := aM (hbox); have GW446 := aM ((zz56 : w.heap.size ≤ gb446)); have GE446 := aM ((zz56 : w.heap.size ≤ gb446)); replace HB := aM (below_step (bG GE445) hb); have NB445_446 := aM ((zz50 : gb445 ≠ gb446)); have NB446_445 := aM ((zz51 : gb446 ≠ gb445)); replace BK445 := aM (blk_below (g := gb445) (o := .cells #[.int .i64 a0_0, .slice A0_1 l0_1.length c0_1] 29 (0, 0)) (bL BK445) hb); clear hb hbox hg; have hnb18 := NB445_446.out; have hnc18 := NB446_445.out; have hcz19_0 : w17.cell? ⟨gb445, 0, none⟩ = some (.int .i64 a0_0) := (blk_cell BK445.out 0).trans rfl; have hcz19_1 : w17.cell? ⟨gb445, 1, none⟩ = some (.slice A0_1 l0_1.length c0_1) := (blk_cell BK445.out 1).trans rfl; have hfz19_0 := blk_frozen BK445.out 0; have hfz19_1 := blk_frozen BK445.out 1; have hcz20_0 : w17.cell? ⟨gb446, 0, none⟩ = some (.int .i64 a1_0) := (blk_cell BK446.out 0).trans rfl; have hcz20_1 : w17.cell? ⟨gb446, 1, none⟩ = some (.slice A1_1 l1_1.length c1_1) := (blk_cell BK446.out 1).trans rfl; have hfz20_0 := blk_frozen BK446.out 0; have hfz20_1 := blk_frozen BK446.out 1))
 go_ret
 exact ⟨bE, bG2 GE445 GE446⟩
def laws_markByteS.l0 : Nat → List Int → Int → Int → Option (Int × List Int)
 | 0, _, _, _ => none
 | k + 1, x0, x1, x5 => if x5 < (x0.length : Int) then (if 0 ≤ x5 then (laws_markByteS.l0 k (x0.set (x5 : Int).toNat ((x1) % 256)) (wrap64 (x1 + 1)) (wrap64 (x5 + 1))) else (none)) else (some (x1, x0))
def laws_markByteS.f (k : Nat) (l0 : List Int) (a1 : Int) : Option (Int × List Int) := laws_markByteS.l0 k l0 a1 0
set_option maxHeartbeats 8000000 in
set_option maxRecDepth 100000 in
theorem laws_markByteS.calls (k : Nat) (P0_ : Nat → Prop) (u9000_ : Value) (l0 : List Int) (a1 : Int) (r1 : Int) (r2 : List Int) (w0 w : World) (hB : Below w0.heap.size w0 w) (ho0 : Kd.R (Kd.int .u8) 5 w w0.heap.size P0_ u9000_ l0) (h : laws_markByteS.f k l0 a1 = some (r1, r2)) :
  Calls Tryd.prog 17 #[u9000_, .int .i64 a1] w fun e w' => e = .returned (.int .i64 r1) ∧ Kd.R (Kd.int .u8) 5 w' w0.heap.size (fun k_ => (P0_ k_ ∨ w.heap.size ≤ k_)) u9000_ r2 ∧ Below w0.heap.size w0 w' ∧ Kept w w' (fun k_ => P0_ k_) := by
 have HO0 := aM (show Kd.R (Kd.int .u8) 5 w w0.heap.size (fun k_ => (P0_ k_ ∨ w.heap.size ≤ k_)) u9000_ l0 from Kd.R_mono ho0 (fun k_ hk => (.inl hk)))
 have HK := aM (Kept.refl w (fun k_ => P0_ k_))
 have HW0 := aM hB.size
 have HB := aM hB
 clear hB
 have H : (laws_markByteS.l0 k l0 a1 0) = some (r1, r2) := h
 clear h
 have H' := aM H
 clear H
 go_enter Tryd.func17, Tryd.ntmps17
 go_wp2
 go_loopg [1, 5] k (fun kq v1 v5 w' => ∃ (x0_1 : List Int) (x1_1 : Int) (x5_1 : Int), v1 = .int .i64 x1_1 ∧ v5 = .int .i64 x5_1 ∧ Aside0 (laws_markByteS.l0 kq x0_1 x1_1 x5_1 = some (r1, r2)) ∧ Aside0 (kq ≤ k) ∧ Aside0 (Kd.R (Kd.int .u8) 5 w' w0.heap.size (fun k_ => (P0_ k_ ∨ w.heap.size ≤ k_)) u9000_ x0_1) ∧ Aside0 (Kept w w' (fun k_ => P0_ k_)) ∧ Aside0 (Below w0.heap.size w0 w'))
 case atStart => exact ⟨(l0), (a1), (0), bS, bS, H', ⟨Nat.le_refl _⟩, ⟨bR HO0⟩, ⟨bK⟩, ⟨bB⟩⟩
 case round =>
  clear H'
  try clear c1
  try clear p2
  obtain ⟨x0_1, x1_1, x5_1, rfl, rfl, HA, HK1, HO_0, HK, HB⟩ := hrel
  cases gk with
  | zero => exact absurd HA.out (by simp [laws_markByteS.l0])
  | succ k1 =>
   have H := HA.out
   clear HA
   simp only [laws_markByteS.l0] at H
   by_cases c3 : x5_1 < (x0_1.length : Int)
   ·rw [if_pos c3] at H
    have c3b0 : decide (x5_1 < (x0_1.length : Int)) = true := decide_eq_true c3
    clear c3
    by_cases c4 : 0 ≤ x5_1
    ·rw [if_pos c4] at H
     have c4b0 : decide (0 ≤ x5_1) = true := decide_eq_true c4
     clear c4
     obtain ⟨y448, hy448⟩ : ∃ y_ : List Int, y_ = (x0_1.set (x5_1 : Int).toNat ((x1_1) % 256)) := ⟨_, rfl⟩
     replace H : (laws_markByteS.l0 k1 y448 (wrap64 (x1_1 + 1)) (wrap64 (x5_1 + 1))) = some (r1, r2) := zz3 hy448
     have Ny448 := aM hy448
     clear hy448
     have H' := aM H
     clear H
     obtain ⟨Ao6, co6, eo6⟩ := Kd.R_slice HO_0.out
     subst eo6
     have p5 : 0 ≤ (x5_1 : Int) := pI
     have q5 : (x5_1 : Int) < ((x0_1.length : Int) : Int) := pI
     obtain ⟨go5, co5, eo5, gb5, gl5, cl5, HG5⟩ := Kd.R_form HO_0.out (by omega)
     (first | cases eo5 | (injection eo5 with ea_ en_ ec_; (first | subst ea_ | (injection ea_ with ea_; subst ea_)); subst ec_; clear en_))
     have GB5 := aM gb5
     have GG5 := aM HG5
     clear gb5 gl5 HG5
     have HMgo5 := aM (show (P0_ go5 ∨ w.heap.size ≤ go5) from (HO_0.out.1 _ rfl))
     obtain ⟨hx5_0, hf5_0⟩ := Kd.R_celln 0 HO_0.out (x5_1 : Int) p5 q5
     replace p5 := eq_true p5
     replace q5 := eq_true q5
     have HP7 := Kd.R_putg HO_0.out (x5_1 : Int) ((x1_1) % 256)
     go_wp2_with (first | ((with_reducible refine gate_store (t := 5) (p := 16) rfl ?_); refine store_event (t := 5) (p := 16) (v := ?vo_w8) (w1 := (wr.setCell ⟨go5, (x5_1 : Int).toNat, none⟩ (.int .u8 ((x1_1) % 256)))) ?hg ?ho ?hn ?hr ?_; (case ho => rfl); (case hg => rfl); (case hn => rfl); (case hr => exact zz13); intro w8 hw; have hg : wr.grownBy w8 (some go5) := (by rw [hw]; exact HP7.2); have hp_ : Kd.R (Kd.int .u8) 5 w8 w0.heap.size (fun k_ => (P0_ k_ ∨ w.heap.size ≤ k_)) (.slice (some ⟨go5, 0, none⟩) x0_1.length co6) y448 := (by rw [hw, Ny448.out]; exact HP7.1); clear HP7; replace HB := aM ((zz60 GB5.out : Below w0.heap.size w0 w8)); replace HK := aM (Kept.of_grown (S := (fun k_ => P0_ k_)) hg bK (fun k_ e_ => (HO_0.out.1 k_ e_))); replace HO_0 := aM (hp_); clear hg hw hp_))
     go_roundg k1
     case measure => have := HK1.out; omega
     case rel => exact ⟨(y448), (wrap64 (x1_1 + 1)), (wrap64 (x5_1 + 1)), bS, bS, H', ⟨by have := HK1.out; omega⟩, ⟨bR HO_0⟩, ⟨bK⟩, ⟨bB⟩⟩
    rw [if_neg c4] at H
    exact absurd H (by simp)
   rw [if_neg c3] at H
   have c3b0 : decide (x5_1 < (x0_1.length : Int)) = false := decide_eq_false c3
   clear c3
   simp only [Option.some.injEq, Prod.mk.injEq] at H
   obtain ⟨rfl, rfl⟩ := H
   obtain ⟨Ao9, co9, eo9⟩ := Kd.R_slice HO_0.out
   subst eo9
   go_wp2
   go_ret
   exact ⟨bE, bR HO_0, bB, bK⟩
def laws_markBytesResult.f (k : Nat) (a0_0 : Int) (l0_1 : List Int) (a1 : Int) : Option (Int × List Int) := (laws_markByteS.f k l0_1 a1).bind fun bt450 => (some (bt450.1, bt450.2))
set_option maxHeartbeats 8000000 in
set_option maxRecDepth 100000 in
theorem laws_markBytesResult.calls (k : Nat) (a0_0 : Int) (P0_1_ : Nat → Prop) (u9000_ : Value) (l0_1 : List Int) (a1 : Int) (r1 : Int) (r2 : List Int) (w0 w : World) (hB : Below w0.heap.size w0 w) (ho0_1 : Kd.R (Kd.int .u8) 5 w w0.heap.size P0_1_ u9000_ l0_1) (h : laws_markBytesResult.f k a0_0 l0_1 a1 = some (r1, r2)) :
  Calls Tryd.prog 18 #[.agg #[.int .i64 a0_0, u9000_], .int .i64 a1] w fun e w' => e = .returned (.int .i64 r1) ∧ Kd.R (Kd.int .u8) 5 w' w0.heap.size (fun k_ => (P0_1_ k_ ∨ w.heap.size ≤ k_)) u9000_ r2 ∧ Below w0.heap.size w0 w' ∧ Kept w w' (fun k_ => P0_1_ k_) := by
 have hu29 := Tryd.underlying29
 have HO0_1 := aM (show Kd.R (Kd.int .u8) 5 w w0.heap.size (fun k_ => (P0_1_ k_ ∨ w.heap.size ≤ k_)) u9000_ l0_1 from Kd.R_mono ho0_1 (fun k_ hk => (.inl hk)))
 have HK := aM (Kept.refl w (fun k_ => P0_1_ k_))
 have HW0 := aM hB.size
 have HB := aM hB
 clear hB
 have H : ((laws_markByteS.f k l0_1 a1).bind fun bt450 => (some (bt450.1, bt450.2))) = some (r1, r2) := h
 clear h
 replace H := Option.bind_eq_some_iff.mp H
 obtain ⟨⟨t450, t451⟩, A30, H⟩ := H
 replace H : (some (t450, t451)) = some (r1, r2) := H
 have A3 := aM A30
 clear A30
 simp only [Option.some.injEq, Prod.mk.injEq] at H
 obtain ⟨rfl, rfl⟩ := H
 obtain ⟨Ao4, co4, eo4⟩ := Kd.R_slice HO0_1.out
 subst eo4
 go_enter Tryd.func18, Tryd.ntmps18
 go_wp2_with (first | ((with_reducible refine gate_dst (N := 2) rfl ?_); refine box_event ?hg (N := 2) ?hd (cs := #[.int .i64 a0_0, .slice Ao4 l0_1.length co4]) (t := 29) ?hr ?_; (case hd => rfl); (case hg => rfl); (case hr => exact zz13); intro gb449 hg w5 hbox hb; replace HO0_1 := aM (Kd.R_below (bR HO0_1) hb); have BK449 := aM (hbox); have GW449 := aM ((by rw [hg]; exact (by first | exact HK.out.1 | exact (show Kept w _ (fun k_ => P0_1_ k_) from bK).1) : w.heap.size ≤ gb449)); replace HK := aM (Kept.below (S := (fun k_ => P0_1_ k_)) bK hb); have GE449 := aM ((zz21 : w0.heap.size ≤ gb449)); replace HB := aM (below_step bB hb); clear hb hbox hg; have hcz6_0 : w5.cell? ⟨gb449, 0, none⟩ = some (.int .i64 a0_0) := (blk_cell BK449.out 0).trans rfl; have hcz6_1 : w5.cell? ⟨gb449, 1, none⟩ = some (.slice Ao4 l0_1.length co4) := (blk_cell BK449.out 1).trans rfl; have hfz6_0 := blk_frozen BK449.out 0; have hfz6_1 := blk_frozen BK449.out 1) | ((with_reducible refine gate_callee (f := 17) rfl ?_); refine gL_ (some 8) Tryd.func17 #[.slice Ao4 l0_1.length co4, .int .i64 a1] ?_; (with_reducible refine (laws_markByteS.calls k (fun k_ => some k_ = (.slice Ao4 l0_1.length co4 : Value).ownBlock) (.slice Ao4 l0_1.length co4) l0_1 a1 t450 t451 w0 _ ?side1 ?side2 A3.out).mono ?_); (case side1 => exact zz46 GE449.out); (case side2 => exact Kd.R_tight rfl HO0_1.out); rintro e w7 ⟨rfl, hy0, hb, hkp⟩; refine ⟨_, rfl, ?_⟩; replace BK449 := aM (blk_kept (bL BK449) hkp (fun hs_ => (fun e_ => (Kd.R_ne HO0_1.out BK449.out (by decide)) e_) hs_)); replace HK := aM (Kept.then_ (S := (fun k_ => P0_1_ k_)) (zz11 GW449.out) hkp (fun k_ hs_ => (fun e_ => (HO0_1.out.1 k_ e_.symm)) hs_)); replace HO0_1 := aM (Kd.R_reok rfl hy0 (fun k_ e_ => HO0_1.out.1 k_ e_)); replace HB := aM (hb); (try clear hkp); (try clear hy0)))
 go_ret
 exact ⟨bE, bR HO0_1, bG GE449, zz11 GW449.out⟩
def laws_heldByteS.l0 : Nat → List Int → Int → Int → Option (Int)
 | 0, _, _, _ => none
 | k + 1, x0, x1, x5 => if x5 < (x0.length : Int) then (if 0 ≤ x5 then (if (rd x0 x5) = ((x1) % 256) then (laws_heldByteS.l0 k x0 (wrap64 (x1 + 1)) (wrap64 (x5 + 1))) else (some (-1))) else (none)) else (some x1)
def laws_heldByteS.f (k : Nat) (l0 : List Int) (a1 : Int) : Option (Int) := laws_heldByteS.l0 k l0 a1 0
set_option maxHeartbeats 8000000 in
set_option maxRecDepth 100000 in
theorem laws_heldByteS.calls (k : Nat) (A0 : Option Addr) (c0 : Nat) (l0 : List Int) (a1 : Int) (r : Int) (w : World) (hr0 : Kd.C (Kd.int .u8) w A0 l0.length l0) (hc0 : l0.length ≤ c0) (h : laws_heldByteS.f k l0 a1 = some r) :
  Calls Tryd.prog 51 #[.slice A0 l0.length c0, .int .i64 a1] w fun e w' => e = .returned (.int .i64 r) ∧ Drawn0 w w' := by
 have HR0 := aM hr0
 have HC0 := aM hc0
 clear hr0 hc0
 have H : (laws_heldByteS.l0 k l0 a1 0) = some r := h
 clear h
 have H' := aM H
 clear H
 go_enter Tryd.func51, Tryd.ntmps51
 go_wp2
 go_loopg [1, 5] k (fun kq v1 v5 w' => ∃ (x1_1 : Int) (x5_1 : Int), v1 = .int .i64 x1_1 ∧ v5 = .int .i64 x5_1 ∧ Aside0 (laws_heldByteS.l0 kq l0 x1_1 x5_1 = some r) ∧ Aside0 (kq ≤ k) ∧ Drawn0 w w')
 case atStart => exact ⟨(a1), (0), bS, bS, H', ⟨Nat.le_refl _⟩, zz7⟩
 case round =>
  clear H'
  try clear p2
  obtain ⟨x1_1, x5_1, rfl, rfl, HA, HK1, ⟨m1, rfl⟩⟩ := hrel
  cases gk with
  | zero => exact absurd HA.out (by simp [laws_heldByteS.l0])
  | succ k1 =>
   have H := HA.out
   clear HA
   simp only [laws_heldByteS.l0] at H
   by_cases c3 : x5_1 < (l0.length : Int)
   ·rw [if_pos c3] at H
    have c3b0 : decide (x5_1 < (l0.length : Int)) = true := decide_eq_true c3
    clear c3
    by_cases c4 : 0 ≤ x5_1
    ·rw [if_pos c4] at H
     have c4b0 : decide (0 ≤ x5_1) = true := decide_eq_true c4
     clear c4
     by_cases c5 : (rd l0 x5_1) = ((x1_1) % 256)
     ·rw [if_pos c5] at H
      have c5b0 : ((rd l0 x5_1) == ((x1_1) % 256)) = true := beq_iff_eq.mpr c5
      have c5b1 : ((rd l0 x5_1) != ((x1_1) % 256)) = false := bne_eq_false_iff_eq.mpr c5
      clear c5
      have H' := aM H
      clear H
      have p452 : 0 ≤ (x5_1 : Int) := pI
      have q452 : x5_1 < (l0.length : Int) := pI
      obtain ⟨ad452, e452, hx452_0⟩ := Kd.at_int HR0.out x5_1 p452 q452
      cases e452
      replace p452 := eq_true p452
      replace q452 := eq_true q452
      go_wp2
      go_roundg k1
      case measure => have := HK1.out; omega
      case rel => exact ⟨(wrap64 (x1_1 + 1)), (wrap64 (x5_1 + 1)), bS, bS, H', ⟨by have := HK1.out; omega⟩, zz7⟩
     rw [if_neg c5] at H
     have c5b0 : ((rd l0 x5_1) == ((x1_1) % 256)) = false := beq_eq_false_iff_ne.mpr c5
     have c5b1 : ((rd l0 x5_1) != ((x1_1) % 256)) = true := bne_iff_ne.mpr c5
     obtain rfl := Option.some.inj H
     have p452 : 0 ≤ (x5_1 : Int) := pI
     have q452 : x5_1 < (l0.length : Int) := pI
     obtain ⟨ad452, e452, hx452_0⟩ := Kd.at_int HR0.out x5_1 p452 q452
     cases e452
     replace p452 := eq_true p452
     replace q452 := eq_true q452
     go_wp2
     go_ret
     exact ⟨bS, zz7⟩
    rw [if_neg c4] at H
    exact absurd H (by simp)
   rw [if_neg c3] at H
   have c3b0 : decide (x5_1 < (l0.length : Int)) = false := decide_eq_false c3
   clear c3
   obtain rfl := Option.some.inj H
   go_wp2
   go_ret
   exact ⟨bS, zz7⟩
def laws_heldBytesResult.f (k : Nat) (a0_0 : Int) (l0_1 : List Int) (a1 : Int) : Option (Int) := (laws_heldByteS.f k l0_1 a1).bind fun t454 => (if t454 < 0 then (some (-1)) else (some t454))
set_option maxHeartbeats 8000000 in
set_option maxRecDepth 100000 in
theorem laws_heldBytesResult.calls (k : Nat) (a0_0 : Int) (A0_1 : Option Addr) (c0_1 : Nat) (l0_1 : List Int) (a1 : Int) (r : Int) (w : World) (hr0_1 : Kd.C (Kd.int .u8) w A0_1 l0_1.length l0_1) (hc0_1 : l0_1.length ≤ c0_1) (h : laws_heldBytesResult.f k a0_0 l0_1 a1 = some r) :
  Calls Tryd.prog 19 #[.agg #[.int .i64 a0_0, .slice A0_1 l0_1.length c0_1], .int .i64 a1] w fun e w' => e = .returned (.int .i64 r) ∧ Below w.heap.size w w' := by
 have hu29 := Tryd.underlying29
 have HR0_1 := aM hr0_1
 have HC0_1 := aM hc0_1
 clear hr0_1 hc0_1
 have HB := aM (Below.refl w.heap.size w)
 have H : ((laws_heldByteS.f k l0_1 a1).bind fun t454 => (if t454 < 0 then (some (-1)) else (some t454))) = some r := h
 clear h
 replace H := Option.bind_eq_some_iff.mp H
 obtain ⟨t454, A30, H⟩ := H
 replace H : (if t454 < 0 then (some (-1)) else (some t454)) = some r := H
 have A3 := aM A30
 clear A30
 by_cases c4 : t454 < 0
 ·rw [if_pos c4] at H
  have c4b0 : decide (t454 < 0) = true := decide_eq_true c4
  clear c4
  obtain rfl := Option.some.inj H
  go_enter Tryd.func19, Tryd.ntmps19
  go_wp2_with (first | ((with_reducible refine gate_dst (N := 2) rfl ?_); refine box_event ?hg (N := 2) ?hd (cs := #[.int .i64 a0_0, .slice A0_1 l0_1.length c0_1]) (t := 29) ?hr ?_; (case hd => rfl); (case hg => rfl); (case hr => exact zz13); intro gb453 hg w5 hbox hb; have BK453 := aM (hbox); have GW453 := aM ((zz21 : w.heap.size ≤ gb453)); have GE453 := aM ((zz21 : w.heap.size ≤ gb453)); replace HB := aM (below_step bB hb); clear hb hbox hg; have hcz6_0 : w5.cell? ⟨gb453, 0, none⟩ = some (.int .i64 a0_0) := (blk_cell BK453.out 0).trans rfl; have hcz6_1 : w5.cell? ⟨gb453, 1, none⟩ = some (.slice A0_1 l0_1.length c0_1) := (blk_cell BK453.out 1).trans rfl; have hfz6_0 := blk_frozen BK453.out 0; have hfz6_1 := blk_frozen BK453.out 1) | ((with_reducible refine gate_callee (f := 51) rfl ?_); refine gL_ (some 8) Tryd.func51 #[.slice A0_1 l0_1.length c0_1, .int .i64 a1] ?_; (with_reducible refine (laws_heldByteS.calls k _ _ l0_1 a1 t454 _ ?side1 ?side2 A3.out).mono ?_); (case side1 => exact zz6 HR0_1.out); (case side2 => exact HC0_1.out); rintro e w' ⟨rfl, ⟨nd, rfl⟩⟩; refine ⟨_, rfl, ?_⟩))
  go_ret
  exact ⟨bE, bG GE453⟩
 rw [if_neg c4] at H
 have c4b0 : decide (t454 < 0) = false := decide_eq_false c4
 clear c4
 obtain rfl := Option.some.inj H
 go_enter Tryd.func19, Tryd.ntmps19
 go_wp2_with (first | ((with_reducible refine gate_dst (N := 2) rfl ?_); refine box_event ?hg (N := 2) ?hd (cs := #[.int .i64 a0_0, .slice A0_1 l0_1.length c0_1]) (t := 29) ?hr ?_; (case hd => rfl); (case hg => rfl); (case hr => exact zz13); intro gb453 hg w7 hbox hb; have BK453 := aM (hbox); have GW453 := aM ((zz21 : w.heap.size ≤ gb453)); have GE453 := aM ((zz21 : w.heap.size ≤ gb453)); replace HB := aM (below_step bB hb); clear hb hbox hg; have hcz8_0 : w7.cell? ⟨gb453, 0, none⟩ = some (.int .i64 a0_0) := (blk_cell BK453.out 0).trans rfl; have hcz8_1 : w7.cell? ⟨gb453, 1, none⟩ = some (.slice A0_1 l0_1.length c0_1) := (blk_cell BK453.out 1).trans rfl; have hfz8_0 := blk_frozen BK453.out 0; have hfz8_1 := blk_frozen BK453.out 1) | ((with_reducible refine gate_callee (f := 51) rfl ?_); refine gL_ (some 8) Tryd.func51 #[.slice A0_1 l0_1.length c0_1, .int .i64 a1] ?_; (with_reducible refine (laws_heldByteS.calls k _ _ l0_1 a1 t454 _ ?side1 ?side2 A3.out).mono ?_); (case side1 => exact zz6 HR0_1.out); (case side2 => exact HC0_1.out); rintro e w' ⟨rfl, ⟨nd, rfl⟩⟩; refine ⟨_, rfl, ?_⟩))
 go_ret
 exact ⟨bE, bG GE453⟩
def laws_FnExactBodyOf.j0 : Nat → List Int → Int → Bool → Int → List Int → Int → List Int → Option (Bool)
 | 0, _, _, _, _, _, _, _ => none
 | k + 1, x0, x1, x43, x463000, x463001, x471000, x471001 => if x43 = true then (some false) else ((laws_markBytesResult.f k x471000 x471001 1).bind fun bt479 => ((laws_heldBytesResult.f k x471000 bt479.2 1).bind fun t481 => (if t481 < 0 then (some false) else (if t481 = bt479.1 then ((laws_toByteS.f k x0).bind fun t482 => ((impl_BodyOf.f k t482 x1).bind fun bt485 => ((laws_eqBytesResult.f k bt485.1 bt485.2 x463000 x463001).bind fun t490 => (if t490 = true then ((laws_heldBytesResult.f k x471000 bt479.2 1).bind fun t491 => (if t491 < 0 then (some false) else (if t491 = bt479.1 then (some true) else (some false)))) else (some false))))) else (some false)))))
def laws_FnExactBodyOf.f (k : Nat) (l0 : List Int) (a1 : Int) : Option (Bool) := if (l0.length : Int) > 1048576 then (some true) else ((laws_toByteS.f k l0).bind fun t455 => ((spec_BodyOf.f k t455 a1).bind fun bt458 => ((laws_toByteS.f k l0).bind fun t463 => ((impl_BodyOf.f k t463 a1).bind fun bt466 => ((laws_eqBytesResult.f k bt466.1 bt466.2 bt458.1 bt458.2).bind fun t471 => (if t471 = true then ((laws_toByteS.f k l0).bind fun t472 => ((laws_eqByteS.f k t463 t472).bind fun t475 => (if t475 = true then ((laws_markByteS.f k t463 1).bind fun bt476 => (if bt476.1 < 0 then (laws_FnExactBodyOf.j0 k l0 a1 true bt458.1 bt458.2 bt466.1 bt466.2) else ((laws_eqBytesResult.f k bt466.1 bt466.2 bt458.1 bt458.2).bind fun t478 => (laws_FnExactBodyOf.j0 k l0 a1 (!t478) bt458.1 bt458.2 bt466.1 bt466.2)))) else (some false)))) else (some false)))))))
set_option maxHeartbeats 8000000 in
set_option maxRecDepth 100000 in
theorem laws_FnExactBodyOf.calls (k : Nat) (A0 : Option Addr) (c0 : Nat) (l0 : List Int) (a1 : Int) (w : World) (hr0 : Kd.C (Kd.int .u8) w A0 l0.length l0) (hc0 : l0.length ≤ c0) (h : laws_FnExactBodyOf.f k l0 a1 = some true) :
  Calls Tryd.prog 4 #[.slice A0 l0.length c0, .int .i64 a1] w fun e w' => e = .returned (.bool true) ∧ Below w.heap.size w w' := by
 have hu29 := Tryd.underlying29
 have HR0 := aM hr0
 have HC0 := aM hc0
 clear hr0 hc0
 have HB := aM (Below.refl w.heap.size w)
 have H : (if (l0.length : Int) > 1048576 then (some true) else ((laws_toByteS.f k l0).bind fun t455 => ((spec_BodyOf.f k t455 a1).bind fun bt458 => ((laws_toByteS.f k l0).bind fun t463 => ((impl_BodyOf.f k t463 a1).bind fun bt466 => ((laws_eqBytesResult.f k bt466.1 bt466.2 bt458.1 bt458.2).bind fun t471 => (if t471 = true then ((laws_toByteS.f k l0).bind fun t472 => ((laws_eqByteS.f k t463 t472).bind fun t475 => (if t475 = true then ((laws_markByteS.f k t463 1).bind fun bt476 => (if bt476.1 < 0 then (laws_FnExactBodyOf.j0 k l0 a1 true bt458.1 bt458.2 bt466.1 bt466.2) else ((laws_eqBytesResult.f k bt466.1 bt466.2 bt458.1 bt458.2).bind fun t478 => (laws_FnExactBodyOf.j0 k l0 a1 (!t478) bt458.1 bt458.2 bt466.1 bt466.2)))) else (some false)))) else (some false)))))))) = some true := h
 clear h
 have HQ_ := aM H
 clear H
 go_enter Tryd.func4, Tryd.ntmps4
 have H := HQ_.out
 clear HQ_
 by_cases c3 : (l0.length : Int) > 1048576
 ·rw [if_pos c3] at H
  have c3b0 : decide (1048576 < (l0.length : Int)) = true := decide_eq_true c3
  have c3b1 : decide (1048576 < l0.length) = true := decide_eq_true (by omega)
  clear c3
  have HTR_ := Option.some.inj H
  (try simp only [c3b0, c3b1])
  go_wp2
  go_ret
  exact ⟨bE, bB⟩
 rw [if_neg c3] at H
 have c3b0 : decide (1048576 < (l0.length : Int)) = false := decide_eq_false c3
 have c3b1 : decide (1048576 < l0.length) = false := decide_eq_false (by omega)
 clear c3
 replace H := Option.bind_eq_some_iff.mp H
 obtain ⟨t455, A40, H⟩ := H
 replace H : ((spec_BodyOf.f k t455 a1).bind fun bt458 => ((laws_toByteS.f k l0).bind fun t463 => ((impl_BodyOf.f k t463 a1).bind fun bt466 => ((laws_eqBytesResult.f k bt466.1 bt466.2 bt458.1 bt458.2).bind fun t471 => (if t471 = true then ((laws_toByteS.f k l0).bind fun t472 => ((laws_eqByteS.f k t463 t472).bind fun t475 => (if t475 = true then ((laws_markByteS.f k t463 1).bind fun bt476 => (if bt476.1 < 0 then (laws_FnExactBodyOf.j0 k l0 a1 true bt458.1 bt458.2 bt466.1 bt466.2) else ((laws_eqBytesResult.f k bt466.1 bt466.2 bt458.1 bt458.2).bind fun t478 => (laws_FnExactBodyOf.j0 k l0 a1 (!t478) bt458.1 bt458.2 bt466.1 bt466.2)))) else (some false)))) else (some false)))))) = some true := H
 have A4 := aM A40
 clear A40
 replace H := Option.bind_eq_some_iff.mp H
 obtain ⟨⟨t458, t459⟩, A50, H⟩ := H
 replace H : ((laws_toByteS.f k l0).bind fun t463 => ((impl_BodyOf.f k t463 a1).bind fun bt466 => ((laws_eqBytesResult.f k bt466.1 bt466.2 t458 t459).bind fun t471 => (if t471 = true then ((laws_toByteS.f k l0).bind fun t472 => ((laws_eqByteS.f k t463 t472).bind fun t475 => (if t475 = true then ((laws_markByteS.f k t463 1).bind fun bt476 => (if bt476.1 < 0 then (laws_FnExactBodyOf.j0 k l0 a1 true t458 t459 bt466.1 bt466.2) else ((laws_eqBytesResult.f k bt466.1 bt466.2 t458 t459).bind fun t478 => (laws_FnExactBodyOf.j0 k l0 a1 (!t478) t458 t459 bt466.1 bt466.2)))) else (some false)))) else (some false))))) = some true := H
 have A5 := aM A50
 clear A50
 replace H := Option.bind_eq_some_iff.mp H
 obtain ⟨t463, A60, H⟩ := H
 replace H : ((impl_BodyOf.f k t463 a1).bind fun bt466 => ((laws_eqBytesResult.f k bt466.1 bt466.2 t458 t459).bind fun t471 => (if t471 = true then ((laws_toByteS.f k l0).bind fun t472 => ((laws_eqByteS.f k t463 t472).bind fun t475 => (if t475 = true then ((laws_markByteS.f k t463 1).bind fun bt476 => (if bt476.1 < 0 then (laws_FnExactBodyOf.j0 k l0 a1 true t458 t459 bt466.1 bt466.2) else ((laws_eqBytesResult.f k bt466.1 bt466.2 t458 t459).bind fun t478 => (laws_FnExactBodyOf.j0 k l0 a1 (!t478) t458 t459 bt466.1 bt466.2)))) else (some false)))) else (some false)))) = some true := H
 have A6 := aM A60
 clear A60
 replace H := Option.bind_eq_some_iff.mp H
 obtain ⟨⟨t466, t467⟩, A70, H⟩ := H
 replace H : ((laws_eqBytesResult.f k t466 t467 t458 t459).bind fun t471 => (if t471 = true then ((laws_toByteS.f k l0).bind fun t472 => ((laws_eqByteS.f k t463 t472).bind fun t475 => (if t475 = true then ((laws_markByteS.f k t463 1).bind fun bt476 => (if bt476.1 < 0 then (laws_FnExactBodyOf.j0 k l0 a1 true t458 t459 t466 t467) else ((laws_eqBytesResult.f k t466 t467 t458 t459).bind fun t478 => (laws_FnExactBodyOf.j0 k l0 a1 (!t478) t458 t459 t466 t467)))) else (some false)))) else (some false))) = some true := H
 have A7 := aM A70
 clear A70
 replace H := Option.bind_eq_some_iff.mp H
 obtain ⟨t471, A80, H⟩ := H
 replace H : (if t471 = true then ((laws_toByteS.f k l0).bind fun t472 => ((laws_eqByteS.f k t463 t472).bind fun t475 => (if t475 = true then ((laws_markByteS.f k t463 1).bind fun bt476 => (if bt476.1 < 0 then (laws_FnExactBodyOf.j0 k l0 a1 true t458 t459 t466 t467) else ((laws_eqBytesResult.f k t466 t467 t458 t459).bind fun t478 => (laws_FnExactBodyOf.j0 k l0 a1 (!t478) t458 t459 t466 t467)))) else (some false)))) else (some false)) = some true := H
 have A8 := aM A80
 clear A80
 (try simp only [c3b0, c3b1])
 by_cases c9 : t471 = true
 ·subst c9
  have H1 : ((laws_toByteS.f k l0).bind fun t472 => ((laws_eqByteS.f k t463 t472).bind fun t475 => (if t475 = true then ((laws_markByteS.f k t463 1).bind fun bt476 => (if bt476.1 < 0 then (laws_FnExactBodyOf.j0 k l0 a1 true t458 t459 t466 t467) else ((laws_eqBytesResult.f k t466 t467 t458 t459).bind fun t478 => (laws_FnExactBodyOf.j0 k l0 a1 (!t478) t458 t459 t466 t467)))) else (some false)))) = some true := zz27
  clear H
  have H := H1
  clear H1
  replace H := Option.bind_eq_some_iff.mp H
  obtain ⟨t472, A100, H⟩ := H
  replace H : ((laws_eqByteS.f k t463 t472).bind fun t475 => (if t475 = true then ((laws_markByteS.f k t463 1).bind fun bt476 => (if bt476.1 < 0 then (laws_FnExactBodyOf.j0 k l0 a1 true t458 t459 t466 t467) else ((laws_eqBytesResult.f k t466 t467 t458 t459).bind fun t478 => (laws_FnExactBodyOf.j0 k l0 a1 (!t478) t458 t459 t466 t467)))) else (some false))) = some true := H
  have A10 := aM A100
  clear A100
  replace H := Option.bind_eq_some_iff.mp H
  obtain ⟨t475, A110, H⟩ := H
  replace H : (if t475 = true then ((laws_markByteS.f k t463 1).bind fun bt476 => (if bt476.1 < 0 then (laws_FnExactBodyOf.j0 k l0 a1 true t458 t459 t466 t467) else ((laws_eqBytesResult.f k t466 t467 t458 t459).bind fun t478 => (laws_FnExactBodyOf.j0 k l0 a1 (!t478) t458 t459 t466 t467)))) else (some false)) = some true := H
  have A11 := aM A110
  clear A110
  by_cases c12 : t475 = true
  ·subst c12
   have H1 : ((laws_markByteS.f k t463 1).bind fun bt476 => (if bt476.1 < 0 then (laws_FnExactBodyOf.j0 k l0 a1 true t458 t459 t466 t467) else ((laws_eqBytesResult.f k t466 t467 t458 t459).bind fun t478 => (laws_FnExactBodyOf.j0 k l0 a1 (!t478) t458 t459 t466 t467)))) = some true := zz27
   clear H
   have H := H1
   clear H1
   replace H := Option.bind_eq_some_iff.mp H
   obtain ⟨⟨t476, t477⟩, A130, H⟩ := H
   replace H : (if t476 < 0 then (laws_FnExactBodyOf.j0 k l0 a1 true t458 t459 t466 t467) else ((laws_eqBytesResult.f k t466 t467 t458 t459).bind fun t478 => (laws_FnExactBodyOf.j0 k l0 a1 (!t478) t458 t459 t466 t467))) = some true := H
   have A13 := aM A130
   clear A130
   have HC14 := aM H
   clear H
   go_upto_region 12 with (first | ((with_reducible refine gate_callee (f := 13) rfl ?_); refine gL_ (some 16) Tryd.func13 #[.slice A0 l0.length c0] ?_; (with_reducible refine (laws_toByteS.calls k _ _ l0 t455 _ ?side1 ?side2 A4.out).mono ?_); (case side1 => exact zz32 HR0.out); (case side2 => exact HC0.out); rintro e w15 ⟨v456, rfl, ho0, hb⟩; refine ⟨_, rfl, ?_⟩; have HO457 := aM (Kd.R_lower ho0 (below_size bB)); replace HB := aM (below_step bB hb); (try clear ho0); obtain ⟨Ao16, co16, eo16⟩ := Kd.R_slice HO457.out; subst eo16) | ((with_reducible refine gate_callee (f := 12) rfl ?_); refine gL_ (some 18) Tryd.func12 #[.slice Ao16 t455.length co16, .int .i64 a1] ?_; (with_reducible refine (spec_BodyOf.calls k _ _ t455 a1 t458 t459 _ ?side1 ?side2 A5.out).mono ?_); (case side1 => exact zz8 HO457.out); (case side2 => exact (Kd.R_reads' HO457.out).2.1); rintro e w17 ⟨v460, rfl, ho0, hb⟩; refine ⟨_, rfl, ?_⟩; have HO461 := aM (Kd.R_lower (Kd.R_new' ho0 (Kd.R_lt (bR HO457))) (below_size bB)); replace HO457 := aM (Kd.R_elder' (bR HO457) (Kd.R_base ho0) hb); replace HB := aM (below_step bB hb); (try clear ho0)) | ((with_reducible refine gate_dst (N := 5) rfl ?_); refine box_event ?hg (N := 5) ?hd (cs := #[.int .i64 0, .slice none 0 0]) (t := 29) ?hr ?_; (case hd => rfl); (case hg => rfl); (case hr => exact zz13); intro gb462 hg w18 hbox hb; replace HO457 := aM (Kd.R_below (bR HO457) hb); replace HO461 := aM (Kd.R_below (bR HO461) hb); have BK462 := aM (hbox); have GW462 := aM ((zz21 : w.heap.size ≤ gb462)); have GE462 := aM ((zz21 : w.heap.size ≤ gb462)); replace HB := aM (below_step bB hb); clear hb hbox hg; have hcz19_0 : w18.cell? ⟨gb462, 0, none⟩ = some (.int .i64 0) := (blk_cell BK462.out 0).trans rfl; have hcz19_1 : w18.cell? ⟨gb462, 1, none⟩ = some (.slice none 0 0) := (blk_cell BK462.out 1).trans rfl; have hfz19_0 := blk_frozen BK462.out 0; have hfz19_1 := blk_frozen BK462.out 1; obtain ⟨Ao20, co20, eo20⟩ := Kd.R_slice HO461.out; subst eo20) | ((with_reducible refine gate_callee (f := 13) rfl ?_); refine gL_ (some 20) Tryd.func13 #[.slice A0 l0.length c0] ?_; (with_reducible refine (laws_toByteS.calls k _ _ l0 t463 _ ?side1 ?side2 A6.out).mono ?_); (case side1 => exact Kd.C_below HR0.out (bG GE462)); (case side2 => exact HC0.out); rintro e w21 ⟨v464, rfl, ho0, hb⟩; refine ⟨_, rfl, ?_⟩; have HO465 := aM (Kd.R_lower (Kd.R_new' (Kd.R_new' ho0 (Kd.R_lt (zz25 HO457.out BK462.out))) (Kd.R_lt (zz25 HO461.out BK462.out))) (below_size (bG GE462))); replace HO457 := aM (Kd.R_elder' (zz25 HO457.out BK462.out) (Kd.R_base ho0) hb); replace HO461 := aM (Kd.R_elder' (zz25 HO461.out BK462.out) (Kd.R_base ho0) hb); replace BK462 := aM (blk_below (g := gb462) (o := .cells #[.int .i64 t458, .slice Ao20 t459.length co20] 29 (0, 0)) (by (with_reducible repeat (first | refine blk_drewN ?_ _ | refine blk_drew ?_ | refine blk_alloc ?_ _)); refine blk_put (cs := #[.int .i64 t458, .slice none 0 0]) ?_ 1 _ rfl; (with_reducible repeat (first | refine blk_drewN ?_ _ | refine blk_drew ?_ | refine blk_alloc ?_ _)); refine blk_put (cs := #[.int .i64 0, .slice none 0 0]) ?_ 0 _ rfl; (with_reducible repeat (first | refine blk_drewN ?_ _ | refine blk_drew ?_ | refine blk_alloc ?_ _)); exact BK462.out) hb); replace HB := aM (below_step (bG GE462) hb); (try clear ho0); obtain ⟨Ao22, co22, eo22⟩ := Kd.R_slice HO465.out; subst eo22) | ((with_reducible refine gate_callee (f := 14) rfl ?_); refine gL_ (some 23) Tryd.func14 #[.slice Ao22 t463.length co22, .int .i64 a1] ?_; (with_reducible refine (impl_BodyOf.calls k _ _ t463 a1 t466 t467 _ ?side1 ?side2 A7.out).mono ?_); (case side1 => exact zz8 HO465.out); (case side2 => exact (Kd.R_reads' HO465.out).2.1); rintro e w23 ⟨v468, rfl, ho0, hb⟩; refine ⟨_, rfl, ?_⟩; have HO469 := aM (Kd.R_lower (Kd.R_new' (Kd.R_new' (Kd.R_new' ho0 (Kd.R_lt (bR HO457))) (Kd.R_lt (bR HO461))) (Kd.R_lt (bR HO465))) (below_size (bG GE462))); replace HO457 := aM (Kd.R_elder' (bR HO457) (Kd.R_base ho0) hb); replace HO461 := aM (Kd.R_elder' (bR HO461) (Kd.R_base ho0) hb); replace HO465 := aM (Kd.R_elder' (bR HO465) (Kd.R_base ho0) hb); replace BK462 := aM (blk_below (g := gb462) (o := .cells #[.int .i64 t458, .slice Ao20 t459.length co20] 29 (0, 0)) (bL BK462) hb); replace HB := aM (below_step (bG GE462) hb); (try clear ho0)) | ((with_reducible refine gate_dst (N := 7) rfl ?_); refine box_event ?hg (N := 7) ?hd (cs := #[.int .i64 0, .slice none 0 0]) (t := 29) ?hr ?_; (case hd => rfl); (case hg => rfl); (case hr => exact zz13); intro gb470 hg w24 hbox hb; replace HO457 := aM (Kd.R_below (bR HO457) hb); replace HO461 := aM (Kd.R_below (bR HO461) hb); replace HO465 := aM (Kd.R_below (bR HO465) hb); replace HO469 := aM (Kd.R_below (bR HO469) hb); have BK470 := aM (hbox); have GW470 := aM ((by rw [hg]; exact (below_size (bG GE462)) : w.heap.size ≤ gb470)); have GE470 := aM ((by rw [hg]; exact (below_size (bG GE462)) : w.heap.size ≤ gb470)); replace HB := aM (below_step (bG GE462) hb); have NB462_470 := aM ((by rw [hg]; exact Nat.ne_of_lt (blk_lt (g := gb462) (o := .cells #[.int .i64 t458, .slice Ao20 t459.length co20] 29 (0, 0)) (bL BK462)) : gb462 ≠ gb470)); have NB470_462 := aM ((by rw [hg]; exact Nat.ne_of_gt (blk_lt (g := gb462) (o := .cells #[.int .i64 t458, .slice Ao20 t459.length co20] 29 (0, 0)) (bL BK462)) : gb470 ≠ gb462)); replace BK462 := aM (blk_below (g := gb462) (o := .cells #[.int .i64 t458, .slice Ao20 t459.length co20] 29 (0, 0)) (bL BK462) hb); clear hb hbox hg; have hnb25 := NB470_462.out; have hnc25 := NB462_470.out; have hcz26_0 : w24.cell? ⟨gb470, 0, none⟩ = some (.int .i64 0) := (blk_cell BK470.out 0).trans rfl; have hcz26_1 : w24.cell? ⟨gb470, 1, none⟩ = some (.slice none 0 0) := (blk_cell BK470.out 1).trans rfl; have hfz26_0 := blk_frozen BK470.out 0; have hfz26_1 := blk_frozen BK470.out 1; obtain ⟨Ao27, co27, eo27⟩ := Kd.R_slice HO469.out; subst eo27; have hcz28_0 : w24.cell? ⟨gb462, 0, none⟩ = some (.int .i64 t458) := (blk_cell BK462.out 0).trans rfl; have hcz28_1 : w24.cell? ⟨gb462, 1, none⟩ = some (.slice Ao20 t459.length co20) := (blk_cell BK462.out 1).trans rfl; have hfz28_0 := blk_frozen BK462.out 0; have hfz28_1 := blk_frozen BK462.out 1) | ((with_reducible refine gate_callee (f := 15) rfl ?_); refine gL_ (some 26) Tryd.func15 #[.agg #[.int .i64 t466, .slice Ao27 t467.length co27], .agg #[.int .i64 t458, .slice Ao20 t459.length co20]] ?_; (with_reducible refine (laws_eqBytesResult.calls k t466 _ _ t467 t458 _ _ t459 true _ ?side1 ?side2 ?side3 ?side4 A8.out).mono ?_); (case side1 => refine (Kd.R_reads' (e := 5) (base := w.heap.size) (ok := fun k_ => (((True ∧ some k_ ≠ (.slice Ao16 t455.length co16 : Value).ownBlock) ∧ some k_ ≠ (.slice Ao20 t459.length co20 : Value).ownBlock) ∧ some k_ ≠ (.slice Ao22 t463.length co22 : Value).ownBlock)) (n := t467.length) (c := co27) ?_).2.2; exact (zz19 HO469.out BK470.out)); (case side2 => exact (Kd.R_reads' HO469.out).2.1); (case side3 => refine (Kd.R_reads' (e := 5) (base := w.heap.size) (ok := fun k_ => (((True ∧ some k_ ≠ (.slice Ao16 t455.length co16 : Value).ownBlock) ∧ some k_ ≠ (.slice Ao22 t463.length co22 : Value).ownBlock) ∧ some k_ ≠ (.slice Ao27 t467.length co27 : Value).ownBlock)) (n := t459.length) (c := co20) ?_).2.2; exact (zz19 HO461.out BK470.out)); (case side4 => exact (Kd.R_reads' HO461.out).2.1); rintro e w29 ⟨rfl, hb⟩; refine ⟨_, rfl, ?_⟩; replace HO457 := aM (Kd.R_below (zz19 HO457.out BK470.out) hb); replace HO461 := aM (Kd.R_below (zz19 HO461.out BK470.out) hb); replace HO465 := aM (Kd.R_below (zz19 HO465.out BK470.out) hb); replace HO469 := aM (Kd.R_below (zz19 HO469.out BK470.out) hb); replace BK462 := aM (blk_below (g := gb462) (o := .cells #[.int .i64 t458, .slice Ao20 t459.length co20] 29 (0, 0)) (zz16 NB462_470.out BK462.out) hb); replace BK470 := aM (blk_below (g := gb470) (o := .cells #[.int .i64 t466, .slice Ao27 t467.length co27] 29 (0, 0)) (by (with_reducible repeat (first | refine blk_drewN ?_ _ | refine blk_drew ?_ | refine blk_alloc ?_ _)); refine blk_put (cs := #[.int .i64 t466, .slice none 0 0]) ?_ 1 _ rfl; (with_reducible repeat (first | refine blk_drewN ?_ _ | refine blk_drew ?_ | refine blk_alloc ?_ _)); refine blk_put (cs := #[.int .i64 0, .slice none 0 0]) ?_ 0 _ rfl; (with_reducible repeat (first | refine blk_drewN ?_ _ | refine blk_drew ?_ | refine blk_alloc ?_ _)); exact BK470.out) hb); replace HB := aM (below_step (bG2 GE462 GE470) hb); (try clear hi)) | ((with_reducible refine gate_callee (f := 13) rfl ?_); refine gL_ (some 30) Tryd.func13 #[.slice A0 l0.length c0] ?_; (with_reducible refine (laws_toByteS.calls k _ _ l0 t472 _ ?side1 ?side2 A10.out).mono ?_); (case side1 => exact zz6 HR0.out); (case side2 => exact HC0.out); rintro e w30 ⟨v473, rfl, ho0, hb⟩; refine ⟨_, rfl, ?_⟩; have HO474 := aM (Kd.R_lower (Kd.R_new' (Kd.R_new' (Kd.R_new' (Kd.R_new' ho0 (Kd.R_lt (bR HO457))) (Kd.R_lt (bR HO461))) (Kd.R_lt (bR HO465))) (Kd.R_lt (bR HO469))) (below_size (bG2 GE462 GE470))); replace HO457 := aM (Kd.R_elder' (bR HO457) (Kd.R_base ho0) hb); replace HO461 := aM (Kd.R_elder' (bR HO461) (Kd.R_base ho0) hb); replace HO465 := aM (Kd.R_elder' (bR HO465) (Kd.R_base ho0) hb); replace HO469 := aM (Kd.R_elder' (bR HO469) (Kd.R_base ho0) hb); replace BK462 := aM (blk_below (g := gb462) (o := .cells #[.int .i64 t458, .slice Ao20 t459.length co20] 29 (0, 0)) (bL BK462) hb); replace BK470 := aM (blk_below (g := gb470) (o := .cells #[.int .i64 t466, .slice Ao27 t467.length co27] 29 (0, 0)) (bL BK470) hb); replace HB := aM (below_step (bG2 GE462 GE470) hb); (try clear ho0); obtain ⟨Ao31, co31, eo31⟩ := Kd.R_slice HO474.out; subst eo31) | ((with_reducible refine gate_callee (f := 16) rfl ?_); refine gL_ (some 31) Tryd.func16 #[.slice Ao22 t463.length co22, .slice Ao31 t472.length co31] ?_; (with_reducible refine (laws_eqByteS.calls k _ _ t463 _ _ t472 true _ ?side1 ?side2 ?side3 ?side4 A11.out).mono ?_); (case side1 => exact zz8 HO465.out); (case side2 => exact (Kd.R_reads' HO465.out).2.1); (case side3 => exact zz8 HO474.out); (case side4 => exact (Kd.R_reads' HO474.out).2.1); rintro e w' ⟨rfl, ⟨nd, rfl⟩⟩; refine ⟨_, rfl, ?_⟩) | ((with_reducible refine gate_callee (f := 17) rfl ?_); refine gL_ (some 35) Tryd.func17 #[.slice Ao22 t463.length co22, .int .i64 1] ?_; (with_reducible refine (laws_markByteS.calls k (fun k_ => some k_ = (.slice Ao22 t463.length co22 : Value).ownBlock) (.slice Ao22 t463.length co22) t463 1 t476 t477 w _ ?side1 ?side2 A13.out).mono ?_); (case side1 => repeat (first | (with_reducible first | exact HB.out | apply below_alloc | apply pw_below_drewN | apply below_drew1 | refine below_set ?_ GE462.out | refine below_set ?_ GE470.out) | exact HB.out)); (case side2 => exact Kd.R_tight rfl HO465.out); rintro e w32 ⟨rfl, hy0, hb, hkp⟩; refine ⟨_, rfl, ?_⟩; replace HO457 := aM (Kd.R_mono (ok' := fun k_ => some k_ ≠ (.slice Ao20 t459.length co20 : Value).ownBlock ∧ some k_ ≠ (.slice Ao22 t463.length co22 : Value).ownBlock ∧ some k_ ≠ (.slice Ao27 t467.length co27 : Value).ownBlock ∧ some k_ ≠ (.slice Ao31 t472.length co31 : Value).ownBlock) (Kd.R_keptB (HO457.out) hkp (fun k_ hk_ hs_ => (hk_.1.1.2) hs_)) (fun k_ hk_ => ⟨hk_.1.1.1.1.2, hk_.1.1.1.2, hk_.1.1.2, hk_.1.2⟩)); replace HO461 := aM (Kd.R_mono (ok' := fun k_ => some k_ ≠ (.slice Ao16 t455.length co16 : Value).ownBlock ∧ some k_ ≠ (.slice Ao22 t463.length co22 : Value).ownBlock ∧ some k_ ≠ (.slice Ao27 t467.length co27 : Value).ownBlock ∧ some k_ ≠ (.slice Ao31 t472.length co31 : Value).ownBlock) (Kd.R_keptB (HO461.out) hkp (fun k_ hk_ hs_ => (hk_.1.1.2) hs_)) (fun k_ hk_ => ⟨hk_.1.1.1.1.2, hk_.1.1.1.2, hk_.1.1.2, hk_.1.2⟩)); replace BK462 := aM (blk_kept (bL BK462) hkp (fun hs_ => (fun e_ => (Kd.R_ne HO465.out BK462.out (by decide)) e_) hs_)); replace HO469 := aM (Kd.R_mono (ok' := fun k_ => some k_ ≠ (.slice Ao16 t455.length co16 : Value).ownBlock ∧ some k_ ≠ (.slice Ao20 t459.length co20 : Value).ownBlock ∧ some k_ ≠ (.slice Ao22 t463.length co22 : Value).ownBlock ∧ some k_ ≠ (.slice Ao31 t472.length co31 : Value).ownBlock) (Kd.R_keptB (HO469.out) hkp (fun k_ hk_ hs_ => (hk_.1.2) hs_)) (fun k_ hk_ => ⟨hk_.1.1.1.1.2, hk_.1.1.1.2, hk_.1.1.2, hk_.1.2⟩)); replace BK470 := aM (blk_kept (bL BK470) hkp (fun hs_ => (fun e_ => (Kd.R_ne HO465.out BK470.out (by decide)) e_) hs_)); replace HO465 := aM (Kd.R_reok rfl hy0 (fun k_ e_ => HO465.out.1 k_ e_)); replace HO474 := aM (Kd.R_mono (ok' := fun k_ => some k_ ≠ (.slice Ao16 t455.length co16 : Value).ownBlock ∧ some k_ ≠ (.slice Ao20 t459.length co20 : Value).ownBlock ∧ some k_ ≠ (.slice Ao22 t463.length co22 : Value).ownBlock ∧ some k_ ≠ (.slice Ao27 t467.length co27 : Value).ownBlock) (Kd.R_keptB (HO474.out) hkp (fun k_ hk_ hs_ => (hk_.1.2) hs_)) (fun k_ hk_ => ⟨hk_.1.1.1.1.2, hk_.1.1.1.2, hk_.1.1.2, hk_.1.2⟩)); replace HB := aM (hb); (try clear hkp); (try clear hy0)))
   (try simp only [Act.put, List.setIfInBounds_toArray, List.set_cons_zero, List.set_cons_succ])
   go_cut [43] (fun v43 wc => ∃ (kq : Nat) (x43_13 : Bool), v43 = .bool x43_13 ∧ Aside0 (laws_FnExactBodyOf.j0 kq l0 a1 x43_13 t458 t459 t466 t467 = some true) ∧ Aside0 (kq ≤ k) ∧ Aside0 (Kd.R (Kd.int .u8) 5 wc w.heap.size (fun k_ => some k_ ≠ ((.slice Ao27 t467.length co27) : Value).ownBlock) (.slice Ao20 t459.length co20) t459) ∧ Aside0 (Kd.R (Kd.int .u8) 5 wc w.heap.size (fun k_ => some k_ ≠ ((.slice Ao20 t459.length co20) : Value).ownBlock) (.slice Ao27 t467.length co27) t467) ∧ Aside0 (wc.heap[gb462]? = some (.cells #[.int .i64 t458, (.slice Ao20 t459.length co20)] 29 (0, 0))) ∧ Aside0 (wc.heap[gb470]? = some (.cells #[.int .i64 t466, (.slice Ao27 t467.length co27)] 29 (0, 0))) ∧ Aside0 (Below w.heap.size w wc))
   case first =>
    have H := HC14.out
    clear HC14
    by_cases c33 : t476 < 0
    ·rw [if_pos c33] at H
     have c33b0 : decide (t476 < 0) = true := decide_eq_true c33
     clear c33
     (first | rw [c33b0] | (simp only [i64_w, i32_w]; rw [c33b0]) | skip)
     have H' := aM H
     clear H
     go_wp2
     go_meet
     case rel => exact ⟨_, (true), bS, H', ⟨zz48⟩, ⟨by (with_reducible repeat (first | apply Kd.R_alloc | apply Kd.R_drewN | apply Kd.R_drew)); exact Kd.R_mono HO461.out (fun _ hk => hk.2.2.1)⟩, ⟨by (with_reducible repeat (first | apply Kd.R_alloc | apply Kd.R_drewN | apply Kd.R_drew)); exact Kd.R_mono HO469.out (fun _ hk => hk.2.1)⟩, ⟨bL BK462⟩, ⟨bL BK470⟩, ⟨bG2 GE462 GE470⟩⟩
    rw [if_neg c33] at H
    have c33b0 : decide (t476 < 0) = false := decide_eq_false c33
    clear c33
    (first | rw [c33b0] | (simp only [i64_w, i32_w]; rw [c33b0]) | skip)
    replace H := Option.bind_eq_some_iff.mp H
    obtain ⟨t478, A340, H⟩ := H
    replace H : (laws_FnExactBodyOf.j0 k l0 a1 (!t478) t458 t459 t466 t467) = some true := H
    have A34 := aM A340
    clear A340
    have H' := aM H
    clear H
    have hnb35 := NB470_462.out
    have hnc35 := NB462_470.out
    have hcz36_0 : w32.cell? ⟨gb470, 0, none⟩ = some (.int .i64 t466) := (blk_cell BK470.out 0).trans rfl
    have hcz36_1 : w32.cell? ⟨gb470, 1, none⟩ = some (.slice Ao27 t467.length co27) := (blk_cell BK470.out 1).trans rfl
    have hfz36_0 := blk_frozen BK470.out 0
    have hfz36_1 := blk_frozen BK470.out 1
    have hcz37_0 : w32.cell? ⟨gb462, 0, none⟩ = some (.int .i64 t458) := (blk_cell BK462.out 0).trans rfl
    have hcz37_1 : w32.cell? ⟨gb462, 1, none⟩ = some (.slice Ao20 t459.length co20) := (blk_cell BK462.out 1).trans rfl
    have hfz37_0 := blk_frozen BK462.out 0
    have hfz37_1 := blk_frozen BK462.out 1
    go_wp2_with (first | (go_at_call 15; (with_reducible refine (laws_eqBytesResult.calls k t466 _ _ t467 t458 _ _ t459 t478 _ ?side1 ?side2 ?side3 ?side4 A34.out).mono ?_); (case side1 => exact zz8 HO469.out); (case side2 => exact (Kd.R_reads' HO469.out).2.1); (case side3 => exact zz8 HO461.out); (case side4 => exact (Kd.R_reads' HO461.out).2.1); rintro e w38 ⟨rfl, hb⟩; replace HO457 := aM (Kd.R_below (bR HO457) hb); replace HO461 := aM (Kd.R_below (bR HO461) hb); replace HO465 := aM (Kd.R_below (bR HO465) hb); replace HO469 := aM (Kd.R_below (bR HO469) hb); replace HO474 := aM (Kd.R_below (bR HO474) hb); replace BK462 := aM (blk_below (g := gb462) (o := .cells #[.int .i64 t458, .slice Ao20 t459.length co20] 29 (0, 0)) (bL BK462) hb); replace BK470 := aM (blk_below (g := gb470) (o := .cells #[.int .i64 t466, .slice Ao27 t467.length co27] 29 (0, 0)) (bL BK470) hb); replace HB := aM (below_step (bG2 GE462 GE470) hb); (try clear hi)))
    go_meet
    case rel => exact ⟨_, (!t478), bS, H', ⟨zz48⟩, ⟨by (with_reducible repeat (first | apply Kd.R_alloc | apply Kd.R_drewN | apply Kd.R_drew)); exact Kd.R_mono HO461.out (fun _ hk => hk.2.2.1)⟩, ⟨by (with_reducible repeat (first | apply Kd.R_alloc | apply Kd.R_drewN | apply Kd.R_drew)); exact Kd.R_mono HO469.out (fun _ hk => hk.2.1)⟩, ⟨bL BK462⟩, ⟨bL BK470⟩, ⟨bG2 GE462 GE470⟩⟩
   case rest =>
    clear HC14
    try clear c1
    try clear c2
    try clear p2
    try clear c3
    try clear c3b0
    try clear c3b1
    try clear c4
    try clear c9
    try clear c12
    try clear c13
    try clear c14
    try clear c15
    try clear c16
    try clear c17
    try clear c25
    try clear c33
    try clear c33b0
    try clear c35
    try clear hcz19_0
    try clear hcz19_1
    try clear hcz26_0
    try clear hcz26_1
    try clear hcz28_0
    try clear hcz28_1
    try clear hcz36_0
    try clear hcz36_1
    try clear hcz37_0
    try clear hcz37_1
    try clear hfz19_0
    try clear hfz19_1
    try clear hfz26_0
    try clear hfz26_1
    try clear hfz28_0
    try clear hfz28_1
    try clear hfz36_0
    try clear hfz36_1
    try clear hfz37_0
    try clear hfz37_1
    obtain ⟨kq, x43_13, rfl, HA, HJ13, HO_463001, HO_471001, BK462, BK470, HB⟩ := hcut
    cases kq with
    | zero => exact absurd HA.out (by simp [laws_FnExactBodyOf.j0])
    | succ kj13 =>
     have H := HA.out
     clear HA
     simp only [laws_FnExactBodyOf.j0] at H
     by_cases c39 : x43_13 = true
     ·subst c39
      have H1 : (some false) = some true := zz27
      exact absurd H1 (by simp)
     replace c39 := Bool.eq_false_iff.mpr c39
     subst c39
     have H1 : ((laws_markBytesResult.f kj13 t466 t467 1).bind fun bt479 => ((laws_heldBytesResult.f kj13 t466 bt479.2 1).bind fun t481 => (if t481 < 0 then (some false) else (if t481 = bt479.1 then ((laws_toByteS.f kj13 l0).bind fun t482 => ((impl_BodyOf.f kj13 t482 a1).bind fun bt485 => ((laws_eqBytesResult.f kj13 bt485.1 bt485.2 t458 t459).bind fun t490 => (if t490 = true then ((laws_heldBytesResult.f kj13 t466 bt479.2 1).bind fun t491 => (if t491 < 0 then (some false) else (if t491 = bt479.1 then (some true) else (some false)))) else (some false))))) else (some false))))) = some true := zz15
     clear H
     have H := H1
     clear H1
     replace H := Option.bind_eq_some_iff.mp H
     obtain ⟨⟨t479, t480⟩, A400, H⟩ := H
     replace H : ((laws_heldBytesResult.f kj13 t466 t480 1).bind fun t481 => (if t481 < 0 then (some false) else (if t481 = t479 then ((laws_toByteS.f kj13 l0).bind fun t482 => ((impl_BodyOf.f kj13 t482 a1).bind fun bt485 => ((laws_eqBytesResult.f kj13 bt485.1 bt485.2 t458 t459).bind fun t490 => (if t490 = true then ((laws_heldBytesResult.f kj13 t466 t480 1).bind fun t491 => (if t491 < 0 then (some false) else (if t491 = t479 then (some true) else (some false)))) else (some false))))) else (some false)))) = some true := H
     have A40 := aM A400
     clear A400
     replace H := Option.bind_eq_some_iff.mp H
     obtain ⟨t481, A410, H⟩ := H
     replace H : (if t481 < 0 then (some false) else (if t481 = t479 then ((laws_toByteS.f kj13 l0).bind fun t482 => ((impl_BodyOf.f kj13 t482 a1).bind fun bt485 => ((laws_eqBytesResult.f kj13 bt485.1 bt485.2 t458 t459).bind fun t490 => (if t490 = true then ((laws_heldBytesResult.f kj13 t466 t480 1).bind fun t491 => (if t491 < 0 then (some false) else (if t491 = t479 then (some true) else (some false)))) else (some false))))) else (some false))) = some true := H
     have A41 := aM A410
     clear A410
     have HQ_ := aM H
     clear H
     have hnb43 := NB470_462.out
     have hnc43 := NB462_470.out
     have hcz44_0 : wc.cell? ⟨gb470, 0, none⟩ = some (.int .i64 t466) := (blk_cell BK470.out 0).trans rfl
     have hcz44_1 : wc.cell? ⟨gb470, 1, none⟩ = some (.slice Ao27 t467.length co27) := (blk_cell BK470.out 1).trans rfl
     have hfz44_0 := blk_frozen BK470.out 0
     have hfz44_1 := blk_frozen BK470.out 1
     have H := HQ_.out
     clear HQ_
     by_cases c42 : t481 < 0
     ·rw [if_pos c42] at H
      exact absurd H (by simp)
     rw [if_neg c42] at H
     have c42b0 : decide (t481 < 0) = false := decide_eq_false c42
     clear c42
     (try simp only [c42b0])
     by_cases c48 : t481 = t479
     ·rw [if_pos c48] at H
      have c48b0 : (t481 == t479) = true := beq_iff_eq.mpr c48
      have c48b1 : (t481 != t479) = false := bne_eq_false_iff_eq.mpr c48
      clear c48
      replace H := Option.bind_eq_some_iff.mp H
      obtain ⟨t482, A490, H⟩ := H
      replace H : ((impl_BodyOf.f kj13 t482 a1).bind fun bt485 => ((laws_eqBytesResult.f kj13 bt485.1 bt485.2 t458 t459).bind fun t490 => (if t490 = true then ((laws_heldBytesResult.f kj13 t466 t480 1).bind fun t491 => (if t491 < 0 then (some false) else (if t491 = t479 then (some true) else (some false)))) else (some false)))) = some true := H
      have A49 := aM A490
      clear A490
      replace H := Option.bind_eq_some_iff.mp H
      obtain ⟨⟨t485, t486⟩, A500, H⟩ := H
      replace H : ((laws_eqBytesResult.f kj13 t485 t486 t458 t459).bind fun t490 => (if t490 = true then ((laws_heldBytesResult.f kj13 t466 t480 1).bind fun t491 => (if t491 < 0 then (some false) else (if t491 = t479 then (some true) else (some false)))) else (some false))) = some true := H
      have A50 := aM A500
      clear A500
      replace H := Option.bind_eq_some_iff.mp H
      obtain ⟨t490, A510, H⟩ := H
      replace H : (if t490 = true then ((laws_heldBytesResult.f kj13 t466 t480 1).bind fun t491 => (if t491 < 0 then (some false) else (if t491 = t479 then (some true) else (some false)))) else (some false)) = some true := H
      have A51 := aM A510
      clear A510
      (try simp only [c48b0, c48b1])
      by_cases c52 : t490 = true
      ·subst c52
       have H1 : ((laws_heldBytesResult.f kj13 t466 t480 1).bind fun t491 => (if t491 < 0 then (some false) else (if t491 = t479 then (some true) else (some false)))) = some true := zz27
       clear H
       have H := H1
       clear H1
       replace H := Option.bind_eq_some_iff.mp H
       obtain ⟨t491, A530, H⟩ := H
       replace H : (if t491 < 0 then (some false) else (if t491 = t479 then (some true) else (some false))) = some true := H
       have A53 := aM A530
       clear A530
       by_cases c54 : t491 < 0
       ·rw [if_pos c54] at H
        exact absurd H (by simp)
       rw [if_neg c54] at H
       have c54b0 : decide (t491 < 0) = false := decide_eq_false c54
       clear c54
       (try simp only [c54b0])
       by_cases c72 : t491 = t479
       ·rw [if_pos c72] at H
        have c72b0 : (t491 == t479) = true := beq_iff_eq.mpr c72
        have c72b1 : (t491 != t479) = false := bne_eq_false_iff_eq.mpr c72
        clear c72
        have HTR_ := Option.some.inj H
        (try simp only [c72b0, c72b1])
        go_wp2_with (first | ((with_reducible refine gate_callee (f := 18) rfl ?_); refine gL_ (some 46) Tryd.func18 #[.agg #[.int .i64 t466, .slice Ao27 t467.length co27], .int .i64 1] ?_; (with_reducible refine (laws_markBytesResult.calls kj13 t466 (fun k_ => some k_ = (.slice Ao27 t467.length co27 : Value).ownBlock) (.slice Ao27 t467.length co27) t467 1 t479 t480 w _ ?side1 ?side2 A40.out).mono ?_); (case side1 => repeat (first | (with_reducible first | exact HB.out | apply below_alloc | apply pw_below_drewN | apply below_drew1 | refine below_set ?_ GE462.out | refine below_set ?_ GE470.out) | exact HB.out)); (case side2 => exact Kd.R_tight rfl HO_471001.out); rintro e w75 ⟨rfl, hy0, hb, hkp⟩; refine ⟨_, rfl, ?_⟩; replace HO_463001 := aM (Kd.R_mono (ok' := fun k_ => some k_ ≠ (.slice Ao27 t467.length co27 : Value).ownBlock) (Kd.R_keptB (HO_463001.out) hkp (fun k_ hk_ hs_ => (hk_) hs_)) (fun k_ hk_ => hk_.1)); replace BK462 := aM (blk_kept (bL BK462) hkp (fun hs_ => (fun e_ => (Kd.R_ne HO_471001.out BK462.out (by decide)) e_) hs_)); replace BK470 := aM (blk_kept (bL BK470) hkp (fun hs_ => (fun e_ => (Kd.R_ne HO_471001.out BK470.out (by decide)) e_) hs_)); replace HO_471001 := aM (Kd.R_reok rfl hy0 (fun k_ e_ => HO_471001.out.1 k_ e_)); replace HB := aM (hb); (try clear hkp); (try clear hy0); have hcz76_0 : w75.cell? ⟨gb470, 0, none⟩ = some (.int .i64 t466) := (blk_cell BK470.out 0).trans rfl; have hcz76_1 : w75.cell? ⟨gb470, 1, none⟩ = some (.slice Ao27 t467.length co27) := (blk_cell BK470.out 1).trans rfl; have hfz76_0 := blk_frozen BK470.out 0; have hfz76_1 := blk_frozen BK470.out 1) | ((with_reducible refine gate_callee (f := 19) rfl ?_); refine goesL_ (some 49) rfl rfl Tryd.func19 (by kernel_rfl) rfl #[.agg #[.int .i64 t466, .slice Ao27 t480.length co27], .int .i64 1] rfl (by (try simp only [List.map_toArray, List.map_cons, List.map_nil]); first | done | (rw [show t480.length = t467.length from (Kd.R_reads' HO_471001.out).1.symm] <;> rfl) | rfl | (simp only [List.length_drop, List.length_take]; rfl)) ?_; (with_reducible refine (laws_heldBytesResult.calls kj13 t466 _ _ t480 1 t481 _ ?side1 ?side2 A41.out).mono ?_); (case side1 => exact zz8 HO_471001.out); (case side2 => rw [show t480.length = t467.length from (Kd.R_reads' HO_471001.out).1.symm]; exact (Kd.R_reads' HO_471001.out).2.1); rintro e w77 ⟨rfl, hb⟩; refine ⟨_, rfl, ?_⟩; replace HO_463001 := aM (Kd.R_below (bR HO_463001) hb); replace HO_471001 := aM (Kd.R_below (bR HO_471001) hb); replace BK462 := aM (blk_below (g := gb462) (o := .cells #[.int .i64 t458, .slice Ao20 t459.length co20] 29 (0, 0)) (bL BK462) hb); replace BK470 := aM (blk_below (g := gb470) (o := .cells #[.int .i64 t466, .slice Ao27 t467.length co27] 29 (0, 0)) (bL BK470) hb); replace HB := aM (below_step (bG2 GE462 GE470) hb); (try clear hi)) | ((with_reducible refine gate_callee (f := 13) rfl ?_); refine gL_ (some 56) Tryd.func13 #[.slice A0 l0.length c0] ?_; (with_reducible refine (laws_toByteS.calls kj13 _ _ l0 t482 _ ?side1 ?side2 A49.out).mono ?_); (case side1 => exact zz6 HR0.out); (case side2 => exact HC0.out); rintro e w78 ⟨v483, rfl, ho0, hb⟩; refine ⟨_, rfl, ?_⟩; have HO484 := aM (Kd.R_lower (Kd.R_new' (Kd.R_new' ho0 (Kd.R_lt (bR HO_463001))) (Kd.R_lt (bR HO_471001))) (below_size (bG2 GE462 GE470))); replace HO_463001 := aM (Kd.R_elder' (bR HO_463001) (Kd.R_base ho0) hb); replace HO_471001 := aM (Kd.R_elder' (bR HO_471001) (Kd.R_base ho0) hb); replace BK462 := aM (blk_below (g := gb462) (o := .cells #[.int .i64 t458, .slice Ao20 t459.length co20] 29 (0, 0)) (bL BK462) hb); replace BK470 := aM (blk_below (g := gb470) (o := .cells #[.int .i64 t466, .slice Ao27 t467.length co27] 29 (0, 0)) (bL BK470) hb); replace HB := aM (below_step (bG2 GE462 GE470) hb); (try clear ho0); obtain ⟨Ao79, co79, eo79⟩ := Kd.R_slice HO484.out; subst eo79) | ((with_reducible refine gate_callee (f := 14) rfl ?_); refine gL_ (some 58) Tryd.func14 #[.slice Ao79 t482.length co79, .int .i64 a1] ?_; (with_reducible refine (impl_BodyOf.calls kj13 _ _ t482 a1 t485 t486 _ ?side1 ?side2 A50.out).mono ?_); (case side1 => exact zz8 HO484.out); (case side2 => exact (Kd.R_reads' HO484.out).2.1); rintro e w80 ⟨v487, rfl, ho0, hb⟩; refine ⟨_, rfl, ?_⟩; have HO488 := aM (Kd.R_lower (Kd.R_new' (Kd.R_new' (Kd.R_new' ho0 (Kd.R_lt (bR HO_463001))) (Kd.R_lt (bR HO_471001))) (Kd.R_lt (bR HO484))) (below_size (bG2 GE462 GE470))); replace HO_463001 := aM (Kd.R_elder' (bR HO_463001) (Kd.R_base ho0) hb); replace HO_471001 := aM (Kd.R_elder' (bR HO_471001) (Kd.R_base ho0) hb); replace HO484 := aM (Kd.R_elder' (bR HO484) (Kd.R_base ho0) hb); replace BK462 := aM (blk_below (g := gb462) (o := .cells #[.int .i64 t458, .slice Ao20 t459.length co20] 29 (0, 0)) (bL BK462) hb); replace BK470 := aM (blk_below (g := gb470) (o := .cells #[.int .i64 t466, .slice Ao27 t467.length co27] 29 (0, 0)) (bL BK470) hb); replace HB := aM (below_step (bG2 GE462 GE470) hb); (try clear ho0)) | ((with_reducible refine gate_dst (N := 11) rfl ?_); refine box_event ?hg (N := 11) ?hd (cs := #[.int .i64 0, .slice none 0 0]) (t := 29) ?hr ?_; (case hd => rfl); (case hg => rfl); (case hr => exact zz13); intro gb489 hg w81 hbox hb; replace HO_463001 := aM (Kd.R_below (bR HO_463001) hb); replace HO_471001 := aM (Kd.R_below (bR HO_471001) hb); replace HO484 := aM (Kd.R_below (bR HO484) hb); replace HO488 := aM (Kd.R_below (bR HO488) hb); have BK489 := aM (hbox); have GW489 := aM ((by rw [hg]; exact (below_size (bG2 GE462 GE470)) : w.heap.size ≤ gb489)); have GE489 := aM ((by rw [hg]; exact (below_size (bG2 GE462 GE470)) : w.heap.size ≤ gb489)); replace HB := aM (below_step (bG2 GE462 GE470) hb); have NB462_489 := aM ((by rw [hg]; exact Nat.ne_of_lt (blk_lt (g := gb462) (o := .cells #[.int .i64 t458, .slice Ao20 t459.length co20] 29 (0, 0)) (bL BK462)) : gb462 ≠ gb489)); have NB489_462 := aM ((by rw [hg]; exact Nat.ne_of_gt (blk_lt (g := gb462) (o := .cells #[.int .i64 t458, .slice Ao20 t459.length co20] 29 (0, 0)) (bL BK462)) : gb489 ≠ gb462)); replace BK462 := aM (blk_below (g := gb462) (o := .cells #[.int .i64 t458, .slice Ao20 t459.length co20] 29 (0, 0)) (bL BK462) hb); have NB470_489 := aM ((by rw [hg]; exact Nat.ne_of_lt (blk_lt (g := gb470) (o := .cells #[.int .i64 t466, .slice Ao27 t467.length co27] 29 (0, 0)) (bL BK470)) : gb470 ≠ gb489)); have NB489_470 := aM ((by rw [hg]; exact Nat.ne_of_gt (blk_lt (g := gb470) (o := .cells #[.int .i64 t466, .slice Ao27 t467.length co27] 29 (0, 0)) (bL BK470)) : gb489 ≠ gb470)); replace BK470 := aM (blk_below (g := gb470) (o := .cells #[.int .i64 t466, .slice Ao27 t467.length co27] 29 (0, 0)) (bL BK470) hb); clear hb hbox hg; have hnb82 := NB489_462.out; have hnc82 := NB462_489.out; have hnb83 := NB489_470.out; have hnc83 := NB470_489.out; have hcz84_0 : w81.cell? ⟨gb489, 0, none⟩ = some (.int .i64 0) := (blk_cell BK489.out 0).trans rfl; have hcz84_1 : w81.cell? ⟨gb489, 1, none⟩ = some (.slice none 0 0) := (blk_cell BK489.out 1).trans rfl; have hfz84_0 := blk_frozen BK489.out 0; have hfz84_1 := blk_frozen BK489.out 1; obtain ⟨Ao85, co85, eo85⟩ := Kd.R_slice HO488.out; subst eo85; have hcz86_0 : w81.cell? ⟨gb462, 0, none⟩ = some (.int .i64 t458) := (blk_cell BK462.out 0).trans rfl; have hcz86_1 : w81.cell? ⟨gb462, 1, none⟩ = some (.slice Ao20 t459.length co20) := (blk_cell BK462.out 1).trans rfl; have hfz86_0 := blk_frozen BK462.out 0; have hfz86_1 := blk_frozen BK462.out 1) | ((with_reducible refine gate_callee (f := 15) rfl ?_); refine gL_ (some 61) Tryd.func15 #[.agg #[.int .i64 t485, .slice Ao85 t486.length co85], .agg #[.int .i64 t458, .slice Ao20 t459.length co20]] ?_; (with_reducible refine (laws_eqBytesResult.calls kj13 t485 _ _ t486 t458 _ _ t459 true _ ?side1 ?side2 ?side3 ?side4 A51.out).mono ?_); (case side1 => refine (Kd.R_reads' (e := 5) (base := w.heap.size) (ok := fun k_ => (((True ∧ some k_ ≠ (.slice Ao20 t459.length co20 : Value).ownBlock) ∧ some k_ ≠ (.slice Ao27 t467.length co27 : Value).ownBlock) ∧ some k_ ≠ (.slice Ao79 t482.length co79 : Value).ownBlock)) (n := t486.length) (c := co85) ?_).2.2; exact (zz20 HO488.out BK489.out)); (case side2 => exact (Kd.R_reads' HO488.out).2.1); (case side3 => refine (Kd.R_reads' (e := 5) (base := w.heap.size) (ok := fun k_ => ((some k_ ≠ (.slice Ao27 t467.length co27 : Value).ownBlock ∧ some k_ ≠ (.slice Ao79 t482.length co79 : Value).ownBlock) ∧ some k_ ≠ (.slice Ao85 t486.length co85 : Value).ownBlock)) (n := t459.length) (c := co20) ?_).2.2; exact (zz20 HO_463001.out BK489.out)); (case side4 => exact (Kd.R_reads' HO_463001.out).2.1); rintro e w87 ⟨rfl, hb⟩; refine ⟨_, rfl, ?_⟩; replace HO_463001 := aM (Kd.R_below (zz20 HO_463001.out BK489.out) hb); replace HO_471001 := aM (Kd.R_below (zz20 HO_471001.out BK489.out) hb); replace HO484 := aM (Kd.R_below (zz20 HO484.out BK489.out) hb); replace HO488 := aM (Kd.R_below (zz20 HO488.out BK489.out) hb); replace BK462 := aM (blk_below (g := gb462) (o := .cells #[.int .i64 t458, .slice Ao20 t459.length co20] 29 (0, 0)) (zz16 NB462_489.out BK462.out) hb); replace BK470 := aM (blk_below (g := gb470) (o := .cells #[.int .i64 t466, .slice Ao27 t467.length co27] 29 (0, 0)) (zz16 NB470_489.out BK470.out) hb); replace BK489 := aM (blk_below (g := gb489) (o := .cells #[.int .i64 t485, .slice Ao85 t486.length co85] 29 (0, 0)) (by (with_reducible repeat (first | refine blk_drewN ?_ _ | refine blk_drew ?_ | refine blk_alloc ?_ _)); refine blk_put (cs := #[.int .i64 t485, .slice none 0 0]) ?_ 1 _ rfl; (with_reducible repeat (first | refine blk_drewN ?_ _ | refine blk_drew ?_ | refine blk_alloc ?_ _)); refine blk_put (cs := #[.int .i64 0, .slice none 0 0]) ?_ 0 _ rfl; (with_reducible repeat (first | refine blk_drewN ?_ _ | refine blk_drew ?_ | refine blk_alloc ?_ _)); exact BK489.out) hb); replace HB := aM (below_step (zz26 GE462.out GE470.out GE489.out) hb); have hcz88_0 : w87.cell? ⟨gb470, 0, none⟩ = some (.int .i64 t466) := (blk_cell BK470.out 0).trans rfl; have hcz88_1 : w87.cell? ⟨gb470, 1, none⟩ = some (.slice Ao27 t467.length co27) := (blk_cell BK470.out 1).trans rfl; have hfz88_0 := blk_frozen BK470.out 0; have hfz88_1 := blk_frozen BK470.out 1) | ((with_reducible refine gate_callee (f := 19) rfl ?_); refine goesL_ (some 65) rfl rfl Tryd.func19 (by kernel_rfl) rfl #[.agg #[.int .i64 t466, .slice Ao27 t480.length co27], .int .i64 1] rfl (by (try simp only [List.map_toArray, List.map_cons, List.map_nil]); first | done | (rw [show t480.length = t467.length from (Kd.R_reads' HO_471001.out).1.symm] <;> rfl) | rfl | (simp only [List.length_drop, List.length_take]; rfl)) ?_; (with_reducible refine (laws_heldBytesResult.calls kj13 t466 _ _ t480 1 t491 _ ?side1 ?side2 A53.out).mono ?_); (case side1 => exact zz8 HO_471001.out); (case side2 => rw [show t480.length = t467.length from (Kd.R_reads' HO_471001.out).1.symm]; exact (Kd.R_reads' HO_471001.out).2.1); rintro e w89 ⟨rfl, hb⟩; refine ⟨_, rfl, ?_⟩; replace HO_463001 := aM (Kd.R_below (bR HO_463001) hb); replace HO_471001 := aM (Kd.R_below (bR HO_471001) hb); replace HO484 := aM (Kd.R_below (bR HO484) hb); replace HO488 := aM (Kd.R_below (bR HO488) hb); replace BK462 := aM (blk_below (g := gb462) (o := .cells #[.int .i64 t458, .slice Ao20 t459.length co20] 29 (0, 0)) (bL BK462) hb); replace BK470 := aM (blk_below (g := gb470) (o := .cells #[.int .i64 t466, .slice Ao27 t467.length co27] 29 (0, 0)) (bL BK470) hb); replace BK489 := aM (blk_below (g := gb489) (o := .cells #[.int .i64 t485, .slice Ao85 t486.length co85] 29 (0, 0)) (bL BK489) hb); replace HB := aM (below_step (zz26 GE462.out GE470.out GE489.out) hb); (try clear hi)))
        go_ret
        exact ⟨bE, zz26 GE462.out GE470.out GE489.out⟩
       rw [if_neg c72] at H
       exact absurd H (by simp)
      replace c52 := Bool.eq_false_iff.mpr c52
      subst c52
      have H1 : (some false) = some true := zz15
      exact absurd H1 (by simp)
     rw [if_neg c48] at H
     exact absurd H (by simp)
  replace c12 := Bool.eq_false_iff.mpr c12
  subst c12
  have H1 : (some false) = some true := zz15
  exact absurd H1 (by simp)
 replace c9 := Bool.eq_false_iff.mpr c9
 subst c9
 have H1 : (some false) = some true := zz15
 exact absurd H1 (by simp)
def laws_FnExactBodyOf.Pure : Prop := ∀ (l0 : List Int) (a1 : Int), l0.length ≤ maxLen → l0.length * 1 ≤ 140737488351232 → (∀ x ∈ l0, (Lit.int .u8 x).wf = true) → (Lit.int .i64 a1).wf = true → ∃ k, laws_FnExactBodyOf.f k l0 a1 = some true
theorem laws_FnExactBodyOf.walk (P : laws_FnExactBodyOf.Pure) (a0 : Option Addr) (len0 cap0 : Nat) (z0 : List Int) (a1 : Int) (w : World) (w0 : (a0 = none ∧ len0 = 0 ∧ cap0 = 0 ∧ z0 = []) ∨ ∃ x, a0 = some x ∧ len0 ≤ cap0 ∧ cap0 ≤ maxLen ∧ z0.length = cap0 ∧ (∀ i, i < z0.length → w.cell? (x.add i) = some (.int .u8 (z0.getD i 0))) ∧ ∀ n ∈ z0, (Lit.int .u8 n).wf = true) (y0 : len0 * 1 ≤ 140737488351232) (w1 : (Lit.int .i64 a1).wf = true) :
  Calls Tryd.prog 4 #[.slice a0 len0 cap0, .int .i64 a1] w fun e w' => e = .returned (.bool true) ∧ Below w.heap.size w w' := by
 obtain ⟨l0, rfl, hr0, hm0, hw0, hc0⟩ := ReadsInt.ofRowC w0
 obtain ⟨k, h⟩ := P l0 a1 hm0 y0 hw0 w1
 refine (laws_FnExactBodyOf.calls k _ _ l0 a1 w (Kd.C_of_reads (d := (0 : Int)) (h1 := fun _ => rfl) hr0) hc0 h).mono ?_
 rintro e w' ⟨rfl, hd⟩
 exact ⟨rfl, hd⟩
end Go.Proofs.YtecpanfndodjgaaDoor.PBodyOf
