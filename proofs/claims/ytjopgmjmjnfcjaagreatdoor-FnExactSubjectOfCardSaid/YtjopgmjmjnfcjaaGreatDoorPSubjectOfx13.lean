/- Part of the proof; words that it uses. -/
import Derived.Test.YtjopgmjmjnfcjaaGreatDoorPSubjectOfx0
import Derived.Test.YtjopgmjmjnfcjaaGreatDoorPSubjectOfx6
import Derived.Test.YtjopgmjmjnfcjaaGreatDoorPSubjectOfx12
namespace Go.Proofs.YtjopgmjmjnfcjaaGreatDoor.PSubjectOf
open Go.RowKit Go.Proofs.YtjopgmjmjnfcjaaGreatDoorW.PrintWords Go.Proofs.YtjopgmjmjnfcjaaGreatDoorW.PrintLast
set_option linter.unusedVariables false
set_option linter.unusedSimpArgs false
def laws_markInt64S.l0 : Nat → List Int → Int → Int → Option (Int × List Int)
 | 0, _, _, _ => none
 | k + 1, x0, x1, x5 => if x5 < (x0.length : Int) then (if 0 ≤ x5 then (laws_markInt64S.l0 k (x0.set (x5 : Int).toNat x1) (wrap64 (x1 + 1)) (wrap64 (x5 + 1))) else (none)) else (some (x1, x0))
def laws_markInt64S.f (k : Nat) (l0 : List Int) (a1 : Int) : Option (Int × List Int) := laws_markInt64S.l0 k l0 a1 0
set_option maxHeartbeats 8000000 in
set_option maxRecDepth 100000 in
theorem laws_markInt64S.calls (k : Nat) (P0_ : Nat → Prop) (u9000_ : Value) (l0 : List Int) (a1 : Int) (r1 : Int) (r2 : List Int) (w0 w : World) (hB : Below w0.heap.size w0 w) (ho0 : Kd.R (Kd.int .i64) 2 w w0.heap.size P0_ u9000_ l0) (h : laws_markInt64S.f k l0 a1 = some (r1, r2)) :
  Calls Tryz.prog 27 #[u9000_, .int .i64 a1] w fun e w' => e = .returned (.int .i64 r1) ∧ Kd.R (Kd.int .i64) 2 w' w0.heap.size (fun k_ => (P0_ k_ ∨ w.heap.size ≤ k_)) u9000_ r2 ∧ Below w0.heap.size w0 w' ∧ Kept w w' (fun k_ => P0_ k_) := by
 have HO0 := aM (show Kd.R (Kd.int .i64) 2 w w0.heap.size (fun k_ => (P0_ k_ ∨ w.heap.size ≤ k_)) u9000_ l0 from Kd.R_mono ho0 (fun k_ hk => (.inl hk)))
 have HK := aM (Kept.refl w (fun k_ => P0_ k_))
 have HW0 := aM hB.size
 have HB := aM hB
 clear hB
 have H : (laws_markInt64S.l0 k l0 a1 0) = some (r1, r2) := h
 clear h
 have H' := aM H
 clear H
 go_enter Tryz.func27, Tryz.ntmps27
 go_wp2
 go_loopg [1, 5] k (fun kq v1 v5 w' => ∃ (x0_1 : List Int) (x1_1 : Int) (x5_1 : Int), v1 = .int .i64 x1_1 ∧ v5 = .int .i64 x5_1 ∧ Aside0 (laws_markInt64S.l0 kq x0_1 x1_1 x5_1 = some (r1, r2)) ∧ Aside0 (kq ≤ k) ∧ Aside0 (Kd.R (Kd.int .i64) 2 w' w0.heap.size (fun k_ => (P0_ k_ ∨ w.heap.size ≤ k_)) u9000_ x0_1) ∧ Aside0 (Kept w w' (fun k_ => P0_ k_)) ∧ Aside0 (Below w0.heap.size w0 w'))
 case atStart => exact ⟨(l0), (a1), (0), bS, bS, H', ⟨Nat.le_refl _⟩, ⟨bR HO0⟩, ⟨bK⟩, ⟨bB⟩⟩
 case round =>
  clear H'
  try clear c2
  try clear p2
  obtain ⟨x0_1, x1_1, x5_1, rfl, rfl, HA, HK1, HO_0, HK, HB⟩ := hrel
  cases gk with
  | zero => exact absurd HA.out (by simp [laws_markInt64S.l0])
  | succ k1 =>
   have H := HA.out
   clear HA
   simp only [laws_markInt64S.l0] at H
   by_cases c3 : x5_1 < (x0_1.length : Int)
   ·rw [if_pos c3] at H
    have c3b0 : decide (x5_1 < (x0_1.length : Int)) = true := decide_eq_true c3
    clear c3
    by_cases c4 : 0 ≤ x5_1
    ·rw [if_pos c4] at H
     have c4b0 : decide (0 ≤ x5_1) = true := decide_eq_true c4
     clear c4
     obtain ⟨y591, hy591⟩ : ∃ y_ : List Int, y_ = (x0_1.set (x5_1 : Int).toNat x1_1) := ⟨_, rfl⟩
     replace H : (laws_markInt64S.l0 k1 y591 (wrap64 (x1_1 + 1)) (wrap64 (x5_1 + 1))) = some (r1, r2) := z0 hy591
     have Ny591 := aM hy591
     clear hy591
     have H' := aM H
     clear H
     obtain ⟨Ao6, co6, eo6⟩ := Kd.R_slice HO_0.out
     subst eo6
     have p5 : 0 ≤ (x5_1 : Int) := pI
     have q5 : (x5_1 : Int) < ((x0_1.length : Int) : Int) := pI
     obtain ⟨go5, co5, eo5, gb5, gl5, cl5, HG5⟩ := Kd.R_form HO_0.out (by omega)
     (first | cases eo5 | (injection eo5 with ea_ en_ ec_; (first | subst ea_ | (injection ea_ with ea_; subst ea_)); subst ec_; clear en_))
     have GB5 := aM gb5
     have GG5 := aM HG5
     clear gb5 gl5 HG5
     have HMgo5 := aM (show (P0_ go5 ∨ w.heap.size ≤ go5) from (HO_0.out.1 _ rfl))
     obtain ⟨hx5_0, hf5_0⟩ := Kd.R_celln 0 HO_0.out (x5_1 : Int) p5 q5
     replace p5 := eq_true p5
     replace q5 := eq_true q5
     have HP7 := Kd.R_putg HO_0.out (x5_1 : Int) x1_1
     go_wp2_with (first | ((with_reducible refine gate_store (t := 2) (p := 15) rfl ?_); refine store_event (t := 2) (p := 15) (v := ?vo_w8) (w1 := (wr.setCell ⟨go5, (x5_1 : Int).toNat, none⟩ (.int .i64 x1_1))) ?hg ?ho ?hn ?hr ?_; (case ho => rfl); (case hg => rfl); (case hn => rfl); (case hr => exact z8); intro w8 hw; have hg : wr.grownBy w8 (some go5) := (by rw [hw]; exact HP7.2); have hp_ : Kd.R (Kd.int .i64) 2 w8 w0.heap.size (fun k_ => (P0_ k_ ∨ w.heap.size ≤ k_)) (.slice (some ⟨go5, 0, none⟩) x0_1.length co6) y591 := (by rw [hw, Ny591.out]; exact HP7.1); clear HP7; replace HB := aM ((z48 GB5.out : Below w0.heap.size w0 w8)); replace HK := aM (Kept.of_grown (S := (fun k_ => P0_ k_)) hg bK (fun k_ e_ => (HO_0.out.1 k_ e_))); replace HO_0 := aM (hp_); clear hg hw hp_))
     go_roundg k1
     case measure => have := HK1.out; omega
     case rel => exact ⟨(y591), (wrap64 (x1_1 + 1)), (wrap64 (x5_1 + 1)), bS, bS, H', ⟨by have := HK1.out; omega⟩, ⟨bR HO_0⟩, ⟨bK⟩, ⟨bB⟩⟩
    rw [if_neg c4] at H
    exact absurd H (by simp)
   rw [if_neg c3] at H
   have c3b0 : decide (x5_1 < (x0_1.length : Int)) = false := decide_eq_false c3
   clear c3
   simp only [Option.some.injEq, Prod.mk.injEq] at H
   obtain ⟨rfl, rfl⟩ := H
   obtain ⟨Ao9, co9, eo9⟩ := Kd.R_slice HO_0.out
   subst eo9
   go_wp2
   go_ret
   exact ⟨bE, bR HO_0, bB, bK⟩
def laws_markCodesResult.f (k : Nat) (a0_0 : Int) (l0_1 : List Int) (a1 : Int) : Option (Int × List Int) := (laws_markInt64S.f k l0_1 a1).bind fun bt593 => (some (bt593.1, bt593.2))
set_option maxHeartbeats 8000000 in
set_option maxRecDepth 100000 in
theorem laws_markCodesResult.calls (k : Nat) (a0_0 : Int) (P0_1_ : Nat → Prop) (u9000_ : Value) (l0_1 : List Int) (a1 : Int) (r1 : Int) (r2 : List Int) (w0 w : World) (hB : Below w0.heap.size w0 w) (ho0_1 : Kd.R (Kd.int .i64) 2 w w0.heap.size P0_1_ u9000_ l0_1) (h : laws_markCodesResult.f k a0_0 l0_1 a1 = some (r1, r2)) :
  Calls Tryz.prog 11 #[.agg #[.int .i64 a0_0, u9000_], .int .i64 a1] w fun e w' => e = .returned (.int .i64 r1) ∧ Kd.R (Kd.int .i64) 2 w' w0.heap.size (fun k_ => (P0_1_ k_ ∨ w.heap.size ≤ k_)) u9000_ r2 ∧ Below w0.heap.size w0 w' ∧ Kept w w' (fun k_ => P0_1_ k_) := by
 have hu25 := Tryz.underlying25
 have HO0_1 := aM (show Kd.R (Kd.int .i64) 2 w w0.heap.size (fun k_ => (P0_1_ k_ ∨ w.heap.size ≤ k_)) u9000_ l0_1 from Kd.R_mono ho0_1 (fun k_ hk => (.inl hk)))
 have HK := aM (Kept.refl w (fun k_ => P0_1_ k_))
 have HW0 := aM hB.size
 have HB := aM hB
 clear hB
 have H : ((laws_markInt64S.f k l0_1 a1).bind fun bt593 => (some (bt593.1, bt593.2))) = some (r1, r2) := h
 clear h
 replace H := Option.bind_eq_some_iff.mp H
 obtain ⟨⟨t593, t594⟩, A30, H⟩ := H
 replace H : (some (t593, t594)) = some (r1, r2) := H
 have A3 := aM A30
 clear A30
 simp only [Option.some.injEq, Prod.mk.injEq] at H
 obtain ⟨rfl, rfl⟩ := H
 obtain ⟨Ao4, co4, eo4⟩ := Kd.R_slice HO0_1.out
 subst eo4
 go_enter Tryz.func11, Tryz.ntmps11
 go_wp2_with (first | ((with_reducible refine gate_dst (N := 2) rfl ?_); refine box_event ?hg (N := 2) ?hd (cs := #[.int .i64 a0_0, .slice Ao4 l0_1.length co4]) (t := 25) ?hr ?_; (case hd => rfl); (case hg => rfl); (case hr => exact z8); intro gb592 hg w5 hbox hb; replace HO0_1 := aM (Kd.R_below (bR HO0_1) hb); have BK592 := aM (hbox); have GW592 := aM ((by rw [hg]; exact (by first | exact HK.out.1 | exact (show Kept w _ (fun k_ => P0_1_ k_) from bK).1) : w.heap.size ≤ gb592)); replace HK := aM (Kept.below (S := (fun k_ => P0_1_ k_)) bK hb); have GE592 := aM ((z11 : w0.heap.size ≤ gb592)); replace HB := aM (below_step bB hb); clear hb hbox hg; have hcz6_0 : w5.cell? ⟨gb592, 0, none⟩ = some (.int .i64 a0_0) := (blk_cell BK592.out 0).trans rfl; have hcz6_1 : w5.cell? ⟨gb592, 1, none⟩ = some (.slice Ao4 l0_1.length co4) := (blk_cell BK592.out 1).trans rfl; have hfz6_0 := blk_frozen BK592.out 0; have hfz6_1 := blk_frozen BK592.out 1) | ((with_reducible refine gate_callee (f := 27) rfl ?_); refine gL_ (some 8) Tryz.func27 #[.slice Ao4 l0_1.length co4, .int .i64 a1] ?_; (with_reducible refine (laws_markInt64S.calls k (fun k_ => some k_ = (.slice Ao4 l0_1.length co4 : Value).ownBlock) (.slice Ao4 l0_1.length co4) l0_1 a1 t593 t594 w0 _ ?side1 ?side2 A3.out).mono ?_); (case side1 => repeat (first | (with_reducible first | exact HB.out | apply below_alloc | apply pw_below_drewN | apply below_drew1 | refine below_set ?_ GE592.out) | exact HB.out)); (case side2 => exact Kd.R_tight rfl HO0_1.out); rintro e w7 ⟨rfl, hy0, hb, hkp⟩; refine ⟨_, rfl, ?_⟩; replace BK592 := aM (blk_kept (bL BK592) hkp (fun hs_ => (fun e_ => (Kd.R_ne HO0_1.out BK592.out (by decide)) e_) hs_)); replace HK := aM (Kept.then_ (S := (fun k_ => P0_1_ k_)) (by repeat (first | (with_reducible first | exact HK.out | apply Kept.alloc | apply Kept.drewN | apply Kept.drew | refine Kept.setCell ?_ (.inr GW592.out) _) | exact HK.out)) hkp (fun k_ hs_ => (fun e_ => (HO0_1.out.1 k_ e_.symm)) hs_)); replace HO0_1 := aM (Kd.R_reok rfl hy0 (fun k_ e_ => HO0_1.out.1 k_ e_)); replace HB := aM (hb); (try clear hkp); (try clear hy0)))
 go_ret
 exact ⟨bE, bR HO0_1, bG GE592, by repeat (first | (with_reducible first | exact HK.out | apply Kept.alloc | apply Kept.drewN | apply Kept.drew | refine Kept.setCell ?_ (.inr GW592.out) _) | exact HK.out)⟩
def laws_heldInt64S.l0 : Nat → List Int → Int → Int → Option (Int)
 | 0, _, _, _ => none
 | k + 1, x0, x1, x5 => if x5 < (x0.length : Int) then (if 0 ≤ x5 then (if (rd x0 x5) = x1 then (laws_heldInt64S.l0 k x0 (wrap64 (x1 + 1)) (wrap64 (x5 + 1))) else (some (-1))) else (none)) else (some x1)
def laws_heldInt64S.f (k : Nat) (l0 : List Int) (a1 : Int) : Option (Int) := laws_heldInt64S.l0 k l0 a1 0
set_option maxHeartbeats 8000000 in
set_option maxRecDepth 100000 in
theorem laws_heldInt64S.calls (k : Nat) (A0 : Option Addr) (c0 : Nat) (l0 : List Int) (a1 : Int) (r : Int) (w : World) (hr0 : Kd.C (Kd.int .i64) w A0 l0.length l0) (hc0 : l0.length ≤ c0) (h : laws_heldInt64S.f k l0 a1 = some r) :
  Calls Tryz.prog 28 #[.slice A0 l0.length c0, .int .i64 a1] w fun e w' => e = .returned (.int .i64 r) ∧ Drawn0 w w' := by
 have HR0 := aM hr0
 have HC0 := aM hc0
 clear hr0 hc0
 have H : (laws_heldInt64S.l0 k l0 a1 0) = some r := h
 clear h
 have H' := aM H
 clear H
 go_enter Tryz.func28, Tryz.ntmps28
 go_wp2
 go_loopg [1, 5] k (fun kq v1 v5 w' => ∃ (x1_1 : Int) (x5_1 : Int), v1 = .int .i64 x1_1 ∧ v5 = .int .i64 x5_1 ∧ Aside0 (laws_heldInt64S.l0 kq l0 x1_1 x5_1 = some r) ∧ Aside0 (kq ≤ k) ∧ Drawn0 w w')
 case atStart => exact ⟨(a1), (0), bS, bS, H', ⟨Nat.le_refl _⟩, z1⟩
 case round =>
  clear H'
  try clear c2
  try clear p2
  obtain ⟨x1_1, x5_1, rfl, rfl, HA, HK1, ⟨m1, rfl⟩⟩ := hrel
  cases gk with
  | zero => exact absurd HA.out (by simp [laws_heldInt64S.l0])
  | succ k1 =>
   have H := HA.out
   clear HA
   simp only [laws_heldInt64S.l0] at H
   by_cases c3 : x5_1 < (l0.length : Int)
   ·rw [if_pos c3] at H
    have c3b0 : decide (x5_1 < (l0.length : Int)) = true := decide_eq_true c3
    clear c3
    by_cases c4 : 0 ≤ x5_1
    ·rw [if_pos c4] at H
     have c4b0 : decide (0 ≤ x5_1) = true := decide_eq_true c4
     clear c4
     by_cases c5 : (rd l0 x5_1) = x1_1
     ·rw [if_pos c5] at H
      have c5b0 : ((rd l0 x5_1) == x1_1) = true := beq_iff_eq.mpr c5
      have c5b1 : ((rd l0 x5_1) != x1_1) = false := bne_eq_false_iff_eq.mpr c5
      clear c5
      have H' := aM H
      clear H
      have p595 : 0 ≤ (x5_1 : Int) := pI
      have q595 : x5_1 < (l0.length : Int) := pI
      obtain ⟨ad595, e595, hx595_0⟩ := Kd.at_int HR0.out x5_1 p595 q595
      cases e595
      replace p595 := eq_true p595
      replace q595 := eq_true q595
      go_wp2
      go_roundg k1
      case measure => have := HK1.out; omega
      case rel => exact ⟨(wrap64 (x1_1 + 1)), (wrap64 (x5_1 + 1)), bS, bS, H', ⟨by have := HK1.out; omega⟩, z1⟩
     rw [if_neg c5] at H
     have c5b0 : ((rd l0 x5_1) == x1_1) = false := beq_eq_false_iff_ne.mpr c5
     have c5b1 : ((rd l0 x5_1) != x1_1) = true := bne_iff_ne.mpr c5
     obtain rfl := Option.some.inj H
     have p595 : 0 ≤ (x5_1 : Int) := pI
     have q595 : x5_1 < (l0.length : Int) := pI
     obtain ⟨ad595, e595, hx595_0⟩ := Kd.at_int HR0.out x5_1 p595 q595
     cases e595
     replace p595 := eq_true p595
     replace q595 := eq_true q595
     go_wp2
     go_ret
     exact ⟨bS, z1⟩
    rw [if_neg c4] at H
    exact absurd H (by simp)
   rw [if_neg c3] at H
   have c3b0 : decide (x5_1 < (l0.length : Int)) = false := decide_eq_false c3
   clear c3
   obtain rfl := Option.some.inj H
   go_wp2
   go_ret
   exact ⟨bS, z1⟩
def laws_heldCodesResult.f (k : Nat) (a0_0 : Int) (l0_1 : List Int) (a1 : Int) : Option (Int) := (laws_heldInt64S.f k l0_1 a1).bind fun t597 => (if t597 < 0 then (some (-1)) else (some t597))
set_option maxHeartbeats 8000000 in
set_option maxRecDepth 100000 in
theorem laws_heldCodesResult.calls (k : Nat) (a0_0 : Int) (A0_1 : Option Addr) (c0_1 : Nat) (l0_1 : List Int) (a1 : Int) (r : Int) (w : World) (hr0_1 : Kd.C (Kd.int .i64) w A0_1 l0_1.length l0_1) (hc0_1 : l0_1.length ≤ c0_1) (h : laws_heldCodesResult.f k a0_0 l0_1 a1 = some r) :
  Calls Tryz.prog 12 #[.agg #[.int .i64 a0_0, .slice A0_1 l0_1.length c0_1], .int .i64 a1] w fun e w' => e = .returned (.int .i64 r) ∧ Below w.heap.size w w' := by
 have hu25 := Tryz.underlying25
 have HR0_1 := aM hr0_1
 have HC0_1 := aM hc0_1
 clear hr0_1 hc0_1
 have HB := aM (Below.refl w.heap.size w)
 have H : ((laws_heldInt64S.f k l0_1 a1).bind fun t597 => (if t597 < 0 then (some (-1)) else (some t597))) = some r := h
 clear h
 replace H := Option.bind_eq_some_iff.mp H
 obtain ⟨t597, A30, H⟩ := H
 replace H : (if t597 < 0 then (some (-1)) else (some t597)) = some r := H
 have A3 := aM A30
 clear A30
 by_cases c4 : t597 < 0
 ·rw [if_pos c4] at H
  have c4b0 : decide (t597 < 0) = true := decide_eq_true c4
  clear c4
  obtain rfl := Option.some.inj H
  go_enter Tryz.func12, Tryz.ntmps12
  go_wp2_with (first | ((with_reducible refine gate_dst (N := 2) rfl ?_); refine box_event ?hg (N := 2) ?hd (cs := #[.int .i64 a0_0, .slice A0_1 l0_1.length c0_1]) (t := 25) ?hr ?_; (case hd => rfl); (case hg => rfl); (case hr => exact z8); intro gb596 hg w5 hbox hb; have BK596 := aM (hbox); have GW596 := aM ((z11 : w.heap.size ≤ gb596)); have GE596 := aM ((z11 : w.heap.size ≤ gb596)); replace HB := aM (below_step bB hb); clear hb hbox hg; have hcz6_0 : w5.cell? ⟨gb596, 0, none⟩ = some (.int .i64 a0_0) := (blk_cell BK596.out 0).trans rfl; have hcz6_1 : w5.cell? ⟨gb596, 1, none⟩ = some (.slice A0_1 l0_1.length c0_1) := (blk_cell BK596.out 1).trans rfl; have hfz6_0 := blk_frozen BK596.out 0; have hfz6_1 := blk_frozen BK596.out 1) | ((with_reducible refine gate_callee (f := 28) rfl ?_); refine gL_ (some 8) Tryz.func28 #[.slice A0_1 l0_1.length c0_1, .int .i64 a1] ?_; (with_reducible refine (laws_heldInt64S.calls k _ _ l0_1 a1 t597 _ ?side1 ?side2 A3.out).mono ?_); (case side1 => exact z4 HR0_1.out); (case side2 => exact HC0_1.out); rintro e w' ⟨rfl, ⟨nd, rfl⟩⟩; refine ⟨_, rfl, ?_⟩))
  go_ret
  exact ⟨bE, bG GE596⟩
 rw [if_neg c4] at H
 have c4b0 : decide (t597 < 0) = false := decide_eq_false c4
 clear c4
 obtain rfl := Option.some.inj H
 go_enter Tryz.func12, Tryz.ntmps12
 go_wp2_with (first | ((with_reducible refine gate_dst (N := 2) rfl ?_); refine box_event ?hg (N := 2) ?hd (cs := #[.int .i64 a0_0, .slice A0_1 l0_1.length c0_1]) (t := 25) ?hr ?_; (case hd => rfl); (case hg => rfl); (case hr => exact z8); intro gb596 hg w7 hbox hb; have BK596 := aM (hbox); have GW596 := aM ((z11 : w.heap.size ≤ gb596)); have GE596 := aM ((z11 : w.heap.size ≤ gb596)); replace HB := aM (below_step bB hb); clear hb hbox hg; have hcz8_0 : w7.cell? ⟨gb596, 0, none⟩ = some (.int .i64 a0_0) := (blk_cell BK596.out 0).trans rfl; have hcz8_1 : w7.cell? ⟨gb596, 1, none⟩ = some (.slice A0_1 l0_1.length c0_1) := (blk_cell BK596.out 1).trans rfl; have hfz8_0 := blk_frozen BK596.out 0; have hfz8_1 := blk_frozen BK596.out 1) | ((with_reducible refine gate_callee (f := 28) rfl ?_); refine gL_ (some 8) Tryz.func28 #[.slice A0_1 l0_1.length c0_1, .int .i64 a1] ?_; (with_reducible refine (laws_heldInt64S.calls k _ _ l0_1 a1 t597 _ ?side1 ?side2 A3.out).mono ?_); (case side1 => exact z4 HR0_1.out); (case side2 => exact HC0_1.out); rintro e w' ⟨rfl, ⟨nd, rfl⟩⟩; refine ⟨_, rfl, ?_⟩))
 go_ret
 exact ⟨bE, bG GE596⟩
def laws_FnExactSubjectOf.j0 : Nat → List Int → Bool → Int → List Int → Int → List Int → Option (Bool)
 | 0, _, _, _, _, _, _ => none
 | k + 1, x0, x39, x606000, x606001, x614000, x614001 => if x39 = true then (some false) else ((laws_markCodesResult.f k x614000 x614001 1).bind fun bt622 => ((laws_heldCodesResult.f k x614000 bt622.2 1).bind fun t624 => (if t624 < 0 then (some false) else (if t624 = bt622.1 then ((laws_toByteS.f k x0).bind fun t625 => ((impl_SubjectOf.f k t625).bind fun bt628 => ((laws_eqCodesResult.f k bt628.1 bt628.2 x606000 x606001).bind fun t633 => (if t633 = true then ((laws_heldCodesResult.f k x614000 bt622.2 1).bind fun t634 => (if t634 < 0 then (some false) else (if t634 = bt622.1 then (some true) else (some false)))) else (some false))))) else (some false)))))
def laws_FnExactSubjectOf.f (k : Nat) (l0 : List Int) : Option (Bool) := if (l0.length : Int) > 1048576 then (some true) else ((laws_toByteS.f k l0).bind fun t598 => ((spec_SubjectOf.f k t598).bind fun bt601 => ((laws_toByteS.f k l0).bind fun t606 => ((impl_SubjectOf.f k t606).bind fun bt609 => ((laws_eqCodesResult.f k bt609.1 bt609.2 bt601.1 bt601.2).bind fun t614 => (if t614 = true then ((laws_toByteS.f k l0).bind fun t615 => ((laws_eqByteS.f k t606 t615).bind fun t618 => (if t618 = true then ((laws_markByteS.f k t606 1).bind fun bt619 => (if bt619.1 < 0 then (laws_FnExactSubjectOf.j0 k l0 true bt601.1 bt601.2 bt609.1 bt609.2) else ((laws_eqCodesResult.f k bt609.1 bt609.2 bt601.1 bt601.2).bind fun t621 => (laws_FnExactSubjectOf.j0 k l0 (!t621) bt601.1 bt601.2 bt609.1 bt609.2)))) else (some false)))) else (some false)))))))
set_option maxHeartbeats 8000000 in
set_option maxRecDepth 100000 in
theorem laws_FnExactSubjectOf.calls (k : Nat) (A0 : Option Addr) (c0 : Nat) (l0 : List Int) (w : World) (hm_ : ∃ m, w.cell? ⟨0, 0, none⟩ = some (.int .i64 m)) (hr0 : Kd.C (Kd.int .u8) w A0 l0.length l0) (hc0 : l0.length ≤ c0) (h : laws_FnExactSubjectOf.f k l0 = some true) :
  Calls Tryz.prog 3 #[.slice A0 l0.length c0] w fun e w' => e = .returned (.bool true) ∧ Below w.heap.size w w' := by
 have HM_ := aM hm_
 clear hm_
 have hu25 := Tryz.underlying25
 have HR0 := aM hr0
 have HC0 := aM hc0
 clear hr0 hc0
 have HB := aM (Below.refl w.heap.size w)
 have H : (if (l0.length : Int) > 1048576 then (some true) else ((laws_toByteS.f k l0).bind fun t598 => ((spec_SubjectOf.f k t598).bind fun bt601 => ((laws_toByteS.f k l0).bind fun t606 => ((impl_SubjectOf.f k t606).bind fun bt609 => ((laws_eqCodesResult.f k bt609.1 bt609.2 bt601.1 bt601.2).bind fun t614 => (if t614 = true then ((laws_toByteS.f k l0).bind fun t615 => ((laws_eqByteS.f k t606 t615).bind fun t618 => (if t618 = true then ((laws_markByteS.f k t606 1).bind fun bt619 => (if bt619.1 < 0 then (laws_FnExactSubjectOf.j0 k l0 true bt601.1 bt601.2 bt609.1 bt609.2) else ((laws_eqCodesResult.f k bt609.1 bt609.2 bt601.1 bt601.2).bind fun t621 => (laws_FnExactSubjectOf.j0 k l0 (!t621) bt601.1 bt601.2 bt609.1 bt609.2)))) else (some false)))) else (some false)))))))) = some true := h
 clear h
 have HQ_ := aM H
 clear H
 go_enter Tryz.func3, Tryz.ntmps3
 have H := HQ_.out
 clear HQ_
 by_cases c2 : (l0.length : Int) > 1048576
 ·rw [if_pos c2] at H
  have c2b0 : decide (1048576 < (l0.length : Int)) = true := decide_eq_true c2
  have c2b1 : decide (1048576 < l0.length) = true := decide_eq_true (by omega)
  clear c2
  have HT_ := Option.some.inj H
  (try simp only [c2b0, c2b1])
  go_wp2
  go_ret
  exact ⟨bE, bB⟩
 rw [if_neg c2] at H
 have c2b0 : decide (1048576 < (l0.length : Int)) = false := decide_eq_false c2
 have c2b1 : decide (1048576 < l0.length) = false := decide_eq_false (by omega)
 clear c2
 replace H := Option.bind_eq_some_iff.mp H
 obtain ⟨t598, A30, H⟩ := H
 replace H : ((spec_SubjectOf.f k t598).bind fun bt601 => ((laws_toByteS.f k l0).bind fun t606 => ((impl_SubjectOf.f k t606).bind fun bt609 => ((laws_eqCodesResult.f k bt609.1 bt609.2 bt601.1 bt601.2).bind fun t614 => (if t614 = true then ((laws_toByteS.f k l0).bind fun t615 => ((laws_eqByteS.f k t606 t615).bind fun t618 => (if t618 = true then ((laws_markByteS.f k t606 1).bind fun bt619 => (if bt619.1 < 0 then (laws_FnExactSubjectOf.j0 k l0 true bt601.1 bt601.2 bt609.1 bt609.2) else ((laws_eqCodesResult.f k bt609.1 bt609.2 bt601.1 bt601.2).bind fun t621 => (laws_FnExactSubjectOf.j0 k l0 (!t621) bt601.1 bt601.2 bt609.1 bt609.2)))) else (some false)))) else (some false)))))) = some true := H
 have A3 := aM A30
 clear A30
 replace H := Option.bind_eq_some_iff.mp H
 obtain ⟨⟨t601, t602⟩, A40, H⟩ := H
 replace H : ((laws_toByteS.f k l0).bind fun t606 => ((impl_SubjectOf.f k t606).bind fun bt609 => ((laws_eqCodesResult.f k bt609.1 bt609.2 t601 t602).bind fun t614 => (if t614 = true then ((laws_toByteS.f k l0).bind fun t615 => ((laws_eqByteS.f k t606 t615).bind fun t618 => (if t618 = true then ((laws_markByteS.f k t606 1).bind fun bt619 => (if bt619.1 < 0 then (laws_FnExactSubjectOf.j0 k l0 true t601 t602 bt609.1 bt609.2) else ((laws_eqCodesResult.f k bt609.1 bt609.2 t601 t602).bind fun t621 => (laws_FnExactSubjectOf.j0 k l0 (!t621) t601 t602 bt609.1 bt609.2)))) else (some false)))) else (some false))))) = some true := H
 have A4 := aM A40
 clear A40
 replace H := Option.bind_eq_some_iff.mp H
 obtain ⟨t606, A50, H⟩ := H
 replace H : ((impl_SubjectOf.f k t606).bind fun bt609 => ((laws_eqCodesResult.f k bt609.1 bt609.2 t601 t602).bind fun t614 => (if t614 = true then ((laws_toByteS.f k l0).bind fun t615 => ((laws_eqByteS.f k t606 t615).bind fun t618 => (if t618 = true then ((laws_markByteS.f k t606 1).bind fun bt619 => (if bt619.1 < 0 then (laws_FnExactSubjectOf.j0 k l0 true t601 t602 bt609.1 bt609.2) else ((laws_eqCodesResult.f k bt609.1 bt609.2 t601 t602).bind fun t621 => (laws_FnExactSubjectOf.j0 k l0 (!t621) t601 t602 bt609.1 bt609.2)))) else (some false)))) else (some false)))) = some true := H
 have A5 := aM A50
 clear A50
 replace H := Option.bind_eq_some_iff.mp H
 obtain ⟨⟨t609, t610⟩, A60, H⟩ := H
 replace H : ((laws_eqCodesResult.f k t609 t610 t601 t602).bind fun t614 => (if t614 = true then ((laws_toByteS.f k l0).bind fun t615 => ((laws_eqByteS.f k t606 t615).bind fun t618 => (if t618 = true then ((laws_markByteS.f k t606 1).bind fun bt619 => (if bt619.1 < 0 then (laws_FnExactSubjectOf.j0 k l0 true t601 t602 t609 t610) else ((laws_eqCodesResult.f k t609 t610 t601 t602).bind fun t621 => (laws_FnExactSubjectOf.j0 k l0 (!t621) t601 t602 t609 t610)))) else (some false)))) else (some false))) = some true := H
 have A6 := aM A60
 clear A60
 replace H := Option.bind_eq_some_iff.mp H
 obtain ⟨t614, A70, H⟩ := H
 replace H : (if t614 = true then ((laws_toByteS.f k l0).bind fun t615 => ((laws_eqByteS.f k t606 t615).bind fun t618 => (if t618 = true then ((laws_markByteS.f k t606 1).bind fun bt619 => (if bt619.1 < 0 then (laws_FnExactSubjectOf.j0 k l0 true t601 t602 t609 t610) else ((laws_eqCodesResult.f k t609 t610 t601 t602).bind fun t621 => (laws_FnExactSubjectOf.j0 k l0 (!t621) t601 t602 t609 t610)))) else (some false)))) else (some false)) = some true := H
 have A7 := aM A70
 clear A70
 (try simp only [c2b0, c2b1])
 by_cases c8 : t614 = true
 ·subst c8
  have H1 : ((laws_toByteS.f k l0).bind fun t615 => ((laws_eqByteS.f k t606 t615).bind fun t618 => (if t618 = true then ((laws_markByteS.f k t606 1).bind fun bt619 => (if bt619.1 < 0 then (laws_FnExactSubjectOf.j0 k l0 true t601 t602 t609 t610) else ((laws_eqCodesResult.f k t609 t610 t601 t602).bind fun t621 => (laws_FnExactSubjectOf.j0 k l0 (!t621) t601 t602 t609 t610)))) else (some false)))) = some true := z14
  clear H
  have H := H1
  clear H1
  replace H := Option.bind_eq_some_iff.mp H
  obtain ⟨t615, A90, H⟩ := H
  replace H : ((laws_eqByteS.f k t606 t615).bind fun t618 => (if t618 = true then ((laws_markByteS.f k t606 1).bind fun bt619 => (if bt619.1 < 0 then (laws_FnExactSubjectOf.j0 k l0 true t601 t602 t609 t610) else ((laws_eqCodesResult.f k t609 t610 t601 t602).bind fun t621 => (laws_FnExactSubjectOf.j0 k l0 (!t621) t601 t602 t609 t610)))) else (some false))) = some true := H
  have A9 := aM A90
  clear A90
  replace H := Option.bind_eq_some_iff.mp H
  obtain ⟨t618, A100, H⟩ := H
  replace H : (if t618 = true then ((laws_markByteS.f k t606 1).bind fun bt619 => (if bt619.1 < 0 then (laws_FnExactSubjectOf.j0 k l0 true t601 t602 t609 t610) else ((laws_eqCodesResult.f k t609 t610 t601 t602).bind fun t621 => (laws_FnExactSubjectOf.j0 k l0 (!t621) t601 t602 t609 t610)))) else (some false)) = some true := H
  have A10 := aM A100
  clear A100
  by_cases c11 : t618 = true
  ·subst c11
   have H1 : ((laws_markByteS.f k t606 1).bind fun bt619 => (if bt619.1 < 0 then (laws_FnExactSubjectOf.j0 k l0 true t601 t602 t609 t610) else ((laws_eqCodesResult.f k t609 t610 t601 t602).bind fun t621 => (laws_FnExactSubjectOf.j0 k l0 (!t621) t601 t602 t609 t610)))) = some true := z14
   clear H
   have H := H1
   clear H1
   replace H := Option.bind_eq_some_iff.mp H
   obtain ⟨⟨t619, t620⟩, A120, H⟩ := H
   replace H : (if t619 < 0 then (laws_FnExactSubjectOf.j0 k l0 true t601 t602 t609 t610) else ((laws_eqCodesResult.f k t609 t610 t601 t602).bind fun t621 => (laws_FnExactSubjectOf.j0 k l0 (!t621) t601 t602 t609 t610))) = some true := H
   have A12 := aM A120
   clear A120
   have HC13 := aM H
   clear H
   go_upto_region 12 with (first | ((with_reducible refine gate_callee (f := 6) rfl ?_); refine gL_ (some 14) Tryz.func6 #[.slice A0 l0.length c0] ?_; (with_reducible refine (laws_toByteS.calls k _ _ l0 t598 _ ?side1 ?side2 A3.out).mono ?_); (case side1 => exact z28 HR0.out); (case side2 => exact HC0.out); rintro e w14 ⟨v599, rfl, ho0, hb⟩; refine ⟨_, rfl, ?_⟩; have HO600 := aM (Kd.R_lower ho0 (below_size bB)); replace HB := aM (below_step bB hb); (try clear ho0); obtain ⟨Ao15, co15, eo15⟩ := Kd.R_slice HO600.out; subst eo15) | ((with_reducible refine gate_callee (f := 5) rfl ?_); refine gL_ (some 15) Tryz.func5 #[.slice Ao15 t598.length co15] ?_; (with_reducible refine (spec_SubjectOf.calls k _ _ t598 t601 t602 _ ?side1 ?side2 A4.out).mono ?_); (case side1 => exact z2 HO600.out); (case side2 => exact (Kd.R_reads' HO600.out).2.1); rintro e w16 ⟨v603, rfl, ho0, hb⟩; refine ⟨_, rfl, ?_⟩; replace HO600 := aM (Kd.R_below (bR HO600) hb); have HO604 := aM (Kd.R_lower ho0 (below_size bB)); replace HB := aM (below_step bB hb); (try clear ho0)) | ((with_reducible refine gate_dst (N := 3) rfl ?_); refine box_event ?hg (N := 3) ?hd (cs := #[.int .i64 0, .slice none 0 0]) (t := 25) ?hr ?_; (case hd => rfl); (case hg => rfl); (case hr => exact z8); intro gb605 hg w17 hbox hb; replace HO600 := aM (Kd.R_below (bR HO600) hb); replace HO604 := aM (Kd.R_below (bR HO604) hb); have BK605 := aM (hbox); have GW605 := aM ((z11 : w.heap.size ≤ gb605)); have GE605 := aM ((z11 : w.heap.size ≤ gb605)); replace HB := aM (below_step bB hb); clear hb hbox hg; have hcz18_0 : w17.cell? ⟨gb605, 0, none⟩ = some (.int .i64 0) := (blk_cell BK605.out 0).trans rfl; have hcz18_1 : w17.cell? ⟨gb605, 1, none⟩ = some (.slice none 0 0) := (blk_cell BK605.out 1).trans rfl; have hfz18_0 := blk_frozen BK605.out 0; have hfz18_1 := blk_frozen BK605.out 1; obtain ⟨Ao19, co19, eo19⟩ := Kd.R_slice HO604.out; subst eo19) | ((with_reducible refine gate_callee (f := 6) rfl ?_); refine gL_ (some 17) Tryz.func6 #[.slice A0 l0.length c0] ?_; (with_reducible refine (laws_toByteS.calls k _ _ l0 t606 _ ?side1 ?side2 A5.out).mono ?_); (case side1 => exact Kd.C_below HR0.out (bG GE605)); (case side2 => exact HC0.out); rintro e w20 ⟨v607, rfl, ho0, hb⟩; refine ⟨_, rfl, ?_⟩; replace HO604 := aM (Kd.R_below (z30 HO604.out BK605.out) hb); have HO608 := aM (Kd.R_lower (Kd.R_new' ho0 (Kd.R_lt (z30 HO600.out BK605.out))) (below_size (bG GE605))); replace HO600 := aM (Kd.R_elder' (z30 HO600.out BK605.out) (Kd.R_base ho0) hb); replace BK605 := aM (blk_below (g := gb605) (o := .cells #[.int .i64 t601, .slice Ao19 t602.length co19] 25 (0, 0)) (by (with_reducible repeat (first | refine blk_drewN ?_ _ | refine blk_drew ?_ | refine blk_alloc ?_ _)); refine blk_put (cs := #[.int .i64 t601, .slice none 0 0]) ?_ 1 _ rfl; (with_reducible repeat (first | refine blk_drewN ?_ _ | refine blk_drew ?_ | refine blk_alloc ?_ _)); refine blk_put (cs := #[.int .i64 0, .slice none 0 0]) ?_ 0 _ rfl; (with_reducible repeat (first | refine blk_drewN ?_ _ | refine blk_drew ?_ | refine blk_alloc ?_ _)); exact BK605.out) hb); replace HB := aM (below_step (bG GE605) hb); (try clear ho0); obtain ⟨Ao21, co21, eo21⟩ := Kd.R_slice HO608.out; subst eo21) | ((with_reducible refine gate_callee (f := 7) rfl ?_); refine gL_ (some 19) Tryz.func7 #[.slice Ao21 t606.length co21] ?_; (with_reducible refine (impl_SubjectOf.calls k _ _ t606 t609 t610 _ ?sidem ?side1 ?side2 A6.out).mono ?_); (case sidem => exact strings_SplitN.below HM_.out (by repeat (first | (with_reducible first | exact HB.out | apply below_alloc | apply pw_below_drewN | apply below_drew1 | refine below_set ?_ GE605.out | refine below_set ?_ GE613.out | refine below_set ?_ GE632.out) | exact HB.out))); (case side1 => exact z2 HO608.out); (case side2 => exact (Kd.R_reads' HO608.out).2.1); rintro e w22 ⟨v611, rfl, ho0, hb⟩; refine ⟨_, rfl, ?_⟩; replace HO600 := aM (Kd.R_below (bR HO600) hb); replace HO608 := aM (Kd.R_below (bR HO608) hb); have HO612 := aM (Kd.R_lower (Kd.R_new' ho0 (Kd.R_lt (bR HO604))) (below_size (bG GE605))); replace HO604 := aM (Kd.R_elder' (bR HO604) (Kd.R_base ho0) hb); replace BK605 := aM (blk_below (g := gb605) (o := .cells #[.int .i64 t601, .slice Ao19 t602.length co19] 25 (0, 0)) (bL BK605) hb); replace HB := aM (below_step (bG GE605) hb); (try clear ho0)) | ((with_reducible refine gate_dst (N := 5) rfl ?_); refine box_event ?hg (N := 5) ?hd (cs := #[.int .i64 0, .slice none 0 0]) (t := 25) ?hr ?_; (case hd => rfl); (case hg => rfl); (case hr => exact z8); intro gb613 hg w23 hbox hb; replace HO600 := aM (Kd.R_below (bR HO600) hb); replace HO604 := aM (Kd.R_below (bR HO604) hb); replace HO608 := aM (Kd.R_below (bR HO608) hb); replace HO612 := aM (Kd.R_below (bR HO612) hb); have BK613 := aM (hbox); have GW613 := aM ((by rw [hg]; exact (below_size (bG GE605)) : w.heap.size ≤ gb613)); have GE613 := aM ((by rw [hg]; exact (below_size (bG GE605)) : w.heap.size ≤ gb613)); replace HB := aM (below_step (bG GE605) hb); have NB605_613 := aM ((by rw [hg]; exact Nat.ne_of_lt (blk_lt (g := gb605) (o := .cells #[.int .i64 t601, .slice Ao19 t602.length co19] 25 (0, 0)) (bL BK605)) : gb605 ≠ gb613)); have NB613_605 := aM ((by rw [hg]; exact Nat.ne_of_gt (blk_lt (g := gb605) (o := .cells #[.int .i64 t601, .slice Ao19 t602.length co19] 25 (0, 0)) (bL BK605)) : gb613 ≠ gb605)); replace BK605 := aM (blk_below (g := gb605) (o := .cells #[.int .i64 t601, .slice Ao19 t602.length co19] 25 (0, 0)) (bL BK605) hb); clear hb hbox hg; have hnb24 := NB613_605.out; have hnc24 := NB605_613.out; have hcz25_0 : w23.cell? ⟨gb613, 0, none⟩ = some (.int .i64 0) := (blk_cell BK613.out 0).trans rfl; have hcz25_1 : w23.cell? ⟨gb613, 1, none⟩ = some (.slice none 0 0) := (blk_cell BK613.out 1).trans rfl; have hfz25_0 := blk_frozen BK613.out 0; have hfz25_1 := blk_frozen BK613.out 1; obtain ⟨Ao26, co26, eo26⟩ := Kd.R_slice HO612.out; subst eo26; have hcz27_0 : w23.cell? ⟨gb605, 0, none⟩ = some (.int .i64 t601) := (blk_cell BK605.out 0).trans rfl; have hcz27_1 : w23.cell? ⟨gb605, 1, none⟩ = some (.slice Ao19 t602.length co19) := (blk_cell BK605.out 1).trans rfl; have hfz27_0 := blk_frozen BK605.out 0; have hfz27_1 := blk_frozen BK605.out 1) | ((with_reducible refine gate_callee (f := 8) rfl ?_); refine gL_ (some 22) Tryz.func8 #[.agg #[.int .i64 t609, .slice Ao26 t610.length co26], .agg #[.int .i64 t601, .slice Ao19 t602.length co19]] ?_; (with_reducible refine (laws_eqCodesResult.calls k t609 _ _ t610 t601 _ _ t602 true _ ?side1 ?side2 ?side3 ?side4 A7.out).mono ?_); (case side1 => refine (Kd.R_reads' (e := 2) (base := w.heap.size) (ok := fun k_ => (True ∧ some k_ ≠ (.slice Ao19 t602.length co19 : Value).ownBlock)) (n := t610.length) (c := co26) ?_).2.2; exact (z16 HO612.out BK613.out)); (case side2 => exact (Kd.R_reads' HO612.out).2.1); (case side3 => refine (Kd.R_reads' (e := 2) (base := w.heap.size) (ok := fun k_ => (True ∧ some k_ ≠ (.slice Ao26 t610.length co26 : Value).ownBlock)) (n := t602.length) (c := co19) ?_).2.2; exact (z16 HO604.out BK613.out)); (case side4 => exact (Kd.R_reads' HO604.out).2.1); rintro e w28 ⟨rfl, hb⟩; refine ⟨_, rfl, ?_⟩; replace HO600 := aM (Kd.R_below (z16 HO600.out BK613.out) hb); replace HO604 := aM (Kd.R_below (z16 HO604.out BK613.out) hb); replace HO608 := aM (Kd.R_below (z16 HO608.out BK613.out) hb); replace HO612 := aM (Kd.R_below (z16 HO612.out BK613.out) hb); replace BK605 := aM (blk_below (g := gb605) (o := .cells #[.int .i64 t601, .slice Ao19 t602.length co19] 25 (0, 0)) (z12 NB605_613.out BK605.out) hb); replace BK613 := aM (blk_below (g := gb613) (o := .cells #[.int .i64 t609, .slice Ao26 t610.length co26] 25 (0, 0)) (by (with_reducible repeat (first | refine blk_drewN ?_ _ | refine blk_drew ?_ | refine blk_alloc ?_ _)); refine blk_put (cs := #[.int .i64 t609, .slice none 0 0]) ?_ 1 _ rfl; (with_reducible repeat (first | refine blk_drewN ?_ _ | refine blk_drew ?_ | refine blk_alloc ?_ _)); refine blk_put (cs := #[.int .i64 0, .slice none 0 0]) ?_ 0 _ rfl; (with_reducible repeat (first | refine blk_drewN ?_ _ | refine blk_drew ?_ | refine blk_alloc ?_ _)); exact BK613.out) hb); replace HB := aM (below_step (bG2 GE605 GE613) hb); (try clear hi)) | ((with_reducible refine gate_callee (f := 6) rfl ?_); refine gL_ (some 26) Tryz.func6 #[.slice A0 l0.length c0] ?_; (with_reducible refine (laws_toByteS.calls k _ _ l0 t615 _ ?side1 ?side2 A9.out).mono ?_); (case side1 => exact z4 HR0.out); (case side2 => exact HC0.out); rintro e w29 ⟨v616, rfl, ho0, hb⟩; refine ⟨_, rfl, ?_⟩; replace HO604 := aM (Kd.R_below (bR HO604) hb); replace HO612 := aM (Kd.R_below (bR HO612) hb); have HO617 := aM (Kd.R_lower (Kd.R_new' (Kd.R_new' ho0 (Kd.R_lt (bR HO600))) (Kd.R_lt (bR HO608))) (below_size (bG2 GE605 GE613))); replace HO600 := aM (Kd.R_elder' (bR HO600) (Kd.R_base ho0) hb); replace HO608 := aM (Kd.R_elder' (bR HO608) (Kd.R_base ho0) hb); replace BK605 := aM (blk_below (g := gb605) (o := .cells #[.int .i64 t601, .slice Ao19 t602.length co19] 25 (0, 0)) (bL BK605) hb); replace BK613 := aM (blk_below (g := gb613) (o := .cells #[.int .i64 t609, .slice Ao26 t610.length co26] 25 (0, 0)) (bL BK613) hb); replace HB := aM (below_step (bG2 GE605 GE613) hb); (try clear ho0); obtain ⟨Ao30, co30, eo30⟩ := Kd.R_slice HO617.out; subst eo30) | ((with_reducible refine gate_callee (f := 9) rfl ?_); refine gL_ (some 27) Tryz.func9 #[.slice Ao21 t606.length co21, .slice Ao30 t615.length co30] ?_; (with_reducible refine (laws_eqByteS.calls k _ _ t606 _ _ t615 true _ ?side1 ?side2 ?side3 ?side4 A10.out).mono ?_); (case side1 => exact z2 HO608.out); (case side2 => exact (Kd.R_reads' HO608.out).2.1); (case side3 => exact z2 HO617.out); (case side4 => exact (Kd.R_reads' HO617.out).2.1); rintro e w' ⟨rfl, ⟨nd, rfl⟩⟩; refine ⟨_, rfl, ?_⟩) | ((with_reducible refine gate_callee (f := 10) rfl ?_); refine gL_ (some 31) Tryz.func10 #[.slice Ao21 t606.length co21, .int .i64 1] ?_; (with_reducible refine (laws_markByteS.calls k (fun k_ => some k_ = (.slice Ao21 t606.length co21 : Value).ownBlock) (.slice Ao21 t606.length co21) t606 1 t619 t620 w _ ?side1 ?side2 A12.out).mono ?_); (case side1 => repeat (first | (with_reducible first | exact HB.out | apply below_alloc | apply pw_below_drewN | apply below_drew1 | refine below_set ?_ GE605.out | refine below_set ?_ GE613.out) | exact HB.out)); (case side2 => exact Kd.R_tight rfl HO608.out); rintro e w31 ⟨rfl, hy0, hb, hkp⟩; refine ⟨_, rfl, ?_⟩; replace HO600 := aM (Kd.R_mono (ok' := fun k_ => some k_ ≠ (.slice Ao21 t606.length co21 : Value).ownBlock ∧ some k_ ≠ (.slice Ao30 t615.length co30 : Value).ownBlock) (Kd.R_keptB (HO600.out) hkp (fun k_ hk_ hs_ => (hk_.1.2) hs_)) (fun k_ hk_ => ⟨hk_.1.1.2, hk_.1.2⟩)); replace HO604 := aM (Kd.R_mono (ok' := fun k_ => some k_ ≠ (.slice Ao26 t610.length co26 : Value).ownBlock) (Kd.R_keptB ((Kd.R_apart' HO604.out (Kd.R_typed HO608.out) (by decide))) hkp (fun k_ hk_ hs_ => (hk_.2) hs_)) (fun k_ hk_ => hk_.1.1.2)); replace BK605 := aM (blk_kept (bL BK605) hkp (fun hs_ => (fun e_ => (Kd.R_ne HO608.out BK605.out (by decide)) e_) hs_)); replace HO612 := aM (Kd.R_mono (ok' := fun k_ => some k_ ≠ (.slice Ao19 t602.length co19 : Value).ownBlock) (Kd.R_keptB ((Kd.R_apart' HO612.out (Kd.R_typed HO608.out) (by decide))) hkp (fun k_ hk_ hs_ => (hk_.2) hs_)) (fun k_ hk_ => hk_.1.1.2)); replace BK613 := aM (blk_kept (bL BK613) hkp (fun hs_ => (fun e_ => (Kd.R_ne HO608.out BK613.out (by decide)) e_) hs_)); replace HO608 := aM (Kd.R_reok rfl hy0 (fun k_ e_ => HO608.out.1 k_ e_)); replace HO617 := aM (Kd.R_mono (ok' := fun k_ => some k_ ≠ (.slice Ao15 t598.length co15 : Value).ownBlock ∧ some k_ ≠ (.slice Ao21 t606.length co21 : Value).ownBlock) (Kd.R_keptB (HO617.out) hkp (fun k_ hk_ hs_ => (hk_.2) hs_)) (fun k_ hk_ => ⟨hk_.1.1.2, hk_.1.2⟩)); replace HB := aM (hb); (try clear hkp); (try clear hy0)))
   (try simp only [Act.put, List.setIfInBounds_toArray, List.set_cons_zero, List.set_cons_succ])
   go_cut [39] (fun v39 wc => ∃ (kq : Nat) (x39_12 : Bool), v39 = .bool x39_12 ∧ Aside0 (laws_FnExactSubjectOf.j0 kq l0 x39_12 t601 t602 t609 t610 = some true) ∧ Aside0 (kq ≤ k) ∧ Aside0 (Kd.R (Kd.int .i64) 2 wc w.heap.size (fun k_ => some k_ ≠ ((.slice Ao26 t610.length co26) : Value).ownBlock) (.slice Ao19 t602.length co19) t602) ∧ Aside0 (Kd.R (Kd.int .i64) 2 wc w.heap.size (fun k_ => some k_ ≠ ((.slice Ao19 t602.length co19) : Value).ownBlock) (.slice Ao26 t610.length co26) t610) ∧ Aside0 (wc.heap[gb605]? = some (.cells #[.int .i64 t601, (.slice Ao19 t602.length co19)] 25 (0, 0))) ∧ Aside0 (wc.heap[gb613]? = some (.cells #[.int .i64 t609, (.slice Ao26 t610.length co26)] 25 (0, 0))) ∧ Aside0 (Below w.heap.size w wc))
   case first =>
    have H := HC13.out
    clear HC13
    by_cases c32 : t619 < 0
    ·rw [if_pos c32] at H
     have c32b0 : decide (t619 < 0) = true := decide_eq_true c32
     clear c32
     (first | rw [c32b0] | (simp only [i64_w, i32_w]; rw [c32b0]) | skip)
     have H' := aM H
     clear H
     go_wp2
     go_meet
     case rel => exact ⟨_, (true), bS, H', ⟨z29⟩, ⟨bR HO604⟩, ⟨bR HO612⟩, ⟨bL BK605⟩, ⟨bL BK613⟩, ⟨bG2 GE605 GE613⟩⟩
    rw [if_neg c32] at H
    have c32b0 : decide (t619 < 0) = false := decide_eq_false c32
    clear c32
    (first | rw [c32b0] | (simp only [i64_w, i32_w]; rw [c32b0]) | skip)
    replace H := Option.bind_eq_some_iff.mp H
    obtain ⟨t621, A330, H⟩ := H
    replace H : (laws_FnExactSubjectOf.j0 k l0 (!t621) t601 t602 t609 t610) = some true := H
    have A33 := aM A330
    clear A330
    have H' := aM H
    clear H
    have hnb34 := NB613_605.out
    have hnc34 := NB605_613.out
    have hcz35_0 : w31.cell? ⟨gb613, 0, none⟩ = some (.int .i64 t609) := (blk_cell BK613.out 0).trans rfl
    have hcz35_1 : w31.cell? ⟨gb613, 1, none⟩ = some (.slice Ao26 t610.length co26) := (blk_cell BK613.out 1).trans rfl
    have hfz35_0 := blk_frozen BK613.out 0
    have hfz35_1 := blk_frozen BK613.out 1
    have hcz36_0 : w31.cell? ⟨gb605, 0, none⟩ = some (.int .i64 t601) := (blk_cell BK605.out 0).trans rfl
    have hcz36_1 : w31.cell? ⟨gb605, 1, none⟩ = some (.slice Ao19 t602.length co19) := (blk_cell BK605.out 1).trans rfl
    have hfz36_0 := blk_frozen BK605.out 0
    have hfz36_1 := blk_frozen BK605.out 1
    go_wp2_with (first | (go_at_call 8; (with_reducible refine (laws_eqCodesResult.calls k t609 _ _ t610 t601 _ _ t602 t621 _ ?side1 ?side2 ?side3 ?side4 A33.out).mono ?_); (case side1 => exact z2 HO612.out); (case side2 => exact (Kd.R_reads' HO612.out).2.1); (case side3 => exact z2 HO604.out); (case side4 => exact (Kd.R_reads' HO604.out).2.1); rintro e w37 ⟨rfl, hb⟩; replace HO600 := aM (Kd.R_below (bR HO600) hb); replace HO604 := aM (Kd.R_below (bR HO604) hb); replace HO608 := aM (Kd.R_below (bR HO608) hb); replace HO612 := aM (Kd.R_below (bR HO612) hb); replace HO617 := aM (Kd.R_below (bR HO617) hb); replace BK605 := aM (blk_below (g := gb605) (o := .cells #[.int .i64 t601, .slice Ao19 t602.length co19] 25 (0, 0)) (bL BK605) hb); replace BK613 := aM (blk_below (g := gb613) (o := .cells #[.int .i64 t609, .slice Ao26 t610.length co26] 25 (0, 0)) (bL BK613) hb); replace HB := aM (below_step (bG2 GE605 GE613) hb); (try clear hi)))
    go_meet
    case rel => exact ⟨_, (!t621), bS, H', ⟨z29⟩, ⟨bR HO604⟩, ⟨bR HO612⟩, ⟨bL BK605⟩, ⟨bL BK613⟩, ⟨bG2 GE605 GE613⟩⟩
   case rest =>
    clear HC13
    try clear c1
    try clear c2
    try clear c2b0
    try clear c2b1
    try clear p2
    try clear c3
    try clear c5
    try clear c6
    try clear c7
    try clear c8
    try clear c9
    try clear c10
    try clear c11
    try clear c24
    try clear c32
    try clear c32b0
    try clear c34
    try clear hcz18_0
    try clear hcz18_1
    try clear hcz25_0
    try clear hcz25_1
    try clear hcz27_0
    try clear hcz27_1
    try clear hcz35_0
    try clear hcz35_1
    try clear hcz36_0
    try clear hcz36_1
    try clear hfz18_0
    try clear hfz18_1
    try clear hfz25_0
    try clear hfz25_1
    try clear hfz27_0
    try clear hfz27_1
    try clear hfz35_0
    try clear hfz35_1
    try clear hfz36_0
    try clear hfz36_1
    obtain ⟨kq, x39_12, rfl, HA, HJ12, HO_606001, HO_614001, BK605, BK613, HB⟩ := hcut
    cases kq with
    | zero => exact absurd HA.out (by simp [laws_FnExactSubjectOf.j0])
    | succ kj12 =>
     have H := HA.out
     clear HA
     simp only [laws_FnExactSubjectOf.j0] at H
     by_cases c38 : x39_12 = true
     ·subst c38
      have H1 : (some false) = some true := z14
      exact absurd H1 (by simp)
     replace c38 := Bool.eq_false_iff.mpr c38
     subst c38
     have H1 : ((laws_markCodesResult.f kj12 t609 t610 1).bind fun bt622 => ((laws_heldCodesResult.f kj12 t609 bt622.2 1).bind fun t624 => (if t624 < 0 then (some false) else (if t624 = bt622.1 then ((laws_toByteS.f kj12 l0).bind fun t625 => ((impl_SubjectOf.f kj12 t625).bind fun bt628 => ((laws_eqCodesResult.f kj12 bt628.1 bt628.2 t601 t602).bind fun t633 => (if t633 = true then ((laws_heldCodesResult.f kj12 t609 bt622.2 1).bind fun t634 => (if t634 < 0 then (some false) else (if t634 = bt622.1 then (some true) else (some false)))) else (some false))))) else (some false))))) = some true := z5
     clear H
     have H := H1
     clear H1
     replace H := Option.bind_eq_some_iff.mp H
     obtain ⟨⟨t622, t623⟩, A390, H⟩ := H
     replace H : ((laws_heldCodesResult.f kj12 t609 t623 1).bind fun t624 => (if t624 < 0 then (some false) else (if t624 = t622 then ((laws_toByteS.f kj12 l0).bind fun t625 => ((impl_SubjectOf.f kj12 t625).bind fun bt628 => ((laws_eqCodesResult.f kj12 bt628.1 bt628.2 t601 t602).bind fun t633 => (if t633 = true then ((laws_heldCodesResult.f kj12 t609 t623 1).bind fun t634 => (if t634 < 0 then (some false) else (if t634 = t622 then (some true) else (some false)))) else (some false))))) else (some false)))) = some true := H
     have A39 := aM A390
     clear A390
     replace H := Option.bind_eq_some_iff.mp H
     obtain ⟨t624, A400, H⟩ := H
     replace H : (if t624 < 0 then (some false) else (if t624 = t622 then ((laws_toByteS.f kj12 l0).bind fun t625 => ((impl_SubjectOf.f kj12 t625).bind fun bt628 => ((laws_eqCodesResult.f kj12 bt628.1 bt628.2 t601 t602).bind fun t633 => (if t633 = true then ((laws_heldCodesResult.f kj12 t609 t623 1).bind fun t634 => (if t634 < 0 then (some false) else (if t634 = t622 then (some true) else (some false)))) else (some false))))) else (some false))) = some true := H
     have A40 := aM A400
     clear A400
     have HQ_ := aM H
     clear H
     have hnb42 := NB613_605.out
     have hnc42 := NB605_613.out
     have hcz43_0 : wc.cell? ⟨gb613, 0, none⟩ = some (.int .i64 t609) := (blk_cell BK613.out 0).trans rfl
     have hcz43_1 : wc.cell? ⟨gb613, 1, none⟩ = some (.slice Ao26 t610.length co26) := (blk_cell BK613.out 1).trans rfl
     have hfz43_0 := blk_frozen BK613.out 0
     have hfz43_1 := blk_frozen BK613.out 1
     have H := HQ_.out
     clear HQ_
     by_cases c41 : t624 < 0
     ·rw [if_pos c41] at H
      exact absurd H (by simp)
     rw [if_neg c41] at H
     have c41b0 : decide (t624 < 0) = false := decide_eq_false c41
     clear c41
     (try simp only [c41b0])
     by_cases c47 : t624 = t622
     ·rw [if_pos c47] at H
      have c47b0 : (t624 == t622) = true := beq_iff_eq.mpr c47
      have c47b1 : (t624 != t622) = false := bne_eq_false_iff_eq.mpr c47
      clear c47
      replace H := Option.bind_eq_some_iff.mp H
      obtain ⟨t625, A480, H⟩ := H
      replace H : ((impl_SubjectOf.f kj12 t625).bind fun bt628 => ((laws_eqCodesResult.f kj12 bt628.1 bt628.2 t601 t602).bind fun t633 => (if t633 = true then ((laws_heldCodesResult.f kj12 t609 t623 1).bind fun t634 => (if t634 < 0 then (some false) else (if t634 = t622 then (some true) else (some false)))) else (some false)))) = some true := H
      have A48 := aM A480
      clear A480
      replace H := Option.bind_eq_some_iff.mp H
      obtain ⟨⟨t628, t629⟩, A490, H⟩ := H
      replace H : ((laws_eqCodesResult.f kj12 t628 t629 t601 t602).bind fun t633 => (if t633 = true then ((laws_heldCodesResult.f kj12 t609 t623 1).bind fun t634 => (if t634 < 0 then (some false) else (if t634 = t622 then (some true) else (some false)))) else (some false))) = some true := H
      have A49 := aM A490
      clear A490
      replace H := Option.bind_eq_some_iff.mp H
      obtain ⟨t633, A500, H⟩ := H
      replace H : (if t633 = true then ((laws_heldCodesResult.f kj12 t609 t623 1).bind fun t634 => (if t634 < 0 then (some false) else (if t634 = t622 then (some true) else (some false)))) else (some false)) = some true := H
      have A50 := aM A500
      clear A500
      (try simp only [c47b0, c47b1])
      by_cases c51 : t633 = true
      ·subst c51
       have H1 : ((laws_heldCodesResult.f kj12 t609 t623 1).bind fun t634 => (if t634 < 0 then (some false) else (if t634 = t622 then (some true) else (some false)))) = some true := z14
       clear H
       have H := H1
       clear H1
       replace H := Option.bind_eq_some_iff.mp H
       obtain ⟨t634, A520, H⟩ := H
       replace H : (if t634 < 0 then (some false) else (if t634 = t622 then (some true) else (some false))) = some true := H
       have A52 := aM A520
       clear A520
       by_cases c53 : t634 < 0
       ·rw [if_pos c53] at H
        exact absurd H (by simp)
       rw [if_neg c53] at H
       have c53b0 : decide (t634 < 0) = false := decide_eq_false c53
       clear c53
       (try simp only [c53b0])
       by_cases c71 : t634 = t622
       ·rw [if_pos c71] at H
        have c71b0 : (t634 == t622) = true := beq_iff_eq.mpr c71
        have c71b1 : (t634 != t622) = false := bne_eq_false_iff_eq.mpr c71
        clear c71
        have HT_ := Option.some.inj H
        (try simp only [c71b0, c71b1])
        go_wp2_with (first | ((with_reducible refine gate_callee (f := 11) rfl ?_); refine gL_ (some 42) Tryz.func11 #[.agg #[.int .i64 t609, .slice Ao26 t610.length co26], .int .i64 1] ?_; (with_reducible refine (laws_markCodesResult.calls kj12 t609 (fun k_ => some k_ = (.slice Ao26 t610.length co26 : Value).ownBlock) (.slice Ao26 t610.length co26) t610 1 t622 t623 w _ ?side1 ?side2 A39.out).mono ?_); (case side1 => repeat (first | (with_reducible first | exact HB.out | apply below_alloc | apply pw_below_drewN | apply below_drew1 | refine below_set ?_ GE605.out | refine below_set ?_ GE613.out) | exact HB.out)); (case side2 => exact Kd.R_tight rfl HO_614001.out); rintro e w74 ⟨rfl, hy0, hb, hkp⟩; refine ⟨_, rfl, ?_⟩; replace HO_606001 := aM (Kd.R_mono (ok' := fun k_ => some k_ ≠ (.slice Ao26 t610.length co26 : Value).ownBlock) (Kd.R_keptB (HO_606001.out) hkp (fun k_ hk_ hs_ => (hk_) hs_)) (fun k_ hk_ => hk_.1)); replace BK605 := aM (blk_kept (bL BK605) hkp (fun hs_ => (fun e_ => (Kd.R_ne HO_614001.out BK605.out (by decide)) e_) hs_)); replace BK613 := aM (blk_kept (bL BK613) hkp (fun hs_ => (fun e_ => (Kd.R_ne HO_614001.out BK613.out (by decide)) e_) hs_)); replace HO_614001 := aM (Kd.R_reok rfl hy0 (fun k_ e_ => HO_614001.out.1 k_ e_)); replace HB := aM (hb); (try clear hkp); (try clear hy0); have hcz75_0 : w74.cell? ⟨gb613, 0, none⟩ = some (.int .i64 t609) := (blk_cell BK613.out 0).trans rfl; have hcz75_1 : w74.cell? ⟨gb613, 1, none⟩ = some (.slice Ao26 t610.length co26) := (blk_cell BK613.out 1).trans rfl; have hfz75_0 := blk_frozen BK613.out 0; have hfz75_1 := blk_frozen BK613.out 1) | ((with_reducible refine gate_callee (f := 12) rfl ?_); refine goesL_ (some 45) rfl rfl Tryz.func12 (by kernel_rfl) rfl #[.agg #[.int .i64 t609, .slice Ao26 t623.length co26], .int .i64 1] rfl (by (try simp only [List.map_toArray, List.map_cons, List.map_nil]); first | done | (rw [show t623.length = t610.length from (Kd.R_reads' HO_614001.out).1.symm] <;> rfl) | rfl | (simp only [List.length_drop, List.length_take]; rfl)) ?_; (with_reducible refine (laws_heldCodesResult.calls kj12 t609 _ _ t623 1 t624 _ ?side1 ?side2 A40.out).mono ?_); (case side1 => exact z2 HO_614001.out); (case side2 => rw [show t623.length = t610.length from (Kd.R_reads' HO_614001.out).1.symm]; exact (Kd.R_reads' HO_614001.out).2.1); rintro e w76 ⟨rfl, hb⟩; refine ⟨_, rfl, ?_⟩; replace HO_606001 := aM (Kd.R_below (bR HO_606001) hb); replace HO_614001 := aM (Kd.R_below (bR HO_614001) hb); replace BK605 := aM (blk_below (g := gb605) (o := .cells #[.int .i64 t601, .slice Ao19 t602.length co19] 25 (0, 0)) (bL BK605) hb); replace BK613 := aM (blk_below (g := gb613) (o := .cells #[.int .i64 t609, .slice Ao26 t610.length co26] 25 (0, 0)) (bL BK613) hb); replace HB := aM (below_step (bG2 GE605 GE613) hb); (try clear hi)) | ((with_reducible refine gate_callee (f := 6) rfl ?_); refine gL_ (some 52) Tryz.func6 #[.slice A0 l0.length c0] ?_; (with_reducible refine (laws_toByteS.calls kj12 _ _ l0 t625 _ ?side1 ?side2 A48.out).mono ?_); (case side1 => exact z4 HR0.out); (case side2 => exact HC0.out); rintro e w77 ⟨v626, rfl, ho0, hb⟩; refine ⟨_, rfl, ?_⟩; replace HO_606001 := aM (Kd.R_below (bR HO_606001) hb); replace HO_614001 := aM (Kd.R_below (bR HO_614001) hb); have HO627 := aM (Kd.R_lower ho0 (below_size (bG2 GE605 GE613))); replace BK605 := aM (blk_below (g := gb605) (o := .cells #[.int .i64 t601, .slice Ao19 t602.length co19] 25 (0, 0)) (bL BK605) hb); replace BK613 := aM (blk_below (g := gb613) (o := .cells #[.int .i64 t609, .slice Ao26 t610.length co26] 25 (0, 0)) (bL BK613) hb); replace HB := aM (below_step (bG2 GE605 GE613) hb); (try clear ho0); obtain ⟨Ao78, co78, eo78⟩ := Kd.R_slice HO627.out; subst eo78) | ((with_reducible refine gate_callee (f := 7) rfl ?_); refine gL_ (some 53) Tryz.func7 #[.slice Ao78 t625.length co78] ?_; (with_reducible refine (impl_SubjectOf.calls kj12 _ _ t625 t628 t629 _ ?sidem ?side1 ?side2 A49.out).mono ?_); (case sidem => exact strings_SplitN.below HM_.out (by repeat (first | (with_reducible first | exact HB.out | apply below_alloc | apply pw_below_drewN | apply below_drew1 | refine below_set ?_ GE605.out | refine below_set ?_ GE613.out | refine below_set ?_ GE632.out) | exact HB.out))); (case side1 => exact z2 HO627.out); (case side2 => exact (Kd.R_reads' HO627.out).2.1); rintro e w79 ⟨v630, rfl, ho0, hb⟩; refine ⟨_, rfl, ?_⟩; replace HO627 := aM (Kd.R_below (bR HO627) hb); have HO631 := aM (Kd.R_lower (Kd.R_new' (Kd.R_new' ho0 (Kd.R_lt (bR HO_606001))) (Kd.R_lt (bR HO_614001))) (below_size (bG2 GE605 GE613))); replace HO_606001 := aM (Kd.R_elder' (bR HO_606001) (Kd.R_base ho0) hb); replace HO_614001 := aM (Kd.R_elder' (bR HO_614001) (Kd.R_base ho0) hb); replace BK605 := aM (blk_below (g := gb605) (o := .cells #[.int .i64 t601, .slice Ao19 t602.length co19] 25 (0, 0)) (bL BK605) hb); replace BK613 := aM (blk_below (g := gb613) (o := .cells #[.int .i64 t609, .slice Ao26 t610.length co26] 25 (0, 0)) (bL BK613) hb); replace HB := aM (below_step (bG2 GE605 GE613) hb); (try clear ho0)) | ((with_reducible refine gate_dst (N := 9) rfl ?_); refine box_event ?hg (N := 9) ?hd (cs := #[.int .i64 0, .slice none 0 0]) (t := 25) ?hr ?_; (case hd => rfl); (case hg => rfl); (case hr => exact z8); intro gb632 hg w80 hbox hb; replace HO_606001 := aM (Kd.R_below (bR HO_606001) hb); replace HO_614001 := aM (Kd.R_below (bR HO_614001) hb); replace HO627 := aM (Kd.R_below (bR HO627) hb); replace HO631 := aM (Kd.R_below (bR HO631) hb); have BK632 := aM (hbox); have GW632 := aM ((by rw [hg]; exact (below_size (bG2 GE605 GE613)) : w.heap.size ≤ gb632)); have GE632 := aM ((by rw [hg]; exact (below_size (bG2 GE605 GE613)) : w.heap.size ≤ gb632)); replace HB := aM (below_step (bG2 GE605 GE613) hb); have NB605_632 := aM ((by rw [hg]; exact Nat.ne_of_lt (blk_lt (g := gb605) (o := .cells #[.int .i64 t601, .slice Ao19 t602.length co19] 25 (0, 0)) (bL BK605)) : gb605 ≠ gb632)); have NB632_605 := aM ((by rw [hg]; exact Nat.ne_of_gt (blk_lt (g := gb605) (o := .cells #[.int .i64 t601, .slice Ao19 t602.length co19] 25 (0, 0)) (bL BK605)) : gb632 ≠ gb605)); replace BK605 := aM (blk_below (g := gb605) (o := .cells #[.int .i64 t601, .slice Ao19 t602.length co19] 25 (0, 0)) (bL BK605) hb); have NB613_632 := aM ((by rw [hg]; exact Nat.ne_of_lt (blk_lt (g := gb613) (o := .cells #[.int .i64 t609, .slice Ao26 t610.length co26] 25 (0, 0)) (bL BK613)) : gb613 ≠ gb632)); have NB632_613 := aM ((by rw [hg]; exact Nat.ne_of_gt (blk_lt (g := gb613) (o := .cells #[.int .i64 t609, .slice Ao26 t610.length co26] 25 (0, 0)) (bL BK613)) : gb632 ≠ gb613)); replace BK613 := aM (blk_below (g := gb613) (o := .cells #[.int .i64 t609, .slice Ao26 t610.length co26] 25 (0, 0)) (bL BK613) hb); clear hb hbox hg; have hnb81 := NB632_605.out; have hnc81 := NB605_632.out; have hnb82 := NB632_613.out; have hnc82 := NB613_632.out; have hcz83_0 : w80.cell? ⟨gb632, 0, none⟩ = some (.int .i64 0) := (blk_cell BK632.out 0).trans rfl; have hcz83_1 : w80.cell? ⟨gb632, 1, none⟩ = some (.slice none 0 0) := (blk_cell BK632.out 1).trans rfl; have hfz83_0 := blk_frozen BK632.out 0; have hfz83_1 := blk_frozen BK632.out 1; obtain ⟨Ao84, co84, eo84⟩ := Kd.R_slice HO631.out; subst eo84; have hcz85_0 : w80.cell? ⟨gb605, 0, none⟩ = some (.int .i64 t601) := (blk_cell BK605.out 0).trans rfl; have hcz85_1 : w80.cell? ⟨gb605, 1, none⟩ = some (.slice Ao19 t602.length co19) := (blk_cell BK605.out 1).trans rfl; have hfz85_0 := blk_frozen BK605.out 0; have hfz85_1 := blk_frozen BK605.out 1) | ((with_reducible refine gate_callee (f := 8) rfl ?_); refine gL_ (some 56) Tryz.func8 #[.agg #[.int .i64 t628, .slice Ao84 t629.length co84], .agg #[.int .i64 t601, .slice Ao19 t602.length co19]] ?_; (with_reducible refine (laws_eqCodesResult.calls kj12 t628 _ _ t629 t601 _ _ t602 true _ ?side1 ?side2 ?side3 ?side4 A50.out).mono ?_); (case side1 => refine (Kd.R_reads' (e := 2) (base := w.heap.size) (ok := fun k_ => ((True ∧ some k_ ≠ (.slice Ao19 t602.length co19 : Value).ownBlock) ∧ some k_ ≠ (.slice Ao26 t610.length co26 : Value).ownBlock)) (n := t629.length) (c := co84) ?_).2.2; exact (z15 HO631.out BK632.out)); (case side2 => exact (Kd.R_reads' HO631.out).2.1); (case side3 => refine (Kd.R_reads' (e := 2) (base := w.heap.size) (ok := fun k_ => (some k_ ≠ (.slice Ao26 t610.length co26 : Value).ownBlock ∧ some k_ ≠ (.slice Ao84 t629.length co84 : Value).ownBlock)) (n := t602.length) (c := co19) ?_).2.2; exact (z15 HO_606001.out BK632.out)); (case side4 => exact (Kd.R_reads' HO_606001.out).2.1); rintro e w86 ⟨rfl, hb⟩; refine ⟨_, rfl, ?_⟩; replace HO_606001 := aM (Kd.R_below (z15 HO_606001.out BK632.out) hb); replace HO_614001 := aM (Kd.R_below (z15 HO_614001.out BK632.out) hb); replace HO627 := aM (Kd.R_below (z15 HO627.out BK632.out) hb); replace HO631 := aM (Kd.R_below (z15 HO631.out BK632.out) hb); replace BK605 := aM (blk_below (g := gb605) (o := .cells #[.int .i64 t601, .slice Ao19 t602.length co19] 25 (0, 0)) (z12 NB605_632.out BK605.out) hb); replace BK613 := aM (blk_below (g := gb613) (o := .cells #[.int .i64 t609, .slice Ao26 t610.length co26] 25 (0, 0)) (z12 NB613_632.out BK613.out) hb); replace BK632 := aM (blk_below (g := gb632) (o := .cells #[.int .i64 t628, .slice Ao84 t629.length co84] 25 (0, 0)) (by (with_reducible repeat (first | refine blk_drewN ?_ _ | refine blk_drew ?_ | refine blk_alloc ?_ _)); refine blk_put (cs := #[.int .i64 t628, .slice none 0 0]) ?_ 1 _ rfl; (with_reducible repeat (first | refine blk_drewN ?_ _ | refine blk_drew ?_ | refine blk_alloc ?_ _)); refine blk_put (cs := #[.int .i64 0, .slice none 0 0]) ?_ 0 _ rfl; (with_reducible repeat (first | refine blk_drewN ?_ _ | refine blk_drew ?_ | refine blk_alloc ?_ _)); exact BK632.out) hb); replace HB := aM (below_step (z26 GE605.out GE613.out GE632.out) hb); have hcz87_0 : w86.cell? ⟨gb613, 0, none⟩ = some (.int .i64 t609) := (blk_cell BK613.out 0).trans rfl; have hcz87_1 : w86.cell? ⟨gb613, 1, none⟩ = some (.slice Ao26 t610.length co26) := (blk_cell BK613.out 1).trans rfl; have hfz87_0 := blk_frozen BK613.out 0; have hfz87_1 := blk_frozen BK613.out 1) | ((with_reducible refine gate_callee (f := 12) rfl ?_); refine goesL_ (some 60) rfl rfl Tryz.func12 (by kernel_rfl) rfl #[.agg #[.int .i64 t609, .slice Ao26 t623.length co26], .int .i64 1] rfl (by (try simp only [List.map_toArray, List.map_cons, List.map_nil]); first | done | (rw [show t623.length = t610.length from (Kd.R_reads' HO_614001.out).1.symm] <;> rfl) | rfl | (simp only [List.length_drop, List.length_take]; rfl)) ?_; (with_reducible refine (laws_heldCodesResult.calls kj12 t609 _ _ t623 1 t634 _ ?side1 ?side2 A52.out).mono ?_); (case side1 => exact z2 HO_614001.out); (case side2 => rw [show t623.length = t610.length from (Kd.R_reads' HO_614001.out).1.symm]; exact (Kd.R_reads' HO_614001.out).2.1); rintro e w88 ⟨rfl, hb⟩; refine ⟨_, rfl, ?_⟩; replace HO_606001 := aM (Kd.R_below (bR HO_606001) hb); replace HO_614001 := aM (Kd.R_below (bR HO_614001) hb); replace HO627 := aM (Kd.R_below (bR HO627) hb); replace HO631 := aM (Kd.R_below (bR HO631) hb); replace BK605 := aM (blk_below (g := gb605) (o := .cells #[.int .i64 t601, .slice Ao19 t602.length co19] 25 (0, 0)) (bL BK605) hb); replace BK613 := aM (blk_below (g := gb613) (o := .cells #[.int .i64 t609, .slice Ao26 t610.length co26] 25 (0, 0)) (bL BK613) hb); replace BK632 := aM (blk_below (g := gb632) (o := .cells #[.int .i64 t628, .slice Ao84 t629.length co84] 25 (0, 0)) (bL BK632) hb); replace HB := aM (below_step (z26 GE605.out GE613.out GE632.out) hb); (try clear hi)))
        go_ret
        exact ⟨bE, z26 GE605.out GE613.out GE632.out⟩
       rw [if_neg c71] at H
       exact absurd H (by simp)
      replace c51 := Bool.eq_false_iff.mpr c51
      subst c51
      have H1 : (some false) = some true := z5
      exact absurd H1 (by simp)
     rw [if_neg c47] at H
     exact absurd H (by simp)
  replace c11 := Bool.eq_false_iff.mpr c11
  subst c11
  have H1 : (some false) = some true := z5
  exact absurd H1 (by simp)
 replace c8 := Bool.eq_false_iff.mpr c8
 subst c8
 have H1 : (some false) = some true := z5
 exact absurd H1 (by simp)
def laws_FnExactSubjectOf.Pure : Prop := ∀ (l0 : List Int), l0.length ≤ maxLen → l0.length * 1 ≤ 140737488351232 → (∀ x ∈ l0, (Lit.int .u8 x).wf = true) → ∃ k, laws_FnExactSubjectOf.f k l0 = some true
theorem laws_FnExactSubjectOf.walk (P : laws_FnExactSubjectOf.Pure) (a0 : Option Addr) (len0 cap0 : Nat) (z0 : List Int) (w : World) (hm_ : ∃ m, w.cell? ⟨0, 0, none⟩ = some (.int .i64 m)) (w0 : (a0 = none ∧ len0 = 0 ∧ cap0 = 0 ∧ z0 = []) ∨ ∃ x, a0 = some x ∧ len0 ≤ cap0 ∧ cap0 ≤ maxLen ∧ z0.length = cap0 ∧ (∀ i, i < z0.length → w.cell? (x.add i) = some (.int .u8 (z0.getD i 0))) ∧ ∀ n ∈ z0, (Lit.int .u8 n).wf = true) (y0 : len0 * 1 ≤ 140737488351232) :
  Calls Tryz.prog 3 #[.slice a0 len0 cap0] w fun e w' => e = .returned (.bool true) ∧ Below w.heap.size w w' := by
 obtain ⟨l0, rfl, hr0, hm0, hw0, hc0⟩ := ReadsInt.ofRowC w0
 obtain ⟨k, h⟩ := P l0 hm0 y0 hw0
 refine (laws_FnExactSubjectOf.calls k _ _ l0 w hm_ (Kd.C_of_reads (d := (0 : Int)) (h1 := fun _ => rfl) hr0) hc0 h).mono ?_
 rintro e w' ⟨rfl, hd⟩
 exact ⟨rfl, hd⟩
end Go.Proofs.YtjopgmjmjnfcjaaGreatDoor.PSubjectOf
