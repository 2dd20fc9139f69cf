/- Part of the proof; words that it uses. -/
import Derived.Test.YtjopgmjmjnfcjaaGreatDoorPSubjectOfx0
import Derived.Test.YtjopgmjmjnfcjaaGreatDoorPSubjectOfx6
import Derived.Test.YtjopgmjmjnfcjaaGreatDoorPSubjectOfx7
import Derived.Test.YtjopgmjmjnfcjaaGreatDoorPSubjectOfx8
import Derived.Test.YtjopgmjmjnfcjaaGreatDoorPSubjectOfx9
namespace Go.Proofs.YtjopgmjmjnfcjaaGreatDoor.PSubjectOf
open Go.RowKit Go.Proofs.YtjopgmjmjnfcjaaGreatDoorW.PrintWords Go.Proofs.YtjopgmjmjnfcjaaGreatDoorW.PrintLast
set_option linter.unusedVariables false
set_option linter.unusedSimpArgs false
def impl_decodeChars.l0 : Nat → Int → List Int → List Int → Option (List Int × Bool)
 | 0, _, _, _ => none
 | k + 1, x0, x1, x6 => if (x1.length : Int) > 0 then ((impl_firstChar.f k x0 x1).bind fun bt441 => (if bt441.2 = 0 then (some (([] : List Int), false)) else (if x6.length < 17592186044416 then (if 0 ≤ bt441.2 then (if bt441.2 ≤ (x1.length : Int) then (impl_decodeChars.l0 k x0 (x1.drop (bt441.2 : Int).toNat) (x6 ++ [bt441.1])) else (none)) else (none)) else (none)))) else (some (x6, true))
def impl_decodeChars.f (k : Nat) (a0 : Int) (l1 : List Int) : Option (List Int × Bool) := impl_decodeChars.l0 k a0 l1 (([] : List Int))
def impl_decodeChars.T6 : Bool × List (List Nat × List Nat) := (true, [([], []), ([], []), ([1], [1]), ([0, 2], [0, 2]), ([], []), ([], []), ([4, 5], [4, 5]), ([3, 3, 0, 1, 2, 3], [0, 3]), ([6, 7, 0, 1, 2, 3, 4, 5, 6, 7], [4, 6])])
def impl_decodeChars.B6 : List Nat := [0, 0, 2, 7, 0, 0, 48, 15, 255]
theorem impl_decodeChars.tab6 : rtab .any (opsOf Tryz.f115 6) = impl_decodeChars.T6 := by kernel_rfl
theorem impl_decodeChars.bits6 : waitsOk impl_decodeChars.T6.2 impl_decodeChars.B6 = true := by kernel_rfl
set_option maxHeartbeats 8000000 in
set_option maxRecDepth 100000 in
theorem impl_decodeChars.calls (k : Nat) (a0 : Int) (P1_ : Nat → Prop) (A1 : Option Addr) (c1 : Nat) (l1 : List Int) (r1 : List Int) (r2 : Bool) (w : World) (hs1 : Kd.V (Kd.int .u8) 5 w w.heap.size (fun k_ => P1_ k_) (.slice A1 l1.length c1) l1) (h : impl_decodeChars.f k a0 l1 = some (r1, r2)) :
  Calls Tryz.prog 115 #[.int .i64 a0, .slice A1 l1.length c1] w fun e w' => ∃ v0_ : Value, e = .returned (.tuple #[v0_, .bool r2]) ∧ Kd.R (Kd.int .i64) 2 w' w.heap.size (fun k_ => (w.heap.size ≤ k_)) v0_ r1 ∧ Below w.heap.size w w' := by
 have HO1 := aM (show Kd.V (Kd.int .u8) 5 w w.heap.size (fun k_ => (P1_ k_ ∨ w.heap.size ≤ k_)) (.slice A1 l1.length c1) l1 from Kd.V_mono hs1 (fun k_ hk => .inl hk))
 have HB := aM (Below.refl w.heap.size w)
 have H : (impl_decodeChars.l0 k a0 l1 (([] : List Int))) = some (r1, r2) := h
 clear h
 obtain ⟨y438, hy438⟩ : ∃ y_ : List Int, y_ = (([] : List Int)) := ⟨_, rfl⟩
 replace H : (impl_decodeChars.l0 k a0 l1 y438) = some (r1, r2) := z0 hy438
 have Ny438 := aM hy438
 clear hy438
 have H' := aM H
 clear H
 go_enter Tryz.func115, Tryz.ntmps115
 go_wp2_with (first | ((with_reducible refine gate_dst (N := 9) rfl ?_); refine Kd.R_lit (Kd.int .i64) _ 2 ?hg (N := 9) ?hd (xs := ([] : List Int)) (inner := []) (ok := fun _ => True) (okp := fun _ => True) ?hr ?hp (fun _ hk => hk) trivial (Below.refl _ _) (Nat.le_refl _) (by simp) ?_; (case hd => rfl); (case hg => rfl); (case hr => exact z8); (case hp => exact (Reps.none _ _)); intro v439 w3 ho4 hb hg_ hnew_; clear hg_ hnew_; (first | rw [← Ny438.out] at ho4 | (simp only [Int.reduceToNat] at ho4; rw [← Ny438.out] at ho4)); replace HO1 := aM (Kd.V_elder' (z34 HO1.out) (Kd.R_base ho4) hb); have HO440 := aM (Kd.R_lower (Kd.R_newM (M := fun k_ => (w.heap.size ≤ k_)) ho4 (below_size bB) (fun k_ h_ => h_)) (below_size bB)); replace HB := aM (below_step bB hb); clear hb ho4))
 go_loopg [1, 6] k (fun kq v1 v6 w' => ∃ (x1_1 : List Int) (x6_1 : List Int), Aside0 (impl_decodeChars.l0 kq a0 x1_1 x6_1 = some (r1, r2)) ∧ Aside0 (kq ≤ k) ∧ Aside0 (Kd.V (Kd.int .u8) 5 w' w.heap.size (fun k_ => (P1_ k_ ∨ w.heap.size ≤ k_) ∧ some k_ ≠ (v6 : Value).ownBlock) v1 x1_1) ∧ Aside0 (Kd.R (Kd.int .i64) 2 w' w.heap.size (fun k_ => (w.heap.size ≤ k_)) v6 x6_1) ∧ Aside0 (Below w.heap.size w w'))
 case atStart => exact ⟨(l1), (y438), H', ⟨Nat.le_refl _⟩, ⟨z34 HO1.out⟩, ⟨by (with_reducible repeat (first | apply Kd.R_alloc | apply Kd.R_drewN | apply Kd.R_drew)); exact Kd.R_mono HO440.out (fun _ hk => hk.1)⟩, ⟨bB⟩⟩
 case round =>
  clear H'
  try clear c1
  try clear p2
  obtain ⟨x1_1, x6_1, HA, HK1, HO_1, HO_6, HB⟩ := hrel
  cases gk with
  | zero => exact absurd HA.out (by simp [impl_decodeChars.l0])
  | succ k1 =>
   have H := HA.out
   clear HA
   simp only [impl_decodeChars.l0] at H
   have HQ_ := aM H
   clear H
   obtain ⟨Ao8, co8, eo8⟩ := Kd.V_slice HO_1.out
   subst eo8
   have H := HQ_.out
   clear HQ_
   by_cases c5 : (x1_1.length : Int) > 0
   ·rw [if_pos c5] at H
    have c5b0 : decide (0 < (x1_1.length : Int)) = true := decide_eq_true c5
    have c5b1 : decide (0 < x1_1.length) = true := decide_eq_true (by omega)
    clear c5
    replace H := Option.bind_eq_some_iff.mp H
    obtain ⟨⟨t441, t442⟩, A60, H⟩ := H
    replace H : (if t442 = 0 then (some (([] : List Int), false)) else (if x6_1.length < 17592186044416 then (if 0 ≤ t442 then (if t442 ≤ (x1_1.length : Int) then (impl_decodeChars.l0 k1 a0 (x1_1.drop (t442 : Int).toNat) (x6_1 ++ [t441])) else (none)) else (none)) else (none))) = some (r1, r2) := H
    have A6 := aM A60
    clear A60
    (try simp only [c5b0, c5b1])
    by_cases c7 : t442 = 0
    ·rw [if_pos c7] at H
     have c7b0 : (t442 == 0) = true := beq_iff_eq.mpr c7
     have c7b1 : (t442 != 0) = false := bne_eq_false_iff_eq.mpr c7
     clear c7
     simp only [Option.some.injEq, Prod.mk.injEq] at H
     obtain ⟨rfl, rfl⟩ := H
     (try simp only [c7b0, c7b1])
     go_wp2_with (first | ((with_reducible refine gate_callee (f := 54) rfl ?_); refine gL_ (some 16) Tryz.func54 #[.int .i64 a0, .slice Ao8 x1_1.length co8] ?_; (with_reducible refine (impl_firstChar.calls k1 a0 _ _ x1_1 t441 t442 _ ?side1 ?side2 A6.out).mono ?_); (case side1 => repeat (first | exact (Kd.V_reads' HO_1.out).2.2 | (with_reducible refine Kd.C_alloc ?_ _) | (with_reducible refine Kd.C_drewN ?_ _) | (with_reducible refine Kd.C_drew ?_))); (case side2 => exact (Kd.V_reads' HO_1.out).2.1); rintro e w9 ⟨rfl, hb⟩; refine ⟨_, rfl, ?_⟩; replace HO_1 := aM (Kd.V_below (z34 HO_1.out) hb); replace HO_6 := aM (Kd.R_below (bR HO_6) hb); replace HB := aM (below_step bB hb); (try clear hi)))
     go_ret2
     exact ⟨_, bE, z3, bB⟩
    rw [if_neg c7] at H
    have c7b0 : (t442 == 0) = false := beq_eq_false_iff_ne.mpr c7
    have c7b1 : (t442 != 0) = true := bne_iff_ne.mpr c7
    (try simp only [c7b0, c7b1])
    by_cases c10 : x6_1.length < 17592186044416
    ·rw [if_pos c10] at H
     have LMc10 := aM c10
     clear c10
     obtain ⟨y443, hy443⟩ : ∃ y_ : List Int, y_ = (x6_1 ++ [t441]) := ⟨_, rfl⟩
     replace H : (if 0 ≤ t442 then (if t442 ≤ (x1_1.length : Int) then (impl_decodeChars.l0 k1 a0 (x1_1.drop (t442 : Int).toNat) y443) else (none)) else (none)) = some (r1, r2) := z0 hy443
     have Ny443 := aM hy443
     clear hy443
     by_cases c11 : 0 ≤ t442
     ·rw [if_pos c11] at H
      have c11b0 := eq_true c11
      have c11b1 : decide (0 ≤ t442) = true := decide_eq_true c11
      clear c11
      by_cases c12 : t442 ≤ (x1_1.length : Int)
      ·rw [if_pos c12] at H
       have c12b0 := eq_true c12
       have c12b1 : decide (t442 ≤ (x1_1.length : Int)) = true := decide_eq_true c12
       clear c12
       obtain ⟨y446, hy446⟩ : ∃ y_ : List Int, y_ = (x1_1.drop (t442 : Int).toNat) := ⟨_, rfl⟩
       replace H : (impl_decodeChars.l0 k1 a0 y446 y443) = some (r1, r2) := z0 hy446
       have Ny446 := aM hy446
       clear hy446
       have H' := aM H
       clear H
       try go_wp2_with (first | ((with_reducible refine gate_callee (f := 54) rfl ?_); refine gL_ (some 16) Tryz.func54 #[.int .i64 a0, .slice Ao8 x1_1.length co8] ?_; (with_reducible refine (impl_firstChar.calls k1 a0 _ _ x1_1 t441 t442 _ ?side1 ?side2 A6.out).mono ?_); (case side1 => repeat (first | exact (Kd.V_reads' HO_1.out).2.2 | (with_reducible refine Kd.C_alloc ?_ _) | (with_reducible refine Kd.C_drewN ?_ _) | (with_reducible refine Kd.C_drew ?_))); (case side2 => exact (Kd.V_reads' HO_1.out).2.1); rintro e w14 ⟨rfl, hb⟩; refine ⟨_, rfl, ?_⟩; replace HO_1 := aM (Kd.V_below (z34 HO_1.out) hb); replace HO_6 := aM (Kd.R_below (bR HO_6) hb); replace HB := aM (below_step bB hb); (try clear hi)))
       replace HO_1 := aM (Kd.V_drew HO_1.out)
       replace HO_6 := aM (Kd.R_drew HO_6.out)
       replace HB := aM (below_drew1 HB.out)
       have q16 : (t442 : Int) ≤ ((x1_1.length : Int) : Int) := pI
       obtain ⟨i016, hi016, _, hsz16, _⟩ := info_parts info5
       have hroom16 : x1_1.length ≤ co8 := (Kd.V_reads' HO_1.out).2.1
       have hC16 : Kd.F (Kd.int .u8) _ _ Ao8 x1_1.length x1_1 := (Kd.V_at (base := w.heap.size) HO_1.out).2.2
       have q016 : (0 : Int) ≤ (t442 : Int) := pI
       have hcut16 := cut_from (P := Tryz.prog) 22 5 .i64 Tryz.underlying22 hi016 1 hsz16 Ao8 x1_1.length co8 t442 q016 q16
       have hr16 := Kd.F_cut (m := (t442 : Int).toNat) (c := co8) hC16 (by omega) hroom16
       obtain ⟨A16, hA16⟩ : ∃ A1, A1 = (if co8 = (t442 : Int).toNat then Ao8 else (Ao8 : Option Addr).map (·.add ((t442 : Int).toNat * 1))) := ⟨_, rfl⟩
       obtain ⟨c16, hc16⟩ : ∃ c1, c1 = co8 - (t442 : Int).toNat := ⟨_, rfl⟩
       have hy16 : y446.length = x1_1.length - (t442 : Int).toNat := (by rw [Ny446.out, List.length_drop] <;> omega)
       rw [show (x1_1).drop (t442 : Int).toNat = y446 from Ny446.out.symm] at hr16
       replace hr16 : Kd.F (Kd.int .u8) _ _ A16 y446.length y446 := (by rw [hA16]; exact hr16)
       rw [← hy16, ← hA16, ← hc16] at hcut16
       have HO450 := aM (show Kd.V (Kd.int .u8) 5 _ w.heap.size _ (.slice A16 y446.length c16) y446 from Kd.V_mk (by rw [hy16, hc16]; exact Nat.sub_le_sub_right hroom16 _) hr16)
       have HC450 := aM (show y446.length ≤ c16 from by rw [hy16, hc16]; exact Nat.sub_le_sub_right hroom16 _)
       clear hr16 hC16 hroom16 hi016 hsz16 hc16
       have KY16 := aM hy16
       have KA16 := aM hA16
       clear hy16 hA16
       replace q16 := eq_true q16
       refine start_ (n := 9) (S := fun w' => True) (ds := []) (bsA 9 0) (by kernel_rfl) rfl rfl trivial (fun hHeld => ?_); refine with_tabW impl_decodeChars.tab6 impl_decodeChars.bits6 (fun HT_ HW_ => ?_)
       generalize w14.drew = w15 at HO_1 HO_6 HB HO450 hHeld ⊢
       refine pa_ (i := 0) (N := some 21) (bsA 9 1) (h := ?_)
       refine pa_ (i := 1) (N := some 22) (bsA 9 3) (h := ?_)
       refine pa_ (i := 4) (N := some 25) (bsA 9 19) (h := ?_)
       refine pa_ (i := 5) (N := some 26) (bsA 9 51) (h := ?_)
       refine pa_ (i := 6) (N := some 27) (bsA 9 115) (h := ?_)
       refine one_ (i := 2) (N := some 23) (bsA 9 119) rfl rfl (one_of HT_.out (by kernel_rfl)) (by decide) (fun K hK => ?_)
       refine value_ (w1 := ?_) (v := ?_) (by rfl) rfl ?_ ?_
       rotate_left 2
       ·go_simp
        constructor
        ·rfl
        rfl
       refine hK.out _ _ trivial (fun hHeld => ?_)
       clear hK K
       refine na_ (N := some 23) (h := ?_)
       refine one_ (i := 3) (N := some 24) (bsA 9 127) rfl rfl (one_of HT_.out (by kernel_rfl)) (by decide) (fun K hK => ?_)
       refine Kd.R_append_step (Kd.int .i64) (w0 := w) w.heap.size (by rfl) (.tmp 21) (.tmp 23) 23 2 (.int .i64 0) 8 rfl Tryz.underlying23 info2 rfl (by decide) (by omega) u6 x6_1 t441 [.int .i64 t441] (fun k_ => (w.heap.size ≤ k_)) (fun _ => False) rfl rfl ?aP (fun _ hk => hk.elim) ?aF ?aO ?aB ?aS ?aL ?_
       (case aP => exact rfl)
       (case aB => exact bB)
       (case aF => exact (fun k_ hk => (Nat.le_trans (below_size bB) hk)))
       (case aO => exact (bR HO_6))
       (case aS => exact (below_size bB))
       (case aL => have := LMc10.out; omega)
       intro v444 w17 ho hb hg hat
       rw [← Ny443.out] at ho
       have n0_ := aM (Kd.V_afterv (ok := (fun k_ => (P1_ k_ ∨ w.heap.size ≤ k_))) (z34 HO_1.out) hg hat)
       have n1_ := aM (Kd.V_afterv (ok := (fun k_ => (P1_ k_ ∨ w.heap.size ≤ k_))) (z34 HO450.out) hg hat)
       have n2_ := aM (hb)
       have n3_ := aM (ho)
       clear HO_1
       clear HO450
       clear HB
       clear HO_6
       have HO_1 := n0_
       have HO450 := n1_
       have HB := n2_
       have HO445 := n3_
       clear n0_ n1_ n2_ n3_
       clear ho hb hg hat
       refine hK.out _ _ trivial (fun hHeld => ?_)
       clear hK K
       refine na_ (N := some 24) (h := ?_)
       refine pa_ (i := 7) (N := some 6) (bsA 9 255) (h := ?_)
       refine pa_ (i := 8) (N := some 1) (bsA 9 511) (h := ?_)
       refine done_ (done_of HT_.out (by kernel_rfl)) ?_
       try go_wp2
       go_roundg k1
       case measure => have := HK1.out; omega
       case rel => exact ⟨(y446), (y443), H', ⟨by have := HK1.out; omega⟩, ⟨z34 HO450.out⟩, ⟨bR HO445⟩, ⟨bB⟩⟩
      rw [if_neg c12] at H
      exact absurd H (by simp)
     rw [if_neg c11] at H
     exact absurd H (by simp)
    rw [if_neg c10] at H
    exact absurd H (by simp)
   rw [if_neg c5] at H
   have c5b0 : decide (0 < (x1_1.length : Int)) = false := decide_eq_false c5
   have c5b1 : decide (0 < x1_1.length) = false := decide_eq_false (by omega)
   clear c5
   simp only [Option.some.injEq, Prod.mk.injEq] at H
   obtain ⟨rfl, rfl⟩ := H
   (try simp only [c5b0, c5b1])
   go_wp2
   go_ret2
   exact ⟨_, bE, bR HO_6, bB⟩
def impl_DecodeText.f (k : Nat) (a0 : Int) (l1 : List Int) : Option (Int × List Int) := (impl_isCharset.f a0).bind fun t452 => (if t452 = true then (if (l1.length : Int) > 400 then (some (2, ([] : List Int))) else ((impl_decodeChars.f k a0 l1).bind fun bt453 => (if bt453.2 = true then (some (0, bt453.1)) else (some (8, ([] : List Int)))))) else (some (4, ([] : List Int))))
set_option maxHeartbeats 8000000 in
set_option maxRecDepth 100000 in
theorem impl_DecodeText.calls (k : Nat) (a0 : Int) (A1 : Option Addr) (c1 : Nat) (l1 : List Int) (r1 : Int) (r2 : List Int) (w : World) (hr1 : Kd.C (Kd.int .u8) w A1 l1.length l1) (hc1 : l1.length ≤ c1) (h : impl_DecodeText.f k a0 l1 = some (r1, r2)) :
  Calls Tryz.prog 82 #[.int .i64 a0, .slice A1 l1.length c1] w fun e w' => ∃ v1_ : Value, e = .returned (.agg #[.int .i64 r1, v1_]) ∧ Kd.R (Kd.int .i64) 2 w' w.heap.size (fun _ => True) v1_ r2 ∧ Below w.heap.size w w' := by
 have hu25 := Tryz.underlying25
 have HR1 := aM hr1
 have HC1 := aM hc1
 clear hr1 hc1
 have HB := aM (Below.refl w.heap.size w)
 have H : ((impl_isCharset.f a0).bind fun t452 => (if t452 = true then (if (l1.length : Int) > 400 then (some (2, ([] : List Int))) else ((impl_decodeChars.f k a0 l1).bind fun bt453 => (if bt453.2 = true then (some (0, bt453.1)) else (some (8, ([] : List Int)))))) else (some (4, ([] : List Int))))) = some (r1, r2) := h
 clear h
 replace H := Option.bind_eq_some_iff.mp H
 obtain ⟨t452, A30, H⟩ := H
 replace H : (if t452 = true then (if (l1.length : Int) > 400 then (some (2, ([] : List Int))) else ((impl_decodeChars.f k a0 l1).bind fun bt453 => (if bt453.2 = true then (some (0, bt453.1)) else (some (8, ([] : List Int)))))) else (some (4, ([] : List Int)))) = some (r1, r2) := H
 have A3 := aM A30
 clear A30
 have HQ_ := aM H
 clear H
 go_enter Tryz.func82, Tryz.ntmps82
 have H := HQ_.out
 clear HQ_
 by_cases c4 : t452 = true
 ·subst c4
  have H1 : (if (l1.length : Int) > 400 then (some (2, ([] : List Int))) else ((impl_decodeChars.f k a0 l1).bind fun bt453 => (if bt453.2 = true then (some (0, bt453.1)) else (some (8, ([] : List Int)))))) = some (r1, r2) := z14
  clear H
  have H := H1
  clear H1
  by_cases c5 : (l1.length : Int) > 400
  ·rw [if_pos c5] at H
   have c5b0 : decide (400 < (l1.length : Int)) = true := decide_eq_true c5
   have c5b1 : decide (400 < l1.length) = true := decide_eq_true (by omega)
   clear c5
   simp only [Option.some.injEq, Prod.mk.injEq] at H
   obtain ⟨rfl, rfl⟩ := H
   (try simp only [c5b0, c5b1])
   go_wp2_with (first | ((with_reducible refine gate_dst (N := 4) rfl ?_); refine box_event ?hg (N := 4) ?hd (cs := #[.int .i64 0, .slice none 0 0]) (t := 25) ?hr ?_; (case hd => rfl); (case hg => rfl); (case hr => exact z8); intro gb451 hg w6 hbox hb; have BK451 := aM (hbox); have GW451 := aM ((z11 : w.heap.size ≤ gb451)); have GE451 := aM ((z11 : w.heap.size ≤ gb451)); replace HB := aM (below_step bB hb); clear hb hbox hg) | ((with_reducible refine gate_callee (f := 114) rfl ?_); refine gL_ (some 9) Tryz.func114 #[.int .i64 a0] ?_; (with_reducible refine (impl_isCharset.calls a0 true _ A3.out).mono ?_); rintro e w' ⟨rfl, ⟨nd, rfl⟩⟩; refine ⟨_, rfl, ?_⟩; (try (rw [drewN_self w6]; generalize hq_ : World.drewN w6 _ = w6; have n0_ : Aside0 (w6.heap[gb451]? = some (.cells #[.int .i64 0, .slice none 0 0] 25 (0, 0))) := ⟨by rw [← hq_]; exact (bL BK451)⟩; have n1_ : Aside0 (Below w.heap.size w w6) := ⟨by rw [← hq_]; exact (bG GE451)⟩; clear BK451 HB hq_; have BK451 := n0_; have HB := n1_; clear n0_ n1_)); have hcz7_0 : w6.cell? ⟨gb451, 0, none⟩ = some (.int .i64 0) := (blk_cell BK451.out 0).trans rfl; have hcz7_1 : w6.cell? ⟨gb451, 1, none⟩ = some (.slice none 0 0) := (blk_cell BK451.out 1).trans rfl; have hfz7_0 := blk_frozen BK451.out 0; have hfz7_1 := blk_frozen BK451.out 1))
   refine bodyPost_ret (results_cell_row rfl _ _ gb451 25 #[.int .i64 2, .slice none 0 0] (0, 0) _ rfl (z7 BK451.out) Tryz.underlying25 rfl (by kernel_rfl)) rfl ?_
   exact ⟨_, bE, z3, bG GE451⟩
  rw [if_neg c5] at H
  have c5b0 : decide (400 < (l1.length : Int)) = false := decide_eq_false c5
  have c5b1 : decide (400 < l1.length) = false := decide_eq_false (by omega)
  clear c5
  replace H := Option.bind_eq_some_iff.mp H
  obtain ⟨⟨t453, t456⟩, A80, H⟩ := H
  replace H : (if t456 = true then (some (0, t453)) else (some (8, ([] : List Int)))) = some (r1, r2) := H
  have A8 := aM A80
  clear A80
  (try simp only [c5b0, c5b1])
  by_cases c9 : t456 = true
  ·subst c9
   have H1 : (some (0, t453)) = some (r1, r2) := z14
   clear H
   have H := H1
   clear H1
   simp only [Option.some.injEq, Prod.mk.injEq] at H
   obtain ⟨rfl, rfl⟩ := H
   go_wp2_with (first | ((with_reducible refine gate_dst (N := 4) rfl ?_); refine box_event ?hg (N := 4) ?hd (cs := #[.int .i64 0, .slice none 0 0]) (t := 25) ?hr ?_; (case hd => rfl); (case hg => rfl); (case hr => exact z8); intro gb451 hg w10 hbox hb; have BK451 := aM (hbox); have GW451 := aM ((z11 : w.heap.size ≤ gb451)); have GE451 := aM ((z11 : w.heap.size ≤ gb451)); replace HB := aM (below_step bB hb); clear hb hbox hg) | ((with_reducible refine gate_callee (f := 114) rfl ?_); refine gL_ (some 9) Tryz.func114 #[.int .i64 a0] ?_; (with_reducible refine (impl_isCharset.calls a0 true _ A3.out).mono ?_); rintro e w' ⟨rfl, ⟨nd, rfl⟩⟩; refine ⟨_, rfl, ?_⟩; (try (rw [drewN_self w10]; generalize hq_ : World.drewN w10 _ = w10; have n0_ : Aside0 (w10.heap[gb451]? = some (.cells #[.int .i64 0, .slice none 0 0] 25 (0, 0))) := ⟨by rw [← hq_]; exact (bL BK451)⟩; have n1_ : Aside0 (Below w.heap.size w w10) := ⟨by rw [← hq_]; exact (bG GE451)⟩; clear BK451 HB hq_; have BK451 := n0_; have HB := n1_; clear n0_ n1_))) | ((with_reducible refine gate_callee (f := 115) rfl ?_); refine gL_ (some 20) Tryz.func115 #[.int .i64 a0, .slice A1 l1.length c1] ?_; (with_reducible refine (impl_decodeChars.calls k a0 (fun k_ => k_ < w.heap.size) _ _ l1 t453 true _ ?side1 A8.out).mono ?_); (case side1 => exact Kd.V_mk HC1.out (Kd.F_below (Kd.C_F (Kd.heap_int .u8) HR1.out) (bG GE451))); rintro e w11 ⟨v454, rfl, ho0, hb⟩; refine ⟨_, rfl, ?_⟩; have HO455 := aM (Kd.R_lower (Kd.R_mono (ok' := fun k_ => True) ho0 (fun _ hk_ => trivial)) (below_size (bG GE451))); replace BK451 := aM (blk_below (g := gb451) (o := .cells #[.int .i64 0, .slice none 0 0] 25 (0, 0)) (bL BK451) hb); replace HB := aM (below_step (bG GE451) hb); (try clear ho0); obtain ⟨Ao12, co12, eo12⟩ := Kd.R_slice HO455.out; subst eo12; have hcz13_0 : w11.cell? ⟨gb451, 0, none⟩ = some (.int .i64 0) := (blk_cell BK451.out 0).trans rfl; have hcz13_1 : w11.cell? ⟨gb451, 1, none⟩ = some (.slice none 0 0) := (blk_cell BK451.out 1).trans rfl; have hfz13_0 := blk_frozen BK451.out 0; have hfz13_1 := blk_frozen BK451.out 1))
   refine bodyPost_ret (results_cell_row rfl _ _ gb451 25 #[.int .i64 0, .slice Ao12 t453.length co12] (0, 0) _ rfl (z17 BK451.out) Tryz.underlying25 rfl (by kernel_rfl)) rfl ?_
   exact ⟨_, bE, by (with_reducible repeat (first | apply Kd.R_alloc | apply Kd.R_drewN | apply Kd.R_drew)); exact Kd.R_mono (Kd.R_far (p := ⟨gb451, 1, none⟩) (Kd.R_far (p := ⟨gb451, 0, none⟩) (Kd.R_types HO455.out BK451.out (by decide)) (fun _ hk => hk.2) (.int .i64 0)) (fun _ hk => hk.2) (.slice Ao12 t453.length co12)) (fun _ hk => trivial), bG GE451⟩
  replace c9 := Bool.eq_false_iff.mpr c9
  subst c9
  have H1 : (some (8, ([] : List Int))) = some (r1, r2) := z5
  clear H
  have H := H1
  clear H1
  simp only [Option.some.injEq, Prod.mk.injEq] at H
  obtain ⟨rfl, rfl⟩ := H
  go_wp2_with (first | ((with_reducible refine gate_dst (N := 4) rfl ?_); refine box_event ?hg (N := 4) ?hd (cs := #[.int .i64 0, .slice none 0 0]) (t := 25) ?hr ?_; (case hd => rfl); (case hg => rfl); (case hr => exact z8); intro gb451 hg w14 hbox hb; have BK451 := aM (hbox); have GW451 := aM ((z11 : w.heap.size ≤ gb451)); have GE451 := aM ((z11 : w.heap.size ≤ gb451)); replace HB := aM (below_step bB hb); clear hb hbox hg) | ((with_reducible refine gate_callee (f := 114) rfl ?_); refine gL_ (some 9) Tryz.func114 #[.int .i64 a0] ?_; (with_reducible refine (impl_isCharset.calls a0 true _ A3.out).mono ?_); rintro e w' ⟨rfl, ⟨nd, rfl⟩⟩; refine ⟨_, rfl, ?_⟩; (try (rw [drewN_self w14]; generalize hq_ : World.drewN w14 _ = w14; have n0_ : Aside0 (w14.heap[gb451]? = some (.cells #[.int .i64 0, .slice none 0 0] 25 (0, 0))) := ⟨by rw [← hq_]; exact (bL BK451)⟩; have n1_ : Aside0 (Below w.heap.size w w14) := ⟨by rw [← hq_]; exact (bG GE451)⟩; clear BK451 HB hq_; have BK451 := n0_; have HB := n1_; clear n0_ n1_))) | ((with_reducible refine gate_callee (f := 115) rfl ?_); refine gL_ (some 20) Tryz.func115 #[.int .i64 a0, .slice A1 l1.length c1] ?_; (with_reducible refine (impl_decodeChars.calls k a0 (fun k_ => k_ < w.heap.size) _ _ l1 t453 false _ ?side1 A8.out).mono ?_); (case side1 => exact Kd.V_mk HC1.out (Kd.F_below (Kd.C_F (Kd.heap_int .u8) HR1.out) (bG GE451))); rintro e w15 ⟨v454, rfl, ho0, hb⟩; refine ⟨_, rfl, ?_⟩; have HO455 := aM (Kd.R_lower (Kd.R_mono (ok' := fun k_ => True) ho0 (fun _ hk_ => trivial)) (below_size (bG GE451))); replace BK451 := aM (blk_below (g := gb451) (o := .cells #[.int .i64 0, .slice none 0 0] 25 (0, 0)) (bL BK451) hb); replace HB := aM (below_step (bG GE451) hb); (try clear ho0); have hcz16_0 : w15.cell? ⟨gb451, 0, none⟩ = some (.int .i64 0) := (blk_cell BK451.out 0).trans rfl; have hcz16_1 : w15.cell? ⟨gb451, 1, none⟩ = some (.slice none 0 0) := (blk_cell BK451.out 1).trans rfl; have hfz16_0 := blk_frozen BK451.out 0; have hfz16_1 := blk_frozen BK451.out 1))
  refine bodyPost_ret (results_cell_row rfl _ _ gb451 25 #[.int .i64 8, .slice none 0 0] (0, 0) _ rfl (by (with_reducible repeat (first | refine blk_drewN ?_ _ | refine blk_drew ?_ | refine blk_alloc ?_ _)); refine blk_put (cs := #[.int .i64 8, .slice none 0 0]) ?_ 1 _ rfl; (with_reducible repeat (first | refine blk_drewN ?_ _ | refine blk_drew ?_ | refine blk_alloc ?_ _)); refine blk_put (cs := #[.int .i64 0, .slice none 0 0]) ?_ 0 _ rfl; (with_reducible repeat (first | refine blk_drewN ?_ _ | refine blk_drew ?_ | refine blk_alloc ?_ _)); exact BK451.out) Tryz.underlying25 rfl (by kernel_rfl)) rfl ?_
  exact ⟨_, bE, z3, bG GE451⟩
 replace c4 := Bool.eq_false_iff.mpr c4
 subst c4
 have H1 : (some (4, ([] : List Int))) = some (r1, r2) := z5
 clear H
 have H := H1
 clear H1
 simp only [Option.some.injEq, Prod.mk.injEq] at H
 obtain ⟨rfl, rfl⟩ := H
 go_wp2_with (first | ((with_reducible refine gate_dst (N := 4) rfl ?_); refine box_event ?hg (N := 4) ?hd (cs := #[.int .i64 0, .slice none 0 0]) (t := 25) ?hr ?_; (case hd => rfl); (case hg => rfl); (case hr => exact z8); intro gb451 hg w17 hbox hb; have BK451 := aM (hbox); have GW451 := aM ((z11 : w.heap.size ≤ gb451)); have GE451 := aM ((z11 : w.heap.size ≤ gb451)); replace HB := aM (below_step bB hb); clear hb hbox hg) | ((with_reducible refine gate_callee (f := 114) rfl ?_); refine gL_ (some 9) Tryz.func114 #[.int .i64 a0] ?_; (with_reducible refine (impl_isCharset.calls a0 false _ A3.out).mono ?_); rintro e w' ⟨rfl, ⟨nd, rfl⟩⟩; refine ⟨_, rfl, ?_⟩; (try (rw [drewN_self w17]; generalize hq_ : World.drewN w17 _ = w17; have n0_ : Aside0 (w17.heap[gb451]? = some (.cells #[.int .i64 0, .slice none 0 0] 25 (0, 0))) := ⟨by rw [← hq_]; exact (bL BK451)⟩; have n1_ : Aside0 (Below w.heap.size w w17) := ⟨by rw [← hq_]; exact (bG GE451)⟩; clear BK451 HB hq_; have BK451 := n0_; have HB := n1_; clear n0_ n1_)); have hcz18_0 : w17.cell? ⟨gb451, 0, none⟩ = some (.int .i64 0) := (blk_cell BK451.out 0).trans rfl; have hcz18_1 : w17.cell? ⟨gb451, 1, none⟩ = some (.slice none 0 0) := (blk_cell BK451.out 1).trans rfl; have hfz18_0 := blk_frozen BK451.out 0; have hfz18_1 := blk_frozen BK451.out 1))
 refine bodyPost_ret (results_cell_row rfl _ _ gb451 25 #[.int .i64 4, .slice none 0 0] (0, 0) _ rfl (by (with_reducible repeat (first | refine blk_drewN ?_ _ | refine blk_drew ?_ | refine blk_alloc ?_ _)); refine blk_put (cs := #[.int .i64 4, .slice none 0 0]) ?_ 1 _ rfl; (with_reducible repeat (first | refine blk_drewN ?_ _ | refine blk_drew ?_ | refine blk_alloc ?_ _)); refine blk_put (cs := #[.int .i64 0, .slice none 0 0]) ?_ 0 _ rfl; (with_reducible repeat (first | refine blk_drewN ?_ _ | refine blk_drew ?_ | refine blk_alloc ?_ _)); exact BK451.out) Tryz.underlying25 rfl (by kernel_rfl)) rfl ?_
 exact ⟨_, bE, z3, bG GE451⟩
mutual
def impl_toldWord.j0 : Nat → ByteArray → List ByteArray → Bool → Option (List Int × Int)
 | 0, _, _, _ => none
 | k + 1, x0, x6, x29 => if x29 = true then (some (([] : List Int), 0)) else (if 0 < (x6.length : Int) then ((impl_CharsetOf.f k (rdOf ByteArray.empty x6 0)).bind fun bt465 => (if bt465.1 = 0 then ((some (([] : List Int) : List Int)).bind fun y468 => (if 1 < (x6.length : Int) then (if (rdOf ByteArray.empty x6 1).toList = ([66] : List UInt8) then (impl_toldWord.j1 k x0 x6 y468 (rdOf ByteArray.empty x6 1) ((rdOf ByteArray.empty x6 1).toList == ([66] : List UInt8)) bt465.1 bt465.2) else (impl_toldWord.j1 k x0 x6 y468 (rdOf ByteArray.empty x6 1) ((rdOf ByteArray.empty x6 1).toList == ([98] : List UInt8)) bt465.1 bt465.2)) else (none))) else (some (([] : List Int), 0)))) else (none))
def impl_toldWord.j1 : Nat → ByteArray → List ByteArray → List Int → ByteArray → Bool → Int → Int → Option (List Int × Int)
 | 0, _, _, _, _, _, _, _ => none
 | k + 1, x0, x6, x8, x40, x41, x468000, x468001 => if x41 = true then (if 2 < (x6.length : Int) then ((impl_DecodeBase.f k (rdOf ByteArray.empty x6 2)).bind fun bt473 => ((impl_DecodeText.f k x468001 bt473.2).bind fun bt478 => (if bt473.1 = 0 then (if bt478.1 = 0 then (if 3 < (x6.length : Int) then (some (bt478.2, wrap64 ((wrap64 ((x0.size : Int) - ((rdOf ByteArray.empty x6 3).size : Int))) + 1))) else (none)) else (some (([] : List Int), 0))) else (some (([] : List Int), 0))))) else (none)) else (if x40.toList = ([81] : List UInt8) then (impl_toldWord.j2 k x0 x6 x8 (x40.toList == ([81] : List UInt8)) x468000 x468001) else (impl_toldWord.j2 k x0 x6 x8 (x40.toList == ([113] : List UInt8)) x468000 x468001))
def impl_toldWord.j2 : Nat → ByteArray → List ByteArray → List Int → Bool → Int → Int → Option (List Int × Int)
 | 0, _, _, _, _, _, _ => none
 | k + 1, x0, x6, x8, x53, x468000, x468001 => if x53 = true then (if 2 < (x6.length : Int) then ((impl_quotedWord.f k (rdOf ByteArray.empty x6 2)).bind fun bt485 => ((impl_DecodeText.f k x468001 bt485.1).bind fun bt489 => (if bt485.2 = true then (if bt489.1 = 0 then (if 3 < (x6.length : Int) then (some (bt489.2, wrap64 ((wrap64 ((x0.size : Int) - ((rdOf ByteArray.empty x6 3).size : Int))) + 1))) else (none)) else (some (([] : List Int), 0))) else (some (([] : List Int), 0))))) else (none)) else ((impl_DecodeText.f k x468001 x8).bind fun bt495 => (some (([] : List Int), 0)))
end
def impl_toldWord.f (k : Nat) (a0 : ByteArray) : Option (List Int × Int) := (strings_CutPrefix.f a0 (⟨#[61, 63]⟩ : ByteArray)).bind fun bt457 => (if bt457.2 = true then ((strings_SplitN.f bt457.1 (⟨#[63]⟩ : ByteArray) 4).bind fun t459 => (if (t459.length : Int) = 4 then (if 3 < (t459.length : Int) then ((strings_HasPrefix.f (rdOf ByteArray.empty t459 3) (⟨#[61]⟩ : ByteArray)).bind fun t463 => (impl_toldWord.j0 k a0 t459 (!t463))) else (none)) else (impl_toldWord.j0 k a0 t459 true))) else (some (([] : List Int), 0)))
set_option maxHeartbeats 8000000 in
set_option maxRecDepth 100000 in
theorem impl_toldWord.calls (k : Nat) (a0 : ByteArray) (r1 : List Int) (r2 : Int) (w : World) (hm_ : ∃ m, w.cell? ⟨0, 0, none⟩ = some (.int .i64 m)) (h : impl_toldWord.f k a0 = some (r1, r2)) :
  Calls Tryz.prog 52 #[.string a0] w fun e w' => ∃ v0_ : Value, e = .returned (.tuple #[v0_, .int .i64 r2]) ∧ Kd.R (Kd.int .i64) 2 w' w.heap.size (fun _ => True) v0_ r1 ∧ Below w.heap.size w w' := by
 have HM_ := aM hm_
 clear hm_
 have hu101 := Tryz.underlying101
 have hu104 := Tryz.underlying104
 have hu25 := Tryz.underlying25
 have HB := aM (Below.refl w.heap.size w)
 have H : ((strings_CutPrefix.f a0 (⟨#[61, 63]⟩ : ByteArray)).bind fun bt457 => (if bt457.2 = true then ((strings_SplitN.f bt457.1 (⟨#[63]⟩ : ByteArray) 4).bind fun t459 => (if (t459.length : Int) = 4 then (if 3 < (t459.length : Int) then ((strings_HasPrefix.f (rdOf ByteArray.empty t459 3) (⟨#[61]⟩ : ByteArray)).bind fun t463 => (impl_toldWord.j0 k a0 t459 (!t463))) else (none)) else (impl_toldWord.j0 k a0 t459 true))) else (some (([] : List Int), 0)))) = some (r1, r2) := h
 clear h
 replace H := Option.bind_eq_some_iff.mp H
 obtain ⟨⟨t457, t458⟩, A20, H⟩ := H
 replace H : (if t458 = true then ((strings_SplitN.f t457 (⟨#[63]⟩ : ByteArray) 4).bind fun t459 => (if (t459.length : Int) = 4 then (if 3 < (t459.length : Int) then ((strings_HasPrefix.f (rdOf ByteArray.empty t459 3) (⟨#[61]⟩ : ByteArray)).bind fun t463 => (impl_toldWord.j0 k a0 t459 (!t463))) else (none)) else (impl_toldWord.j0 k a0 t459 true))) else (some (([] : List Int), 0))) = some (r1, r2) := H
 have A2 := aM A20
 clear A20
 have HQ_ := aM H
 clear H
 go_enter Tryz.func52, Tryz.ntmps52
 have H := HQ_.out
 clear HQ_
 by_cases c3 : t458 = true
 ·subst c3
  have H1 : ((strings_SplitN.f t457 (⟨#[63]⟩ : ByteArray) 4).bind fun t459 => (if (t459.length : Int) = 4 then (if 3 < (t459.length : Int) then ((strings_HasPrefix.f (rdOf ByteArray.empty t459 3) (⟨#[61]⟩ : ByteArray)).bind fun t463 => (impl_toldWord.j0 k a0 t459 (!t463))) else (none)) else (impl_toldWord.j0 k a0 t459 true))) = some (r1, r2) := z14
  clear H
  have H := H1
  clear H1
  replace H := Option.bind_eq_some_iff.mp H
  obtain ⟨t459, A40, H⟩ := H
  replace H : (if (t459.length : Int) = 4 then (if 3 < (t459.length : Int) then ((strings_HasPrefix.f (rdOf ByteArray.empty t459 3) (⟨#[61]⟩ : ByteArray)).bind fun t463 => (impl_toldWord.j0 k a0 t459 (!t463))) else (none)) else (impl_toldWord.j0 k a0 t459 true)) = some (r1, r2) := H
  have A4 := aM A40
  clear A40
  have HC5 := aM H
  clear H
  go_upto_region 5 with (first | (go_at_call 76; (with_reducible refine (strings_CutPrefix.calls a0 (⟨#[61, 63]⟩ : ByteArray) t457 true _ A2.out).mono ?_); rintro e w' ⟨rfl, ⟨nd, rfl⟩⟩; (try first | exact ⟨rfl, _, World.drewN_drewN _ _ _⟩ | exact ⟨rfl, _, Eq.trans (World.drewN_drewN _ _ _) (congrArg (World.drewN _) (Nat.add_assoc _ _ _))⟩)) | (go_at_call 77; (with_reducible refine (strings_SplitN.calls t457 (⟨#[63]⟩ : ByteArray) 4 t459 _ ?sidem A4.out).mono ?_); (case sidem => exact strings_SplitN.below HM_.out (by repeat (first | (with_reducible first | exact HB.out | apply below_alloc | apply pw_below_drewN | apply below_drew1 | refine below_set ?_ GE467.out | refine below_set ?_ GE477.out | refine below_set ?_ GE482.out) | exact HB.out))); rintro e w6 ⟨v460, rfl, ho0, hb⟩; have HO461 := aM (Kd.R_lower ho0 (below_size bB)); replace HB := aM (below_step bB hb); (try clear ho0)))
  repeat (go_quiet (first | (go_at_call 76; (with_reducible refine (strings_CutPrefix.calls a0 (⟨#[61, 63]⟩ : ByteArray) t457 true _ A2.out).mono ?_); rintro e w' ⟨rfl, ⟨nd, rfl⟩⟩; (try first | exact ⟨rfl, _, World.drewN_drewN _ _ _⟩ | exact ⟨rfl, _, Eq.trans (World.drewN_drewN _ _ _) (congrArg (World.drewN _) (Nat.add_assoc _ _ _))⟩))); go_upto_region 5 with (first | (go_at_call 76; (with_reducible refine (strings_CutPrefix.calls a0 (⟨#[61, 63]⟩ : ByteArray) t457 true _ A2.out).mono ?_); rintro e w' ⟨rfl, ⟨nd, rfl⟩⟩; (try first | exact ⟨rfl, _, World.drewN_drewN _ _ _⟩ | exact ⟨rfl, _, Eq.trans (World.drewN_drewN _ _ _) (congrArg (World.drewN _) (Nat.add_assoc _ _ _))⟩)) | (go_at_call 77; (with_reducible refine (strings_SplitN.calls t457 (⟨#[63]⟩ : ByteArray) 4 t459 _ ?sidem A4.out).mono ?_); (case sidem => exact strings_SplitN.below HM_.out (by repeat (first | (with_reducible first | exact HB.out | apply below_alloc | apply pw_below_drewN | apply below_drew1 | refine below_set ?_ GE467.out | refine below_set ?_ GE477.out | refine below_set ?_ GE482.out) | exact HB.out))); rintro e w6 ⟨v460, rfl, ho0, hb⟩; have HO461 := aM (Kd.R_lower ho0 (below_size bB)); replace HB := aM (below_step bB hb); (try clear ho0))))
  (try simp only [Act.put, List.setIfInBounds_toArray, List.set_cons_zero, List.set_cons_succ])
  go_cut [29] (fun v29 wc => ∃ (kq : Nat) (x29_4 : Bool), v29 = .bool x29_4 ∧ Aside0 (impl_toldWord.j0 kq a0 t459 x29_4 = some (r1, r2)) ∧ Aside0 (kq ≤ k) ∧ Aside0 (Kd.R Kd.string 9 wc w.heap.size (fun _ => True) v460 t459) ∧ Aside0 (Below w.heap.size w wc))
  case first =>
   have H := HC5.out
   clear HC5
   by_cases c7 : (t459.length : Int) = 4
   ·rw [if_pos c7] at H
    have c7b0 : ((t459.length : Int) == 4) = true := beq_iff_eq.mpr c7
    have c7b1 : ((t459.length : Int) != 4) = false := bne_eq_false_iff_eq.mpr c7
    clear c7
    (first | rw [c7b0] | (simp only [i64_w, i32_w]; rw [c7b0]) | skip)
    by_cases c8 : 3 < (t459.length : Int)
    ·rw [if_pos c8] at H
     have c8b0 : decide (3 < (t459.length : Int)) = true := decide_eq_true c8
     have c8b1 : decide (3 < t459.length) = true := decide_eq_true (by omega)
     clear c8
     replace H := Option.bind_eq_some_iff.mp H
     obtain ⟨t463, A90, H⟩ := H
     replace H : (impl_toldWord.j0 k a0 t459 (!t463)) = some (r1, r2) := H
     have A9 := aM A90
     clear A90
     have H' := aM H
     clear H
     obtain ⟨Ao10, co10, eo10⟩ := Kd.R_slice HO461.out
     subst eo10
     have p462 : 0 ≤ (3 : Int) := (by omega)
     have q462 : 3 < (t459.length : Int) := pI
     obtain ⟨ad462, e462, hx462_0⟩ := Kd.at_string (Kd.R_reads' HO461.out).2.2 3 p462 q462
     cases e462
     (try simp only [show (3 : Int).toNat = 3 from rfl, Nat.reduceMul, Nat.reduceEqDiff, Go.Addr.add, ↓reduceIte] at hx462_0)
     have qi462 : (3 < t459.length) = True := eq_true (by omega)
     (try rw [show ((3 : Int)).toNat = 3 from rfl] at hx462_0)
     replace p462 := eq_true p462
     replace q462 := eq_true q462
     iterate 8 (go_wp2_with (first | (go_at_call 78; (with_reducible refine (strings_HasPrefix.calls (rdOf ByteArray.empty t459 3) (⟨#[61]⟩ : ByteArray) t463 _ A9.out).mono ?_); rintro e w' ⟨rfl, ⟨nd, rfl⟩⟩; (try first | exact ⟨rfl, _, World.drewN_drewN _ _ _⟩ | exact ⟨rfl, _, Eq.trans (World.drewN_drewN _ _ _) (congrArg (World.drewN _) (Nat.add_assoc _ _ _))⟩))); try go_quiet (first | (go_at_call 78; (with_reducible refine (strings_HasPrefix.calls (rdOf ByteArray.empty t459 3) (⟨#[61]⟩ : ByteArray) t463 _ A9.out).mono ?_); rintro e w' ⟨rfl, ⟨nd, rfl⟩⟩; (try first | exact ⟨rfl, _, World.drewN_drewN _ _ _⟩ | exact ⟨rfl, _, Eq.trans (World.drewN_drewN _ _ _) (congrArg (World.drewN _) (Nat.add_assoc _ _ _))⟩))))
     go_meet
     case rel => exact ⟨_, (!t463), bS, H', ⟨z29⟩, ⟨bR HO461⟩, ⟨bB⟩⟩
    rw [if_neg c8] at H
    exact absurd H (by simp)
   rw [if_neg c7] at H
   have c7b0 : ((t459.length : Int) == 4) = false := beq_eq_false_iff_ne.mpr c7
   have c7b1 : ((t459.length : Int) != 4) = true := bne_iff_ne.mpr c7
   (first | rw [c7b0] | (simp only [i64_w, i32_w]; rw [c7b0]) | skip)
   have H' := aM H
   clear H
   obtain ⟨Ao11, co11, eo11⟩ := Kd.R_slice HO461.out
   subst eo11
   go_wp2
   repeat (go_quiet (fail); try go_wp2)
   go_meet
   case rel => exact ⟨_, (true), bS, H', ⟨z29⟩, ⟨bR HO461⟩, ⟨bB⟩⟩
  case rest =>
   clear HC5
   try clear p2
   try clear c3
   try clear p4
   try clear q4
   try clear hx4
   try clear qi4
   try clear c5
   try clear c7
   try clear c7b0
   try clear c7b1
   try clear c8
   try clear c8b0
   try clear c8b1
   try clear hx462_0
   try clear p462
   try clear q462
   obtain ⟨kq, x29_4, rfl, HA, HJ4, HO_6, HB⟩ := hcut
   cases kq with
   | zero => exact absurd HA.out (by simp [impl_toldWord.j0])
   | succ kj4 =>
    have H := HA.out
    clear HA
    simp only [impl_toldWord.j0] at H
    by_cases c12 : x29_4 = true
    ·subst c12
     have H1 : (some (([] : List Int), 0)) = some (r1, r2) := z14
     clear H
     have H := H1
     clear H1
     simp only [Option.some.injEq, Prod.mk.injEq] at H
     obtain ⟨rfl, rfl⟩ := H
     go_wp2
     repeat (go_quiet (fail); try go_wp2)
     go_ret2
     exact ⟨_, bE, z3, bB⟩
    replace c12 := Bool.eq_false_iff.mpr c12
    subst c12
    have H1 : (if 0 < (t459.length : Int) then ((impl_CharsetOf.f kj4 (rdOf ByteArray.empty t459 0)).bind fun bt465 => (if bt465.1 = 0 then ((some (([] : List Int) : List Int)).bind fun y468 => (if 1 < (t459.length : Int) then (if (rdOf ByteArray.empty t459 1).toList = ([66] : List UInt8) then (impl_toldWord.j1 kj4 a0 t459 y468 (rdOf ByteArray.empty t459 1) ((rdOf ByteArray.empty t459 1).toList == ([66] : List UInt8)) bt465.1 bt465.2) else (impl_toldWord.j1 kj4 a0 t459 y468 (rdOf ByteArray.empty t459 1) ((rdOf ByteArray.empty t459 1).toList == ([98] : List UInt8)) bt465.1 bt465.2)) else (none))) else (some (([] : List Int), 0)))) else (none)) = some (r1, r2) := z5
    clear H
    have H := H1
    clear H1
    by_cases c13 : 0 < (t459.length : Int)
    ·rw [if_pos c13] at H
     have c13b0 : decide (0 < (t459.length : Int)) = true := decide_eq_true c13
     have c13b1 : decide (0 < t459.length) = true := decide_eq_true (by omega)
     clear c13
     replace H := Option.bind_eq_some_iff.mp H
     obtain ⟨⟨t465, t466⟩, A140, H⟩ := H
     replace H : (if t465 = 0 then ((some (([] : List Int) : List Int)).bind fun y468 => (if 1 < (t459.length : Int) then (if (rdOf ByteArray.empty t459 1).toList = ([66] : List UInt8) then (impl_toldWord.j1 kj4 a0 t459 y468 (rdOf ByteArray.empty t459 1) ((rdOf ByteArray.empty t459 1).toList == ([66] : List UInt8)) t465 t466) else (impl_toldWord.j1 kj4 a0 t459 y468 (rdOf ByteArray.empty t459 1) ((rdOf ByteArray.empty t459 1).toList == ([98] : List UInt8)) t465 t466)) else (none))) else (some (([] : List Int), 0))) = some (r1, r2) := H
     have A14 := aM A140
     clear A140
     have HQ_ := aM H
     clear H
     obtain ⟨Ao18, co18, eo18⟩ := Kd.R_slice HO_6.out
     subst eo18
     have p464 : 0 ≤ (0 : Int) := (by omega)
     have q464 : 0 < (t459.length : Int) := pI
     obtain ⟨ad464, e464, hx464_0⟩ := Kd.at_string (Kd.R_reads' HO_6.out).2.2 0 p464 q464
     cases e464
     have qi464 : (0 < t459.length) = True := eq_true (by omega)
     (try rw [show ((0 : Int)).toNat = 0 from rfl] at hx464_0)
     (try rw [Addr.add_zero'] at hx464_0)
     replace p464 := eq_true p464
     replace q464 := eq_true q464
     have H := HQ_.out
     clear HQ_
     by_cases c15 : t465 = 0
     ·rw [if_pos c15] at H
      have c15b0 : (t465 == 0) = true := beq_iff_eq.mpr c15
      have c15b1 : (t465 != 0) = false := bne_eq_false_iff_eq.mpr c15
      clear c15
      obtain ⟨y468, hy468⟩ : ∃ y_ : List Int, y_ = (([] : List Int)) := ⟨_, rfl⟩
      replace H : (if 1 < (t459.length : Int) then (if (rdOf ByteArray.empty t459 1).toList = ([66] : List UInt8) then (impl_toldWord.j1 kj4 a0 t459 y468 (rdOf ByteArray.empty t459 1) ((rdOf ByteArray.empty t459 1).toList == ([66] : List UInt8)) t465 t466) else (impl_toldWord.j1 kj4 a0 t459 y468 (rdOf ByteArray.empty t459 1) ((rdOf ByteArray.empty t459 1).toList == ([98] : List UInt8)) t465 t466)) else (none)) = some (r1, r2) := z0 hy468
      have Ny468 := aM hy468
      clear hy468
      (try simp only [c15b0, c15b1])
      by_cases c16 : 1 < (t459.length : Int)
      ·rw [if_pos c16] at H
       have c16b0 : decide (1 < (t459.length : Int)) = true := decide_eq_true c16
       have c16b1 : decide (1 < t459.length) = true := decide_eq_true (by omega)
       clear c16
       have HC17 := aM H
       clear H
       go_upto_if 41 with (first | (go_at_call 79; (with_reducible refine (impl_CharsetOf.calls kj4 (rdOf ByteArray.empty t459 0) t465 t466 _ A14.out).mono ?_); rintro e w19 ⟨rfl, hb⟩; replace HO_6 := aM (Kd.R_below (bR HO_6) hb); replace HB := aM (below_step bB hb); (try clear hi)) | ((with_reducible refine gate_dst (N := 7) rfl ?_); refine box_event ?hg (N := 7) ?hd (cs := #[.int .i64 0, .int .i64 0]) (t := 101) ?hr ?_; (case hd => rfl); (case hg => rfl); (case hr => exact z8); intro gb467 hg w20 hbox hb; replace HO_6 := aM (Kd.R_below (bR HO_6) hb); have BK467 := aM (hbox); have GW467 := aM ((z11 : w.heap.size ≤ gb467)); have GE467 := aM ((z11 : w.heap.size ≤ gb467)); replace HB := aM (below_step bB hb); clear hb hbox hg; have hcz21_0 : w20.cell? ⟨gb467, 0, none⟩ = some (.int .i64 0) := (blk_cell BK467.out 0).trans rfl; have hcz21_1 : w20.cell? ⟨gb467, 1, none⟩ = some (.int .i64 0) := (blk_cell BK467.out 1).trans rfl; have hfz21_0 := blk_frozen BK467.out 0; have hfz21_1 := blk_frozen BK467.out 1) | ((with_reducible refine gate_dst (N := 37) rfl ?_); refine Kd.R_lit (Kd.int .u8) _ 5 ?hg (N := 37) ?hd (xs := ([] : List Int)) (inner := []) (ok := fun _ => True) (okp := fun _ => True) ?hr ?hp (fun _ hk => hk) trivial (Below.refl _ _) (Nat.le_refl _) (by simp) ?_; (case hd => rfl); (case hg => rfl); (case hr => exact z8); (case hp => exact (Reps.none _ _)); intro v469 w22 ho23 hb hg_ hnew_; clear hg_ hnew_; (first | rw [← Ny468.out] at ho23 | (simp only [Int.reduceToNat] at ho23; rw [← Ny468.out] at ho23)); replace HO_6 := aM (Kd.R_below (by (with_reducible repeat (first | apply Kd.R_alloc | apply Kd.R_drewN | apply Kd.R_drew)); exact (Kd.R_mono (Kd.R_far (p := ⟨gb467, 1, none⟩) (Kd.R_far (p := ⟨gb467, 0, none⟩) (Kd.R_types HO_6.out BK467.out (by decide)) (fun _ hk => hk.2) (.int .i64 t465)) (fun _ hk => hk.2) (.int .i64 t466)) (fun _ h_ => h_.1))) hb); have HO470 := aM (Kd.R_lower ho23 (below_size (bG GE467))); replace BK467 := aM (blk_below (g := gb467) (o := .cells #[.int .i64 t465, .int .i64 t466] 101 (0, 0)) (by (with_reducible repeat (first | refine blk_drewN ?_ _ | refine blk_drew ?_ | refine blk_alloc ?_ _)); refine blk_put (cs := #[.int .i64 t465, .int .i64 0]) ?_ 1 _ rfl; (with_reducible repeat (first | refine blk_drewN ?_ _ | refine blk_drew ?_ | refine blk_alloc ?_ _)); refine blk_put (cs := #[.int .i64 0, .int .i64 0]) ?_ 0 _ rfl; (with_reducible repeat (first | refine blk_drewN ?_ _ | refine blk_drew ?_ | refine blk_alloc ?_ _)); exact BK467.out) hb); replace HB := aM (below_step (bG GE467) hb); clear hb ho23; have p471 : 0 ≤ (1 : Int) := (by omega); have q471 : 1 < (t459.length : Int) := pI; obtain ⟨ad471, e471, hx471_0⟩ := Kd.at_string (Kd.R_reads' HO_6.out).2.2 1 p471 q471; obtain rfl : ad464 = ad471 := (by injection e471); (try simp only [show (1 : Int).toNat = 1 from rfl, Nat.reduceMul, Nat.reduceEqDiff, Go.Addr.add, ↓reduceIte] at hx471_0); have qi471 : (1 < t459.length) = True := eq_true (by omega); (try rw [show ((1 : Int)).toNat = 1 from rfl] at hx471_0); replace p471 := eq_true p471; replace q471 := eq_true q471))
       repeat (go_quiet (fail); go_upto_if 41 with (first | (go_at_call 79; (with_reducible refine (impl_CharsetOf.calls kj4 (rdOf ByteArray.empty t459 0) t465 t466 _ A14.out).mono ?_); rintro e w19 ⟨rfl, hb⟩; replace HO_6 := aM (Kd.R_below (bR HO_6) hb); replace HB := aM (below_step bB hb); (try clear hi)) | ((with_reducible refine gate_dst (N := 7) rfl ?_); refine box_event ?hg (N := 7) ?hd (cs := #[.int .i64 0, .int .i64 0]) (t := 101) ?hr ?_; (case hd => rfl); (case hg => rfl); (case hr => exact z8); intro gb467 hg w20 hbox hb; replace HO_6 := aM (Kd.R_below (bR HO_6) hb); have BK467 := aM (hbox); have GW467 := aM ((z11 : w.heap.size ≤ gb467)); have GE467 := aM ((z11 : w.heap.size ≤ gb467)); replace HB := aM (below_step bB hb); clear hb hbox hg; have hcz21_0 : w20.cell? ⟨gb467, 0, none⟩ = some (.int .i64 0) := (blk_cell BK467.out 0).trans rfl; have hcz21_1 : w20.cell? ⟨gb467, 1, none⟩ = some (.int .i64 0) := (blk_cell BK467.out 1).trans rfl; have hfz21_0 := blk_frozen BK467.out 0; have hfz21_1 := blk_frozen BK467.out 1) | ((with_reducible refine gate_dst (N := 37) rfl ?_); refine Kd.R_lit (Kd.int .u8) _ 5 ?hg (N := 37) ?hd (xs := ([] : List Int)) (inner := []) (ok := fun _ => True) (okp := fun _ => True) ?hr ?hp (fun _ hk => hk) trivial (Below.refl _ _) (Nat.le_refl _) (by simp) ?_; (case hd => rfl); (case hg => rfl); (case hr => exact z8); (case hp => exact (Reps.none _ _)); intro v469 w22 ho23 hb hg_ hnew_; clear hg_ hnew_; (first | rw [← Ny468.out] at ho23 | (simp only [Int.reduceToNat] at ho23; rw [← Ny468.out] at ho23)); replace HO_6 := aM (Kd.R_below (by (with_reducible repeat (first | apply Kd.R_alloc | apply Kd.R_drewN | apply Kd.R_drew)); exact (Kd.R_mono (Kd.R_far (p := ⟨gb467, 1, none⟩) (Kd.R_far (p := ⟨gb467, 0, none⟩) (Kd.R_types HO_6.out BK467.out (by decide)) (fun _ hk => hk.2) (.int .i64 t465)) (fun _ hk => hk.2) (.int .i64 t466)) (fun _ h_ => h_.1))) hb); have HO470 := aM (Kd.R_lower ho23 (below_size (bG GE467))); replace BK467 := aM (blk_below (g := gb467) (o := .cells #[.int .i64 t465, .int .i64 t466] 101 (0, 0)) (by (with_reducible repeat (first | refine blk_drewN ?_ _ | refine blk_drew ?_ | refine blk_alloc ?_ _)); refine blk_put (cs := #[.int .i64 t465, .int .i64 0]) ?_ 1 _ rfl; (with_reducible repeat (first | refine blk_drewN ?_ _ | refine blk_drew ?_ | refine blk_alloc ?_ _)); refine blk_put (cs := #[.int .i64 0, .int .i64 0]) ?_ 0 _ rfl; (with_reducible repeat (first | refine blk_drewN ?_ _ | refine blk_drew ?_ | refine blk_alloc ?_ _)); exact BK467.out) hb); replace HB := aM (below_step (bG GE467) hb); clear hb ho23; have p471 : 0 ≤ (1 : Int) := (by omega); have q471 : 1 < (t459.length : Int) := pI; obtain ⟨ad471, e471, hx471_0⟩ := Kd.at_string (Kd.R_reads' HO_6.out).2.2 1 p471 q471; obtain rfl : ad464 = ad471 := (by injection e471); (try simp only [show (1 : Int).toNat = 1 from rfl, Nat.reduceMul, Nat.reduceEqDiff, Go.Addr.add, ↓reduceIte] at hx471_0); have qi471 : (1 < t459.length) = True := eq_true (by omega); (try rw [show ((1 : Int)).toNat = 1 from rfl] at hx471_0); replace p471 := eq_true p471; replace q471 := eq_true q471)))
       (try simp only [Act.put, List.setIfInBounds_toArray, List.set_cons_zero, List.set_cons_succ])
       go_cut [41] (fun v41 wc => ∃ (kq : Nat) (x41_16 : Bool), v41 = .bool x41_16 ∧ Aside0 (impl_toldWord.j1 kq a0 t459 y468 (rdOf ByteArray.empty t459 1) x41_16 t465 t466 = some (r1, r2)) ∧ Aside0 (kq ≤ kj4) ∧ Aside0 (Kd.R Kd.string 9 wc w.heap.size (fun _ => True) (.slice (some ad464) t459.length co18) t459) ∧ Aside0 (Kd.R (Kd.int .u8) 5 wc w.heap.size (fun _ => True) v469 y468) ∧ Aside0 (wc.heap[gb467]? = some (.cells #[.int .i64 t465, .int .i64 t466] 101 (0, 0))) ∧ Aside0 (Below w.heap.size w wc))
       case first =>
        have H := HC17.out
        clear HC17
        by_cases c24 : (rdOf ByteArray.empty t459 1).toList = ([66] : List UInt8)
        ·rw [if_pos c24] at H
         have c24b0 : ((rdOf ByteArray.empty t459 1).toList == ([66] : List UInt8)) = true := beq_iff_eq.mpr c24
         have c24b1 : ((rdOf ByteArray.empty t459 1).toList != ([66] : List UInt8)) = false := bne_eq_false_iff_eq.mpr c24
         clear c24
         (first | rw [c24b0] | (simp only [i64_w, i32_w]; rw [c24b0]) | skip)
         have H' := aM H
         clear H
         go_wp2
         repeat (go_quiet (fail); try go_wp2)
         go_meet
         case rel => exact ⟨_, (((rdOf ByteArray.empty t459 1).toList == ([66] : List UInt8))), bS, H', ⟨z27 HJ4.out⟩, ⟨bR HO_6⟩, ⟨bR HO470⟩, ⟨bL BK467⟩, ⟨bG GE467⟩⟩
        rw [if_neg c24] at H
        have c24b0 : ((rdOf ByteArray.empty t459 1).toList == ([66] : List UInt8)) = false := beq_eq_false_iff_ne.mpr c24
        have c24b1 : ((rdOf ByteArray.empty t459 1).toList != ([66] : List UInt8)) = true := bne_iff_ne.mpr c24
        (first | rw [c24b0] | (simp only [i64_w, i32_w]; rw [c24b0]) | skip)
        have H' := aM H
        clear H
        go_wp2
        repeat (go_quiet (fail); try go_wp2)
        go_meet
        case rel => exact ⟨_, (((rdOf ByteArray.empty t459 1).toList == ([98] : List UInt8))), bS, H', ⟨z27 HJ4.out⟩, ⟨bR HO_6⟩, ⟨bR HO470⟩, ⟨bL BK467⟩, ⟨bG GE467⟩⟩
       case rest =>
        clear HC17
        try clear c1
        try clear c2
        try clear p2
        try clear c3
        try clear p4
        try clear q4
        try clear hx4
        try clear qi4
        try clear c5
        try clear c7
        try clear c7b0
        try clear c7b1
        try clear c8
        try clear c8b0
        try clear c8b1
        try clear c12
        try clear c13
        try clear c13b0
        try clear c13b1
        try clear c15
        try clear c15b0
        try clear c15b1
        try clear c16
        try clear c16b0
        try clear c16b1
        try clear c24
        try clear c24b0
        try clear c24b1
        try clear hcz21_0
        try clear hcz21_1
        try clear hfz21_0
        try clear hfz21_1
        try clear hx462_0
        try clear hx464_0
        try clear hx471_0
        try clear p2
        try clear p4
        try clear p462
        try clear p464
        try clear p471
        try clear q4
        try clear q462
        try clear q464
        try clear q471
        obtain ⟨kq, x41_16, rfl, HA, HJ16, HO_6, HO_8, BK467, HB⟩ := hcut
        cases kq with
        | zero => exact absurd HA.out (by simp [impl_toldWord.j1])
        | succ kj16 =>
         have H := HA.out
         clear HA
         simp only [impl_toldWord.j1] at H
         by_cases c25 : x41_16 = true
         ·subst c25
          have H1 : (if 2 < (t459.length : Int) then ((impl_DecodeBase.f kj16 (rdOf ByteArray.empty t459 2)).bind fun bt473 => ((impl_DecodeText.f kj16 t466 bt473.2).bind fun bt478 => (if bt473.1 = 0 then (if bt478.1 = 0 then (if 3 < (t459.length : Int) then (some (bt478.2, wrap64 ((wrap64 ((a0.size : Int) - ((rdOf ByteArray.empty t459 3).size : Int))) + 1))) else (none)) else (some (([] : List Int), 0))) else (some (([] : List Int), 0))))) else (none)) = some (r1, r2) := z14
          clear H
          have H := H1
          clear H1
          by_cases c26 : 2 < (t459.length : Int)
          ·rw [if_pos c26] at H
           have c26b0 : decide (2 < (t459.length : Int)) = true := decide_eq_true c26
           have c26b1 : decide (2 < t459.length) = true := decide_eq_true (by omega)
           clear c26
           replace H := Option.bind_eq_some_iff.mp H
           obtain ⟨⟨t473, t474⟩, A270, H⟩ := H
           replace H : ((impl_DecodeText.f kj16 t466 t474).bind fun bt478 => (if t473 = 0 then (if bt478.1 = 0 then (if 3 < (t459.length : Int) then (some (bt478.2, wrap64 ((wrap64 ((a0.size : Int) - ((rdOf ByteArray.empty t459 3).size : Int))) + 1))) else (none)) else (some (([] : List Int), 0))) else (some (([] : List Int), 0)))) = some (r1, r2) := H
           have A27 := aM A270
           clear A270
           replace H := Option.bind_eq_some_iff.mp H
           obtain ⟨⟨t478, t479⟩, A280, H⟩ := H
           replace H : (if t473 = 0 then (if t478 = 0 then (if 3 < (t459.length : Int) then (some (t479, wrap64 ((wrap64 ((a0.size : Int) - ((rdOf ByteArray.empty t459 3).size : Int))) + 1))) else (none)) else (some (([] : List Int), 0))) else (some (([] : List Int), 0))) = some (r1, r2) := H
           have A28 := aM A280
           clear A280
           have HQ_ := aM H
           clear H
           have p472 : 0 ≤ (2 : Int) := (by omega)
           have q472 : 2 < (t459.length : Int) := pI
           obtain ⟨ad472, e472, hx472_0⟩ := Kd.at_string (Kd.R_reads' HO_6.out).2.2 2 p472 q472
           obtain rfl : ad464 = ad472 := (by injection e472)
           (try simp only [show (2 : Int).toNat = 2 from rfl, Nat.reduceMul, Nat.reduceEqDiff, Go.Addr.add, ↓reduceIte] at hx472_0)
           have qi472 : (2 < t459.length) = True := eq_true (by omega)
           (try rw [show ((2 : Int)).toNat = 2 from rfl] at hx472_0)
           replace p472 := eq_true p472
           replace q472 := eq_true q472
           have H := HQ_.out
           clear HQ_
           by_cases c29 : t473 = 0
           ·rw [if_pos c29] at H
            have c29b0 : (t473 == 0) = true := beq_iff_eq.mpr c29
            have c29b1 : (t473 != 0) = false := bne_eq_false_iff_eq.mpr c29
            clear c29
            (try simp only [c29b0, c29b1])
            by_cases c30 : t478 = 0
            ·rw [if_pos c30] at H
             have c30b0 : (t478 == 0) = true := beq_iff_eq.mpr c30
             have c30b1 : (t478 != 0) = false := bne_eq_false_iff_eq.mpr c30
             clear c30
             (try simp only [c30b0, c30b1])
             by_cases c31 : 3 < (t459.length : Int)
             ·rw [if_pos c31] at H
              have c31b0 : decide (3 < (t459.length : Int)) = true := decide_eq_true c31
              have c31b1 : decide (3 < t459.length) = true := decide_eq_true (by omega)
              clear c31
              simp only [Option.some.injEq, Prod.mk.injEq] at H
              obtain ⟨rfl, rfl⟩ := H
              iterate 8 (go_wp2_with (first | (go_at_call 80; (with_reducible refine (impl_DecodeBase.calls kj16 (rdOf ByteArray.empty t459 2) t473 t474 _ A27.out).mono ?_); rintro e w32 ⟨v475, rfl, ho0, hb⟩; replace HO_6 := aM (Kd.R_below (bR HO_6) hb); have HO476 := aM (Kd.R_lower (Kd.R_new' ho0 (Kd.R_lt (bR HO_8))) (below_size (bG GE467))); replace HO_8 := aM (Kd.R_elder' (bR HO_8) (Kd.R_base ho0) hb); replace BK467 := aM (blk_below (g := gb467) (o := .cells #[.int .i64 t465, .int .i64 t466] 101 (0, 0)) (bL BK467) hb); replace HB := aM (below_step (bG GE467) hb); (try clear ho0)) | ((with_reducible refine gate_dst (N := 9) rfl ?_); refine box_event ?hg (N := 9) ?hd (cs := #[.int .i64 0, .slice none 0 0]) (t := 104) ?hr ?_; (case hd => rfl); (case hg => rfl); (case hr => exact z8); intro gb477 hg w33 hbox hb; replace HO_6 := aM (Kd.R_below (bR HO_6) hb); replace HO_8 := aM (Kd.R_below (bR HO_8) hb); replace HO476 := aM (Kd.R_below (bR HO476) hb); have BK477 := aM (hbox); have GW477 := aM ((z36 : w.heap.size ≤ gb477)); have GE477 := aM ((z36 : w.heap.size ≤ gb477)); replace HB := aM (below_step (bG GE467) hb); have NB467_477 := aM ((z25 : gb467 ≠ gb477)); have NB477_467 := aM ((z24 : gb477 ≠ gb467)); replace BK467 := aM (blk_below (g := gb467) (o := .cells #[.int .i64 t465, .int .i64 t466] 101 (0, 0)) (bL BK467) hb); clear hb hbox hg; have hnb34 := NB477_467.out; have hnc34 := NB467_477.out; have hcz35_0 : w33.cell? ⟨gb477, 0, none⟩ = some (.int .i64 0) := (blk_cell BK477.out 0).trans rfl; have hcz35_1 : w33.cell? ⟨gb477, 1, none⟩ = some (.slice none 0 0) := (blk_cell BK477.out 1).trans rfl; have hfz35_0 := blk_frozen BK477.out 0; have hfz35_1 := blk_frozen BK477.out 1; obtain ⟨Ao36, co36, eo36⟩ := Kd.R_slice HO476.out; subst eo36; have hcz37_0 : w33.cell? ⟨gb467, 0, none⟩ = some (.int .i64 t465) := (blk_cell BK467.out 0).trans rfl; have hcz37_1 : w33.cell? ⟨gb467, 1, none⟩ = some (.int .i64 t466) := (blk_cell BK467.out 1).trans rfl; have hfz37_0 := blk_frozen BK467.out 0; have hfz37_1 := blk_frozen BK467.out 1) | (go_at_call 82; (with_reducible refine (impl_DecodeText.calls kj16 t466 _ _ t474 t478 t479 _ ?side1 ?side2 A28.out).mono ?_); (case side1 => refine (Kd.R_reads' (e := 5) (base := w.heap.size) (ok := fun k_ => (True ∧ some k_ ≠ (v469 : Value).ownBlock)) (n := t474.length) (c := co36) ?_).2.2; exact (z23 HO476.out BK477.out)); (case side2 => exact (Kd.R_reads' HO476.out).2.1); rintro e w38 ⟨v480, rfl, ho0, hb⟩; replace HO_6 := aM (Kd.R_below (z23 HO_6.out BK477.out) hb); replace HO_8 := aM (Kd.R_below (z23 HO_8.out BK477.out) hb); replace HO476 := aM (Kd.R_below (z23 HO476.out BK477.out) hb); have HO481 := aM (Kd.R_lower ho0 (below_size (bG2 GE467 GE477))); replace BK467 := aM (blk_below (g := gb467) (o := .cells #[.int .i64 t465, .int .i64 t466] 101 (0, 0)) (z12 NB467_477.out BK467.out) hb); replace BK477 := aM (blk_below (g := gb477) (o := .cells #[.int .i64 t473, .slice Ao36 t474.length co36] 104 (0, 0)) (z19 BK477.out) hb); replace HB := aM (below_step (bG2 GE467 GE477) hb); (try clear ho0)) | ((with_reducible refine gate_dst (N := 10) rfl ?_); refine box_event ?hg (N := 10) ?hd (cs := #[.int .i64 0, .slice none 0 0]) (t := 25) ?hr ?_; (case hd => rfl); (case hg => rfl); (case hr => exact z8); intro gb482 hg w39 hbox hb; replace HO_6 := aM (Kd.R_below (bR HO_6) hb); replace HO_8 := aM (Kd.R_below (bR HO_8) hb); replace HO476 := aM (Kd.R_below (bR HO476) hb); replace HO481 := aM (Kd.R_below (bR HO481) hb); have BK482 := aM (hbox); have GW482 := aM ((z53 : w.heap.size ≤ gb482)); have GE482 := aM ((z53 : w.heap.size ≤ gb482)); replace HB := aM (below_step (bG2 GE467 GE477) hb); have NB467_482 := aM ((z25 : gb467 ≠ gb482)); have NB482_467 := aM ((z24 : gb482 ≠ gb467)); replace BK467 := aM (blk_below (g := gb467) (o := .cells #[.int .i64 t465, .int .i64 t466] 101 (0, 0)) (bL BK467) hb); have NB477_482 := aM ((by rw [hg]; exact Nat.ne_of_lt (blk_lt (g := gb477) (o := .cells #[.int .i64 t473, .slice Ao36 t474.length co36] 104 (0, 0)) (bL BK477)) : gb477 ≠ gb482)); have NB482_477 := aM ((by rw [hg]; exact Nat.ne_of_gt (blk_lt (g := gb477) (o := .cells #[.int .i64 t473, .slice Ao36 t474.length co36] 104 (0, 0)) (bL BK477)) : gb482 ≠ gb477)); replace BK477 := aM (blk_below (g := gb477) (o := .cells #[.int .i64 t473, .slice Ao36 t474.length co36] 104 (0, 0)) (bL BK477) hb); clear hb hbox hg; have hnb40 := NB482_467.out; have hnc40 := NB467_482.out; have hnb41 := NB482_477.out; have hnc41 := NB477_482.out; have hcz42_0 : w39.cell? ⟨gb482, 0, none⟩ = some (.int .i64 0) := (blk_cell BK482.out 0).trans rfl; have hcz42_1 : w39.cell? ⟨gb482, 1, none⟩ = some (.slice none 0 0) := (blk_cell BK482.out 1).trans rfl; have hfz42_0 := blk_frozen BK482.out 0; have hfz42_1 := blk_frozen BK482.out 1; obtain ⟨Ao43, co43, eo43⟩ := Kd.R_slice HO481.out; subst eo43; have p483 : 0 ≤ (3 : Int) := (by omega); have q483 : 3 < (t459.length : Int) := pI; obtain ⟨ad483, e483, hx483_0⟩ := Kd.at_string (Kd.R_reads' HO_6.out).2.2 3 p483 q483; obtain rfl : ad464 = ad483 := (by injection e483); (try simp only [show (3 : Int).toNat = 3 from rfl, Nat.reduceMul, Nat.reduceEqDiff, Go.Addr.add, ↓reduceIte] at hx483_0); have qi483 : (3 < t459.length) = True := eq_true (by omega); (try rw [show ((3 : Int)).toNat = 3 from rfl] at hx483_0); have hn483_0 : ad464.block ≠ gb482 := Kd.own_blk (Kd.R_ne HO_6.out BK482.out (by decide)); have hn483_1 : ad464.block ≠ gb482 := Kd.own_blk (Kd.R_ne HO_6.out BK482.out (by decide)); replace hx483_0 := (cell_far (p := ⟨gb482, 0, none⟩) (by first | (rw [add_block]; exact hn483_0) | (show (Addr.add _ _).block ≠ _; rw [add_block]; exact hn483_0) | exact hn483_0) (.int .i64 t478)).trans hx483_0; replace hx483_0 := (cell_far (p := ⟨gb482, 1, none⟩) (by first | (rw [add_block]; exact hn483_1) | (show (Addr.add _ _).block ≠ _; rw [add_block]; exact hn483_1) | exact hn483_1) (.slice Ao43 t479.length co43)).trans hx483_0; (try have hy483_0 := fun (n_ : Nat) => (show ((((w39.drewN n_).setCell ⟨gb482, 0, none⟩ (.int .i64 t478)).setCell ⟨gb482, 1, none⟩ (.slice Ao43 t479.length co43))).cell? _ = some _ from hx483_0)); clear hn483_0; clear hn483_1; replace p483 := eq_true p483; replace q483 := eq_true q483)); try go_quiet (fail))
              go_ret2
              exact ⟨_, bE, by (with_reducible repeat (first | apply Kd.R_alloc | apply Kd.R_drewN | apply Kd.R_drew)); exact Kd.R_mono (Kd.R_far (p := ⟨gb482, 1, none⟩) (Kd.R_far (p := ⟨gb482, 0, none⟩) (Kd.R_types HO481.out BK482.out (by decide)) (fun _ hk => hk.2) (.int .i64 t478)) (fun _ hk => hk.2) (.slice Ao43 t479.length co43)) (fun _ hk => trivial), z26 GE467.out GE477.out GE482.out⟩
             rw [if_neg c31] at H
             exact absurd H (by simp)
            rw [if_neg c30] at H
            have c30b0 : (t478 == 0) = false := beq_eq_false_iff_ne.mpr c30
            have c30b1 : (t478 != 0) = true := bne_iff_ne.mpr c30
            simp only [Option.some.injEq, Prod.mk.injEq] at H
            obtain ⟨rfl, rfl⟩ := H
            (try simp only [c30b0, c30b1])
            iterate 8 (go_wp2_with (first | (go_at_call 80; (with_reducible refine (impl_DecodeBase.calls kj16 (rdOf ByteArray.empty t459 2) t473 t474 _ A27.out).mono ?_); rintro e w44 ⟨v475, rfl, ho0, hb⟩; replace HO_6 := aM (Kd.R_below (bR HO_6) hb); have HO476 := aM (Kd.R_lower (Kd.R_new' ho0 (Kd.R_lt (bR HO_8))) (below_size (bG GE467))); replace HO_8 := aM (Kd.R_elder' (bR HO_8) (Kd.R_base ho0) hb); replace BK467 := aM (blk_below (g := gb467) (o := .cells #[.int .i64 t465, .int .i64 t466] 101 (0, 0)) (bL BK467) hb); replace HB := aM (below_step (bG GE467) hb); (try clear ho0)) | ((with_reducible refine gate_dst (N := 9) rfl ?_); refine box_event ?hg (N := 9) ?hd (cs := #[.int .i64 0, .slice none 0 0]) (t := 104) ?hr ?_; (case hd => rfl); (case hg => rfl); (case hr => exact z8); intro gb477 hg w45 hbox hb; replace HO_6 := aM (Kd.R_below (bR HO_6) hb); replace HO_8 := aM (Kd.R_below (bR HO_8) hb); replace HO476 := aM (Kd.R_below (bR HO476) hb); have BK477 := aM (hbox); have GW477 := aM ((z36 : w.heap.size ≤ gb477)); have GE477 := aM ((z36 : w.heap.size ≤ gb477)); replace HB := aM (below_step (bG GE467) hb); have NB467_477 := aM ((z25 : gb467 ≠ gb477)); have NB477_467 := aM ((z24 : gb477 ≠ gb467)); replace BK467 := aM (blk_below (g := gb467) (o := .cells #[.int .i64 t465, .int .i64 t466] 101 (0, 0)) (bL BK467) hb); clear hb hbox hg; have hnb46 := NB477_467.out; have hnc46 := NB467_477.out; have hcz47_0 : w45.cell? ⟨gb477, 0, none⟩ = some (.int .i64 0) := (blk_cell BK477.out 0).trans rfl; have hcz47_1 : w45.cell? ⟨gb477, 1, none⟩ = some (.slice none 0 0) := (blk_cell BK477.out 1).trans rfl; have hfz47_0 := blk_frozen BK477.out 0; have hfz47_1 := blk_frozen BK477.out 1; obtain ⟨Ao48, co48, eo48⟩ := Kd.R_slice HO476.out; subst eo48; have hcz49_0 : w45.cell? ⟨gb467, 0, none⟩ = some (.int .i64 t465) := (blk_cell BK467.out 0).trans rfl; have hcz49_1 : w45.cell? ⟨gb467, 1, none⟩ = some (.int .i64 t466) := (blk_cell BK467.out 1).trans rfl; have hfz49_0 := blk_frozen BK467.out 0; have hfz49_1 := blk_frozen BK467.out 1) | (go_at_call 82; (with_reducible refine (impl_DecodeText.calls kj16 t466 _ _ t474 t478 t479 _ ?side1 ?side2 A28.out).mono ?_); (case side1 => refine (Kd.R_reads' (e := 5) (base := w.heap.size) (ok := fun k_ => (True ∧ some k_ ≠ (v469 : Value).ownBlock)) (n := t474.length) (c := co48) ?_).2.2; exact (z21 HO476.out BK477.out)); (case side2 => exact (Kd.R_reads' HO476.out).2.1); rintro e w50 ⟨v480, rfl, ho0, hb⟩; replace HO_6 := aM (Kd.R_below (z21 HO_6.out BK477.out) hb); replace HO_8 := aM (Kd.R_below (z21 HO_8.out BK477.out) hb); replace HO476 := aM (Kd.R_below (z21 HO476.out BK477.out) hb); have HO481 := aM (Kd.R_lower ho0 (below_size (bG2 GE467 GE477))); replace BK467 := aM (blk_below (g := gb467) (o := .cells #[.int .i64 t465, .int .i64 t466] 101 (0, 0)) (z12 NB467_477.out BK467.out) hb); replace BK477 := aM (blk_below (g := gb477) (o := .cells #[.int .i64 t473, .slice Ao48 t474.length co48] 104 (0, 0)) (z19 BK477.out) hb); replace HB := aM (below_step (bG2 GE467 GE477) hb); (try clear ho0)) | ((with_reducible refine gate_dst (N := 10) rfl ?_); refine box_event ?hg (N := 10) ?hd (cs := #[.int .i64 0, .slice none 0 0]) (t := 25) ?hr ?_; (case hd => rfl); (case hg => rfl); (case hr => exact z8); intro gb482 hg w51 hbox hb; replace HO_6 := aM (Kd.R_below (bR HO_6) hb); replace HO_8 := aM (Kd.R_below (bR HO_8) hb); replace HO476 := aM (Kd.R_below (bR HO476) hb); replace HO481 := aM (Kd.R_below (bR HO481) hb); have BK482 := aM (hbox); have GW482 := aM ((z53 : w.heap.size ≤ gb482)); have GE482 := aM ((z53 : w.heap.size ≤ gb482)); replace HB := aM (below_step (bG2 GE467 GE477) hb); have NB467_482 := aM ((z25 : gb467 ≠ gb482)); have NB482_467 := aM ((z24 : gb482 ≠ gb467)); replace BK467 := aM (blk_below (g := gb467) (o := .cells #[.int .i64 t465, .int .i64 t466] 101 (0, 0)) (bL BK467) hb); have NB477_482 := aM ((by rw [hg]; exact Nat.ne_of_lt (blk_lt (g := gb477) (o := .cells #[.int .i64 t473, .slice Ao48 t474.length co48] 104 (0, 0)) (bL BK477)) : gb477 ≠ gb482)); have NB482_477 := aM ((by rw [hg]; exact Nat.ne_of_gt (blk_lt (g := gb477) (o := .cells #[.int .i64 t473, .slice Ao48 t474.length co48] 104 (0, 0)) (bL BK477)) : gb482 ≠ gb477)); replace BK477 := aM (blk_below (g := gb477) (o := .cells #[.int .i64 t473, .slice Ao48 t474.length co48] 104 (0, 0)) (bL BK477) hb); clear hb hbox hg; have hnb52 := NB482_467.out; have hnc52 := NB467_482.out; have hnb53 := NB482_477.out; have hnc53 := NB477_482.out; have hcz54_0 : w51.cell? ⟨gb482, 0, none⟩ = some (.int .i64 0) := (blk_cell BK482.out 0).trans rfl; have hcz54_1 : w51.cell? ⟨gb482, 1, none⟩ = some (.slice none 0 0) := (blk_cell BK482.out 1).trans rfl; have hfz54_0 := blk_frozen BK482.out 0; have hfz54_1 := blk_frozen BK482.out 1; obtain ⟨Ao55, co55, eo55⟩ := Kd.R_slice HO481.out; subst eo55)); try go_quiet (fail))
            go_ret2
            exact ⟨_, bE, z3, z26 GE467.out GE477.out GE482.out⟩
           rw [if_neg c29] at H
           have c29b0 : (t473 == 0) = false := beq_eq_false_iff_ne.mpr c29
           have c29b1 : (t473 != 0) = true := bne_iff_ne.mpr c29
           simp only [Option.some.injEq, Prod.mk.injEq] at H
           obtain ⟨rfl, rfl⟩ := H
           (try simp only [c29b0, c29b1])
           iterate 8 (go_wp2_with (first | (go_at_call 80; (with_reducible refine (impl_DecodeBase.calls kj16 (rdOf ByteArray.empty t459 2) t473 t474 _ A27.out).mono ?_); rintro e w56 ⟨v475, rfl, ho0, hb⟩; replace HO_6 := aM (Kd.R_below (bR HO_6) hb); have HO476 := aM (Kd.R_lower (Kd.R_new' ho0 (Kd.R_lt (bR HO_8))) (below_size (bG GE467))); replace HO_8 := aM (Kd.R_elder' (bR HO_8) (Kd.R_base ho0) hb); replace BK467 := aM (blk_below (g := gb467) (o := .cells #[.int .i64 t465, .int .i64 t466] 101 (0, 0)) (bL BK467) hb); replace HB := aM (below_step (bG GE467) hb); (try clear ho0)) | ((with_reducible refine gate_dst (N := 9) rfl ?_); refine box_event ?hg (N := 9) ?hd (cs := #[.int .i64 0, .slice none 0 0]) (t := 104) ?hr ?_; (case hd => rfl); (case hg => rfl); (case hr => exact z8); intro gb477 hg w57 hbox hb; replace HO_6 := aM (Kd.R_below (bR HO_6) hb); replace HO_8 := aM (Kd.R_below (bR HO_8) hb); replace HO476 := aM (Kd.R_below (bR HO476) hb); have BK477 := aM (hbox); have GW477 := aM ((z36 : w.heap.size ≤ gb477)); have GE477 := aM ((z36 : w.heap.size ≤ gb477)); replace HB := aM (below_step (bG GE467) hb); have NB467_477 := aM ((z25 : gb467 ≠ gb477)); have NB477_467 := aM ((z24 : gb477 ≠ gb467)); replace BK467 := aM (blk_below (g := gb467) (o := .cells #[.int .i64 t465, .int .i64 t466] 101 (0, 0)) (bL BK467) hb); clear hb hbox hg; have hnb58 := NB477_467.out; have hnc58 := NB467_477.out; have hcz59_0 : w57.cell? ⟨gb477, 0, none⟩ = some (.int .i64 0) := (blk_cell BK477.out 0).trans rfl; have hcz59_1 : w57.cell? ⟨gb477, 1, none⟩ = some (.slice none 0 0) := (blk_cell BK477.out 1).trans rfl; have hfz59_0 := blk_frozen BK477.out 0; have hfz59_1 := blk_frozen BK477.out 1; obtain ⟨Ao60, co60, eo60⟩ := Kd.R_slice HO476.out; subst eo60; have hcz61_0 : w57.cell? ⟨gb467, 0, none⟩ = some (.int .i64 t465) := (blk_cell BK467.out 0).trans rfl; have hcz61_1 : w57.cell? ⟨gb467, 1, none⟩ = some (.int .i64 t466) := (blk_cell BK467.out 1).trans rfl; have hfz61_0 := blk_frozen BK467.out 0; have hfz61_1 := blk_frozen BK467.out 1) | (go_at_call 82; (with_reducible refine (impl_DecodeText.calls kj16 t466 _ _ t474 t478 t479 _ ?side1 ?side2 A28.out).mono ?_); (case side1 => refine (Kd.R_reads' (e := 5) (base := w.heap.size) (ok := fun k_ => (True ∧ some k_ ≠ (v469 : Value).ownBlock)) (n := t474.length) (c := co60) ?_).2.2; exact (z22 HO476.out BK477.out)); (case side2 => exact (Kd.R_reads' HO476.out).2.1); rintro e w62 ⟨v480, rfl, ho0, hb⟩; replace HO_6 := aM (Kd.R_below (z22 HO_6.out BK477.out) hb); replace HO_8 := aM (Kd.R_below (z22 HO_8.out BK477.out) hb); replace HO476 := aM (Kd.R_below (z22 HO476.out BK477.out) hb); have HO481 := aM (Kd.R_lower ho0 (below_size (bG2 GE467 GE477))); replace BK467 := aM (blk_below (g := gb467) (o := .cells #[.int .i64 t465, .int .i64 t466] 101 (0, 0)) (z12 NB467_477.out BK467.out) hb); replace BK477 := aM (blk_below (g := gb477) (o := .cells #[.int .i64 t473, .slice Ao60 t474.length co60] 104 (0, 0)) (z19 BK477.out) hb); replace HB := aM (below_step (bG2 GE467 GE477) hb); (try clear ho0)) | ((with_reducible refine gate_dst (N := 10) rfl ?_); refine box_event ?hg (N := 10) ?hd (cs := #[.int .i64 0, .slice none 0 0]) (t := 25) ?hr ?_; (case hd => rfl); (case hg => rfl); (case hr => exact z8); intro gb482 hg w63 hbox hb; replace HO_6 := aM (Kd.R_below (bR HO_6) hb); replace HO_8 := aM (Kd.R_below (bR HO_8) hb); replace HO476 := aM (Kd.R_below (bR HO476) hb); replace HO481 := aM (Kd.R_below (bR HO481) hb); have BK482 := aM (hbox); have GW482 := aM ((z53 : w.heap.size ≤ gb482)); have GE482 := aM ((z53 : w.heap.size ≤ gb482)); replace HB := aM (below_step (bG2 GE467 GE477) hb); have NB467_482 := aM ((z25 : gb467 ≠ gb482)); have NB482_467 := aM ((z24 : gb482 ≠ gb467)); replace BK467 := aM (blk_below (g := gb467) (o := .cells #[.int .i64 t465, .int .i64 t466] 101 (0, 0)) (bL BK467) hb); have NB477_482 := aM ((by rw [hg]; exact Nat.ne_of_lt (blk_lt (g := gb477) (o := .cells #[.int .i64 t473, .slice Ao60 t474.length co60] 104 (0, 0)) (bL BK477)) : gb477 ≠ gb482)); have NB482_477 := aM ((by rw [hg]; exact Nat.ne_of_gt (blk_lt (g := gb477) (o := .cells #[.int .i64 t473, .slice Ao60 t474.length co60] 104 (0, 0)) (bL BK477)) : gb482 ≠ gb477)); replace BK477 := aM (blk_below (g := gb477) (o := .cells #[.int .i64 t473, .slice Ao60 t474.length co60] 104 (0, 0)) (bL BK477) hb); clear hb hbox hg; have hnb64 := NB482_467.out; have hnc64 := NB467_482.out; have hnb65 := NB482_477.out; have hnc65 := NB477_482.out; have hcz66_0 : w63.cell? ⟨gb482, 0, none⟩ = some (.int .i64 0) := (blk_cell BK482.out 0).trans rfl; have hcz66_1 : w63.cell? ⟨gb482, 1, none⟩ = some (.slice none 0 0) := (blk_cell BK482.out 1).trans rfl; have hfz66_0 := blk_frozen BK482.out 0; have hfz66_1 := blk_frozen BK482.out 1; obtain ⟨Ao67, co67, eo67⟩ := Kd.R_slice HO481.out; subst eo67)); try go_quiet (fail))
           go_ret2
           exact ⟨_, bE, z3, z26 GE467.out GE477.out GE482.out⟩
          rw [if_neg c26] at H
          exact absurd H (by simp)
         replace c25 := Bool.eq_false_iff.mpr c25
         subst c25
         have H1 : (if (rdOf ByteArray.empty t459 1).toList = ([81] : List UInt8) then (impl_toldWord.j2 kj16 a0 t459 y468 ((rdOf ByteArray.empty t459 1).toList == ([81] : List UInt8)) t465 t466) else (impl_toldWord.j2 kj16 a0 t459 y468 ((rdOf ByteArray.empty t459 1).toList == ([113] : List UInt8)) t465 t466)) = some (r1, r2) := z5
         clear H
         have H := H1
         clear H1
         have HC68 := aM H
         clear H
         go_upto_if 53 with (fail)
         repeat (go_quiet (fail); go_upto_if 53 with (fail))
         go_cut [53] (fun v53 wc => ∃ (kq : Nat) (x53_67 : Bool), v53 = .bool x53_67 ∧ Aside0 (impl_toldWord.j2 kq a0 t459 y468 x53_67 t465 t466 = some (r1, r2)) ∧ Aside0 (kq ≤ kj16) ∧ Aside0 (Kd.R Kd.string 9 wc w.heap.size (fun _ => True) (.slice (some ad464) t459.length co18) t459) ∧ Aside0 (Kd.R (Kd.int .u8) 5 wc w.heap.size (fun _ => True) v469 y468) ∧ Aside0 (wc.heap[gb467]? = some (.cells #[.int .i64 t465, .int .i64 t466] 101 (0, 0))) ∧ Aside0 (Below w.heap.size w wc))
         case first =>
          have H := HC68.out
          clear HC68
          by_cases c69 : (rdOf ByteArray.empty t459 1).toList = ([81] : List UInt8)
          ·rw [if_pos c69] at H
           have c69b0 : ((rdOf ByteArray.empty t459 1).toList == ([81] : List UInt8)) = true := beq_iff_eq.mpr c69
           have c69b1 : ((rdOf ByteArray.empty t459 1).toList != ([81] : List UInt8)) = false := bne_eq_false_iff_eq.mpr c69
           clear c69
           (first | rw [c69b0] | (simp only [i64_w, i32_w]; rw [c69b0]) | skip)
           have H' := aM H
           clear H
           go_wp2
           repeat (go_quiet (fail); try go_wp2)
           go_meet
           case rel => exact ⟨_, (((rdOf ByteArray.empty t459 1).toList == ([81] : List UInt8))), bS, H', ⟨z20 HJ4.out HJ16.out⟩, ⟨bR HO_6⟩, ⟨bR HO_8⟩, ⟨bL BK467⟩, ⟨bG GE467⟩⟩
          rw [if_neg c69] at H
          have c69b0 : ((rdOf ByteArray.empty t459 1).toList == ([81] : List UInt8)) = false := beq_eq_false_iff_ne.mpr c69
          have c69b1 : ((rdOf ByteArray.empty t459 1).toList != ([81] : List UInt8)) = true := bne_iff_ne.mpr c69
          (first | rw [c69b0] | (simp only [i64_w, i32_w]; rw [c69b0]) | skip)
          have H' := aM H
          clear H
          go_wp2
          repeat (go_quiet (fail); try go_wp2)
          go_meet
          case rel => exact ⟨_, (((rdOf ByteArray.empty t459 1).toList == ([113] : List UInt8))), bS, H', ⟨z20 HJ4.out HJ16.out⟩, ⟨bR HO_6⟩, ⟨bR HO_8⟩, ⟨bL BK467⟩, ⟨bG GE467⟩⟩
         case rest =>
          clear HC68
          try clear c1
          try clear c2
          try clear p2
          try clear c3
          try clear c4
          try clear p4
          try clear q4
          try clear hx4
          try clear qi4
          try clear c5
          try clear c6
          try clear p6
          try clear c7
          try clear c7b0
          try clear c7b1
          try clear c8
          try clear c8b0
          try clear c8b1
          try clear c12
          try clear c13
          try clear c13b0
          try clear c13b1
          try clear c15
          try clear c15b0
          try clear c15b1
          try clear c16
          try clear c16b0
          try clear c16b1
          try clear c24
          try clear c24b0
          try clear c24b1
          try clear c25
          try clear c26
          try clear c26b0
          try clear c26b1
          try clear c29
          try clear c29b0
          try clear c29b1
          try clear c30
          try clear c30b0
          try clear c30b1
          try clear c31
          try clear c31b0
          try clear c31b1
          try clear c34
          try clear c40
          try clear c41
          try clear c46
          try clear p46
          try clear q46
          try clear hx46
          try clear qi46
          try clear p47
          try clear q47
          try clear hx47
          try clear qi47
          try clear p48
          try clear q48
          try clear hx48
          try clear qi48
          try clear c52
          try clear c53
          try clear c58
          try clear c64
          try clear p64
          try clear c65
          try clear c69
          try clear c69b0
          try clear c69b1
          try clear hcz21_0
          try clear hcz21_1
          try clear hcz35_0
          try clear hcz35_1
          try clear hcz37_0
          try clear hcz37_1
          try clear hcz42_0
          try clear hcz42_1
          try clear hcz47_0
          try clear hcz47_1
          try clear hcz49_0
          try clear hcz49_1
          try clear hcz54_0
          try clear hcz54_1
          try clear hcz59_0
          try clear hcz59_1
          try clear hcz61_0
          try clear hcz61_1
          try clear hcz66_0
          try clear hcz66_1
          try clear hfz21_0
          try clear hfz21_1
          try clear hfz35_0
          try clear hfz35_1
          try clear hfz37_0
          try clear hfz37_1
          try clear hfz42_0
          try clear hfz42_1
          try clear hfz47_0
          try clear hfz47_1
          try clear hfz49_0
          try clear hfz49_1
          try clear hfz54_0
          try clear hfz54_1
          try clear hfz59_0
          try clear hfz59_1
          try clear hfz61_0
          try clear hfz61_1
          try clear hfz66_0
          try clear hfz66_1
          try clear hx462_0
          try clear hx464_0
          try clear hx471_0
          try clear hx472_0
          try clear hx483_0
          try clear p2
          try clear p4
          try clear p462
          try clear p464
          try clear p471
          try clear p472
          try clear p483
          try clear q4
          try clear q462
          try clear q464
          try clear q471
          try clear q472
          try clear q483
          obtain ⟨kq, x53_67, rfl, HA, HJ67, HO_6, HO_8, BK467, HB⟩ := hcut
          cases kq with
          | zero => exact absurd HA.out (by simp [impl_toldWord.j2])
          | succ kj67 =>
           have H := HA.out
           clear HA
           simp only [impl_toldWord.j2] at H
           by_cases c70 : x53_67 = true
           ·subst c70
            have H1 : (if 2 < (t459.length : Int) then ((impl_quotedWord.f kj67 (rdOf ByteArray.empty t459 2)).bind fun bt485 => ((impl_DecodeText.f kj67 t466 bt485.1).bind fun bt489 => (if bt485.2 = true then (if bt489.1 = 0 then (if 3 < (t459.length : Int) then (some (bt489.2, wrap64 ((wrap64 ((a0.size : Int) - ((rdOf ByteArray.empty t459 3).size : Int))) + 1))) else (none)) else (some (([] : List Int), 0))) else (some (([] : List Int), 0))))) else (none)) = some (r1, r2) := z14
            clear H
            have H := H1
            clear H1
            by_cases c71 : 2 < (t459.length : Int)
            ·rw [if_pos c71] at H
             have c71b0 : decide (2 < (t459.length : Int)) = true := decide_eq_true c71
             have c71b1 : decide (2 < t459.length) = true := decide_eq_true (by omega)
             clear c71
             replace H := Option.bind_eq_some_iff.mp H
             obtain ⟨⟨t485, t486⟩, A720, H⟩ := H
             replace H : ((impl_DecodeText.f kj67 t466 t485).bind fun bt489 => (if t486 = true then (if bt489.1 = 0 then (if 3 < (t459.length : Int) then (some (bt489.2, wrap64 ((wrap64 ((a0.size : Int) - ((rdOf ByteArray.empty t459 3).size : Int))) + 1))) else (none)) else (some (([] : List Int), 0))) else (some (([] : List Int), 0)))) = some (r1, r2) := H
             have A72 := aM A720
             clear A720
             replace H := Option.bind_eq_some_iff.mp H
             obtain ⟨⟨t489, t490⟩, A730, H⟩ := H
             replace H : (if t486 = true then (if t489 = 0 then (if 3 < (t459.length : Int) then (some (t490, wrap64 ((wrap64 ((a0.size : Int) - ((rdOf ByteArray.empty t459 3).size : Int))) + 1))) else (none)) else (some (([] : List Int), 0))) else (some (([] : List Int), 0))) = some (r1, r2) := H
             have A73 := aM A730
             clear A730
             have HQ_ := aM H
             clear H
             have p484 : 0 ≤ (2 : Int) := (by omega)
             have q484 : 2 < (t459.length : Int) := pI
             obtain ⟨ad484, e484, hx484_0⟩ := Kd.at_string (Kd.R_reads' HO_6.out).2.2 2 p484 q484
             obtain rfl : ad464 = ad484 := (by injection e484)
             (try simp only [show (2 : Int).toNat = 2 from rfl, Nat.reduceMul, Nat.reduceEqDiff, Go.Addr.add, ↓reduceIte] at hx484_0)
             have qi484 : (2 < t459.length) = True := eq_true (by omega)
             (try rw [show ((2 : Int)).toNat = 2 from rfl] at hx484_0)
             replace p484 := eq_true p484
             replace q484 := eq_true q484
             have H := HQ_.out
             clear HQ_
             by_cases c74 : t486 = true
             ·subst c74
              have H1 : (if t489 = 0 then (if 3 < (t459.length : Int) then (some (t490, wrap64 ((wrap64 ((a0.size : Int) - ((rdOf ByteArray.empty t459 3).size : Int))) + 1))) else (none)) else (some (([] : List Int), 0))) = some (r1, r2) := z14
              clear H
              have H := H1
              clear H1
              by_cases c75 : t489 = 0
              ·rw [if_pos c75] at H
               have c75b0 : (t489 == 0) = true := beq_iff_eq.mpr c75
               have c75b1 : (t489 != 0) = false := bne_eq_false_iff_eq.mpr c75
               clear c75
               (try simp only [c75b0, c75b1])
               by_cases c76 : 3 < (t459.length : Int)
               ·rw [if_pos c76] at H
                have c76b0 : decide (3 < (t459.length : Int)) = true := decide_eq_true c76
                have c76b1 : decide (3 < t459.length) = true := decide_eq_true (by omega)
                clear c76
                simp only [Option.some.injEq, Prod.mk.injEq] at H
                obtain ⟨rfl, rfl⟩ := H
                iterate 8 (go_wp2_with (first | (go_at_call 81; (with_reducible refine (impl_quotedWord.calls kj67 (rdOf ByteArray.empty t459 2) t485 true _ A72.out).mono ?_); rintro e w77 ⟨v487, rfl, ho0, hb⟩; replace HO_6 := aM (Kd.R_below (bR HO_6) hb); have HO488 := aM (Kd.R_lower (Kd.R_new' ho0 (Kd.R_lt (bR HO_8))) (below_size (bG GE467))); replace HO_8 := aM (Kd.R_elder' (bR HO_8) (Kd.R_base ho0) hb); replace BK467 := aM (blk_below (g := gb467) (o := .cells #[.int .i64 t465, .int .i64 t466] 101 (0, 0)) (bL BK467) hb); replace HB := aM (below_step (bG GE467) hb); (try clear ho0); have hcz78_0 : w77.cell? ⟨gb467, 0, none⟩ = some (.int .i64 t465) := (blk_cell BK467.out 0).trans rfl; have hcz78_1 : w77.cell? ⟨gb467, 1, none⟩ = some (.int .i64 t466) := (blk_cell BK467.out 1).trans rfl; have hfz78_0 := blk_frozen BK467.out 0; have hfz78_1 := blk_frozen BK467.out 1; obtain ⟨Ao79, co79, eo79⟩ := Kd.R_slice HO488.out; subst eo79) | (go_at_call 82; (with_reducible refine (impl_DecodeText.calls kj67 t466 _ _ t485 t489 t490 _ ?side1 ?side2 A73.out).mono ?_); (case side1 => exact z2 HO488.out); (case side2 => exact (Kd.R_reads' HO488.out).2.1); rintro e w80 ⟨v491, rfl, ho0, hb⟩; replace HO_6 := aM (Kd.R_below (bR HO_6) hb); replace HO_8 := aM (Kd.R_below (bR HO_8) hb); replace HO488 := aM (Kd.R_below (bR HO488) hb); have HO492 := aM (Kd.R_lower ho0 (below_size (bG GE467))); replace BK467 := aM (blk_below (g := gb467) (o := .cells #[.int .i64 t465, .int .i64 t466] 101 (0, 0)) (bL BK467) hb); replace HB := aM (below_step (bG GE467) hb); (try clear ho0)) | ((with_reducible refine gate_dst (N := 10) rfl ?_); refine box_event ?hg (N := 10) ?hd (cs := #[.int .i64 0, .slice none 0 0]) (t := 25) ?hr ?_; (case hd => rfl); (case hg => rfl); (case hr => exact z8); intro gb493 hg w81 hbox hb; replace HO_6 := aM (Kd.R_below (bR HO_6) hb); replace HO_8 := aM (Kd.R_below (bR HO_8) hb); replace HO488 := aM (Kd.R_below (bR HO488) hb); replace HO492 := aM (Kd.R_below (bR HO492) hb); have BK493 := aM (hbox); have GW493 := aM ((z36 : w.heap.size ≤ gb493)); have GE493 := aM ((z36 : w.heap.size ≤ gb493)); replace HB := aM (below_step (bG GE467) hb); have NB467_493 := aM ((z25 : gb467 ≠ gb493)); have NB493_467 := aM ((z24 : gb493 ≠ gb467)); replace BK467 := aM (blk_below (g := gb467) (o := .cells #[.int .i64 t465, .int .i64 t466] 101 (0, 0)) (bL BK467) hb); clear hb hbox hg; have hnb82 := NB493_467.out; have hnc82 := NB467_493.out; have hcz83_0 : w81.cell? ⟨gb493, 0, none⟩ = some (.int .i64 0) := (blk_cell BK493.out 0).trans rfl; have hcz83_1 : w81.cell? ⟨gb493, 1, none⟩ = some (.slice none 0 0) := (blk_cell BK493.out 1).trans rfl; have hfz83_0 := blk_frozen BK493.out 0; have hfz83_1 := blk_frozen BK493.out 1; obtain ⟨Ao84, co84, eo84⟩ := Kd.R_slice HO492.out; subst eo84; have p494 : 0 ≤ (3 : Int) := (by omega); have q494 : 3 < (t459.length : Int) := pI; obtain ⟨ad494, e494, hx494_0⟩ := Kd.at_string (Kd.R_reads' HO_6.out).2.2 3 p494 q494; obtain rfl : ad464 = ad494 := (by injection e494); (try simp only [show (3 : Int).toNat = 3 from rfl, Nat.reduceMul, Nat.reduceEqDiff, Go.Addr.add, ↓reduceIte] at hx494_0); have qi494 : (3 < t459.length) = True := eq_true (by omega); (try rw [show ((3 : Int)).toNat = 3 from rfl] at hx494_0); have hn494_0 : ad464.block ≠ gb493 := Kd.own_blk (Kd.R_ne HO_6.out BK493.out (by decide)); have hn494_1 : ad464.block ≠ gb493 := Kd.own_blk (Kd.R_ne HO_6.out BK493.out (by decide)); replace hx494_0 := (cell_far (p := ⟨gb493, 0, none⟩) (by first | (rw [add_block]; exact hn494_0) | (show (Addr.add _ _).block ≠ _; rw [add_block]; exact hn494_0) | exact hn494_0) (.int .i64 t489)).trans hx494_0; replace hx494_0 := (cell_far (p := ⟨gb493, 1, none⟩) (by first | (rw [add_block]; exact hn494_1) | (show (Addr.add _ _).block ≠ _; rw [add_block]; exact hn494_1) | exact hn494_1) (.slice Ao84 t490.length co84)).trans hx494_0; (try have hy494_0 := fun (n_ : Nat) => (show ((((w81.drewN n_).setCell ⟨gb493, 0, none⟩ (.int .i64 t489)).setCell ⟨gb493, 1, none⟩ (.slice Ao84 t490.length co84))).cell? _ = some _ from hx494_0)); clear hn494_0; clear hn494_1; replace p494 := eq_true p494; replace q494 := eq_true q494)); try go_quiet (fail))
                go_ret2
                exact ⟨_, bE, by (with_reducible repeat (first | apply Kd.R_alloc | apply Kd.R_drewN | apply Kd.R_drew)); exact Kd.R_mono (Kd.R_far (p := ⟨gb493, 1, none⟩) (Kd.R_far (p := ⟨gb493, 0, none⟩) (Kd.R_types HO492.out BK493.out (by decide)) (fun _ hk => hk.2) (.int .i64 t489)) (fun _ hk => hk.2) (.slice Ao84 t490.length co84)) (fun _ hk => trivial), bG2 GE467 GE493⟩
               rw [if_neg c76] at H
               exact absurd H (by simp)
              rw [if_neg c75] at H
              have c75b0 : (t489 == 0) = false := beq_eq_false_iff_ne.mpr c75
              have c75b1 : (t489 != 0) = true := bne_iff_ne.mpr c75
              simp only [Option.some.injEq, Prod.mk.injEq] at H
              obtain ⟨rfl, rfl⟩ := H
              (try simp only [c75b0, c75b1])
              iterate 8 (go_wp2_with (first | (go_at_call 81; (with_reducible refine (impl_quotedWord.calls kj67 (rdOf ByteArray.empty t459 2) t485 true _ A72.out).mono ?_); rintro e w85 ⟨v487, rfl, ho0, hb⟩; replace HO_6 := aM (Kd.R_below (bR HO_6) hb); have HO488 := aM (Kd.R_lower (Kd.R_new' ho0 (Kd.R_lt (bR HO_8))) (below_size (bG GE467))); replace HO_8 := aM (Kd.R_elder' (bR HO_8) (Kd.R_base ho0) hb); replace BK467 := aM (blk_below (g := gb467) (o := .cells #[.int .i64 t465, .int .i64 t466] 101 (0, 0)) (bL BK467) hb); replace HB := aM (below_step (bG GE467) hb); (try clear ho0); have hcz86_0 : w85.cell? ⟨gb467, 0, none⟩ = some (.int .i64 t465) := (blk_cell BK467.out 0).trans rfl; have hcz86_1 : w85.cell? ⟨gb467, 1, none⟩ = some (.int .i64 t466) := (blk_cell BK467.out 1).trans rfl; have hfz86_0 := blk_frozen BK467.out 0; have hfz86_1 := blk_frozen BK467.out 1; obtain ⟨Ao87, co87, eo87⟩ := Kd.R_slice HO488.out; subst eo87) | (go_at_call 82; (with_reducible refine (impl_DecodeText.calls kj67 t466 _ _ t485 t489 t490 _ ?side1 ?side2 A73.out).mono ?_); (case side1 => exact z2 HO488.out); (case side2 => exact (Kd.R_reads' HO488.out).2.1); rintro e w88 ⟨v491, rfl, ho0, hb⟩; replace HO_6 := aM (Kd.R_below (bR HO_6) hb); replace HO_8 := aM (Kd.R_below (bR HO_8) hb); replace HO488 := aM (Kd.R_below (bR HO488) hb); have HO492 := aM (Kd.R_lower ho0 (below_size (bG GE467))); replace BK467 := aM (blk_below (g := gb467) (o := .cells #[.int .i64 t465, .int .i64 t466] 101 (0, 0)) (bL BK467) hb); replace HB := aM (below_step (bG GE467) hb); (try clear ho0)) | ((with_reducible refine gate_dst (N := 10) rfl ?_); refine box_event ?hg (N := 10) ?hd (cs := #[.int .i64 0, .slice none 0 0]) (t := 25) ?hr ?_; (case hd => rfl); (case hg => rfl); (case hr => exact z8); intro gb493 hg w89 hbox hb; replace HO_6 := aM (Kd.R_below (bR HO_6) hb); replace HO_8 := aM (Kd.R_below (bR HO_8) hb); replace HO488 := aM (Kd.R_below (bR HO488) hb); replace HO492 := aM (Kd.R_below (bR HO492) hb); have BK493 := aM (hbox); have GW493 := aM ((z36 : w.heap.size ≤ gb493)); have GE493 := aM ((z36 : w.heap.size ≤ gb493)); replace HB := aM (below_step (bG GE467) hb); have NB467_493 := aM ((z25 : gb467 ≠ gb493)); have NB493_467 := aM ((z24 : gb493 ≠ gb467)); replace BK467 := aM (blk_below (g := gb467) (o := .cells #[.int .i64 t465, .int .i64 t466] 101 (0, 0)) (bL BK467) hb); clear hb hbox hg; have hnb90 := NB493_467.out; have hnc90 := NB467_493.out; have hcz91_0 : w89.cell? ⟨gb493, 0, none⟩ = some (.int .i64 0) := (blk_cell BK493.out 0).trans rfl; have hcz91_1 : w89.cell? ⟨gb493, 1, none⟩ = some (.slice none 0 0) := (blk_cell BK493.out 1).trans rfl; have hfz91_0 := blk_frozen BK493.out 0; have hfz91_1 := blk_frozen BK493.out 1; obtain ⟨Ao92, co92, eo92⟩ := Kd.R_slice HO492.out; subst eo92)); try go_quiet (fail))
              go_ret2
              exact ⟨_, bE, z3, bG2 GE467 GE493⟩
             replace c74 := Bool.eq_false_iff.mpr c74
             subst c74
             have H1 : (some (([] : List Int), 0)) = some (r1, r2) := z5
             clear H
             have H := H1
             clear H1
             simp only [Option.some.injEq, Prod.mk.injEq] at H
             obtain ⟨rfl, rfl⟩ := H
             iterate 8 (go_wp2_with (first | (go_at_call 81; (with_reducible refine (impl_quotedWord.calls kj67 (rdOf ByteArray.empty t459 2) t485 false _ A72.out).mono ?_); rintro e w93 ⟨v487, rfl, ho0, hb⟩; replace HO_6 := aM (Kd.R_below (bR HO_6) hb); have HO488 := aM (Kd.R_lower (Kd.R_new' ho0 (Kd.R_lt (bR HO_8))) (below_size (bG GE467))); replace HO_8 := aM (Kd.R_elder' (bR HO_8) (Kd.R_base ho0) hb); replace BK467 := aM (blk_below (g := gb467) (o := .cells #[.int .i64 t465, .int .i64 t466] 101 (0, 0)) (bL BK467) hb); replace HB := aM (below_step (bG GE467) hb); (try clear ho0); have hcz94_0 : w93.cell? ⟨gb467, 0, none⟩ = some (.int .i64 t465) := (blk_cell BK467.out 0).trans rfl; have hcz94_1 : w93.cell? ⟨gb467, 1, none⟩ = some (.int .i64 t466) := (blk_cell BK467.out 1).trans rfl; have hfz94_0 := blk_frozen BK467.out 0; have hfz94_1 := blk_frozen BK467.out 1; obtain ⟨Ao95, co95, eo95⟩ := Kd.R_slice HO488.out; subst eo95) | (go_at_call 82; (with_reducible refine (impl_DecodeText.calls kj67 t466 _ _ t485 t489 t490 _ ?side1 ?side2 A73.out).mono ?_); (case side1 => exact z2 HO488.out); (case side2 => exact (Kd.R_reads' HO488.out).2.1); rintro e w96 ⟨v491, rfl, ho0, hb⟩; replace HO_6 := aM (Kd.R_below (bR HO_6) hb); replace HO_8 := aM (Kd.R_below (bR HO_8) hb); replace HO488 := aM (Kd.R_below (bR HO488) hb); have HO492 := aM (Kd.R_lower ho0 (below_size (bG GE467))); replace BK467 := aM (blk_below (g := gb467) (o := .cells #[.int .i64 t465, .int .i64 t466] 101 (0, 0)) (bL BK467) hb); replace HB := aM (below_step (bG GE467) hb); (try clear ho0)) | ((with_reducible refine gate_dst (N := 10) rfl ?_); refine box_event ?hg (N := 10) ?hd (cs := #[.int .i64 0, .slice none 0 0]) (t := 25) ?hr ?_; (case hd => rfl); (case hg => rfl); (case hr => exact z8); intro gb493 hg w97 hbox hb; replace HO_6 := aM (Kd.R_below (bR HO_6) hb); replace HO_8 := aM (Kd.R_below (bR HO_8) hb); replace HO488 := aM (Kd.R_below (bR HO488) hb); replace HO492 := aM (Kd.R_below (bR HO492) hb); have BK493 := aM (hbox); have GW493 := aM ((z36 : w.heap.size ≤ gb493)); have GE493 := aM ((z36 : w.heap.size ≤ gb493)); replace HB := aM (below_step (bG GE467) hb); have NB467_493 := aM ((z25 : gb467 ≠ gb493)); have NB493_467 := aM ((z24 : gb493 ≠ gb467)); replace BK467 := aM (blk_below (g := gb467) (o := .cells #[.int .i64 t465, .int .i64 t466] 101 (0, 0)) (bL BK467) hb); clear hb hbox hg; have hnb98 := NB493_467.out; have hnc98 := NB467_493.out; have hcz99_0 : w97.cell? ⟨gb493, 0, none⟩ = some (.int .i64 0) := (blk_cell BK493.out 0).trans rfl; have hcz99_1 : w97.cell? ⟨gb493, 1, none⟩ = some (.slice none 0 0) := (blk_cell BK493.out 1).trans rfl; have hfz99_0 := blk_frozen BK493.out 0; have hfz99_1 := blk_frozen BK493.out 1; obtain ⟨Ao100, co100, eo100⟩ := Kd.R_slice HO492.out; subst eo100)); try go_quiet (fail))
             go_ret2
             exact ⟨_, bE, z3, bG2 GE467 GE493⟩
            rw [if_neg c71] at H
            exact absurd H (by simp)
           replace c70 := Bool.eq_false_iff.mpr c70
           subst c70
           have H1 : ((impl_DecodeText.f kj67 t466 y468).bind fun bt495 => (some (([] : List Int), 0))) = some (r1, r2) := z5
           clear H
           have H := H1
           clear H1
           replace H := Option.bind_eq_some_iff.mp H
           obtain ⟨⟨t495, t496⟩, A1010, H⟩ := H
           replace H : (some (([] : List Int), 0)) = some (r1, r2) := H
           have A101 := aM A1010
           clear A1010
           simp only [Option.some.injEq, Prod.mk.injEq] at H
           obtain ⟨rfl, rfl⟩ := H
           have hcz102_0 : wc.cell? ⟨gb467, 0, none⟩ = some (.int .i64 t465) := (blk_cell BK467.out 0).trans rfl
           have hcz102_1 : wc.cell? ⟨gb467, 1, none⟩ = some (.int .i64 t466) := (blk_cell BK467.out 1).trans rfl
           have hfz102_0 := blk_frozen BK467.out 0
           have hfz102_1 := blk_frozen BK467.out 1
           obtain ⟨Ao103, co103, eo103⟩ := Kd.R_slice HO_8.out
           subst eo103
           iterate 8 (go_wp2_with (first | (go_at_call 82; (with_reducible refine (impl_DecodeText.calls kj67 t466 _ _ y468 t495 t496 _ ?side1 ?side2 A101.out).mono ?_); (case side1 => exact z2 HO_8.out); (case side2 => exact (Kd.R_reads' HO_8.out).2.1); rintro e w104 ⟨v497, rfl, ho0, hb⟩; replace HO_6 := aM (Kd.R_below (bR HO_6) hb); replace HO_8 := aM (Kd.R_below (bR HO_8) hb); have HO498 := aM (Kd.R_lower ho0 (below_size (bG GE467))); replace BK467 := aM (blk_below (g := gb467) (o := .cells #[.int .i64 t465, .int .i64 t466] 101 (0, 0)) (bL BK467) hb); replace HB := aM (below_step (bG GE467) hb); (try clear ho0)) | ((with_reducible refine gate_dst (N := 10) rfl ?_); refine box_event ?hg (N := 10) ?hd (cs := #[.int .i64 0, .slice none 0 0]) (t := 25) ?hr ?_; (case hd => rfl); (case hg => rfl); (case hr => exact z8); intro gb499 hg w105 hbox hb; replace HO_6 := aM (Kd.R_below (bR HO_6) hb); replace HO_8 := aM (Kd.R_below (bR HO_8) hb); replace HO498 := aM (Kd.R_below (bR HO498) hb); have BK499 := aM (hbox); have GW499 := aM ((z36 : w.heap.size ≤ gb499)); have GE499 := aM ((z36 : w.heap.size ≤ gb499)); replace HB := aM (below_step (bG GE467) hb); have NB467_499 := aM ((z25 : gb467 ≠ gb499)); have NB499_467 := aM ((z24 : gb499 ≠ gb467)); replace BK467 := aM (blk_below (g := gb467) (o := .cells #[.int .i64 t465, .int .i64 t466] 101 (0, 0)) (bL BK467) hb); clear hb hbox hg; have hnb106 := NB499_467.out; have hnc106 := NB467_499.out; have hcz107_0 : w105.cell? ⟨gb499, 0, none⟩ = some (.int .i64 0) := (blk_cell BK499.out 0).trans rfl; have hcz107_1 : w105.cell? ⟨gb499, 1, none⟩ = some (.slice none 0 0) := (blk_cell BK499.out 1).trans rfl; have hfz107_0 := blk_frozen BK499.out 0; have hfz107_1 := blk_frozen BK499.out 1; obtain ⟨Ao108, co108, eo108⟩ := Kd.R_slice HO498.out; subst eo108)); try go_quiet (fail))
           go_ret2
           exact ⟨_, bE, z3, bG2 GE467 GE499⟩
      rw [if_neg c16] at H
      exact absurd H (by simp)
     rw [if_neg c15] at H
     have c15b0 : (t465 == 0) = false := beq_eq_false_iff_ne.mpr c15
     have c15b1 : (t465 != 0) = true := bne_iff_ne.mpr c15
     simp only [Option.some.injEq, Prod.mk.injEq] at H
     obtain ⟨rfl, rfl⟩ := H
     (try simp only [c15b0, c15b1])
     iterate 8 (go_wp2_with (first | (go_at_call 79; (with_reducible refine (impl_CharsetOf.calls kj4 (rdOf ByteArray.empty t459 0) t465 t466 _ A14.out).mono ?_); rintro e w110 ⟨rfl, hb⟩; replace HO_6 := aM (Kd.R_below (bR HO_6) hb); replace HB := aM (below_step bB hb); (try clear hi)) | ((with_reducible refine gate_dst (N := 7) rfl ?_); refine box_event ?hg (N := 7) ?hd (cs := #[.int .i64 0, .int .i64 0]) (t := 101) ?hr ?_; (case hd => rfl); (case hg => rfl); (case hr => exact z8); intro gb467 hg w111 hbox hb; replace HO_6 := aM (Kd.R_below (bR HO_6) hb); have BK467 := aM (hbox); have GW467 := aM ((z11 : w.heap.size ≤ gb467)); have GE467 := aM ((z11 : w.heap.size ≤ gb467)); replace HB := aM (below_step bB hb); clear hb hbox hg; have hcz112_0 : w111.cell? ⟨gb467, 0, none⟩ = some (.int .i64 0) := (blk_cell BK467.out 0).trans rfl; have hcz112_1 : w111.cell? ⟨gb467, 1, none⟩ = some (.int .i64 0) := (blk_cell BK467.out 1).trans rfl; have hfz112_0 := blk_frozen BK467.out 0; have hfz112_1 := blk_frozen BK467.out 1)); try go_quiet (fail))
     go_ret2
     exact ⟨_, bE, z3, bG GE467⟩
    rw [if_neg c13] at H
    exact absurd H (by simp)
 replace c3 := Bool.eq_false_iff.mpr c3
 subst c3
 have H1 : (some (([] : List Int), 0)) = some (r1, r2) := z5
 clear H
 have H := H1
 clear H1
 simp only [Option.some.injEq, Prod.mk.injEq] at H
 obtain ⟨rfl, rfl⟩ := H
 iterate 8 (go_wp2_with (first | (go_at_call 76; (with_reducible refine (strings_CutPrefix.calls a0 (⟨#[61, 63]⟩ : ByteArray) t457 false _ A2.out).mono ?_); rintro e w' ⟨rfl, ⟨nd, rfl⟩⟩; (try first | exact ⟨rfl, _, World.drewN_drewN _ _ _⟩ | exact ⟨rfl, _, Eq.trans (World.drewN_drewN _ _ _) (congrArg (World.drewN _) (Nat.add_assoc _ _ _))⟩))); try go_quiet (first | (go_at_call 76; (with_reducible refine (strings_CutPrefix.calls a0 (⟨#[61, 63]⟩ : ByteArray) t457 false _ A2.out).mono ?_); rintro e w' ⟨rfl, ⟨nd, rfl⟩⟩; (try first | exact ⟨rfl, _, World.drewN_drewN _ _ _⟩ | exact ⟨rfl, _, Eq.trans (World.drewN_drewN _ _ _) (congrArg (World.drewN _) (Nat.add_assoc _ _ _))⟩))))
 go_ret2
 exact ⟨_, bE, z3, bB⟩
open Go.Shelf in
def strings_TrimLeft.sh_lays161_ren : Go.Shelf.Ren := ⟨fun | 161 => 53 | 231 => 83 | 227 => 84 | 233 => 85 | 235 => 86 | 228 => 116 | 197 => 117 | 151 => 118 | 260 => 135 | 152 => 136 | 137 => 134 | 119 => 147 | 224 => 125 | 225 => 124 | 217 => 123 | 266 => 140 | n => n, fun | 9 => 9 | 4 => 4 | 3 => 3 | 5 => 5 | 117 => 112 | 116 => 111 | 0 => 0 | 124 => 115 | 105 => 130 | 21 => 21 | 119 => 146 | 46 => 87 | 139 => 149 | 138 => 148 | n => n, fun | 3 => 1 | 4 => 2 | n => n⟩
open Go.Shelf in
theorem strings_TrimLeft.sh_lays161 : Go.Proofs.Lays.n161 Tryz.prog strings_TrimLeft.sh_lays161_ren := {
  mixed := by kernel_rfl
  f119 := Tryz.func147.trans (congrArg some (by kernel_rfl))
  f137 := Tryz.func134.trans (congrArg some (by kernel_rfl))
  f151 := Tryz.func118.trans (congrArg some (by kernel_rfl))
  f152 := Tryz.func136.trans (congrArg some (by kernel_rfl))
  f161 := Tryz.func53.trans (congrArg some (by kernel_rfl))
  f197 := Tryz.func117.trans (congrArg some (by kernel_rfl))
  f217 := Tryz.func123.trans (congrArg some (by kernel_rfl))
  f224 := Tryz.func125.trans (congrArg some (by kernel_rfl))
  f225 := Tryz.func124.trans (congrArg some (by kernel_rfl))
  f227 := Tryz.func84.trans (congrArg some (by kernel_rfl))
  f228 := Tryz.func116.trans (congrArg some (by kernel_rfl))
  f231 := Tryz.func83.trans (congrArg some (by kernel_rfl))
  f233 := Tryz.func85.trans (congrArg some (by kernel_rfl))
  f235 := Tryz.func86.trans (congrArg some (by kernel_rfl))
  f260 := Tryz.func135.trans (congrArg some (by kernel_rfl))
  f266 := Tryz.func140.trans (congrArg some (by kernel_rfl))
  t0 := Tryz.underlying0
  a0 := Tryz.isAgg0
  z0 := Tryz.sizeOf0
  v0 := Tryz.zeroValue0
  t3 := Tryz.underlying3
  a3 := Tryz.isAgg3
  z3 := Tryz.sizeOf3
  v3 := Tryz.zeroValue3
  t4 := Tryz.underlying4
  a4 := Tryz.isAgg4
  z4 := Tryz.sizeOf4
  v4 := Tryz.zeroValue4
  t5 := Tryz.underlying5
  a5 := Tryz.isAgg5
  z5 := Tryz.sizeOf5
  v5 := Tryz.zeroValue5
  t9 := Tryz.underlying9
  a9 := Tryz.isAgg9
  z9 := Tryz.sizeOf9
  v9 := Tryz.zeroValue9
  t21 := Tryz.underlying21
  a21 := Tryz.isAgg21
  z21 := Tryz.sizeOf21
  v21 := Tryz.zeroValue21
  t46 := Tryz.underlying87
  a46 := Tryz.isAgg87
  z46 := Tryz.sizeOf87
  v46 := Tryz.zeroValue87
  t105 := Tryz.underlying130
  a105 := Tryz.isAgg130
  z105 := Tryz.sizeOf130
  v105 := Tryz.zeroValue130
  t116 := Tryz.underlying111
  a116 := Tryz.isAgg111
  z116 := Tryz.sizeOf111
  t117 := Tryz.underlying112
  a117 := Tryz.isAgg112
  z117 := Tryz.sizeOf112
  v117 := Tryz.zeroValue112
  t119 := Tryz.underlying146
  a119 := Tryz.isAgg146
  z119 := Tryz.sizeOf146
  t124 := Tryz.underlying115
  a124 := Tryz.isAgg115
  z124 := Tryz.sizeOf115
  v124 := Tryz.zeroValue115
  t138 := Tryz.underlying148
  a138 := Tryz.isAgg148
  z138 := Tryz.sizeOf148
  v138 := Tryz.zeroValue148
  t139 := Tryz.underlying149
  a139 := Tryz.isAgg149
  z139 := Tryz.sizeOf149
  v139 := Tryz.zeroValue149
  g3 := by kernel_rfl
  g4 := by kernel_rfl }
def strings_TrimLeft.f (a0 : ByteArray) (a1 : ByteArray) : Option ByteArray := if a0.size ≤ 9223372036854775807 ∧ a1.size < 4294967281 ∧ a1.data.toList.all (fun b => decide (b.toNat < 128)) = true then some ⟨(Lib.trimLeftS a0.data.toList a1.data.toList).toArray⟩ else none
theorem strings_TrimLeft.calls (a0 : ByteArray) (a1 : ByteArray) (r : ByteArray) (w : World) (h : strings_TrimLeft.f a0 a1 = some r) :
    Calls Tryz.prog 53 #[.string a0, .string a1] w fun e w' => e = .returned (.string r) ∧ Below w.heap.size w w' := by
  unfold strings_TrimLeft.f at h
  by_cases h1 : a0.size ≤ 9223372036854775807 ∧ a1.size < 4294967281 ∧ a1.data.toList.all (fun b => decide (b.toNat < 128)) = true
  · rw [if_pos h1] at h
    cases h
    exact Any.strings_TrimLeft_laid strings_TrimLeft.sh_lays161 (by kernel_rfl) a0 a1 w h1.2.1 (ascii_of_all h1.2.2)
  rw [if_neg h1] at h
  cases h
end Go.Proofs.YtjopgmjmjnfcjaaGreatDoor.PSubjectOf
