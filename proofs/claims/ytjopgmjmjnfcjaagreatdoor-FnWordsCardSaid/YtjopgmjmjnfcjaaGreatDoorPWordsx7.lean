/- Part of the proof; words that it uses. -/
import Derived.Test.YtjopgmjmjnfcjaaGreatDoorPWordsx0
import Derived.Test.YtjopgmjmjnfcjaaGreatDoorPWordsx3
import Derived.Test.YtjopgmjmjnfcjaaGreatDoorPWordsx4
import Derived.Test.YtjopgmjmjnfcjaaGreatDoorPWordsx6
namespace Go.Proofs.YtjopgmjmjnfcjaaGreatDoor.PWords
open Go.RowKit Go.Proofs.YtjopgmjmjnfcjaaGreatDoorW.PrintWords Go.Proofs.YtjopgmjmjnfcjaaGreatDoorW.PrintLast
set_option linter.unusedVariables false
set_option linter.unusedSimpArgs false
def impl_decodeChars.l0 : Nat → Int → List Int → List Int → Option (List Int × Bool)
 | 0, _, _, _ => none
 | k + 1, x0, x1, x6 => if (x1.length : Int) > 0 then ((impl_firstChar.f k x0 x1).bind fun bt336 => (if bt336.2 = 0 then (some (([] : List Int), false)) else (if x6.length < 17592186044416 then (if 0 ≤ bt336.2 then (if bt336.2 ≤ (x1.length : Int) then (impl_decodeChars.l0 k x0 (x1.drop (bt336.2 : Int).toNat) (x6 ++ [bt336.1])) else (none)) else (none)) else (none)))) else (some (x6, true))
def impl_decodeChars.f (k : Nat) (a0 : Int) (l1 : List Int) : Option (List Int × Bool) := impl_decodeChars.l0 k a0 l1 (([] : List Int))
def impl_decodeChars.T6 : Bool × List (List Nat × List Nat) := (true, [([], []), ([], []), ([1], [1]), ([0, 2], [0, 2]), ([], []), ([], []), ([4, 5], [4, 5]), ([3, 3, 0, 1, 2, 3], [0, 3]), ([6, 7, 0, 1, 2, 3, 4, 5, 6, 7], [4, 6])])
def impl_decodeChars.B6 : List Nat := [0, 0, 2, 7, 0, 0, 48, 15, 255]
theorem impl_decodeChars.tab6 : rtab .any (opsOf Tryz.f115 6) = impl_decodeChars.T6 := by kernel_rfl
theorem impl_decodeChars.bits6 : waitsOk impl_decodeChars.T6.2 impl_decodeChars.B6 = true := by kernel_rfl
set_option maxHeartbeats 8000000 in
set_option maxRecDepth 100000 in
theorem impl_decodeChars.calls (k : Nat) (a0 : Int) (P1_ : Nat → Prop) (A1 : Option Addr) (c1 : Nat) (l1 : List Int) (r1 : List Int) (r2 : Bool) (w : World) (hs1 : Kd.V (Kd.int .u8) 5 w w.heap.size (fun k_ => P1_ k_) (.slice A1 l1.length c1) l1) (h : impl_decodeChars.f k a0 l1 = some (r1, r2)) :
  Calls Tryz.prog 115 #[.int .i64 a0, .slice A1 l1.length c1] w fun e w' => ∃ v0_ : Value, e = .returned (.tuple #[v0_, .bool r2]) ∧ Kd.R (Kd.int .i64) 2 w' w.heap.size (fun k_ => (w.heap.size ≤ k_)) v0_ r1 ∧ Below w.heap.size w w' := by
 have HO1 := aM (show Kd.V (Kd.int .u8) 5 w w.heap.size (fun k_ => (P1_ k_ ∨ w.heap.size ≤ k_)) (.slice A1 l1.length c1) l1 from Kd.V_mono hs1 (fun k_ hk => .inl hk))
 have HB := aM (Below.refl w.heap.size w)
 have H : (impl_decodeChars.l0 k a0 l1 (([] : List Int))) = some (r1, r2) := h
 clear h
 obtain ⟨y333, hy333⟩ : ∃ y_ : List Int, y_ = (([] : List Int)) := ⟨_, rfl⟩
 replace H : (impl_decodeChars.l0 k a0 l1 y333) = some (r1, r2) := z0 hy333
 have Ny333 := aM hy333
 clear hy333
 have H' := aM H
 clear H
 go_enter Tryz.func115, Tryz.ntmps115
 go_wp2_with (first | ((with_reducible refine gate_dst (N := 9) rfl ?_); refine Kd.R_lit (Kd.int .i64) _ 2 ?hg (N := 9) ?hd (xs := ([] : List Int)) (inner := []) (ok := fun _ => True) (okp := fun _ => True) ?hr ?hp (fun _ hk => hk) trivial (Below.refl _ _) (Nat.le_refl _) (by simp) ?_; (case hd => rfl); (case hg => rfl); (case hr => exact z10); (case hp => exact (Reps.none _ _)); intro v334 w3 ho4 hb hg_ hnew_; clear hg_ hnew_; (first | rw [← Ny333.out] at ho4 | (simp only [Int.reduceToNat] at ho4; rw [← Ny333.out] at ho4)); replace HO1 := aM (Kd.V_elder' (z37 HO1.out) (Kd.R_base ho4) hb); have HO335 := aM (Kd.R_lower (Kd.R_newM (M := fun k_ => (w.heap.size ≤ k_)) ho4 (below_size bB) (fun k_ h_ => h_)) (below_size bB)); replace HB := aM (below_step bB hb); clear hb ho4))
 go_loopg [1, 6] k (fun kq v1 v6 w' => ∃ (x1_1 : List Int) (x6_1 : List Int), Aside0 (impl_decodeChars.l0 kq a0 x1_1 x6_1 = some (r1, r2)) ∧ Aside0 (kq ≤ k) ∧ Aside0 (Kd.V (Kd.int .u8) 5 w' w.heap.size (fun k_ => (P1_ k_ ∨ w.heap.size ≤ k_) ∧ some k_ ≠ (v6 : Value).ownBlock) v1 x1_1) ∧ Aside0 (Kd.R (Kd.int .i64) 2 w' w.heap.size (fun k_ => (w.heap.size ≤ k_)) v6 x6_1) ∧ Aside0 (Below w.heap.size w w'))
 case atStart => exact ⟨(l1), (y333), H', ⟨Nat.le_refl _⟩, ⟨z37 HO1.out⟩, ⟨by (with_reducible repeat (first | apply Kd.R_alloc | apply Kd.R_drewN | apply Kd.R_drew)); exact Kd.R_mono HO335.out (fun _ hk => hk.1)⟩, ⟨bB⟩⟩
 case round =>
  clear H'
  try clear c1
  try clear p2
  obtain ⟨x1_1, x6_1, HA, HK1, HO_1, HO_6, HB⟩ := hrel
  cases gk with
  | zero => exact absurd HA.out (by simp [impl_decodeChars.l0])
  | succ k1 =>
   have H := HA.out
   clear HA
   simp only [impl_decodeChars.l0] at H
   have HQ_ := aM H
   clear H
   obtain ⟨Ao8, co8, eo8⟩ := Kd.V_slice HO_1.out
   subst eo8
   have H := HQ_.out
   clear HQ_
   by_cases c5 : (x1_1.length : Int) > 0
   ·rw [if_pos c5] at H
    have c5b0 : decide (0 < (x1_1.length : Int)) = true := decide_eq_true c5
    have c5b1 : decide (0 < x1_1.length) = true := decide_eq_true (by omega)
    clear c5
    replace H := Option.bind_eq_some_iff.mp H
    obtain ⟨⟨t336, t337⟩, A60, H⟩ := H
    replace H : (if t337 = 0 then (some (([] : List Int), false)) else (if x6_1.length < 17592186044416 then (if 0 ≤ t337 then (if t337 ≤ (x1_1.length : Int) then (impl_decodeChars.l0 k1 a0 (x1_1.drop (t337 : Int).toNat) (x6_1 ++ [t336])) else (none)) else (none)) else (none))) = some (r1, r2) := H
    have A6 := aM A60
    clear A60
    (try simp only [c5b0, c5b1])
    by_cases c7 : t337 = 0
    ·rw [if_pos c7] at H
     have c7b0 : (t337 == 0) = true := beq_iff_eq.mpr c7
     have c7b1 : (t337 != 0) = false := bne_eq_false_iff_eq.mpr c7
     clear c7
     simp only [Option.some.injEq, Prod.mk.injEq] at H
     obtain ⟨rfl, rfl⟩ := H
     (try simp only [c7b0, c7b1])
     go_wp2_with (first | ((with_reducible refine gate_callee (f := 54) rfl ?_); refine gL_ (some 16) Tryz.func54 #[.int .i64 a0, .slice Ao8 x1_1.length co8] ?_; (with_reducible refine (impl_firstChar.calls k1 a0 _ _ x1_1 t336 t337 _ ?side1 ?side2 A6.out).mono ?_); (case side1 => repeat (first | exact (Kd.V_reads' HO_1.out).2.2 | (with_reducible refine Kd.C_alloc ?_ _) | (with_reducible refine Kd.C_drewN ?_ _) | (with_reducible refine Kd.C_drew ?_))); (case side2 => exact (Kd.V_reads' HO_1.out).2.1); rintro e w9 ⟨rfl, hb⟩; refine ⟨_, rfl, ?_⟩; replace HO_1 := aM (Kd.V_below (z37 HO_1.out) hb); replace HO_6 := aM (Kd.R_below (bR HO_6) hb); replace HB := aM (below_step bB hb); (try clear hi)))
     go_ret2
     exact ⟨_, bE, z6, bB⟩
    rw [if_neg c7] at H
    have c7b0 : (t337 == 0) = false := beq_eq_false_iff_ne.mpr c7
    have c7b1 : (t337 != 0) = true := bne_iff_ne.mpr c7
    (try simp only [c7b0, c7b1])
    by_cases c10 : x6_1.length < 17592186044416
    ·rw [if_pos c10] at H
     have LMc10 := aM c10
     clear c10
     obtain ⟨y338, hy338⟩ : ∃ y_ : List Int, y_ = (x6_1 ++ [t336]) := ⟨_, rfl⟩
     replace H : (if 0 ≤ t337 then (if t337 ≤ (x1_1.length : Int) then (impl_decodeChars.l0 k1 a0 (x1_1.drop (t337 : Int).toNat) y338) else (none)) else (none)) = some (r1, r2) := z0 hy338
     have Ny338 := aM hy338
     clear hy338
     by_cases c11 : 0 ≤ t337
     ·rw [if_pos c11] at H
      have c11b0 := eq_true c11
      have c11b1 : decide (0 ≤ t337) = true := decide_eq_true c11
      clear c11
      by_cases c12 : t337 ≤ (x1_1.length : Int)
      ·rw [if_pos c12] at H
       have c12b0 := eq_true c12
       have c12b1 : decide (t337 ≤ (x1_1.length : Int)) = true := decide_eq_true c12
       clear c12
       obtain ⟨y341, hy341⟩ : ∃ y_ : List Int, y_ = (x1_1.drop (t337 : Int).toNat) := ⟨_, rfl⟩
       replace H : (impl_decodeChars.l0 k1 a0 y341 y338) = some (r1, r2) := z0 hy341
       have Ny341 := aM hy341
       clear hy341
       have H' := aM H
       clear H
       try go_wp2_with (first | ((with_reducible refine gate_callee (f := 54) rfl ?_); refine gL_ (some 16) Tryz.func54 #[.int .i64 a0, .slice Ao8 x1_1.length co8] ?_; (with_reducible refine (impl_firstChar.calls k1 a0 _ _ x1_1 t336 t337 _ ?side1 ?side2 A6.out).mono ?_); (case side1 => repeat (first | exact (Kd.V_reads' HO_1.out).2.2 | (with_reducible refine Kd.C_alloc ?_ _) | (with_reducible refine Kd.C_drewN ?_ _) | (with_reducible refine Kd.C_drew ?_))); (case side2 => exact (Kd.V_reads' HO_1.out).2.1); rintro e w14 ⟨rfl, hb⟩; refine ⟨_, rfl, ?_⟩; replace HO_1 := aM (Kd.V_below (z37 HO_1.out) hb); replace HO_6 := aM (Kd.R_below (bR HO_6) hb); replace HB := aM (below_step bB hb); (try clear hi)))
       replace HO_1 := aM (Kd.V_drew HO_1.out)
       replace HO_6 := aM (Kd.R_drew HO_6.out)
       replace HB := aM (below_drew1 HB.out)
       have q16 : (t337 : Int) ≤ ((x1_1.length : Int) : Int) := pI
       obtain ⟨i016, hi016, _, hsz16, _⟩ := info_parts info5
       have hroom16 : x1_1.length ≤ co8 := (Kd.V_reads' HO_1.out).2.1
       have hC16 : Kd.F (Kd.int .u8) _ _ Ao8 x1_1.length x1_1 := (Kd.V_at (base := w.heap.size) HO_1.out).2.2
       have q016 : (0 : Int) ≤ (t337 : Int) := pI
       have hcut16 := cut_from (P := Tryz.prog) 22 5 .i64 Tryz.underlying22 hi016 1 hsz16 Ao8 x1_1.length co8 t337 q016 q16
       have hr16 := Kd.F_cut (m := (t337 : Int).toNat) (c := co8) hC16 (by omega) hroom16
       obtain ⟨A16, hA16⟩ : ∃ A1, A1 = (if co8 = (t337 : Int).toNat then Ao8 else (Ao8 : Option Addr).map (·.add ((t337 : Int).toNat * 1))) := ⟨_, rfl⟩
       obtain ⟨c16, hc16⟩ : ∃ c1, c1 = co8 - (t337 : Int).toNat := ⟨_, rfl⟩
       have hy16 : y341.length = x1_1.length - (t337 : Int).toNat := (by rw [Ny341.out, List.length_drop] <;> omega)
       rw [show (x1_1).drop (t337 : Int).toNat = y341 from Ny341.out.symm] at hr16
       replace hr16 : Kd.F (Kd.int .u8) _ _ A16 y341.length y341 := (by rw [hA16]; exact hr16)
       rw [← hy16, ← hA16, ← hc16] at hcut16
       have HO345 := aM (show Kd.V (Kd.int .u8) 5 _ w.heap.size _ (.slice A16 y341.length c16) y341 from Kd.V_mk (by rw [hy16, hc16]; exact Nat.sub_le_sub_right hroom16 _) hr16)
       have HC345 := aM (show y341.length ≤ c16 from by rw [hy16, hc16]; exact Nat.sub_le_sub_right hroom16 _)
       clear hr16 hC16 hroom16 hi016 hsz16 hc16
       have KY16 := aM hy16
       have KA16 := aM hA16
       clear hy16 hA16
       replace q16 := eq_true q16
       refine start_ (n := 9) (S := fun w' => True) (ds := []) (bsA 9 0) (by kernel_rfl) rfl rfl trivial (fun hHeld => ?_); refine with_tabW impl_decodeChars.tab6 impl_decodeChars.bits6 (fun HT_ HW_ => ?_)
       generalize w14.drew = w15 at HO_1 HO_6 HB HO345 hHeld ⊢
       refine pa_ (i := 0) (N := some 21) (bsA 9 1) (h := ?_)
       refine pa_ (i := 1) (N := some 22) (bsA 9 3) (h := ?_)
       refine pa_ (i := 4) (N := some 25) (bsA 9 19) (h := ?_)
       refine pa_ (i := 5) (N := some 26) (bsA 9 51) (h := ?_)
       refine pa_ (i := 6) (N := some 27) (bsA 9 115) (h := ?_)
       refine one_ (i := 2) (N := some 23) (bsA 9 119) rfl rfl (one_of HT_.out (by kernel_rfl)) (by decide) (fun K hK => ?_)
       refine value_ (w1 := ?_) (v := ?_) (by rfl) rfl ?_ ?_
       rotate_left 2
       ·go_simp
        constructor
        ·rfl
        rfl
       refine hK.out _ _ trivial (fun hHeld => ?_)
       clear hK K
       refine na_ (N := some 23) (h := ?_)
       refine one_ (i := 3) (N := some 24) (bsA 9 127) rfl rfl (one_of HT_.out (by kernel_rfl)) (by decide) (fun K hK => ?_)
       refine Kd.R_append_step (Kd.int .i64) (w0 := w) w.heap.size (by rfl) (.tmp 21) (.tmp 23) 23 2 (.int .i64 0) 8 rfl Tryz.underlying23 info2 rfl (by decide) (by omega) u6 x6_1 t336 [.int .i64 t336] (fun k_ => (w.heap.size ≤ k_)) (fun _ => False) rfl rfl ?aP (fun _ hk => hk.elim) ?aF ?aO ?aB ?aS ?aL ?_
       (case aP => exact rfl)
       (case aB => exact bB)
       (case aF => exact (fun k_ hk => (Nat.le_trans (below_size bB) hk)))
       (case aO => exact (bR HO_6))
       (case aS => exact (below_size bB))
       (case aL => have := LMc10.out; omega)
       intro v339 w17 ho hb hg hat
       rw [← Ny338.out] at ho
       have n0_ := aM (Kd.V_afterv (ok := (fun k_ => (P1_ k_ ∨ w.heap.size ≤ k_))) (z37 HO_1.out) hg hat)
       have n1_ := aM (Kd.V_afterv (ok := (fun k_ => (P1_ k_ ∨ w.heap.size ≤ k_))) (z37 HO345.out) hg hat)
       have n2_ := aM (hb)
       have n3_ := aM (ho)
       clear HO_1
       clear HO345
       clear HB
       clear HO_6
       have HO_1 := n0_
       have HO345 := n1_
       have HB := n2_
       have HO340 := n3_
       clear n0_ n1_ n2_ n3_
       clear ho hb hg hat
       refine hK.out _ _ trivial (fun hHeld => ?_)
       clear hK K
       refine na_ (N := some 24) (h := ?_)
       refine pa_ (i := 7) (N := some 6) (bsA 9 255) (h := ?_)
       refine pa_ (i := 8) (N := some 1) (bsA 9 511) (h := ?_)
       refine done_ (done_of HT_.out (by kernel_rfl)) ?_
       try go_wp2
       go_roundg k1
       case measure => have := HK1.out; omega
       case rel => exact ⟨(y341), (y338), H', ⟨by have := HK1.out; omega⟩, ⟨z37 HO345.out⟩, ⟨bR HO340⟩, ⟨bB⟩⟩
      rw [if_neg c12] at H
      exact absurd H (by simp)
     rw [if_neg c11] at H
     exact absurd H (by simp)
    rw [if_neg c10] at H
    exact absurd H (by simp)
   rw [if_neg c5] at H
   have c5b0 : decide (0 < (x1_1.length : Int)) = false := decide_eq_false c5
   have c5b1 : decide (0 < x1_1.length) = false := decide_eq_false (by omega)
   clear c5
   simp only [Option.some.injEq, Prod.mk.injEq] at H
   obtain ⟨rfl, rfl⟩ := H
   (try simp only [c5b0, c5b1])
   go_wp2
   go_ret2
   exact ⟨_, bE, bR HO_6, bB⟩
def impl_DecodeText.f (k : Nat) (a0 : Int) (l1 : List Int) : Option (Int × List Int) := (impl_isCharset.f a0).bind fun t347 => (if t347 = true then (if (l1.length : Int) > 400 then (some (2, ([] : List Int))) else ((impl_decodeChars.f k a0 l1).bind fun bt348 => (if bt348.2 = true then (some (0, bt348.1)) else (some (8, ([] : List Int)))))) else (some (4, ([] : List Int))))
set_option maxHeartbeats 8000000 in
set_option maxRecDepth 100000 in
theorem impl_DecodeText.calls (k : Nat) (a0 : Int) (A1 : Option Addr) (c1 : Nat) (l1 : List Int) (r1 : Int) (r2 : List Int) (w : World) (hr1 : Kd.C (Kd.int .u8) w A1 l1.length l1) (hc1 : l1.length ≤ c1) (h : impl_DecodeText.f k a0 l1 = some (r1, r2)) :
  Calls Tryz.prog 82 #[.int .i64 a0, .slice A1 l1.length c1] w fun e w' => ∃ v1_ : Value, e = .returned (.agg #[.int .i64 r1, v1_]) ∧ Kd.R (Kd.int .i64) 2 w' w.heap.size (fun _ => True) v1_ r2 ∧ Below w.heap.size w w' := by
 have hu25 := Tryz.underlying25
 have HR1 := aM hr1
 have HC1 := aM hc1
 clear hr1 hc1
 have HB := aM (Below.refl w.heap.size w)
 have H : ((impl_isCharset.f a0).bind fun t347 => (if t347 = true then (if (l1.length : Int) > 400 then (some (2, ([] : List Int))) else ((impl_decodeChars.f k a0 l1).bind fun bt348 => (if bt348.2 = true then (some (0, bt348.1)) else (some (8, ([] : List Int)))))) else (some (4, ([] : List Int))))) = some (r1, r2) := h
 clear h
 replace H := Option.bind_eq_some_iff.mp H
 obtain ⟨t347, A30, H⟩ := H
 replace H : (if t347 = true then (if (l1.length : Int) > 400 then (some (2, ([] : List Int))) else ((impl_decodeChars.f k a0 l1).bind fun bt348 => (if bt348.2 = true then (some (0, bt348.1)) else (some (8, ([] : List Int)))))) else (some (4, ([] : List Int)))) = some (r1, r2) := H
 have A3 := aM A30
 clear A30
 have HQ_ := aM H
 clear H
 go_enter Tryz.func82, Tryz.ntmps82
 have H := HQ_.out
 clear HQ_
 by_cases c4 : t347 = true
 ·subst c4
  have H1 : (if (l1.length : Int) > 400 then (some (2, ([] : List Int))) else ((impl_decodeChars.f k a0 l1).bind fun bt348 => (if bt348.2 = true then (some (0, bt348.1)) else (some (8, ([] : List Int)))))) = some (r1, r2) := z16
  clear H
  have H := H1
  clear H1
  by_cases c5 : (l1.length : Int) > 400
  ·rw [if_pos c5] at H
   have c5b0 : decide (400 < (l1.length : Int)) = true := decide_eq_true c5
   have c5b1 : decide (400 < l1.length) = true := decide_eq_true (by omega)
   clear c5
   simp only [Option.some.injEq, Prod.mk.injEq] at H
   obtain ⟨rfl, rfl⟩ := H
   (try simp only [c5b0, c5b1])
   go_wp2_with (first | ((with_reducible refine gate_dst (N := 4) rfl ?_); refine box_event ?hg (N := 4) ?hd (cs := #[.int .i64 0, .slice none 0 0]) (t := 25) ?hr ?_; (case hd => rfl); (case hg => rfl); (case hr => exact z10); intro gb346 hg w6 hbox hb; have BK346 := aM (hbox); have GW346 := aM ((z21 : w.heap.size ≤ gb346)); have GE346 := aM ((z21 : w.heap.size ≤ gb346)); replace HB := aM (below_step bB hb); clear hb hbox hg) | ((with_reducible refine gate_callee (f := 114) rfl ?_); refine gL_ (some 9) Tryz.func114 #[.int .i64 a0] ?_; (with_reducible refine (impl_isCharset.calls a0 true _ A3.out).mono ?_); rintro e w' ⟨rfl, ⟨nd, rfl⟩⟩; refine ⟨_, rfl, ?_⟩; (try (rw [drewN_self w6]; generalize hq_ : World.drewN w6 _ = w6; have n0_ : Aside0 (w6.heap[gb346]? = some (.cells #[.int .i64 0, .slice none 0 0] 25 (0, 0))) := ⟨by rw [← hq_]; exact (bL BK346)⟩; have n1_ : Aside0 (Below w.heap.size w w6) := ⟨by rw [← hq_]; exact (bG GE346)⟩; clear BK346 HB hq_; have BK346 := n0_; have HB := n1_; clear n0_ n1_)); have hcz7_0 : w6.cell? ⟨gb346, 0, none⟩ = some (.int .i64 0) := (blk_cell BK346.out 0).trans rfl; have hcz7_1 : w6.cell? ⟨gb346, 1, none⟩ = some (.slice none 0 0) := (blk_cell BK346.out 1).trans rfl; have hfz7_0 := blk_frozen BK346.out 0; have hfz7_1 := blk_frozen BK346.out 1))
   refine bodyPost_ret (results_cell_row rfl _ _ gb346 25 #[.int .i64 2, .slice none 0 0] (0, 0) _ rfl (z8 BK346.out) Tryz.underlying25 rfl (by kernel_rfl)) rfl ?_
   exact ⟨_, bE, z6, bG GE346⟩
  rw [if_neg c5] at H
  have c5b0 : decide (400 < (l1.length : Int)) = false := decide_eq_false c5
  have c5b1 : decide (400 < l1.length) = false := decide_eq_false (by omega)
  clear c5
  replace H := Option.bind_eq_some_iff.mp H
  obtain ⟨⟨t348, t351⟩, A80, H⟩ := H
  replace H : (if t351 = true then (some (0, t348)) else (some (8, ([] : List Int)))) = some (r1, r2) := H
  have A8 := aM A80
  clear A80
  (try simp only [c5b0, c5b1])
  by_cases c9 : t351 = true
  ·subst c9
   have H1 : (some (0, t348)) = some (r1, r2) := z16
   clear H
   have H := H1
   clear H1
   simp only [Option.some.injEq, Prod.mk.injEq] at H
   obtain ⟨rfl, rfl⟩ := H
   go_wp2_with (first | ((with_reducible refine gate_dst (N := 4) rfl ?_); refine box_event ?hg (N := 4) ?hd (cs := #[.int .i64 0, .slice none 0 0]) (t := 25) ?hr ?_; (case hd => rfl); (case hg => rfl); (case hr => exact z10); intro gb346 hg w10 hbox hb; have BK346 := aM (hbox); have GW346 := aM ((z21 : w.heap.size ≤ gb346)); have GE346 := aM ((z21 : w.heap.size ≤ gb346)); replace HB := aM (below_step bB hb); clear hb hbox hg) | ((with_reducible refine gate_callee (f := 114) rfl ?_); refine gL_ (some 9) Tryz.func114 #[.int .i64 a0] ?_; (with_reducible refine (impl_isCharset.calls a0 true _ A3.out).mono ?_); rintro e w' ⟨rfl, ⟨nd, rfl⟩⟩; refine ⟨_, rfl, ?_⟩; (try (rw [drewN_self w10]; generalize hq_ : World.drewN w10 _ = w10; have n0_ : Aside0 (w10.heap[gb346]? = some (.cells #[.int .i64 0, .slice none 0 0] 25 (0, 0))) := ⟨by rw [← hq_]; exact (bL BK346)⟩; have n1_ : Aside0 (Below w.heap.size w w10) := ⟨by rw [← hq_]; exact (bG GE346)⟩; clear BK346 HB hq_; have BK346 := n0_; have HB := n1_; clear n0_ n1_))) | ((with_reducible refine gate_callee (f := 115) rfl ?_); refine gL_ (some 20) Tryz.func115 #[.int .i64 a0, .slice A1 l1.length c1] ?_; (with_reducible refine (impl_decodeChars.calls k a0 (fun k_ => k_ < w.heap.size) _ _ l1 t348 true _ ?side1 A8.out).mono ?_); (case side1 => exact Kd.V_mk HC1.out (Kd.F_below (Kd.C_F (Kd.heap_int .u8) HR1.out) (bG GE346))); rintro e w11 ⟨v349, rfl, ho0, hb⟩; refine ⟨_, rfl, ?_⟩; have HO350 := aM (Kd.R_lower (Kd.R_mono (ok' := fun k_ => True) ho0 (fun _ hk_ => trivial)) (below_size (bG GE346))); replace BK346 := aM (blk_below (g := gb346) (o := .cells #[.int .i64 0, .slice none 0 0] 25 (0, 0)) (bL BK346) hb); replace HB := aM (below_step (bG GE346) hb); (try clear ho0); obtain ⟨Ao12, co12, eo12⟩ := Kd.R_slice HO350.out; subst eo12; have hcz13_0 : w11.cell? ⟨gb346, 0, none⟩ = some (.int .i64 0) := (blk_cell BK346.out 0).trans rfl; have hcz13_1 : w11.cell? ⟨gb346, 1, none⟩ = some (.slice none 0 0) := (blk_cell BK346.out 1).trans rfl; have hfz13_0 := blk_frozen BK346.out 0; have hfz13_1 := blk_frozen BK346.out 1))
   refine bodyPost_ret (results_cell_row rfl _ _ gb346 25 #[.int .i64 0, .slice Ao12 t348.length co12] (0, 0) _ rfl (z18 BK346.out) Tryz.underlying25 rfl (by kernel_rfl)) rfl ?_
   exact ⟨_, bE, by (with_reducible repeat (first | apply Kd.R_alloc | apply Kd.R_drewN | apply Kd.R_drew)); exact Kd.R_mono (Kd.R_far (p := ⟨gb346, 1, none⟩) (Kd.R_far (p := ⟨gb346, 0, none⟩) (Kd.R_types HO350.out BK346.out (by decide)) (fun _ hk => hk.2) (.int .i64 0)) (fun _ hk => hk.2) (.slice Ao12 t348.length co12)) (fun _ hk => trivial), bG GE346⟩
  replace c9 := Bool.eq_false_iff.mpr c9
  subst c9
  have H1 : (some (8, ([] : List Int))) = some (r1, r2) := z7
  clear H
  have H := H1
  clear H1
  simp only [Option.some.injEq, Prod.mk.injEq] at H
  obtain ⟨rfl, rfl⟩ := H
  go_wp2_with (first | ((with_reducible refine gate_dst (N := 4) rfl ?_); refine box_event ?hg (N := 4) ?hd (cs := #[.int .i64 0, .slice none 0 0]) (t := 25) ?hr ?_; (case hd => rfl); (case hg => rfl); (case hr => exact z10); intro gb346 hg w14 hbox hb; have BK346 := aM (hbox); have GW346 := aM ((z21 : w.heap.size ≤ gb346)); have GE346 := aM ((z21 : w.heap.size ≤ gb346)); replace HB := aM (below_step bB hb); clear hb hbox hg) | ((with_reducible refine gate_callee (f := 114) rfl ?_); refine gL_ (some 9) Tryz.func114 #[.int .i64 a0] ?_; (with_reducible refine (impl_isCharset.calls a0 true _ A3.out).mono ?_); rintro e w' ⟨rfl, ⟨nd, rfl⟩⟩; refine ⟨_, rfl, ?_⟩; (try (rw [drewN_self w14]; generalize hq_ : World.drewN w14 _ = w14; have n0_ : Aside0 (w14.heap[gb346]? = some (.cells #[.int .i64 0, .slice none 0 0] 25 (0, 0))) := ⟨by rw [← hq_]; exact (bL BK346)⟩; have n1_ : Aside0 (Below w.heap.size w w14) := ⟨by rw [← hq_]; exact (bG GE346)⟩; clear BK346 HB hq_; have BK346 := n0_; have HB := n1_; clear n0_ n1_))) | ((with_reducible refine gate_callee (f := 115) rfl ?_); refine gL_ (some 20) Tryz.func115 #[.int .i64 a0, .slice A1 l1.length c1] ?_; (with_reducible refine (impl_decodeChars.calls k a0 (fun k_ => k_ < w.heap.size) _ _ l1 t348 false _ ?side1 A8.out).mono ?_); (case side1 => exact Kd.V_mk HC1.out (Kd.F_below (Kd.C_F (Kd.heap_int .u8) HR1.out) (bG GE346))); rintro e w15 ⟨v349, rfl, ho0, hb⟩; refine ⟨_, rfl, ?_⟩; have HO350 := aM (Kd.R_lower (Kd.R_mono (ok' := fun k_ => True) ho0 (fun _ hk_ => trivial)) (below_size (bG GE346))); replace BK346 := aM (blk_below (g := gb346) (o := .cells #[.int .i64 0, .slice none 0 0] 25 (0, 0)) (bL BK346) hb); replace HB := aM (below_step (bG GE346) hb); (try clear ho0); have hcz16_0 : w15.cell? ⟨gb346, 0, none⟩ = some (.int .i64 0) := (blk_cell BK346.out 0).trans rfl; have hcz16_1 : w15.cell? ⟨gb346, 1, none⟩ = some (.slice none 0 0) := (blk_cell BK346.out 1).trans rfl; have hfz16_0 := blk_frozen BK346.out 0; have hfz16_1 := blk_frozen BK346.out 1))
  refine bodyPost_ret (results_cell_row rfl _ _ gb346 25 #[.int .i64 8, .slice none 0 0] (0, 0) _ rfl (by (with_reducible repeat (first | refine blk_drewN ?_ _ | refine blk_drew ?_ | refine blk_alloc ?_ _)); refine blk_put (cs := #[.int .i64 8, .slice none 0 0]) ?_ 1 _ rfl; (with_reducible repeat (first | refine blk_drewN ?_ _ | refine blk_drew ?_ | refine blk_alloc ?_ _)); refine blk_put (cs := #[.int .i64 0, .slice none 0 0]) ?_ 0 _ rfl; (with_reducible repeat (first | refine blk_drewN ?_ _ | refine blk_drew ?_ | refine blk_alloc ?_ _)); exact BK346.out) Tryz.underlying25 rfl (by kernel_rfl)) rfl ?_
  exact ⟨_, bE, z6, bG GE346⟩
 replace c4 := Bool.eq_false_iff.mpr c4
 subst c4
 have H1 : (some (4, ([] : List Int))) = some (r1, r2) := z7
 clear H
 have H := H1
 clear H1
 simp only [Option.some.injEq, Prod.mk.injEq] at H
 obtain ⟨rfl, rfl⟩ := H
 go_wp2_with (first | ((with_reducible refine gate_dst (N := 4) rfl ?_); refine box_event ?hg (N := 4) ?hd (cs := #[.int .i64 0, .slice none 0 0]) (t := 25) ?hr ?_; (case hd => rfl); (case hg => rfl); (case hr => exact z10); intro gb346 hg w17 hbox hb; have BK346 := aM (hbox); have GW346 := aM ((z21 : w.heap.size ≤ gb346)); have GE346 := aM ((z21 : w.heap.size ≤ gb346)); replace HB := aM (below_step bB hb); clear hb hbox hg) | ((with_reducible refine gate_callee (f := 114) rfl ?_); refine gL_ (some 9) Tryz.func114 #[.int .i64 a0] ?_; (with_reducible refine (impl_isCharset.calls a0 false _ A3.out).mono ?_); rintro e w' ⟨rfl, ⟨nd, rfl⟩⟩; refine ⟨_, rfl, ?_⟩; (try (rw [drewN_self w17]; generalize hq_ : World.drewN w17 _ = w17; have n0_ : Aside0 (w17.heap[gb346]? = some (.cells #[.int .i64 0, .slice none 0 0] 25 (0, 0))) := ⟨by rw [← hq_]; exact (bL BK346)⟩; have n1_ : Aside0 (Below w.heap.size w w17) := ⟨by rw [← hq_]; exact (bG GE346)⟩; clear BK346 HB hq_; have BK346 := n0_; have HB := n1_; clear n0_ n1_)); have hcz18_0 : w17.cell? ⟨gb346, 0, none⟩ = some (.int .i64 0) := (blk_cell BK346.out 0).trans rfl; have hcz18_1 : w17.cell? ⟨gb346, 1, none⟩ = some (.slice none 0 0) := (blk_cell BK346.out 1).trans rfl; have hfz18_0 := blk_frozen BK346.out 0; have hfz18_1 := blk_frozen BK346.out 1))
 refine bodyPost_ret (results_cell_row rfl _ _ gb346 25 #[.int .i64 4, .slice none 0 0] (0, 0) _ rfl (by (with_reducible repeat (first | refine blk_drewN ?_ _ | refine blk_drew ?_ | refine blk_alloc ?_ _)); refine blk_put (cs := #[.int .i64 4, .slice none 0 0]) ?_ 1 _ rfl; (with_reducible repeat (first | refine blk_drewN ?_ _ | refine blk_drew ?_ | refine blk_alloc ?_ _)); refine blk_put (cs := #[.int .i64 0, .slice none 0 0]) ?_ 0 _ rfl; (with_reducible repeat (first | refine blk_drewN ?_ _ | refine blk_drew ?_ | refine blk_alloc ?_ _)); exact BK346.out) Tryz.underlying25 rfl (by kernel_rfl)) rfl ?_
 exact ⟨_, bE, z6, bG GE346⟩
mutual
def impl_toldWord.j0 : Nat → ByteArray → List ByteArray → Bool → Option (List Int × Int)
 | 0, _, _, _ => none
 | k + 1, x0, x6, x29 => if x29 = true then (some (([] : List Int), 0)) else (if 0 < (x6.length : Int) then ((impl_CharsetOf.f k (rdOf ByteArray.empty x6 0)).bind fun bt360 => (if bt360.1 = 0 then ((some (([] : List Int) : List Int)).bind fun y363 => (if 1 < (x6.length : Int) then (if (rdOf ByteArray.empty x6 1).toList = ([66] : List UInt8) then (impl_toldWord.j1 k x0 x6 y363 (rdOf ByteArray.empty x6 1) ((rdOf ByteArray.empty x6 1).toList == ([66] : List UInt8)) bt360.1 bt360.2) else (impl_toldWord.j1 k x0 x6 y363 (rdOf ByteArray.empty x6 1) ((rdOf ByteArray.empty x6 1).toList == ([98] : List UInt8)) bt360.1 bt360.2)) else (none))) else (some (([] : List Int), 0)))) else (none))
def impl_toldWord.j1 : Nat → ByteArray → List ByteArray → List Int → ByteArray → Bool → Int → Int → Option (List Int × Int)
 | 0, _, _, _, _, _, _, _ => none
 | k + 1, x0, x6, x8, x40, x41, x363000, x363001 => if x41 = true then (if 2 < (x6.length : Int) then ((impl_DecodeBase.f k (rdOf ByteArray.empty x6 2)).bind fun bt368 => ((impl_DecodeText.f k x363001 bt368.2).bind fun bt373 => (if bt368.1 = 0 then (if bt373.1 = 0 then (if 3 < (x6.length : Int) then (some (bt373.2, wrap64 ((wrap64 ((x0.size : Int) - ((rdOf ByteArray.empty x6 3).size : Int))) + 1))) else (none)) else (some (([] : List Int), 0))) else (some (([] : List Int), 0))))) else (none)) else (if x40.toList = ([81] : List UInt8) then (impl_toldWord.j2 k x0 x6 x8 (x40.toList == ([81] : List UInt8)) x363000 x363001) else (impl_toldWord.j2 k x0 x6 x8 (x40.toList == ([113] : List UInt8)) x363000 x363001))
def impl_toldWord.j2 : Nat → ByteArray → List ByteArray → List Int → Bool → Int → Int → Option (List Int × Int)
 | 0, _, _, _, _, _, _ => none
 | k + 1, x0, x6, x8, x53, x363000, x363001 => if x53 = true then (if 2 < (x6.length : Int) then ((impl_quotedWord.f k (rdOf ByteArray.empty x6 2)).bind fun bt380 => ((impl_DecodeText.f k x363001 bt380.1).bind fun bt384 => (if bt380.2 = true then (if bt384.1 = 0 then (if 3 < (x6.length : Int) then (some (bt384.2, wrap64 ((wrap64 ((x0.size : Int) - ((rdOf ByteArray.empty x6 3).size : Int))) + 1))) else (none)) else (some (([] : List Int), 0))) else (some (([] : List Int), 0))))) else (none)) else ((impl_DecodeText.f k x363001 x8).bind fun bt390 => (some (([] : List Int), 0)))
end
def impl_toldWord.f (k : Nat) (a0 : ByteArray) : Option (List Int × Int) := (strings_CutPrefix.f a0 (⟨#[61, 63]⟩ : ByteArray)).bind fun bt352 => (if bt352.2 = true then ((strings_SplitN.f bt352.1 (⟨#[63]⟩ : ByteArray) 4).bind fun t354 => (if (t354.length : Int) = 4 then (if 3 < (t354.length : Int) then ((strings_HasPrefix.f (rdOf ByteArray.empty t354 3) (⟨#[61]⟩ : ByteArray)).bind fun t358 => (impl_toldWord.j0 k a0 t354 (!t358))) else (none)) else (impl_toldWord.j0 k a0 t354 true))) else (some (([] : List Int), 0)))
set_option maxHeartbeats 8000000 in
set_option maxRecDepth 100000 in
theorem impl_toldWord.calls (k : Nat) (a0 : ByteArray) (r1 : List Int) (r2 : Int) (w : World) (hm_ : ∃ m, w.cell? ⟨0, 0, none⟩ = some (.int .i64 m)) (h : impl_toldWord.f k a0 = some (r1, r2)) :
  Calls Tryz.prog 52 #[.string a0] w fun e w' => ∃ v0_ : Value, e = .returned (.tuple #[v0_, .int .i64 r2]) ∧ Kd.R (Kd.int .i64) 2 w' w.heap.size (fun _ => True) v0_ r1 ∧ Below w.heap.size w w' := by
 have HM_ := aM hm_
 clear hm_
 have hu101 := Tryz.underlying101
 have hu104 := Tryz.underlying104
 have hu25 := Tryz.underlying25
 have HB := aM (Below.refl w.heap.size w)
 have H : ((strings_CutPrefix.f a0 (⟨#[61, 63]⟩ : ByteArray)).bind fun bt352 => (if bt352.2 = true then ((strings_SplitN.f bt352.1 (⟨#[63]⟩ : ByteArray) 4).bind fun t354 => (if (t354.length : Int) = 4 then (if 3 < (t354.length : Int) then ((strings_HasPrefix.f (rdOf ByteArray.empty t354 3) (⟨#[61]⟩ : ByteArray)).bind fun t358 => (impl_toldWord.j0 k a0 t354 (!t358))) else (none)) else (impl_toldWord.j0 k a0 t354 true))) else (some (([] : List Int), 0)))) = some (r1, r2) := h
 clear h
 replace H := Option.bind_eq_some_iff.mp H
 obtain ⟨⟨t352, t353⟩, A20, H⟩ := H
 replace H : (if t353 = true then ((strings_SplitN.f t352 (⟨#[63]⟩ : ByteArray) 4).bind fun t354 => (if (t354.length : Int) = 4 then (if 3 < (t354.length : Int) then ((strings_HasPrefix.f (rdOf ByteArray.empty t354 3) (⟨#[61]⟩ : ByteArray)).bind fun t358 => (impl_toldWord.j0 k a0 t354 (!t358))) else (none)) else (impl_toldWord.j0 k a0 t354 true))) else (some (([] : List Int), 0))) = some (r1, r2) := H
 have A2 := aM A20
 clear A20
 have HQ_ := aM H
 clear H
 go_enter Tryz.func52, Tryz.ntmps52
 have H := HQ_.out
 clear HQ_
 by_cases c3 : t353 = true
 ·subst c3
  have H1 : ((strings_SplitN.f t352 (⟨#[63]⟩ : ByteArray) 4).bind fun t354 => (if (t354.length : Int) = 4 then (if 3 < (t354.length : Int) then ((strings_HasPrefix.f (rdOf ByteArray.empty t354 3) (⟨#[61]⟩ : ByteArray)).bind fun t358 => (impl_toldWord.j0 k a0 t354 (!t358))) else (none)) else (impl_toldWord.j0 k a0 t354 true))) = some (r1, r2) := z16
  clear H
  have H := H1
  clear H1
  replace H := Option.bind_eq_some_iff.mp H
  obtain ⟨t354, A40, H⟩ := H
  replace H : (if (t354.length : Int) = 4 then (if 3 < (t354.length : Int) then ((strings_HasPrefix.f (rdOf ByteArray.empty t354 3) (⟨#[61]⟩ : ByteArray)).bind fun t358 => (impl_toldWord.j0 k a0 t354 (!t358))) else (none)) else (impl_toldWord.j0 k a0 t354 true)) = some (r1, r2) := H
  have A4 := aM A40
  clear A40
  have HC5 := aM H
  clear H
  go_upto_region 5 with (first | (go_at_call 76; (with_reducible refine (strings_CutPrefix.calls a0 (⟨#[61, 63]⟩ : ByteArray) t352 true _ A2.out).mono ?_); rintro e w' ⟨rfl, ⟨nd, rfl⟩⟩; (try first | exact ⟨rfl, _, World.drewN_drewN _ _ _⟩ | exact ⟨rfl, _, Eq.trans (World.drewN_drewN _ _ _) (congrArg (World.drewN _) (Nat.add_assoc _ _ _))⟩)) | (go_at_call 77; (with_reducible refine (strings_SplitN.calls t352 (⟨#[63]⟩ : ByteArray) 4 t354 _ ?sidem A4.out).mono ?_); (case sidem => exact strings_SplitN.below HM_.out (by repeat (first | (with_reducible first | exact HB.out | apply below_alloc | apply pw_below_drewN | apply below_drew1 | refine below_set ?_ GE362.out | refine below_set ?_ GE372.out | refine below_set ?_ GE377.out) | exact HB.out))); rintro e w6 ⟨v355, rfl, ho0, hb⟩; have HO356 := aM (Kd.R_lower ho0 (below_size bB)); replace HB := aM (below_step bB hb); (try clear ho0)))
  repeat (go_quiet (first | (go_at_call 76; (with_reducible refine (strings_CutPrefix.calls a0 (⟨#[61, 63]⟩ : ByteArray) t352 true _ A2.out).mono ?_); rintro e w' ⟨rfl, ⟨nd, rfl⟩⟩; (try first | exact ⟨rfl, _, World.drewN_drewN _ _ _⟩ | exact ⟨rfl, _, Eq.trans (World.drewN_drewN _ _ _) (congrArg (World.drewN _) (Nat.add_assoc _ _ _))⟩))); go_upto_region 5 with (first | (go_at_call 76; (with_reducible refine (strings_CutPrefix.calls a0 (⟨#[61, 63]⟩ : ByteArray) t352 true _ A2.out).mono ?_); rintro e w' ⟨rfl, ⟨nd, rfl⟩⟩; (try first | exact ⟨rfl, _, World.drewN_drewN _ _ _⟩ | exact ⟨rfl, _, Eq.trans (World.drewN_drewN _ _ _) (congrArg (World.drewN _) (Nat.add_assoc _ _ _))⟩)) | (go_at_call 77; (with_reducible refine (strings_SplitN.calls t352 (⟨#[63]⟩ : ByteArray) 4 t354 _ ?sidem A4.out).mono ?_); (case sidem => exact strings_SplitN.below HM_.out (by repeat (first | (with_reducible first | exact HB.out | apply below_alloc | apply pw_below_drewN | apply below_drew1 | refine below_set ?_ GE362.out | refine below_set ?_ GE372.out | refine below_set ?_ GE377.out) | exact HB.out))); rintro e w6 ⟨v355, rfl, ho0, hb⟩; have HO356 := aM (Kd.R_lower ho0 (below_size bB)); replace HB := aM (below_step bB hb); (try clear ho0))))
  (try simp only [Act.put, List.setIfInBounds_toArray, List.set_cons_zero, List.set_cons_succ])
  go_cut [29] (fun v29 wc => ∃ (kq : Nat) (x29_4 : Bool), v29 = .bool x29_4 ∧ Aside0 (impl_toldWord.j0 kq a0 t354 x29_4 = some (r1, r2)) ∧ Aside0 (kq ≤ k) ∧ Aside0 (Kd.R Kd.string 9 wc w.heap.size (fun _ => True) v355 t354) ∧ Aside0 (Below w.heap.size w wc))
  case first =>
   have H := HC5.out
   clear HC5
   by_cases c7 : (t354.length : Int) = 4
   ·rw [if_pos c7] at H
    have c7b0 : ((t354.length : Int) == 4) = true := beq_iff_eq.mpr c7
    have c7b1 : ((t354.length : Int) != 4) = false := bne_eq_false_iff_eq.mpr c7
    clear c7
    (first | rw [c7b0] | (simp only [i64_w, i32_w]; rw [c7b0]) | skip)
    by_cases c8 : 3 < (t354.length : Int)
    ·rw [if_pos c8] at H
     have c8b0 : decide (3 < (t354.length : Int)) = true := decide_eq_true c8
     have c8b1 : decide (3 < t354.length) = true := decide_eq_true (by omega)
     clear c8
     replace H := Option.bind_eq_some_iff.mp H
     obtain ⟨t358, A90, H⟩ := H
     replace H : (impl_toldWord.j0 k a0 t354 (!t358)) = some (r1, r2) := H
     have A9 := aM A90
     clear A90
     have H' := aM H
     clear H
     obtain ⟨Ao10, co10, eo10⟩ := Kd.R_slice HO356.out
     subst eo10
     have p357 : 0 ≤ (3 : Int) := (by omega)
     have q357 : 3 < (t354.length : Int) := pI
     obtain ⟨ad357, e357, hx357_0⟩ := Kd.at_string (Kd.R_reads' HO356.out).2.2 3 p357 q357
     cases e357
     (try simp only [show (3 : Int).toNat = 3 from rfl, Nat.reduceMul, Nat.reduceEqDiff, Go.Addr.add, ↓reduceIte] at hx357_0)
     have qi357 : (3 < t354.length) = True := eq_true (by omega)
     (try rw [show ((3 : Int)).toNat = 3 from rfl] at hx357_0)
     replace p357 := eq_true p357
     replace q357 := eq_true q357
     iterate 8 (go_wp2_with (first | (go_at_call 78; (with_reducible refine (strings_HasPrefix.calls (rdOf ByteArray.empty t354 3) (⟨#[61]⟩ : ByteArray) t358 _ A9.out).mono ?_); rintro e w' ⟨rfl, ⟨nd, rfl⟩⟩; (try first | exact ⟨rfl, _, World.drewN_drewN _ _ _⟩ | exact ⟨rfl, _, Eq.trans (World.drewN_drewN _ _ _) (congrArg (World.drewN _) (Nat.add_assoc _ _ _))⟩))); try go_quiet (first | (go_at_call 78; (with_reducible refine (strings_HasPrefix.calls (rdOf ByteArray.empty t354 3) (⟨#[61]⟩ : ByteArray) t358 _ A9.out).mono ?_); rintro e w' ⟨rfl, ⟨nd, rfl⟩⟩; (try first | exact ⟨rfl, _, World.drewN_drewN _ _ _⟩ | exact ⟨rfl, _, Eq.trans (World.drewN_drewN _ _ _) (congrArg (World.drewN _) (Nat.add_assoc _ _ _))⟩))))
     go_meet
     case rel => exact ⟨_, (!t358), bS, H', ⟨z34⟩, ⟨bR HO356⟩, ⟨bB⟩⟩
    rw [if_neg c8] at H
    exact absurd H (by simp)
   rw [if_neg c7] at H
   have c7b0 : ((t354.length : Int) == 4) = false := beq_eq_false_iff_ne.mpr c7
   have c7b1 : ((t354.length : Int) != 4) = true := bne_iff_ne.mpr c7
   (first | rw [c7b0] | (simp only [i64_w, i32_w]; rw [c7b0]) | skip)
   have H' := aM H
   clear H
   obtain ⟨Ao11, co11, eo11⟩ := Kd.R_slice HO356.out
   subst eo11
   go_wp2
   repeat (go_quiet (fail); try go_wp2)
   go_meet
   case rel => exact ⟨_, (true), bS, H', ⟨z34⟩, ⟨bR HO356⟩, ⟨bB⟩⟩
  case rest =>
   clear HC5
   try clear p2
   try clear c3
   try clear p3
   try clear q3
   try clear hx3
   try clear qi3
   try clear c5
   try clear c7
   try clear c7b0
   try clear c7b1
   try clear c8
   try clear c8b0
   try clear c8b1
   try clear hx357_0
   try clear p357
   try clear q357
   obtain ⟨kq, x29_4, rfl, HA, HJ4, HO_6, HB⟩ := hcut
   cases kq with
   | zero => exact absurd HA.out (by simp [impl_toldWord.j0])
   | succ kj4 =>
    have H := HA.out
    clear HA
    simp only [impl_toldWord.j0] at H
    by_cases c12 : x29_4 = true
    ·subst c12
     have H1 : (some (([] : List Int), 0)) = some (r1, r2) := z16
     clear H
     have H := H1
     clear H1
     simp only [Option.some.injEq, Prod.mk.injEq] at H
     obtain ⟨rfl, rfl⟩ := H
     go_wp2
     repeat (go_quiet (fail); try go_wp2)
     go_ret2
     exact ⟨_, bE, z6, bB⟩
    replace c12 := Bool.eq_false_iff.mpr c12
    subst c12
    have H1 : (if 0 < (t354.length : Int) then ((impl_CharsetOf.f kj4 (rdOf ByteArray.empty t354 0)).bind fun bt360 => (if bt360.1 = 0 then ((some (([] : List Int) : List Int)).bind fun y363 => (if 1 < (t354.length : Int) then (if (rdOf ByteArray.empty t354 1).toList = ([66] : List UInt8) then (impl_toldWord.j1 kj4 a0 t354 y363 (rdOf ByteArray.empty t354 1) ((rdOf ByteArray.empty t354 1).toList == ([66] : List UInt8)) bt360.1 bt360.2) else (impl_toldWord.j1 kj4 a0 t354 y363 (rdOf ByteArray.empty t354 1) ((rdOf ByteArray.empty t354 1).toList == ([98] : List UInt8)) bt360.1 bt360.2)) else (none))) else (some (([] : List Int), 0)))) else (none)) = some (r1, r2) := z7
    clear H
    have H := H1
    clear H1
    by_cases c13 : 0 < (t354.length : Int)
    ·rw [if_pos c13] at H
     have c13b0 : decide (0 < (t354.length : Int)) = true := decide_eq_true c13
     have c13b1 : decide (0 < t354.length) = true := decide_eq_true (by omega)
     clear c13
     replace H := Option.bind_eq_some_iff.mp H
     obtain ⟨⟨t360, t361⟩, A140, H⟩ := H
     replace H : (if t360 = 0 then ((some (([] : List Int) : List Int)).bind fun y363 => (if 1 < (t354.length : Int) then (if (rdOf ByteArray.empty t354 1).toList = ([66] : List UInt8) then (impl_toldWord.j1 kj4 a0 t354 y363 (rdOf ByteArray.empty t354 1) ((rdOf ByteArray.empty t354 1).toList == ([66] : List UInt8)) t360 t361) else (impl_toldWord.j1 kj4 a0 t354 y363 (rdOf ByteArray.empty t354 1) ((rdOf ByteArray.empty t354 1).toList == ([98] : List UInt8)) t360 t361)) else (none))) else (some (([] : List Int), 0))) = some (r1, r2) := H
     have A14 := aM A140
     clear A140
     have HQ_ := aM H
     clear H
     obtain ⟨Ao18, co18, eo18⟩ := Kd.R_slice HO_6.out
     subst eo18
     have p359 : 0 ≤ (0 : Int) := (by omega)
     have q359 : 0 < (t354.length : Int) := pI
     obtain ⟨ad359, e359, hx359_0⟩ := Kd.at_string (Kd.R_reads' HO_6.out).2.2 0 p359 q359
     cases e359
     have qi359 : (0 < t354.length) = True := eq_true (by omega)
     (try rw [show ((0 : Int)).toNat = 0 from rfl] at hx359_0)
     (try rw [Addr.add_zero'] at hx359_0)
     replace p359 := eq_true p359
     replace q359 := eq_true q359
     have H := HQ_.out
     clear HQ_
     by_cases c15 : t360 = 0
     ·rw [if_pos c15] at H
      have c15b0 : (t360 == 0) = true := beq_iff_eq.mpr c15
      have c15b1 : (t360 != 0) = false := bne_eq_false_iff_eq.mpr c15
      clear c15
      obtain ⟨y363, hy363⟩ : ∃ y_ : List Int, y_ = (([] : List Int)) := ⟨_, rfl⟩
      replace H : (if 1 < (t354.length : Int) then (if (rdOf ByteArray.empty t354 1).toList = ([66] : List UInt8) then (impl_toldWord.j1 kj4 a0 t354 y363 (rdOf ByteArray.empty t354 1) ((rdOf ByteArray.empty t354 1).toList == ([66] : List UInt8)) t360 t361) else (impl_toldWord.j1 kj4 a0 t354 y363 (rdOf ByteArray.empty t354 1) ((rdOf ByteArray.empty t354 1).toList == ([98] : List UInt8)) t360 t361)) else (none)) = some (r1, r2) := z0 hy363
      have Ny363 := aM hy363
      clear hy363
      (try simp only [c15b0, c15b1])
      by_cases c16 : 1 < (t354.length : Int)
      ·rw [if_pos c16] at H
       have c16b0 : decide (1 < (t354.length : Int)) = true := decide_eq_true c16
       have c16b1 : decide (1 < t354.length) = true := decide_eq_true (by omega)
       clear c16
       have HC17 := aM H
       clear H
       go_upto_if 41 with (first | (go_at_call 79; (with_reducible refine (impl_CharsetOf.calls kj4 (rdOf ByteArray.empty t354 0) t360 t361 _ A14.out).mono ?_); rintro e w19 ⟨rfl, hb⟩; replace HO_6 := aM (Kd.R_below (bR HO_6) hb); replace HB := aM (below_step bB hb); (try clear hi)) | ((with_reducible refine gate_dst (N := 7) rfl ?_); refine box_event ?hg (N := 7) ?hd (cs := #[.int .i64 0, .int .i64 0]) (t := 101) ?hr ?_; (case hd => rfl); (case hg => rfl); (case hr => exact z10); intro gb362 hg w20 hbox hb; replace HO_6 := aM (Kd.R_below (bR HO_6) hb); have BK362 := aM (hbox); have GW362 := aM ((z21 : w.heap.size ≤ gb362)); have GE362 := aM ((z21 : w.heap.size ≤ gb362)); replace HB := aM (below_step bB hb); clear hb hbox hg; have hcz21_0 : w20.cell? ⟨gb362, 0, none⟩ = some (.int .i64 0) := (blk_cell BK362.out 0).trans rfl; have hcz21_1 : w20.cell? ⟨gb362, 1, none⟩ = some (.int .i64 0) := (blk_cell BK362.out 1).trans rfl; have hfz21_0 := blk_frozen BK362.out 0; have hfz21_1 := blk_frozen BK362.out 1) | ((with_reducible refine gate_dst (N := 37) rfl ?_); refine Kd.R_lit (Kd.int .u8) _ 5 ?hg (N := 37) ?hd (xs := ([] : List Int)) (inner := []) (ok := fun _ => True) (okp := fun _ => True) ?hr ?hp (fun _ hk => hk) trivial (Below.refl _ _) (Nat.le_refl _) (by simp) ?_; (case hd => rfl); (case hg => rfl); (case hr => exact z10); (case hp => exact (Reps.none _ _)); intro v364 w22 ho23 hb hg_ hnew_; clear hg_ hnew_; (first | rw [← Ny363.out] at ho23 | (simp only [Int.reduceToNat] at ho23; rw [← Ny363.out] at ho23)); replace HO_6 := aM (Kd.R_below (by (with_reducible repeat (first | apply Kd.R_alloc | apply Kd.R_drewN | apply Kd.R_drew)); exact (Kd.R_mono (Kd.R_far (p := ⟨gb362, 1, none⟩) (Kd.R_far (p := ⟨gb362, 0, none⟩) (Kd.R_types HO_6.out BK362.out (by decide)) (fun _ hk => hk.2) (.int .i64 t360)) (fun _ hk => hk.2) (.int .i64 t361)) (fun _ h_ => h_.1))) hb); have HO365 := aM (Kd.R_lower ho23 (below_size (bG GE362))); replace BK362 := aM (blk_below (g := gb362) (o := .cells #[.int .i64 t360, .int .i64 t361] 101 (0, 0)) (by (with_reducible repeat (first | refine blk_drewN ?_ _ | refine blk_drew ?_ | refine blk_alloc ?_ _)); refine blk_put (cs := #[.int .i64 t360, .int .i64 0]) ?_ 1 _ rfl; (with_reducible repeat (first | refine blk_drewN ?_ _ | refine blk_drew ?_ | refine blk_alloc ?_ _)); refine blk_put (cs := #[.int .i64 0, .int .i64 0]) ?_ 0 _ rfl; (with_reducible repeat (first | refine blk_drewN ?_ _ | refine blk_drew ?_ | refine blk_alloc ?_ _)); exact BK362.out) hb); replace HB := aM (below_step (bG GE362) hb); clear hb ho23; have p366 : 0 ≤ (1 : Int) := (by omega); have q366 : 1 < (t354.length : Int) := pI; obtain ⟨ad366, e366, hx366_0⟩ := Kd.at_string (Kd.R_reads' HO_6.out).2.2 1 p366 q366; obtain rfl : ad359 = ad366 := (by injection e366); (try simp only [show (1 : Int).toNat = 1 from rfl, Nat.reduceMul, Nat.reduceEqDiff, Go.Addr.add, ↓reduceIte] at hx366_0); have qi366 : (1 < t354.length) = True := eq_true (by omega); (try rw [show ((1 : Int)).toNat = 1 from rfl] at hx366_0); replace p366 := eq_true p366; replace q366 := eq_true q366))
       repeat (go_quiet (fail); go_upto_if 41 with (first | (go_at_call 79; (with_reducible refine (impl_CharsetOf.calls kj4 (rdOf ByteArray.empty t354 0) t360 t361 _ A14.out).mono ?_); rintro e w19 ⟨rfl, hb⟩; replace HO_6 := aM (Kd.R_below (bR HO_6) hb); replace HB := aM (below_step bB hb); (try clear hi)) | ((with_reducible refine gate_dst (N := 7) rfl ?_); refine box_event ?hg (N := 7) ?hd (cs := #[.int .i64 0, .int .i64 0]) (t := 101) ?hr ?_; (case hd => rfl); (case hg => rfl); (case hr => exact z10); intro gb362 hg w20 hbox hb; replace HO_6 := aM (Kd.R_below (bR HO_6) hb); have BK362 := aM (hbox); have GW362 := aM ((z21 : w.heap.size ≤ gb362)); have GE362 := aM ((z21 : w.heap.size ≤ gb362)); replace HB := aM (below_step bB hb); clear hb hbox hg; have hcz21_0 : w20.cell? ⟨gb362, 0, none⟩ = some (.int .i64 0) := (blk_cell BK362.out 0).trans rfl; have hcz21_1 : w20.cell? ⟨gb362, 1, none⟩ = some (.int .i64 0) := (blk_cell BK362.out 1).trans rfl; have hfz21_0 := blk_frozen BK362.out 0; have hfz21_1 := blk_frozen BK362.out 1) | ((with_reducible refine gate_dst (N := 37) rfl ?_); refine Kd.R_lit (Kd.int .u8) _ 5 ?hg (N := 37) ?hd (xs := ([] : List Int)) (inner := []) (ok := fun _ => True) (okp := fun _ => True) ?hr ?hp (fun _ hk => hk) trivial (Below.refl _ _) (Nat.le_refl _) (by simp) ?_; (case hd => rfl); (case hg => rfl); (case hr => exact z10); (case hp => exact (Reps.none _ _)); intro v364 w22 ho23 hb hg_ hnew_; clear hg_ hnew_; (first | rw [← Ny363.out] at ho23 | (simp only [Int.reduceToNat] at ho23; rw [← Ny363.out] at ho23)); replace HO_6 := aM (Kd.R_below (by (with_reducible repeat (first | apply Kd.R_alloc | apply Kd.R_drewN | apply Kd.R_drew)); exact (Kd.R_mono (Kd.R_far (p := ⟨gb362, 1, none⟩) (Kd.R_far (p := ⟨gb362, 0, none⟩) (Kd.R_types HO_6.out BK362.out (by decide)) (fun _ hk => hk.2) (.int .i64 t360)) (fun _ hk => hk.2) (.int .i64 t361)) (fun _ h_ => h_.1))) hb); have HO365 := aM (Kd.R_lower ho23 (below_size (bG GE362))); replace BK362 := aM (blk_below (g := gb362) (o := .cells #[.int .i64 t360, .int .i64 t361] 101 (0, 0)) (by (with_reducible repeat (first | refine blk_drewN ?_ _ | refine blk_drew ?_ | refine blk_alloc ?_ _)); refine blk_put (cs := #[.int .i64 t360, .int .i64 0]) ?_ 1 _ rfl; (with_reducible repeat (first | refine blk_drewN ?_ _ | refine blk_drew ?_ | refine blk_alloc ?_ _)); refine blk_put (cs := #[.int .i64 0, .int .i64 0]) ?_ 0 _ rfl; (with_reducible repeat (first | refine blk_drewN ?_ _ | refine blk_drew ?_ | refine blk_alloc ?_ _)); exact BK362.out) hb); replace HB := aM (below_step (bG GE362) hb); clear hb ho23; have p366 : 0 ≤ (1 : Int) := (by omega); have q366 : 1 < (t354.length : Int) := pI; obtain ⟨ad366, e366, hx366_0⟩ := Kd.at_string (Kd.R_reads' HO_6.out).2.2 1 p366 q366; obtain rfl : ad359 = ad366 := (by injection e366); (try simp only [show (1 : Int).toNat = 1 from rfl, Nat.reduceMul, Nat.reduceEqDiff, Go.Addr.add, ↓reduceIte] at hx366_0); have qi366 : (1 < t354.length) = True := eq_true (by omega); (try rw [show ((1 : Int)).toNat = 1 from rfl] at hx366_0); replace p366 := eq_true p366; replace q366 := eq_true q366)))
       (try simp only [Act.put, List.setIfInBounds_toArray, List.set_cons_zero, List.set_cons_succ])
       go_cut [41] (fun v41 wc => ∃ (kq : Nat) (x41_16 : Bool), v41 = .bool x41_16 ∧ Aside0 (impl_toldWord.j1 kq a0 t354 y363 (rdOf ByteArray.empty t354 1) x41_16 t360 t361 = some (r1, r2)) ∧ Aside0 (kq ≤ kj4) ∧ Aside0 (Kd.R Kd.string 9 wc w.heap.size (fun _ => True) (.slice (some ad359) t354.length co18) t354) ∧ Aside0 (Kd.R (Kd.int .u8) 5 wc w.heap.size (fun _ => True) v364 y363) ∧ Aside0 (wc.heap[gb362]? = some (.cells #[.int .i64 t360, .int .i64 t361] 101 (0, 0))) ∧ Aside0 (Below w.heap.size w wc))
       case first =>
        have H := HC17.out
        clear HC17
        by_cases c24 : (rdOf ByteArray.empty t354 1).toList = ([66] : List UInt8)
        ·rw [if_pos c24] at H
         have c24b0 : ((rdOf ByteArray.empty t354 1).toList == ([66] : List UInt8)) = true := beq_iff_eq.mpr c24
         have c24b1 : ((rdOf ByteArray.empty t354 1).toList != ([66] : List UInt8)) = false := bne_eq_false_iff_eq.mpr c24
         clear c24
         (first | rw [c24b0] | (simp only [i64_w, i32_w]; rw [c24b0]) | skip)
         have H' := aM H
         clear H
         go_wp2
         repeat (go_quiet (fail); try go_wp2)
         go_meet
         case rel => exact ⟨_, (((rdOf ByteArray.empty t354 1).toList == ([66] : List UInt8))), bS, H', ⟨z31 HJ4.out⟩, ⟨bR HO_6⟩, ⟨bR HO365⟩, ⟨bL BK362⟩, ⟨bG GE362⟩⟩
        rw [if_neg c24] at H
        have c24b0 : ((rdOf ByteArray.empty t354 1).toList == ([66] : List UInt8)) = false := beq_eq_false_iff_ne.mpr c24
        have c24b1 : ((rdOf ByteArray.empty t354 1).toList != ([66] : List UInt8)) = true := bne_iff_ne.mpr c24
        (first | rw [c24b0] | (simp only [i64_w, i32_w]; rw [c24b0]) | skip)
        have H' := aM H
        clear H
        go_wp2
        repeat (go_quiet (fail); try go_wp2)
        go_meet
        case rel => exact ⟨_, (((rdOf ByteArray.empty t354 1).toList == ([98] : List UInt8))), bS, H', ⟨z31 HJ4.out⟩, ⟨bR HO_6⟩, ⟨bR HO365⟩, ⟨bL BK362⟩, ⟨bG GE362⟩⟩
       case rest =>
        clear HC17
        try clear c1
        try clear c2
        try clear p2
        try clear c3
        try clear p3
        try clear q3
        try clear hx3
        try clear qi3
        try clear c5
        try clear c7
        try clear c7b0
        try clear c7b1
        try clear c8
        try clear c8b0
        try clear c8b1
        try clear c12
        try clear c13
        try clear c13b0
        try clear c13b1
        try clear c15
        try clear c15b0
        try clear c15b1
        try clear c16
        try clear c16b0
        try clear c16b1
        try clear c24
        try clear c24b0
        try clear c24b1
        try clear hcz21_0
        try clear hcz21_1
        try clear hfz21_0
        try clear hfz21_1
        try clear hx357_0
        try clear hx359_0
        try clear hx366_0
        try clear p2
        try clear p3
        try clear p357
        try clear p359
        try clear p366
        try clear q3
        try clear q357
        try clear q359
        try clear q366
        obtain ⟨kq, x41_16, rfl, HA, HJ16, HO_6, HO_8, BK362, HB⟩ := hcut
        cases kq with
        | zero => exact absurd HA.out (by simp [impl_toldWord.j1])
        | succ kj16 =>
         have H := HA.out
         clear HA
         simp only [impl_toldWord.j1] at H
         by_cases c25 : x41_16 = true
         ·subst c25
          have H1 : (if 2 < (t354.length : Int) then ((impl_DecodeBase.f kj16 (rdOf ByteArray.empty t354 2)).bind fun bt368 => ((impl_DecodeText.f kj16 t361 bt368.2).bind fun bt373 => (if bt368.1 = 0 then (if bt373.1 = 0 then (if 3 < (t354.length : Int) then (some (bt373.2, wrap64 ((wrap64 ((a0.size : Int) - ((rdOf ByteArray.empty t354 3).size : Int))) + 1))) else (none)) else (some (([] : List Int), 0))) else (some (([] : List Int), 0))))) else (none)) = some (r1, r2) := z16
          clear H
          have H := H1
          clear H1
          by_cases c26 : 2 < (t354.length : Int)
          ·rw [if_pos c26] at H
           have c26b0 : decide (2 < (t354.length : Int)) = true := decide_eq_true c26
           have c26b1 : decide (2 < t354.length) = true := decide_eq_true (by omega)
           clear c26
           replace H := Option.bind_eq_some_iff.mp H
           obtain ⟨⟨t368, t369⟩, A270, H⟩ := H
           replace H : ((impl_DecodeText.f kj16 t361 t369).bind fun bt373 => (if t368 = 0 then (if bt373.1 = 0 then (if 3 < (t354.length : Int) then (some (bt373.2, wrap64 ((wrap64 ((a0.size : Int) - ((rdOf ByteArray.empty t354 3).size : Int))) + 1))) else (none)) else (some (([] : List Int), 0))) else (some (([] : List Int), 0)))) = some (r1, r2) := H
           have A27 := aM A270
           clear A270
           replace H := Option.bind_eq_some_iff.mp H
           obtain ⟨⟨t373, t374⟩, A280, H⟩ := H
           replace H : (if t368 = 0 then (if t373 = 0 then (if 3 < (t354.length : Int) then (some (t374, wrap64 ((wrap64 ((a0.size : Int) - ((rdOf ByteArray.empty t354 3).size : Int))) + 1))) else (none)) else (some (([] : List Int), 0))) else (some (([] : List Int), 0))) = some (r1, r2) := H
           have A28 := aM A280
           clear A280
           have HQ_ := aM H
           clear H
           have p367 : 0 ≤ (2 : Int) := (by omega)
           have q367 : 2 < (t354.length : Int) := pI
           obtain ⟨ad367, e367, hx367_0⟩ := Kd.at_string (Kd.R_reads' HO_6.out).2.2 2 p367 q367
           obtain rfl : ad359 = ad367 := (by injection e367)
           (try simp only [show (2 : Int).toNat = 2 from rfl, Nat.reduceMul, Nat.reduceEqDiff, Go.Addr.add, ↓reduceIte] at hx367_0)
           have qi367 : (2 < t354.length) = True := eq_true (by omega)
           (try rw [show ((2 : Int)).toNat = 2 from rfl] at hx367_0)
           replace p367 := eq_true p367
           replace q367 := eq_true q367
           have H := HQ_.out
           clear HQ_
           by_cases c29 : t368 = 0
           ·rw [if_pos c29] at H
            have c29b0 : (t368 == 0) = true := beq_iff_eq.mpr c29
            have c29b1 : (t368 != 0) = false := bne_eq_false_iff_eq.mpr c29
            clear c29
            (try simp only [c29b0, c29b1])
            by_cases c30 : t373 = 0
            ·rw [if_pos c30] at H
             have c30b0 : (t373 == 0) = true := beq_iff_eq.mpr c30
             have c30b1 : (t373 != 0) = false := bne_eq_false_iff_eq.mpr c30
             clear c30
             (try simp only [c30b0, c30b1])
             by_cases c31 : 3 < (t354.length : Int)
             ·rw [if_pos c31] at H
              have c31b0 : decide (3 < (t354.length : Int)) = true := decide_eq_true c31
              have c31b1 : decide (3 < t354.length) = true := decide_eq_true (by omega)
              clear c31
              simp only [Option.some.injEq, Prod.mk.injEq] at H
              obtain ⟨rfl, rfl⟩ := H
              iterate 8 (go_wp2_with (first | (go_at_call 80; (with_reducible refine (impl_DecodeBase.calls kj16 (rdOf ByteArray.empty t354 2) t368 t369 _ A27.out).mono ?_); rintro e w32 ⟨v370, rfl, ho0, hb⟩; replace HO_6 := aM (Kd.R_below (bR HO_6) hb); have HO371 := aM (Kd.R_lower (Kd.R_new' ho0 (Kd.R_lt (bR HO_8))) (below_size (bG GE362))); replace HO_8 := aM (Kd.R_elder' (bR HO_8) (Kd.R_base ho0) hb); replace BK362 := aM (blk_below (g := gb362) (o := .cells #[.int .i64 t360, .int .i64 t361] 101 (0, 0)) (bL BK362) hb); replace HB := aM (below_step (bG GE362) hb); (try clear ho0)) | ((with_reducible refine gate_dst (N := 9) rfl ?_); refine box_event ?hg (N := 9) ?hd (cs := #[.int .i64 0, .slice none 0 0]) (t := 104) ?hr ?_; (case hd => rfl); (case hg => rfl); (case hr => exact z10); intro gb372 hg w33 hbox hb; replace HO_6 := aM (Kd.R_below (bR HO_6) hb); replace HO_8 := aM (Kd.R_below (bR HO_8) hb); replace HO371 := aM (Kd.R_below (bR HO371) hb); have BK372 := aM (hbox); have GW372 := aM ((z39 : w.heap.size ≤ gb372)); have GE372 := aM ((z39 : w.heap.size ≤ gb372)); replace HB := aM (below_step (bG GE362) hb); have NB362_372 := aM ((z29 : gb362 ≠ gb372)); have NB372_362 := aM ((z30 : gb372 ≠ gb362)); replace BK362 := aM (blk_below (g := gb362) (o := .cells #[.int .i64 t360, .int .i64 t361] 101 (0, 0)) (bL BK362) hb); clear hb hbox hg; have hnb34 := NB372_362.out; have hnc34 := NB362_372.out; have hcz35_0 : w33.cell? ⟨gb372, 0, none⟩ = some (.int .i64 0) := (blk_cell BK372.out 0).trans rfl; have hcz35_1 : w33.cell? ⟨gb372, 1, none⟩ = some (.slice none 0 0) := (blk_cell BK372.out 1).trans rfl; have hfz35_0 := blk_frozen BK372.out 0; have hfz35_1 := blk_frozen BK372.out 1; obtain ⟨Ao36, co36, eo36⟩ := Kd.R_slice HO371.out; subst eo36; have hcz37_0 : w33.cell? ⟨gb362, 0, none⟩ = some (.int .i64 t360) := (blk_cell BK362.out 0).trans rfl; have hcz37_1 : w33.cell? ⟨gb362, 1, none⟩ = some (.int .i64 t361) := (blk_cell BK362.out 1).trans rfl; have hfz37_0 := blk_frozen BK362.out 0; have hfz37_1 := blk_frozen BK362.out 1) | (go_at_call 82; (with_reducible refine (impl_DecodeText.calls kj16 t361 _ _ t369 t373 t374 _ ?side1 ?side2 A28.out).mono ?_); (case side1 => refine (Kd.R_reads' (e := 5) (base := w.heap.size) (ok := fun k_ => (True ∧ some k_ ≠ (v364 : Value).ownBlock)) (n := t369.length) (c := co36) ?_).2.2; exact (z25 HO371.out BK372.out)); (case side2 => exact (Kd.R_reads' HO371.out).2.1); rintro e w38 ⟨v375, rfl, ho0, hb⟩; replace HO_6 := aM (Kd.R_below (z25 HO_6.out BK372.out) hb); replace HO_8 := aM (Kd.R_below (z25 HO_8.out BK372.out) hb); replace HO371 := aM (Kd.R_below (z25 HO371.out BK372.out) hb); have HO376 := aM (Kd.R_lower ho0 (below_size (bG2 GE362 GE372))); replace BK362 := aM (blk_below (g := gb362) (o := .cells #[.int .i64 t360, .int .i64 t361] 101 (0, 0)) (z11 NB362_372.out BK362.out) hb); replace BK372 := aM (blk_below (g := gb372) (o := .cells #[.int .i64 t368, .slice Ao36 t369.length co36] 104 (0, 0)) (z22 BK372.out) hb); replace HB := aM (below_step (bG2 GE362 GE372) hb); (try clear ho0)) | ((with_reducible refine gate_dst (N := 10) rfl ?_); refine box_event ?hg (N := 10) ?hd (cs := #[.int .i64 0, .slice none 0 0]) (t := 25) ?hr ?_; (case hd => rfl); (case hg => rfl); (case hr => exact z10); intro gb377 hg w39 hbox hb; replace HO_6 := aM (Kd.R_below (bR HO_6) hb); replace HO_8 := aM (Kd.R_below (bR HO_8) hb); replace HO371 := aM (Kd.R_below (bR HO371) hb); replace HO376 := aM (Kd.R_below (bR HO376) hb); have BK377 := aM (hbox); have GW377 := aM ((z50 : w.heap.size ≤ gb377)); have GE377 := aM ((z50 : w.heap.size ≤ gb377)); replace HB := aM (below_step (bG2 GE362 GE372) hb); have NB362_377 := aM ((z29 : gb362 ≠ gb377)); have NB377_362 := aM ((z30 : gb377 ≠ gb362)); replace BK362 := aM (blk_below (g := gb362) (o := .cells #[.int .i64 t360, .int .i64 t361] 101 (0, 0)) (bL BK362) hb); have NB372_377 := aM ((by rw [hg]; exact Nat.ne_of_lt (blk_lt (g := gb372) (o := .cells #[.int .i64 t368, .slice Ao36 t369.length co36] 104 (0, 0)) (bL BK372)) : gb372 ≠ gb377)); have NB377_372 := aM ((by rw [hg]; exact Nat.ne_of_gt (blk_lt (g := gb372) (o := .cells #[.int .i64 t368, .slice Ao36 t369.length co36] 104 (0, 0)) (bL BK372)) : gb377 ≠ gb372)); replace BK372 := aM (blk_below (g := gb372) (o := .cells #[.int .i64 t368, .slice Ao36 t369.length co36] 104 (0, 0)) (bL BK372) hb); clear hb hbox hg; have hnb40 := NB377_362.out; have hnc40 := NB362_377.out; have hnb41 := NB377_372.out; have hnc41 := NB372_377.out; have hcz42_0 : w39.cell? ⟨gb377, 0, none⟩ = some (.int .i64 0) := (blk_cell BK377.out 0).trans rfl; have hcz42_1 : w39.cell? ⟨gb377, 1, none⟩ = some (.slice none 0 0) := (blk_cell BK377.out 1).trans rfl; have hfz42_0 := blk_frozen BK377.out 0; have hfz42_1 := blk_frozen BK377.out 1; obtain ⟨Ao43, co43, eo43⟩ := Kd.R_slice HO376.out; subst eo43; have p378 : 0 ≤ (3 : Int) := (by omega); have q378 : 3 < (t354.length : Int) := pI; obtain ⟨ad378, e378, hx378_0⟩ := Kd.at_string (Kd.R_reads' HO_6.out).2.2 3 p378 q378; obtain rfl : ad359 = ad378 := (by injection e378); (try simp only [show (3 : Int).toNat = 3 from rfl, Nat.reduceMul, Nat.reduceEqDiff, Go.Addr.add, ↓reduceIte] at hx378_0); have qi378 : (3 < t354.length) = True := eq_true (by omega); (try rw [show ((3 : Int)).toNat = 3 from rfl] at hx378_0); have hn378_0 : ad359.block ≠ gb377 := Kd.own_blk (Kd.R_ne HO_6.out BK377.out (by decide)); have hn378_1 : ad359.block ≠ gb377 := Kd.own_blk (Kd.R_ne HO_6.out BK377.out (by decide)); replace hx378_0 := (cell_far (p := ⟨gb377, 0, none⟩) (by first | (rw [add_block]; exact hn378_0) | (show (Addr.add _ _).block ≠ _; rw [add_block]; exact hn378_0) | exact hn378_0) (.int .i64 t373)).trans hx378_0; replace hx378_0 := (cell_far (p := ⟨gb377, 1, none⟩) (by first | (rw [add_block]; exact hn378_1) | (show (Addr.add _ _).block ≠ _; rw [add_block]; exact hn378_1) | exact hn378_1) (.slice Ao43 t374.length co43)).trans hx378_0; (try have hy378_0 := fun (n_ : Nat) => (show ((((w39.drewN n_).setCell ⟨gb377, 0, none⟩ (.int .i64 t373)).setCell ⟨gb377, 1, none⟩ (.slice Ao43 t374.length co43))).cell? _ = some _ from hx378_0)); clear hn378_0; clear hn378_1; replace p378 := eq_true p378; replace q378 := eq_true q378)); try go_quiet (fail))
              go_ret2
              exact ⟨_, bE, by (with_reducible repeat (first | apply Kd.R_alloc | apply Kd.R_drewN | apply Kd.R_drew)); exact Kd.R_mono (Kd.R_far (p := ⟨gb377, 1, none⟩) (Kd.R_far (p := ⟨gb377, 0, none⟩) (Kd.R_types HO376.out BK377.out (by decide)) (fun _ hk => hk.2) (.int .i64 t373)) (fun _ hk => hk.2) (.slice Ao43 t374.length co43)) (fun _ hk => trivial), z15 GE362.out GE372.out GE377.out⟩
             rw [if_neg c31] at H
             exact absurd H (by simp)
            rw [if_neg c30] at H
            have c30b0 : (t373 == 0) = false := beq_eq_false_iff_ne.mpr c30
            have c30b1 : (t373 != 0) = true := bne_iff_ne.mpr c30
            simp only [Option.some.injEq, Prod.mk.injEq] at H
            obtain ⟨rfl, rfl⟩ := H
            (try simp only [c30b0, c30b1])
            iterate 8 (go_wp2_with (first | (go_at_call 80; (with_reducible refine (impl_DecodeBase.calls kj16 (rdOf ByteArray.empty t354 2) t368 t369 _ A27.out).mono ?_); rintro e w44 ⟨v370, rfl, ho0, hb⟩; replace HO_6 := aM (Kd.R_below (bR HO_6) hb); have HO371 := aM (Kd.R_lower (Kd.R_new' ho0 (Kd.R_lt (bR HO_8))) (below_size (bG GE362))); replace HO_8 := aM (Kd.R_elder' (bR HO_8) (Kd.R_base ho0) hb); replace BK362 := aM (blk_below (g := gb362) (o := .cells #[.int .i64 t360, .int .i64 t361] 101 (0, 0)) (bL BK362) hb); replace HB := aM (below_step (bG GE362) hb); (try clear ho0)) | ((with_reducible refine gate_dst (N := 9) rfl ?_); refine box_event ?hg (N := 9) ?hd (cs := #[.int .i64 0, .slice none 0 0]) (t := 104) ?hr ?_; (case hd => rfl); (case hg => rfl); (case hr => exact z10); intro gb372 hg w45 hbox hb; replace HO_6 := aM (Kd.R_below (bR HO_6) hb); replace HO_8 := aM (Kd.R_below (bR HO_8) hb); replace HO371 := aM (Kd.R_below (bR HO371) hb); have BK372 := aM (hbox); have GW372 := aM ((z39 : w.heap.size ≤ gb372)); have GE372 := aM ((z39 : w.heap.size ≤ gb372)); replace HB := aM (below_step (bG GE362) hb); have NB362_372 := aM ((z29 : gb362 ≠ gb372)); have NB372_362 := aM ((z30 : gb372 ≠ gb362)); replace BK362 := aM (blk_below (g := gb362) (o := .cells #[.int .i64 t360, .int .i64 t361] 101 (0, 0)) (bL BK362) hb); clear hb hbox hg; have hnb46 := NB372_362.out; have hnc46 := NB362_372.out; have hcz47_0 : w45.cell? ⟨gb372, 0, none⟩ = some (.int .i64 0) := (blk_cell BK372.out 0).trans rfl; have hcz47_1 : w45.cell? ⟨gb372, 1, none⟩ = some (.slice none 0 0) := (blk_cell BK372.out 1).trans rfl; have hfz47_0 := blk_frozen BK372.out 0; have hfz47_1 := blk_frozen BK372.out 1; obtain ⟨Ao48, co48, eo48⟩ := Kd.R_slice HO371.out; subst eo48; have hcz49_0 : w45.cell? ⟨gb362, 0, none⟩ = some (.int .i64 t360) := (blk_cell BK362.out 0).trans rfl; have hcz49_1 : w45.cell? ⟨gb362, 1, none⟩ = some (.int .i64 t361) := (blk_cell BK362.out 1).trans rfl; have hfz49_0 := blk_frozen BK362.out 0; have hfz49_1 := blk_frozen BK362.out 1) | (go_at_call 82; (with_reducible refine (impl_DecodeText.calls kj16 t361 _ _ t369 t373 t374 _ ?side1 ?side2 A28.out).mono ?_); (case side1 => refine (Kd.R_reads' (e := 5) (base := w.heap.size) (ok := fun k_ => (True ∧ some k_ ≠ (v364 : Value).ownBlock)) (n := t369.length) (c := co48) ?_).2.2; exact (z24 HO371.out BK372.out)); (case side2 => exact (Kd.R_reads' HO371.out).2.1); rintro e w50 ⟨v375, rfl, ho0, hb⟩; replace HO_6 := aM (Kd.R_below (z24 HO_6.out BK372.out) hb); replace HO_8 := aM (Kd.R_below (z24 HO_8.out BK372.out) hb); replace HO371 := aM (Kd.R_below (z24 HO371.out BK372.out) hb); have HO376 := aM (Kd.R_lower ho0 (below_size (bG2 GE362 GE372))); replace BK362 := aM (blk_below (g := gb362) (o := .cells #[.int .i64 t360, .int .i64 t361] 101 (0, 0)) (z11 NB362_372.out BK362.out) hb); replace BK372 := aM (blk_below (g := gb372) (o := .cells #[.int .i64 t368, .slice Ao48 t369.length co48] 104 (0, 0)) (z22 BK372.out) hb); replace HB := aM (below_step (bG2 GE362 GE372) hb); (try clear ho0)) | ((with_reducible refine gate_dst (N := 10) rfl ?_); refine box_event ?hg (N := 10) ?hd (cs := #[.int .i64 0, .slice none 0 0]) (t := 25) ?hr ?_; (case hd => rfl); (case hg => rfl); (case hr => exact z10); intro gb377 hg w51 hbox hb; replace HO_6 := aM (Kd.R_below (bR HO_6) hb); replace HO_8 := aM (Kd.R_below (bR HO_8) hb); replace HO371 := aM (Kd.R_below (bR HO371) hb); replace HO376 := aM (Kd.R_below (bR HO376) hb); have BK377 := aM (hbox); have GW377 := aM ((z50 : w.heap.size ≤ gb377)); have GE377 := aM ((z50 : w.heap.size ≤ gb377)); replace HB := aM (below_step (bG2 GE362 GE372) hb); have NB362_377 := aM ((z29 : gb362 ≠ gb377)); have NB377_362 := aM ((z30 : gb377 ≠ gb362)); replace BK362 := aM (blk_below (g := gb362) (o := .cells #[.int .i64 t360, .int .i64 t361] 101 (0, 0)) (bL BK362) hb); have NB372_377 := aM ((by rw [hg]; exact Nat.ne_of_lt (blk_lt (g := gb372) (o := .cells #[.int .i64 t368, .slice Ao48 t369.length co48] 104 (0, 0)) (bL BK372)) : gb372 ≠ gb377)); have NB377_372 := aM ((by rw [hg]; exact Nat.ne_of_gt (blk_lt (g := gb372) (o := .cells #[.int .i64 t368, .slice Ao48 t369.length co48] 104 (0, 0)) (bL BK372)) : gb377 ≠ gb372)); replace BK372 := aM (blk_below (g := gb372) (o := .cells #[.int .i64 t368, .slice Ao48 t369.length co48] 104 (0, 0)) (bL BK372) hb); clear hb hbox hg; have hnb52 := NB377_362.out; have hnc52 := NB362_377.out; have hnb53 := NB377_372.out; have hnc53 := NB372_377.out; have hcz54_0 : w51.cell? ⟨gb377, 0, none⟩ = some (.int .i64 0) := (blk_cell BK377.out 0).trans rfl; have hcz54_1 : w51.cell? ⟨gb377, 1, none⟩ = some (.slice none 0 0) := (blk_cell BK377.out 1).trans rfl; have hfz54_0 := blk_frozen BK377.out 0; have hfz54_1 := blk_frozen BK377.out 1; obtain ⟨Ao55, co55, eo55⟩ := Kd.R_slice HO376.out; subst eo55)); try go_quiet (fail))
            go_ret2
            exact ⟨_, bE, z6, z15 GE362.out GE372.out GE377.out⟩
           rw [if_neg c29] at H
           have c29b0 : (t368 == 0) = false := beq_eq_false_iff_ne.mpr c29
           have c29b1 : (t368 != 0) = true := bne_iff_ne.mpr c29
           simp only [Option.some.injEq, Prod.mk.injEq] at H
           obtain ⟨rfl, rfl⟩ := H
           (try simp only [c29b0, c29b1])
           iterate 8 (go_wp2_with (first | (go_at_call 80; (with_reducible refine (impl_DecodeBase.calls kj16 (rdOf ByteArray.empty t354 2) t368 t369 _ A27.out).mono ?_); rintro e w56 ⟨v370, rfl, ho0, hb⟩; replace HO_6 := aM (Kd.R_below (bR HO_6) hb); have HO371 := aM (Kd.R_lower (Kd.R_new' ho0 (Kd.R_lt (bR HO_8))) (below_size (bG GE362))); replace HO_8 := aM (Kd.R_elder' (bR HO_8) (Kd.R_base ho0) hb); replace BK362 := aM (blk_below (g := gb362) (o := .cells #[.int .i64 t360, .int .i64 t361] 101 (0, 0)) (bL BK362) hb); replace HB := aM (below_step (bG GE362) hb); (try clear ho0)) | ((with_reducible refine gate_dst (N := 9) rfl ?_); refine box_event ?hg (N := 9) ?hd (cs := #[.int .i64 0, .slice none 0 0]) (t := 104) ?hr ?_; (case hd => rfl); (case hg => rfl); (case hr => exact z10); intro gb372 hg w57 hbox hb; replace HO_6 := aM (Kd.R_below (bR HO_6) hb); replace HO_8 := aM (Kd.R_below (bR HO_8) hb); replace HO371 := aM (Kd.R_below (bR HO371) hb); have BK372 := aM (hbox); have GW372 := aM ((z39 : w.heap.size ≤ gb372)); have GE372 := aM ((z39 : w.heap.size ≤ gb372)); replace HB := aM (below_step (bG GE362) hb); have NB362_372 := aM ((z29 : gb362 ≠ gb372)); have NB372_362 := aM ((z30 : gb372 ≠ gb362)); replace BK362 := aM (blk_below (g := gb362) (o := .cells #[.int .i64 t360, .int .i64 t361] 101 (0, 0)) (bL BK362) hb); clear hb hbox hg; have hnb58 := NB372_362.out; have hnc58 := NB362_372.out; have hcz59_0 : w57.cell? ⟨gb372, 0, none⟩ = some (.int .i64 0) := (blk_cell BK372.out 0).trans rfl; have hcz59_1 : w57.cell? ⟨gb372, 1, none⟩ = some (.slice none 0 0) := (blk_cell BK372.out 1).trans rfl; have hfz59_0 := blk_frozen BK372.out 0; have hfz59_1 := blk_frozen BK372.out 1; obtain ⟨Ao60, co60, eo60⟩ := Kd.R_slice HO371.out; subst eo60; have hcz61_0 : w57.cell? ⟨gb362, 0, none⟩ = some (.int .i64 t360) := (blk_cell BK362.out 0).trans rfl; have hcz61_1 : w57.cell? ⟨gb362, 1, none⟩ = some (.int .i64 t361) := (blk_cell BK362.out 1).trans rfl; have hfz61_0 := blk_frozen BK362.out 0; have hfz61_1 := blk_frozen BK362.out 1) | (go_at_call 82; (with_reducible refine (impl_DecodeText.calls kj16 t361 _ _ t369 t373 t374 _ ?side1 ?side2 A28.out).mono ?_); (case side1 => refine (Kd.R_reads' (e := 5) (base := w.heap.size) (ok := fun k_ => (True ∧ some k_ ≠ (v364 : Value).ownBlock)) (n := t369.length) (c := co60) ?_).2.2; exact (z26 HO371.out BK372.out)); (case side2 => exact (Kd.R_reads' HO371.out).2.1); rintro e w62 ⟨v375, rfl, ho0, hb⟩; replace HO_6 := aM (Kd.R_below (z26 HO_6.out BK372.out) hb); replace HO_8 := aM (Kd.R_below (z26 HO_8.out BK372.out) hb); replace HO371 := aM (Kd.R_below (z26 HO371.out BK372.out) hb); have HO376 := aM (Kd.R_lower ho0 (below_size (bG2 GE362 GE372))); replace BK362 := aM (blk_below (g := gb362) (o := .cells #[.int .i64 t360, .int .i64 t361] 101 (0, 0)) (z11 NB362_372.out BK362.out) hb); replace BK372 := aM (blk_below (g := gb372) (o := .cells #[.int .i64 t368, .slice Ao60 t369.length co60] 104 (0, 0)) (z22 BK372.out) hb); replace HB := aM (below_step (bG2 GE362 GE372) hb); (try clear ho0)) | ((with_reducible refine gate_dst (N := 10) rfl ?_); refine box_event ?hg (N := 10) ?hd (cs := #[.int .i64 0, .slice none 0 0]) (t := 25) ?hr ?_; (case hd => rfl); (case hg => rfl); (case hr => exact z10); intro gb377 hg w63 hbox hb; replace HO_6 := aM (Kd.R_below (bR HO_6) hb); replace HO_8 := aM (Kd.R_below (bR HO_8) hb); replace HO371 := aM (Kd.R_below (bR HO371) hb); replace HO376 := aM (Kd.R_below (bR HO376) hb); have BK377 := aM (hbox); have GW377 := aM ((z50 : w.heap.size ≤ gb377)); have GE377 := aM ((z50 : w.heap.size ≤ gb377)); replace HB := aM (below_step (bG2 GE362 GE372) hb); have NB362_377 := aM ((z29 : gb362 ≠ gb377)); have NB377_362 := aM ((z30 : gb377 ≠ gb362)); replace BK362 := aM (blk_below (g := gb362) (o := .cells #[.int .i64 t360, .int .i64 t361] 101 (0, 0)) (bL BK362) hb); have NB372_377 := aM ((by rw [hg]; exact Nat.ne_of_lt (blk_lt (g := gb372) (o := .cells #[.int .i64 t368, .slice Ao60 t369.length co60] 104 (0, 0)) (bL BK372)) : gb372 ≠ gb377)); have NB377_372 := aM ((by rw [hg]; exact Nat.ne_of_gt (blk_lt (g := gb372) (o := .cells #[.int .i64 t368, .slice Ao60 t369.length co60] 104 (0, 0)) (bL BK372)) : gb377 ≠ gb372)); replace BK372 := aM (blk_below (g := gb372) (o := .cells #[.int .i64 t368, .slice Ao60 t369.length co60] 104 (0, 0)) (bL BK372) hb); clear hb hbox hg; have hnb64 := NB377_362.out; have hnc64 := NB362_377.out; have hnb65 := NB377_372.out; have hnc65 := NB372_377.out; have hcz66_0 : w63.cell? ⟨gb377, 0, none⟩ = some (.int .i64 0) := (blk_cell BK377.out 0).trans rfl; have hcz66_1 : w63.cell? ⟨gb377, 1, none⟩ = some (.slice none 0 0) := (blk_cell BK377.out 1).trans rfl; have hfz66_0 := blk_frozen BK377.out 0; have hfz66_1 := blk_frozen BK377.out 1; obtain ⟨Ao67, co67, eo67⟩ := Kd.R_slice HO376.out; subst eo67)); try go_quiet (fail))
           go_ret2
           exact ⟨_, bE, z6, z15 GE362.out GE372.out GE377.out⟩
          rw [if_neg c26] at H
          exact absurd H (by simp)
         replace c25 := Bool.eq_false_iff.mpr c25
         subst c25
         have H1 : (if (rdOf ByteArray.empty t354 1).toList = ([81] : List UInt8) then (impl_toldWord.j2 kj16 a0 t354 y363 ((rdOf ByteArray.empty t354 1).toList == ([81] : List UInt8)) t360 t361) else (impl_toldWord.j2 kj16 a0 t354 y363 ((rdOf ByteArray.empty t354 1).toList == ([113] : List UInt8)) t360 t361)) = some (r1, r2) := z7
         clear H
         have H := H1
         clear H1
         have HC68 := aM H
         clear H
         go_upto_if 53 with (fail)
         repeat (go_quiet (fail); go_upto_if 53 with (fail))
         go_cut [53] (fun v53 wc => ∃ (kq : Nat) (x53_67 : Bool), v53 = .bool x53_67 ∧ Aside0 (impl_toldWord.j2 kq a0 t354 y363 x53_67 t360 t361 = some (r1, r2)) ∧ Aside0 (kq ≤ kj16) ∧ Aside0 (Kd.R Kd.string 9 wc w.heap.size (fun _ => True) (.slice (some ad359) t354.length co18) t354) ∧ Aside0 (Kd.R (Kd.int .u8) 5 wc w.heap.size (fun _ => True) v364 y363) ∧ Aside0 (wc.heap[gb362]? = some (.cells #[.int .i64 t360, .int .i64 t361] 101 (0, 0))) ∧ Aside0 (Below w.heap.size w wc))
         case first =>
          have H := HC68.out
          clear HC68
          by_cases c69 : (rdOf ByteArray.empty t354 1).toList = ([81] : List UInt8)
          ·rw [if_pos c69] at H
           have c69b0 : ((rdOf ByteArray.empty t354 1).toList == ([81] : List UInt8)) = true := beq_iff_eq.mpr c69
           have c69b1 : ((rdOf ByteArray.empty t354 1).toList != ([81] : List UInt8)) = false := bne_eq_false_iff_eq.mpr c69
           clear c69
           (first | rw [c69b0] | (simp only [i64_w, i32_w]; rw [c69b0]) | skip)
           have H' := aM H
           clear H
           go_wp2
           repeat (go_quiet (fail); try go_wp2)
           go_meet
           case rel => exact ⟨_, (((rdOf ByteArray.empty t354 1).toList == ([81] : List UInt8))), bS, H', ⟨z23 HJ4.out HJ16.out⟩, ⟨bR HO_6⟩, ⟨bR HO_8⟩, ⟨bL BK362⟩, ⟨bG GE362⟩⟩
          rw [if_neg c69] at H
          have c69b0 : ((rdOf ByteArray.empty t354 1).toList == ([81] : List UInt8)) = false := beq_eq_false_iff_ne.mpr c69
          have c69b1 : ((rdOf ByteArray.empty t354 1).toList != ([81] : List UInt8)) = true := bne_iff_ne.mpr c69
          (first | rw [c69b0] | (simp only [i64_w, i32_w]; rw [c69b0]) | skip)
          have H' := aM H
          clear H
          go_wp2
          repeat (go_quiet (fail); try go_wp2)
          go_meet
          case rel => exact ⟨_, (((rdOf ByteArray.empty t354 1).toList == ([113] : List UInt8))), bS, H', ⟨z23 HJ4.out HJ16.out⟩, ⟨bR HO_6⟩, ⟨bR HO_8⟩, ⟨bL BK362⟩, ⟨bG GE362⟩⟩
         case rest =>
          clear HC68
          try clear c1
          try clear c2
          try clear p2
          try clear c3
          try clear p3
          try clear q3
          try clear hx3
          try clear qi3
          try clear c4
          try clear c5
          try clear c6
          try clear p6
          try clear c7
          try clear c7b0
          try clear c7b1
          try clear c8
          try clear c8b0
          try clear c8b1
          try clear c12
          try clear c13
          try clear c13b0
          try clear c13b1
          try clear c15
          try clear c15b0
          try clear c15b1
          try clear c16
          try clear c16b0
          try clear c16b1
          try clear c24
          try clear c24b0
          try clear c24b1
          try clear c25
          try clear c26
          try clear c26b0
          try clear c26b1
          try clear c29
          try clear c29b0
          try clear c29b1
          try clear c30
          try clear c30b0
          try clear c30b1
          try clear c31
          try clear c31b0
          try clear c31b1
          try clear c34
          try clear p35
          try clear q35
          try clear hx35
          try clear qi35
          try clear p36
          try clear q36
          try clear hx36
          try clear qi36
          try clear p37
          try clear q37
          try clear hx37
          try clear qi37
          try clear c40
          try clear c41
          try clear c46
          try clear c52
          try clear c53
          try clear c58
          try clear c64
          try clear p64
          try clear c65
          try clear c69
          try clear c69b0
          try clear c69b1
          try clear hcz21_0
          try clear hcz21_1
          try clear hcz35_0
          try clear hcz35_1
          try clear hcz37_0
          try clear hcz37_1
          try clear hcz42_0
          try clear hcz42_1
          try clear hcz47_0
          try clear hcz47_1
          try clear hcz49_0
          try clear hcz49_1
          try clear hcz54_0
          try clear hcz54_1
          try clear hcz59_0
          try clear hcz59_1
          try clear hcz61_0
          try clear hcz61_1
          try clear hcz66_0
          try clear hcz66_1
          try clear hfz21_0
          try clear hfz21_1
          try clear hfz35_0
          try clear hfz35_1
          try clear hfz37_0
          try clear hfz37_1
          try clear hfz42_0
          try clear hfz42_1
          try clear hfz47_0
          try clear hfz47_1
          try clear hfz49_0
          try clear hfz49_1
          try clear hfz54_0
          try clear hfz54_1
          try clear hfz59_0
          try clear hfz59_1
          try clear hfz61_0
          try clear hfz61_1
          try clear hfz66_0
          try clear hfz66_1
          try clear hx357_0
          try clear hx359_0
          try clear hx366_0
          try clear hx367_0
          try clear hx378_0
          try clear p2
          try clear p3
          try clear p357
          try clear p359
          try clear p366
          try clear p367
          try clear p378
          try clear q3
          try clear q357
          try clear q359
          try clear q366
          try clear q367
          try clear q378
          obtain ⟨kq, x53_67, rfl, HA, HJ67, HO_6, HO_8, BK362, HB⟩ := hcut
          cases kq with
          | zero => exact absurd HA.out (by simp [impl_toldWord.j2])
          | succ kj67 =>
           have H := HA.out
           clear HA
           simp only [impl_toldWord.j2] at H
           by_cases c70 : x53_67 = true
           ·subst c70
            have H1 : (if 2 < (t354.length : Int) then ((impl_quotedWord.f kj67 (rdOf ByteArray.empty t354 2)).bind fun bt380 => ((impl_DecodeText.f kj67 t361 bt380.1).bind fun bt384 => (if bt380.2 = true then (if bt384.1 = 0 then (if 3 < (t354.length : Int) then (some (bt384.2, wrap64 ((wrap64 ((a0.size : Int) - ((rdOf ByteArray.empty t354 3).size : Int))) + 1))) else (none)) else (some (([] : List Int), 0))) else (some (([] : List Int), 0))))) else (none)) = some (r1, r2) := z16
            clear H
            have H := H1
            clear H1
            by_cases c71 : 2 < (t354.length : Int)
            ·rw [if_pos c71] at H
             have c71b0 : decide (2 < (t354.length : Int)) = true := decide_eq_true c71
             have c71b1 : decide (2 < t354.length) = true := decide_eq_true (by omega)
             clear c71
             replace H := Option.bind_eq_some_iff.mp H
             obtain ⟨⟨t380, t381⟩, A720, H⟩ := H
             replace H : ((impl_DecodeText.f kj67 t361 t380).bind fun bt384 => (if t381 = true then (if bt384.1 = 0 then (if 3 < (t354.length : Int) then (some (bt384.2, wrap64 ((wrap64 ((a0.size : Int) - ((rdOf ByteArray.empty t354 3).size : Int))) + 1))) else (none)) else (some (([] : List Int), 0))) else (some (([] : List Int), 0)))) = some (r1, r2) := H
             have A72 := aM A720
             clear A720
             replace H := Option.bind_eq_some_iff.mp H
             obtain ⟨⟨t384, t385⟩, A730, H⟩ := H
             replace H : (if t381 = true then (if t384 = 0 then (if 3 < (t354.length : Int) then (some (t385, wrap64 ((wrap64 ((a0.size : Int) - ((rdOf ByteArray.empty t354 3).size : Int))) + 1))) else (none)) else (some (([] : List Int), 0))) else (some (([] : List Int), 0))) = some (r1, r2) := H
             have A73 := aM A730
             clear A730
             have HQ_ := aM H
             clear H
             have p379 : 0 ≤ (2 : Int) := (by omega)
             have q379 : 2 < (t354.length : Int) := pI
             obtain ⟨ad379, e379, hx379_0⟩ := Kd.at_string (Kd.R_reads' HO_6.out).2.2 2 p379 q379
             obtain rfl : ad359 = ad379 := (by injection e379)
             (try simp only [show (2 : Int).toNat = 2 from rfl, Nat.reduceMul, Nat.reduceEqDiff, Go.Addr.add, ↓reduceIte] at hx379_0)
             have qi379 : (2 < t354.length) = True := eq_true (by omega)
             (try rw [show ((2 : Int)).toNat = 2 from rfl] at hx379_0)
             replace p379 := eq_true p379
             replace q379 := eq_true q379
             have H := HQ_.out
             clear HQ_
             by_cases c74 : t381 = true
             ·subst c74
              have H1 : (if t384 = 0 then (if 3 < (t354.length : Int) then (some (t385, wrap64 ((wrap64 ((a0.size : Int) - ((rdOf ByteArray.empty t354 3).size : Int))) + 1))) else (none)) else (some (([] : List Int), 0))) = some (r1, r2) := z16
              clear H
              have H := H1
              clear H1
              by_cases c75 : t384 = 0
              ·rw [if_pos c75] at H
               have c75b0 : (t384 == 0) = true := beq_iff_eq.mpr c75
               have c75b1 : (t384 != 0) = false := bne_eq_false_iff_eq.mpr c75
               clear c75
               (try simp only [c75b0, c75b1])
               by_cases c76 : 3 < (t354.length : Int)
               ·rw [if_pos c76] at H
                have c76b0 : decide (3 < (t354.length : Int)) = true := decide_eq_true c76
                have c76b1 : decide (3 < t354.length) = true := decide_eq_true (by omega)
                clear c76
                simp only [Option.some.injEq, Prod.mk.injEq] at H
                obtain ⟨rfl, rfl⟩ := H
                iterate 8 (go_wp2_with (first | (go_at_call 81; (with_reducible refine (impl_quotedWord.calls kj67 (rdOf ByteArray.empty t354 2) t380 true _ A72.out).mono ?_); rintro e w77 ⟨v382, rfl, ho0, hb⟩; replace HO_6 := aM (Kd.R_below (bR HO_6) hb); have HO383 := aM (Kd.R_lower (Kd.R_new' ho0 (Kd.R_lt (bR HO_8))) (below_size (bG GE362))); replace HO_8 := aM (Kd.R_elder' (bR HO_8) (Kd.R_base ho0) hb); replace BK362 := aM (blk_below (g := gb362) (o := .cells #[.int .i64 t360, .int .i64 t361] 101 (0, 0)) (bL BK362) hb); replace HB := aM (below_step (bG GE362) hb); (try clear ho0); have hcz78_0 : w77.cell? ⟨gb362, 0, none⟩ = some (.int .i64 t360) := (blk_cell BK362.out 0).trans rfl; have hcz78_1 : w77.cell? ⟨gb362, 1, none⟩ = some (.int .i64 t361) := (blk_cell BK362.out 1).trans rfl; have hfz78_0 := blk_frozen BK362.out 0; have hfz78_1 := blk_frozen BK362.out 1; obtain ⟨Ao79, co79, eo79⟩ := Kd.R_slice HO383.out; subst eo79) | (go_at_call 82; (with_reducible refine (impl_DecodeText.calls kj67 t361 _ _ t380 t384 t385 _ ?side1 ?side2 A73.out).mono ?_); (case side1 => exact z4 HO383.out); (case side2 => exact (Kd.R_reads' HO383.out).2.1); rintro e w80 ⟨v386, rfl, ho0, hb⟩; replace HO_6 := aM (Kd.R_below (bR HO_6) hb); replace HO_8 := aM (Kd.R_below (bR HO_8) hb); replace HO383 := aM (Kd.R_below (bR HO383) hb); have HO387 := aM (Kd.R_lower ho0 (below_size (bG GE362))); replace BK362 := aM (blk_below (g := gb362) (o := .cells #[.int .i64 t360, .int .i64 t361] 101 (0, 0)) (bL BK362) hb); replace HB := aM (below_step (bG GE362) hb); (try clear ho0)) | ((with_reducible refine gate_dst (N := 10) rfl ?_); refine box_event ?hg (N := 10) ?hd (cs := #[.int .i64 0, .slice none 0 0]) (t := 25) ?hr ?_; (case hd => rfl); (case hg => rfl); (case hr => exact z10); intro gb388 hg w81 hbox hb; replace HO_6 := aM (Kd.R_below (bR HO_6) hb); replace HO_8 := aM (Kd.R_below (bR HO_8) hb); replace HO383 := aM (Kd.R_below (bR HO383) hb); replace HO387 := aM (Kd.R_below (bR HO387) hb); have BK388 := aM (hbox); have GW388 := aM ((z39 : w.heap.size ≤ gb388)); have GE388 := aM ((z39 : w.heap.size ≤ gb388)); replace HB := aM (below_step (bG GE362) hb); have NB362_388 := aM ((z29 : gb362 ≠ gb388)); have NB388_362 := aM ((z30 : gb388 ≠ gb362)); replace BK362 := aM (blk_below (g := gb362) (o := .cells #[.int .i64 t360, .int .i64 t361] 101 (0, 0)) (bL BK362) hb); clear hb hbox hg; have hnb82 := NB388_362.out; have hnc82 := NB362_388.out; have hcz83_0 : w81.cell? ⟨gb388, 0, none⟩ = some (.int .i64 0) := (blk_cell BK388.out 0).trans rfl; have hcz83_1 : w81.cell? ⟨gb388, 1, none⟩ = some (.slice none 0 0) := (blk_cell BK388.out 1).trans rfl; have hfz83_0 := blk_frozen BK388.out 0; have hfz83_1 := blk_frozen BK388.out 1; obtain ⟨Ao84, co84, eo84⟩ := Kd.R_slice HO387.out; subst eo84; have p389 : 0 ≤ (3 : Int) := (by omega); have q389 : 3 < (t354.length : Int) := pI; obtain ⟨ad389, e389, hx389_0⟩ := Kd.at_string (Kd.R_reads' HO_6.out).2.2 3 p389 q389; obtain rfl : ad359 = ad389 := (by injection e389); (try simp only [show (3 : Int).toNat = 3 from rfl, Nat.reduceMul, Nat.reduceEqDiff, Go.Addr.add, ↓reduceIte] at hx389_0); have qi389 : (3 < t354.length) = True := eq_true (by omega); (try rw [show ((3 : Int)).toNat = 3 from rfl] at hx389_0); have hn389_0 : ad359.block ≠ gb388 := Kd.own_blk (Kd.R_ne HO_6.out BK388.out (by decide)); have hn389_1 : ad359.block ≠ gb388 := Kd.own_blk (Kd.R_ne HO_6.out BK388.out (by decide)); replace hx389_0 := (cell_far (p := ⟨gb388, 0, none⟩) (by first | (rw [add_block]; exact hn389_0) | (show (Addr.add _ _).block ≠ _; rw [add_block]; exact hn389_0) | exact hn389_0) (.int .i64 t384)).trans hx389_0; replace hx389_0 := (cell_far (p := ⟨gb388, 1, none⟩) (by first | (rw [add_block]; exact hn389_1) | (show (Addr.add _ _).block ≠ _; rw [add_block]; exact hn389_1) | exact hn389_1) (.slice Ao84 t385.length co84)).trans hx389_0; (try have hy389_0 := fun (n_ : Nat) => (show ((((w81.drewN n_).setCell ⟨gb388, 0, none⟩ (.int .i64 t384)).setCell ⟨gb388, 1, none⟩ (.slice Ao84 t385.length co84))).cell? _ = some _ from hx389_0)); clear hn389_0; clear hn389_1; replace p389 := eq_true p389; replace q389 := eq_true q389)); try go_quiet (fail))
                go_ret2
                exact ⟨_, bE, by (with_reducible repeat (first | apply Kd.R_alloc | apply Kd.R_drewN | apply Kd.R_drew)); exact Kd.R_mono (Kd.R_far (p := ⟨gb388, 1, none⟩) (Kd.R_far (p := ⟨gb388, 0, none⟩) (Kd.R_types HO387.out BK388.out (by decide)) (fun _ hk => hk.2) (.int .i64 t384)) (fun _ hk => hk.2) (.slice Ao84 t385.length co84)) (fun _ hk => trivial), bG2 GE362 GE388⟩
               rw [if_neg c76] at H
               exact absurd H (by simp)
              rw [if_neg c75] at H
              have c75b0 : (t384 == 0) = false := beq_eq_false_iff_ne.mpr c75
              have c75b1 : (t384 != 0) = true := bne_iff_ne.mpr c75
              simp only [Option.some.injEq, Prod.mk.injEq] at H
              obtain ⟨rfl, rfl⟩ := H
              (try simp only [c75b0, c75b1])
              iterate 8 (go_wp2_with (first | (go_at_call 81; (with_reducible refine (impl_quotedWord.calls kj67 (rdOf ByteArray.empty t354 2) t380 true _ A72.out).mono ?_); rintro e w85 ⟨v382, rfl, ho0, hb⟩; replace HO_6 := aM (Kd.R_below (bR HO_6) hb); have HO383 := aM (Kd.R_lower (Kd.R_new' ho0 (Kd.R_lt (bR HO_8))) (below_size (bG GE362))); replace HO_8 := aM (Kd.R_elder' (bR HO_8) (Kd.R_base ho0) hb); replace BK362 := aM (blk_below (g := gb362) (o := .cells #[.int .i64 t360, .int .i64 t361] 101 (0, 0)) (bL BK362) hb); replace HB := aM (below_step (bG GE362) hb); (try clear ho0); have hcz86_0 : w85.cell? ⟨gb362, 0, none⟩ = some (.int .i64 t360) := (blk_cell BK362.out 0).trans rfl; have hcz86_1 : w85.cell? ⟨gb362, 1, none⟩ = some (.int .i64 t361) := (blk_cell BK362.out 1).trans rfl; have hfz86_0 := blk_frozen BK362.out 0; have hfz86_1 := blk_frozen BK362.out 1; obtain ⟨Ao87, co87, eo87⟩ := Kd.R_slice HO383.out; subst eo87) | (go_at_call 82; (with_reducible refine (impl_DecodeText.calls kj67 t361 _ _ t380 t384 t385 _ ?side1 ?side2 A73.out).mono ?_); (case side1 => exact z4 HO383.out); (case side2 => exact (Kd.R_reads' HO383.out).2.1); rintro e w88 ⟨v386, rfl, ho0, hb⟩; replace HO_6 := aM (Kd.R_below (bR HO_6) hb); replace HO_8 := aM (Kd.R_below (bR HO_8) hb); replace HO383 := aM (Kd.R_below (bR HO383) hb); have HO387 := aM (Kd.R_lower ho0 (below_size (bG GE362))); replace BK362 := aM (blk_below (g := gb362) (o := .cells #[.int .i64 t360, .int .i64 t361] 101 (0, 0)) (bL BK362) hb); replace HB := aM (below_step (bG GE362) hb); (try clear ho0)) | ((with_reducible refine gate_dst (N := 10) rfl ?_); refine box_event ?hg (N := 10) ?hd (cs := #[.int .i64 0, .slice none 0 0]) (t := 25) ?hr ?_; (case hd => rfl); (case hg => rfl); (case hr => exact z10); intro gb388 hg w89 hbox hb; replace HO_6 := aM (Kd.R_below (bR HO_6) hb); replace HO_8 := aM (Kd.R_below (bR HO_8) hb); replace HO383 := aM (Kd.R_below (bR HO383) hb); replace HO387 := aM (Kd.R_below (bR HO387) hb); have BK388 := aM (hbox); have GW388 := aM ((z39 : w.heap.size ≤ gb388)); have GE388 := aM ((z39 : w.heap.size ≤ gb388)); replace HB := aM (below_step (bG GE362) hb); have NB362_388 := aM ((z29 : gb362 ≠ gb388)); have NB388_362 := aM ((z30 : gb388 ≠ gb362)); replace BK362 := aM (blk_below (g := gb362) (o := .cells #[.int .i64 t360, .int .i64 t361] 101 (0, 0)) (bL BK362) hb); clear hb hbox hg; have hnb90 := NB388_362.out; have hnc90 := NB362_388.out; have hcz91_0 : w89.cell? ⟨gb388, 0, none⟩ = some (.int .i64 0) := (blk_cell BK388.out 0).trans rfl; have hcz91_1 : w89.cell? ⟨gb388, 1, none⟩ = some (.slice none 0 0) := (blk_cell BK388.out 1).trans rfl; have hfz91_0 := blk_frozen BK388.out 0; have hfz91_1 := blk_frozen BK388.out 1; obtain ⟨Ao92, co92, eo92⟩ := Kd.R_slice HO387.out; subst eo92)); try go_quiet (fail))
              go_ret2
              exact ⟨_, bE, z6, bG2 GE362 GE388⟩
             replace c74 := Bool.eq_false_iff.mpr c74
             subst c74
             have H1 : (some (([] : List Int), 0)) = some (r1, r2) := z7
             clear H
             have H := H1
             clear H1
             simp only [Option.some.injEq, Prod.mk.injEq] at H
             obtain ⟨rfl, rfl⟩ := H
             iterate 8 (go_wp2_with (first | (go_at_call 81; (with_reducible refine (impl_quotedWord.calls kj67 (rdOf ByteArray.empty t354 2) t380 false _ A72.out).mono ?_); rintro e w93 ⟨v382, rfl, ho0, hb⟩; replace HO_6 := aM (Kd.R_below (bR HO_6) hb); have HO383 := aM (Kd.R_lower (Kd.R_new' ho0 (Kd.R_lt (bR HO_8))) (below_size (bG GE362))); replace HO_8 := aM (Kd.R_elder' (bR HO_8) (Kd.R_base ho0) hb); replace BK362 := aM (blk_below (g := gb362) (o := .cells #[.int .i64 t360, .int .i64 t361] 101 (0, 0)) (bL BK362) hb); replace HB := aM (below_step (bG GE362) hb); (try clear ho0); have hcz94_0 : w93.cell? ⟨gb362, 0, none⟩ = some (.int .i64 t360) := (blk_cell BK362.out 0).trans rfl; have hcz94_1 : w93.cell? ⟨gb362, 1, none⟩ = some (.int .i64 t361) := (blk_cell BK362.out 1).trans rfl; have hfz94_0 := blk_frozen BK362.out 0; have hfz94_1 := blk_frozen BK362.out 1; obtain ⟨Ao95, co95, eo95⟩ := Kd.R_slice HO383.out; subst eo95) | (go_at_call 82; (with_reducible refine (impl_DecodeText.calls kj67 t361 _ _ t380 t384 t385 _ ?side1 ?side2 A73.out).mono ?_); (case side1 => exact z4 HO383.out); (case side2 => exact (Kd.R_reads' HO383.out).2.1); rintro e w96 ⟨v386, rfl, ho0, hb⟩; replace HO_6 := aM (Kd.R_below (bR HO_6) hb); replace HO_8 := aM (Kd.R_below (bR HO_8) hb); replace HO383 := aM (Kd.R_below (bR HO383) hb); have HO387 := aM (Kd.R_lower ho0 (below_size (bG GE362))); replace BK362 := aM (blk_below (g := gb362) (o := .cells #[.int .i64 t360, .int .i64 t361] 101 (0, 0)) (bL BK362) hb); replace HB := aM (below_step (bG GE362) hb); (try clear ho0)) | ((with_reducible refine gate_dst (N := 10) rfl ?_); refine box_event ?hg (N := 10) ?hd (cs := #[.int .i64 0, .slice none 0 0]) (t := 25) ?hr ?_; (case hd => rfl); (case hg => rfl); (case hr => exact z10); intro gb388 hg w97 hbox hb; replace HO_6 := aM (Kd.R_below (bR HO_6) hb); replace HO_8 := aM (Kd.R_below (bR HO_8) hb); replace HO383 := aM (Kd.R_below (bR HO383) hb); replace HO387 := aM (Kd.R_below (bR HO387) hb); have BK388 := aM (hbox); have GW388 := aM ((z39 : w.heap.size ≤ gb388)); have GE388 := aM ((z39 : w.heap.size ≤ gb388)); replace HB := aM (below_step (bG GE362) hb); have NB362_388 := aM ((z29 : gb362 ≠ gb388)); have NB388_362 := aM ((z30 : gb388 ≠ gb362)); replace BK362 := aM (blk_below (g := gb362) (o := .cells #[.int .i64 t360, .int .i64 t361] 101 (0, 0)) (bL BK362) hb); clear hb hbox hg; have hnb98 := NB388_362.out; have hnc98 := NB362_388.out; have hcz99_0 : w97.cell? ⟨gb388, 0, none⟩ = some (.int .i64 0) := (blk_cell BK388.out 0).trans rfl; have hcz99_1 : w97.cell? ⟨gb388, 1, none⟩ = some (.slice none 0 0) := (blk_cell BK388.out 1).trans rfl; have hfz99_0 := blk_frozen BK388.out 0; have hfz99_1 := blk_frozen BK388.out 1; obtain ⟨Ao100, co100, eo100⟩ := Kd.R_slice HO387.out; subst eo100)); try go_quiet (fail))
             go_ret2
             exact ⟨_, bE, z6, bG2 GE362 GE388⟩
            rw [if_neg c71] at H
            exact absurd H (by simp)
           replace c70 := Bool.eq_false_iff.mpr c70
           subst c70
           have H1 : ((impl_DecodeText.f kj67 t361 y363).bind fun bt390 => (some (([] : List Int), 0))) = some (r1, r2) := z7
           clear H
           have H := H1
           clear H1
           replace H := Option.bind_eq_some_iff.mp H
           obtain ⟨⟨t390, t391⟩, A1010, H⟩ := H
           replace H : (some (([] : List Int), 0)) = some (r1, r2) := H
           have A101 := aM A1010
           clear A1010
           simp only [Option.some.injEq, Prod.mk.injEq] at H
           obtain ⟨rfl, rfl⟩ := H
           have hcz102_0 : wc.cell? ⟨gb362, 0, none⟩ = some (.int .i64 t360) := (blk_cell BK362.out 0).trans rfl
           have hcz102_1 : wc.cell? ⟨gb362, 1, none⟩ = some (.int .i64 t361) := (blk_cell BK362.out 1).trans rfl
           have hfz102_0 := blk_frozen BK362.out 0
           have hfz102_1 := blk_frozen BK362.out 1
           obtain ⟨Ao103, co103, eo103⟩ := Kd.R_slice HO_8.out
           subst eo103
           iterate 8 (go_wp2_with (first | (go_at_call 82; (with_reducible refine (impl_DecodeText.calls kj67 t361 _ _ y363 t390 t391 _ ?side1 ?side2 A101.out).mono ?_); (case side1 => exact z4 HO_8.out); (case side2 => exact (Kd.R_reads' HO_8.out).2.1); rintro e w104 ⟨v392, rfl, ho0, hb⟩; replace HO_6 := aM (Kd.R_below (bR HO_6) hb); replace HO_8 := aM (Kd.R_below (bR HO_8) hb); have HO393 := aM (Kd.R_lower ho0 (below_size (bG GE362))); replace BK362 := aM (blk_below (g := gb362) (o := .cells #[.int .i64 t360, .int .i64 t361] 101 (0, 0)) (bL BK362) hb); replace HB := aM (below_step (bG GE362) hb); (try clear ho0)) | ((with_reducible refine gate_dst (N := 10) rfl ?_); refine box_event ?hg (N := 10) ?hd (cs := #[.int .i64 0, .slice none 0 0]) (t := 25) ?hr ?_; (case hd => rfl); (case hg => rfl); (case hr => exact z10); intro gb394 hg w105 hbox hb; replace HO_6 := aM (Kd.R_below (bR HO_6) hb); replace HO_8 := aM (Kd.R_below (bR HO_8) hb); replace HO393 := aM (Kd.R_below (bR HO393) hb); have BK394 := aM (hbox); have GW394 := aM ((z39 : w.heap.size ≤ gb394)); have GE394 := aM ((z39 : w.heap.size ≤ gb394)); replace HB := aM (below_step (bG GE362) hb); have NB362_394 := aM ((z29 : gb362 ≠ gb394)); have NB394_362 := aM ((z30 : gb394 ≠ gb362)); replace BK362 := aM (blk_below (g := gb362) (o := .cells #[.int .i64 t360, .int .i64 t361] 101 (0, 0)) (bL BK362) hb); clear hb hbox hg; have hnb106 := NB394_362.out; have hnc106 := NB362_394.out; have hcz107_0 : w105.cell? ⟨gb394, 0, none⟩ = some (.int .i64 0) := (blk_cell BK394.out 0).trans rfl; have hcz107_1 : w105.cell? ⟨gb394, 1, none⟩ = some (.slice none 0 0) := (blk_cell BK394.out 1).trans rfl; have hfz107_0 := blk_frozen BK394.out 0; have hfz107_1 := blk_frozen BK394.out 1; obtain ⟨Ao108, co108, eo108⟩ := Kd.R_slice HO393.out; subst eo108)); try go_quiet (fail))
           go_ret2
           exact ⟨_, bE, z6, bG2 GE362 GE394⟩
      rw [if_neg c16] at H
      exact absurd H (by simp)
     rw [if_neg c15] at H
     have c15b0 : (t360 == 0) = false := beq_eq_false_iff_ne.mpr c15
     have c15b1 : (t360 != 0) = true := bne_iff_ne.mpr c15
     simp only [Option.some.injEq, Prod.mk.injEq] at H
     obtain ⟨rfl, rfl⟩ := H
     (try simp only [c15b0, c15b1])
     iterate 8 (go_wp2_with (first | (go_at_call 79; (with_reducible refine (impl_CharsetOf.calls kj4 (rdOf ByteArray.empty t354 0) t360 t361 _ A14.out).mono ?_); rintro e w110 ⟨rfl, hb⟩; replace HO_6 := aM (Kd.R_below (bR HO_6) hb); replace HB := aM (below_step bB hb); (try clear hi)) | ((with_reducible refine gate_dst (N := 7) rfl ?_); refine box_event ?hg (N := 7) ?hd (cs := #[.int .i64 0, .int .i64 0]) (t := 101) ?hr ?_; (case hd => rfl); (case hg => rfl); (case hr => exact z10); intro gb362 hg w111 hbox hb; replace HO_6 := aM (Kd.R_below (bR HO_6) hb); have BK362 := aM (hbox); have GW362 := aM ((z21 : w.heap.size ≤ gb362)); have GE362 := aM ((z21 : w.heap.size ≤ gb362)); replace HB := aM (below_step bB hb); clear hb hbox hg; have hcz112_0 : w111.cell? ⟨gb362, 0, none⟩ = some (.int .i64 0) := (blk_cell BK362.out 0).trans rfl; have hcz112_1 : w111.cell? ⟨gb362, 1, none⟩ = some (.int .i64 0) := (blk_cell BK362.out 1).trans rfl; have hfz112_0 := blk_frozen BK362.out 0; have hfz112_1 := blk_frozen BK362.out 1)); try go_quiet (fail))
     go_ret2
     exact ⟨_, bE, z6, bG GE362⟩
    rw [if_neg c13] at H
    exact absurd H (by simp)
 replace c3 := Bool.eq_false_iff.mpr c3
 subst c3
 have H1 : (some (([] : List Int), 0)) = some (r1, r2) := z7
 clear H
 have H := H1
 clear H1
 simp only [Option.some.injEq, Prod.mk.injEq] at H
 obtain ⟨rfl, rfl⟩ := H
 iterate 8 (go_wp2_with (first | (go_at_call 76; (with_reducible refine (strings_CutPrefix.calls a0 (⟨#[61, 63]⟩ : ByteArray) t352 false _ A2.out).mono ?_); rintro e w' ⟨rfl, ⟨nd, rfl⟩⟩; (try first | exact ⟨rfl, _, World.drewN_drewN _ _ _⟩ | exact ⟨rfl, _, Eq.trans (World.drewN_drewN _ _ _) (congrArg (World.drewN _) (Nat.add_assoc _ _ _))⟩))); try go_quiet (first | (go_at_call 76; (with_reducible refine (strings_CutPrefix.calls a0 (⟨#[61, 63]⟩ : ByteArray) t352 false _ A2.out).mono ?_); rintro e w' ⟨rfl, ⟨nd, rfl⟩⟩; (try first | exact ⟨rfl, _, World.drewN_drewN _ _ _⟩ | exact ⟨rfl, _, Eq.trans (World.drewN_drewN _ _ _) (congrArg (World.drewN _) (Nat.add_assoc _ _ _))⟩))))
 go_ret2
 exact ⟨_, bE, z6, bB⟩
open Go.Shelf in
def strings_TrimLeft.sh_lays161_ren : Go.Shelf.Ren := ⟨fun | 161 => 53 | 231 => 83 | 227 => 84 | 233 => 85 | 235 => 86 | 228 => 116 | 197 => 117 | 151 => 118 | 260 => 135 | 152 => 136 | 137 => 134 | 119 => 147 | 224 => 125 | 225 => 124 | 217 => 123 | 266 => 140 | n => n, fun | 9 => 9 | 4 => 4 | 3 => 3 | 5 => 5 | 117 => 112 | 116 => 111 | 0 => 0 | 124 => 115 | 105 => 130 | 21 => 21 | 119 => 146 | 46 => 87 | 139 => 149 | 138 => 148 | n => n, fun | 3 => 1 | 4 => 2 | n => n⟩
open Go.Shelf in
theorem strings_TrimLeft.sh_lays161 : Go.Proofs.Lays.n161 Tryz.prog strings_TrimLeft.sh_lays161_ren := {
  mixed := by kernel_rfl
  f119 := Tryz.func147.trans (congrArg some (by kernel_rfl))
  f137 := Tryz.func134.trans (congrArg some (by kernel_rfl))
  f151 := Tryz.func118.trans (congrArg some (by kernel_rfl))
  f152 := Tryz.func136.trans (congrArg some (by kernel_rfl))
  f161 := Tryz.func53.trans (congrArg some (by kernel_rfl))
  f197 := Tryz.func117.trans (congrArg some (by kernel_rfl))
  f217 := Tryz.func123.trans (congrArg some (by kernel_rfl))
  f224 := Tryz.func125.trans (congrArg some (by kernel_rfl))
  f225 := Tryz.func124.trans (congrArg some (by kernel_rfl))
  f227 := Tryz.func84.trans (congrArg some (by kernel_rfl))
  f228 := Tryz.func116.trans (congrArg some (by kernel_rfl))
  f231 := Tryz.func83.trans (congrArg some (by kernel_rfl))
  f233 := Tryz.func85.trans (congrArg some (by kernel_rfl))
  f235 := Tryz.func86.trans (congrArg some (by kernel_rfl))
  f260 := Tryz.func135.trans (congrArg some (by kernel_rfl))
  f266 := Tryz.func140.trans (congrArg some (by kernel_rfl))
  t0 := Tryz.underlying0
  a0 := Tryz.isAgg0
  z0 := Tryz.sizeOf0
  v0 := Tryz.zeroValue0
  t3 := Tryz.underlying3
  a3 := Tryz.isAgg3
  z3 := Tryz.sizeOf3
  v3 := Tryz.zeroValue3
  t4 := Tryz.underlying4
  a4 := Tryz.isAgg4
  z4 := Tryz.sizeOf4
  v4 := Tryz.zeroValue4
  t5 := Tryz.underlying5
  a5 := Tryz.isAgg5
  z5 := Tryz.sizeOf5
  v5 := Tryz.zeroValue5
  t9 := Tryz.underlying9
  a9 := Tryz.isAgg9
  z9 := Tryz.sizeOf9
  v9 := Tryz.zeroValue9
  t21 := Tryz.underlying21
  a21 := Tryz.isAgg21
  z21 := Tryz.sizeOf21
  v21 := Tryz.zeroValue21
  t46 := Tryz.underlying87
  a46 := Tryz.isAgg87
  z46 := Tryz.sizeOf87
  v46 := Tryz.zeroValue87
  t105 := Tryz.underlying130
  a105 := Tryz.isAgg130
  z105 := Tryz.sizeOf130
  v105 := Tryz.zeroValue130
  t116 := Tryz.underlying111
  a116 := Tryz.isAgg111
  z116 := Tryz.sizeOf111
  t117 := Tryz.underlying112
  a117 := Tryz.isAgg112
  z117 := Tryz.sizeOf112
  v117 := Tryz.zeroValue112
  t119 := Tryz.underlying146
  a119 := Tryz.isAgg146
  z119 := Tryz.sizeOf146
  t124 := Tryz.underlying115
  a124 := Tryz.isAgg115
  z124 := Tryz.sizeOf115
  v124 := Tryz.zeroValue115
  t138 := Tryz.underlying148
  a138 := Tryz.isAgg148
  z138 := Tryz.sizeOf148
  v138 := Tryz.zeroValue148
  t139 := Tryz.underlying149
  a139 := Tryz.isAgg149
  z139 := Tryz.sizeOf149
  v139 := Tryz.zeroValue149
  g3 := by kernel_rfl
  g4 := by kernel_rfl }
def strings_TrimLeft.f (a0 : ByteArray) (a1 : ByteArray) : Option ByteArray := if a0.size ≤ 9223372036854775807 ∧ a1.size < 4294967281 ∧ a1.data.toList.all (fun b => decide (b.toNat < 128)) = true then some ⟨(Lib.trimLeftS a0.data.toList a1.data.toList).toArray⟩ else none
theorem strings_TrimLeft.calls (a0 : ByteArray) (a1 : ByteArray) (r : ByteArray) (w : World) (h : strings_TrimLeft.f a0 a1 = some r) :
    Calls Tryz.prog 53 #[.string a0, .string a1] w fun e w' => e = .returned (.string r) ∧ Below w.heap.size w w' := by
  unfold strings_TrimLeft.f at h
  by_cases h1 : a0.size ≤ 9223372036854775807 ∧ a1.size < 4294967281 ∧ a1.data.toList.all (fun b => decide (b.toNat < 128)) = true
  · rw [if_pos h1] at h
    cases h
    exact Any.strings_TrimLeft_laid strings_TrimLeft.sh_lays161 (by kernel_rfl) a0 a1 w h1.2.1 (ascii_of_all h1.2.2)
  rw [if_neg h1] at h
  cases h
end Go.Proofs.YtjopgmjmjnfcjaaGreatDoor.PWords
