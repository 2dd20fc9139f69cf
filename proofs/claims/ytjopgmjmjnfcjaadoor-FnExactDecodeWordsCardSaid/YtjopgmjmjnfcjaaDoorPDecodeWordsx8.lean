/- Part of the proof; words that it uses. -/
import Derived.Test.YtjopgmjmjnfcjaaDoorPDecodeWordsx0
import Derived.Test.YtjopgmjmjnfcjaaDoorPDecodeWordsx5
import Derived.Test.YtjopgmjmjnfcjaaDoorPDecodeWordsx6
import Derived.Test.YtjopgmjmjnfcjaaDoorPDecodeWordsx7
namespace Go.Proofs.YtjopgmjmjnfcjaaDoor.PDecodeWords
open Go.RowKit Go.Proofs.YtjopgmjmjnfcjaaDoorW.PrintWords Go.Proofs.YtjopgmjmjnfcjaaDoorW.PrintLast
set_option linter.unusedVariables false
set_option linter.unusedSimpArgs false
def impl_decodeChars.l0 : Nat → Int → List Int → List Int → Option (List Int × Bool)
 | 0, _, _, _ => none
 | k + 1, x0, x1, x6 => if (x1.length : Int) > 0 then ((impl_firstChar.f k x0 x1).bind fun bt353 => (if bt353.2 = 0 then (some (([] : List Int), false)) else (if x6.length < 17592186044416 then (if 0 ≤ bt353.2 then (if bt353.2 ≤ (x1.length : Int) then (impl_decodeChars.l0 k x0 (x1.drop (bt353.2 : Int).toNat) (x6 ++ [bt353.1])) else (none)) else (none)) else (none)))) else (some (x6, true))
def impl_decodeChars.f (k : Nat) (a0 : Int) (l1 : List Int) : Option (List Int × Bool) := impl_decodeChars.l0 k a0 l1 (([] : List Int))
theorem impl_decodeChars.mono_l : ∀ k, (∀ y0 y1 y2, LeO (impl_decodeChars.l0 k y0 y1 y2) (impl_decodeChars.l0 (k + 1) y0 y1 y2))
 | 0 => fun _ _ _ r h => by simp [impl_decodeChars.l0] at h
 | k + 1 => by
  have ih0 := impl_decodeChars.mono_l k
  ·intro y0 y1 y2
   unfold impl_decodeChars.l0
   repeat' first
   | (with_reducible exact ih0 _ _ _)
   | (with_reducible exact impl_firstChar.mono _ _ _)
   | (with_reducible exact LeO.refl _)
   | (with_reducible exact LeO.none _)
   | (with_reducible refine LeO.ite ?_ ?_)
   | (with_reducible refine LeO.bind ?_ (fun _ => ?_))
   | exact ih0 _ _ _
   | exact impl_firstChar.mono _ _ _
   | exact LeO.none _
   | refine LeO.ite ?_ ?_
   | refine LeO.bind ?_ (fun _ => ?_)
theorem impl_decodeChars.mono : ∀ a0 a1 k, LeO (impl_decodeChars.f k a0 a1) (impl_decodeChars.f (k + 1) a0 a1) := by
 intro a0 a1 k
 have ih0 := impl_decodeChars.mono_l k
 unfold impl_decodeChars.f
 repeat' first
   | (with_reducible exact ih0 _ _ _)
   | (with_reducible exact impl_firstChar.mono _ _ _)
   | (with_reducible exact LeO.refl _)
   | (with_reducible exact LeO.none _)
   | (with_reducible refine LeO.ite ?_ ?_)
   | (with_reducible refine LeO.bind ?_ (fun _ => ?_))
   | exact ih0 _ _ _
   | exact impl_firstChar.mono _ _ _
   | exact LeO.none _
   | refine LeO.ite ?_ ?_
   | refine LeO.bind ?_ (fun _ => ?_)
def impl_decodeChars.T6 : Bool × List (List Nat × List Nat) := (true, [([], []), ([], []), ([1], [1]), ([0, 2], [0, 2]), ([], []), ([], []), ([4, 5], [4, 5]), ([3, 3, 0, 1, 2, 3], [0, 3]), ([6, 7, 0, 1, 2, 3, 4, 5, 6, 7], [4, 6])])
def impl_decodeChars.B6 : List Nat := [0, 0, 2, 7, 0, 0, 48, 15, 255]
theorem impl_decodeChars.tab6 : rtab .any (opsOf Tryd.f93 6) = impl_decodeChars.T6 := by kernel_rfl
theorem impl_decodeChars.bits6 : waitsOk impl_decodeChars.T6.2 impl_decodeChars.B6 = true := by kernel_rfl
set_option maxHeartbeats 8000000 in
set_option maxRecDepth 100000 in
theorem impl_decodeChars.calls (k : Nat) (a0 : Int) (P1_ : Nat → Prop) (A1 : Option Addr) (c1 : Nat) (l1 : List Int) (r1 : List Int) (r2 : Bool) (w : World) (hs1 : Kd.V (Kd.int .u8) 5 w w.heap.size (fun k_ => P1_ k_) (.slice A1 l1.length c1) l1) (h : impl_decodeChars.f k a0 l1 = some (r1, r2)) :
  Calls Tryd.prog 93 #[.int .i64 a0, .slice A1 l1.length c1] w fun e w' => ∃ v0_ : Value, e = .returned (.tuple #[v0_, .bool r2]) ∧ Kd.R (Kd.int .i64) 2 w' w.heap.size (fun k_ => (w.heap.size ≤ k_)) v0_ r1 ∧ Below w.heap.size w w' := by
 have HO1 := Aside0.mk (show Kd.V (Kd.int .u8) 5 w w.heap.size (fun k_ => (P1_ k_ ∨ w.heap.size ≤ k_)) (.slice A1 l1.length c1) l1 from Kd.V_mono hs1 (fun k_ hk => .inl hk))
 have HB := Aside0.mk (Below.refl w.heap.size w)
 have H : (impl_decodeChars.l0 k a0 l1 (([] : List Int))) = some (r1, r2) := h
 clear h
 obtain ⟨y350, hy350⟩ : ∃ y_ : List Int, y_ = (([] : List Int)) := ⟨_, rfl⟩
 replace H : (impl_decodeChars.l0 k a0 l1 y350) = some (r1, r2) := z0 hy350
 have Ny350 := Aside0.mk hy350
 clear hy350
 have H' := Aside0.mk H
 clear H
 go_enter Tryd.func93, Tryd.ntmps93
 go_wp2_with (first | ((with_reducible refine gate_dst (N := 9) rfl ?_); refine Kd.R_lit (Kd.int .i64) _ 2 ?hg (N := 9) ?hd (xs := ([] : List Int)) (inner := []) (ok := fun _ => True) (okp := fun _ => True) ?hr ?hp (fun _ hk => hk) trivial (Below.refl _ _) (Nat.le_refl _) (by simp) ?_; (case hd => rfl); (case hg => rfl); (case hr => exact z11); (case hp => exact (Reps.none _ _)); intro v351 w3 ho4 hb hg_ hnew_; clear hg_ hnew_; (first | rw [← Ny350.out] at ho4 | (simp only [Int.reduceToNat] at ho4; rw [← Ny350.out] at ho4)); replace HO1 := Aside0.mk (Kd.V_elder' (z53 HO1.out) (Kd.R_base ho4) hb); have HO352 := Aside0.mk (Kd.R_lower (Kd.R_newM (M := fun k_ => (w.heap.size ≤ k_)) ho4 (below_size bB) (fun k_ h_ => h_)) (below_size bB)); replace HB := Aside0.mk (below_step bB hb); clear hb ho4))
 go_loopg [1, 6] k (fun kq v1 v6 w' => ∃ (x1_1 : List Int) (x6_1 : List Int), Aside0 (impl_decodeChars.l0 kq a0 x1_1 x6_1 = some (r1, r2)) ∧ Aside0 (kq ≤ k) ∧ Aside0 (Kd.V (Kd.int .u8) 5 w' w.heap.size (fun k_ => (P1_ k_ ∨ w.heap.size ≤ k_) ∧ some k_ ≠ (v6 : Value).ownBlock) v1 x1_1) ∧ Aside0 (Kd.R (Kd.int .i64) 2 w' w.heap.size (fun k_ => (w.heap.size ≤ k_)) v6 x6_1) ∧ Aside0 (Below w.heap.size w w'))
 case atStart => exact ⟨(l1), (y350), H', ⟨Nat.le_refl _⟩, ⟨z53 HO1.out⟩, ⟨by (with_reducible repeat (first | apply Kd.R_alloc | apply Kd.R_drewN | apply Kd.R_drew)); exact Kd.R_mono HO352.out (fun _ hk => hk.1)⟩, ⟨bB⟩⟩
 case round =>
  clear H'
  try clear c1
  try clear p2
  obtain ⟨x1_1, x6_1, HA, HK1, HO_1, HO_6, HB⟩ := hrel
  cases gk with
  | zero => exact absurd HA.out (by simp [impl_decodeChars.l0])
  | succ k1 =>
   have H := HA.out
   clear HA
   simp only [impl_decodeChars.l0] at H
   have HQ_ := Aside0.mk H
   clear H
   obtain ⟨Ao8, co8, eo8⟩ := Kd.V_slice HO_1.out
   subst eo8
   have H := HQ_.out
   clear HQ_
   by_cases c5 : (x1_1.length : Int) > 0
   ·rw [if_pos c5] at H
    have c5b0 : decide (0 < (x1_1.length : Int)) = true := decide_eq_true c5
    have c5b1 : decide (0 < x1_1.length) = true := decide_eq_true (by omega)
    clear c5
    replace H := Option.bind_eq_some_iff.mp H
    obtain ⟨⟨t353, t354⟩, A60, H⟩ := H
    replace H : (if t354 = 0 then (some (([] : List Int), false)) else (if x6_1.length < 17592186044416 then (if 0 ≤ t354 then (if t354 ≤ (x1_1.length : Int) then (impl_decodeChars.l0 k1 a0 (x1_1.drop (t354 : Int).toNat) (x6_1 ++ [t353])) else (none)) else (none)) else (none))) = some (r1, r2) := H
    have A6 := Aside0.mk A60
    clear A60
    (try simp only [c5b0, c5b1])
    by_cases c7 : t354 = 0
    ·rw [if_pos c7] at H
     have c7b0 : (t354 == 0) = true := beq_iff_eq.mpr c7
     have c7b1 : (t354 != 0) = false := bne_eq_false_iff_eq.mpr c7
     clear c7
     simp only [Option.some.injEq, Prod.mk.injEq] at H
     obtain ⟨rfl, rfl⟩ := H
     (try simp only [c7b0, c7b1])
     go_wp2_with (first | ((with_reducible refine gate_callee (f := 52) rfl ?_); refine goesL_ (some 16) rfl rfl Tryd.func52 (by kernel_rfl) rfl #[.int .i64 a0, .slice Ao8 x1_1.length co8] rfl bM ?_; (with_reducible refine (impl_firstChar.calls k1 a0 _ _ x1_1 t353 t354 _ ?side1 ?side2 A6.out).mono ?_); (case side1 => repeat (first | exact (Kd.V_reads' HO_1.out).2.2 | (with_reducible refine Kd.C_alloc ?_ _) | (with_reducible refine Kd.C_drewN ?_ _) | (with_reducible refine Kd.C_drew ?_))); (case side2 => exact (Kd.V_reads' HO_1.out).2.1); rintro e w9 ⟨rfl, hb⟩; refine ⟨_, rfl, ?_⟩; replace HO_1 := Aside0.mk (Kd.V_below (z53 HO_1.out) hb); replace HO_6 := Aside0.mk (Kd.R_below (bR HO_6) hb); replace HB := Aside0.mk (below_step bB hb); (try clear hi)))
     go_ret2
     exact ⟨_, bE, z4, bB⟩
    ·rw [if_neg c7] at H
     have c7b0 : (t354 == 0) = false := beq_eq_false_iff_ne.mpr c7
     have c7b1 : (t354 != 0) = true := bne_iff_ne.mpr c7
     (try simp only [c7b0, c7b1])
     by_cases c10 : x6_1.length < 17592186044416
     ·rw [if_pos c10] at H
      have LMc10 := Aside0.mk c10
      clear c10
      obtain ⟨y355, hy355⟩ : ∃ y_ : List Int, y_ = (x6_1 ++ [t353]) := ⟨_, rfl⟩
      replace H : (if 0 ≤ t354 then (if t354 ≤ (x1_1.length : Int) then (impl_decodeChars.l0 k1 a0 (x1_1.drop (t354 : Int).toNat) y355) else (none)) else (none)) = some (r1, r2) := z0 hy355
      have Ny355 := Aside0.mk hy355
      clear hy355
      by_cases c11 : 0 ≤ t354
      ·rw [if_pos c11] at H
       have c11b0 := eq_true c11
       have c11b1 : decide (0 ≤ t354) = true := decide_eq_true c11
       clear c11
       by_cases c12 : t354 ≤ (x1_1.length : Int)
       ·rw [if_pos c12] at H
        have c12b0 := eq_true c12
        have c12b1 : decide (t354 ≤ (x1_1.length : Int)) = true := decide_eq_true c12
        clear c12
        obtain ⟨y358, hy358⟩ : ∃ y_ : List Int, y_ = (x1_1.drop (t354 : Int).toNat) := ⟨_, rfl⟩
        replace H : (impl_decodeChars.l0 k1 a0 y358 y355) = some (r1, r2) := z0 hy358
        have Ny358 := Aside0.mk hy358
        clear hy358
        have H' := Aside0.mk H
        clear H
        try go_wp2_with (first | ((with_reducible refine gate_callee (f := 52) rfl ?_); refine goesL_ (some 16) rfl rfl Tryd.func52 (by kernel_rfl) rfl #[.int .i64 a0, .slice Ao8 x1_1.length co8] rfl bM ?_; (with_reducible refine (impl_firstChar.calls k1 a0 _ _ x1_1 t353 t354 _ ?side1 ?side2 A6.out).mono ?_); (case side1 => repeat (first | exact (Kd.V_reads' HO_1.out).2.2 | (with_reducible refine Kd.C_alloc ?_ _) | (with_reducible refine Kd.C_drewN ?_ _) | (with_reducible refine Kd.C_drew ?_))); (case side2 => exact (Kd.V_reads' HO_1.out).2.1); rintro e w14 ⟨rfl, hb⟩; refine ⟨_, rfl, ?_⟩; replace HO_1 := Aside0.mk (Kd.V_below (z53 HO_1.out) hb); replace HO_6 := Aside0.mk (Kd.R_below (bR HO_6) hb); replace HB := Aside0.mk (below_step bB hb); (try clear hi)))
        replace HO_1 := Aside0.mk (Kd.V_drew HO_1.out)
        replace HO_6 := Aside0.mk (Kd.R_drew HO_6.out)
        replace HB := Aside0.mk (below_drew1 HB.out)
        have q16 : (t354 : Int) ≤ ((x1_1.length : Int) : Int) := pI
        obtain ⟨i016, hi016, _, hsz16, _⟩ := info_parts info5
        have hroom16 : x1_1.length ≤ co8 := (Kd.V_reads' HO_1.out).2.1
        have hC16 : Kd.F (Kd.int .u8) _ _ Ao8 x1_1.length x1_1 := (Kd.V_at (base := w.heap.size) HO_1.out).2.2
        have q016 : (0 : Int) ≤ (t354 : Int) := pI
        have hcut16 := cut_from (P := Tryd.prog) 22 5 .i64 Tryd.underlying22 hi016 1 hsz16 Ao8 x1_1.length co8 t354 q016 q16
        have hr16 := Kd.F_cut (m := (t354 : Int).toNat) (c := co8) hC16 (by omega) hroom16
        obtain ⟨A16, hA16⟩ : ∃ A1, A1 = (if co8 = (t354 : Int).toNat then Ao8 else (Ao8 : Option Addr).map (·.add ((t354 : Int).toNat * 1))) := ⟨_, rfl⟩
        obtain ⟨c16, hc16⟩ : ∃ c1, c1 = co8 - (t354 : Int).toNat := ⟨_, rfl⟩
        have hy16 : y358.length = x1_1.length - (t354 : Int).toNat := (by rw [Ny358.out, List.length_drop] <;> omega)
        rw [show (x1_1).drop (t354 : Int).toNat = y358 from Ny358.out.symm] at hr16
        replace hr16 : Kd.F (Kd.int .u8) _ _ A16 y358.length y358 := (by rw [hA16]; exact hr16)
        rw [← hy16, ← hA16, ← hc16] at hcut16
        have HO362 := Aside0.mk (show Kd.V (Kd.int .u8) 5 _ w.heap.size _ (.slice A16 y358.length c16) y358 from Kd.V_mk (by rw [hy16, hc16]; exact Nat.sub_le_sub_right hroom16 _) hr16)
        have HC362 := Aside0.mk (show y358.length ≤ c16 from by rw [hy16, hc16]; exact Nat.sub_le_sub_right hroom16 _)
        clear hr16 hC16 hroom16 hi016 hsz16 hc16
        have KY16 := Aside0.mk hy16
        have KA16 := Aside0.mk hA16
        clear hy16 hA16
        replace q16 := eq_true q16
        refine start_ (n := 9) (S := fun w' => True) (ds := []) (bsA 9 0) (by kernel_rfl) rfl rfl trivial (fun hHeld => ?_); refine with_tabW impl_decodeChars.tab6 impl_decodeChars.bits6 (fun HT_ HW_ => ?_)
        generalize w14.drew = w15 at HO_1 HO_6 HB HO362 hHeld ⊢
        refine pa_ (i := 0) (N := some 21) (bsA 9 1) (h := ?_)
        refine pa_ (i := 1) (N := some 22) (bsA 9 3) (h := ?_)
        refine pa_ (i := 4) (N := some 25) (bsA 9 19) (h := ?_)
        refine pa_ (i := 5) (N := some 26) (bsA 9 51) (h := ?_)
        refine pa_ (i := 6) (N := some 27) (bsA 9 115) (h := ?_)
        refine one_ (i := 2) (N := some 23) (bsA 9 119) rfl rfl (one_of HT_.out (by kernel_rfl)) (by decide) (fun K hK => ?_)
        refine value_ (w1 := ?_) (v := ?_) (by rfl) rfl ?_ ?_
        rotate_left 2
        ·go_simp
         constructor
         ·rfl
         ·rfl
        refine hK.out _ _ trivial (fun hHeld => ?_)
        clear hK K
        refine na_ (N := some 23) (h := ?_)
        refine one_ (i := 3) (N := some 24) (bsA 9 127) rfl rfl (one_of HT_.out (by kernel_rfl)) (by decide) (fun K hK => ?_)
        refine Kd.R_append_step (Kd.int .i64) (w0 := w) w.heap.size (by rfl) (.tmp 21) (.tmp 23) 37 2 (.int .i64 0) 8 rfl Tryd.underlying37 info2 rfl (by decide) (by omega) u6 x6_1 t353 [.int .i64 t353] (fun k_ => (w.heap.size ≤ k_)) (fun _ => False) rfl rfl ?aP (fun _ hk => hk.elim) ?aF ?aO ?aB ?aS ?aL ?_
        (case aP => exact rfl)
        (case aB => exact bB)
        (case aF => exact (fun k_ hk => (Nat.le_trans (below_size bB) hk)))
        (case aO => exact (bR HO_6))
        (case aS => exact (below_size bB))
        (case aL => have := LMc10.out; omega)
        intro v356 w17 ho hb hg hat
        rw [← Ny355.out] at ho
        have n0_ := Aside0.mk (Kd.V_afterv (ok := (fun k_ => (P1_ k_ ∨ w.heap.size ≤ k_))) (z53 HO_1.out) hg hat)
        have n1_ := Aside0.mk (Kd.V_afterv (ok := (fun k_ => (P1_ k_ ∨ w.heap.size ≤ k_))) (z53 HO362.out) hg hat)
        have n2_ := Aside0.mk (hb)
        have n3_ := Aside0.mk (ho)
        clear HO_1
        clear HO362
        clear HB
        clear HO_6
        have HO_1 := n0_
        have HO362 := n1_
        have HB := n2_
        have HO357 := n3_
        clear n0_ n1_ n2_ n3_
        clear ho hb hg hat
        refine hK.out _ _ trivial (fun hHeld => ?_)
        clear hK K
        refine na_ (N := some 24) (h := ?_)
        refine pa_ (i := 7) (N := some 6) (bsA 9 255) (h := ?_)
        refine pa_ (i := 8) (N := some 1) (bsA 9 511) (h := ?_)
        refine done_ (done_of HT_.out (by kernel_rfl)) ?_
        try go_wp2
        go_roundg k1
        case measure => have := HK1.out; omega
        case rel => exact ⟨(y358), (y355), H', ⟨by have := HK1.out; omega⟩, ⟨z53 HO362.out⟩, ⟨bR HO357⟩, ⟨bB⟩⟩
       ·rw [if_neg c12] at H
        exact absurd H (by simp)
      ·rw [if_neg c11] at H
       exact absurd H (by simp)
     ·rw [if_neg c10] at H
      exact absurd H (by simp)
   ·rw [if_neg c5] at H
    have c5b0 : decide (0 < (x1_1.length : Int)) = false := decide_eq_false c5
    have c5b1 : decide (0 < x1_1.length) = false := decide_eq_false (by omega)
    clear c5
    simp only [Option.some.injEq, Prod.mk.injEq] at H
    obtain ⟨rfl, rfl⟩ := H
    (try simp only [c5b0, c5b1])
    go_wp2
    go_ret2
    exact ⟨_, bE, bR HO_6, bB⟩
def impl_DecodeText.f (k : Nat) (a0 : Int) (l1 : List Int) : Option (Int × List Int) := (impl_isCharset.f a0).bind fun t364 => (if t364 = true then (if (l1.length : Int) > 400 then (some (2, ([] : List Int))) else ((impl_decodeChars.f k a0 l1).bind fun bt365 => (if bt365.2 = true then (some (0, bt365.1)) else (some (8, ([] : List Int)))))) else (some (4, ([] : List Int))))
theorem impl_DecodeText.mono : ∀ a0 a1 k, LeO (impl_DecodeText.f k a0 a1) (impl_DecodeText.f (k + 1) a0 a1) := by
 intro a0 a1 k
 unfold impl_DecodeText.f
 repeat' first
   | (with_reducible exact impl_decodeChars.mono _ _ _)
   | (with_reducible exact LeO.refl _)
   | (with_reducible exact LeO.none _)
   | (with_reducible refine LeO.ite ?_ ?_)
   | (with_reducible refine LeO.bind ?_ (fun _ => ?_))
   | exact impl_decodeChars.mono _ _ _
   | exact LeO.none _
   | refine LeO.ite ?_ ?_
   | refine LeO.bind ?_ (fun _ => ?_)
set_option maxHeartbeats 8000000 in
set_option maxRecDepth 100000 in
theorem impl_DecodeText.calls (k : Nat) (a0 : Int) (A1 : Option Addr) (c1 : Nat) (l1 : List Int) (r1 : Int) (r2 : List Int) (w : World) (hr1 : Kd.C (Kd.int .u8) w A1 l1.length l1) (hc1 : l1.length ≤ c1) (h : impl_DecodeText.f k a0 l1 = some (r1, r2)) :
  Calls Tryd.prog 69 #[.int .i64 a0, .slice A1 l1.length c1] w fun e w' => ∃ v1_ : Value, e = .returned (.agg #[.int .i64 r1, v1_]) ∧ Kd.R (Kd.int .i64) 2 w' w.heap.size (fun _ => True) v1_ r2 ∧ Below w.heap.size w w' := by
 have hu39 := Tryd.underlying39
 have HR1 := Aside0.mk hr1
 have HC1 := Aside0.mk hc1
 clear hr1 hc1
 have HB := Aside0.mk (Below.refl w.heap.size w)
 have H : ((impl_isCharset.f a0).bind fun t364 => (if t364 = true then (if (l1.length : Int) > 400 then (some (2, ([] : List Int))) else ((impl_decodeChars.f k a0 l1).bind fun bt365 => (if bt365.2 = true then (some (0, bt365.1)) else (some (8, ([] : List Int)))))) else (some (4, ([] : List Int))))) = some (r1, r2) := h
 clear h
 replace H := Option.bind_eq_some_iff.mp H
 obtain ⟨t364, A30, H⟩ := H
 replace H : (if t364 = true then (if (l1.length : Int) > 400 then (some (2, ([] : List Int))) else ((impl_decodeChars.f k a0 l1).bind fun bt365 => (if bt365.2 = true then (some (0, bt365.1)) else (some (8, ([] : List Int)))))) else (some (4, ([] : List Int)))) = some (r1, r2) := H
 have A3 := Aside0.mk A30
 clear A30
 have HQ_ := Aside0.mk H
 clear H
 go_enter Tryd.func69, Tryd.ntmps69
 have H := HQ_.out
 clear HQ_
 by_cases c4 : t364 = true
 ·subst c4
  have H1 : (if (l1.length : Int) > 400 then (some (2, ([] : List Int))) else ((impl_decodeChars.f k a0 l1).bind fun bt365 => (if bt365.2 = true then (some (0, bt365.1)) else (some (8, ([] : List Int)))))) = some (r1, r2) := z31
  clear H
  have H := H1
  clear H1
  by_cases c5 : (l1.length : Int) > 400
  ·rw [if_pos c5] at H
   have c5b0 : decide (400 < (l1.length : Int)) = true := decide_eq_true c5
   have c5b1 : decide (400 < l1.length) = true := decide_eq_true (by omega)
   clear c5
   simp only [Option.some.injEq, Prod.mk.injEq] at H
   obtain ⟨rfl, rfl⟩ := H
   (try simp only [c5b0, c5b1])
   go_wp2_with (first | ((with_reducible refine gate_dst (N := 4) rfl ?_); refine box_event ?hg (N := 4) ?hd (cs := #[.int .i64 0, .slice none 0 0]) (t := 39) ?hr ?_; (case hd => rfl); (case hg => rfl); (case hr => exact z11); intro gb363 hg w6 hbox hb; have BK363 := Aside0.mk (hbox); have GW363 := Aside0.mk ((z18 : w.heap.size ≤ gb363)); have GE363 := Aside0.mk ((z18 : w.heap.size ≤ gb363)); replace HB := Aside0.mk (below_step bB hb); clear hb hbox hg) | ((with_reducible refine gate_callee (f := 92) rfl ?_); refine goesL_ (some 9) rfl rfl Tryd.func92 (by kernel_rfl) rfl #[.int .i64 a0] rfl bM ?_; (with_reducible refine (impl_isCharset.calls a0 true _ A3.out).mono ?_); rintro e w' ⟨rfl, ⟨nd, rfl⟩⟩; refine ⟨_, rfl, ?_⟩; (try (rw [drewN_self w6]; generalize hq_ : World.drewN w6 _ = w6; have n0_ : Aside0 (w6.heap[gb363]? = some (.cells #[.int .i64 0, .slice none 0 0] 39 (0, 0))) := ⟨by rw [← hq_]; exact (bL BK363)⟩; have n1_ : Aside0 (Below w.heap.size w w6) := ⟨by rw [← hq_]; exact (bG GE363)⟩; clear BK363 HB hq_; have BK363 := n0_; have HB := n1_; clear n0_ n1_)); have hcz7_0 : w6.cell? ⟨gb363, 0, none⟩ = some (.int .i64 0) := (blk_cell BK363.out 0).trans rfl; have hcz7_1 : w6.cell? ⟨gb363, 1, none⟩ = some (.slice none 0 0) := (blk_cell BK363.out 1).trans rfl; have hfz7_0 := blk_frozen BK363.out 0; have hfz7_1 := blk_frozen BK363.out 1))
   refine bodyPost_ret (results_cell_row rfl _ _ gb363 39 #[.int .i64 2, .slice none 0 0] (0, 0) _ rfl (z15 BK363.out) Tryd.underlying39 rfl (by kernel_rfl)) rfl ?_
   exact ⟨_, bE, z4, bG GE363⟩
  ·rw [if_neg c5] at H
   have c5b0 : decide (400 < (l1.length : Int)) = false := decide_eq_false c5
   have c5b1 : decide (400 < l1.length) = false := decide_eq_false (by omega)
   clear c5
   replace H := Option.bind_eq_some_iff.mp H
   obtain ⟨⟨t365, t368⟩, A80, H⟩ := H
   replace H : (if t368 = true then (some (0, t365)) else (some (8, ([] : List Int)))) = some (r1, r2) := H
   have A8 := Aside0.mk A80
   clear A80
   (try simp only [c5b0, c5b1])
   by_cases c9 : t368 = true
   ·subst c9
    have H1 : (some (0, t365)) = some (r1, r2) := z31
    clear H
    have H := H1
    clear H1
    simp only [Option.some.injEq, Prod.mk.injEq] at H
    obtain ⟨rfl, rfl⟩ := H
    go_wp2_with (first | ((with_reducible refine gate_dst (N := 4) rfl ?_); refine box_event ?hg (N := 4) ?hd (cs := #[.int .i64 0, .slice none 0 0]) (t := 39) ?hr ?_; (case hd => rfl); (case hg => rfl); (case hr => exact z11); intro gb363 hg w10 hbox hb; have BK363 := Aside0.mk (hbox); have GW363 := Aside0.mk ((z18 : w.heap.size ≤ gb363)); have GE363 := Aside0.mk ((z18 : w.heap.size ≤ gb363)); replace HB := Aside0.mk (below_step bB hb); clear hb hbox hg) | ((with_reducible refine gate_callee (f := 92) rfl ?_); refine goesL_ (some 9) rfl rfl Tryd.func92 (by kernel_rfl) rfl #[.int .i64 a0] rfl bM ?_; (with_reducible refine (impl_isCharset.calls a0 true _ A3.out).mono ?_); rintro e w' ⟨rfl, ⟨nd, rfl⟩⟩; refine ⟨_, rfl, ?_⟩; (try (rw [drewN_self w10]; generalize hq_ : World.drewN w10 _ = w10; have n0_ : Aside0 (w10.heap[gb363]? = some (.cells #[.int .i64 0, .slice none 0 0] 39 (0, 0))) := ⟨by rw [← hq_]; exact (bL BK363)⟩; have n1_ : Aside0 (Below w.heap.size w w10) := ⟨by rw [← hq_]; exact (bG GE363)⟩; clear BK363 HB hq_; have BK363 := n0_; have HB := n1_; clear n0_ n1_))) | ((with_reducible refine gate_callee (f := 93) rfl ?_); refine goesL_ (some 20) rfl rfl Tryd.func93 (by kernel_rfl) rfl #[.int .i64 a0, .slice A1 l1.length c1] rfl bM ?_; (with_reducible refine (impl_decodeChars.calls k a0 (fun k_ => k_ < w.heap.size) _ _ l1 t365 true _ ?side1 A8.out).mono ?_); (case side1 => exact Kd.V_mk HC1.out (Kd.F_below (Kd.C_F (Kd.heap_int .u8) HR1.out) (bG GE363))); rintro e w11 ⟨v366, rfl, ho0, hb⟩; refine ⟨_, rfl, ?_⟩; have HO367 := Aside0.mk (Kd.R_lower (Kd.R_mono (ok' := fun k_ => True) ho0 (fun _ hk_ => trivial)) (below_size (bG GE363))); replace BK363 := Aside0.mk (blk_below (g := gb363) (o := .cells #[.int .i64 0, .slice none 0 0] 39 (0, 0)) (bL BK363) hb); replace HB := Aside0.mk (below_step (bG GE363) hb); (try clear ho0); obtain ⟨Ao12, co12, eo12⟩ := Kd.R_slice HO367.out; subst eo12; have hcz13_0 : w11.cell? ⟨gb363, 0, none⟩ = some (.int .i64 0) := (blk_cell BK363.out 0).trans rfl; have hcz13_1 : w11.cell? ⟨gb363, 1, none⟩ = some (.slice none 0 0) := (blk_cell BK363.out 1).trans rfl; have hfz13_0 := blk_frozen BK363.out 0; have hfz13_1 := blk_frozen BK363.out 1))
    refine bodyPost_ret (results_cell_row rfl _ _ gb363 39 #[.int .i64 0, .slice Ao12 t365.length co12] (0, 0) _ rfl (z22 BK363.out) Tryd.underlying39 rfl (by kernel_rfl)) rfl ?_
    exact ⟨_, bE, by (with_reducible repeat (first | apply Kd.R_alloc | apply Kd.R_drewN | apply Kd.R_drew)); exact Kd.R_mono (Kd.R_far (p := ⟨gb363, 1, none⟩) (Kd.R_far (p := ⟨gb363, 0, none⟩) (Kd.R_types HO367.out BK363.out (by decide)) (fun _ hk => hk.2) (.int .i64 0)) (fun _ hk => hk.2) (.slice Ao12 t365.length co12)) (fun _ hk => trivial), bG GE363⟩
   ·replace c9 := Bool.eq_false_iff.mpr c9
    subst c9
    have H1 : (some (8, ([] : List Int))) = some (r1, r2) := z14
    clear H
    have H := H1
    clear H1
    simp only [Option.some.injEq, Prod.mk.injEq] at H
    obtain ⟨rfl, rfl⟩ := H
    go_wp2_with (first | ((with_reducible refine gate_dst (N := 4) rfl ?_); refine box_event ?hg (N := 4) ?hd (cs := #[.int .i64 0, .slice none 0 0]) (t := 39) ?hr ?_; (case hd => rfl); (case hg => rfl); (case hr => exact z11); intro gb363 hg w14 hbox hb; have BK363 := Aside0.mk (hbox); have GW363 := Aside0.mk ((z18 : w.heap.size ≤ gb363)); have GE363 := Aside0.mk ((z18 : w.heap.size ≤ gb363)); replace HB := Aside0.mk (below_step bB hb); clear hb hbox hg) | ((with_reducible refine gate_callee (f := 92) rfl ?_); refine goesL_ (some 9) rfl rfl Tryd.func92 (by kernel_rfl) rfl #[.int .i64 a0] rfl bM ?_; (with_reducible refine (impl_isCharset.calls a0 true _ A3.out).mono ?_); rintro e w' ⟨rfl, ⟨nd, rfl⟩⟩; refine ⟨_, rfl, ?_⟩; (try (rw [drewN_self w14]; generalize hq_ : World.drewN w14 _ = w14; have n0_ : Aside0 (w14.heap[gb363]? = some (.cells #[.int .i64 0, .slice none 0 0] 39 (0, 0))) := ⟨by rw [← hq_]; exact (bL BK363)⟩; have n1_ : Aside0 (Below w.heap.size w w14) := ⟨by rw [← hq_]; exact (bG GE363)⟩; clear BK363 HB hq_; have BK363 := n0_; have HB := n1_; clear n0_ n1_))) | ((with_reducible refine gate_callee (f := 93) rfl ?_); refine goesL_ (some 20) rfl rfl Tryd.func93 (by kernel_rfl) rfl #[.int .i64 a0, .slice A1 l1.length c1] rfl bM ?_; (with_reducible refine (impl_decodeChars.calls k a0 (fun k_ => k_ < w.heap.size) _ _ l1 t365 false _ ?side1 A8.out).mono ?_); (case side1 => exact Kd.V_mk HC1.out (Kd.F_below (Kd.C_F (Kd.heap_int .u8) HR1.out) (bG GE363))); rintro e w15 ⟨v366, rfl, ho0, hb⟩; refine ⟨_, rfl, ?_⟩; have HO367 := Aside0.mk (Kd.R_lower (Kd.R_mono (ok' := fun k_ => True) ho0 (fun _ hk_ => trivial)) (below_size (bG GE363))); replace BK363 := Aside0.mk (blk_below (g := gb363) (o := .cells #[.int .i64 0, .slice none 0 0] 39 (0, 0)) (bL BK363) hb); replace HB := Aside0.mk (below_step (bG GE363) hb); (try clear ho0); have hcz16_0 : w15.cell? ⟨gb363, 0, none⟩ = some (.int .i64 0) := (blk_cell BK363.out 0).trans rfl; have hcz16_1 : w15.cell? ⟨gb363, 1, none⟩ = some (.slice none 0 0) := (blk_cell BK363.out 1).trans rfl; have hfz16_0 := blk_frozen BK363.out 0; have hfz16_1 := blk_frozen BK363.out 1))
    refine bodyPost_ret (results_cell_row rfl _ _ gb363 39 #[.int .i64 8, .slice none 0 0] (0, 0) _ rfl (by (with_reducible repeat (first | refine blk_drewN ?_ _ | refine blk_drew ?_ | refine blk_alloc ?_ _)); refine blk_put (cs := #[.int .i64 8, .slice none 0 0]) ?_ 1 _ rfl; (with_reducible repeat (first | refine blk_drewN ?_ _ | refine blk_drew ?_ | refine blk_alloc ?_ _)); refine blk_put (cs := #[.int .i64 0, .slice none 0 0]) ?_ 0 _ rfl; (with_reducible repeat (first | refine blk_drewN ?_ _ | refine blk_drew ?_ | refine blk_alloc ?_ _)); exact BK363.out) Tryd.underlying39 rfl (by kernel_rfl)) rfl ?_
    exact ⟨_, bE, z4, bG GE363⟩
 ·replace c4 := Bool.eq_false_iff.mpr c4
  subst c4
  have H1 : (some (4, ([] : List Int))) = some (r1, r2) := z14
  clear H
  have H := H1
  clear H1
  simp only [Option.some.injEq, Prod.mk.injEq] at H
  obtain ⟨rfl, rfl⟩ := H
  go_wp2_with (first | ((with_reducible refine gate_dst (N := 4) rfl ?_); refine box_event ?hg (N := 4) ?hd (cs := #[.int .i64 0, .slice none 0 0]) (t := 39) ?hr ?_; (case hd => rfl); (case hg => rfl); (case hr => exact z11); intro gb363 hg w17 hbox hb; have BK363 := Aside0.mk (hbox); have GW363 := Aside0.mk ((z18 : w.heap.size ≤ gb363)); have GE363 := Aside0.mk ((z18 : w.heap.size ≤ gb363)); replace HB := Aside0.mk (below_step bB hb); clear hb hbox hg) | ((with_reducible refine gate_callee (f := 92) rfl ?_); refine goesL_ (some 9) rfl rfl Tryd.func92 (by kernel_rfl) rfl #[.int .i64 a0] rfl bM ?_; (with_reducible refine (impl_isCharset.calls a0 false _ A3.out).mono ?_); rintro e w' ⟨rfl, ⟨nd, rfl⟩⟩; refine ⟨_, rfl, ?_⟩; (try (rw [drewN_self w17]; generalize hq_ : World.drewN w17 _ = w17; have n0_ : Aside0 (w17.heap[gb363]? = some (.cells #[.int .i64 0, .slice none 0 0] 39 (0, 0))) := ⟨by rw [← hq_]; exact (bL BK363)⟩; have n1_ : Aside0 (Below w.heap.size w w17) := ⟨by rw [← hq_]; exact (bG GE363)⟩; clear BK363 HB hq_; have BK363 := n0_; have HB := n1_; clear n0_ n1_)); have hcz18_0 : w17.cell? ⟨gb363, 0, none⟩ = some (.int .i64 0) := (blk_cell BK363.out 0).trans rfl; have hcz18_1 : w17.cell? ⟨gb363, 1, none⟩ = some (.slice none 0 0) := (blk_cell BK363.out 1).trans rfl; have hfz18_0 := blk_frozen BK363.out 0; have hfz18_1 := blk_frozen BK363.out 1))
  refine bodyPost_ret (results_cell_row rfl _ _ gb363 39 #[.int .i64 4, .slice none 0 0] (0, 0) _ rfl (by (with_reducible repeat (first | refine blk_drewN ?_ _ | refine blk_drew ?_ | refine blk_alloc ?_ _)); refine blk_put (cs := #[.int .i64 4, .slice none 0 0]) ?_ 1 _ rfl; (with_reducible repeat (first | refine blk_drewN ?_ _ | refine blk_drew ?_ | refine blk_alloc ?_ _)); refine blk_put (cs := #[.int .i64 0, .slice none 0 0]) ?_ 0 _ rfl; (with_reducible repeat (first | refine blk_drewN ?_ _ | refine blk_drew ?_ | refine blk_alloc ?_ _)); exact BK363.out) Tryd.underlying39 rfl (by kernel_rfl)) rfl ?_
  exact ⟨_, bE, z4, bG GE363⟩
mutual
def impl_toldWord.j0 : Nat → ByteArray → List ByteArray → Bool → Option (List Int × Int)
 | 0, _, _, _ => none
 | k + 1, x0, x6, x29 => if x29 = true then (some (([] : List Int), 0)) else (if 0 < (x6.length : Int) then ((impl_CharsetOf.f k (rdOf ByteArray.empty x6 0)).bind fun bt377 => (if bt377.1 = 0 then ((some (([] : List Int) : List Int)).bind fun y380 => (if 1 < (x6.length : Int) then (if (rdOf ByteArray.empty x6 1).toList = ([66] : List UInt8) then (impl_toldWord.j1 k x0 x6 y380 (rdOf ByteArray.empty x6 1) ((rdOf ByteArray.empty x6 1).toList == ([66] : List UInt8)) bt377.1 bt377.2) else (impl_toldWord.j1 k x0 x6 y380 (rdOf ByteArray.empty x6 1) ((rdOf ByteArray.empty x6 1).toList == ([98] : List UInt8)) bt377.1 bt377.2)) else (none))) else (some (([] : List Int), 0)))) else (none))
def impl_toldWord.j1 : Nat → ByteArray → List ByteArray → List Int → ByteArray → Bool → Int → Int → Option (List Int × Int)
 | 0, _, _, _, _, _, _, _ => none
 | k + 1, x0, x6, x8, x40, x41, x380000, x380001 => if x41 = true then (if 2 < (x6.length : Int) then ((impl_DecodeBase.f k (rdOf ByteArray.empty x6 2)).bind fun bt385 => ((impl_DecodeText.f k x380001 bt385.2).bind fun bt390 => (if bt385.1 = 0 then (if bt390.1 = 0 then (if 3 < (x6.length : Int) then (some (bt390.2, wrap64 ((wrap64 ((x0.size : Int) - ((rdOf ByteArray.empty x6 3).size : Int))) + 1))) else (none)) else (some (([] : List Int), 0))) else (some (([] : List Int), 0))))) else (none)) else (if x40.toList = ([81] : List UInt8) then (impl_toldWord.j2 k x0 x6 x8 (x40.toList == ([81] : List UInt8)) x380000 x380001) else (impl_toldWord.j2 k x0 x6 x8 (x40.toList == ([113] : List UInt8)) x380000 x380001))
def impl_toldWord.j2 : Nat → ByteArray → List ByteArray → List Int → Bool → Int → Int → Option (List Int × Int)
 | 0, _, _, _, _, _, _ => none
 | k + 1, x0, x6, x8, x53, x380000, x380001 => if x53 = true then (if 2 < (x6.length : Int) then ((impl_quotedWord.f k (rdOf ByteArray.empty x6 2)).bind fun bt397 => ((impl_DecodeText.f k x380001 bt397.1).bind fun bt401 => (if bt397.2 = true then (if bt401.1 = 0 then (if 3 < (x6.length : Int) then (some (bt401.2, wrap64 ((wrap64 ((x0.size : Int) - ((rdOf ByteArray.empty x6 3).size : Int))) + 1))) else (none)) else (some (([] : List Int), 0))) else (some (([] : List Int), 0))))) else (none)) else ((impl_DecodeText.f k x380001 x8).bind fun bt407 => (some (([] : List Int), 0)))
end
def impl_toldWord.f (k : Nat) (a0 : ByteArray) : Option (List Int × Int) := (strings_CutPrefix.f a0 (⟨#[61, 63]⟩ : ByteArray)).bind fun bt369 => (if bt369.2 = true then ((strings_SplitN.f bt369.1 (⟨#[63]⟩ : ByteArray) 4).bind fun t371 => (if (t371.length : Int) = 4 then (if 3 < (t371.length : Int) then ((strings_HasPrefix.f (rdOf ByteArray.empty t371 3) (⟨#[61]⟩ : ByteArray)).bind fun t375 => (impl_toldWord.j0 k a0 t371 (!t375))) else (none)) else (impl_toldWord.j0 k a0 t371 true))) else (some (([] : List Int), 0)))
set_option maxHeartbeats 8000000 in
set_option maxRecDepth 100000 in
theorem impl_toldWord.calls (k : Nat) (a0 : ByteArray) (r1 : List Int) (r2 : Int) (w : World) (hm_ : ∃ m, w.cell? ⟨0, 0, none⟩ = some (.int .i64 m)) (h : impl_toldWord.f k a0 = some (r1, r2)) :
  Calls Tryd.prog 50 #[.string a0] w fun e w' => ∃ v0_ : Value, e = .returned (.tuple #[v0_, .int .i64 r2]) ∧ Kd.R (Kd.int .i64) 2 w' w.heap.size (fun _ => True) v0_ r1 ∧ Below w.heap.size w w' := by
 have HM_ := Aside0.mk hm_
 clear hm_
 have hu33 := Tryd.underlying33
 have hu26 := Tryd.underlying26
 have hu39 := Tryd.underlying39
 have HB := Aside0.mk (Below.refl w.heap.size w)
 have H : ((strings_CutPrefix.f a0 (⟨#[61, 63]⟩ : ByteArray)).bind fun bt369 => (if bt369.2 = true then ((strings_SplitN.f bt369.1 (⟨#[63]⟩ : ByteArray) 4).bind fun t371 => (if (t371.length : Int) = 4 then (if 3 < (t371.length : Int) then ((strings_HasPrefix.f (rdOf ByteArray.empty t371 3) (⟨#[61]⟩ : ByteArray)).bind fun t375 => (impl_toldWord.j0 k a0 t371 (!t375))) else (none)) else (impl_toldWord.j0 k a0 t371 true))) else (some (([] : List Int), 0)))) = some (r1, r2) := h
 clear h
 replace H := Option.bind_eq_some_iff.mp H
 obtain ⟨⟨t369, t370⟩, A20, H⟩ := H
 replace H : (if t370 = true then ((strings_SplitN.f t369 (⟨#[63]⟩ : ByteArray) 4).bind fun t371 => (if (t371.length : Int) = 4 then (if 3 < (t371.length : Int) then ((strings_HasPrefix.f (rdOf ByteArray.empty t371 3) (⟨#[61]⟩ : ByteArray)).bind fun t375 => (impl_toldWord.j0 k a0 t371 (!t375))) else (none)) else (impl_toldWord.j0 k a0 t371 true))) else (some (([] : List Int), 0))) = some (r1, r2) := H
 have A2 := Aside0.mk A20
 clear A20
 have HQ_ := Aside0.mk H
 clear H
 go_enter Tryd.func50, Tryd.ntmps50
 have H := HQ_.out
 clear HQ_
 by_cases c3 : t370 = true
 ·subst c3
  have H1 : ((strings_SplitN.f t369 (⟨#[63]⟩ : ByteArray) 4).bind fun t371 => (if (t371.length : Int) = 4 then (if 3 < (t371.length : Int) then ((strings_HasPrefix.f (rdOf ByteArray.empty t371 3) (⟨#[61]⟩ : ByteArray)).bind fun t375 => (impl_toldWord.j0 k a0 t371 (!t375))) else (none)) else (impl_toldWord.j0 k a0 t371 true))) = some (r1, r2) := z31
  clear H
  have H := H1
  clear H1
  replace H := Option.bind_eq_some_iff.mp H
  obtain ⟨t371, A40, H⟩ := H
  replace H : (if (t371.length : Int) = 4 then (if 3 < (t371.length : Int) then ((strings_HasPrefix.f (rdOf ByteArray.empty t371 3) (⟨#[61]⟩ : ByteArray)).bind fun t375 => (impl_toldWord.j0 k a0 t371 (!t375))) else (none)) else (impl_toldWord.j0 k a0 t371 true)) = some (r1, r2) := H
  have A4 := Aside0.mk A40
  clear A40
  have HC5 := Aside0.mk H
  clear H
  go_upto_region 5 with (first | (go_at_call 64; (with_reducible refine (strings_CutPrefix.calls a0 (⟨#[61, 63]⟩ : ByteArray) t369 true _ A2.out).mono ?_); rintro e w' ⟨rfl, ⟨nd, rfl⟩⟩; (try first | exact ⟨rfl, _, World.drewN_drewN _ _ _⟩ | exact ⟨rfl, _, Eq.trans (World.drewN_drewN _ _ _) (congrArg (World.drewN _) (Nat.add_assoc _ _ _))⟩)) | (go_at_call 65; (with_reducible refine (strings_SplitN.calls t369 (⟨#[63]⟩ : ByteArray) 4 t371 _ ?sidem A4.out).mono ?_); (case sidem => exact z51); rintro e w6 ⟨v372, rfl, ho0, hb⟩; have HO373 := Aside0.mk (Kd.R_lower ho0 (below_size bB)); replace HB := Aside0.mk (below_step bB hb); (try clear ho0)))
  repeat (go_quiet (first | (go_at_call 64; (with_reducible refine (strings_CutPrefix.calls a0 (⟨#[61, 63]⟩ : ByteArray) t369 true _ A2.out).mono ?_); rintro e w' ⟨rfl, ⟨nd, rfl⟩⟩; (try first | exact ⟨rfl, _, World.drewN_drewN _ _ _⟩ | exact ⟨rfl, _, Eq.trans (World.drewN_drewN _ _ _) (congrArg (World.drewN _) (Nat.add_assoc _ _ _))⟩)) | (go_at_call 65; (with_reducible refine (strings_SplitN.calls t369 (⟨#[63]⟩ : ByteArray) 4 t371 _ ?sidem A4.out).mono ?_); (case sidem => exact z51); rintro e w6 ⟨v372, rfl, ho0, hb⟩; have HO373 := Aside0.mk (Kd.R_lower ho0 (below_size bB)); replace HB := Aside0.mk (below_step bB hb); (try clear ho0))); go_upto_region 5 with (first | (go_at_call 64; (with_reducible refine (strings_CutPrefix.calls a0 (⟨#[61, 63]⟩ : ByteArray) t369 true _ A2.out).mono ?_); rintro e w' ⟨rfl, ⟨nd, rfl⟩⟩; (try first | exact ⟨rfl, _, World.drewN_drewN _ _ _⟩ | exact ⟨rfl, _, Eq.trans (World.drewN_drewN _ _ _) (congrArg (World.drewN _) (Nat.add_assoc _ _ _))⟩)) | (go_at_call 65; (with_reducible refine (strings_SplitN.calls t369 (⟨#[63]⟩ : ByteArray) 4 t371 _ ?sidem A4.out).mono ?_); (case sidem => exact z51); rintro e w6 ⟨v372, rfl, ho0, hb⟩; have HO373 := Aside0.mk (Kd.R_lower ho0 (below_size bB)); replace HB := Aside0.mk (below_step bB hb); (try clear ho0))))
  (try simp only [Act.put, List.setIfInBounds_toArray, List.set_cons_zero, List.set_cons_succ])
  go_cut [29] (fun v29 wc => ∃ (kq : Nat) (x29_4 : Bool), v29 = .bool x29_4 ∧ Aside0 (impl_toldWord.j0 kq a0 t371 x29_4 = some (r1, r2)) ∧ Aside0 (kq ≤ k) ∧ Aside0 (Kd.R Kd.string 9 wc w.heap.size (fun _ => True) v372 t371) ∧ Aside0 (Below w.heap.size w wc))
  case first =>
   have H := HC5.out
   clear HC5
   by_cases c7 : (t371.length : Int) = 4
   ·rw [if_pos c7] at H
    have c7b0 : ((t371.length : Int) == 4) = true := beq_iff_eq.mpr c7
    have c7b1 : ((t371.length : Int) != 4) = false := bne_eq_false_iff_eq.mpr c7
    clear c7
    (first | rw [c7b0] | (simp only [i64_w, i32_w]; rw [c7b0]) | skip)
    by_cases c8 : 3 < (t371.length : Int)
    ·rw [if_pos c8] at H
     have c8b0 : decide (3 < (t371.length : Int)) = true := decide_eq_true c8
     have c8b1 : decide (3 < t371.length) = true := decide_eq_true (by omega)
     clear c8
     replace H := Option.bind_eq_some_iff.mp H
     obtain ⟨t375, A90, H⟩ := H
     replace H : (impl_toldWord.j0 k a0 t371 (!t375)) = some (r1, r2) := H
     have A9 := Aside0.mk A90
     clear A90
     have H' := Aside0.mk H
     clear H
     obtain ⟨Ao10, co10, eo10⟩ := Kd.R_slice HO373.out
     subst eo10
     have p374 : 0 ≤ (3 : Int) := (by omega)
     have q374 : 3 < (t371.length : Int) := pI
     obtain ⟨ad374, e374, hx374_0⟩ := Kd.at_string (Kd.R_reads' HO373.out).2.2 3 p374 q374
     cases e374
     (try simp only [show (3 : Int).toNat = 3 from rfl, Nat.reduceMul, Nat.reduceEqDiff, Go.Addr.add, ↓reduceIte] at hx374_0)
     have qi374 : (3 < t371.length) = True := eq_true (by omega)
     (try rw [show ((3 : Int)).toNat = 3 from rfl] at hx374_0)
     replace p374 := eq_true p374
     replace q374 := eq_true q374
     go_wp2_with (first | (go_at_call 66; (with_reducible refine (strings_HasPrefix.calls (rdOf ByteArray.empty t371 3) (⟨#[61]⟩ : ByteArray) t375 _ A9.out).mono ?_); rintro e w' ⟨rfl, ⟨nd, rfl⟩⟩; (try first | exact ⟨rfl, _, World.drewN_drewN _ _ _⟩ | exact ⟨rfl, _, Eq.trans (World.drewN_drewN _ _ _) (congrArg (World.drewN _) (Nat.add_assoc _ _ _))⟩)))
     repeat (go_quiet (first | (go_at_call 66; (with_reducible refine (strings_HasPrefix.calls (rdOf ByteArray.empty t371 3) (⟨#[61]⟩ : ByteArray) t375 _ A9.out).mono ?_); rintro e w' ⟨rfl, ⟨nd, rfl⟩⟩; (try first | exact ⟨rfl, _, World.drewN_drewN _ _ _⟩ | exact ⟨rfl, _, Eq.trans (World.drewN_drewN _ _ _) (congrArg (World.drewN _) (Nat.add_assoc _ _ _))⟩))); try go_wp2_with (first | (go_at_call 66; (with_reducible refine (strings_HasPrefix.calls (rdOf ByteArray.empty t371 3) (⟨#[61]⟩ : ByteArray) t375 _ A9.out).mono ?_); rintro e w' ⟨rfl, ⟨nd, rfl⟩⟩; (try first | exact ⟨rfl, _, World.drewN_drewN _ _ _⟩ | exact ⟨rfl, _, Eq.trans (World.drewN_drewN _ _ _) (congrArg (World.drewN _) (Nat.add_assoc _ _ _))⟩))))
     go_meet
     case rel => exact ⟨_, (!t375), bS, H', ⟨z49⟩, ⟨bR HO373⟩, ⟨bB⟩⟩
    ·rw [if_neg c8] at H
     exact absurd H (by simp)
   ·rw [if_neg c7] at H
    have c7b0 : ((t371.length : Int) == 4) = false := beq_eq_false_iff_ne.mpr c7
    have c7b1 : ((t371.length : Int) != 4) = true := bne_iff_ne.mpr c7
    (first | rw [c7b0] | (simp only [i64_w, i32_w]; rw [c7b0]) | skip)
    have H' := Aside0.mk H
    clear H
    obtain ⟨Ao11, co11, eo11⟩ := Kd.R_slice HO373.out
    subst eo11
    go_wp2
    repeat (go_quiet (fail); try go_wp2)
    go_meet
    case rel => exact ⟨_, (true), bS, H', ⟨z49⟩, ⟨bR HO373⟩, ⟨bB⟩⟩
  case rest =>
   clear HC5
   try clear p2
   try clear c3
   try clear p3
   try clear q3
   try clear hx3
   try clear qi3
   try clear c5
   try clear c7
   try clear c7b0
   try clear c7b1
   try clear c8
   try clear c8b0
   try clear c8b1
   try clear hx374_0
   try clear p374
   try clear q374
   obtain ⟨kq, x29_4, rfl, HA, HJ4, HO_6, HB⟩ := hcut
   cases kq with
   | zero => exact absurd HA.out (by simp [impl_toldWord.j0])
   | succ kj4 =>
    have H := HA.out
    clear HA
    simp only [impl_toldWord.j0] at H
    by_cases c12 : x29_4 = true
    ·subst c12
     have H1 : (some (([] : List Int), 0)) = some (r1, r2) := z31
     clear H
     have H := H1
     clear H1
     simp only [Option.some.injEq, Prod.mk.injEq] at H
     obtain ⟨rfl, rfl⟩ := H
     go_wp2
     repeat (go_quiet (fail); try go_wp2)
     go_ret2
     exact ⟨_, bE, z4, bB⟩
    ·replace c12 := Bool.eq_false_iff.mpr c12
     subst c12
     have H1 : (if 0 < (t371.length : Int) then ((impl_CharsetOf.f kj4 (rdOf ByteArray.empty t371 0)).bind fun bt377 => (if bt377.1 = 0 then ((some (([] : List Int) : List Int)).bind fun y380 => (if 1 < (t371.length : Int) then (if (rdOf ByteArray.empty t371 1).toList = ([66] : List UInt8) then (impl_toldWord.j1 kj4 a0 t371 y380 (rdOf ByteArray.empty t371 1) ((rdOf ByteArray.empty t371 1).toList == ([66] : List UInt8)) bt377.1 bt377.2) else (impl_toldWord.j1 kj4 a0 t371 y380 (rdOf ByteArray.empty t371 1) ((rdOf ByteArray.empty t371 1).toList == ([98] : List UInt8)) bt377.1 bt377.2)) else (none))) else (some (([] : List Int), 0)))) else (none)) = some (r1, r2) := z14
     clear H
     have H := H1
     clear H1
     by_cases c13 : 0 < (t371.length : Int)
     ·rw [if_pos c13] at H
      have c13b0 : decide (0 < (t371.length : Int)) = true := decide_eq_true c13
      have c13b1 : decide (0 < t371.length) = true := decide_eq_true (by omega)
      clear c13
      replace H := Option.bind_eq_some_iff.mp H
      obtain ⟨⟨t377, t378⟩, A140, H⟩ := H
      replace H : (if t377 = 0 then ((some (([] : List Int) : List Int)).bind fun y380 => (if 1 < (t371.length : Int) then (if (rdOf ByteArray.empty t371 1).toList = ([66] : List UInt8) then (impl_toldWord.j1 kj4 a0 t371 y380 (rdOf ByteArray.empty t371 1) ((rdOf ByteArray.empty t371 1).toList == ([66] : List UInt8)) t377 t378) else (impl_toldWord.j1 kj4 a0 t371 y380 (rdOf ByteArray.empty t371 1) ((rdOf ByteArray.empty t371 1).toList == ([98] : List UInt8)) t377 t378)) else (none))) else (some (([] : List Int), 0))) = some (r1, r2) := H
      have A14 := Aside0.mk A140
      clear A140
      have HQ_ := Aside0.mk H
      clear H
      obtain ⟨Ao18, co18, eo18⟩ := Kd.R_slice HO_6.out
      subst eo18
      have p376 : 0 ≤ (0 : Int) := (by omega)
      have q376 : 0 < (t371.length : Int) := pI
      obtain ⟨ad376, e376, hx376_0⟩ := Kd.at_string (Kd.R_reads' HO_6.out).2.2 0 p376 q376
      cases e376
      have qi376 : (0 < t371.length) = True := eq_true (by omega)
      (try rw [show ((0 : Int)).toNat = 0 from rfl] at hx376_0)
      (try rw [Addr.add_zero'] at hx376_0)
      replace p376 := eq_true p376
      replace q376 := eq_true q376
      have H := HQ_.out
      clear HQ_
      by_cases c15 : t377 = 0
      ·rw [if_pos c15] at H
       have c15b0 : (t377 == 0) = true := beq_iff_eq.mpr c15
       have c15b1 : (t377 != 0) = false := bne_eq_false_iff_eq.mpr c15
       clear c15
       obtain ⟨y380, hy380⟩ : ∃ y_ : List Int, y_ = (([] : List Int)) := ⟨_, rfl⟩
       replace H : (if 1 < (t371.length : Int) then (if (rdOf ByteArray.empty t371 1).toList = ([66] : List UInt8) then (impl_toldWord.j1 kj4 a0 t371 y380 (rdOf ByteArray.empty t371 1) ((rdOf ByteArray.empty t371 1).toList == ([66] : List UInt8)) t377 t378) else (impl_toldWord.j1 kj4 a0 t371 y380 (rdOf ByteArray.empty t371 1) ((rdOf ByteArray.empty t371 1).toList == ([98] : List UInt8)) t377 t378)) else (none)) = some (r1, r2) := z0 hy380
       have Ny380 := Aside0.mk hy380
       clear hy380
       (try simp only [c15b0, c15b1])
       by_cases c16 : 1 < (t371.length : Int)
       ·rw [if_pos c16] at H
        have c16b0 : decide (1 < (t371.length : Int)) = true := decide_eq_true c16
        have c16b1 : decide (1 < t371.length) = true := decide_eq_true (by omega)
        clear c16
        have HC17 := Aside0.mk H
        clear H
        go_upto_if 41 with (first | (go_at_call 67; (with_reducible refine (impl_CharsetOf.calls kj4 (rdOf ByteArray.empty t371 0) t377 t378 _ A14.out).mono ?_); rintro e w19 ⟨rfl, hb⟩; replace HO_6 := Aside0.mk (Kd.R_below (bR HO_6) hb); replace HB := Aside0.mk (below_step bB hb); (try clear hi)) | ((with_reducible refine gate_dst (N := 7) rfl ?_); refine box_event ?hg (N := 7) ?hd (cs := #[.int .i64 0, .int .i64 0]) (t := 33) ?hr ?_; (case hd => rfl); (case hg => rfl); (case hr => exact z11); intro gb379 hg w20 hbox hb; replace HO_6 := Aside0.mk (Kd.R_below (bR HO_6) hb); have BK379 := Aside0.mk (hbox); have GW379 := Aside0.mk ((z18 : w.heap.size ≤ gb379)); have GE379 := Aside0.mk ((z18 : w.heap.size ≤ gb379)); replace HB := Aside0.mk (below_step bB hb); clear hb hbox hg; have hcz21_0 : w20.cell? ⟨gb379, 0, none⟩ = some (.int .i64 0) := (blk_cell BK379.out 0).trans rfl; have hcz21_1 : w20.cell? ⟨gb379, 1, none⟩ = some (.int .i64 0) := (blk_cell BK379.out 1).trans rfl; have hfz21_0 := blk_frozen BK379.out 0; have hfz21_1 := blk_frozen BK379.out 1) | ((with_reducible refine gate_dst (N := 37) rfl ?_); refine Kd.R_lit (Kd.int .u8) _ 5 ?hg (N := 37) ?hd (xs := ([] : List Int)) (inner := []) (ok := fun _ => True) (okp := fun _ => True) ?hr ?hp (fun _ hk => hk) trivial (Below.refl _ _) (Nat.le_refl _) (by simp) ?_; (case hd => rfl); (case hg => rfl); (case hr => exact z11); (case hp => exact (Reps.none _ _)); intro v381 w22 ho23 hb hg_ hnew_; clear hg_ hnew_; (first | rw [← Ny380.out] at ho23 | (simp only [Int.reduceToNat] at ho23; rw [← Ny380.out] at ho23)); replace HO_6 := Aside0.mk (Kd.R_below (z47 HO_6.out BK379.out) hb); have HO382 := Aside0.mk (Kd.R_lower ho23 (below_size (bG GE379))); replace BK379 := Aside0.mk (blk_below (g := gb379) (o := .cells #[.int .i64 t377, .int .i64 t378] 33 (0, 0)) (z36 BK379.out) hb); replace HB := Aside0.mk (below_step (bG GE379) hb); clear hb ho23; have p383 : 0 ≤ (1 : Int) := (by omega); have q383 : 1 < (t371.length : Int) := pI; obtain ⟨ad383, e383, hx383_0⟩ := Kd.at_string (Kd.R_reads' HO_6.out).2.2 1 p383 q383; obtain rfl : ad376 = ad383 := (by injection e383); (try simp only [show (1 : Int).toNat = 1 from rfl, Nat.reduceMul, Nat.reduceEqDiff, Go.Addr.add, ↓reduceIte] at hx383_0); have qi383 : (1 < t371.length) = True := eq_true (by omega); (try rw [show ((1 : Int)).toNat = 1 from rfl] at hx383_0); replace p383 := eq_true p383; replace q383 := eq_true q383))
        repeat (go_quiet (first | (go_at_call 67; (with_reducible refine (impl_CharsetOf.calls kj4 (rdOf ByteArray.empty t371 0) t377 t378 _ A14.out).mono ?_); rintro e w19 ⟨rfl, hb⟩; replace HO_6 := Aside0.mk (Kd.R_below (bR HO_6) hb); replace HB := Aside0.mk (below_step bB hb); (try clear hi)) | ((with_reducible refine gate_dst (N := 7) rfl ?_); refine box_event ?hg (N := 7) ?hd (cs := #[.int .i64 0, .int .i64 0]) (t := 33) ?hr ?_; (case hd => rfl); (case hg => rfl); (case hr => exact z11); intro gb379 hg w20 hbox hb; replace HO_6 := Aside0.mk (Kd.R_below (bR HO_6) hb); have BK379 := Aside0.mk (hbox); have GW379 := Aside0.mk ((z18 : w.heap.size ≤ gb379)); have GE379 := Aside0.mk ((z18 : w.heap.size ≤ gb379)); replace HB := Aside0.mk (below_step bB hb); clear hb hbox hg; have hcz21_0 : w20.cell? ⟨gb379, 0, none⟩ = some (.int .i64 0) := (blk_cell BK379.out 0).trans rfl; have hcz21_1 : w20.cell? ⟨gb379, 1, none⟩ = some (.int .i64 0) := (blk_cell BK379.out 1).trans rfl; have hfz21_0 := blk_frozen BK379.out 0; have hfz21_1 := blk_frozen BK379.out 1) | ((with_reducible refine gate_dst (N := 37) rfl ?_); refine Kd.R_lit (Kd.int .u8) _ 5 ?hg (N := 37) ?hd (xs := ([] : List Int)) (inner := []) (ok := fun _ => True) (okp := fun _ => True) ?hr ?hp (fun _ hk => hk) trivial (Below.refl _ _) (Nat.le_refl _) (by simp) ?_; (case hd => rfl); (case hg => rfl); (case hr => exact z11); (case hp => exact (Reps.none _ _)); intro v381 w22 ho23 hb hg_ hnew_; clear hg_ hnew_; (first | rw [← Ny380.out] at ho23 | (simp only [Int.reduceToNat] at ho23; rw [← Ny380.out] at ho23)); replace HO_6 := Aside0.mk (Kd.R_below (z47 HO_6.out BK379.out) hb); have HO382 := Aside0.mk (Kd.R_lower ho23 (below_size (bG GE379))); replace BK379 := Aside0.mk (blk_below (g := gb379) (o := .cells #[.int .i64 t377, .int .i64 t378] 33 (0, 0)) (z36 BK379.out) hb); replace HB := Aside0.mk (below_step (bG GE379) hb); clear hb ho23; have p383 : 0 ≤ (1 : Int) := (by omega); have q383 : 1 < (t371.length : Int) := pI; obtain ⟨ad383, e383, hx383_0⟩ := Kd.at_string (Kd.R_reads' HO_6.out).2.2 1 p383 q383; obtain rfl : ad376 = ad383 := (by injection e383); (try simp only [show (1 : Int).toNat = 1 from rfl, Nat.reduceMul, Nat.reduceEqDiff, Go.Addr.add, ↓reduceIte] at hx383_0); have qi383 : (1 < t371.length) = True := eq_true (by omega); (try rw [show ((1 : Int)).toNat = 1 from rfl] at hx383_0); replace p383 := eq_true p383; replace q383 := eq_true q383)); go_upto_if 41 with (first | (go_at_call 67; (with_reducible refine (impl_CharsetOf.calls kj4 (rdOf ByteArray.empty t371 0) t377 t378 _ A14.out).mono ?_); rintro e w19 ⟨rfl, hb⟩; replace HO_6 := Aside0.mk (Kd.R_below (bR HO_6) hb); replace HB := Aside0.mk (below_step bB hb); (try clear hi)) | ((with_reducible refine gate_dst (N := 7) rfl ?_); refine box_event ?hg (N := 7) ?hd (cs := #[.int .i64 0, .int .i64 0]) (t := 33) ?hr ?_; (case hd => rfl); (case hg => rfl); (case hr => exact z11); intro gb379 hg w20 hbox hb; replace HO_6 := Aside0.mk (Kd.R_below (bR HO_6) hb); have BK379 := Aside0.mk (hbox); have GW379 := Aside0.mk ((z18 : w.heap.size ≤ gb379)); have GE379 := Aside0.mk ((z18 : w.heap.size ≤ gb379)); replace HB := Aside0.mk (below_step bB hb); clear hb hbox hg; have hcz21_0 : w20.cell? ⟨gb379, 0, none⟩ = some (.int .i64 0) := (blk_cell BK379.out 0).trans rfl; have hcz21_1 : w20.cell? ⟨gb379, 1, none⟩ = some (.int .i64 0) := (blk_cell BK379.out 1).trans rfl; have hfz21_0 := blk_frozen BK379.out 0; have hfz21_1 := blk_frozen BK379.out 1) | ((with_reducible refine gate_dst (N := 37) rfl ?_); refine Kd.R_lit (Kd.int .u8) _ 5 ?hg (N := 37) ?hd (xs := ([] : List Int)) (inner := []) (ok := fun _ => True) (okp := fun _ => True) ?hr ?hp (fun _ hk => hk) trivial (Below.refl _ _) (Nat.le_refl _) (by simp) ?_; (case hd => rfl); (case hg => rfl); (case hr => exact z11); (case hp => exact (Reps.none _ _)); intro v381 w22 ho23 hb hg_ hnew_; clear hg_ hnew_; (first | rw [← Ny380.out] at ho23 | (simp only [Int.reduceToNat] at ho23; rw [← Ny380.out] at ho23)); replace HO_6 := Aside0.mk (Kd.R_below (z47 HO_6.out BK379.out) hb); have HO382 := Aside0.mk (Kd.R_lower ho23 (below_size (bG GE379))); replace BK379 := Aside0.mk (blk_below (g := gb379) (o := .cells #[.int .i64 t377, .int .i64 t378] 33 (0, 0)) (z36 BK379.out) hb); replace HB := Aside0.mk (below_step (bG GE379) hb); clear hb ho23; have p383 : 0 ≤ (1 : Int) := (by omega); have q383 : 1 < (t371.length : Int) := pI; obtain ⟨ad383, e383, hx383_0⟩ := Kd.at_string (Kd.R_reads' HO_6.out).2.2 1 p383 q383; obtain rfl : ad376 = ad383 := (by injection e383); (try simp only [show (1 : Int).toNat = 1 from rfl, Nat.reduceMul, Nat.reduceEqDiff, Go.Addr.add, ↓reduceIte] at hx383_0); have qi383 : (1 < t371.length) = True := eq_true (by omega); (try rw [show ((1 : Int)).toNat = 1 from rfl] at hx383_0); replace p383 := eq_true p383; replace q383 := eq_true q383)))
        (try simp only [Act.put, List.setIfInBounds_toArray, List.set_cons_zero, List.set_cons_succ])
        go_cut [41] (fun v41 wc => ∃ (kq : Nat) (x41_16 : Bool), v41 = .bool x41_16 ∧ Aside0 (impl_toldWord.j1 kq a0 t371 y380 (rdOf ByteArray.empty t371 1) x41_16 t377 t378 = some (r1, r2)) ∧ Aside0 (kq ≤ kj4) ∧ Aside0 (Kd.R Kd.string 9 wc w.heap.size (fun _ => True) (.slice (some ad376) t371.length co18) t371) ∧ Aside0 (Kd.R (Kd.int .u8) 5 wc w.heap.size (fun _ => True) v381 y380) ∧ Aside0 (wc.heap[gb379]? = some (.cells #[.int .i64 t377, .int .i64 t378] 33 (0, 0))) ∧ Aside0 (Below w.heap.size w wc))
        case first =>
         have H := HC17.out
         clear HC17
         by_cases c24 : (rdOf ByteArray.empty t371 1).toList = ([66] : List UInt8)
         ·rw [if_pos c24] at H
          have c24b0 : ((rdOf ByteArray.empty t371 1).toList == ([66] : List UInt8)) = true := beq_iff_eq.mpr c24
          have c24b1 : ((rdOf ByteArray.empty t371 1).toList != ([66] : List UInt8)) = false := bne_eq_false_iff_eq.mpr c24
          clear c24
          (first | rw [c24b0] | (simp only [i64_w, i32_w]; rw [c24b0]) | skip)
          have H' := Aside0.mk H
          clear H
          go_wp2
          repeat (go_quiet (fail); try go_wp2)
          go_meet
          case rel => exact ⟨_, (((rdOf ByteArray.empty t371 1).toList == ([66] : List UInt8))), bS, H', ⟨z45 HJ4.out⟩, ⟨bR HO_6⟩, ⟨bR HO382⟩, ⟨bL BK379⟩, ⟨bG GE379⟩⟩
         ·rw [if_neg c24] at H
          have c24b0 : ((rdOf ByteArray.empty t371 1).toList == ([66] : List UInt8)) = false := beq_eq_false_iff_ne.mpr c24
          have c24b1 : ((rdOf ByteArray.empty t371 1).toList != ([66] : List UInt8)) = true := bne_iff_ne.mpr c24
          (first | rw [c24b0] | (simp only [i64_w, i32_w]; rw [c24b0]) | skip)
          have H' := Aside0.mk H
          clear H
          go_wp2
          repeat (go_quiet (fail); try go_wp2)
          go_meet
          case rel => exact ⟨_, (((rdOf ByteArray.empty t371 1).toList == ([98] : List UInt8))), bS, H', ⟨z45 HJ4.out⟩, ⟨bR HO_6⟩, ⟨bR HO382⟩, ⟨bL BK379⟩, ⟨bG GE379⟩⟩
        case rest =>
         clear HC17
         try clear c1
         try clear c2
         try clear p2
         try clear c3
         try clear p3
         try clear q3
         try clear hx3
         try clear qi3
         try clear c5
         try clear c7
         try clear c7b0
         try clear c7b1
         try clear c8
         try clear c8b0
         try clear c8b1
         try clear c12
         try clear c13
         try clear c13b0
         try clear c13b1
         try clear c15
         try clear c15b0
         try clear c15b1
         try clear c16
         try clear c16b0
         try clear c16b1
         try clear c24
         try clear c24b0
         try clear c24b1
         try clear hcz21_0
         try clear hcz21_1
         try clear hfz21_0
         try clear hfz21_1
         try clear hx374_0
         try clear hx376_0
         try clear hx383_0
         try clear p2
         try clear p3
         try clear p374
         try clear p376
         try clear p383
         try clear q3
         try clear q374
         try clear q376
         try clear q383
         obtain ⟨kq, x41_16, rfl, HA, HJ16, HO_6, HO_8, BK379, HB⟩ := hcut
         cases kq with
         | zero => exact absurd HA.out (by simp [impl_toldWord.j1])
         | succ kj16 =>
          have H := HA.out
          clear HA
          simp only [impl_toldWord.j1] at H
          by_cases c25 : x41_16 = true
          ·subst c25
           have H1 : (if 2 < (t371.length : Int) then ((impl_DecodeBase.f kj16 (rdOf ByteArray.empty t371 2)).bind fun bt385 => ((impl_DecodeText.f kj16 t378 bt385.2).bind fun bt390 => (if bt385.1 = 0 then (if bt390.1 = 0 then (if 3 < (t371.length : Int) then (some (bt390.2, wrap64 ((wrap64 ((a0.size : Int) - ((rdOf ByteArray.empty t371 3).size : Int))) + 1))) else (none)) else (some (([] : List Int), 0))) else (some (([] : List Int), 0))))) else (none)) = some (r1, r2) := z31
           clear H
           have H := H1
           clear H1
           by_cases c26 : 2 < (t371.length : Int)
           ·rw [if_pos c26] at H
            have c26b0 : decide (2 < (t371.length : Int)) = true := decide_eq_true c26
            have c26b1 : decide (2 < t371.length) = true := decide_eq_true (by omega)
            clear c26
            replace H := Option.bind_eq_some_iff.mp H
            obtain ⟨⟨t385, t386⟩, A270, H⟩ := H
            replace H : ((impl_DecodeText.f kj16 t378 t386).bind fun bt390 => (if t385 = 0 then (if bt390.1 = 0 then (if 3 < (t371.length : Int) then (some (bt390.2, wrap64 ((wrap64 ((a0.size : Int) - ((rdOf ByteArray.empty t371 3).size : Int))) + 1))) else (none)) else (some (([] : List Int), 0))) else (some (([] : List Int), 0)))) = some (r1, r2) := H
            have A27 := Aside0.mk A270
            clear A270
            replace H := Option.bind_eq_some_iff.mp H
            obtain ⟨⟨t390, t391⟩, A280, H⟩ := H
            replace H : (if t385 = 0 then (if t390 = 0 then (if 3 < (t371.length : Int) then (some (t391, wrap64 ((wrap64 ((a0.size : Int) - ((rdOf ByteArray.empty t371 3).size : Int))) + 1))) else (none)) else (some (([] : List Int), 0))) else (some (([] : List Int), 0))) = some (r1, r2) := H
            have A28 := Aside0.mk A280
            clear A280
            have HQ_ := Aside0.mk H
            clear H
            have p384 : 0 ≤ (2 : Int) := (by omega)
            have q384 : 2 < (t371.length : Int) := pI
            obtain ⟨ad384, e384, hx384_0⟩ := Kd.at_string (Kd.R_reads' HO_6.out).2.2 2 p384 q384
            obtain rfl : ad376 = ad384 := (by injection e384)
            (try simp only [show (2 : Int).toNat = 2 from rfl, Nat.reduceMul, Nat.reduceEqDiff, Go.Addr.add, ↓reduceIte] at hx384_0)
            have qi384 : (2 < t371.length) = True := eq_true (by omega)
            (try rw [show ((2 : Int)).toNat = 2 from rfl] at hx384_0)
            replace p384 := eq_true p384
            replace q384 := eq_true q384
            have H := HQ_.out
            clear HQ_
            by_cases c29 : t385 = 0
            ·rw [if_pos c29] at H
             have c29b0 : (t385 == 0) = true := beq_iff_eq.mpr c29
             have c29b1 : (t385 != 0) = false := bne_eq_false_iff_eq.mpr c29
             clear c29
             (try simp only [c29b0, c29b1])
             by_cases c30 : t390 = 0
             ·rw [if_pos c30] at H
              have c30b0 : (t390 == 0) = true := beq_iff_eq.mpr c30
              have c30b1 : (t390 != 0) = false := bne_eq_false_iff_eq.mpr c30
              clear c30
              (try simp only [c30b0, c30b1])
              by_cases c31 : 3 < (t371.length : Int)
              ·rw [if_pos c31] at H
               have c31b0 : decide (3 < (t371.length : Int)) = true := decide_eq_true c31
               have c31b1 : decide (3 < t371.length) = true := decide_eq_true (by omega)
               clear c31
               simp only [Option.some.injEq, Prod.mk.injEq] at H
               obtain ⟨rfl, rfl⟩ := H
               go_wp2_with (first | (go_at_call 7; (with_reducible refine (impl_DecodeBase.calls kj16 (rdOf ByteArray.empty t371 2) t385 t386 _ A27.out).mono ?_); rintro e w32 ⟨v387, rfl, ho0, hb⟩; replace HO_6 := Aside0.mk (Kd.R_below (bR HO_6) hb); have HO388 := Aside0.mk (Kd.R_lower (Kd.R_new' ho0 (Kd.R_lt (bR HO_8))) (below_size (bG GE379))); replace HO_8 := Aside0.mk (Kd.R_elder' (bR HO_8) (Kd.R_base ho0) hb); replace BK379 := Aside0.mk (blk_below (g := gb379) (o := .cells #[.int .i64 t377, .int .i64 t378] 33 (0, 0)) (bL BK379) hb); replace HB := Aside0.mk (below_step (bG GE379) hb); (try clear ho0)) | ((with_reducible refine gate_dst (N := 9) rfl ?_); refine box_event ?hg (N := 9) ?hd (cs := #[.int .i64 0, .slice none 0 0]) (t := 26) ?hr ?_; (case hd => rfl); (case hg => rfl); (case hr => exact z11); intro gb389 hg w33 hbox hb; replace HO_6 := Aside0.mk (Kd.R_below (bR HO_6) hb); replace HO_8 := Aside0.mk (Kd.R_below (bR HO_8) hb); replace HO388 := Aside0.mk (Kd.R_below (bR HO388) hb); have BK389 := Aside0.mk (hbox); have GW389 := Aside0.mk ((z25 : w.heap.size ≤ gb389)); have GE389 := Aside0.mk ((z25 : w.heap.size ≤ gb389)); replace HB := Aside0.mk (below_step (bG GE379) hb); have NB379_389 := Aside0.mk ((z9 : gb379 ≠ gb389)); have NB389_379 := Aside0.mk ((z10 : gb389 ≠ gb379)); replace BK379 := Aside0.mk (blk_below (g := gb379) (o := .cells #[.int .i64 t377, .int .i64 t378] 33 (0, 0)) (bL BK379) hb); clear hb hbox hg; have hnb34 := NB389_379.out; have hnc34 := NB379_389.out; have hcz35_0 : w33.cell? ⟨gb389, 0, none⟩ = some (.int .i64 0) := (blk_cell BK389.out 0).trans rfl; have hcz35_1 : w33.cell? ⟨gb389, 1, none⟩ = some (.slice none 0 0) := (blk_cell BK389.out 1).trans rfl; have hfz35_0 := blk_frozen BK389.out 0; have hfz35_1 := blk_frozen BK389.out 1; obtain ⟨Ao36, co36, eo36⟩ := Kd.R_slice HO388.out; subst eo36; have hcz37_0 : w33.cell? ⟨gb379, 0, none⟩ = some (.int .i64 t377) := (blk_cell BK379.out 0).trans rfl; have hcz37_1 : w33.cell? ⟨gb379, 1, none⟩ = some (.int .i64 t378) := (blk_cell BK379.out 1).trans rfl; have hfz37_0 := blk_frozen BK379.out 0; have hfz37_1 := blk_frozen BK379.out 1) | (go_at_call 69; (with_reducible refine (impl_DecodeText.calls kj16 t378 _ _ t386 t390 t391 _ ?side1 ?side2 A28.out).mono ?_); (case side1 => exact z34 HO388.out BK389.out); (case side2 => exact (Kd.R_reads' HO388.out).2.1); rintro e w38 ⟨v392, rfl, ho0, hb⟩; replace HO_6 := Aside0.mk (Kd.R_below (z7 HO_6.out BK389.out) hb); replace HO_8 := Aside0.mk (Kd.R_below (z7 HO_8.out BK389.out) hb); replace HO388 := Aside0.mk (Kd.R_below (z7 HO388.out BK389.out) hb); have HO393 := Aside0.mk (Kd.R_lower ho0 (below_size (bG2 GE379 GE389))); replace BK379 := Aside0.mk (blk_below (g := gb379) (o := .cells #[.int .i64 t377, .int .i64 t378] 33 (0, 0)) (z1 NB379_389.out BK379.out) hb); replace BK389 := Aside0.mk (blk_below (g := gb389) (o := .cells #[.int .i64 t385, .slice Ao36 t386.length co36] 26 (0, 0)) (z5 BK389.out) hb); replace HB := Aside0.mk (below_step (bG2 GE379 GE389) hb); (try clear ho0)) | ((with_reducible refine gate_dst (N := 10) rfl ?_); refine box_event ?hg (N := 10) ?hd (cs := #[.int .i64 0, .slice none 0 0]) (t := 39) ?hr ?_; (case hd => rfl); (case hg => rfl); (case hr => exact z11); intro gb394 hg w39 hbox hb; replace HO_6 := Aside0.mk (Kd.R_below (bR HO_6) hb); replace HO_8 := Aside0.mk (Kd.R_below (bR HO_8) hb); replace HO388 := Aside0.mk (Kd.R_below (bR HO388) hb); replace HO393 := Aside0.mk (Kd.R_below (bR HO393) hb); have BK394 := Aside0.mk (hbox); have GW394 := Aside0.mk ((z48 : w.heap.size ≤ gb394)); have GE394 := Aside0.mk ((z48 : w.heap.size ≤ gb394)); replace HB := Aside0.mk (below_step (bG2 GE379 GE389) hb); have NB379_394 := Aside0.mk ((z9 : gb379 ≠ gb394)); have NB394_379 := Aside0.mk ((z10 : gb394 ≠ gb379)); replace BK379 := Aside0.mk (blk_below (g := gb379) (o := .cells #[.int .i64 t377, .int .i64 t378] 33 (0, 0)) (bL BK379) hb); have NB389_394 := Aside0.mk ((z64 : gb389 ≠ gb394)); have NB394_389 := Aside0.mk ((z60 : gb394 ≠ gb389)); replace BK389 := Aside0.mk (blk_below (g := gb389) (o := .cells #[.int .i64 t385, .slice Ao36 t386.length co36] 26 (0, 0)) (bL BK389) hb); clear hb hbox hg; have hnb40 := NB394_379.out; have hnc40 := NB379_394.out; have hnb41 := NB394_389.out; have hnc41 := NB389_394.out; have hcz42_0 : w39.cell? ⟨gb394, 0, none⟩ = some (.int .i64 0) := (blk_cell BK394.out 0).trans rfl; have hcz42_1 : w39.cell? ⟨gb394, 1, none⟩ = some (.slice none 0 0) := (blk_cell BK394.out 1).trans rfl; have hfz42_0 := blk_frozen BK394.out 0; have hfz42_1 := blk_frozen BK394.out 1; obtain ⟨Ao43, co43, eo43⟩ := Kd.R_slice HO393.out; subst eo43; have p395 : 0 ≤ (3 : Int) := (by omega); have q395 : 3 < (t371.length : Int) := pI; obtain ⟨ad395, e395, hx395_0⟩ := Kd.at_string (Kd.R_reads' HO_6.out).2.2 3 p395 q395; obtain rfl : ad376 = ad395 := (by injection e395); (try simp only [show (3 : Int).toNat = 3 from rfl, Nat.reduceMul, Nat.reduceEqDiff, Go.Addr.add, ↓reduceIte] at hx395_0); have qi395 : (3 < t371.length) = True := eq_true (by omega); (try rw [show ((3 : Int)).toNat = 3 from rfl] at hx395_0); have hn395_0 : ad376.block ≠ gb394 := Kd.own_blk (Kd.R_ne HO_6.out BK394.out (by decide)); have hn395_1 : ad376.block ≠ gb394 := Kd.own_blk (Kd.R_ne HO_6.out BK394.out (by decide)); replace hx395_0 := (cell_far (p := ⟨gb394, 0, none⟩) z67 (.int .i64 t390)).trans hx395_0; replace hx395_0 := (cell_far (p := ⟨gb394, 1, none⟩) z69 (.slice Ao43 t391.length co43)).trans hx395_0; (try have hy395_0 := fun (n_ : Nat) => (show ((((w39.drewN n_).setCell ⟨gb394, 0, none⟩ (.int .i64 t390)).setCell ⟨gb394, 1, none⟩ (.slice Ao43 t391.length co43))).cell? _ = some _ from hx395_0)); clear hn395_0; clear hn395_1; replace p395 := eq_true p395; replace q395 := eq_true q395))
               repeat (go_quiet (first | (go_at_call 7; (with_reducible refine (impl_DecodeBase.calls kj16 (rdOf ByteArray.empty t371 2) t385 t386 _ A27.out).mono ?_); rintro e w32 ⟨v387, rfl, ho0, hb⟩; replace HO_6 := Aside0.mk (Kd.R_below (bR HO_6) hb); have HO388 := Aside0.mk (Kd.R_lower (Kd.R_new' ho0 (Kd.R_lt (bR HO_8))) (below_size (bG GE379))); replace HO_8 := Aside0.mk (Kd.R_elder' (bR HO_8) (Kd.R_base ho0) hb); replace BK379 := Aside0.mk (blk_below (g := gb379) (o := .cells #[.int .i64 t377, .int .i64 t378] 33 (0, 0)) (bL BK379) hb); replace HB := Aside0.mk (below_step (bG GE379) hb); (try clear ho0)) | ((with_reducible refine gate_dst (N := 9) rfl ?_); refine box_event ?hg (N := 9) ?hd (cs := #[.int .i64 0, .slice none 0 0]) (t := 26) ?hr ?_; (case hd => rfl); (case hg => rfl); (case hr => exact z11); intro gb389 hg w33 hbox hb; replace HO_6 := Aside0.mk (Kd.R_below (bR HO_6) hb); replace HO_8 := Aside0.mk (Kd.R_below (bR HO_8) hb); replace HO388 := Aside0.mk (Kd.R_below (bR HO388) hb); have BK389 := Aside0.mk (hbox); have GW389 := Aside0.mk ((z25 : w.heap.size ≤ gb389)); have GE389 := Aside0.mk ((z25 : w.heap.size ≤ gb389)); replace HB := Aside0.mk (below_step (bG GE379) hb); have NB379_389 := Aside0.mk ((z9 : gb379 ≠ gb389)); have NB389_379 := Aside0.mk ((z10 : gb389 ≠ gb379)); replace BK379 := Aside0.mk (blk_below (g := gb379) (o := .cells #[.int .i64 t377, .int .i64 t378] 33 (0, 0)) (bL BK379) hb); clear hb hbox hg; have hnb34 := NB389_379.out; have hnc34 := NB379_389.out; have hcz35_0 : w33.cell? ⟨gb389, 0, none⟩ = some (.int .i64 0) := (blk_cell BK389.out 0).trans rfl; have hcz35_1 : w33.cell? ⟨gb389, 1, none⟩ = some (.slice none 0 0) := (blk_cell BK389.out 1).trans rfl; have hfz35_0 := blk_frozen BK389.out 0; have hfz35_1 := blk_frozen BK389.out 1; obtain ⟨Ao36, co36, eo36⟩ := Kd.R_slice HO388.out; subst eo36; have hcz37_0 : w33.cell? ⟨gb379, 0, none⟩ = some (.int .i64 t377) := (blk_cell BK379.out 0).trans rfl; have hcz37_1 : w33.cell? ⟨gb379, 1, none⟩ = some (.int .i64 t378) := (blk_cell BK379.out 1).trans rfl; have hfz37_0 := blk_frozen BK379.out 0; have hfz37_1 := blk_frozen BK379.out 1) | (go_at_call 69; (with_reducible refine (impl_DecodeText.calls kj16 t378 _ _ t386 t390 t391 _ ?side1 ?side2 A28.out).mono ?_); (case side1 => exact z34 HO388.out BK389.out); (case side2 => exact (Kd.R_reads' HO388.out).2.1); rintro e w38 ⟨v392, rfl, ho0, hb⟩; replace HO_6 := Aside0.mk (Kd.R_below (z7 HO_6.out BK389.out) hb); replace HO_8 := Aside0.mk (Kd.R_below (z7 HO_8.out BK389.out) hb); replace HO388 := Aside0.mk (Kd.R_below (z7 HO388.out BK389.out) hb); have HO393 := Aside0.mk (Kd.R_lower ho0 (below_size (bG2 GE379 GE389))); replace BK379 := Aside0.mk (blk_below (g := gb379) (o := .cells #[.int .i64 t377, .int .i64 t378] 33 (0, 0)) (z1 NB379_389.out BK379.out) hb); replace BK389 := Aside0.mk (blk_below (g := gb389) (o := .cells #[.int .i64 t385, .slice Ao36 t386.length co36] 26 (0, 0)) (z5 BK389.out) hb); replace HB := Aside0.mk (below_step (bG2 GE379 GE389) hb); (try clear ho0)) | ((with_reducible refine gate_dst (N := 10) rfl ?_); refine box_event ?hg (N := 10) ?hd (cs := #[.int .i64 0, .slice none 0 0]) (t := 39) ?hr ?_; (case hd => rfl); (case hg => rfl); (case hr => exact z11); intro gb394 hg w39 hbox hb; replace HO_6 := Aside0.mk (Kd.R_below (bR HO_6) hb); replace HO_8 := Aside0.mk (Kd.R_below (bR HO_8) hb); replace HO388 := Aside0.mk (Kd.R_below (bR HO388) hb); replace HO393 := Aside0.mk (Kd.R_below (bR HO393) hb); have BK394 := Aside0.mk (hbox); have GW394 := Aside0.mk ((z48 : w.heap.size ≤ gb394)); have GE394 := Aside0.mk ((z48 : w.heap.size ≤ gb394)); replace HB := Aside0.mk (below_step (bG2 GE379 GE389) hb); have NB379_394 := Aside0.mk ((z9 : gb379 ≠ gb394)); have NB394_379 := Aside0.mk ((z10 : gb394 ≠ gb379)); replace BK379 := Aside0.mk (blk_below (g := gb379) (o := .cells #[.int .i64 t377, .int .i64 t378] 33 (0, 0)) (bL BK379) hb); have NB389_394 := Aside0.mk ((z64 : gb389 ≠ gb394)); have NB394_389 := Aside0.mk ((z60 : gb394 ≠ gb389)); replace BK389 := Aside0.mk (blk_below (g := gb389) (o := .cells #[.int .i64 t385, .slice Ao36 t386.length co36] 26 (0, 0)) (bL BK389) hb); clear hb hbox hg; have hnb40 := NB394_379.out; have hnc40 := NB379_394.out; have hnb41 := NB394_389.out; have hnc41 := NB389_394.out; have hcz42_0 : w39.cell? ⟨gb394, 0, none⟩ = some (.int .i64 0) := (blk_cell BK394.out 0).trans rfl; have hcz42_1 : w39.cell? ⟨gb394, 1, none⟩ = some (.slice none 0 0) := (blk_cell BK394.out 1).trans rfl; have hfz42_0 := blk_frozen BK394.out 0; have hfz42_1 := blk_frozen BK394.out 1; obtain ⟨Ao43, co43, eo43⟩ := Kd.R_slice HO393.out; subst eo43; have p395 : 0 ≤ (3 : Int) := (by omega); have q395 : 3 < (t371.length : Int) := pI; obtain ⟨ad395, e395, hx395_0⟩ := Kd.at_string (Kd.R_reads' HO_6.out).2.2 3 p395 q395; obtain rfl : ad376 = ad395 := (by injection e395); (try simp only [show (3 : Int).toNat = 3 from rfl, Nat.reduceMul, Nat.reduceEqDiff, Go.Addr.add, ↓reduceIte] at hx395_0); have qi395 : (3 < t371.length) = True := eq_true (by omega); (try rw [show ((3 : Int)).toNat = 3 from rfl] at hx395_0); have hn395_0 : ad376.block ≠ gb394 := Kd.own_blk (Kd.R_ne HO_6.out BK394.out (by decide)); have hn395_1 : ad376.block ≠ gb394 := Kd.own_blk (Kd.R_ne HO_6.out BK394.out (by decide)); replace hx395_0 := (cell_far (p := ⟨gb394, 0, none⟩) z67 (.int .i64 t390)).trans hx395_0; replace hx395_0 := (cell_far (p := ⟨gb394, 1, none⟩) z69 (.slice Ao43 t391.length co43)).trans hx395_0; (try have hy395_0 := fun (n_ : Nat) => (show ((((w39.drewN n_).setCell ⟨gb394, 0, none⟩ (.int .i64 t390)).setCell ⟨gb394, 1, none⟩ (.slice Ao43 t391.length co43))).cell? _ = some _ from hx395_0)); clear hn395_0; clear hn395_1; replace p395 := eq_true p395; replace q395 := eq_true q395)); try go_wp2_with (first | (go_at_call 7; (with_reducible refine (impl_DecodeBase.calls kj16 (rdOf ByteArray.empty t371 2) t385 t386 _ A27.out).mono ?_); rintro e w32 ⟨v387, rfl, ho0, hb⟩; replace HO_6 := Aside0.mk (Kd.R_below (bR HO_6) hb); have HO388 := Aside0.mk (Kd.R_lower (Kd.R_new' ho0 (Kd.R_lt (bR HO_8))) (below_size (bG GE379))); replace HO_8 := Aside0.mk (Kd.R_elder' (bR HO_8) (Kd.R_base ho0) hb); replace BK379 := Aside0.mk (blk_below (g := gb379) (o := .cells #[.int .i64 t377, .int .i64 t378] 33 (0, 0)) (bL BK379) hb); replace HB := Aside0.mk (below_step (bG GE379) hb); (try clear ho0)) | ((with_reducible refine gate_dst (N := 9) rfl ?_); refine box_event ?hg (N := 9) ?hd (cs := #[.int .i64 0, .slice none 0 0]) (t := 26) ?hr ?_; (case hd => rfl); (case hg => rfl); (case hr => exact z11); intro gb389 hg w33 hbox hb; replace HO_6 := Aside0.mk (Kd.R_below (bR HO_6) hb); replace HO_8 := Aside0.mk (Kd.R_below (bR HO_8) hb); replace HO388 := Aside0.mk (Kd.R_below (bR HO388) hb); have BK389 := Aside0.mk (hbox); have GW389 := Aside0.mk ((z25 : w.heap.size ≤ gb389)); have GE389 := Aside0.mk ((z25 : w.heap.size ≤ gb389)); replace HB := Aside0.mk (below_step (bG GE379) hb); have NB379_389 := Aside0.mk ((z9 : gb379 ≠ gb389)); have NB389_379 := Aside0.mk ((z10 : gb389 ≠ gb379)); replace BK379 := Aside0.mk (blk_below (g := gb379) (o := .cells #[.int .i64 t377, .int .i64 t378] 33 (0, 0)) (bL BK379) hb); clear hb hbox hg; have hnb34 := NB389_379.out; have hnc34 := NB379_389.out; have hcz35_0 : w33.cell? ⟨gb389, 0, none⟩ = some (.int .i64 0) := (blk_cell BK389.out 0).trans rfl; have hcz35_1 : w33.cell? ⟨gb389, 1, none⟩ = some (.slice none 0 0) := (blk_cell BK389.out 1).trans rfl; have hfz35_0 := blk_frozen BK389.out 0; have hfz35_1 := blk_frozen BK389.out 1; obtain ⟨Ao36, co36, eo36⟩ := Kd.R_slice HO388.out; subst eo36; have hcz37_0 : w33.cell? ⟨gb379, 0, none⟩ = some (.int .i64 t377) := (blk_cell BK379.out 0).trans rfl; have hcz37_1 : w33.cell? ⟨gb379, 1, none⟩ = some (.int .i64 t378) := (blk_cell BK379.out 1).trans rfl; have hfz37_0 := blk_frozen BK379.out 0; have hfz37_1 := blk_frozen BK379.out 1) | (go_at_call 69; (with_reducible refine (impl_DecodeText.calls kj16 t378 _ _ t386 t390 t391 _ ?side1 ?side2 A28.out).mono ?_); (case side1 => exact z34 HO388.out BK389.out); (case side2 => exact (Kd.R_reads' HO388.out).2.1); rintro e w38 ⟨v392, rfl, ho0, hb⟩; replace HO_6 := Aside0.mk (Kd.R_below (z7 HO_6.out BK389.out) hb); replace HO_8 := Aside0.mk (Kd.R_below (z7 HO_8.out BK389.out) hb); replace HO388 := Aside0.mk (Kd.R_below (z7 HO388.out BK389.out) hb); have HO393 := Aside0.mk (Kd.R_lower ho0 (below_size (bG2 GE379 GE389))); replace BK379 := Aside0.mk (blk_below (g := gb379) (o := .cells #[.int .i64 t377, .int .i64 t378] 33 (0, 0)) (z1 NB379_389.out BK379.out) hb); replace BK389 := Aside0.mk (blk_below (g := gb389) (o := .cells #[.int .i64 t385, .slice Ao36 t386.length co36] 26 (0, 0)) (z5 BK389.out) hb); replace HB := Aside0.mk (below_step (bG2 GE379 GE389) hb); (try clear ho0)) | ((with_reducible refine gate_dst (N := 10) rfl ?_); refine box_event ?hg (N := 10) ?hd (cs := #[.int .i64 0, .slice none 0 0]) (t := 39) ?hr ?_; (case hd => rfl); (case hg => rfl); (case hr => exact z11); intro gb394 hg w39 hbox hb; replace HO_6 := Aside0.mk (Kd.R_below (bR HO_6) hb); replace HO_8 := Aside0.mk (Kd.R_below (bR HO_8) hb); replace HO388 := Aside0.mk (Kd.R_below (bR HO388) hb); replace HO393 := Aside0.mk (Kd.R_below (bR HO393) hb); have BK394 := Aside0.mk (hbox); have GW394 := Aside0.mk ((z48 : w.heap.size ≤ gb394)); have GE394 := Aside0.mk ((z48 : w.heap.size ≤ gb394)); replace HB := Aside0.mk (below_step (bG2 GE379 GE389) hb); have NB379_394 := Aside0.mk ((z9 : gb379 ≠ gb394)); have NB394_379 := Aside0.mk ((z10 : gb394 ≠ gb379)); replace BK379 := Aside0.mk (blk_below (g := gb379) (o := .cells #[.int .i64 t377, .int .i64 t378] 33 (0, 0)) (bL BK379) hb); have NB389_394 := Aside0.mk ((z64 : gb389 ≠ gb394)); have NB394_389 := Aside0.mk ((z60 : gb394 ≠ gb389)); replace BK389 := Aside0.mk (blk_below (g := gb389) (o := .cells #[.int .i64 t385, .slice Ao36 t386.length co36] 26 (0, 0)) (bL BK389) hb); clear hb hbox hg; have hnb40 := NB394_379.out; have hnc40 := NB379_394.out; have hnb41 := NB394_389.out; have hnc41 := NB389_394.out; have hcz42_0 : w39.cell? ⟨gb394, 0, none⟩ = some (.int .i64 0) := (blk_cell BK394.out 0).trans rfl; have hcz42_1 : w39.cell? ⟨gb394, 1, none⟩ = some (.slice none 0 0) := (blk_cell BK394.out 1).trans rfl; have hfz42_0 := blk_frozen BK394.out 0; have hfz42_1 := blk_frozen BK394.out 1; obtain ⟨Ao43, co43, eo43⟩ := Kd.R_slice HO393.out; subst eo43; have p395 : 0 ≤ (3 : Int) := (by omega); have q395 : 3 < (t371.length : Int) := pI; obtain ⟨ad395, e395, hx395_0⟩ := Kd.at_string (Kd.R_reads' HO_6.out).2.2 3 p395 q395; obtain rfl : ad376 = ad395 := (by injection e395); (try simp only [show (3 : Int).toNat = 3 from rfl, Nat.reduceMul, Nat.reduceEqDiff, Go.Addr.add, ↓reduceIte] at hx395_0); have qi395 : (3 < t371.length) = True := eq_true (by omega); (try rw [show ((3 : Int)).toNat = 3 from rfl] at hx395_0); have hn395_0 : ad376.block ≠ gb394 := Kd.own_blk (Kd.R_ne HO_6.out BK394.out (by decide)); have hn395_1 : ad376.block ≠ gb394 := Kd.own_blk (Kd.R_ne HO_6.out BK394.out (by decide)); replace hx395_0 := (cell_far (p := ⟨gb394, 0, none⟩) z67 (.int .i64 t390)).trans hx395_0; replace hx395_0 := (cell_far (p := ⟨gb394, 1, none⟩) z69 (.slice Ao43 t391.length co43)).trans hx395_0; (try have hy395_0 := fun (n_ : Nat) => (show ((((w39.drewN n_).setCell ⟨gb394, 0, none⟩ (.int .i64 t390)).setCell ⟨gb394, 1, none⟩ (.slice Ao43 t391.length co43))).cell? _ = some _ from hx395_0)); clear hn395_0; clear hn395_1; replace p395 := eq_true p395; replace q395 := eq_true q395)))
               go_ret2
               exact ⟨_, bE, by (with_reducible repeat (first | apply Kd.R_alloc | apply Kd.R_drewN | apply Kd.R_drew)); exact Kd.R_mono (Kd.R_far (p := ⟨gb394, 1, none⟩) (Kd.R_far (p := ⟨gb394, 0, none⟩) (Kd.R_types HO393.out BK394.out (by decide)) (fun _ hk => hk.2) (.int .i64 t390)) (fun _ hk => hk.2) (.slice Ao43 t391.length co43)) (fun _ hk => trivial), z17 GE379.out GE389.out GE394.out⟩
              ·rw [if_neg c31] at H
               exact absurd H (by simp)
             ·rw [if_neg c30] at H
              have c30b0 : (t390 == 0) = false := beq_eq_false_iff_ne.mpr c30
              have c30b1 : (t390 != 0) = true := bne_iff_ne.mpr c30
              simp only [Option.some.injEq, Prod.mk.injEq] at H
              obtain ⟨rfl, rfl⟩ := H
              (try simp only [c30b0, c30b1])
              go_wp2_with (first | (go_at_call 7; (with_reducible refine (impl_DecodeBase.calls kj16 (rdOf ByteArray.empty t371 2) t385 t386 _ A27.out).mono ?_); rintro e w44 ⟨v387, rfl, ho0, hb⟩; replace HO_6 := Aside0.mk (Kd.R_below (bR HO_6) hb); have HO388 := Aside0.mk (Kd.R_lower (Kd.R_new' ho0 (Kd.R_lt (bR HO_8))) (below_size (bG GE379))); replace HO_8 := Aside0.mk (Kd.R_elder' (bR HO_8) (Kd.R_base ho0) hb); replace BK379 := Aside0.mk (blk_below (g := gb379) (o := .cells #[.int .i64 t377, .int .i64 t378] 33 (0, 0)) (bL BK379) hb); replace HB := Aside0.mk (below_step (bG GE379) hb); (try clear ho0)) | ((with_reducible refine gate_dst (N := 9) rfl ?_); refine box_event ?hg (N := 9) ?hd (cs := #[.int .i64 0, .slice none 0 0]) (t := 26) ?hr ?_; (case hd => rfl); (case hg => rfl); (case hr => exact z11); intro gb389 hg w45 hbox hb; replace HO_6 := Aside0.mk (Kd.R_below (bR HO_6) hb); replace HO_8 := Aside0.mk (Kd.R_below (bR HO_8) hb); replace HO388 := Aside0.mk (Kd.R_below (bR HO388) hb); have BK389 := Aside0.mk (hbox); have GW389 := Aside0.mk ((z25 : w.heap.size ≤ gb389)); have GE389 := Aside0.mk ((z25 : w.heap.size ≤ gb389)); replace HB := Aside0.mk (below_step (bG GE379) hb); have NB379_389 := Aside0.mk ((z9 : gb379 ≠ gb389)); have NB389_379 := Aside0.mk ((z10 : gb389 ≠ gb379)); replace BK379 := Aside0.mk (blk_below (g := gb379) (o := .cells #[.int .i64 t377, .int .i64 t378] 33 (0, 0)) (bL BK379) hb); clear hb hbox hg; have hnb46 := NB389_379.out; have hnc46 := NB379_389.out; have hcz47_0 : w45.cell? ⟨gb389, 0, none⟩ = some (.int .i64 0) := (blk_cell BK389.out 0).trans rfl; have hcz47_1 : w45.cell? ⟨gb389, 1, none⟩ = some (.slice none 0 0) := (blk_cell BK389.out 1).trans rfl; have hfz47_0 := blk_frozen BK389.out 0; have hfz47_1 := blk_frozen BK389.out 1; obtain ⟨Ao48, co48, eo48⟩ := Kd.R_slice HO388.out; subst eo48; have hcz49_0 : w45.cell? ⟨gb379, 0, none⟩ = some (.int .i64 t377) := (blk_cell BK379.out 0).trans rfl; have hcz49_1 : w45.cell? ⟨gb379, 1, none⟩ = some (.int .i64 t378) := (blk_cell BK379.out 1).trans rfl; have hfz49_0 := blk_frozen BK379.out 0; have hfz49_1 := blk_frozen BK379.out 1) | (go_at_call 69; (with_reducible refine (impl_DecodeText.calls kj16 t378 _ _ t386 t390 t391 _ ?side1 ?side2 A28.out).mono ?_); (case side1 => exact z33 HO388.out BK389.out); (case side2 => exact (Kd.R_reads' HO388.out).2.1); rintro e w50 ⟨v392, rfl, ho0, hb⟩; replace HO_6 := Aside0.mk (Kd.R_below (z8 HO_6.out BK389.out) hb); replace HO_8 := Aside0.mk (Kd.R_below (z8 HO_8.out BK389.out) hb); replace HO388 := Aside0.mk (Kd.R_below (z8 HO388.out BK389.out) hb); have HO393 := Aside0.mk (Kd.R_lower ho0 (below_size (bG2 GE379 GE389))); replace BK379 := Aside0.mk (blk_below (g := gb379) (o := .cells #[.int .i64 t377, .int .i64 t378] 33 (0, 0)) (z1 NB379_389.out BK379.out) hb); replace BK389 := Aside0.mk (blk_below (g := gb389) (o := .cells #[.int .i64 t385, .slice Ao48 t386.length co48] 26 (0, 0)) (z5 BK389.out) hb); replace HB := Aside0.mk (below_step (bG2 GE379 GE389) hb); (try clear ho0)) | ((with_reducible refine gate_dst (N := 10) rfl ?_); refine box_event ?hg (N := 10) ?hd (cs := #[.int .i64 0, .slice none 0 0]) (t := 39) ?hr ?_; (case hd => rfl); (case hg => rfl); (case hr => exact z11); intro gb394 hg w51 hbox hb; replace HO_6 := Aside0.mk (Kd.R_below (bR HO_6) hb); replace HO_8 := Aside0.mk (Kd.R_below (bR HO_8) hb); replace HO388 := Aside0.mk (Kd.R_below (bR HO388) hb); replace HO393 := Aside0.mk (Kd.R_below (bR HO393) hb); have BK394 := Aside0.mk (hbox); have GW394 := Aside0.mk ((z48 : w.heap.size ≤ gb394)); have GE394 := Aside0.mk ((z48 : w.heap.size ≤ gb394)); replace HB := Aside0.mk (below_step (bG2 GE379 GE389) hb); have NB379_394 := Aside0.mk ((z9 : gb379 ≠ gb394)); have NB394_379 := Aside0.mk ((z10 : gb394 ≠ gb379)); replace BK379 := Aside0.mk (blk_below (g := gb379) (o := .cells #[.int .i64 t377, .int .i64 t378] 33 (0, 0)) (bL BK379) hb); have NB389_394 := Aside0.mk ((z63 : gb389 ≠ gb394)); have NB394_389 := Aside0.mk ((z59 : gb394 ≠ gb389)); replace BK389 := Aside0.mk (blk_below (g := gb389) (o := .cells #[.int .i64 t385, .slice Ao48 t386.length co48] 26 (0, 0)) (bL BK389) hb); clear hb hbox hg; have hnb52 := NB394_379.out; have hnc52 := NB379_394.out; have hnb53 := NB394_389.out; have hnc53 := NB389_394.out; have hcz54_0 : w51.cell? ⟨gb394, 0, none⟩ = some (.int .i64 0) := (blk_cell BK394.out 0).trans rfl; have hcz54_1 : w51.cell? ⟨gb394, 1, none⟩ = some (.slice none 0 0) := (blk_cell BK394.out 1).trans rfl; have hfz54_0 := blk_frozen BK394.out 0; have hfz54_1 := blk_frozen BK394.out 1; obtain ⟨Ao55, co55, eo55⟩ := Kd.R_slice HO393.out; subst eo55))
              repeat (go_quiet (first | (go_at_call 7; (with_reducible refine (impl_DecodeBase.calls kj16 (rdOf ByteArray.empty t371 2) t385 t386 _ A27.out).mono ?_); rintro e w44 ⟨v387, rfl, ho0, hb⟩; replace HO_6 := Aside0.mk (Kd.R_below (bR HO_6) hb); have HO388 := Aside0.mk (Kd.R_lower (Kd.R_new' ho0 (Kd.R_lt (bR HO_8))) (below_size (bG GE379))); replace HO_8 := Aside0.mk (Kd.R_elder' (bR HO_8) (Kd.R_base ho0) hb); replace BK379 := Aside0.mk (blk_below (g := gb379) (o := .cells #[.int .i64 t377, .int .i64 t378] 33 (0, 0)) (bL BK379) hb); replace HB := Aside0.mk (below_step (bG GE379) hb); (try clear ho0)) | ((with_reducible refine gate_dst (N := 9) rfl ?_); refine box_event ?hg (N := 9) ?hd (cs := #[.int .i64 0, .slice none 0 0]) (t := 26) ?hr ?_; (case hd => rfl); (case hg => rfl); (case hr => exact z11); intro gb389 hg w45 hbox hb; replace HO_6 := Aside0.mk (Kd.R_below (bR HO_6) hb); replace HO_8 := Aside0.mk (Kd.R_below (bR HO_8) hb); replace HO388 := Aside0.mk (Kd.R_below (bR HO388) hb); have BK389 := Aside0.mk (hbox); have GW389 := Aside0.mk ((z25 : w.heap.size ≤ gb389)); have GE389 := Aside0.mk ((z25 : w.heap.size ≤ gb389)); replace HB := Aside0.mk (below_step (bG GE379) hb); have NB379_389 := Aside0.mk ((z9 : gb379 ≠ gb389)); have NB389_379 := Aside0.mk ((z10 : gb389 ≠ gb379)); replace BK379 := Aside0.mk (blk_below (g := gb379) (o := .cells #[.int .i64 t377, .int .i64 t378] 33 (0, 0)) (bL BK379) hb); clear hb hbox hg; have hnb46 := NB389_379.out; have hnc46 := NB379_389.out; have hcz47_0 : w45.cell? ⟨gb389, 0, none⟩ = some (.int .i64 0) := (blk_cell BK389.out 0).trans rfl; have hcz47_1 : w45.cell? ⟨gb389, 1, none⟩ = some (.slice none 0 0) := (blk_cell BK389.out 1).trans rfl; have hfz47_0 := blk_frozen BK389.out 0; have hfz47_1 := blk_frozen BK389.out 1; obtain ⟨Ao48, co48, eo48⟩ := Kd.R_slice HO388.out; subst eo48; have hcz49_0 : w45.cell? ⟨gb379, 0, none⟩ = some (.int .i64 t377) := (blk_cell BK379.out 0).trans rfl; have hcz49_1 : w45.cell? ⟨gb379, 1, none⟩ = some (.int .i64 t378) := (blk_cell BK379.out 1).trans rfl; have hfz49_0 := blk_frozen BK379.out 0; have hfz49_1 := blk_frozen BK379.out 1) | (go_at_call 69; (with_reducible refine (impl_DecodeText.calls kj16 t378 _ _ t386 t390 t391 _ ?side1 ?side2 A28.out).mono ?_); (case side1 => exact z33 HO388.out BK389.out); (case side2 => exact (Kd.R_reads' HO388.out).2.1); rintro e w50 ⟨v392, rfl, ho0, hb⟩; replace HO_6 := Aside0.mk (Kd.R_below (z8 HO_6.out BK389.out) hb); replace HO_8 := Aside0.mk (Kd.R_below (z8 HO_8.out BK389.out) hb); replace HO388 := Aside0.mk (Kd.R_below (z8 HO388.out BK389.out) hb); have HO393 := Aside0.mk (Kd.R_lower ho0 (below_size (bG2 GE379 GE389))); replace BK379 := Aside0.mk (blk_below (g := gb379) (o := .cells #[.int .i64 t377, .int .i64 t378] 33 (0, 0)) (z1 NB379_389.out BK379.out) hb); replace BK389 := Aside0.mk (blk_below (g := gb389) (o := .cells #[.int .i64 t385, .slice Ao48 t386.length co48] 26 (0, 0)) (z5 BK389.out) hb); replace HB := Aside0.mk (below_step (bG2 GE379 GE389) hb); (try clear ho0)) | ((with_reducible refine gate_dst (N := 10) rfl ?_); refine box_event ?hg (N := 10) ?hd (cs := #[.int .i64 0, .slice none 0 0]) (t := 39) ?hr ?_; (case hd => rfl); (case hg => rfl); (case hr => exact z11); intro gb394 hg w51 hbox hb; replace HO_6 := Aside0.mk (Kd.R_below (bR HO_6) hb); replace HO_8 := Aside0.mk (Kd.R_below (bR HO_8) hb); replace HO388 := Aside0.mk (Kd.R_below (bR HO388) hb); replace HO393 := Aside0.mk (Kd.R_below (bR HO393) hb); have BK394 := Aside0.mk (hbox); have GW394 := Aside0.mk ((z48 : w.heap.size ≤ gb394)); have GE394 := Aside0.mk ((z48 : w.heap.size ≤ gb394)); replace HB := Aside0.mk (below_step (bG2 GE379 GE389) hb); have NB379_394 := Aside0.mk ((z9 : gb379 ≠ gb394)); have NB394_379 := Aside0.mk ((z10 : gb394 ≠ gb379)); replace BK379 := Aside0.mk (blk_below (g := gb379) (o := .cells #[.int .i64 t377, .int .i64 t378] 33 (0, 0)) (bL BK379) hb); have NB389_394 := Aside0.mk ((z63 : gb389 ≠ gb394)); have NB394_389 := Aside0.mk ((z59 : gb394 ≠ gb389)); replace BK389 := Aside0.mk (blk_below (g := gb389) (o := .cells #[.int .i64 t385, .slice Ao48 t386.length co48] 26 (0, 0)) (bL BK389) hb); clear hb hbox hg; have hnb52 := NB394_379.out; have hnc52 := NB379_394.out; have hnb53 := NB394_389.out; have hnc53 := NB389_394.out; have hcz54_0 : w51.cell? ⟨gb394, 0, none⟩ = some (.int .i64 0) := (blk_cell BK394.out 0).trans rfl; have hcz54_1 : w51.cell? ⟨gb394, 1, none⟩ = some (.slice none 0 0) := (blk_cell BK394.out 1).trans rfl; have hfz54_0 := blk_frozen BK394.out 0; have hfz54_1 := blk_frozen BK394.out 1; obtain ⟨Ao55, co55, eo55⟩ := Kd.R_slice HO393.out; subst eo55)); try go_wp2_with (first | (go_at_call 7; (with_reducible refine (impl_DecodeBase.calls kj16 (rdOf ByteArray.empty t371 2) t385 t386 _ A27.out).mono ?_); rintro e w44 ⟨v387, rfl, ho0, hb⟩; replace HO_6 := Aside0.mk (Kd.R_below (bR HO_6) hb); have HO388 := Aside0.mk (Kd.R_lower (Kd.R_new' ho0 (Kd.R_lt (bR HO_8))) (below_size (bG GE379))); replace HO_8 := Aside0.mk (Kd.R_elder' (bR HO_8) (Kd.R_base ho0) hb); replace BK379 := Aside0.mk (blk_below (g := gb379) (o := .cells #[.int .i64 t377, .int .i64 t378] 33 (0, 0)) (bL BK379) hb); replace HB := Aside0.mk (below_step (bG GE379) hb); (try clear ho0)) | ((with_reducible refine gate_dst (N := 9) rfl ?_); refine box_event ?hg (N := 9) ?hd (cs := #[.int .i64 0, .slice none 0 0]) (t := 26) ?hr ?_; (case hd => rfl); (case hg => rfl); (case hr => exact z11); intro gb389 hg w45 hbox hb; replace HO_6 := Aside0.mk (Kd.R_below (bR HO_6) hb); replace HO_8 := Aside0.mk (Kd.R_below (bR HO_8) hb); replace HO388 := Aside0.mk (Kd.R_below (bR HO388) hb); have BK389 := Aside0.mk (hbox); have GW389 := Aside0.mk ((z25 : w.heap.size ≤ gb389)); have GE389 := Aside0.mk ((z25 : w.heap.size ≤ gb389)); replace HB := Aside0.mk (below_step (bG GE379) hb); have NB379_389 := Aside0.mk ((z9 : gb379 ≠ gb389)); have NB389_379 := Aside0.mk ((z10 : gb389 ≠ gb379)); replace BK379 := Aside0.mk (blk_below (g := gb379) (o := .cells #[.int .i64 t377, .int .i64 t378] 33 (0, 0)) (bL BK379) hb); clear hb hbox hg; have hnb46 := NB389_379.out; have hnc46 := NB379_389.out; have hcz47_0 : w45.cell? ⟨gb389, 0, none⟩ = some (.int .i64 0) := (blk_cell BK389.out 0).trans rfl; have hcz47_1 : w45.cell? ⟨gb389, 1, none⟩ = some (.slice none 0 0) := (blk_cell BK389.out 1).trans rfl; have hfz47_0 := blk_frozen BK389.out 0; have hfz47_1 := blk_frozen BK389.out 1; obtain ⟨Ao48, co48, eo48⟩ := Kd.R_slice HO388.out; subst eo48; have hcz49_0 : w45.cell? ⟨gb379, 0, none⟩ = some (.int .i64 t377) := (blk_cell BK379.out 0).trans rfl; have hcz49_1 : w45.cell? ⟨gb379, 1, none⟩ = some (.int .i64 t378) := (blk_cell BK379.out 1).trans rfl; have hfz49_0 := blk_frozen BK379.out 0; have hfz49_1 := blk_frozen BK379.out 1) | (go_at_call 69; (with_reducible refine (impl_DecodeText.calls kj16 t378 _ _ t386 t390 t391 _ ?side1 ?side2 A28.out).mono ?_); (case side1 => exact z33 HO388.out BK389.out); (case side2 => exact (Kd.R_reads' HO388.out).2.1); rintro e w50 ⟨v392, rfl, ho0, hb⟩; replace HO_6 := Aside0.mk (Kd.R_below (z8 HO_6.out BK389.out) hb); replace HO_8 := Aside0.mk (Kd.R_below (z8 HO_8.out BK389.out) hb); replace HO388 := Aside0.mk (Kd.R_below (z8 HO388.out BK389.out) hb); have HO393 := Aside0.mk (Kd.R_lower ho0 (below_size (bG2 GE379 GE389))); replace BK379 := Aside0.mk (blk_below (g := gb379) (o := .cells #[.int .i64 t377, .int .i64 t378] 33 (0, 0)) (z1 NB379_389.out BK379.out) hb); replace BK389 := Aside0.mk (blk_below (g := gb389) (o := .cells #[.int .i64 t385, .slice Ao48 t386.length co48] 26 (0, 0)) (z5 BK389.out) hb); replace HB := Aside0.mk (below_step (bG2 GE379 GE389) hb); (try clear ho0)) | ((with_reducible refine gate_dst (N := 10) rfl ?_); refine box_event ?hg (N := 10) ?hd (cs := #[.int .i64 0, .slice none 0 0]) (t := 39) ?hr ?_; (case hd => rfl); (case hg => rfl); (case hr => exact z11); intro gb394 hg w51 hbox hb; replace HO_6 := Aside0.mk (Kd.R_below (bR HO_6) hb); replace HO_8 := Aside0.mk (Kd.R_below (bR HO_8) hb); replace HO388 := Aside0.mk (Kd.R_below (bR HO388) hb); replace HO393 := Aside0.mk (Kd.R_below (bR HO393) hb); have BK394 := Aside0.mk (hbox); have GW394 := Aside0.mk ((z48 : w.heap.size ≤ gb394)); have GE394 := Aside0.mk ((z48 : w.heap.size ≤ gb394)); replace HB := Aside0.mk (below_step (bG2 GE379 GE389) hb); have NB379_394 := Aside0.mk ((z9 : gb379 ≠ gb394)); have NB394_379 := Aside0.mk ((z10 : gb394 ≠ gb379)); replace BK379 := Aside0.mk (blk_below (g := gb379) (o := .cells #[.int .i64 t377, .int .i64 t378] 33 (0, 0)) (bL BK379) hb); have NB389_394 := Aside0.mk ((z63 : gb389 ≠ gb394)); have NB394_389 := Aside0.mk ((z59 : gb394 ≠ gb389)); replace BK389 := Aside0.mk (blk_below (g := gb389) (o := .cells #[.int .i64 t385, .slice Ao48 t386.length co48] 26 (0, 0)) (bL BK389) hb); clear hb hbox hg; have hnb52 := NB394_379.out; have hnc52 := NB379_394.out; have hnb53 := NB394_389.out; have hnc53 := NB389_394.out; have hcz54_0 : w51.cell? ⟨gb394, 0, none⟩ = some (.int .i64 0) := (blk_cell BK394.out 0).trans rfl; have hcz54_1 : w51.cell? ⟨gb394, 1, none⟩ = some (.slice none 0 0) := (blk_cell BK394.out 1).trans rfl; have hfz54_0 := blk_frozen BK394.out 0; have hfz54_1 := blk_frozen BK394.out 1; obtain ⟨Ao55, co55, eo55⟩ := Kd.R_slice HO393.out; subst eo55)))
              go_ret2
              exact ⟨_, bE, z4, z17 GE379.out GE389.out GE394.out⟩
            ·rw [if_neg c29] at H
             have c29b0 : (t385 == 0) = false := beq_eq_false_iff_ne.mpr c29
             have c29b1 : (t385 != 0) = true := bne_iff_ne.mpr c29
             simp only [Option.some.injEq, Prod.mk.injEq] at H
             obtain ⟨rfl, rfl⟩ := H
             (try simp only [c29b0, c29b1])
             go_wp2_with (first | (go_at_call 7; (with_reducible refine (impl_DecodeBase.calls kj16 (rdOf ByteArray.empty t371 2) t385 t386 _ A27.out).mono ?_); rintro e w56 ⟨v387, rfl, ho0, hb⟩; replace HO_6 := Aside0.mk (Kd.R_below (bR HO_6) hb); have HO388 := Aside0.mk (Kd.R_lower (Kd.R_new' ho0 (Kd.R_lt (bR HO_8))) (below_size (bG GE379))); replace HO_8 := Aside0.mk (Kd.R_elder' (bR HO_8) (Kd.R_base ho0) hb); replace BK379 := Aside0.mk (blk_below (g := gb379) (o := .cells #[.int .i64 t377, .int .i64 t378] 33 (0, 0)) (bL BK379) hb); replace HB := Aside0.mk (below_step (bG GE379) hb); (try clear ho0)) | ((with_reducible refine gate_dst (N := 9) rfl ?_); refine box_event ?hg (N := 9) ?hd (cs := #[.int .i64 0, .slice none 0 0]) (t := 26) ?hr ?_; (case hd => rfl); (case hg => rfl); (case hr => exact z11); intro gb389 hg w57 hbox hb; replace HO_6 := Aside0.mk (Kd.R_below (bR HO_6) hb); replace HO_8 := Aside0.mk (Kd.R_below (bR HO_8) hb); replace HO388 := Aside0.mk (Kd.R_below (bR HO388) hb); have BK389 := Aside0.mk (hbox); have GW389 := Aside0.mk ((z25 : w.heap.size ≤ gb389)); have GE389 := Aside0.mk ((z25 : w.heap.size ≤ gb389)); replace HB := Aside0.mk (below_step (bG GE379) hb); have NB379_389 := Aside0.mk ((z9 : gb379 ≠ gb389)); have NB389_379 := Aside0.mk ((z10 : gb389 ≠ gb379)); replace BK379 := Aside0.mk (blk_below (g := gb379) (o := .cells #[.int .i64 t377, .int .i64 t378] 33 (0, 0)) (bL BK379) hb); clear hb hbox hg; have hnb58 := NB389_379.out; have hnc58 := NB379_389.out; have hcz59_0 : w57.cell? ⟨gb389, 0, none⟩ = some (.int .i64 0) := (blk_cell BK389.out 0).trans rfl; have hcz59_1 : w57.cell? ⟨gb389, 1, none⟩ = some (.slice none 0 0) := (blk_cell BK389.out 1).trans rfl; have hfz59_0 := blk_frozen BK389.out 0; have hfz59_1 := blk_frozen BK389.out 1; obtain ⟨Ao60, co60, eo60⟩ := Kd.R_slice HO388.out; subst eo60; have hcz61_0 : w57.cell? ⟨gb379, 0, none⟩ = some (.int .i64 t377) := (blk_cell BK379.out 0).trans rfl; have hcz61_1 : w57.cell? ⟨gb379, 1, none⟩ = some (.int .i64 t378) := (blk_cell BK379.out 1).trans rfl; have hfz61_0 := blk_frozen BK379.out 0; have hfz61_1 := blk_frozen BK379.out 1) | (go_at_call 69; (with_reducible refine (impl_DecodeText.calls kj16 t378 _ _ t386 t390 t391 _ ?side1 ?side2 A28.out).mono ?_); (case side1 => exact z35 HO388.out BK389.out); (case side2 => exact (Kd.R_reads' HO388.out).2.1); rintro e w62 ⟨v392, rfl, ho0, hb⟩; replace HO_6 := Aside0.mk (Kd.R_below (z6 HO_6.out BK389.out) hb); replace HO_8 := Aside0.mk (Kd.R_below (z6 HO_8.out BK389.out) hb); replace HO388 := Aside0.mk (Kd.R_below (z6 HO388.out BK389.out) hb); have HO393 := Aside0.mk (Kd.R_lower ho0 (below_size (bG2 GE379 GE389))); replace BK379 := Aside0.mk (blk_below (g := gb379) (o := .cells #[.int .i64 t377, .int .i64 t378] 33 (0, 0)) (z1 NB379_389.out BK379.out) hb); replace BK389 := Aside0.mk (blk_below (g := gb389) (o := .cells #[.int .i64 t385, .slice Ao60 t386.length co60] 26 (0, 0)) (z5 BK389.out) hb); replace HB := Aside0.mk (below_step (bG2 GE379 GE389) hb); (try clear ho0)) | ((with_reducible refine gate_dst (N := 10) rfl ?_); refine box_event ?hg (N := 10) ?hd (cs := #[.int .i64 0, .slice none 0 0]) (t := 39) ?hr ?_; (case hd => rfl); (case hg => rfl); (case hr => exact z11); intro gb394 hg w63 hbox hb; replace HO_6 := Aside0.mk (Kd.R_below (bR HO_6) hb); replace HO_8 := Aside0.mk (Kd.R_below (bR HO_8) hb); replace HO388 := Aside0.mk (Kd.R_below (bR HO388) hb); replace HO393 := Aside0.mk (Kd.R_below (bR HO393) hb); have BK394 := Aside0.mk (hbox); have GW394 := Aside0.mk ((z48 : w.heap.size ≤ gb394)); have GE394 := Aside0.mk ((z48 : w.heap.size ≤ gb394)); replace HB := Aside0.mk (below_step (bG2 GE379 GE389) hb); have NB379_394 := Aside0.mk ((z9 : gb379 ≠ gb394)); have NB394_379 := Aside0.mk ((z10 : gb394 ≠ gb379)); replace BK379 := Aside0.mk (blk_below (g := gb379) (o := .cells #[.int .i64 t377, .int .i64 t378] 33 (0, 0)) (bL BK379) hb); have NB389_394 := Aside0.mk ((z62 : gb389 ≠ gb394)); have NB394_389 := Aside0.mk ((z61 : gb394 ≠ gb389)); replace BK389 := Aside0.mk (blk_below (g := gb389) (o := .cells #[.int .i64 t385, .slice Ao60 t386.length co60] 26 (0, 0)) (bL BK389) hb); clear hb hbox hg; have hnb64 := NB394_379.out; have hnc64 := NB379_394.out; have hnb65 := NB394_389.out; have hnc65 := NB389_394.out; have hcz66_0 : w63.cell? ⟨gb394, 0, none⟩ = some (.int .i64 0) := (blk_cell BK394.out 0).trans rfl; have hcz66_1 : w63.cell? ⟨gb394, 1, none⟩ = some (.slice none 0 0) := (blk_cell BK394.out 1).trans rfl; have hfz66_0 := blk_frozen BK394.out 0; have hfz66_1 := blk_frozen BK394.out 1; obtain ⟨Ao67, co67, eo67⟩ := Kd.R_slice HO393.out; subst eo67))
             repeat (go_quiet (first | (go_at_call 7; (with_reducible refine (impl_DecodeBase.calls kj16 (rdOf ByteArray.empty t371 2) t385 t386 _ A27.out).mono ?_); rintro e w56 ⟨v387, rfl, ho0, hb⟩; replace HO_6 := Aside0.mk (Kd.R_below (bR HO_6) hb); have HO388 := Aside0.mk (Kd.R_lower (Kd.R_new' ho0 (Kd.R_lt (bR HO_8))) (below_size (bG GE379))); replace HO_8 := Aside0.mk (Kd.R_elder' (bR HO_8) (Kd.R_base ho0) hb); replace BK379 := Aside0.mk (blk_below (g := gb379) (o := .cells #[.int .i64 t377, .int .i64 t378] 33 (0, 0)) (bL BK379) hb); replace HB := Aside0.mk (below_step (bG GE379) hb); (try clear ho0)) | ((with_reducible refine gate_dst (N := 9) rfl ?_); refine box_event ?hg (N := 9) ?hd (cs := #[.int .i64 0, .slice none 0 0]) (t := 26) ?hr ?_; (case hd => rfl); (case hg => rfl); (case hr => exact z11); intro gb389 hg w57 hbox hb; replace HO_6 := Aside0.mk (Kd.R_below (bR HO_6) hb); replace HO_8 := Aside0.mk (Kd.R_below (bR HO_8) hb); replace HO388 := Aside0.mk (Kd.R_below (bR HO388) hb); have BK389 := Aside0.mk (hbox); have GW389 := Aside0.mk ((z25 : w.heap.size ≤ gb389)); have GE389 := Aside0.mk ((z25 : w.heap.size ≤ gb389)); replace HB := Aside0.mk (below_step (bG GE379) hb); have NB379_389 := Aside0.mk ((z9 : gb379 ≠ gb389)); have NB389_379 := Aside0.mk ((z10 : gb389 ≠ gb379)); replace BK379 := Aside0.mk (blk_below (g := gb379) (o := .cells #[.int .i64 t377, .int .i64 t378] 33 (0, 0)) (bL BK379) hb); clear hb hbox hg; have hnb58 := NB389_379.out; have hnc58 := NB379_389.out; have hcz59_0 : w57.cell? ⟨gb389, 0, none⟩ = some (.int .i64 0) := (blk_cell BK389.out 0).trans rfl; have hcz59_1 : w57.cell? ⟨gb389, 1, none⟩ = some (.slice none 0 0) := (blk_cell BK389.out 1).trans rfl; have hfz59_0 := blk_frozen BK389.out 0; have hfz59_1 := blk_frozen BK389.out 1; obtain ⟨Ao60, co60, eo60⟩ := Kd.R_slice HO388.out; subst eo60; have hcz61_0 : w57.cell? ⟨gb379, 0, none⟩ = some (.int .i64 t377) := (blk_cell BK379.out 0).trans rfl; have hcz61_1 : w57.cell? ⟨gb379, 1, none⟩ = some (.int .i64 t378) := (blk_cell BK379.out 1).trans rfl; have hfz61_0 := blk_frozen BK379.out 0; have hfz61_1 := blk_frozen BK379.out 1) | (go_at_call 69; (with_reducible refine (impl_DecodeText.calls kj16 t378 _ _ t386 t390 t391 _ ?side1 ?side2 A28.out).mono ?_); (case side1 => exact z35 HO388.out BK389.out); (case side2 => exact (Kd.R_reads' HO388.out).2.1); rintro e w62 ⟨v392, rfl, ho0, hb⟩; replace HO_6 := Aside0.mk (Kd.R_below (z6 HO_6.out BK389.out) hb); replace HO_8 := Aside0.mk (Kd.R_below (z6 HO_8.out BK389.out) hb); replace HO388 := Aside0.mk (Kd.R_below (z6 HO388.out BK389.out) hb); have HO393 := Aside0.mk (Kd.R_lower ho0 (below_size (bG2 GE379 GE389))); replace BK379 := Aside0.mk (blk_below (g := gb379) (o := .cells #[.int .i64 t377, .int .i64 t378] 33 (0, 0)) (z1 NB379_389.out BK379.out) hb); replace BK389 := Aside0.mk (blk_below (g := gb389) (o := .cells #[.int .i64 t385, .slice Ao60 t386.length co60] 26 (0, 0)) (z5 BK389.out) hb); replace HB := Aside0.mk (below_step (bG2 GE379 GE389) hb); (try clear ho0)) | ((with_reducible refine gate_dst (N := 10) rfl ?_); refine box_event ?hg (N := 10) ?hd (cs := #[.int .i64 0, .slice none 0 0]) (t := 39) ?hr ?_; (case hd => rfl); (case hg => rfl); (case hr => exact z11); intro gb394 hg w63 hbox hb; replace HO_6 := Aside0.mk (Kd.R_below (bR HO_6) hb); replace HO_8 := Aside0.mk (Kd.R_below (bR HO_8) hb); replace HO388 := Aside0.mk (Kd.R_below (bR HO388) hb); replace HO393 := Aside0.mk (Kd.R_below (bR HO393) hb); have BK394 := Aside0.mk (hbox); have GW394 := Aside0.mk ((z48 : w.heap.size ≤ gb394)); have GE394 := Aside0.mk ((z48 : w.heap.size ≤ gb394)); replace HB := Aside0.mk (below_step (bG2 GE379 GE389) hb); have NB379_394 := Aside0.mk ((z9 : gb379 ≠ gb394)); have NB394_379 := Aside0.mk ((z10 : gb394 ≠ gb379)); replace BK379 := Aside0.mk (blk_below (g := gb379) (o := .cells #[.int .i64 t377, .int .i64 t378] 33 (0, 0)) (bL BK379) hb); have NB389_394 := Aside0.mk ((z62 : gb389 ≠ gb394)); have NB394_389 := Aside0.mk ((z61 : gb394 ≠ gb389)); replace BK389 := Aside0.mk (blk_below (g := gb389) (o := .cells #[.int .i64 t385, .slice Ao60 t386.length co60] 26 (0, 0)) (bL BK389) hb); clear hb hbox hg; have hnb64 := NB394_379.out; have hnc64 := NB379_394.out; have hnb65 := NB394_389.out; have hnc65 := NB389_394.out; have hcz66_0 : w63.cell? ⟨gb394, 0, none⟩ = some (.int .i64 0) := (blk_cell BK394.out 0).trans rfl; have hcz66_1 : w63.cell? ⟨gb394, 1, none⟩ = some (.slice none 0 0) := (blk_cell BK394.out 1).trans rfl; have hfz66_0 := blk_frozen BK394.out 0; have hfz66_1 := blk_frozen BK394.out 1; obtain ⟨Ao67, co67, eo67⟩ := Kd.R_slice HO393.out; subst eo67)); try go_wp2_with (first | (go_at_call 7; (with_reducible refine (impl_DecodeBase.calls kj16 (rdOf ByteArray.empty t371 2) t385 t386 _ A27.out).mono ?_); rintro e w56 ⟨v387, rfl, ho0, hb⟩; replace HO_6 := Aside0.mk (Kd.R_below (bR HO_6) hb); have HO388 := Aside0.mk (Kd.R_lower (Kd.R_new' ho0 (Kd.R_lt (bR HO_8))) (below_size (bG GE379))); replace HO_8 := Aside0.mk (Kd.R_elder' (bR HO_8) (Kd.R_base ho0) hb); replace BK379 := Aside0.mk (blk_below (g := gb379) (o := .cells #[.int .i64 t377, .int .i64 t378] 33 (0, 0)) (bL BK379) hb); replace HB := Aside0.mk (below_step (bG GE379) hb); (try clear ho0)) | ((with_reducible refine gate_dst (N := 9) rfl ?_); refine box_event ?hg (N := 9) ?hd (cs := #[.int .i64 0, .slice none 0 0]) (t := 26) ?hr ?_; (case hd => rfl); (case hg => rfl); (case hr => exact z11); intro gb389 hg w57 hbox hb; replace HO_6 := Aside0.mk (Kd.R_below (bR HO_6) hb); replace HO_8 := Aside0.mk (Kd.R_below (bR HO_8) hb); replace HO388 := Aside0.mk (Kd.R_below (bR HO388) hb); have BK389 := Aside0.mk (hbox); have GW389 := Aside0.mk ((z25 : w.heap.size ≤ gb389)); have GE389 := Aside0.mk ((z25 : w.heap.size ≤ gb389)); replace HB := Aside0.mk (below_step (bG GE379) hb); have NB379_389 := Aside0.mk ((z9 : gb379 ≠ gb389)); have NB389_379 := Aside0.mk ((z10 : gb389 ≠ gb379)); replace BK379 := Aside0.mk (blk_below (g := gb379) (o := .cells #[.int .i64 t377, .int .i64 t378] 33 (0, 0)) (bL BK379) hb); clear hb hbox hg; have hnb58 := NB389_379.out; have hnc58 := NB379_389.out; have hcz59_0 : w57.cell? ⟨gb389, 0, none⟩ = some (.int .i64 0) := (blk_cell BK389.out 0).trans rfl; have hcz59_1 : w57.cell? ⟨gb389, 1, none⟩ = some (.slice none 0 0) := (blk_cell BK389.out 1).trans rfl; have hfz59_0 := blk_frozen BK389.out 0; have hfz59_1 := blk_frozen BK389.out 1; obtain ⟨Ao60, co60, eo60⟩ := Kd.R_slice HO388.out; subst eo60; have hcz61_0 : w57.cell? ⟨gb379, 0, none⟩ = some (.int .i64 t377) := (blk_cell BK379.out 0).trans rfl; have hcz61_1 : w57.cell? ⟨gb379, 1, none⟩ = some (.int .i64 t378) := (blk_cell BK379.out 1).trans rfl; have hfz61_0 := blk_frozen BK379.out 0; have hfz61_1 := blk_frozen BK379.out 1) | (go_at_call 69; (with_reducible refine (impl_DecodeText.calls kj16 t378 _ _ t386 t390 t391 _ ?side1 ?side2 A28.out).mono ?_); (case side1 => exact z35 HO388.out BK389.out); (case side2 => exact (Kd.R_reads' HO388.out).2.1); rintro e w62 ⟨v392, rfl, ho0, hb⟩; replace HO_6 := Aside0.mk (Kd.R_below (z6 HO_6.out BK389.out) hb); replace HO_8 := Aside0.mk (Kd.R_below (z6 HO_8.out BK389.out) hb); replace HO388 := Aside0.mk (Kd.R_below (z6 HO388.out BK389.out) hb); have HO393 := Aside0.mk (Kd.R_lower ho0 (below_size (bG2 GE379 GE389))); replace BK379 := Aside0.mk (blk_below (g := gb379) (o := .cells #[.int .i64 t377, .int .i64 t378] 33 (0, 0)) (z1 NB379_389.out BK379.out) hb); replace BK389 := Aside0.mk (blk_below (g := gb389) (o := .cells #[.int .i64 t385, .slice Ao60 t386.length co60] 26 (0, 0)) (z5 BK389.out) hb); replace HB := Aside0.mk (below_step (bG2 GE379 GE389) hb); (try clear ho0)) | ((with_reducible refine gate_dst (N := 10) rfl ?_); refine box_event ?hg (N := 10) ?hd (cs := #[.int .i64 0, .slice none 0 0]) (t := 39) ?hr ?_; (case hd => rfl); (case hg => rfl); (case hr => exact z11); intro gb394 hg w63 hbox hb; replace HO_6 := Aside0.mk (Kd.R_below (bR HO_6) hb); replace HO_8 := Aside0.mk (Kd.R_below (bR HO_8) hb); replace HO388 := Aside0.mk (Kd.R_below (bR HO388) hb); replace HO393 := Aside0.mk (Kd.R_below (bR HO393) hb); have BK394 := Aside0.mk (hbox); have GW394 := Aside0.mk ((z48 : w.heap.size ≤ gb394)); have GE394 := Aside0.mk ((z48 : w.heap.size ≤ gb394)); replace HB := Aside0.mk (below_step (bG2 GE379 GE389) hb); have NB379_394 := Aside0.mk ((z9 : gb379 ≠ gb394)); have NB394_379 := Aside0.mk ((z10 : gb394 ≠ gb379)); replace BK379 := Aside0.mk (blk_below (g := gb379) (o := .cells #[.int .i64 t377, .int .i64 t378] 33 (0, 0)) (bL BK379) hb); have NB389_394 := Aside0.mk ((z62 : gb389 ≠ gb394)); have NB394_389 := Aside0.mk ((z61 : gb394 ≠ gb389)); replace BK389 := Aside0.mk (blk_below (g := gb389) (o := .cells #[.int .i64 t385, .slice Ao60 t386.length co60] 26 (0, 0)) (bL BK389) hb); clear hb hbox hg; have hnb64 := NB394_379.out; have hnc64 := NB379_394.out; have hnb65 := NB394_389.out; have hnc65 := NB389_394.out; have hcz66_0 : w63.cell? ⟨gb394, 0, none⟩ = some (.int .i64 0) := (blk_cell BK394.out 0).trans rfl; have hcz66_1 : w63.cell? ⟨gb394, 1, none⟩ = some (.slice none 0 0) := (blk_cell BK394.out 1).trans rfl; have hfz66_0 := blk_frozen BK394.out 0; have hfz66_1 := blk_frozen BK394.out 1; obtain ⟨Ao67, co67, eo67⟩ := Kd.R_slice HO393.out; subst eo67)))
             go_ret2
             exact ⟨_, bE, z4, z17 GE379.out GE389.out GE394.out⟩
           ·rw [if_neg c26] at H
            exact absurd H (by simp)
          ·replace c25 := Bool.eq_false_iff.mpr c25
           subst c25
           have H1 : (if (rdOf ByteArray.empty t371 1).toList = ([81] : List UInt8) then (impl_toldWord.j2 kj16 a0 t371 y380 ((rdOf ByteArray.empty t371 1).toList == ([81] : List UInt8)) t377 t378) else (impl_toldWord.j2 kj16 a0 t371 y380 ((rdOf ByteArray.empty t371 1).toList == ([113] : List UInt8)) t377 t378)) = some (r1, r2) := z14
           clear H
           have H := H1
           clear H1
           have HC68 := Aside0.mk H
           clear H
           go_upto_if 53 with (fail)
           repeat (go_quiet (fail); go_upto_if 53 with (fail))
           go_cut [53] (fun v53 wc => ∃ (kq : Nat) (x53_67 : Bool), v53 = .bool x53_67 ∧ Aside0 (impl_toldWord.j2 kq a0 t371 y380 x53_67 t377 t378 = some (r1, r2)) ∧ Aside0 (kq ≤ kj16) ∧ Aside0 (Kd.R Kd.string 9 wc w.heap.size (fun _ => True) (.slice (some ad376) t371.length co18) t371) ∧ Aside0 (Kd.R (Kd.int .u8) 5 wc w.heap.size (fun _ => True) v381 y380) ∧ Aside0 (wc.heap[gb379]? = some (.cells #[.int .i64 t377, .int .i64 t378] 33 (0, 0))) ∧ Aside0 (Below w.heap.size w wc))
           case first =>
            have H := HC68.out
            clear HC68
            by_cases c69 : (rdOf ByteArray.empty t371 1).toList = ([81] : List UInt8)
            ·rw [if_pos c69] at H
             have c69b0 : ((rdOf ByteArray.empty t371 1).toList == ([81] : List UInt8)) = true := beq_iff_eq.mpr c69
             have c69b1 : ((rdOf ByteArray.empty t371 1).toList != ([81] : List UInt8)) = false := bne_eq_false_iff_eq.mpr c69
             clear c69
             (first | rw [c69b0] | (simp only [i64_w, i32_w]; rw [c69b0]) | skip)
             have H' := Aside0.mk H
             clear H
             go_wp2
             repeat (go_quiet (fail); try go_wp2)
             go_meet
             case rel => exact ⟨_, (((rdOf ByteArray.empty t371 1).toList == ([81] : List UInt8))), bS, H', ⟨z37 HJ4.out HJ16.out⟩, ⟨bR HO_6⟩, ⟨bR HO_8⟩, ⟨bL BK379⟩, ⟨bG GE379⟩⟩
            ·rw [if_neg c69] at H
             have c69b0 : ((rdOf ByteArray.empty t371 1).toList == ([81] : List UInt8)) = false := beq_eq_false_iff_ne.mpr c69
             have c69b1 : ((rdOf ByteArray.empty t371 1).toList != ([81] : List UInt8)) = true := bne_iff_ne.mpr c69
             (first | rw [c69b0] | (simp only [i64_w, i32_w]; rw [c69b0]) | skip)
             have H' := Aside0.mk H
             clear H
             go_wp2
             repeat (go_quiet (fail); try go_wp2)
             go_meet
             case rel => exact ⟨_, (((rdOf ByteArray.empty t371 1).toList == ([113] : List UInt8))), bS, H', ⟨z37 HJ4.out HJ16.out⟩, ⟨bR HO_6⟩, ⟨bR HO_8⟩, ⟨bL BK379⟩, ⟨bG GE379⟩⟩
           case rest =>
            clear HC68
            try clear c1
            try clear c2
            try clear p2
            try clear c3
            try clear p3
            try clear q3
            try clear hx3
            try clear qi3
            try clear c4
            try clear c5
            try clear c6
            try clear p6
            try clear c7
            try clear c7b0
            try clear c7b1
            try clear c8
            try clear c8b0
            try clear c8b1
            try clear c12
            try clear c13
            try clear c13b0
            try clear c13b1
            try clear c15
            try clear c15b0
            try clear c15b1
            try clear c16
            try clear c16b0
            try clear c16b1
            try clear c24
            try clear c24b0
            try clear c24b1
            try clear c25
            try clear c26
            try clear c26b0
            try clear c26b1
            try clear c29
            try clear c29b0
            try clear c29b1
            try clear c30
            try clear c30b0
            try clear c30b1
            try clear c31
            try clear c31b0
            try clear c31b1
            try clear c34
            try clear p37
            try clear q37
            try clear hx37
            try clear qi37
            try clear p38
            try clear q38
            try clear hx38
            try clear qi38
            try clear p39
            try clear q39
            try clear hx39
            try clear qi39
            try clear c40
            try clear c41
            try clear c46
            try clear c50
            try clear c52
            try clear c53
            try clear c58
            try clear c64
            try clear p64
            try clear c65
            try clear c69
            try clear c69b0
            try clear c69b1
            try clear hcz21_0
            try clear hcz21_1
            try clear hcz35_0
            try clear hcz35_1
            try clear hcz37_0
            try clear hcz37_1
            try clear hcz42_0
            try clear hcz42_1
            try clear hcz47_0
            try clear hcz47_1
            try clear hcz49_0
            try clear hcz49_1
            try clear hcz54_0
            try clear hcz54_1
            try clear hcz59_0
            try clear hcz59_1
            try clear hcz61_0
            try clear hcz61_1
            try clear hcz66_0
            try clear hcz66_1
            try clear hfz21_0
            try clear hfz21_1
            try clear hfz35_0
            try clear hfz35_1
            try clear hfz37_0
            try clear hfz37_1
            try clear hfz42_0
            try clear hfz42_1
            try clear hfz47_0
            try clear hfz47_1
            try clear hfz49_0
            try clear hfz49_1
            try clear hfz54_0
            try clear hfz54_1
            try clear hfz59_0
            try clear hfz59_1
            try clear hfz61_0
            try clear hfz61_1
            try clear hfz66_0
            try clear hfz66_1
            try clear hx374_0
            try clear hx376_0
            try clear hx383_0
            try clear hx384_0
            try clear hx395_0
            try clear p2
            try clear p3
            try clear p374
            try clear p376
            try clear p383
            try clear p384
            try clear p395
            try clear q3
            try clear q374
            try clear q376
            try clear q383
            try clear q384
            try clear q395
            obtain ⟨kq, x53_67, rfl, HA, HJ67, HO_6, HO_8, BK379, HB⟩ := hcut
            cases kq with
            | zero => exact absurd HA.out (by simp [impl_toldWord.j2])
            | succ kj67 =>
             have H := HA.out
             clear HA
             simp only [impl_toldWord.j2] at H
             by_cases c70 : x53_67 = true
             ·subst c70
              have H1 : (if 2 < (t371.length : Int) then ((impl_quotedWord.f kj67 (rdOf ByteArray.empty t371 2)).bind fun bt397 => ((impl_DecodeText.f kj67 t378 bt397.1).bind fun bt401 => (if bt397.2 = true then (if bt401.1 = 0 then (if 3 < (t371.length : Int) then (some (bt401.2, wrap64 ((wrap64 ((a0.size : Int) - ((rdOf ByteArray.empty t371 3).size : Int))) + 1))) else (none)) else (some (([] : List Int), 0))) else (some (([] : List Int), 0))))) else (none)) = some (r1, r2) := z31
              clear H
              have H := H1
              clear H1
              by_cases c71 : 2 < (t371.length : Int)
              ·rw [if_pos c71] at H
               have c71b0 : decide (2 < (t371.length : Int)) = true := decide_eq_true c71
               have c71b1 : decide (2 < t371.length) = true := decide_eq_true (by omega)
               clear c71
               replace H := Option.bind_eq_some_iff.mp H
               obtain ⟨⟨t397, t398⟩, A720, H⟩ := H
               replace H : ((impl_DecodeText.f kj67 t378 t397).bind fun bt401 => (if t398 = true then (if bt401.1 = 0 then (if 3 < (t371.length : Int) then (some (bt401.2, wrap64 ((wrap64 ((a0.size : Int) - ((rdOf ByteArray.empty t371 3).size : Int))) + 1))) else (none)) else (some (([] : List Int), 0))) else (some (([] : List Int), 0)))) = some (r1, r2) := H
               have A72 := Aside0.mk A720
               clear A720
               replace H := Option.bind_eq_some_iff.mp H
               obtain ⟨⟨t401, t402⟩, A730, H⟩ := H
               replace H : (if t398 = true then (if t401 = 0 then (if 3 < (t371.length : Int) then (some (t402, wrap64 ((wrap64 ((a0.size : Int) - ((rdOf ByteArray.empty t371 3).size : Int))) + 1))) else (none)) else (some (([] : List Int), 0))) else (some (([] : List Int), 0))) = some (r1, r2) := H
               have A73 := Aside0.mk A730
               clear A730
               have HQ_ := Aside0.mk H
               clear H
               have p396 : 0 ≤ (2 : Int) := (by omega)
               have q396 : 2 < (t371.length : Int) := pI
               obtain ⟨ad396, e396, hx396_0⟩ := Kd.at_string (Kd.R_reads' HO_6.out).2.2 2 p396 q396
               obtain rfl : ad376 = ad396 := (by injection e396)
               (try simp only [show (2 : Int).toNat = 2 from rfl, Nat.reduceMul, Nat.reduceEqDiff, Go.Addr.add, ↓reduceIte] at hx396_0)
               have qi396 : (2 < t371.length) = True := eq_true (by omega)
               (try rw [show ((2 : Int)).toNat = 2 from rfl] at hx396_0)
               replace p396 := eq_true p396
               replace q396 := eq_true q396
               have H := HQ_.out
               clear HQ_
               by_cases c74 : t398 = true
               ·subst c74
                have H1 : (if t401 = 0 then (if 3 < (t371.length : Int) then (some (t402, wrap64 ((wrap64 ((a0.size : Int) - ((rdOf ByteArray.empty t371 3).size : Int))) + 1))) else (none)) else (some (([] : List Int), 0))) = some (r1, r2) := z31
                clear H
                have H := H1
                clear H1
                by_cases c75 : t401 = 0
                ·rw [if_pos c75] at H
                 have c75b0 : (t401 == 0) = true := beq_iff_eq.mpr c75
                 have c75b1 : (t401 != 0) = false := bne_eq_false_iff_eq.mpr c75
                 clear c75
                 (try simp only [c75b0, c75b1])
                 by_cases c76 : 3 < (t371.length : Int)
                 ·rw [if_pos c76] at H
                  have c76b0 : decide (3 < (t371.length : Int)) = true := decide_eq_true c76
                  have c76b1 : decide (3 < t371.length) = true := decide_eq_true (by omega)
                  clear c76
                  simp only [Option.some.injEq, Prod.mk.injEq] at H
                  obtain ⟨rfl, rfl⟩ := H
                  go_wp2_with (first | (go_at_call 68; (with_reducible refine (impl_quotedWord.calls kj67 (rdOf ByteArray.empty t371 2) t397 true _ A72.out).mono ?_); rintro e w77 ⟨v399, rfl, ho0, hb⟩; replace HO_6 := Aside0.mk (Kd.R_below (bR HO_6) hb); have HO400 := Aside0.mk (Kd.R_lower (Kd.R_new' ho0 (Kd.R_lt (bR HO_8))) (below_size (bG GE379))); replace HO_8 := Aside0.mk (Kd.R_elder' (bR HO_8) (Kd.R_base ho0) hb); replace BK379 := Aside0.mk (blk_below (g := gb379) (o := .cells #[.int .i64 t377, .int .i64 t378] 33 (0, 0)) (bL BK379) hb); replace HB := Aside0.mk (below_step (bG GE379) hb); (try clear ho0); have hcz78_0 : w77.cell? ⟨gb379, 0, none⟩ = some (.int .i64 t377) := (blk_cell BK379.out 0).trans rfl; have hcz78_1 : w77.cell? ⟨gb379, 1, none⟩ = some (.int .i64 t378) := (blk_cell BK379.out 1).trans rfl; have hfz78_0 := blk_frozen BK379.out 0; have hfz78_1 := blk_frozen BK379.out 1; obtain ⟨Ao79, co79, eo79⟩ := Kd.R_slice HO400.out; subst eo79) | (go_at_call 69; (with_reducible refine (impl_DecodeText.calls kj67 t378 _ _ t397 t401 t402 _ ?side1 ?side2 A73.out).mono ?_); (case side1 => exact z3 HO400.out); (case side2 => exact (Kd.R_reads' HO400.out).2.1); rintro e w80 ⟨v403, rfl, ho0, hb⟩; replace HO_6 := Aside0.mk (Kd.R_below (bR HO_6) hb); replace HO_8 := Aside0.mk (Kd.R_below (bR HO_8) hb); replace HO400 := Aside0.mk (Kd.R_below (bR HO400) hb); have HO404 := Aside0.mk (Kd.R_lower ho0 (below_size (bG GE379))); replace BK379 := Aside0.mk (blk_below (g := gb379) (o := .cells #[.int .i64 t377, .int .i64 t378] 33 (0, 0)) (bL BK379) hb); replace HB := Aside0.mk (below_step (bG GE379) hb); (try clear ho0)) | ((with_reducible refine gate_dst (N := 10) rfl ?_); refine box_event ?hg (N := 10) ?hd (cs := #[.int .i64 0, .slice none 0 0]) (t := 39) ?hr ?_; (case hd => rfl); (case hg => rfl); (case hr => exact z11); intro gb405 hg w81 hbox hb; replace HO_6 := Aside0.mk (Kd.R_below (bR HO_6) hb); replace HO_8 := Aside0.mk (Kd.R_below (bR HO_8) hb); replace HO400 := Aside0.mk (Kd.R_below (bR HO400) hb); replace HO404 := Aside0.mk (Kd.R_below (bR HO404) hb); have BK405 := Aside0.mk (hbox); have GW405 := Aside0.mk ((z25 : w.heap.size ≤ gb405)); have GE405 := Aside0.mk ((z25 : w.heap.size ≤ gb405)); replace HB := Aside0.mk (below_step (bG GE379) hb); have NB379_405 := Aside0.mk ((z9 : gb379 ≠ gb405)); have NB405_379 := Aside0.mk ((z10 : gb405 ≠ gb379)); replace BK379 := Aside0.mk (blk_below (g := gb379) (o := .cells #[.int .i64 t377, .int .i64 t378] 33 (0, 0)) (bL BK379) hb); clear hb hbox hg; have hnb82 := NB405_379.out; have hnc82 := NB379_405.out; have hcz83_0 : w81.cell? ⟨gb405, 0, none⟩ = some (.int .i64 0) := (blk_cell BK405.out 0).trans rfl; have hcz83_1 : w81.cell? ⟨gb405, 1, none⟩ = some (.slice none 0 0) := (blk_cell BK405.out 1).trans rfl; have hfz83_0 := blk_frozen BK405.out 0; have hfz83_1 := blk_frozen BK405.out 1; obtain ⟨Ao84, co84, eo84⟩ := Kd.R_slice HO404.out; subst eo84; have p406 : 0 ≤ (3 : Int) := (by omega); have q406 : 3 < (t371.length : Int) := pI; obtain ⟨ad406, e406, hx406_0⟩ := Kd.at_string (Kd.R_reads' HO_6.out).2.2 3 p406 q406; obtain rfl : ad376 = ad406 := (by injection e406); (try simp only [show (3 : Int).toNat = 3 from rfl, Nat.reduceMul, Nat.reduceEqDiff, Go.Addr.add, ↓reduceIte] at hx406_0); have qi406 : (3 < t371.length) = True := eq_true (by omega); (try rw [show ((3 : Int)).toNat = 3 from rfl] at hx406_0); have hn406_0 : ad376.block ≠ gb405 := Kd.own_blk (Kd.R_ne HO_6.out BK405.out (by decide)); have hn406_1 : ad376.block ≠ gb405 := Kd.own_blk (Kd.R_ne HO_6.out BK405.out (by decide)); replace hx406_0 := (cell_far (p := ⟨gb405, 0, none⟩) z70 (.int .i64 t401)).trans hx406_0; replace hx406_0 := (cell_far (p := ⟨gb405, 1, none⟩) z68 (.slice Ao84 t402.length co84)).trans hx406_0; (try have hy406_0 := fun (n_ : Nat) => (show ((((w81.drewN n_).setCell ⟨gb405, 0, none⟩ (.int .i64 t401)).setCell ⟨gb405, 1, none⟩ (.slice Ao84 t402.length co84))).cell? _ = some _ from hx406_0)); clear hn406_0; clear hn406_1; replace p406 := eq_true p406; replace q406 := eq_true q406))
                  repeat (go_quiet (first | (go_at_call 68; (with_reducible refine (impl_quotedWord.calls kj67 (rdOf ByteArray.empty t371 2) t397 true _ A72.out).mono ?_); rintro e w77 ⟨v399, rfl, ho0, hb⟩; replace HO_6 := Aside0.mk (Kd.R_below (bR HO_6) hb); have HO400 := Aside0.mk (Kd.R_lower (Kd.R_new' ho0 (Kd.R_lt (bR HO_8))) (below_size (bG GE379))); replace HO_8 := Aside0.mk (Kd.R_elder' (bR HO_8) (Kd.R_base ho0) hb); replace BK379 := Aside0.mk (blk_below (g := gb379) (o := .cells #[.int .i64 t377, .int .i64 t378] 33 (0, 0)) (bL BK379) hb); replace HB := Aside0.mk (below_step (bG GE379) hb); (try clear ho0); have hcz78_0 : w77.cell? ⟨gb379, 0, none⟩ = some (.int .i64 t377) := (blk_cell BK379.out 0).trans rfl; have hcz78_1 : w77.cell? ⟨gb379, 1, none⟩ = some (.int .i64 t378) := (blk_cell BK379.out 1).trans rfl; have hfz78_0 := blk_frozen BK379.out 0; have hfz78_1 := blk_frozen BK379.out 1; obtain ⟨Ao79, co79, eo79⟩ := Kd.R_slice HO400.out; subst eo79) | (go_at_call 69; (with_reducible refine (impl_DecodeText.calls kj67 t378 _ _ t397 t401 t402 _ ?side1 ?side2 A73.out).mono ?_); (case side1 => exact z3 HO400.out); (case side2 => exact (Kd.R_reads' HO400.out).2.1); rintro e w80 ⟨v403, rfl, ho0, hb⟩; replace HO_6 := Aside0.mk (Kd.R_below (bR HO_6) hb); replace HO_8 := Aside0.mk (Kd.R_below (bR HO_8) hb); replace HO400 := Aside0.mk (Kd.R_below (bR HO400) hb); have HO404 := Aside0.mk (Kd.R_lower ho0 (below_size (bG GE379))); replace BK379 := Aside0.mk (blk_below (g := gb379) (o := .cells #[.int .i64 t377, .int .i64 t378] 33 (0, 0)) (bL BK379) hb); replace HB := Aside0.mk (below_step (bG GE379) hb); (try clear ho0)) | ((with_reducible refine gate_dst (N := 10) rfl ?_); refine box_event ?hg (N := 10) ?hd (cs := #[.int .i64 0, .slice none 0 0]) (t := 39) ?hr ?_; (case hd => rfl); (case hg => rfl); (case hr => exact z11); intro gb405 hg w81 hbox hb; replace HO_6 := Aside0.mk (Kd.R_below (bR HO_6) hb); replace HO_8 := Aside0.mk (Kd.R_below (bR HO_8) hb); replace HO400 := Aside0.mk (Kd.R_below (bR HO400) hb); replace HO404 := Aside0.mk (Kd.R_below (bR HO404) hb); have BK405 := Aside0.mk (hbox); have GW405 := Aside0.mk ((z25 : w.heap.size ≤ gb405)); have GE405 := Aside0.mk ((z25 : w.heap.size ≤ gb405)); replace HB := Aside0.mk (below_step (bG GE379) hb); have NB379_405 := Aside0.mk ((z9 : gb379 ≠ gb405)); have NB405_379 := Aside0.mk ((z10 : gb405 ≠ gb379)); replace BK379 := Aside0.mk (blk_below (g := gb379) (o := .cells #[.int .i64 t377, .int .i64 t378] 33 (0, 0)) (bL BK379) hb); clear hb hbox hg; have hnb82 := NB405_379.out; have hnc82 := NB379_405.out; have hcz83_0 : w81.cell? ⟨gb405, 0, none⟩ = some (.int .i64 0) := (blk_cell BK405.out 0).trans rfl; have hcz83_1 : w81.cell? ⟨gb405, 1, none⟩ = some (.slice none 0 0) := (blk_cell BK405.out 1).trans rfl; have hfz83_0 := blk_frozen BK405.out 0; have hfz83_1 := blk_frozen BK405.out 1; obtain ⟨Ao84, co84, eo84⟩ := Kd.R_slice HO404.out; subst eo84; have p406 : 0 ≤ (3 : Int) := (by omega); have q406 : 3 < (t371.length : Int) := pI; obtain ⟨ad406, e406, hx406_0⟩ := Kd.at_string (Kd.R_reads' HO_6.out).2.2 3 p406 q406; obtain rfl : ad376 = ad406 := (by injection e406); (try simp only [show (3 : Int).toNat = 3 from rfl, Nat.reduceMul, Nat.reduceEqDiff, Go.Addr.add, ↓reduceIte] at hx406_0); have qi406 : (3 < t371.length) = True := eq_true (by omega); (try rw [show ((3 : Int)).toNat = 3 from rfl] at hx406_0); have hn406_0 : ad376.block ≠ gb405 := Kd.own_blk (Kd.R_ne HO_6.out BK405.out (by decide)); have hn406_1 : ad376.block ≠ gb405 := Kd.own_blk (Kd.R_ne HO_6.out BK405.out (by decide)); replace hx406_0 := (cell_far (p := ⟨gb405, 0, none⟩) z70 (.int .i64 t401)).trans hx406_0; replace hx406_0 := (cell_far (p := ⟨gb405, 1, none⟩) z68 (.slice Ao84 t402.length co84)).trans hx406_0; (try have hy406_0 := fun (n_ : Nat) => (show ((((w81.drewN n_).setCell ⟨gb405, 0, none⟩ (.int .i64 t401)).setCell ⟨gb405, 1, none⟩ (.slice Ao84 t402.length co84))).cell? _ = some _ from hx406_0)); clear hn406_0; clear hn406_1; replace p406 := eq_true p406; replace q406 := eq_true q406)); try go_wp2_with (first | (go_at_call 68; (with_reducible refine (impl_quotedWord.calls kj67 (rdOf ByteArray.empty t371 2) t397 true _ A72.out).mono ?_); rintro e w77 ⟨v399, rfl, ho0, hb⟩; replace HO_6 := Aside0.mk (Kd.R_below (bR HO_6) hb); have HO400 := Aside0.mk (Kd.R_lower (Kd.R_new' ho0 (Kd.R_lt (bR HO_8))) (below_size (bG GE379))); replace HO_8 := Aside0.mk (Kd.R_elder' (bR HO_8) (Kd.R_base ho0) hb); replace BK379 := Aside0.mk (blk_below (g := gb379) (o := .cells #[.int .i64 t377, .int .i64 t378] 33 (0, 0)) (bL BK379) hb); replace HB := Aside0.mk (below_step (bG GE379) hb); (try clear ho0); have hcz78_0 : w77.cell? ⟨gb379, 0, none⟩ = some (.int .i64 t377) := (blk_cell BK379.out 0).trans rfl; have hcz78_1 : w77.cell? ⟨gb379, 1, none⟩ = some (.int .i64 t378) := (blk_cell BK379.out 1).trans rfl; have hfz78_0 := blk_frozen BK379.out 0; have hfz78_1 := blk_frozen BK379.out 1; obtain ⟨Ao79, co79, eo79⟩ := Kd.R_slice HO400.out; subst eo79) | (go_at_call 69; (with_reducible refine (impl_DecodeText.calls kj67 t378 _ _ t397 t401 t402 _ ?side1 ?side2 A73.out).mono ?_); (case side1 => exact z3 HO400.out); (case side2 => exact (Kd.R_reads' HO400.out).2.1); rintro e w80 ⟨v403, rfl, ho0, hb⟩; replace HO_6 := Aside0.mk (Kd.R_below (bR HO_6) hb); replace HO_8 := Aside0.mk (Kd.R_below (bR HO_8) hb); replace HO400 := Aside0.mk (Kd.R_below (bR HO400) hb); have HO404 := Aside0.mk (Kd.R_lower ho0 (below_size (bG GE379))); replace BK379 := Aside0.mk (blk_below (g := gb379) (o := .cells #[.int .i64 t377, .int .i64 t378] 33 (0, 0)) (bL BK379) hb); replace HB := Aside0.mk (below_step (bG GE379) hb); (try clear ho0)) | ((with_reducible refine gate_dst (N := 10) rfl ?_); refine box_event ?hg (N := 10) ?hd (cs := #[.int .i64 0, .slice none 0 0]) (t := 39) ?hr ?_; (case hd => rfl); (case hg => rfl); (case hr => exact z11); intro gb405 hg w81 hbox hb; replace HO_6 := Aside0.mk (Kd.R_below (bR HO_6) hb); replace HO_8 := Aside0.mk (Kd.R_below (bR HO_8) hb); replace HO400 := Aside0.mk (Kd.R_below (bR HO400) hb); replace HO404 := Aside0.mk (Kd.R_below (bR HO404) hb); have BK405 := Aside0.mk (hbox); have GW405 := Aside0.mk ((z25 : w.heap.size ≤ gb405)); have GE405 := Aside0.mk ((z25 : w.heap.size ≤ gb405)); replace HB := Aside0.mk (below_step (bG GE379) hb); have NB379_405 := Aside0.mk ((z9 : gb379 ≠ gb405)); have NB405_379 := Aside0.mk ((z10 : gb405 ≠ gb379)); replace BK379 := Aside0.mk (blk_below (g := gb379) (o := .cells #[.int .i64 t377, .int .i64 t378] 33 (0, 0)) (bL BK379) hb); clear hb hbox hg; have hnb82 := NB405_379.out; have hnc82 := NB379_405.out; have hcz83_0 : w81.cell? ⟨gb405, 0, none⟩ = some (.int .i64 0) := (blk_cell BK405.out 0).trans rfl; have hcz83_1 : w81.cell? ⟨gb405, 1, none⟩ = some (.slice none 0 0) := (blk_cell BK405.out 1).trans rfl; have hfz83_0 := blk_frozen BK405.out 0; have hfz83_1 := blk_frozen BK405.out 1; obtain ⟨Ao84, co84, eo84⟩ := Kd.R_slice HO404.out; subst eo84; have p406 : 0 ≤ (3 : Int) := (by omega); have q406 : 3 < (t371.length : Int) := pI; obtain ⟨ad406, e406, hx406_0⟩ := Kd.at_string (Kd.R_reads' HO_6.out).2.2 3 p406 q406; obtain rfl : ad376 = ad406 := (by injection e406); (try simp only [show (3 : Int).toNat = 3 from rfl, Nat.reduceMul, Nat.reduceEqDiff, Go.Addr.add, ↓reduceIte] at hx406_0); have qi406 : (3 < t371.length) = True := eq_true (by omega); (try rw [show ((3 : Int)).toNat = 3 from rfl] at hx406_0); have hn406_0 : ad376.block ≠ gb405 := Kd.own_blk (Kd.R_ne HO_6.out BK405.out (by decide)); have hn406_1 : ad376.block ≠ gb405 := Kd.own_blk (Kd.R_ne HO_6.out BK405.out (by decide)); replace hx406_0 := (cell_far (p := ⟨gb405, 0, none⟩) z70 (.int .i64 t401)).trans hx406_0; replace hx406_0 := (cell_far (p := ⟨gb405, 1, none⟩) z68 (.slice Ao84 t402.length co84)).trans hx406_0; (try have hy406_0 := fun (n_ : Nat) => (show ((((w81.drewN n_).setCell ⟨gb405, 0, none⟩ (.int .i64 t401)).setCell ⟨gb405, 1, none⟩ (.slice Ao84 t402.length co84))).cell? _ = some _ from hx406_0)); clear hn406_0; clear hn406_1; replace p406 := eq_true p406; replace q406 := eq_true q406)))
                  go_ret2
                  exact ⟨_, bE, by (with_reducible repeat (first | apply Kd.R_alloc | apply Kd.R_drewN | apply Kd.R_drew)); exact Kd.R_mono (Kd.R_far (p := ⟨gb405, 1, none⟩) (Kd.R_far (p := ⟨gb405, 0, none⟩) (Kd.R_types HO404.out BK405.out (by decide)) (fun _ hk => hk.2) (.int .i64 t401)) (fun _ hk => hk.2) (.slice Ao84 t402.length co84)) (fun _ hk => trivial), bG2 GE379 GE405⟩
                 ·rw [if_neg c76] at H
                  exact absurd H (by simp)
                ·rw [if_neg c75] at H
                 have c75b0 : (t401 == 0) = false := beq_eq_false_iff_ne.mpr c75
                 have c75b1 : (t401 != 0) = true := bne_iff_ne.mpr c75
                 simp only [Option.some.injEq, Prod.mk.injEq] at H
                 obtain ⟨rfl, rfl⟩ := H
                 (try simp only [c75b0, c75b1])
                 go_wp2_with (first | (go_at_call 68; (with_reducible refine (impl_quotedWord.calls kj67 (rdOf ByteArray.empty t371 2) t397 true _ A72.out).mono ?_); rintro e w85 ⟨v399, rfl, ho0, hb⟩; replace HO_6 := Aside0.mk (Kd.R_below (bR HO_6) hb); have HO400 := Aside0.mk (Kd.R_lower (Kd.R_new' ho0 (Kd.R_lt (bR HO_8))) (below_size (bG GE379))); replace HO_8 := Aside0.mk (Kd.R_elder' (bR HO_8) (Kd.R_base ho0) hb); replace BK379 := Aside0.mk (blk_below (g := gb379) (o := .cells #[.int .i64 t377, .int .i64 t378] 33 (0, 0)) (bL BK379) hb); replace HB := Aside0.mk (below_step (bG GE379) hb); (try clear ho0); have hcz86_0 : w85.cell? ⟨gb379, 0, none⟩ = some (.int .i64 t377) := (blk_cell BK379.out 0).trans rfl; have hcz86_1 : w85.cell? ⟨gb379, 1, none⟩ = some (.int .i64 t378) := (blk_cell BK379.out 1).trans rfl; have hfz86_0 := blk_frozen BK379.out 0; have hfz86_1 := blk_frozen BK379.out 1; obtain ⟨Ao87, co87, eo87⟩ := Kd.R_slice HO400.out; subst eo87) | (go_at_call 69; (with_reducible refine (impl_DecodeText.calls kj67 t378 _ _ t397 t401 t402 _ ?side1 ?side2 A73.out).mono ?_); (case side1 => exact z3 HO400.out); (case side2 => exact (Kd.R_reads' HO400.out).2.1); rintro e w88 ⟨v403, rfl, ho0, hb⟩; replace HO_6 := Aside0.mk (Kd.R_below (bR HO_6) hb); replace HO_8 := Aside0.mk (Kd.R_below (bR HO_8) hb); replace HO400 := Aside0.mk (Kd.R_below (bR HO400) hb); have HO404 := Aside0.mk (Kd.R_lower ho0 (below_size (bG GE379))); replace BK379 := Aside0.mk (blk_below (g := gb379) (o := .cells #[.int .i64 t377, .int .i64 t378] 33 (0, 0)) (bL BK379) hb); replace HB := Aside0.mk (below_step (bG GE379) hb); (try clear ho0)) | ((with_reducible refine gate_dst (N := 10) rfl ?_); refine box_event ?hg (N := 10) ?hd (cs := #[.int .i64 0, .slice none 0 0]) (t := 39) ?hr ?_; (case hd => rfl); (case hg => rfl); (case hr => exact z11); intro gb405 hg w89 hbox hb; replace HO_6 := Aside0.mk (Kd.R_below (bR HO_6) hb); replace HO_8 := Aside0.mk (Kd.R_below (bR HO_8) hb); replace HO400 := Aside0.mk (Kd.R_below (bR HO400) hb); replace HO404 := Aside0.mk (Kd.R_below (bR HO404) hb); have BK405 := Aside0.mk (hbox); have GW405 := Aside0.mk ((z25 : w.heap.size ≤ gb405)); have GE405 := Aside0.mk ((z25 : w.heap.size ≤ gb405)); replace HB := Aside0.mk (below_step (bG GE379) hb); have NB379_405 := Aside0.mk ((z9 : gb379 ≠ gb405)); have NB405_379 := Aside0.mk ((z10 : gb405 ≠ gb379)); replace BK379 := Aside0.mk (blk_below (g := gb379) (o := .cells #[.int .i64 t377, .int .i64 t378] 33 (0, 0)) (bL BK379) hb); clear hb hbox hg; have hnb90 := NB405_379.out; have hnc90 := NB379_405.out; have hcz91_0 : w89.cell? ⟨gb405, 0, none⟩ = some (.int .i64 0) := (blk_cell BK405.out 0).trans rfl; have hcz91_1 : w89.cell? ⟨gb405, 1, none⟩ = some (.slice none 0 0) := (blk_cell BK405.out 1).trans rfl; have hfz91_0 := blk_frozen BK405.out 0; have hfz91_1 := blk_frozen BK405.out 1; obtain ⟨Ao92, co92, eo92⟩ := Kd.R_slice HO404.out; subst eo92))
                 repeat (go_quiet (first | (go_at_call 68; (with_reducible refine (impl_quotedWord.calls kj67 (rdOf ByteArray.empty t371 2) t397 true _ A72.out).mono ?_); rintro e w85 ⟨v399, rfl, ho0, hb⟩; replace HO_6 := Aside0.mk (Kd.R_below (bR HO_6) hb); have HO400 := Aside0.mk (Kd.R_lower (Kd.R_new' ho0 (Kd.R_lt (bR HO_8))) (below_size (bG GE379))); replace HO_8 := Aside0.mk (Kd.R_elder' (bR HO_8) (Kd.R_base ho0) hb); replace BK379 := Aside0.mk (blk_below (g := gb379) (o := .cells #[.int .i64 t377, .int .i64 t378] 33 (0, 0)) (bL BK379) hb); replace HB := Aside0.mk (below_step (bG GE379) hb); (try clear ho0); have hcz86_0 : w85.cell? ⟨gb379, 0, none⟩ = some (.int .i64 t377) := (blk_cell BK379.out 0).trans rfl; have hcz86_1 : w85.cell? ⟨gb379, 1, none⟩ = some (.int .i64 t378) := (blk_cell BK379.out 1).trans rfl; have hfz86_0 := blk_frozen BK379.out 0; have hfz86_1 := blk_frozen BK379.out 1; obtain ⟨Ao87, co87, eo87⟩ := Kd.R_slice HO400.out; subst eo87) | (go_at_call 69; (with_reducible refine (impl_DecodeText.calls kj67 t378 _ _ t397 t401 t402 _ ?side1 ?side2 A73.out).mono ?_); (case side1 => exact z3 HO400.out); (case side2 => exact (Kd.R_reads' HO400.out).2.1); rintro e w88 ⟨v403, rfl, ho0, hb⟩; replace HO_6 := Aside0.mk (Kd.R_below (bR HO_6) hb); replace HO_8 := Aside0.mk (Kd.R_below (bR HO_8) hb); replace HO400 := Aside0.mk (Kd.R_below (bR HO400) hb); have HO404 := Aside0.mk (Kd.R_lower ho0 (below_size (bG GE379))); replace BK379 := Aside0.mk (blk_below (g := gb379) (o := .cells #[.int .i64 t377, .int .i64 t378] 33 (0, 0)) (bL BK379) hb); replace HB := Aside0.mk (below_step (bG GE379) hb); (try clear ho0)) | ((with_reducible refine gate_dst (N := 10) rfl ?_); refine box_event ?hg (N := 10) ?hd (cs := #[.int .i64 0, .slice none 0 0]) (t := 39) ?hr ?_; (case hd => rfl); (case hg => rfl); (case hr => exact z11); intro gb405 hg w89 hbox hb; replace HO_6 := Aside0.mk (Kd.R_below (bR HO_6) hb); replace HO_8 := Aside0.mk (Kd.R_below (bR HO_8) hb); replace HO400 := Aside0.mk (Kd.R_below (bR HO400) hb); replace HO404 := Aside0.mk (Kd.R_below (bR HO404) hb); have BK405 := Aside0.mk (hbox); have GW405 := Aside0.mk ((z25 : w.heap.size ≤ gb405)); have GE405 := Aside0.mk ((z25 : w.heap.size ≤ gb405)); replace HB := Aside0.mk (below_step (bG GE379) hb); have NB379_405 := Aside0.mk ((z9 : gb379 ≠ gb405)); have NB405_379 := Aside0.mk ((z10 : gb405 ≠ gb379)); replace BK379 := Aside0.mk (blk_below (g := gb379) (o := .cells #[.int .i64 t377, .int .i64 t378] 33 (0, 0)) (bL BK379) hb); clear hb hbox hg; have hnb90 := NB405_379.out; have hnc90 := NB379_405.out; have hcz91_0 : w89.cell? ⟨gb405, 0, none⟩ = some (.int .i64 0) := (blk_cell BK405.out 0).trans rfl; have hcz91_1 : w89.cell? ⟨gb405, 1, none⟩ = some (.slice none 0 0) := (blk_cell BK405.out 1).trans rfl; have hfz91_0 := blk_frozen BK405.out 0; have hfz91_1 := blk_frozen BK405.out 1; obtain ⟨Ao92, co92, eo92⟩ := Kd.R_slice HO404.out; subst eo92)); try go_wp2_with (first | (go_at_call 68; (with_reducible refine (impl_quotedWord.calls kj67 (rdOf ByteArray.empty t371 2) t397 true _ A72.out).mono ?_); rintro e w85 ⟨v399, rfl, ho0, hb⟩; replace HO_6 := Aside0.mk (Kd.R_below (bR HO_6) hb); have HO400 := Aside0.mk (Kd.R_lower (Kd.R_new' ho0 (Kd.R_lt (bR HO_8))) (below_size (bG GE379))); replace HO_8 := Aside0.mk (Kd.R_elder' (bR HO_8) (Kd.R_base ho0) hb); replace BK379 := Aside0.mk (blk_below (g := gb379) (o := .cells #[.int .i64 t377, .int .i64 t378] 33 (0, 0)) (bL BK379) hb); replace HB := Aside0.mk (below_step (bG GE379) hb); (try clear ho0); have hcz86_0 : w85.cell? ⟨gb379, 0, none⟩ = some (.int .i64 t377) := (blk_cell BK379.out 0).trans rfl; have hcz86_1 : w85.cell? ⟨gb379, 1, none⟩ = some (.int .i64 t378) := (blk_cell BK379.out 1).trans rfl; have hfz86_0 := blk_frozen BK379.out 0; have hfz86_1 := blk_frozen BK379.out 1; obtain ⟨Ao87, co87, eo87⟩ := Kd.R_slice HO400.out; subst eo87) | (go_at_call 69; (with_reducible refine (impl_DecodeText.calls kj67 t378 _ _ t397 t401 t402 _ ?side1 ?side2 A73.out).mono ?_); (case side1 => exact z3 HO400.out); (case side2 => exact (Kd.R_reads' HO400.out).2.1); rintro e w88 ⟨v403, rfl, ho0, hb⟩; replace HO_6 := Aside0.mk (Kd.R_below (bR HO_6) hb); replace HO_8 := Aside0.mk (Kd.R_below (bR HO_8) hb); replace HO400 := Aside0.mk (Kd.R_below (bR HO400) hb); have HO404 := Aside0.mk (Kd.R_lower ho0 (below_size (bG GE379))); replace BK379 := Aside0.mk (blk_below (g := gb379) (o := .cells #[.int .i64 t377, .int .i64 t378] 33 (0, 0)) (bL BK379) hb); replace HB := Aside0.mk (below_step (bG GE379) hb); (try clear ho0)) | ((with_reducible refine gate_dst (N := 10) rfl ?_); refine box_event ?hg (N := 10) ?hd (cs := #[.int .i64 0, .slice none 0 0]) (t := 39) ?hr ?_; (case hd => rfl); (case hg => rfl); (case hr => exact z11); intro gb405 hg w89 hbox hb; replace HO_6 := Aside0.mk (Kd.R_below (bR HO_6) hb); replace HO_8 := Aside0.mk (Kd.R_below (bR HO_8) hb); replace HO400 := Aside0.mk (Kd.R_below (bR HO400) hb); replace HO404 := Aside0.mk (Kd.R_below (bR HO404) hb); have BK405 := Aside0.mk (hbox); have GW405 := Aside0.mk ((z25 : w.heap.size ≤ gb405)); have GE405 := Aside0.mk ((z25 : w.heap.size ≤ gb405)); replace HB := Aside0.mk (below_step (bG GE379) hb); have NB379_405 := Aside0.mk ((z9 : gb379 ≠ gb405)); have NB405_379 := Aside0.mk ((z10 : gb405 ≠ gb379)); replace BK379 := Aside0.mk (blk_below (g := gb379) (o := .cells #[.int .i64 t377, .int .i64 t378] 33 (0, 0)) (bL BK379) hb); clear hb hbox hg; have hnb90 := NB405_379.out; have hnc90 := NB379_405.out; have hcz91_0 : w89.cell? ⟨gb405, 0, none⟩ = some (.int .i64 0) := (blk_cell BK405.out 0).trans rfl; have hcz91_1 : w89.cell? ⟨gb405, 1, none⟩ = some (.slice none 0 0) := (blk_cell BK405.out 1).trans rfl; have hfz91_0 := blk_frozen BK405.out 0; have hfz91_1 := blk_frozen BK405.out 1; obtain ⟨Ao92, co92, eo92⟩ := Kd.R_slice HO404.out; subst eo92)))
                 go_ret2
                 exact ⟨_, bE, z4, bG2 GE379 GE405⟩
               ·replace c74 := Bool.eq_false_iff.mpr c74
                subst c74
                have H1 : (some (([] : List Int), 0)) = some (r1, r2) := z14
                clear H
                have H := H1
                clear H1
                simp only [Option.some.injEq, Prod.mk.injEq] at H
                obtain ⟨rfl, rfl⟩ := H
                go_wp2_with (first | (go_at_call 68; (with_reducible refine (impl_quotedWord.calls kj67 (rdOf ByteArray.empty t371 2) t397 false _ A72.out).mono ?_); rintro e w93 ⟨v399, rfl, ho0, hb⟩; replace HO_6 := Aside0.mk (Kd.R_below (bR HO_6) hb); have HO400 := Aside0.mk (Kd.R_lower (Kd.R_new' ho0 (Kd.R_lt (bR HO_8))) (below_size (bG GE379))); replace HO_8 := Aside0.mk (Kd.R_elder' (bR HO_8) (Kd.R_base ho0) hb); replace BK379 := Aside0.mk (blk_below (g := gb379) (o := .cells #[.int .i64 t377, .int .i64 t378] 33 (0, 0)) (bL BK379) hb); replace HB := Aside0.mk (below_step (bG GE379) hb); (try clear ho0); have hcz94_0 : w93.cell? ⟨gb379, 0, none⟩ = some (.int .i64 t377) := (blk_cell BK379.out 0).trans rfl; have hcz94_1 : w93.cell? ⟨gb379, 1, none⟩ = some (.int .i64 t378) := (blk_cell BK379.out 1).trans rfl; have hfz94_0 := blk_frozen BK379.out 0; have hfz94_1 := blk_frozen BK379.out 1; obtain ⟨Ao95, co95, eo95⟩ := Kd.R_slice HO400.out; subst eo95) | (go_at_call 69; (with_reducible refine (impl_DecodeText.calls kj67 t378 _ _ t397 t401 t402 _ ?side1 ?side2 A73.out).mono ?_); (case side1 => exact z3 HO400.out); (case side2 => exact (Kd.R_reads' HO400.out).2.1); rintro e w96 ⟨v403, rfl, ho0, hb⟩; replace HO_6 := Aside0.mk (Kd.R_below (bR HO_6) hb); replace HO_8 := Aside0.mk (Kd.R_below (bR HO_8) hb); replace HO400 := Aside0.mk (Kd.R_below (bR HO400) hb); have HO404 := Aside0.mk (Kd.R_lower ho0 (below_size (bG GE379))); replace BK379 := Aside0.mk (blk_below (g := gb379) (o := .cells #[.int .i64 t377, .int .i64 t378] 33 (0, 0)) (bL BK379) hb); replace HB := Aside0.mk (below_step (bG GE379) hb); (try clear ho0)) | ((with_reducible refine gate_dst (N := 10) rfl ?_); refine box_event ?hg (N := 10) ?hd (cs := #[.int .i64 0, .slice none 0 0]) (t := 39) ?hr ?_; (case hd => rfl); (case hg => rfl); (case hr => exact z11); intro gb405 hg w97 hbox hb; replace HO_6 := Aside0.mk (Kd.R_below (bR HO_6) hb); replace HO_8 := Aside0.mk (Kd.R_below (bR HO_8) hb); replace HO400 := Aside0.mk (Kd.R_below (bR HO400) hb); replace HO404 := Aside0.mk (Kd.R_below (bR HO404) hb); have BK405 := Aside0.mk (hbox); have GW405 := Aside0.mk ((z25 : w.heap.size ≤ gb405)); have GE405 := Aside0.mk ((z25 : w.heap.size ≤ gb405)); replace HB := Aside0.mk (below_step (bG GE379) hb); have NB379_405 := Aside0.mk ((z9 : gb379 ≠ gb405)); have NB405_379 := Aside0.mk ((z10 : gb405 ≠ gb379)); replace BK379 := Aside0.mk (blk_below (g := gb379) (o := .cells #[.int .i64 t377, .int .i64 t378] 33 (0, 0)) (bL BK379) hb); clear hb hbox hg; have hnb98 := NB405_379.out; have hnc98 := NB379_405.out; have hcz99_0 : w97.cell? ⟨gb405, 0, none⟩ = some (.int .i64 0) := (blk_cell BK405.out 0).trans rfl; have hcz99_1 : w97.cell? ⟨gb405, 1, none⟩ = some (.slice none 0 0) := (blk_cell BK405.out 1).trans rfl; have hfz99_0 := blk_frozen BK405.out 0; have hfz99_1 := blk_frozen BK405.out 1; obtain ⟨Ao100, co100, eo100⟩ := Kd.R_slice HO404.out; subst eo100))
                repeat (go_quiet (first | (go_at_call 68; (with_reducible refine (impl_quotedWord.calls kj67 (rdOf ByteArray.empty t371 2) t397 false _ A72.out).mono ?_); rintro e w93 ⟨v399, rfl, ho0, hb⟩; replace HO_6 := Aside0.mk (Kd.R_below (bR HO_6) hb); have HO400 := Aside0.mk (Kd.R_lower (Kd.R_new' ho0 (Kd.R_lt (bR HO_8))) (below_size (bG GE379))); replace HO_8 := Aside0.mk (Kd.R_elder' (bR HO_8) (Kd.R_base ho0) hb); replace BK379 := Aside0.mk (blk_below (g := gb379) (o := .cells #[.int .i64 t377, .int .i64 t378] 33 (0, 0)) (bL BK379) hb); replace HB := Aside0.mk (below_step (bG GE379) hb); (try clear ho0); have hcz94_0 : w93.cell? ⟨gb379, 0, none⟩ = some (.int .i64 t377) := (blk_cell BK379.out 0).trans rfl; have hcz94_1 : w93.cell? ⟨gb379, 1, none⟩ = some (.int .i64 t378) := (blk_cell BK379.out 1).trans rfl; have hfz94_0 := blk_frozen BK379.out 0; have hfz94_1 := blk_frozen BK379.out 1; obtain ⟨Ao95, co95, eo95⟩ := Kd.R_slice HO400.out; subst eo95) | (go_at_call 69; (with_reducible refine (impl_DecodeText.calls kj67 t378 _ _ t397 t401 t402 _ ?side1 ?side2 A73.out).mono ?_); (case side1 => exact z3 HO400.out); (case side2 => exact (Kd.R_reads' HO400.out).2.1); rintro e w96 ⟨v403, rfl, ho0, hb⟩; replace HO_6 := Aside0.mk (Kd.R_below (bR HO_6) hb); replace HO_8 := Aside0.mk (Kd.R_below (bR HO_8) hb); replace HO400 := Aside0.mk (Kd.R_below (bR HO400) hb); have HO404 := Aside0.mk (Kd.R_lower ho0 (below_size (bG GE379))); replace BK379 := Aside0.mk (blk_below (g := gb379) (o := .cells #[.int .i64 t377, .int .i64 t378] 33 (0, 0)) (bL BK379) hb); replace HB := Aside0.mk (below_step (bG GE379) hb); (try clear ho0)) | ((with_reducible refine gate_dst (N := 10) rfl ?_); refine box_event ?hg (N := 10) ?hd (cs := #[.int .i64 0, .slice none 0 0]) (t := 39) ?hr ?_; (case hd => rfl); (case hg => rfl); (case hr => exact z11); intro gb405 hg w97 hbox hb; replace HO_6 := Aside0.mk (Kd.R_below (bR HO_6) hb); replace HO_8 := Aside0.mk (Kd.R_below (bR HO_8) hb); replace HO400 := Aside0.mk (Kd.R_below (bR HO400) hb); replace HO404 := Aside0.mk (Kd.R_below (bR HO404) hb); have BK405 := Aside0.mk (hbox); have GW405 := Aside0.mk ((z25 : w.heap.size ≤ gb405)); have GE405 := Aside0.mk ((z25 : w.heap.size ≤ gb405)); replace HB := Aside0.mk (below_step (bG GE379) hb); have NB379_405 := Aside0.mk ((z9 : gb379 ≠ gb405)); have NB405_379 := Aside0.mk ((z10 : gb405 ≠ gb379)); replace BK379 := Aside0.mk (blk_below (g := gb379) (o := .cells #[.int .i64 t377, .int .i64 t378] 33 (0, 0)) (bL BK379) hb); clear hb hbox hg; have hnb98 := NB405_379.out; have hnc98 := NB379_405.out; have hcz99_0 : w97.cell? ⟨gb405, 0, none⟩ = some (.int .i64 0) := (blk_cell BK405.out 0).trans rfl; have hcz99_1 : w97.cell? ⟨gb405, 1, none⟩ = some (.slice none 0 0) := (blk_cell BK405.out 1).trans rfl; have hfz99_0 := blk_frozen BK405.out 0; have hfz99_1 := blk_frozen BK405.out 1; obtain ⟨Ao100, co100, eo100⟩ := Kd.R_slice HO404.out; subst eo100)); try go_wp2_with (first | (go_at_call 68; (with_reducible refine (impl_quotedWord.calls kj67 (rdOf ByteArray.empty t371 2) t397 false _ A72.out).mono ?_); rintro e w93 ⟨v399, rfl, ho0, hb⟩; replace HO_6 := Aside0.mk (Kd.R_below (bR HO_6) hb); have HO400 := Aside0.mk (Kd.R_lower (Kd.R_new' ho0 (Kd.R_lt (bR HO_8))) (below_size (bG GE379))); replace HO_8 := Aside0.mk (Kd.R_elder' (bR HO_8) (Kd.R_base ho0) hb); replace BK379 := Aside0.mk (blk_below (g := gb379) (o := .cells #[.int .i64 t377, .int .i64 t378] 33 (0, 0)) (bL BK379) hb); replace HB := Aside0.mk (below_step (bG GE379) hb); (try clear ho0); have hcz94_0 : w93.cell? ⟨gb379, 0, none⟩ = some (.int .i64 t377) := (blk_cell BK379.out 0).trans rfl; have hcz94_1 : w93.cell? ⟨gb379, 1, none⟩ = some (.int .i64 t378) := (blk_cell BK379.out 1).trans rfl; have hfz94_0 := blk_frozen BK379.out 0; have hfz94_1 := blk_frozen BK379.out 1; obtain ⟨Ao95, co95, eo95⟩ := Kd.R_slice HO400.out; subst eo95) | (go_at_call 69; (with_reducible refine (impl_DecodeText.calls kj67 t378 _ _ t397 t401 t402 _ ?side1 ?side2 A73.out).mono ?_); (case side1 => exact z3 HO400.out); (case side2 => exact (Kd.R_reads' HO400.out).2.1); rintro e w96 ⟨v403, rfl, ho0, hb⟩; replace HO_6 := Aside0.mk (Kd.R_below (bR HO_6) hb); replace HO_8 := Aside0.mk (Kd.R_below (bR HO_8) hb); replace HO400 := Aside0.mk (Kd.R_below (bR HO400) hb); have HO404 := Aside0.mk (Kd.R_lower ho0 (below_size (bG GE379))); replace BK379 := Aside0.mk (blk_below (g := gb379) (o := .cells #[.int .i64 t377, .int .i64 t378] 33 (0, 0)) (bL BK379) hb); replace HB := Aside0.mk (below_step (bG GE379) hb); (try clear ho0)) | ((with_reducible refine gate_dst (N := 10) rfl ?_); refine box_event ?hg (N := 10) ?hd (cs := #[.int .i64 0, .slice none 0 0]) (t := 39) ?hr ?_; (case hd => rfl); (case hg => rfl); (case hr => exact z11); intro gb405 hg w97 hbox hb; replace HO_6 := Aside0.mk (Kd.R_below (bR HO_6) hb); replace HO_8 := Aside0.mk (Kd.R_below (bR HO_8) hb); replace HO400 := Aside0.mk (Kd.R_below (bR HO400) hb); replace HO404 := Aside0.mk (Kd.R_below (bR HO404) hb); have BK405 := Aside0.mk (hbox); have GW405 := Aside0.mk ((z25 : w.heap.size ≤ gb405)); have GE405 := Aside0.mk ((z25 : w.heap.size ≤ gb405)); replace HB := Aside0.mk (below_step (bG GE379) hb); have NB379_405 := Aside0.mk ((z9 : gb379 ≠ gb405)); have NB405_379 := Aside0.mk ((z10 : gb405 ≠ gb379)); replace BK379 := Aside0.mk (blk_below (g := gb379) (o := .cells #[.int .i64 t377, .int .i64 t378] 33 (0, 0)) (bL BK379) hb); clear hb hbox hg; have hnb98 := NB405_379.out; have hnc98 := NB379_405.out; have hcz99_0 : w97.cell? ⟨gb405, 0, none⟩ = some (.int .i64 0) := (blk_cell BK405.out 0).trans rfl; have hcz99_1 : w97.cell? ⟨gb405, 1, none⟩ = some (.slice none 0 0) := (blk_cell BK405.out 1).trans rfl; have hfz99_0 := blk_frozen BK405.out 0; have hfz99_1 := blk_frozen BK405.out 1; obtain ⟨Ao100, co100, eo100⟩ := Kd.R_slice HO404.out; subst eo100)))
                go_ret2
                exact ⟨_, bE, z4, bG2 GE379 GE405⟩
              ·rw [if_neg c71] at H
               exact absurd H (by simp)
             ·replace c70 := Bool.eq_false_iff.mpr c70
              subst c70
              have H1 : ((impl_DecodeText.f kj67 t378 y380).bind fun bt407 => (some (([] : List Int), 0))) = some (r1, r2) := z14
              clear H
              have H := H1
              clear H1
              replace H := Option.bind_eq_some_iff.mp H
              obtain ⟨⟨t407, t408⟩, A1010, H⟩ := H
              replace H : (some (([] : List Int), 0)) = some (r1, r2) := H
              have A101 := Aside0.mk A1010
              clear A1010
              simp only [Option.some.injEq, Prod.mk.injEq] at H
              obtain ⟨rfl, rfl⟩ := H
              have hcz102_0 : wc.cell? ⟨gb379, 0, none⟩ = some (.int .i64 t377) := (blk_cell BK379.out 0).trans rfl
              have hcz102_1 : wc.cell? ⟨gb379, 1, none⟩ = some (.int .i64 t378) := (blk_cell BK379.out 1).trans rfl
              have hfz102_0 := blk_frozen BK379.out 0
              have hfz102_1 := blk_frozen BK379.out 1
              obtain ⟨Ao103, co103, eo103⟩ := Kd.R_slice HO_8.out
              subst eo103
              go_wp2_with (first | (go_at_call 69; (with_reducible refine (impl_DecodeText.calls kj67 t378 _ _ y380 t407 t408 _ ?side1 ?side2 A101.out).mono ?_); (case side1 => exact z3 HO_8.out); (case side2 => exact (Kd.R_reads' HO_8.out).2.1); rintro e w104 ⟨v409, rfl, ho0, hb⟩; replace HO_6 := Aside0.mk (Kd.R_below (bR HO_6) hb); replace HO_8 := Aside0.mk (Kd.R_below (bR HO_8) hb); have HO410 := Aside0.mk (Kd.R_lower ho0 (below_size (bG GE379))); replace BK379 := Aside0.mk (blk_below (g := gb379) (o := .cells #[.int .i64 t377, .int .i64 t378] 33 (0, 0)) (bL BK379) hb); replace HB := Aside0.mk (below_step (bG GE379) hb); (try clear ho0)) | ((with_reducible refine gate_dst (N := 10) rfl ?_); refine box_event ?hg (N := 10) ?hd (cs := #[.int .i64 0, .slice none 0 0]) (t := 39) ?hr ?_; (case hd => rfl); (case hg => rfl); (case hr => exact z11); intro gb411 hg w105 hbox hb; replace HO_6 := Aside0.mk (Kd.R_below (bR HO_6) hb); replace HO_8 := Aside0.mk (Kd.R_below (bR HO_8) hb); replace HO410 := Aside0.mk (Kd.R_below (bR HO410) hb); have BK411 := Aside0.mk (hbox); have GW411 := Aside0.mk ((z25 : w.heap.size ≤ gb411)); have GE411 := Aside0.mk ((z25 : w.heap.size ≤ gb411)); replace HB := Aside0.mk (below_step (bG GE379) hb); have NB379_411 := Aside0.mk ((z9 : gb379 ≠ gb411)); have NB411_379 := Aside0.mk ((z10 : gb411 ≠ gb379)); replace BK379 := Aside0.mk (blk_below (g := gb379) (o := .cells #[.int .i64 t377, .int .i64 t378] 33 (0, 0)) (bL BK379) hb); clear hb hbox hg; have hnb106 := NB411_379.out; have hnc106 := NB379_411.out; have hcz107_0 : w105.cell? ⟨gb411, 0, none⟩ = some (.int .i64 0) := (blk_cell BK411.out 0).trans rfl; have hcz107_1 : w105.cell? ⟨gb411, 1, none⟩ = some (.slice none 0 0) := (blk_cell BK411.out 1).trans rfl; have hfz107_0 := blk_frozen BK411.out 0; have hfz107_1 := blk_frozen BK411.out 1; obtain ⟨Ao108, co108, eo108⟩ := Kd.R_slice HO410.out; subst eo108))
              repeat (go_quiet (first | (go_at_call 69; (with_reducible refine (impl_DecodeText.calls kj67 t378 _ _ y380 t407 t408 _ ?side1 ?side2 A101.out).mono ?_); (case side1 => exact z3 HO_8.out); (case side2 => exact (Kd.R_reads' HO_8.out).2.1); rintro e w104 ⟨v409, rfl, ho0, hb⟩; replace HO_6 := Aside0.mk (Kd.R_below (bR HO_6) hb); replace HO_8 := Aside0.mk (Kd.R_below (bR HO_8) hb); have HO410 := Aside0.mk (Kd.R_lower ho0 (below_size (bG GE379))); replace BK379 := Aside0.mk (blk_below (g := gb379) (o := .cells #[.int .i64 t377, .int .i64 t378] 33 (0, 0)) (bL BK379) hb); replace HB := Aside0.mk (below_step (bG GE379) hb); (try clear ho0)) | ((with_reducible refine gate_dst (N := 10) rfl ?_); refine box_event ?hg (N := 10) ?hd (cs := #[.int .i64 0, .slice none 0 0]) (t := 39) ?hr ?_; (case hd => rfl); (case hg => rfl); (case hr => exact z11); intro gb411 hg w105 hbox hb; replace HO_6 := Aside0.mk (Kd.R_below (bR HO_6) hb); replace HO_8 := Aside0.mk (Kd.R_below (bR HO_8) hb); replace HO410 := Aside0.mk (Kd.R_below (bR HO410) hb); have BK411 := Aside0.mk (hbox); have GW411 := Aside0.mk ((z25 : w.heap.size ≤ gb411)); have GE411 := Aside0.mk ((z25 : w.heap.size ≤ gb411)); replace HB := Aside0.mk (below_step (bG GE379) hb); have NB379_411 := Aside0.mk ((z9 : gb379 ≠ gb411)); have NB411_379 := Aside0.mk ((z10 : gb411 ≠ gb379)); replace BK379 := Aside0.mk (blk_below (g := gb379) (o := .cells #[.int .i64 t377, .int .i64 t378] 33 (0, 0)) (bL BK379) hb); clear hb hbox hg; have hnb106 := NB411_379.out; have hnc106 := NB379_411.out; have hcz107_0 : w105.cell? ⟨gb411, 0, none⟩ = some (.int .i64 0) := (blk_cell BK411.out 0).trans rfl; have hcz107_1 : w105.cell? ⟨gb411, 1, none⟩ = some (.slice none 0 0) := (blk_cell BK411.out 1).trans rfl; have hfz107_0 := blk_frozen BK411.out 0; have hfz107_1 := blk_frozen BK411.out 1; obtain ⟨Ao108, co108, eo108⟩ := Kd.R_slice HO410.out; subst eo108)); try go_wp2_with (first | (go_at_call 69; (with_reducible refine (impl_DecodeText.calls kj67 t378 _ _ y380 t407 t408 _ ?side1 ?side2 A101.out).mono ?_); (case side1 => exact z3 HO_8.out); (case side2 => exact (Kd.R_reads' HO_8.out).2.1); rintro e w104 ⟨v409, rfl, ho0, hb⟩; replace HO_6 := Aside0.mk (Kd.R_below (bR HO_6) hb); replace HO_8 := Aside0.mk (Kd.R_below (bR HO_8) hb); have HO410 := Aside0.mk (Kd.R_lower ho0 (below_size (bG GE379))); replace BK379 := Aside0.mk (blk_below (g := gb379) (o := .cells #[.int .i64 t377, .int .i64 t378] 33 (0, 0)) (bL BK379) hb); replace HB := Aside0.mk (below_step (bG GE379) hb); (try clear ho0)) | ((with_reducible refine gate_dst (N := 10) rfl ?_); refine box_event ?hg (N := 10) ?hd (cs := #[.int .i64 0, .slice none 0 0]) (t := 39) ?hr ?_; (case hd => rfl); (case hg => rfl); (case hr => exact z11); intro gb411 hg w105 hbox hb; replace HO_6 := Aside0.mk (Kd.R_below (bR HO_6) hb); replace HO_8 := Aside0.mk (Kd.R_below (bR HO_8) hb); replace HO410 := Aside0.mk (Kd.R_below (bR HO410) hb); have BK411 := Aside0.mk (hbox); have GW411 := Aside0.mk ((z25 : w.heap.size ≤ gb411)); have GE411 := Aside0.mk ((z25 : w.heap.size ≤ gb411)); replace HB := Aside0.mk (below_step (bG GE379) hb); have NB379_411 := Aside0.mk ((z9 : gb379 ≠ gb411)); have NB411_379 := Aside0.mk ((z10 : gb411 ≠ gb379)); replace BK379 := Aside0.mk (blk_below (g := gb379) (o := .cells #[.int .i64 t377, .int .i64 t378] 33 (0, 0)) (bL BK379) hb); clear hb hbox hg; have hnb106 := NB411_379.out; have hnc106 := NB379_411.out; have hcz107_0 : w105.cell? ⟨gb411, 0, none⟩ = some (.int .i64 0) := (blk_cell BK411.out 0).trans rfl; have hcz107_1 : w105.cell? ⟨gb411, 1, none⟩ = some (.slice none 0 0) := (blk_cell BK411.out 1).trans rfl; have hfz107_0 := blk_frozen BK411.out 0; have hfz107_1 := blk_frozen BK411.out 1; obtain ⟨Ao108, co108, eo108⟩ := Kd.R_slice HO410.out; subst eo108)))
              go_ret2
              exact ⟨_, bE, z4, bG2 GE379 GE411⟩
       ·rw [if_neg c16] at H
        exact absurd H (by simp)
      ·rw [if_neg c15] at H
       have c15b0 : (t377 == 0) = false := beq_eq_false_iff_ne.mpr c15
       have c15b1 : (t377 != 0) = true := bne_iff_ne.mpr c15
       simp only [Option.some.injEq, Prod.mk.injEq] at H
       obtain ⟨rfl, rfl⟩ := H
       (try simp only [c15b0, c15b1])
       go_wp2_with (first | (go_at_call 67; (with_reducible refine (impl_CharsetOf.calls kj4 (rdOf ByteArray.empty t371 0) t377 t378 _ A14.out).mono ?_); rintro e w110 ⟨rfl, hb⟩; replace HO_6 := Aside0.mk (Kd.R_below (bR HO_6) hb); replace HB := Aside0.mk (below_step bB hb); (try clear hi)) | ((with_reducible refine gate_dst (N := 7) rfl ?_); refine box_event ?hg (N := 7) ?hd (cs := #[.int .i64 0, .int .i64 0]) (t := 33) ?hr ?_; (case hd => rfl); (case hg => rfl); (case hr => exact z11); intro gb379 hg w111 hbox hb; replace HO_6 := Aside0.mk (Kd.R_below (bR HO_6) hb); have BK379 := Aside0.mk (hbox); have GW379 := Aside0.mk ((z18 : w.heap.size ≤ gb379)); have GE379 := Aside0.mk ((z18 : w.heap.size ≤ gb379)); replace HB := Aside0.mk (below_step bB hb); clear hb hbox hg; have hcz112_0 : w111.cell? ⟨gb379, 0, none⟩ = some (.int .i64 0) := (blk_cell BK379.out 0).trans rfl; have hcz112_1 : w111.cell? ⟨gb379, 1, none⟩ = some (.int .i64 0) := (blk_cell BK379.out 1).trans rfl; have hfz112_0 := blk_frozen BK379.out 0; have hfz112_1 := blk_frozen BK379.out 1))
       repeat (go_quiet (first | (go_at_call 67; (with_reducible refine (impl_CharsetOf.calls kj4 (rdOf ByteArray.empty t371 0) t377 t378 _ A14.out).mono ?_); rintro e w110 ⟨rfl, hb⟩; replace HO_6 := Aside0.mk (Kd.R_below (bR HO_6) hb); replace HB := Aside0.mk (below_step bB hb); (try clear hi)) | ((with_reducible refine gate_dst (N := 7) rfl ?_); refine box_event ?hg (N := 7) ?hd (cs := #[.int .i64 0, .int .i64 0]) (t := 33) ?hr ?_; (case hd => rfl); (case hg => rfl); (case hr => exact z11); intro gb379 hg w111 hbox hb; replace HO_6 := Aside0.mk (Kd.R_below (bR HO_6) hb); have BK379 := Aside0.mk (hbox); have GW379 := Aside0.mk ((z18 : w.heap.size ≤ gb379)); have GE379 := Aside0.mk ((z18 : w.heap.size ≤ gb379)); replace HB := Aside0.mk (below_step bB hb); clear hb hbox hg; have hcz112_0 : w111.cell? ⟨gb379, 0, none⟩ = some (.int .i64 0) := (blk_cell BK379.out 0).trans rfl; have hcz112_1 : w111.cell? ⟨gb379, 1, none⟩ = some (.int .i64 0) := (blk_cell BK379.out 1).trans rfl; have hfz112_0 := blk_frozen BK379.out 0; have hfz112_1 := blk_frozen BK379.out 1)); try go_wp2_with (first | (go_at_call 67; (with_reducible refine (impl_CharsetOf.calls kj4 (rdOf ByteArray.empty t371 0) t377 t378 _ A14.out).mono ?_); rintro e w110 ⟨rfl, hb⟩; replace HO_6 := Aside0.mk (Kd.R_below (bR HO_6) hb); replace HB := Aside0.mk (below_step bB hb); (try clear hi)) | ((with_reducible refine gate_dst (N := 7) rfl ?_); refine box_event ?hg (N := 7) ?hd (cs := #[.int .i64 0, .int .i64 0]) (t := 33) ?hr ?_; (case hd => rfl); (case hg => rfl); (case hr => exact z11); intro gb379 hg w111 hbox hb; replace HO_6 := Aside0.mk (Kd.R_below (bR HO_6) hb); have BK379 := Aside0.mk (hbox); have GW379 := Aside0.mk ((z18 : w.heap.size ≤ gb379)); have GE379 := Aside0.mk ((z18 : w.heap.size ≤ gb379)); replace HB := Aside0.mk (below_step bB hb); clear hb hbox hg; have hcz112_0 : w111.cell? ⟨gb379, 0, none⟩ = some (.int .i64 0) := (blk_cell BK379.out 0).trans rfl; have hcz112_1 : w111.cell? ⟨gb379, 1, none⟩ = some (.int .i64 0) := (blk_cell BK379.out 1).trans rfl; have hfz112_0 := blk_frozen BK379.out 0; have hfz112_1 := blk_frozen BK379.out 1)))
       go_ret2
       exact ⟨_, bE, z4, bG GE379⟩
     ·rw [if_neg c13] at H
      exact absurd H (by simp)
 ·replace c3 := Bool.eq_false_iff.mpr c3
  subst c3
  have H1 : (some (([] : List Int), 0)) = some (r1, r2) := z14
  clear H
  have H := H1
  clear H1
  simp only [Option.some.injEq, Prod.mk.injEq] at H
  obtain ⟨rfl, rfl⟩ := H
  go_wp2_with (first | (go_at_call 64; (with_reducible refine (strings_CutPrefix.calls a0 (⟨#[61, 63]⟩ : ByteArray) t369 false _ A2.out).mono ?_); rintro e w' ⟨rfl, ⟨nd, rfl⟩⟩; (try first | exact ⟨rfl, _, World.drewN_drewN _ _ _⟩ | exact ⟨rfl, _, Eq.trans (World.drewN_drewN _ _ _) (congrArg (World.drewN _) (Nat.add_assoc _ _ _))⟩)))
  repeat (go_quiet (first | (go_at_call 64; (with_reducible refine (strings_CutPrefix.calls a0 (⟨#[61, 63]⟩ : ByteArray) t369 false _ A2.out).mono ?_); rintro e w' ⟨rfl, ⟨nd, rfl⟩⟩; (try first | exact ⟨rfl, _, World.drewN_drewN _ _ _⟩ | exact ⟨rfl, _, Eq.trans (World.drewN_drewN _ _ _) (congrArg (World.drewN _) (Nat.add_assoc _ _ _))⟩))); try go_wp2_with (first | (go_at_call 64; (with_reducible refine (strings_CutPrefix.calls a0 (⟨#[61, 63]⟩ : ByteArray) t369 false _ A2.out).mono ?_); rintro e w' ⟨rfl, ⟨nd, rfl⟩⟩; (try first | exact ⟨rfl, _, World.drewN_drewN _ _ _⟩ | exact ⟨rfl, _, Eq.trans (World.drewN_drewN _ _ _) (congrArg (World.drewN _) (Nat.add_assoc _ _ _))⟩))))
  go_ret2
  exact ⟨_, bE, z4, bB⟩
open Go.Shelf in
def strings_TrimLeft.sh_lays161_ren : Go.Shelf.Ren := ⟨fun | 161 => 51 | 231 => 70 | 227 => 54 | 233 => 71 | 235 => 72 | 228 => 76 | 197 => 94 | 151 => 78 | 260 => 104 | 152 => 98 | 137 => 44 | 119 => 105 | 224 => 106 | 225 => 107 | 217 => 57 | 266 => 79 | n => n, fun | 9 => 9 | 4 => 4 | 3 => 3 | 5 => 5 | 117 => 80 | 116 => 79 | 0 => 0 | 124 => 83 | 105 => 98 | 21 => 21 | 119 => 116 | 46 => 66 | 139 => 119 | 138 => 118 | n => n, fun | 3 => 1 | 4 => 2 | n => n⟩
open Go.Shelf in
theorem strings_TrimLeft.sh_lays161 : Go.Proofs.Lays.n161 Tryd.prog strings_TrimLeft.sh_lays161_ren := {
  mixed := by kernel_rfl
  f119 := Tryd.func105.trans (congrArg some (by kernel_rfl))
  f137 := Tryd.func44.trans (congrArg some (by kernel_rfl))
  f151 := Tryd.func78.trans (congrArg some (by kernel_rfl))
  f152 := Tryd.func98.trans (congrArg some (by kernel_rfl))
  f161 := Tryd.func51.trans (congrArg some (by kernel_rfl))
  f197 := Tryd.func94.trans (congrArg some (by kernel_rfl))
  f217 := Tryd.func57.trans (congrArg some (by kernel_rfl))
  f224 := Tryd.func106.trans (congrArg some (by kernel_rfl))
  f225 := Tryd.func107.trans (congrArg some (by kernel_rfl))
  f227 := Tryd.func54.trans (congrArg some (by kernel_rfl))
  f228 := Tryd.func76.trans (congrArg some (by kernel_rfl))
  f231 := Tryd.func70.trans (congrArg some (by kernel_rfl))
  f233 := Tryd.func71.trans (congrArg some (by kernel_rfl))
  f235 := Tryd.func72.trans (congrArg some (by kernel_rfl))
  f260 := Tryd.func104.trans (congrArg some (by kernel_rfl))
  f266 := Tryd.func79.trans (congrArg some (by kernel_rfl))
  t0 := Tryd.underlying0
  a0 := Tryd.isAgg0
  z0 := Tryd.sizeOf0
  v0 := Tryd.zeroValue0
  t3 := Tryd.underlying3
  a3 := Tryd.isAgg3
  z3 := Tryd.sizeOf3
  v3 := Tryd.zeroValue3
  t4 := Tryd.underlying4
  a4 := Tryd.isAgg4
  z4 := Tryd.sizeOf4
  v4 := Tryd.zeroValue4
  t5 := Tryd.underlying5
  a5 := Tryd.isAgg5
  z5 := Tryd.sizeOf5
  v5 := Tryd.zeroValue5
  t9 := Tryd.underlying9
  a9 := Tryd.isAgg9
  z9 := Tryd.sizeOf9
  v9 := Tryd.zeroValue9
  t21 := Tryd.underlying21
  a21 := Tryd.isAgg21
  z21 := Tryd.sizeOf21
  v21 := Tryd.zeroValue21
  t46 := Tryd.underlying66
  a46 := Tryd.isAgg66
  z46 := Tryd.sizeOf66
  v46 := Tryd.zeroValue66
  t105 := Tryd.underlying98
  a105 := Tryd.isAgg98
  z105 := Tryd.sizeOf98
  v105 := Tryd.zeroValue98
  t116 := Tryd.underlying79
  a116 := Tryd.isAgg79
  z116 := Tryd.sizeOf79
  t117 := Tryd.underlying80
  a117 := Tryd.isAgg80
  z117 := Tryd.sizeOf80
  v117 := Tryd.zeroValue80
  t119 := Tryd.underlying116
  a119 := Tryd.isAgg116
  z119 := Tryd.sizeOf116
  t124 := Tryd.underlying83
  a124 := Tryd.isAgg83
  z124 := Tryd.sizeOf83
  v124 := Tryd.zeroValue83
  t138 := Tryd.underlying118
  a138 := Tryd.isAgg118
  z138 := Tryd.sizeOf118
  v138 := Tryd.zeroValue118
  t139 := Tryd.underlying119
  a139 := Tryd.isAgg119
  z139 := Tryd.sizeOf119
  v139 := Tryd.zeroValue119
  g3 := by kernel_rfl
  g4 := by kernel_rfl }
def strings_TrimLeft.f (a0 : ByteArray) (a1 : ByteArray) : Option ByteArray := if a0.size ≤ 9223372036854775807 ∧ a1.size < 4294967281 ∧ a1.data.toList.all (fun b => decide (b.toNat < 128)) = true then some ⟨(Lib.trimLeftS a0.data.toList a1.data.toList).toArray⟩ else none
theorem strings_TrimLeft.calls (a0 : ByteArray) (a1 : ByteArray) (r : ByteArray) (w : World) (h : strings_TrimLeft.f a0 a1 = some r) :
    Calls Tryd.prog 51 #[.string a0, .string a1] w fun e w' => e = .returned (.string r) ∧ Below w.heap.size w w' := by
  unfold strings_TrimLeft.f at h
  by_cases h1 : a0.size ≤ 9223372036854775807 ∧ a1.size < 4294967281 ∧ a1.data.toList.all (fun b => decide (b.toNat < 128)) = true
  · rw [if_pos h1] at h
    cases h
    exact Any.strings_TrimLeft_laid strings_TrimLeft.sh_lays161 (by kernel_rfl) a0 a1 w h1.2.1 (ascii_of_all h1.2.2)
  · rw [if_neg h1] at h
    cases h
end Go.Proofs.YtjopgmjmjnfcjaaDoor.PDecodeWords
