/- Part of the proof; words that it uses. -/
import Derived.Test.YtjopgmjmjnfcjaaGreatDoorPWordsx0
import Derived.Test.YtjopgmjmjnfcjaaGreatDoorPWordsx1
import Derived.Test.YtjopgmjmjnfcjaaGreatDoorPWordsx3
import Derived.Test.YtjopgmjmjnfcjaaGreatDoorPWordsx8
import Derived.Test.YtjopgmjmjnfcjaaGreatDoorPWordsx11
import Derived.Test.YtjopgmjmjnfcjaaGreatDoorPWordsx12
namespace Go.Proofs.YtjopgmjmjnfcjaaGreatDoor.PWords
open Go.RowKit Go.Proofs.YtjopgmjmjnfcjaaGreatDoorW.PrintWords Go.Proofs.YtjopgmjmjnfcjaaGreatDoorW.PrintLast
set_option linter.unusedVariables false
set_option linter.unusedSimpArgs false
def laws_FnWords.j0 : Nat → List Int → Bool → Option (Bool)
 | 0, _, _ => none
 | k + 1, x0, x39 => if x39 = true then (some false) else ((spec_DrawEncodeWords.f k x0).bind fun t633 => ((impl_EncodeWords.f k t633).bind fun bt636 => (if bt636.1 = 0 then ((impl_DecodeWords.f k bt636.2).bind fun bt641 => (if bt641.1 = 0 then ((laws_lwNums.f k bt641.2 t633).bind fun t646 => (if t646 = true then (if bt636.2.toList = ([] : List UInt8) then ((spec_EncodeWords.f k t633).bind fun bt647 => (some (bt636.2.toList == bt647.2.toList))) else (if bt636.2.size ≤ 281474976710656 then ((impl_IsPlain.f (bytesOf bt636.2)).bind fun t652 => (if t652 = true then ((spec_EncodeWords.f k t633).bind fun bt653 => (some (bt636.2.toList == bt653.2.toList))) else (some false))) else (none))) else (some false))) else (some false))) else ((spec_EncodeWords.f k t633).bind fun bt639 => (some (bt639.1 == bt636.1))))))
def laws_FnWords.f (k : Nat) (l0 : List Int) : Option (Bool) := (laws_lwBig.f l0).bind fun t616 => (if t616 = true then (some true) else ((spec_DrawDecodeWords.f k l0).bind fun t617 => ((impl_DecodeWords.f k t617).bind fun bt618 => ((spec_DecodeWords.f k t617).bind fun bt623 => (if bt618.1 = bt623.1 then ((spec_DecodeWords.f k t617).bind fun bt627 => ((laws_lwNums.f k bt618.2 bt627.2).bind fun t631 => (if t631 = true then (if bt618.1 = 0 then ((impl_CodesFault.f bt618.2).bind fun t632 => (laws_FnWords.j0 k l0 (t632 != 0))) else (laws_FnWords.j0 k l0 false)) else (laws_FnWords.j0 k l0 true)))) else (laws_FnWords.j0 k l0 true))))))
def laws_FnWords.T5 : Bool × List (List Nat × List Nat) := (true, [([], []), ([0], [0]), ([], []), ([2], [2]), ([3], [3]), ([1, 4], [1, 4]), ([5, 3], [5]), ([6], [6]), ([7, 6], [6, 7]), ([6], [6]), ([9, 6, 6], [6, 9]), ([10, 6], [6, 10]), ([8, 11, 10, 6], [6, 8, 11]), ([12, 6], [6, 12]), ([6, 13], [6, 13]), ([14, 12], [14]), ([15], [15]), ([16, 15], [15, 16]), ([17, 15], [15, 17]), ([18, 15, 15], [15, 18]), ([19], [19]), ([20, 19], [19, 20]), ([21, 19, 19], [19, 21]), ([22, 19], [19, 22]), ([19, 23, 15], [15, 19, 23]), ([15, 24], [15, 24])])
def laws_FnWords.B5 : List Nat := [0, 1, 0, 4, 12, 31, 63, 127, 255, 127, 639, 1663, 4095, 8191, 16383, 32767, 65535, 131071, 262143, 524287, 1048575, 2097151, 4194303, 8388607, 16777215, 33554431]
theorem laws_FnWords.tab5 : rtab .any (opsOf Tryz.f4 5) = laws_FnWords.T5 := by kernel_rfl
theorem laws_FnWords.bits5 : waitsOk laws_FnWords.T5.2 laws_FnWords.B5 = true := by kernel_rfl
def laws_FnWords.T12 : Bool × List (List Nat × List Nat) := (true, [([], []), ([0], [0]), ([1], [1]), ([2], [2]), ([3], [3]), ([4, 3], [3, 4]), ([3], [3]), ([5, 6, 3, 3], [3, 5, 6]), ([3, 7], [3, 7]), ([8, 7], [8]), ([9], [9]), ([10, 9], [9, 10]), ([11, 9], [9, 11]), ([12, 9, 9], [9, 12]), ([13], [13]), ([14, 13], [13, 14]), ([15, 13], [13, 15]), ([16, 13, 13], [13, 16]), ([13, 17, 9], [9, 13, 17]), ([9, 18], [9, 18]), ([19, 17], [19]), ([20], [20]), ([21, 20], [20, 21]), ([20], [20]), ([23, 20, 20], [20, 23]), ([24, 20], [20, 24]), ([22, 25, 20], [20, 22, 25]), ([20, 26], [20, 26]), ([27, 24, 0, 1, 2, 3, 4, 5, 6, 7, 8, 9, 10, 11, 12, 13, 14, 15, 16, 17, 18, 19, 20, 21, 22, 23, 24, 25, 26, 27], [27])])
def laws_FnWords.B12 : List Nat := [0, 1, 3, 7, 15, 31, 15, 127, 255, 511, 1023, 2047, 4095, 8191, 16383, 32767, 65535, 131071, 262143, 524287, 1048575, 2097151, 4194303, 2097151, 10485759, 27262975, 67108863, 134217727, 268435455]
theorem laws_FnWords.tab12 : rtab .any (opsOf Tryz.f4 12) = laws_FnWords.T12 := by kernel_rfl
theorem laws_FnWords.bits12 : waitsOk laws_FnWords.T12.2 laws_FnWords.B12 = true := by kernel_rfl
set_option maxHeartbeats 8000000 in
set_option maxRecDepth 100000 in
theorem laws_FnWords.calls (k : Nat) (A0 : Option Addr) (c0 : Nat) (l0 : List Int) (w : World) (hm_ : ∃ m, w.cell? ⟨0, 0, none⟩ = some (.int .i64 m)) (hr0 : Kd.C (Kd.int .u8) w A0 l0.length l0) (hc0 : l0.length ≤ c0) (h : laws_FnWords.f k l0 = some true) :
  Calls Tryz.prog 4 #[.slice A0 l0.length c0] w fun e w' => e = .returned (.bool true) ∧ Below w.heap.size w w' := by
 have HM_ := aM hm_
 clear hm_
 have hu25 := Tryz.underlying25
 have hu39 := Tryz.underlying39
 have HR0 := aM hr0
 have HC0 := aM hc0
 clear hr0 hc0
 have HB := aM (Below.refl w.heap.size w)
 have H : ((laws_lwBig.f l0).bind fun t616 => (if t616 = true then (some true) else ((spec_DrawDecodeWords.f k l0).bind fun t617 => ((impl_DecodeWords.f k t617).bind fun bt618 => ((spec_DecodeWords.f k t617).bind fun bt623 => (if bt618.1 = bt623.1 then ((spec_DecodeWords.f k t617).bind fun bt627 => ((laws_lwNums.f k bt618.2 bt627.2).bind fun t631 => (if t631 = true then (if bt618.1 = 0 then ((impl_CodesFault.f bt618.2).bind fun t632 => (laws_FnWords.j0 k l0 (t632 != 0))) else (laws_FnWords.j0 k l0 false)) else (laws_FnWords.j0 k l0 true)))) else (laws_FnWords.j0 k l0 true))))))) = some true := h
 clear h
 replace H := Option.bind_eq_some_iff.mp H
 obtain ⟨t616, A20, H⟩ := H
 replace H : (if t616 = true then (some true) else ((spec_DrawDecodeWords.f k l0).bind fun t617 => ((impl_DecodeWords.f k t617).bind fun bt618 => ((spec_DecodeWords.f k t617).bind fun bt623 => (if bt618.1 = bt623.1 then ((spec_DecodeWords.f k t617).bind fun bt627 => ((laws_lwNums.f k bt618.2 bt627.2).bind fun t631 => (if t631 = true then (if bt618.1 = 0 then ((impl_CodesFault.f bt618.2).bind fun t632 => (laws_FnWords.j0 k l0 (t632 != 0))) else (laws_FnWords.j0 k l0 false)) else (laws_FnWords.j0 k l0 true)))) else (laws_FnWords.j0 k l0 true)))))) = some true := H
 have A2 := aM A20
 clear A20
 have HQ_ := aM H
 clear H
 go_enter Tryz.func4, Tryz.ntmps4
 have H := HQ_.out
 clear HQ_
 by_cases c3 : t616 = true
 ·subst c3
  have H1 : (some true) = some true := rfl
  clear H
  have H := H1
  clear H1
  have HTR_ := Option.some.inj H
  go_wp2_with (first | ((with_reducible refine gate_callee (f := 13) rfl ?_); refine gL_ (some 9) Tryz.func13 #[.slice A0 l0.length c0] ?_; (with_reducible refine (laws_lwBig.calls _ _ l0 true _ ?side1 ?side2 A2.out).mono ?_); (case side1 => exact z19 HR0.out); (case side2 => exact HC0.out); rintro e w' ⟨rfl, ⟨nd, rfl⟩⟩; refine ⟨_, rfl, ?_⟩))
  go_ret
  exact ⟨bE, bB⟩
 replace c3 := Bool.eq_false_iff.mpr c3
 subst c3
 have H1 : ((spec_DrawDecodeWords.f k l0).bind fun t617 => ((impl_DecodeWords.f k t617).bind fun bt618 => ((spec_DecodeWords.f k t617).bind fun bt623 => (if bt618.1 = bt623.1 then ((spec_DecodeWords.f k t617).bind fun bt627 => ((laws_lwNums.f k bt618.2 bt627.2).bind fun t631 => (if t631 = true then (if bt618.1 = 0 then ((impl_CodesFault.f bt618.2).bind fun t632 => (laws_FnWords.j0 k l0 (t632 != 0))) else (laws_FnWords.j0 k l0 false)) else (laws_FnWords.j0 k l0 true)))) else (laws_FnWords.j0 k l0 true))))) = some true := z7
 clear H
 have H := H1
 clear H1
 replace H := Option.bind_eq_some_iff.mp H
 obtain ⟨t617, A40, H⟩ := H
 replace H : ((impl_DecodeWords.f k t617).bind fun bt618 => ((spec_DecodeWords.f k t617).bind fun bt623 => (if bt618.1 = bt623.1 then ((spec_DecodeWords.f k t617).bind fun bt627 => ((laws_lwNums.f k bt618.2 bt627.2).bind fun t631 => (if t631 = true then (if bt618.1 = 0 then ((impl_CodesFault.f bt618.2).bind fun t632 => (laws_FnWords.j0 k l0 (t632 != 0))) else (laws_FnWords.j0 k l0 false)) else (laws_FnWords.j0 k l0 true)))) else (laws_FnWords.j0 k l0 true)))) = some true := H
 have A4 := aM A40
 clear A40
 replace H := Option.bind_eq_some_iff.mp H
 obtain ⟨⟨t618, t619⟩, A50, H⟩ := H
 replace H : ((spec_DecodeWords.f k t617).bind fun bt623 => (if t618 = bt623.1 then ((spec_DecodeWords.f k t617).bind fun bt627 => ((laws_lwNums.f k t619 bt627.2).bind fun t631 => (if t631 = true then (if t618 = 0 then ((impl_CodesFault.f t619).bind fun t632 => (laws_FnWords.j0 k l0 (t632 != 0))) else (laws_FnWords.j0 k l0 false)) else (laws_FnWords.j0 k l0 true)))) else (laws_FnWords.j0 k l0 true))) = some true := H
 have A5 := aM A50
 clear A50
 have HC6 := aM H
 clear H
 go_upto_region 5 with (first | ((with_reducible refine gate_callee (f := 13) rfl ?_); refine gL_ (some 9) Tryz.func13 #[.slice A0 l0.length c0] ?_; (with_reducible refine (laws_lwBig.calls _ _ l0 false _ ?side1 ?side2 A2.out).mono ?_); (case side1 => exact z19 HR0.out); (case side2 => exact HC0.out); rintro e w' ⟨rfl, ⟨nd, rfl⟩⟩; refine ⟨_, rfl, ?_⟩) | ((with_reducible refine gate_callee (f := 14) rfl ?_); refine gL_ (some 11) Tryz.func14 #[.slice A0 l0.length c0] ?_; (with_reducible refine (spec_DrawDecodeWords.calls k _ _ l0 t617 _ ?side1 ?side2 A4.out).mono ?_); (case side1 => exact z19 HR0.out); (case side2 => exact HC0.out); rintro e w7 ⟨rfl, hb⟩; refine ⟨_, rfl, ?_⟩; replace HB := aM (below_step bB hb); (try clear hi)) | ((with_reducible refine gate_callee (f := 15) rfl ?_); refine gL_ (some 13) Tryz.func15 #[.string t617] ?_; (with_reducible refine (impl_DecodeWords.calls k t617 t618 t619 _ ?sidem A5.out).mono ?_); (case sidem => exact z33); rintro e w8 ⟨v620, rfl, ho0, hb⟩; refine ⟨_, rfl, ?_⟩; have HO621 := aM (Kd.R_lower ho0 (below_size bB)); replace HB := aM (below_step bB hb); (try clear ho0)) | ((with_reducible refine gate_dst (N := 4) rfl ?_); refine box_event ?hg (N := 4) ?hd (cs := #[.int .i64 0, .slice none 0 0]) (t := 25) ?hr ?_; (case hd => rfl); (case hg => rfl); (case hr => exact z10); intro gb622 hg w9 hbox hb; replace HO621 := aM (Kd.R_below (bR HO621) hb); have BK622 := aM (hbox); have GW622 := aM ((z21 : w.heap.size ≤ gb622)); have GE622 := aM ((z21 : w.heap.size ≤ gb622)); replace HB := aM (below_step bB hb); clear hb hbox hg; have hcz10_0 : w9.cell? ⟨gb622, 0, none⟩ = some (.int .i64 0) := (blk_cell BK622.out 0).trans rfl; have hcz10_1 : w9.cell? ⟨gb622, 1, none⟩ = some (.slice none 0 0) := (blk_cell BK622.out 1).trans rfl; have hfz10_0 := blk_frozen BK622.out 0; have hfz10_1 := blk_frozen BK622.out 1; obtain ⟨Ao11, co11, eo11⟩ := Kd.R_slice HO621.out; subst eo11))
 (try simp only [Act.put, List.setIfInBounds_toArray, List.set_cons_zero, List.set_cons_succ])
 go_cut [39] (fun v39 wc => ∃ (kq : Nat) (x39_5 : Bool), v39 = .bool x39_5 ∧ Aside0 (laws_FnWords.j0 kq l0 x39_5 = some true) ∧ Aside0 (kq ≤ k) ∧ Aside0 (Kd.R (Kd.int .i64) 2 wc w.heap.size (fun _ => True) (.slice Ao11 t619.length co11) t619) ∧ Aside0 (wc.heap[gb622]? = some (.cells #[.int .i64 t618, (.slice Ao11 t619.length co11)] 25 (0, 0))) ∧ Aside0 (Below w.heap.size w wc))
 case first =>
  have H := HC6.out
  clear HC6
  replace H := Option.bind_eq_some_iff.mp H
  obtain ⟨⟨t623, t624⟩, A120, H⟩ := H
  replace H : (if t618 = t623 then ((spec_DecodeWords.f k t617).bind fun bt627 => ((laws_lwNums.f k t619 bt627.2).bind fun t631 => (if t631 = true then (if t618 = 0 then ((impl_CodesFault.f t619).bind fun t632 => (laws_FnWords.j0 k l0 (t632 != 0))) else (laws_FnWords.j0 k l0 false)) else (laws_FnWords.j0 k l0 true)))) else (laws_FnWords.j0 k l0 true)) = some true := H
  have A12 := aM A120
  clear A120
  by_cases c13 : t618 = t623
  ·rw [if_pos c13] at H
   have c13b0 : (t618 == t623) = true := beq_iff_eq.mpr c13
   have c13b1 : (t618 != t623) = false := bne_eq_false_iff_eq.mpr c13
   clear c13
   (first | rw [c13b0] | (simp only [i64_w, i32_w]; rw [c13b0]) | skip)
   replace H := Option.bind_eq_some_iff.mp H
   obtain ⟨⟨t627, t628⟩, A140, H⟩ := H
   replace H : ((laws_lwNums.f k t619 t628).bind fun t631 => (if t631 = true then (if t618 = 0 then ((impl_CodesFault.f t619).bind fun t632 => (laws_FnWords.j0 k l0 (t632 != 0))) else (laws_FnWords.j0 k l0 false)) else (laws_FnWords.j0 k l0 true))) = some true := H
   have A14 := aM A140
   clear A140
   replace H := Option.bind_eq_some_iff.mp H
   obtain ⟨t631, A150, H⟩ := H
   replace H : (if t631 = true then (if t618 = 0 then ((impl_CodesFault.f t619).bind fun t632 => (laws_FnWords.j0 k l0 (t632 != 0))) else (laws_FnWords.j0 k l0 false)) else (laws_FnWords.j0 k l0 true)) = some true := H
   have A15 := aM A150
   clear A150
   by_cases c16 : t631 = true
   ·subst c16
    have H1 : (if t618 = 0 then ((impl_CodesFault.f t619).bind fun t632 => (laws_FnWords.j0 k l0 (t632 != 0))) else (laws_FnWords.j0 k l0 false)) = some true := z16
    clear H
    have H := H1
    clear H1
    by_cases c17 : t618 = 0
    ·rw [if_pos c17] at H
     have c17b0 : (t618 == 0) = true := beq_iff_eq.mpr c17
     have c17b1 : (t618 != 0) = false := bne_eq_false_iff_eq.mpr c17
     clear c17
     replace H := Option.bind_eq_some_iff.mp H
     obtain ⟨t632, A180, H⟩ := H
     replace H : (laws_FnWords.j0 k l0 (t632 != 0)) = some true := H
     have A18 := aM A180
     clear A180
     have H' := aM H
     clear H
     try go_wp2
     have n0_ : Aside0 (Kd.R (Kd.int .i64) 2 ((w9.setCell ⟨gb622, 0, none⟩ (.int .i64 t618)).setCell ⟨gb622, 1, none⟩ (.slice Ao11 t619.length co11)) w.heap.size (fun _ => True) (.slice Ao11 t619.length co11) t619) := ⟨z27 HO621.out BK622.out⟩
     have n1_ : Aside0 (((w9.setCell ⟨gb622, 0, none⟩ (.int .i64 t618)).setCell ⟨gb622, 1, none⟩ (.slice Ao11 t619.length co11)).heap[gb622]? = some (.cells #[.int .i64 t618, .slice Ao11 t619.length co11] 25 (0, 0))) := ⟨z17 BK622.out⟩
     have n2_ : Aside0 (Below w.heap.size w ((w9.setCell ⟨gb622, 0, none⟩ (.int .i64 t618)).setCell ⟨gb622, 1, none⟩ (.slice Ao11 t619.length co11))) := ⟨bG GE622⟩
     (try clear HO621)
     (try clear BK622)
     (try clear HB)
     generalize ((w9.setCell ⟨gb622, 0, none⟩ (.int .i64 t618)).setCell ⟨gb622, 1, none⟩ (.slice Ao11 t619.length co11)) = w19 at n0_ n1_ n2_ ⊢
     have HO621 := n0_
     have BK622 := n1_
     have HB := n2_
     clear n0_ n1_ n2_
     replace HO621 := aM (Kd.R_drew HO621.out)
     replace BK622 := aM (blk_drew BK622.out)
     replace HB := aM (below_drew1 HB.out)
     refine start_ (n := 26) (S := fun w' => w'.cell? ⟨gb622, 0, none⟩ = some (.int .i64 t618) ∧ w'.cell? ⟨gb622, 1, none⟩ = some (.slice Ao11 t619.length co11)) (ds := []) (bsA 26 0) (by kernel_rfl) rfl rfl ⟨(blk_cell BK622.out 0).trans rfl, (blk_cell BK622.out 1).trans rfl⟩ (fun hHeld => ?_); refine with_tabW laws_FnWords.tab5 laws_FnWords.bits5 (fun HT_ HW_ => ?_)
     generalize w19.drew = w20 at HO621 BK622 HB hHeld ⊢
     refine pa_ (i := 0) (N := some 14) (bsA 26 1) (h := ?_)
     refine pa_ (i := 2) (N := some 16) (bsA 26 5) (h := ?_)
     refine take_ (i := 1) (N := some 15) (v := ?_) (a' := ?_) (bsA 26 7) rfl rfl (take_ofW HT_.out HW_.out (by kernel_rfl)) (fun _ _ _ h => h) (Or.inl ⟨by rfl, ?_⟩) hHeld ?_ ?_
     rotate_left
     ·rintro w' ⟨s0, s1⟩
      go_simp
      with_reducible rfl
     rotate_left
     ·simp only [Act.put, List.setIfInBounds_toArray, List.set_cons_zero, List.set_cons_succ, i64_w, i32_w]
      rfl
     refine one_ (i := 3) (N := some 17) (bsA 26 15) rfl rfl (one_of HT_.out (by kernel_rfl)) (by decide) (fun K hK => ?_)
     refine goes_ Tryz.func16 (by kernel_rfl) rfl #[.string t617] (by rfl) rfl rfl bM ?_
     with_reducible refine (spec_DecodeWords.calls k t617 t623 t624 _ A12.out).mono ?_
     rintro e w21 ⟨v625, rfl, ho0, hb⟩
     refine ⟨_, rfl, ?_⟩
     have HO626 := aM (Kd.R_lower (Kd.R_new' ho0 (Kd.R_lt (bR HO621))) (below_size (bG GE622)))
     replace HO621 := aM (Kd.R_elder' (bR HO621) (Kd.R_base ho0) hb)
     replace BK622 := aM (blk_below (g := gb622) (o := .cells #[.int .i64 t618, .slice Ao11 t619.length co11] 25 (0, 0)) (bL BK622) hb)
     replace HB := aM (below_step (bG GE622) hb)
     (try clear hb)
     (try clear hb2)
     (try clear hk)
     (try clear hi)
     (try clear ho0)
     refine hK.out _ _ ⟨(blk_cell BK622.out 0).trans rfl, (blk_cell BK622.out 1).trans rfl⟩ (fun hHeld => ?_)
     clear hK K
     refine na_ (N := some 17) (h := ?_)
     refine pa_ (i := 4) (N := some 18) (bsA 26 31) (h := ?_)
     refine pa_ (i := 5) (N := some 19) (bsA 26 63) (h := ?_)
     refine pa_ (i := 6) (N := some 20) (bsA 26 127) (h := ?_)
     refine pa_ (i := 7) (N := some 21) (bsA 26 255) (h := ?_)
     refine pa_ (i := 9) (N := some 23) (bsA 26 767) (h := ?_)
     refine take_ (i := 8) (N := some 22) (v := ?_) (a' := ?_) (bsA 26 1023) rfl rfl (take_ofW HT_.out HW_.out (by kernel_rfl)) (fun _ _ _ h => h) (Or.inl ⟨by rfl, ?_⟩) hHeld ?_ ?_
     rotate_left
     ·rintro w' ⟨s0, s1⟩
      go_simp
      with_reducible rfl
     rotate_left
     ·simp only [Act.put, List.setIfInBounds_toArray, List.set_cons_zero, List.set_cons_succ, i64_w, i32_w]
      rfl
     refine one_ (i := 10) (N := some 24) (bsA 26 2047) rfl rfl (one_of HT_.out (by kernel_rfl)) (by decide) (fun K hK => ?_)
     refine goes_ Tryz.func16 (by kernel_rfl) rfl #[.string t617] (by rfl) rfl rfl bM ?_
     with_reducible refine (spec_DecodeWords.calls k t617 t627 t628 _ A14.out).mono ?_
     rintro e w22 ⟨v629, rfl, ho0, hb⟩
     refine ⟨_, rfl, ?_⟩
     have HO630 := aM (Kd.R_lower (Kd.R_new' (Kd.R_new' ho0 (Kd.R_lt (bR HO621))) (Kd.R_lt (bR HO626))) (below_size (bG GE622)))
     replace HO621 := aM (Kd.R_elder' (bR HO621) (Kd.R_base ho0) hb)
     replace HO626 := aM (Kd.R_elder' (bR HO626) (Kd.R_base ho0) hb)
     replace BK622 := aM (blk_below (g := gb622) (o := .cells #[.int .i64 t618, .slice Ao11 t619.length co11] 25 (0, 0)) (bL BK622) hb)
     replace HB := aM (below_step (bG GE622) hb)
     (try clear hb)
     (try clear hb2)
     (try clear hk)
     (try clear hi)
     (try clear ho0)
     obtain ⟨Ao23, co23, eo23⟩ := Kd.R_slice HO630.out
     (first | subst eo23 | (injection eo23 with f1_ f2_ f3_; have f4_ := f1_.symm; have f5_ := f3_.symm; clear f1_ f2_ f3_; subst f4_; subst f5_))
     refine hK.out _ _ ⟨(blk_cell BK622.out 0).trans rfl, (blk_cell BK622.out 1).trans rfl⟩ (fun hHeld => ?_)
     clear hK K
     refine na_ (N := some 24) (h := ?_)
     refine pa_ (i := 11) (N := some 25) (bsA 26 4095) (h := ?_)
     refine one_ (i := 12) (N := some 26) (bsA 26 8191) rfl rfl (one_of HT_.out (by kernel_rfl)) (by decide) (fun K hK => ?_)
     refine goes_ Tryz.func17 (by kernel_rfl) rfl #[.slice Ao11 t619.length co11, .slice Ao23 t628.length co23] (by rfl) rfl rfl bM ?_
     with_reducible refine (laws_lwNums.calls k _ _ t619 _ _ t628 true _ ?side1 ?side2 ?side3 ?side4 A15.out).mono ?_
     (case side1 => exact z4 HO621.out)
     (case side2 => exact (Kd.R_reads' HO621.out).2.1)
     (case side3 => exact z4 HO630.out)
     (case side4 => exact (Kd.R_reads' HO630.out).2.1)
     rintro e w' ⟨rfl, ⟨nd, rfl⟩⟩
     refine ⟨_, rfl, ?_⟩
     refine hK.out _ _ ⟨(blk_cell BK622.out 0).trans rfl, (blk_cell BK622.out 1).trans rfl⟩ (fun hHeld => ?_)
     clear hK K
     refine na_ (N := some 26) (h := ?_)
     refine pa_ (i := 13) (N := some 27) (bsA 26 16383) (h := ?_)
     refine pa_ (i := 14) (N := some 28) (bsA 26 32767) (h := ?_)
     refine pa_ (i := 15) (N := some 29) (bsA 26 65535) (h := ?_)
     refine pa_ (i := 16) (N := some 30) (bsA 26 131071) (h := ?_)
     refine take_ (i := 17) (N := some 31) (v := ?_) (a' := ?_) (bsA 26 262143) rfl rfl (take_ofW HT_.out HW_.out (by kernel_rfl)) (fun _ _ _ h => h) (Or.inl ⟨by rfl, ?_⟩) hHeld ?_ ?_
     rotate_left
     ·rintro w' ⟨s0, s1⟩
      go_simp
      with_reducible rfl
     rotate_left
     ·simp only [Act.put, List.setIfInBounds_toArray, List.set_cons_zero, List.set_cons_succ, i64_w, i32_w]
      rfl
     refine pa_ (i := 18) (N := some 32) (bsA 26 524287) (h := ?_)
     refine pa_ (i := 19) (N := some 33) (bsA 26 1048575) (h := ?_)
     refine pa_ (i := 20) (N := some 34) (bsA 26 2097151) (h := ?_)
     refine take_ (i := 21) (N := some 35) (v := ?_) (a' := ?_) (bsA 26 4194303) rfl rfl (take_ofW HT_.out HW_.out (by kernel_rfl)) (fun _ _ _ h => h) (Or.inl ⟨by rfl, ?_⟩) hHeld ?_ ?_
     rotate_left
     ·rintro w' ⟨s0, s1⟩
      go_simp
      with_reducible rfl
     rotate_left
     ·simp only [Act.put, List.setIfInBounds_toArray, List.set_cons_zero, List.set_cons_succ, i64_w, i32_w]
      rfl
     refine one_ (i := 22) (N := some 36) (bsA 26 8388607) rfl rfl (one_of HT_.out (by kernel_rfl)) (by decide) (fun K hK => ?_)
     refine goes_ Tryz.func18 (by kernel_rfl) rfl #[.slice Ao11 t619.length co11] (by rfl) rfl rfl bM ?_
     with_reducible refine (impl_CodesFault.calls _ _ t619 t632 _ ?side1 ?side2 A18.out).mono ?_
     (case side1 => exact z4 HO621.out)
     (case side2 => exact (Kd.R_reads' HO621.out).2.1)
     rintro e w' ⟨rfl, ⟨nd, rfl⟩⟩
     refine ⟨_, rfl, ?_⟩
     refine hK.out _ _ ⟨(blk_cell BK622.out 0).trans rfl, (blk_cell BK622.out 1).trans rfl⟩ (fun hHeld => ?_)
     clear hK K
     refine na_ (N := some 36) (h := ?_)
     refine pa_ (i := 23) (N := some 37) (bsA 26 16777215) (h := ?_)
     refine pa_ (i := 24) (N := some 38) (bsA 26 33554431) (h := ?_)
     refine pa_ (i := 25) (N := some 39) (bsA 26 67108863) (h := ?_)
     refine done_ (done_of HT_.out (by kernel_rfl)) ?_
     try go_wp2
     go_meet
     case rel => exact ⟨_, ((t632 != 0)), bS, H', ⟨z34⟩, ⟨z9 HO621.out⟩, ⟨bL BK622⟩, ⟨bG GE622⟩⟩
    rw [if_neg c17] at H
    have c17b0 : (t618 == 0) = false := beq_eq_false_iff_ne.mpr c17
    have c17b1 : (t618 != 0) = true := bne_iff_ne.mpr c17
    have H' := aM H
    clear H
    try go_wp2
    have n0_ : Aside0 (Kd.R (Kd.int .i64) 2 ((w9.setCell ⟨gb622, 0, none⟩ (.int .i64 t618)).setCell ⟨gb622, 1, none⟩ (.slice Ao11 t619.length co11)) w.heap.size (fun _ => True) (.slice Ao11 t619.length co11) t619) := ⟨z27 HO621.out BK622.out⟩
    have n1_ : Aside0 (((w9.setCell ⟨gb622, 0, none⟩ (.int .i64 t618)).setCell ⟨gb622, 1, none⟩ (.slice Ao11 t619.length co11)).heap[gb622]? = some (.cells #[.int .i64 t618, .slice Ao11 t619.length co11] 25 (0, 0))) := ⟨z17 BK622.out⟩
    have n2_ : Aside0 (Below w.heap.size w ((w9.setCell ⟨gb622, 0, none⟩ (.int .i64 t618)).setCell ⟨gb622, 1, none⟩ (.slice Ao11 t619.length co11))) := ⟨bG GE622⟩
    (try clear HO621)
    (try clear BK622)
    (try clear HB)
    generalize ((w9.setCell ⟨gb622, 0, none⟩ (.int .i64 t618)).setCell ⟨gb622, 1, none⟩ (.slice Ao11 t619.length co11)) = w24 at n0_ n1_ n2_ ⊢
    have HO621 := n0_
    have BK622 := n1_
    have HB := n2_
    clear n0_ n1_ n2_
    replace HO621 := aM (Kd.R_drew HO621.out)
    replace BK622 := aM (blk_drew BK622.out)
    replace HB := aM (below_drew1 HB.out)
    refine start_ (n := 26) (S := fun w' => w'.cell? ⟨gb622, 0, none⟩ = some (.int .i64 t618) ∧ w'.cell? ⟨gb622, 1, none⟩ = some (.slice Ao11 t619.length co11)) (ds := []) (bsA 26 0) (by kernel_rfl) rfl rfl ⟨(blk_cell BK622.out 0).trans rfl, (blk_cell BK622.out 1).trans rfl⟩ (fun hHeld => ?_); refine with_tabW laws_FnWords.tab5 laws_FnWords.bits5 (fun HT_ HW_ => ?_)
    generalize w24.drew = w25 at HO621 BK622 HB hHeld ⊢
    refine pa_ (i := 0) (N := some 14) (bsA 26 1) (h := ?_)
    refine pa_ (i := 2) (N := some 16) (bsA 26 5) (h := ?_)
    refine take_ (i := 1) (N := some 15) (v := ?_) (a' := ?_) (bsA 26 7) rfl rfl (take_ofW HT_.out HW_.out (by kernel_rfl)) (fun _ _ _ h => h) (Or.inl ⟨by rfl, ?_⟩) hHeld ?_ ?_
    rotate_left
    ·rintro w' ⟨s0, s1⟩
     go_simp
     with_reducible rfl
    rotate_left
    ·simp only [Act.put, List.setIfInBounds_toArray, List.set_cons_zero, List.set_cons_succ, i64_w, i32_w]
     rfl
    refine one_ (i := 3) (N := some 17) (bsA 26 15) rfl rfl (one_of HT_.out (by kernel_rfl)) (by decide) (fun K hK => ?_)
    refine goes_ Tryz.func16 (by kernel_rfl) rfl #[.string t617] (by rfl) rfl rfl bM ?_
    with_reducible refine (spec_DecodeWords.calls k t617 t623 t624 _ A12.out).mono ?_
    rintro e w26 ⟨v625, rfl, ho0, hb⟩
    refine ⟨_, rfl, ?_⟩
    have HO626 := aM (Kd.R_lower (Kd.R_new' ho0 (Kd.R_lt (bR HO621))) (below_size (bG GE622)))
    replace HO621 := aM (Kd.R_elder' (bR HO621) (Kd.R_base ho0) hb)
    replace BK622 := aM (blk_below (g := gb622) (o := .cells #[.int .i64 t618, .slice Ao11 t619.length co11] 25 (0, 0)) (bL BK622) hb)
    replace HB := aM (below_step (bG GE622) hb)
    (try clear hb)
    (try clear hb2)
    (try clear hk)
    (try clear hi)
    (try clear ho0)
    refine hK.out _ _ ⟨(blk_cell BK622.out 0).trans rfl, (blk_cell BK622.out 1).trans rfl⟩ (fun hHeld => ?_)
    clear hK K
    refine na_ (N := some 17) (h := ?_)
    refine pa_ (i := 4) (N := some 18) (bsA 26 31) (h := ?_)
    refine pa_ (i := 5) (N := some 19) (bsA 26 63) (h := ?_)
    refine pa_ (i := 6) (N := some 20) (bsA 26 127) (h := ?_)
    refine pa_ (i := 7) (N := some 21) (bsA 26 255) (h := ?_)
    refine pa_ (i := 9) (N := some 23) (bsA 26 767) (h := ?_)
    refine take_ (i := 8) (N := some 22) (v := ?_) (a' := ?_) (bsA 26 1023) rfl rfl (take_ofW HT_.out HW_.out (by kernel_rfl)) (fun _ _ _ h => h) (Or.inl ⟨by rfl, ?_⟩) hHeld ?_ ?_
    rotate_left
    ·rintro w' ⟨s0, s1⟩
     go_simp
     with_reducible rfl
    rotate_left
    ·simp only [Act.put, List.setIfInBounds_toArray, List.set_cons_zero, List.set_cons_succ, i64_w, i32_w]
     rfl
    refine one_ (i := 10) (N := some 24) (bsA 26 2047) rfl rfl (one_of HT_.out (by kernel_rfl)) (by decide) (fun K hK => ?_)
    refine goes_ Tryz.func16 (by kernel_rfl) rfl #[.string t617] (by rfl) rfl rfl bM ?_
    with_reducible refine (spec_DecodeWords.calls k t617 t627 t628 _ A14.out).mono ?_
    rintro e w27 ⟨v629, rfl, ho0, hb⟩
    refine ⟨_, rfl, ?_⟩
    have HO630 := aM (Kd.R_lower (Kd.R_new' (Kd.R_new' ho0 (Kd.R_lt (bR HO621))) (Kd.R_lt (bR HO626))) (below_size (bG GE622)))
    replace HO621 := aM (Kd.R_elder' (bR HO621) (Kd.R_base ho0) hb)
    replace HO626 := aM (Kd.R_elder' (bR HO626) (Kd.R_base ho0) hb)
    replace BK622 := aM (blk_below (g := gb622) (o := .cells #[.int .i64 t618, .slice Ao11 t619.length co11] 25 (0, 0)) (bL BK622) hb)
    replace HB := aM (below_step (bG GE622) hb)
    (try clear hb)
    (try clear hb2)
    (try clear hk)
    (try clear hi)
    (try clear ho0)
    obtain ⟨Ao28, co28, eo28⟩ := Kd.R_slice HO630.out
    (first | subst eo28 | (injection eo28 with f1_ f2_ f3_; have f4_ := f1_.symm; have f5_ := f3_.symm; clear f1_ f2_ f3_; subst f4_; subst f5_))
    refine hK.out _ _ ⟨(blk_cell BK622.out 0).trans rfl, (blk_cell BK622.out 1).trans rfl⟩ (fun hHeld => ?_)
    clear hK K
    refine na_ (N := some 24) (h := ?_)
    refine pa_ (i := 11) (N := some 25) (bsA 26 4095) (h := ?_)
    refine one_ (i := 12) (N := some 26) (bsA 26 8191) rfl rfl (one_of HT_.out (by kernel_rfl)) (by decide) (fun K hK => ?_)
    refine goes_ Tryz.func17 (by kernel_rfl) rfl #[.slice Ao11 t619.length co11, .slice Ao28 t628.length co28] (by rfl) rfl rfl bM ?_
    with_reducible refine (laws_lwNums.calls k _ _ t619 _ _ t628 true _ ?side1 ?side2 ?side3 ?side4 A15.out).mono ?_
    (case side1 => exact z4 HO621.out)
    (case side2 => exact (Kd.R_reads' HO621.out).2.1)
    (case side3 => exact z4 HO630.out)
    (case side4 => exact (Kd.R_reads' HO630.out).2.1)
    rintro e w' ⟨rfl, ⟨nd, rfl⟩⟩
    refine ⟨_, rfl, ?_⟩
    refine hK.out _ _ ⟨(blk_cell BK622.out 0).trans rfl, (blk_cell BK622.out 1).trans rfl⟩ (fun hHeld => ?_)
    clear hK K
    refine na_ (N := some 26) (h := ?_)
    refine pa_ (i := 13) (N := some 27) (bsA 26 16383) (h := ?_)
    refine pa_ (i := 14) (N := some 28) (bsA 26 32767) (h := ?_)
    refine pa_ (i := 15) (N := some 29) (bsA 26 65535) (h := ?_)
    refine pa_ (i := 16) (N := some 30) (bsA 26 131071) (h := ?_)
    refine take_ (i := 17) (N := some 31) (v := ?_) (a' := ?_) (bsA 26 262143) rfl rfl (take_ofW HT_.out HW_.out (by kernel_rfl)) (fun _ _ _ h => h) (Or.inl ⟨by rfl, ?_⟩) hHeld ?_ ?_
    rotate_left
    ·rintro w' ⟨s0, s1⟩
     go_simp
     with_reducible rfl
    rotate_left
    ·simp only [Act.put, List.setIfInBounds_toArray, List.set_cons_zero, List.set_cons_succ, i64_w, i32_w]
     rfl
    refine pa_ (i := 18) (N := some 32) (bsA 26 524287) (h := ?_)
    refine pa_ (i := 19) (N := some 33) (bsA 26 1048575) (h := ?_)
    refine pu_ (i := 20) (N := some 34) (bsA 26 2097151) (h := ?_)
    refine pu_ (i := 21) (N := some 35) (bsA 26 4194303) (h := ?_)
    refine pu_ (i := 22) (N := some 36) (bsA 26 8388607) (h := ?_)
    refine pu_ (i := 23) (N := some 37) (bsA 26 16777215) (h := ?_)
    refine pa_ (i := 24) (N := some 38) (bsA 26 33554431) (h := ?_)
    refine pa_ (i := 25) (N := some 39) (bsA 26 67108863) (h := ?_)
    refine done_ (done_of HT_.out (by kernel_rfl)) ?_
    try go_wp2
    go_meet
    case rel => exact ⟨_, (false), bS, H', ⟨z34⟩, ⟨z9 HO621.out⟩, ⟨bL BK622⟩, ⟨bG GE622⟩⟩
   replace c16 := Bool.eq_false_iff.mpr c16
   subst c16
   have H1 : (laws_FnWords.j0 k l0 true) = some true := z7
   clear H
   have H := H1
   clear H1
   have H' := aM H
   clear H
   try go_wp2
   have n0_ : Aside0 (Kd.R (Kd.int .i64) 2 ((w9.setCell ⟨gb622, 0, none⟩ (.int .i64 t618)).setCell ⟨gb622, 1, none⟩ (.slice Ao11 t619.length co11)) w.heap.size (fun _ => True) (.slice Ao11 t619.length co11) t619) := ⟨z27 HO621.out BK622.out⟩
   have n1_ : Aside0 (((w9.setCell ⟨gb622, 0, none⟩ (.int .i64 t618)).setCell ⟨gb622, 1, none⟩ (.slice Ao11 t619.length co11)).heap[gb622]? = some (.cells #[.int .i64 t618, .slice Ao11 t619.length co11] 25 (0, 0))) := ⟨z17 BK622.out⟩
   have n2_ : Aside0 (Below w.heap.size w ((w9.setCell ⟨gb622, 0, none⟩ (.int .i64 t618)).setCell ⟨gb622, 1, none⟩ (.slice Ao11 t619.length co11))) := ⟨bG GE622⟩
   (try clear HO621)
   (try clear BK622)
   (try clear HB)
   generalize ((w9.setCell ⟨gb622, 0, none⟩ (.int .i64 t618)).setCell ⟨gb622, 1, none⟩ (.slice Ao11 t619.length co11)) = w29 at n0_ n1_ n2_ ⊢
   have HO621 := n0_
   have BK622 := n1_
   have HB := n2_
   clear n0_ n1_ n2_
   replace HO621 := aM (Kd.R_drew HO621.out)
   replace BK622 := aM (blk_drew BK622.out)
   replace HB := aM (below_drew1 HB.out)
   refine start_ (n := 26) (S := fun w' => w'.cell? ⟨gb622, 0, none⟩ = some (.int .i64 t618) ∧ w'.cell? ⟨gb622, 1, none⟩ = some (.slice Ao11 t619.length co11)) (ds := []) (bsA 26 0) (by kernel_rfl) rfl rfl ⟨(blk_cell BK622.out 0).trans rfl, (blk_cell BK622.out 1).trans rfl⟩ (fun hHeld => ?_); refine with_tabW laws_FnWords.tab5 laws_FnWords.bits5 (fun HT_ HW_ => ?_)
   generalize w29.drew = w30 at HO621 BK622 HB hHeld ⊢
   refine pa_ (i := 0) (N := some 14) (bsA 26 1) (h := ?_)
   refine pa_ (i := 2) (N := some 16) (bsA 26 5) (h := ?_)
   refine take_ (i := 1) (N := some 15) (v := ?_) (a' := ?_) (bsA 26 7) rfl rfl (take_ofW HT_.out HW_.out (by kernel_rfl)) (fun _ _ _ h => h) (Or.inl ⟨by rfl, ?_⟩) hHeld ?_ ?_
   rotate_left
   ·rintro w' ⟨s0, s1⟩
    go_simp
    with_reducible rfl
   rotate_left
   ·simp only [Act.put, List.setIfInBounds_toArray, List.set_cons_zero, List.set_cons_succ, i64_w, i32_w]
    rfl
   refine one_ (i := 3) (N := some 17) (bsA 26 15) rfl rfl (one_of HT_.out (by kernel_rfl)) (by decide) (fun K hK => ?_)
   refine goes_ Tryz.func16 (by kernel_rfl) rfl #[.string t617] (by rfl) rfl rfl bM ?_
   with_reducible refine (spec_DecodeWords.calls k t617 t623 t624 _ A12.out).mono ?_
   rintro e w31 ⟨v625, rfl, ho0, hb⟩
   refine ⟨_, rfl, ?_⟩
   have HO626 := aM (Kd.R_lower (Kd.R_new' ho0 (Kd.R_lt (bR HO621))) (below_size (bG GE622)))
   replace HO621 := aM (Kd.R_elder' (bR HO621) (Kd.R_base ho0) hb)
   replace BK622 := aM (blk_below (g := gb622) (o := .cells #[.int .i64 t618, .slice Ao11 t619.length co11] 25 (0, 0)) (bL BK622) hb)
   replace HB := aM (below_step (bG GE622) hb)
   (try clear hb)
   (try clear hb2)
   (try clear hk)
   (try clear hi)
   (try clear ho0)
   refine hK.out _ _ ⟨(blk_cell BK622.out 0).trans rfl, (blk_cell BK622.out 1).trans rfl⟩ (fun hHeld => ?_)
   clear hK K
   refine na_ (N := some 17) (h := ?_)
   refine pa_ (i := 4) (N := some 18) (bsA 26 31) (h := ?_)
   refine pa_ (i := 5) (N := some 19) (bsA 26 63) (h := ?_)
   refine pa_ (i := 6) (N := some 20) (bsA 26 127) (h := ?_)
   refine pa_ (i := 7) (N := some 21) (bsA 26 255) (h := ?_)
   refine pa_ (i := 9) (N := some 23) (bsA 26 767) (h := ?_)
   refine take_ (i := 8) (N := some 22) (v := ?_) (a' := ?_) (bsA 26 1023) rfl rfl (take_ofW HT_.out HW_.out (by kernel_rfl)) (fun _ _ _ h => h) (Or.inl ⟨by rfl, ?_⟩) hHeld ?_ ?_
   rotate_left
   ·rintro w' ⟨s0, s1⟩
    go_simp
    with_reducible rfl
   rotate_left
   ·simp only [Act.put, List.setIfInBounds_toArray, List.set_cons_zero, List.set_cons_succ, i64_w, i32_w]
    rfl
   refine one_ (i := 10) (N := some 24) (bsA 26 2047) rfl rfl (one_of HT_.out (by kernel_rfl)) (by decide) (fun K hK => ?_)
   refine goes_ Tryz.func16 (by kernel_rfl) rfl #[.string t617] (by rfl) rfl rfl bM ?_
   with_reducible refine (spec_DecodeWords.calls k t617 t627 t628 _ A14.out).mono ?_
   rintro e w32 ⟨v629, rfl, ho0, hb⟩
   refine ⟨_, rfl, ?_⟩
   have HO630 := aM (Kd.R_lower (Kd.R_new' (Kd.R_new' ho0 (Kd.R_lt (bR HO621))) (Kd.R_lt (bR HO626))) (below_size (bG GE622)))
   replace HO621 := aM (Kd.R_elder' (bR HO621) (Kd.R_base ho0) hb)
   replace HO626 := aM (Kd.R_elder' (bR HO626) (Kd.R_base ho0) hb)
   replace BK622 := aM (blk_below (g := gb622) (o := .cells #[.int .i64 t618, .slice Ao11 t619.length co11] 25 (0, 0)) (bL BK622) hb)
   replace HB := aM (below_step (bG GE622) hb)
   (try clear hb)
   (try clear hb2)
   (try clear hk)
   (try clear hi)
   (try clear ho0)
   obtain ⟨Ao33, co33, eo33⟩ := Kd.R_slice HO630.out
   (first | subst eo33 | (injection eo33 with f1_ f2_ f3_; have f4_ := f1_.symm; have f5_ := f3_.symm; clear f1_ f2_ f3_; subst f4_; subst f5_))
   refine hK.out _ _ ⟨(blk_cell BK622.out 0).trans rfl, (blk_cell BK622.out 1).trans rfl⟩ (fun hHeld => ?_)
   clear hK K
   refine na_ (N := some 24) (h := ?_)
   refine pa_ (i := 11) (N := some 25) (bsA 26 4095) (h := ?_)
   refine one_ (i := 12) (N := some 26) (bsA 26 8191) rfl rfl (one_of HT_.out (by kernel_rfl)) (by decide) (fun K hK => ?_)
   refine goes_ Tryz.func17 (by kernel_rfl) rfl #[.slice Ao11 t619.length co11, .slice Ao33 t628.length co33] (by rfl) rfl rfl bM ?_
   with_reducible refine (laws_lwNums.calls k _ _ t619 _ _ t628 false _ ?side1 ?side2 ?side3 ?side4 A15.out).mono ?_
   (case side1 => exact z4 HO621.out)
   (case side2 => exact (Kd.R_reads' HO621.out).2.1)
   (case side3 => exact z4 HO630.out)
   (case side4 => exact (Kd.R_reads' HO630.out).2.1)
   rintro e w' ⟨rfl, ⟨nd, rfl⟩⟩
   refine ⟨_, rfl, ?_⟩
   refine hK.out _ _ ⟨(blk_cell BK622.out 0).trans rfl, (blk_cell BK622.out 1).trans rfl⟩ (fun hHeld => ?_)
   clear hK K
   refine na_ (N := some 26) (h := ?_)
   refine pa_ (i := 13) (N := some 27) (bsA 26 16383) (h := ?_)
   refine pa_ (i := 14) (N := some 28) (bsA 26 32767) (h := ?_)
   refine pa_ (i := 15) (N := some 29) (bsA 26 65535) (h := ?_)
   refine pu_ (i := 16) (N := some 30) (bsA 26 131071) (h := ?_)
   refine pu_ (i := 17) (N := some 31) (bsA 26 262143) (h := ?_)
   refine pu_ (i := 18) (N := some 32) (bsA 26 524287) (h := ?_)
   refine pu_ (i := 19) (N := some 33) (bsA 26 1048575) (h := ?_)
   refine pu_ (i := 20) (N := some 34) (bsA 26 2097151) (h := ?_)
   refine pu_ (i := 21) (N := some 35) (bsA 26 4194303) (h := ?_)
   refine pu_ (i := 22) (N := some 36) (bsA 26 8388607) (h := ?_)
   refine pu_ (i := 23) (N := some 37) (bsA 26 16777215) (h := ?_)
   refine pu_ (i := 24) (N := some 38) (bsA 26 33554431) (h := ?_)
   refine pa_ (i := 25) (N := some 39) (bsA 26 67108863) (h := ?_)
   refine done_ (done_of HT_.out (by kernel_rfl)) ?_
   try go_wp2
   go_meet
   case rel => exact ⟨_, (true), bS, H', ⟨z34⟩, ⟨z9 HO621.out⟩, ⟨bL BK622⟩, ⟨bG GE622⟩⟩
  rw [if_neg c13] at H
  have c13b0 : (t618 == t623) = false := beq_eq_false_iff_ne.mpr c13
  have c13b1 : (t618 != t623) = true := bne_iff_ne.mpr c13
  (first | rw [c13b0] | (simp only [i64_w, i32_w]; rw [c13b0]) | skip)
  have H' := aM H
  clear H
  try go_wp2
  have n0_ : Aside0 (Kd.R (Kd.int .i64) 2 ((w9.setCell ⟨gb622, 0, none⟩ (.int .i64 t618)).setCell ⟨gb622, 1, none⟩ (.slice Ao11 t619.length co11)) w.heap.size (fun _ => True) (.slice Ao11 t619.length co11) t619) := ⟨z27 HO621.out BK622.out⟩
  have n1_ : Aside0 (((w9.setCell ⟨gb622, 0, none⟩ (.int .i64 t618)).setCell ⟨gb622, 1, none⟩ (.slice Ao11 t619.length co11)).heap[gb622]? = some (.cells #[.int .i64 t618, .slice Ao11 t619.length co11] 25 (0, 0))) := ⟨z17 BK622.out⟩
  have n2_ : Aside0 (Below w.heap.size w ((w9.setCell ⟨gb622, 0, none⟩ (.int .i64 t618)).setCell ⟨gb622, 1, none⟩ (.slice Ao11 t619.length co11))) := ⟨bG GE622⟩
  (try clear HO621)
  (try clear BK622)
  (try clear HB)
  generalize ((w9.setCell ⟨gb622, 0, none⟩ (.int .i64 t618)).setCell ⟨gb622, 1, none⟩ (.slice Ao11 t619.length co11)) = w34 at n0_ n1_ n2_ ⊢
  have HO621 := n0_
  have BK622 := n1_
  have HB := n2_
  clear n0_ n1_ n2_
  replace HO621 := aM (Kd.R_drew HO621.out)
  replace BK622 := aM (blk_drew BK622.out)
  replace HB := aM (below_drew1 HB.out)
  refine start_ (n := 26) (S := fun w' => w'.cell? ⟨gb622, 0, none⟩ = some (.int .i64 t618) ∧ w'.cell? ⟨gb622, 1, none⟩ = some (.slice Ao11 t619.length co11)) (ds := []) (bsA 26 0) (by kernel_rfl) rfl rfl ⟨(blk_cell BK622.out 0).trans rfl, (blk_cell BK622.out 1).trans rfl⟩ (fun hHeld => ?_); refine with_tabW laws_FnWords.tab5 laws_FnWords.bits5 (fun HT_ HW_ => ?_)
  generalize w34.drew = w35 at HO621 BK622 HB hHeld ⊢
  refine pa_ (i := 0) (N := some 14) (bsA 26 1) (h := ?_)
  refine pa_ (i := 2) (N := some 16) (bsA 26 5) (h := ?_)
  refine take_ (i := 1) (N := some 15) (v := ?_) (a' := ?_) (bsA 26 7) rfl rfl (take_ofW HT_.out HW_.out (by kernel_rfl)) (fun _ _ _ h => h) (Or.inl ⟨by rfl, ?_⟩) hHeld ?_ ?_
  rotate_left
  ·rintro w' ⟨s0, s1⟩
   go_simp
   with_reducible rfl
  rotate_left
  ·simp only [Act.put, List.setIfInBounds_toArray, List.set_cons_zero, List.set_cons_succ, i64_w, i32_w]
   rfl
  refine one_ (i := 3) (N := some 17) (bsA 26 15) rfl rfl (one_of HT_.out (by kernel_rfl)) (by decide) (fun K hK => ?_)
  refine goes_ Tryz.func16 (by kernel_rfl) rfl #[.string t617] (by rfl) rfl rfl bM ?_
  with_reducible refine (spec_DecodeWords.calls k t617 t623 t624 _ A12.out).mono ?_
  rintro e w36 ⟨v625, rfl, ho0, hb⟩
  refine ⟨_, rfl, ?_⟩
  have HO626 := aM (Kd.R_lower (Kd.R_new' ho0 (Kd.R_lt (bR HO621))) (below_size (bG GE622)))
  replace HO621 := aM (Kd.R_elder' (bR HO621) (Kd.R_base ho0) hb)
  replace BK622 := aM (blk_below (g := gb622) (o := .cells #[.int .i64 t618, .slice Ao11 t619.length co11] 25 (0, 0)) (bL BK622) hb)
  replace HB := aM (below_step (bG GE622) hb)
  (try clear hb)
  (try clear hb2)
  (try clear hk)
  (try clear hi)
  (try clear ho0)
  refine hK.out _ _ ⟨(blk_cell BK622.out 0).trans rfl, (blk_cell BK622.out 1).trans rfl⟩ (fun hHeld => ?_)
  clear hK K
  refine na_ (N := some 17) (h := ?_)
  refine pa_ (i := 4) (N := some 18) (bsA 26 31) (h := ?_)
  refine pa_ (i := 5) (N := some 19) (bsA 26 63) (h := ?_)
  refine pa_ (i := 6) (N := some 20) (bsA 26 127) (h := ?_)
  refine pu_ (i := 7) (N := some 21) (bsA 26 255) (h := ?_)
  refine pu_ (i := 8) (N := some 22) (bsA 26 511) (h := ?_)
  refine pu_ (i := 9) (N := some 23) (bsA 26 1023) (h := ?_)
  refine pu_ (i := 10) (N := some 24) (bsA 26 2047) (h := ?_)
  refine pu_ (i := 11) (N := some 25) (bsA 26 4095) (h := ?_)
  refine pu_ (i := 12) (N := some 26) (bsA 26 8191) (h := ?_)
  refine pu_ (i := 13) (N := some 27) (bsA 26 16383) (h := ?_)
  refine pa_ (i := 14) (N := some 28) (bsA 26 32767) (h := ?_)
  refine pa_ (i := 15) (N := some 29) (bsA 26 65535) (h := ?_)
  refine pu_ (i := 16) (N := some 30) (bsA 26 131071) (h := ?_)
  refine pu_ (i := 17) (N := some 31) (bsA 26 262143) (h := ?_)
  refine pu_ (i := 18) (N := some 32) (bsA 26 524287) (h := ?_)
  refine pu_ (i := 19) (N := some 33) (bsA 26 1048575) (h := ?_)
  refine pu_ (i := 20) (N := some 34) (bsA 26 2097151) (h := ?_)
  refine pu_ (i := 21) (N := some 35) (bsA 26 4194303) (h := ?_)
  refine pu_ (i := 22) (N := some 36) (bsA 26 8388607) (h := ?_)
  refine pu_ (i := 23) (N := some 37) (bsA 26 16777215) (h := ?_)
  refine pu_ (i := 24) (N := some 38) (bsA 26 33554431) (h := ?_)
  refine pa_ (i := 25) (N := some 39) (bsA 26 67108863) (h := ?_)
  refine done_ (done_of HT_.out (by kernel_rfl)) ?_
  try go_wp2
  go_meet
  case rel => exact ⟨_, (true), bS, H', ⟨z34⟩, ⟨z9 HO621.out⟩, ⟨bL BK622⟩, ⟨bG GE622⟩⟩
 case rest =>
  clear HC6
  try clear c1
  try clear p2
  try clear c13
  try clear c13b0
  try clear c13b1
  try clear c16
  try clear c17
  obtain ⟨kq, x39_5, rfl, HA, HJ5, HO_623001, BK622, HB⟩ := hcut
  cases kq with
  | zero => exact absurd HA.out (by simp [laws_FnWords.j0])
  | succ kj5 =>
   have H := HA.out
   clear HA
   simp only [laws_FnWords.j0] at H
   by_cases c37 : x39_5 = true
   ·subst c37
    have H1 : (some false) = some true := z16
    exact absurd H1 (by simp)
   replace c37 := Bool.eq_false_iff.mpr c37
   subst c37
   have H1 : ((spec_DrawEncodeWords.f kj5 l0).bind fun t633 => ((impl_EncodeWords.f kj5 t633).bind fun bt636 => (if bt636.1 = 0 then ((impl_DecodeWords.f kj5 bt636.2).bind fun bt641 => (if bt641.1 = 0 then ((laws_lwNums.f kj5 bt641.2 t633).bind fun t646 => (if t646 = true then (if bt636.2.toList = ([] : List UInt8) then ((spec_EncodeWords.f kj5 t633).bind fun bt647 => (some (bt636.2.toList == bt647.2.toList))) else (if bt636.2.size ≤ 281474976710656 then ((impl_IsPlain.f (bytesOf bt636.2)).bind fun t652 => (if t652 = true then ((spec_EncodeWords.f kj5 t633).bind fun bt653 => (some (bt636.2.toList == bt653.2.toList))) else (some false))) else (none))) else (some false))) else (some false))) else ((spec_EncodeWords.f kj5 t633).bind fun bt639 => (some (bt639.1 == bt636.1)))))) = some true := z7
   clear H
   have H := H1
   clear H1
   replace H := Option.bind_eq_some_iff.mp H
   obtain ⟨t633, A380, H⟩ := H
   replace H : ((impl_EncodeWords.f kj5 t633).bind fun bt636 => (if bt636.1 = 0 then ((impl_DecodeWords.f kj5 bt636.2).bind fun bt641 => (if bt641.1 = 0 then ((laws_lwNums.f kj5 bt641.2 t633).bind fun t646 => (if t646 = true then (if bt636.2.toList = ([] : List UInt8) then ((spec_EncodeWords.f kj5 t633).bind fun bt647 => (some (bt636.2.toList == bt647.2.toList))) else (if bt636.2.size ≤ 281474976710656 then ((impl_IsPlain.f (bytesOf bt636.2)).bind fun t652 => (if t652 = true then ((spec_EncodeWords.f kj5 t633).bind fun bt653 => (some (bt636.2.toList == bt653.2.toList))) else (some false))) else (none))) else (some false))) else (some false))) else ((spec_EncodeWords.f kj5 t633).bind fun bt639 => (some (bt639.1 == bt636.1))))) = some true := H
   have A38 := aM A380
   clear A380
   replace H := Option.bind_eq_some_iff.mp H
   obtain ⟨⟨t636, t637⟩, A390, H⟩ := H
   replace H : (if t636 = 0 then ((impl_DecodeWords.f kj5 t637).bind fun bt641 => (if bt641.1 = 0 then ((laws_lwNums.f kj5 bt641.2 t633).bind fun t646 => (if t646 = true then (if t637.toList = ([] : List UInt8) then ((spec_EncodeWords.f kj5 t633).bind fun bt647 => (some (t637.toList == bt647.2.toList))) else (if t637.size ≤ 281474976710656 then ((impl_IsPlain.f (bytesOf t637)).bind fun t652 => (if t652 = true then ((spec_EncodeWords.f kj5 t633).bind fun bt653 => (some (t637.toList == bt653.2.toList))) else (some false))) else (none))) else (some false))) else (some false))) else ((spec_EncodeWords.f kj5 t633).bind fun bt639 => (some (bt639.1 == t636)))) = some true := H
   have A39 := aM A390
   clear A390
   by_cases c40 : t636 = 0
   ·rw [if_pos c40] at H
    have c40b0 : (t636 == 0) = true := beq_iff_eq.mpr c40
    have c40b1 : (t636 != 0) = false := bne_eq_false_iff_eq.mpr c40
    clear c40
    replace H := Option.bind_eq_some_iff.mp H
    obtain ⟨⟨t641, t642⟩, A410, H⟩ := H
    replace H : (if t641 = 0 then ((laws_lwNums.f kj5 t642 t633).bind fun t646 => (if t646 = true then (if t637.toList = ([] : List UInt8) then ((spec_EncodeWords.f kj5 t633).bind fun bt647 => (some (t637.toList == bt647.2.toList))) else (if t637.size ≤ 281474976710656 then ((impl_IsPlain.f (bytesOf t637)).bind fun t652 => (if t652 = true then ((spec_EncodeWords.f kj5 t633).bind fun bt653 => (some (t637.toList == bt653.2.toList))) else (some false))) else (none))) else (some false))) else (some false)) = some true := H
    have A41 := aM A410
    clear A410
    have HQ_ := aM H
    clear H
    try go_wp2_with (first | ((with_reducible refine gate_callee (f := 19) rfl ?_); refine gL_ (some 41) Tryz.func19 #[.slice A0 l0.length c0] ?_; (with_reducible refine (spec_DrawEncodeWords.calls kj5 _ _ l0 t633 _ ?side1 ?side2 A38.out).mono ?_); (case side1 => exact z12 HR0.out); (case side2 => exact HC0.out); rintro e w47 ⟨v634, rfl, ho0, hb⟩; refine ⟨_, rfl, ?_⟩; have HO635 := aM (Kd.R_lower (Kd.R_new' ho0 (Kd.R_lt (bR HO_623001))) (below_size (bG GE622))); replace HO_623001 := aM (Kd.R_elder' (bR HO_623001) (Kd.R_base ho0) hb); replace BK622 := aM (blk_below (g := gb622) (o := .cells #[.int .i64 t618, .slice Ao11 t619.length co11] 25 (0, 0)) (bL BK622) hb); replace HB := aM (below_step (bG GE622) hb); (try clear ho0); obtain ⟨Ao48, co48, eo48⟩ := Kd.R_slice HO635.out; subst eo48) | ((with_reducible refine gate_callee (f := 20) rfl ?_); refine gL_ (some 43) Tryz.func20 #[.slice Ao48 t633.length co48] ?_; (with_reducible refine (impl_EncodeWords.calls kj5 _ _ t633 t636 t637 _ ?sidem ?side1 ?side2 A39.out).mono ?_); (case sidem => exact z33); (case side1 => exact z4 HO635.out); (case side2 => exact (Kd.R_reads' HO635.out).2.1); rintro e w49 ⟨rfl, hb⟩; refine ⟨_, rfl, ?_⟩; replace HO_623001 := aM (Kd.R_below (bR HO_623001) hb); replace HO635 := aM (Kd.R_below (bR HO635) hb); replace BK622 := aM (blk_below (g := gb622) (o := .cells #[.int .i64 t618, .slice Ao11 t619.length co11] 25 (0, 0)) (bL BK622) hb); replace HB := aM (below_step (bG GE622) hb); (try clear hi)) | ((with_reducible refine gate_dst (N := 6) rfl ?_); refine box_event ?hg (N := 6) ?hd (cs := #[.int .i64 0, .string (⟨#[]⟩ : ByteArray)]) (t := 39) ?hr ?_; (case hd => rfl); (case hg => rfl); (case hr => exact z10); intro gb638 hg w50 hbox hb; replace HO_623001 := aM (Kd.R_below (bR HO_623001) hb); replace HO635 := aM (Kd.R_below (bR HO635) hb); have BK638 := aM (hbox); have GW638 := aM ((by rw [hg]; exact (below_size (bG GE622)) : w.heap.size ≤ gb638)); have GE638 := aM ((by rw [hg]; exact (below_size (bG GE622)) : w.heap.size ≤ gb638)); replace HB := aM (below_step (bG GE622) hb); have NB622_638 := aM ((z41 : gb622 ≠ gb638)); have NB638_622 := aM ((z42 : gb638 ≠ gb622)); replace BK622 := aM (blk_below (g := gb622) (o := .cells #[.int .i64 t618, .slice Ao11 t619.length co11] 25 (0, 0)) (bL BK622) hb); clear hb hbox hg; have hnb51 := NB638_622.out; have hnc51 := NB622_638.out; have hcz52_0 : w50.cell? ⟨gb638, 0, none⟩ = some (.int .i64 0) := (blk_cell BK638.out 0).trans rfl; have hcz52_1 : w50.cell? ⟨gb638, 1, none⟩ = some (.string (⟨#[]⟩ : ByteArray)) := (blk_cell BK638.out 1).trans rfl; have hfz52_0 := blk_frozen BK638.out 0; have hfz52_1 := blk_frozen BK638.out 1) | ((with_reducible refine gate_callee (f := 15) rfl ?_); refine gL_ (some 55) Tryz.func15 #[.string t637] ?_; (with_reducible refine (impl_DecodeWords.calls kj5 t637 t641 t642 _ ?sidem A41.out).mono ?_); (case sidem => exact z33); rintro e w53 ⟨v643, rfl, ho0, hb⟩; refine ⟨_, rfl, ?_⟩; have HO644 := aM (Kd.R_lower (Kd.R_new' (Kd.R_new' ho0 (Kd.R_lt (z28 HO_623001.out BK638.out))) (Kd.R_lt (z28 HO635.out BK638.out))) (below_size (bG2 GE622 GE638))); replace HO_623001 := aM (Kd.R_elder' (z28 HO_623001.out BK638.out) (Kd.R_base ho0) hb); replace HO635 := aM (Kd.R_elder' (z28 HO635.out BK638.out) (Kd.R_base ho0) hb); replace BK622 := aM (blk_below (g := gb622) (o := .cells #[.int .i64 t618, .slice Ao11 t619.length co11] 25 (0, 0)) (z11 NB622_638.out BK622.out) hb); replace BK638 := aM (blk_below (g := gb638) (o := .cells #[.int .i64 t636, .string t637] 39 (0, 0)) (by (with_reducible repeat (first | refine blk_drewN ?_ _ | refine blk_drew ?_ | refine blk_alloc ?_ _)); refine blk_put (cs := #[.int .i64 t636, .string (⟨#[]⟩ : ByteArray)]) ?_ 1 _ rfl; (with_reducible repeat (first | refine blk_drewN ?_ _ | refine blk_drew ?_ | refine blk_alloc ?_ _)); refine blk_put (cs := #[.int .i64 0, .string (⟨#[]⟩ : ByteArray)]) ?_ 0 _ rfl; (with_reducible repeat (first | refine blk_drewN ?_ _ | refine blk_drew ?_ | refine blk_alloc ?_ _)); exact BK638.out) hb); replace HB := aM (below_step (bG2 GE622 GE638) hb); (try clear ho0)) | ((with_reducible refine gate_dst (N := 7) rfl ?_); refine box_event ?hg (N := 7) ?hd (cs := #[.int .i64 0, .slice none 0 0]) (t := 25) ?hr ?_; (case hd => rfl); (case hg => rfl); (case hr => exact z10); intro gb645 hg w54 hbox hb; replace HO_623001 := aM (Kd.R_below (bR HO_623001) hb); replace HO635 := aM (Kd.R_below (bR HO635) hb); replace HO644 := aM (Kd.R_below (bR HO644) hb); have BK645 := aM (hbox); have GW645 := aM ((by rw [hg]; exact (below_size (bG2 GE622 GE638)) : w.heap.size ≤ gb645)); have GE645 := aM ((by rw [hg]; exact (below_size (bG2 GE622 GE638)) : w.heap.size ≤ gb645)); replace HB := aM (below_step (bG2 GE622 GE638) hb); have NB622_645 := aM ((z41 : gb622 ≠ gb645)); have NB645_622 := aM ((z42 : gb645 ≠ gb622)); replace BK622 := aM (blk_below (g := gb622) (o := .cells #[.int .i64 t618, .slice Ao11 t619.length co11] 25 (0, 0)) (bL BK622) hb); have NB638_645 := aM ((by rw [hg]; exact Nat.ne_of_lt (blk_lt (g := gb638) (o := .cells #[.int .i64 t636, .string t637] 39 (0, 0)) (bL BK638)) : gb638 ≠ gb645)); have NB645_638 := aM ((by rw [hg]; exact Nat.ne_of_gt (blk_lt (g := gb638) (o := .cells #[.int .i64 t636, .string t637] 39 (0, 0)) (bL BK638)) : gb645 ≠ gb638)); replace BK638 := aM (blk_below (g := gb638) (o := .cells #[.int .i64 t636, .string t637] 39 (0, 0)) (bL BK638) hb); clear hb hbox hg; have hnb55 := NB645_622.out; have hnc55 := NB622_645.out; have hnb56 := NB645_638.out; have hnc56 := NB638_645.out; have hcz57_0 : w54.cell? ⟨gb645, 0, none⟩ = some (.int .i64 0) := (blk_cell BK645.out 0).trans rfl; have hcz57_1 : w54.cell? ⟨gb645, 1, none⟩ = some (.slice none 0 0) := (blk_cell BK645.out 1).trans rfl; have hfz57_0 := blk_frozen BK645.out 0; have hfz57_1 := blk_frozen BK645.out 1; obtain ⟨Ao58, co58, eo58⟩ := Kd.R_slice HO644.out; subst eo58))
    have n0_ : Aside0 (Kd.R (Kd.int .i64) 2 ((w54.setCell ⟨gb645, 0, none⟩ (.int .i64 t641)).setCell ⟨gb645, 1, none⟩ (.slice Ao58 t642.length co58)) w.heap.size (fun k_ => some k_ ≠ (.slice Ao48 t633.length co48 : Value).ownBlock ∧ some k_ ≠ (.slice Ao58 t642.length co58 : Value).ownBlock) (.slice Ao11 t619.length co11) t619) := ⟨z35 HO_623001.out BK645.out⟩
    have n1_ : Aside0 (Kd.R (Kd.int .i64) 2 ((w54.setCell ⟨gb645, 0, none⟩ (.int .i64 t641)).setCell ⟨gb645, 1, none⟩ (.slice Ao58 t642.length co58)) w.heap.size (fun k_ => some k_ ≠ (.slice Ao11 t619.length co11 : Value).ownBlock ∧ some k_ ≠ (.slice Ao58 t642.length co58 : Value).ownBlock) (.slice Ao48 t633.length co48) t633) := ⟨z35 HO635.out BK645.out⟩
    have n2_ : Aside0 (Kd.R (Kd.int .i64) 2 ((w54.setCell ⟨gb645, 0, none⟩ (.int .i64 t641)).setCell ⟨gb645, 1, none⟩ (.slice Ao58 t642.length co58)) w.heap.size (fun k_ => some k_ ≠ (.slice Ao11 t619.length co11 : Value).ownBlock ∧ some k_ ≠ (.slice Ao48 t633.length co48 : Value).ownBlock) (.slice Ao58 t642.length co58) t642) := ⟨z35 HO644.out BK645.out⟩
    have n3_ : Aside0 (((w54.setCell ⟨gb645, 0, none⟩ (.int .i64 t641)).setCell ⟨gb645, 1, none⟩ (.slice Ao58 t642.length co58)).heap[gb622]? = some (.cells #[.int .i64 t618, .slice Ao11 t619.length co11] 25 (0, 0))) := ⟨z11 NB622_645.out BK622.out⟩
    have n4_ : Aside0 (((w54.setCell ⟨gb645, 0, none⟩ (.int .i64 t641)).setCell ⟨gb645, 1, none⟩ (.slice Ao58 t642.length co58)).heap[gb638]? = some (.cells #[.int .i64 t636, .string t637] 39 (0, 0))) := ⟨z11 NB638_645.out BK638.out⟩
    have n5_ : Aside0 (((w54.setCell ⟨gb645, 0, none⟩ (.int .i64 t641)).setCell ⟨gb645, 1, none⟩ (.slice Ao58 t642.length co58)).heap[gb645]? = some (.cells #[.int .i64 t641, .slice Ao58 t642.length co58] 25 (0, 0))) := ⟨by (with_reducible repeat (first | refine blk_drewN ?_ _ | refine blk_drew ?_ | refine blk_alloc ?_ _)); refine blk_put (cs := #[.int .i64 t641, .slice none 0 0]) ?_ 1 _ rfl; (with_reducible repeat (first | refine blk_drewN ?_ _ | refine blk_drew ?_ | refine blk_alloc ?_ _)); refine blk_put (cs := #[.int .i64 0, .slice none 0 0]) ?_ 0 _ rfl; (with_reducible repeat (first | refine blk_drewN ?_ _ | refine blk_drew ?_ | refine blk_alloc ?_ _)); exact BK645.out⟩
    have n6_ : Aside0 (Below w.heap.size w ((w54.setCell ⟨gb645, 0, none⟩ (.int .i64 t641)).setCell ⟨gb645, 1, none⟩ (.slice Ao58 t642.length co58))) := ⟨z15 GE622.out GE638.out GE645.out⟩
    (try clear HO_623001)
    (try clear HO635)
    (try clear HO644)
    (try clear BK622)
    (try clear BK638)
    (try clear BK645)
    (try clear HB)
    generalize ((w54.setCell ⟨gb645, 0, none⟩ (.int .i64 t641)).setCell ⟨gb645, 1, none⟩ (.slice Ao58 t642.length co58)) = w59 at n0_ n1_ n2_ n3_ n4_ n5_ n6_ ⊢
    have HO_623001 := n0_
    have HO635 := n1_
    have HO644 := n2_
    have BK622 := n3_
    have BK638 := n4_
    have BK645 := n5_
    have HB := n6_
    clear n0_ n1_ n2_ n3_ n4_ n5_ n6_
    replace HO_623001 := aM (Kd.R_drew HO_623001.out)
    replace HO635 := aM (Kd.R_drew HO635.out)
    replace HO644 := aM (Kd.R_drew HO644.out)
    replace BK622 := aM (blk_drew BK622.out)
    replace BK638 := aM (blk_drew BK638.out)
    replace BK645 := aM (blk_drew BK645.out)
    replace HB := aM (below_drew1 HB.out)
    have H := HQ_.out
    clear HQ_
    by_cases c42 : t641 = 0
    ·rw [if_pos c42] at H
     have c42b0 : (t641 == 0) = true := beq_iff_eq.mpr c42
     have c42b1 : (t641 != 0) = false := bne_eq_false_iff_eq.mpr c42
     clear c42
     replace H := Option.bind_eq_some_iff.mp H
     obtain ⟨t646, A430, H⟩ := H
     replace H : (if t646 = true then (if t637.toList = ([] : List UInt8) then ((spec_EncodeWords.f kj5 t633).bind fun bt647 => (some (t637.toList == bt647.2.toList))) else (if t637.size ≤ 281474976710656 then ((impl_IsPlain.f (bytesOf t637)).bind fun t652 => (if t652 = true then ((spec_EncodeWords.f kj5 t633).bind fun bt653 => (some (t637.toList == bt653.2.toList))) else (some false))) else (none))) else (some false)) = some true := H
     have A43 := aM A430
     clear A430
     (try simp only [c42b0, c42b1])
     by_cases c44 : t646 = true
     ·subst c44
      have H1 : (if t637.toList = ([] : List UInt8) then ((spec_EncodeWords.f kj5 t633).bind fun bt647 => (some (t637.toList == bt647.2.toList))) else (if t637.size ≤ 281474976710656 then ((impl_IsPlain.f (bytesOf t637)).bind fun t652 => (if t652 = true then ((spec_EncodeWords.f kj5 t633).bind fun bt653 => (some (t637.toList == bt653.2.toList))) else (some false))) else (none))) = some true := z16
      clear H
      have H := H1
      clear H1
      have HQ_ := aM H
      clear H
      refine start_ (n := 29) (S := fun w' => w'.cell? ⟨gb645, 0, none⟩ = some (.int .i64 t641) ∧ w'.cell? ⟨gb645, 1, none⟩ = some (.slice Ao58 t642.length co58) ∧ w'.cell? ⟨gb638, 0, none⟩ = some (.int .i64 t636) ∧ w'.cell? ⟨gb638, 1, none⟩ = some (.string t637)) (ds := []) (bsA 29 0) (by kernel_rfl) rfl rfl ⟨(blk_cell BK645.out 0).trans rfl, (blk_cell BK645.out 1).trans rfl, (blk_cell BK638.out 0).trans rfl, (blk_cell BK638.out 1).trans rfl⟩ (fun hHeld => ?_); refine with_tabW laws_FnWords.tab12 laws_FnWords.bits12 (fun HT_ HW_ => ?_)
      generalize w59.drew = w60 at HO_623001 HO635 HO644 BK622 BK638 BK645 HB hHeld ⊢
      refine pa_ (i := 0) (N := some 56) (bsA 29 1) (h := ?_)
      refine take_ (i := 1) (N := some 57) (v := ?_) (a' := ?_) (bsA 29 3) rfl rfl (take_ofW HT_.out HW_.out (by kernel_rfl)) (fun _ _ _ h => h) (Or.inl ⟨by rfl, ?_⟩) hHeld ?_ ?_
      rotate_left
      ·rintro w' ⟨s0, s1, s2, s3⟩
       go_simp
       with_reducible rfl
      rotate_left
      ·simp only [Act.put, List.setIfInBounds_toArray, List.set_cons_zero, List.set_cons_succ, i64_w, i32_w]
       rfl
      refine pa_ (i := 2) (N := some 58) (bsA 29 7) (h := ?_)
      refine pa_ (i := 3) (N := some 59) (bsA 29 15) (h := ?_)
      refine pa_ (i := 4) (N := some 60) (bsA 29 31) (h := ?_)
      refine pa_ (i := 6) (N := some 62) (bsA 29 95) (h := ?_)
      refine take_ (i := 5) (N := some 61) (v := ?_) (a' := ?_) (bsA 29 127) rfl rfl (take_ofW HT_.out HW_.out (by kernel_rfl)) (fun _ _ _ h => h) (Or.inl ⟨by rfl, ?_⟩) hHeld ?_ ?_
      rotate_left
      ·rintro w' ⟨s0, s1, s2, s3⟩
       go_simp
       with_reducible rfl
      rotate_left
      ·simp only [Act.put, List.setIfInBounds_toArray, List.set_cons_zero, List.set_cons_succ, i64_w, i32_w]
       rfl
      refine one_ (i := 7) (N := some 63) (bsA 29 255) rfl rfl (one_of HT_.out (by kernel_rfl)) (by decide) (fun K hK => ?_)
      refine goes_ Tryz.func17 (by kernel_rfl) rfl #[.slice Ao58 t642.length co58, .slice Ao48 t633.length co48] (by rfl) rfl rfl bM ?_
      with_reducible refine (laws_lwNums.calls kj5 _ _ t642 _ _ t633 true _ ?side1 ?side2 ?side3 ?side4 A43.out).mono ?_
      (case side1 => exact z4 HO644.out)
      (case side2 => exact (Kd.R_reads' HO644.out).2.1)
      (case side3 => exact z4 HO635.out)
      (case side4 => exact (Kd.R_reads' HO635.out).2.1)
      rintro e w' ⟨rfl, ⟨nd, rfl⟩⟩
      refine ⟨_, rfl, ?_⟩
      refine hK.out _ _ ⟨(blk_cell BK645.out 0).trans rfl, (blk_cell BK645.out 1).trans rfl, (blk_cell BK638.out 0).trans rfl, (blk_cell BK638.out 1).trans rfl⟩ (fun hHeld => ?_)
      clear hK K
      refine na_ (N := some 63) (h := ?_)
      refine pa_ (i := 8) (N := some 64) (bsA 29 511) (h := ?_)
      refine pa_ (i := 9) (N := some 65) (bsA 29 1023) (h := ?_)
      refine pa_ (i := 10) (N := some 66) (bsA 29 2047) (h := ?_)
      refine take_ (i := 11) (N := some 67) (v := ?_) (a' := ?_) (bsA 29 4095) rfl rfl (take_ofW HT_.out HW_.out (by kernel_rfl)) (fun _ _ _ h => h) (Or.inl ⟨by rfl, ?_⟩) hHeld ?_ ?_
      rotate_left
      ·rintro w' ⟨s0, s1, s2, s3⟩
       go_simp
       with_reducible rfl
      rotate_left
      ·simp only [Act.put, List.setIfInBounds_toArray, List.set_cons_zero, List.set_cons_succ, i64_w, i32_w]
       rfl
      refine pa_ (i := 12) (N := some 68) (bsA 29 8191) (h := ?_)
      refine pa_ (i := 13) (N := some 69) (bsA 29 16383) (h := ?_)
      have H := HQ_.out
      clear HQ_
      by_cases c45 : t637.toList = ([] : List UInt8)
      ·rw [if_pos c45] at H
       have c45b0 : (t637.toList == ([] : List UInt8)) = true := beq_iff_eq.mpr c45
       have c45b2 : t637.toList.isEmpty = true := emT c45b0
       have c45b1 : (t637.toList != ([] : List UInt8)) = false := bne_eq_false_iff_eq.mpr c45
       clear c45
       replace H := Option.bind_eq_some_iff.mp H
       obtain ⟨⟨t647, t648⟩, A460, H⟩ := H
       replace H : (some (t637.toList == t648.toList)) = some true := H
       have A46 := aM A460
       clear A460
       have HTR_ := Option.some.inj H
       (try simp only [c45b0, c45b1, c45b2])
       refine pu_ (i := 14) (N := some 70) (bsA 29 32767) (h := ?_)
       refine pu_ (i := 15) (N := some 71) (bsA 29 65535) (h := ?_)
       refine pu_ (i := 16) (N := some 72) (bsA 29 131071) (h := ?_)
       refine pu_ (i := 17) (N := some 73) (bsA 29 262143) (h := ?_)
       refine pa_ (i := 18) (N := some 74) (bsA 29 524287) (h := ?_)
       refine pa_ (i := 19) (N := some 75) (bsA 29 1048575) (h := ?_)
       refine pa_ (i := 20) (N := some 76) (bsA 29 2097151) (h := ?_)
       refine pa_ (i := 21) (N := some 77) (bsA 29 4194303) (h := ?_)
       refine pa_ (i := 23) (N := some 79) (bsA 29 12582911) (h := ?_)
       refine take_ (i := 22) (N := some 78) (v := ?_) (a' := ?_) (bsA 29 16777215) rfl rfl (take_ofW HT_.out HW_.out (by kernel_rfl)) (fun _ _ _ h => h) (Or.inl ⟨by rfl, ?_⟩) hHeld ?_ ?_
       rotate_left
       ·rintro w' ⟨s0, s1, s2, s3⟩
        go_simp
        with_reducible rfl
       rotate_left
       ·simp only [Act.put, List.setIfInBounds_toArray, List.set_cons_zero, List.set_cons_succ, i64_w, i32_w]
        rfl
       refine one_ (i := 24) (N := some 80) (bsA 29 33554431) rfl rfl (one_of HT_.out (by kernel_rfl)) (by decide) (fun K hK => ?_)
       refine goes_ Tryz.func21 (by kernel_rfl) rfl #[.slice Ao48 t633.length co48] (by rfl) rfl rfl bM ?_
       with_reducible refine (spec_EncodeWords.calls kj5 _ _ t633 t647 t648 _ ?side1 ?side2 A46.out).mono ?_
       (case side1 => exact z4 HO635.out)
       (case side2 => exact (Kd.R_reads' HO635.out).2.1)
       rintro e w61 ⟨rfl, hb⟩
       refine ⟨_, rfl, ?_⟩
       replace HO_623001 := aM (Kd.R_below (bR HO_623001) hb)
       replace HO635 := aM (Kd.R_below (bR HO635) hb)
       replace HO644 := aM (Kd.R_below (bR HO644) hb)
       replace BK622 := aM (blk_below (g := gb622) (o := .cells #[.int .i64 t618, .slice Ao11 t619.length co11] 25 (0, 0)) (bL BK622) hb)
       replace BK638 := aM (blk_below (g := gb638) (o := .cells #[.int .i64 t636, .string t637] 39 (0, 0)) (bL BK638) hb)
       replace BK645 := aM (blk_below (g := gb645) (o := .cells #[.int .i64 t641, .slice Ao58 t642.length co58] 25 (0, 0)) (bL BK645) hb)
       replace HB := aM (below_step (z15 GE622.out GE638.out GE645.out) hb)
       (try clear hb)
       (try clear hb2)
       (try clear hk)
       (try clear hi)
       refine hK.out _ _ ⟨(blk_cell BK645.out 0).trans rfl, (blk_cell BK645.out 1).trans rfl, (blk_cell BK638.out 0).trans rfl, (blk_cell BK638.out 1).trans rfl⟩ (fun hHeld => ?_)
       clear hK K
       refine na_ (N := some 80) (h := ?_)
       refine pa_ (i := 25) (N := some 81) (bsA 29 67108863) (h := ?_)
       refine pa_ (i := 26) (N := some 82) (bsA 29 134217727) (h := ?_)
       refine pa_ (i := 27) (N := some 83) (bsA 29 268435455) (h := ?_)
       refine pa_ (i := 28) (N := some 2) (bsA 29 536870911) (h := ?_)
       refine done_ (done_of HT_.out (by kernel_rfl)) ?_
       try go_wp2
       go_ret
       exact ⟨bE, z15 GE622.out GE638.out GE645.out⟩
      rw [if_neg c45] at H
      have c45b0 : (t637.toList == ([] : List UInt8)) = false := beq_eq_false_iff_ne.mpr c45
      have c45b2 : t637.toList.isEmpty = false := emF c45b0
      have c45b1 : (t637.toList != ([] : List UInt8)) = true := bne_iff_ne.mpr c45
      (try simp only [c45b0, c45b1, c45b2])
      by_cases c62 : t637.size ≤ 281474976710656
      ·rw [if_pos c62] at H
       have c62b0 := eq_true c62
       have c62b1 : decide (t637.size ≤ 281474976710656) = true := decide_eq_true c62
       clear c62
       obtain ⟨y649, hy649⟩ : ∃ y_ : List Int, y_ = (bytesOf t637) := ⟨_, rfl⟩
       replace H : ((impl_IsPlain.f y649).bind fun t652 => (if t652 = true then ((spec_EncodeWords.f kj5 t633).bind fun bt653 => (some (t637.toList == bt653.2.toList))) else (some false))) = some true := z0 hy649
       have Ny649 := aM hy649
       clear hy649
       replace H := Option.bind_eq_some_iff.mp H
       obtain ⟨t652, A630, H⟩ := H
       replace H : (if t652 = true then ((spec_EncodeWords.f kj5 t633).bind fun bt653 => (some (t637.toList == bt653.2.toList))) else (some false)) = some true := H
       have A63 := aM A630
       clear A630
       have HQ_ := aM H
       clear H
       refine pa_ (i := 14) (N := some 70) (bsA 29 32767) (h := ?_)
       refine take_ (i := 15) (N := some 71) (v := ?_) (a' := ?_) (bsA 29 65535) rfl rfl (take_ofW HT_.out HW_.out (by kernel_rfl)) (fun _ _ _ h => h) (Or.inl ⟨by rfl, ?_⟩) hHeld ?_ ?_
       rotate_left
       ·rintro w' ⟨s0, s1, s2, s3⟩
        go_simp
        with_reducible rfl
       rotate_left
       ·simp only [Act.put, List.setIfInBounds_toArray, List.set_cons_zero, List.set_cons_succ, i64_w, i32_w]
        rfl
       refine one_ (i := 16) (N := some 72) (bsA 29 131071) rfl rfl (one_of HT_.out (by kernel_rfl)) (by decide) (fun K hK => ?_)
       refine Kd.R_conv_step _ 5 (by rfl) (N := 72) rfl 9 22 _ rfl t637 rfl Tryz.underlying9 Tryz.underlying22 Tryz.underlying5 (ok := fun _ => True) trivial (pI) (Below.refl _ _) (Nat.le_refl _) ?_
       intro v650 w80 ho81 hb hg_ hnew_
       clear hg_ hnew_
       (first | rw [← Ny649.out] at ho81 | (simp only [Int.reduceToNat] at ho81; rw [← Ny649.out] at ho81))
       replace HO_623001 := aM (Kd.R_below (bR HO_623001) hb)
       replace HO635 := aM (Kd.R_below (bR HO635) hb)
       replace HO644 := aM (Kd.R_below (bR HO644) hb)
       have HO651 := aM (Kd.R_lower ho81 (below_size (z15 GE622.out GE638.out GE645.out)))
       replace BK622 := aM (blk_below (g := gb622) (o := .cells #[.int .i64 t618, .slice Ao11 t619.length co11] 25 (0, 0)) (bL BK622) hb)
       replace BK638 := aM (blk_below (g := gb638) (o := .cells #[.int .i64 t636, .string t637] 39 (0, 0)) (bL BK638) hb)
       replace BK645 := aM (blk_below (g := gb645) (o := .cells #[.int .i64 t641, .slice Ao58 t642.length co58] 25 (0, 0)) (bL BK645) hb)
       replace HB := aM (below_step (z15 GE622.out GE638.out GE645.out) hb)
       clear hb ho81
       obtain ⟨Ao82, co82, eo82⟩ := Kd.R_slice HO651.out
       (first | subst eo82 | (injection eo82 with f1_ f2_ f3_; have f4_ := f1_.symm; have f5_ := f3_.symm; clear f1_ f2_ f3_; subst f4_; subst f5_))
       refine hK.out _ _ ⟨(blk_cell BK645.out 0).trans rfl, (blk_cell BK645.out 1).trans rfl, (blk_cell BK638.out 0).trans rfl, (blk_cell BK638.out 1).trans rfl⟩ (fun hHeld => ?_)
       clear hK K
       refine na_ (N := some 72) (h := ?_)
       refine one_ (i := 17) (N := some 73) (bsA 29 262143) rfl rfl (one_of HT_.out (by kernel_rfl)) (by decide) (fun K hK => ?_)
       refine goes_ Tryz.func22 (by kernel_rfl) rfl #[.slice Ao82 y649.length co82] (by rfl) rfl rfl bM ?_
       have H := HQ_.out
       clear HQ_
       by_cases c64 : t652 = true
       ·subst c64
        have H1 : ((spec_EncodeWords.f kj5 t633).bind fun bt653 => (some (t637.toList == bt653.2.toList))) = some true := z16
        clear H
        have H := H1
        clear H1
        replace H := Option.bind_eq_some_iff.mp H
        obtain ⟨⟨t653, t654⟩, A650, H⟩ := H
        replace H : (some (t637.toList == t654.toList)) = some true := H
        have A65 := aM A650
        clear A650
        have HTR_ := Option.some.inj H
        with_reducible refine (impl_IsPlain.calls _ _ y649 true _ ?side1 ?side2 A63.out).mono ?_
        (case side1 => exact z4 HO651.out)
        (case side2 => exact (Kd.R_reads' HO651.out).2.1)
        rintro e w' ⟨rfl, ⟨nd, rfl⟩⟩
        refine ⟨_, rfl, ?_⟩
        refine hK.out _ _ ⟨(blk_cell BK645.out 0).trans rfl, (blk_cell BK645.out 1).trans rfl, (blk_cell BK638.out 0).trans rfl, (blk_cell BK638.out 1).trans rfl⟩ (fun hHeld => ?_)
        clear hK K
        refine na_ (N := some 73) (h := ?_)
        refine pa_ (i := 18) (N := some 74) (bsA 29 524287) (h := ?_)
        refine pa_ (i := 19) (N := some 75) (bsA 29 1048575) (h := ?_)
        refine pa_ (i := 20) (N := some 76) (bsA 29 2097151) (h := ?_)
        refine pa_ (i := 21) (N := some 77) (bsA 29 4194303) (h := ?_)
        refine pa_ (i := 23) (N := some 79) (bsA 29 12582911) (h := ?_)
        refine take_ (i := 22) (N := some 78) (v := ?_) (a' := ?_) (bsA 29 16777215) rfl rfl (take_ofW HT_.out HW_.out (by kernel_rfl)) (fun _ _ _ h => h) (Or.inl ⟨by rfl, ?_⟩) hHeld ?_ ?_
        rotate_left
        ·rintro w' ⟨s0, s1, s2, s3⟩
         go_simp
         with_reducible rfl
        rotate_left
        ·simp only [Act.put, List.setIfInBounds_toArray, List.set_cons_zero, List.set_cons_succ, i64_w, i32_w]
         rfl
        refine one_ (i := 24) (N := some 80) (bsA 29 33554431) rfl rfl (one_of HT_.out (by kernel_rfl)) (by decide) (fun K hK => ?_)
        refine goes_ Tryz.func21 (by kernel_rfl) rfl #[.slice Ao48 t633.length co48] (by rfl) rfl rfl bM ?_
        with_reducible refine (spec_EncodeWords.calls kj5 _ _ t633 t653 t654 _ ?side1 ?side2 A65.out).mono ?_
        (case side1 => exact z4 HO635.out)
        (case side2 => exact (Kd.R_reads' HO635.out).2.1)
        rintro e w83 ⟨rfl, hb⟩
        refine ⟨_, rfl, ?_⟩
        replace HO_623001 := aM (Kd.R_below (bR HO_623001) hb)
        replace HO635 := aM (Kd.R_below (bR HO635) hb)
        replace HO644 := aM (Kd.R_below (bR HO644) hb)
        replace HO651 := aM (Kd.R_below (bR HO651) hb)
        replace BK622 := aM (blk_below (g := gb622) (o := .cells #[.int .i64 t618, .slice Ao11 t619.length co11] 25 (0, 0)) (bL BK622) hb)
        replace BK638 := aM (blk_below (g := gb638) (o := .cells #[.int .i64 t636, .string t637] 39 (0, 0)) (bL BK638) hb)
        replace BK645 := aM (blk_below (g := gb645) (o := .cells #[.int .i64 t641, .slice Ao58 t642.length co58] 25 (0, 0)) (bL BK645) hb)
        replace HB := aM (below_step (z15 GE622.out GE638.out GE645.out) hb)
        (try clear hb)
        (try clear hb2)
        (try clear hk)
        (try clear hi)
        refine hK.out _ _ ⟨(blk_cell BK645.out 0).trans rfl, (blk_cell BK645.out 1).trans rfl, (blk_cell BK638.out 0).trans rfl, (blk_cell BK638.out 1).trans rfl⟩ (fun hHeld => ?_)
        clear hK K
        refine na_ (N := some 80) (h := ?_)
        refine pa_ (i := 25) (N := some 81) (bsA 29 67108863) (h := ?_)
        refine pa_ (i := 26) (N := some 82) (bsA 29 134217727) (h := ?_)
        refine pa_ (i := 27) (N := some 83) (bsA 29 268435455) (h := ?_)
        refine pa_ (i := 28) (N := some 2) (bsA 29 536870911) (h := ?_)
        refine done_ (done_of HT_.out (by kernel_rfl)) ?_
        try go_wp2
        go_ret
        exact ⟨bE, z15 GE622.out GE638.out GE645.out⟩
       replace c64 := Bool.eq_false_iff.mpr c64
       subst c64
       have H1 : (some false) = some true := z7
       exact absurd H1 (by simp)
      rw [if_neg c62] at H
      exact absurd H (by simp)
     replace c44 := Bool.eq_false_iff.mpr c44
     subst c44
     have H1 : (some false) = some true := z7
     exact absurd H1 (by simp)
    rw [if_neg c42] at H
    exact absurd H (by simp)
   rw [if_neg c40] at H
   have c40b0 : (t636 == 0) = false := beq_eq_false_iff_ne.mpr c40
   have c40b1 : (t636 != 0) = true := bne_iff_ne.mpr c40
   replace H := Option.bind_eq_some_iff.mp H
   obtain ⟨⟨t639, t640⟩, A1290, H⟩ := H
   replace H : (some (t639 == t636)) = some true := H
   have A129 := aM A1290
   clear A1290
   have HTR_ := Option.some.inj H
   try go_wp2_with (first | ((with_reducible refine gate_callee (f := 19) rfl ?_); refine gL_ (some 41) Tryz.func19 #[.slice A0 l0.length c0] ?_; (with_reducible refine (spec_DrawEncodeWords.calls kj5 _ _ l0 t633 _ ?side1 ?side2 A38.out).mono ?_); (case side1 => exact z12 HR0.out); (case side2 => exact HC0.out); rintro e w130 ⟨v634, rfl, ho0, hb⟩; refine ⟨_, rfl, ?_⟩; have HO635 := aM (Kd.R_lower (Kd.R_new' ho0 (Kd.R_lt (bR HO_623001))) (below_size (bG GE622))); replace HO_623001 := aM (Kd.R_elder' (bR HO_623001) (Kd.R_base ho0) hb); replace BK622 := aM (blk_below (g := gb622) (o := .cells #[.int .i64 t618, .slice Ao11 t619.length co11] 25 (0, 0)) (bL BK622) hb); replace HB := aM (below_step (bG GE622) hb); (try clear ho0); obtain ⟨Ao131, co131, eo131⟩ := Kd.R_slice HO635.out; subst eo131) | ((with_reducible refine gate_callee (f := 20) rfl ?_); refine gL_ (some 43) Tryz.func20 #[.slice Ao131 t633.length co131] ?_; (with_reducible refine (impl_EncodeWords.calls kj5 _ _ t633 t636 t637 _ ?sidem ?side1 ?side2 A39.out).mono ?_); (case sidem => exact z33); (case side1 => exact z4 HO635.out); (case side2 => exact (Kd.R_reads' HO635.out).2.1); rintro e w132 ⟨rfl, hb⟩; refine ⟨_, rfl, ?_⟩; replace HO_623001 := aM (Kd.R_below (bR HO_623001) hb); replace HO635 := aM (Kd.R_below (bR HO635) hb); replace BK622 := aM (blk_below (g := gb622) (o := .cells #[.int .i64 t618, .slice Ao11 t619.length co11] 25 (0, 0)) (bL BK622) hb); replace HB := aM (below_step (bG GE622) hb); (try clear hi)) | ((with_reducible refine gate_dst (N := 6) rfl ?_); refine box_event ?hg (N := 6) ?hd (cs := #[.int .i64 0, .string (⟨#[]⟩ : ByteArray)]) (t := 39) ?hr ?_; (case hd => rfl); (case hg => rfl); (case hr => exact z10); intro gb638 hg w133 hbox hb; replace HO_623001 := aM (Kd.R_below (bR HO_623001) hb); replace HO635 := aM (Kd.R_below (bR HO635) hb); have BK638 := aM (hbox); have GW638 := aM ((by rw [hg]; exact (below_size (bG GE622)) : w.heap.size ≤ gb638)); have GE638 := aM ((by rw [hg]; exact (below_size (bG GE622)) : w.heap.size ≤ gb638)); replace HB := aM (below_step (bG GE622) hb); have NB622_638 := aM ((z41 : gb622 ≠ gb638)); have NB638_622 := aM ((z42 : gb638 ≠ gb622)); replace BK622 := aM (blk_below (g := gb622) (o := .cells #[.int .i64 t618, .slice Ao11 t619.length co11] 25 (0, 0)) (bL BK622) hb); clear hb hbox hg; have hnb134 := NB638_622.out; have hnc134 := NB622_638.out; have hcz135_0 : w133.cell? ⟨gb638, 0, none⟩ = some (.int .i64 0) := (blk_cell BK638.out 0).trans rfl; have hcz135_1 : w133.cell? ⟨gb638, 1, none⟩ = some (.string (⟨#[]⟩ : ByteArray)) := (blk_cell BK638.out 1).trans rfl; have hfz135_0 := blk_frozen BK638.out 0; have hfz135_1 := blk_frozen BK638.out 1))
   have n0_ : Aside0 (Kd.R (Kd.int .i64) 2 ((w133.setCell ⟨gb638, 0, none⟩ (.int .i64 t636)).setCell ⟨gb638, 1, none⟩ (.string t637)) w.heap.size (fun k_ => some k_ ≠ (.slice Ao131 t633.length co131 : Value).ownBlock) (.slice Ao11 t619.length co11) t619) := ⟨by (with_reducible repeat (first | apply Kd.R_alloc | apply Kd.R_drewN | apply Kd.R_drew)); exact Kd.R_mono (Kd.R_far (p := ⟨gb638, 1, none⟩) (Kd.R_far (p := ⟨gb638, 0, none⟩) (Kd.R_types HO_623001.out BK638.out (by decide)) (fun _ hk => hk.2) (.int .i64 t636)) (fun _ hk => hk.2) (.string t637)) (fun _ hk => hk.1.2)⟩
   have n1_ : Aside0 (Kd.R (Kd.int .i64) 2 ((w133.setCell ⟨gb638, 0, none⟩ (.int .i64 t636)).setCell ⟨gb638, 1, none⟩ (.string t637)) w.heap.size (fun k_ => some k_ ≠ (.slice Ao11 t619.length co11 : Value).ownBlock) (.slice Ao131 t633.length co131) t633) := ⟨by (with_reducible repeat (first | apply Kd.R_alloc | apply Kd.R_drewN | apply Kd.R_drew)); exact Kd.R_mono (Kd.R_far (p := ⟨gb638, 1, none⟩) (Kd.R_far (p := ⟨gb638, 0, none⟩) (Kd.R_types HO635.out BK638.out (by decide)) (fun _ hk => hk.2) (.int .i64 t636)) (fun _ hk => hk.2) (.string t637)) (fun _ hk => hk.1.2)⟩
   have n2_ : Aside0 (((w133.setCell ⟨gb638, 0, none⟩ (.int .i64 t636)).setCell ⟨gb638, 1, none⟩ (.string t637)).heap[gb622]? = some (.cells #[.int .i64 t618, .slice Ao11 t619.length co11] 25 (0, 0))) := ⟨z11 NB622_638.out BK622.out⟩
   have n3_ : Aside0 (((w133.setCell ⟨gb638, 0, none⟩ (.int .i64 t636)).setCell ⟨gb638, 1, none⟩ (.string t637)).heap[gb638]? = some (.cells #[.int .i64 t636, .string t637] 39 (0, 0))) := ⟨by (with_reducible repeat (first | refine blk_drewN ?_ _ | refine blk_drew ?_ | refine blk_alloc ?_ _)); refine blk_put (cs := #[.int .i64 t636, .string (⟨#[]⟩ : ByteArray)]) ?_ 1 _ rfl; (with_reducible repeat (first | refine blk_drewN ?_ _ | refine blk_drew ?_ | refine blk_alloc ?_ _)); refine blk_put (cs := #[.int .i64 0, .string (⟨#[]⟩ : ByteArray)]) ?_ 0 _ rfl; (with_reducible repeat (first | refine blk_drewN ?_ _ | refine blk_drew ?_ | refine blk_alloc ?_ _)); exact BK638.out⟩
   have n4_ : Aside0 (Below w.heap.size w ((w133.setCell ⟨gb638, 0, none⟩ (.int .i64 t636)).setCell ⟨gb638, 1, none⟩ (.string t637))) := ⟨bG2 GE622 GE638⟩
   (try clear HO_623001)
   (try clear HO635)
   (try clear BK622)
   (try clear BK638)
   (try clear HB)
   generalize ((w133.setCell ⟨gb638, 0, none⟩ (.int .i64 t636)).setCell ⟨gb638, 1, none⟩ (.string t637)) = w136 at n0_ n1_ n2_ n3_ n4_ ⊢
   have HO_623001 := n0_
   have HO635 := n1_
   have BK622 := n2_
   have BK638 := n3_
   have HB := n4_
   clear n0_ n1_ n2_ n3_ n4_
   replace HO_623001 := aM (Kd.R_drew HO_623001.out)
   replace HO635 := aM (Kd.R_drew HO635.out)
   replace BK622 := aM (blk_drew BK622.out)
   replace BK638 := aM (blk_drew BK638.out)
   replace HB := aM (below_drew1 HB.out)
   refine start_ (n := 7) (S := fun w' => w'.cell? ⟨gb638, 0, none⟩ = some (.int .i64 t636) ∧ w'.cell? ⟨gb638, 1, none⟩ = some (.string t637)) (ds := []) #[false, false, false, false, false, false, false] (by kernel_rfl) rfl rfl ⟨(blk_cell BK638.out 0).trans rfl, (blk_cell BK638.out 1).trans rfl⟩ (fun hHeld => ?_)
   generalize w136.drew = w137 at HO_623001 HO635 BK622 BK638 HB hHeld ⊢
   refine pure_ (i := 0) (N := some 47) (v := ?_) (a' := ?_) #[true, false, false, false, false, false, false] rfl rfl (by kernel_rfl) (fun _ _ _ h => h) (Or.inl ⟨by rfl, ?_⟩) ?_ ?_
   rotate_left
   ·intro w'
    go_simp
    with_reducible rfl
   rotate_left
   ·simp only [Act.put, List.setIfInBounds_toArray, List.set_cons_zero, List.set_cons_succ, i64_w, i32_w]
    rfl
   refine pure_ (i := 3) (N := some 50) (v := ?_) (a' := ?_) #[true, false, false, true, false, false, false] rfl rfl (by kernel_rfl) (fun _ _ _ h => h) (Or.inl ⟨by rfl, ?_⟩) ?_ ?_
   rotate_left
   ·intro w'
    go_simp
    with_reducible rfl
   rotate_left
   ·simp only [Act.put, List.setIfInBounds_toArray, List.set_cons_zero, List.set_cons_succ, i64_w, i32_w]
    rfl
   refine take_ (i := 4) (N := some 51) (v := ?_) (a' := ?_) #[true, false, false, true, true, false, false] rfl rfl (by kernel_rfl) (fun _ _ _ h => h) (Or.inl ⟨by rfl, ?_⟩) hHeld ?_ ?_
   rotate_left
   ·rintro w' ⟨s0, s1⟩
    go_simp
    with_reducible rfl
   rotate_left
   ·simp only [Act.put, List.setIfInBounds_toArray, List.set_cons_zero, List.set_cons_succ, i64_w, i32_w]
    rfl
   refine one_ (i := 1) (N := some 48) #[true, true, false, true, true, false, false] rfl rfl (by kernel_rfl) (by decide) (fun K hK => ?_)
   refine goes_ Tryz.func21 (by kernel_rfl) rfl #[.slice Ao131 t633.length co131] (by rfl) rfl rfl bM ?_
   with_reducible refine (spec_EncodeWords.calls kj5 _ _ t633 t639 t640 _ ?side1 ?side2 A129.out).mono ?_
   (case side1 => exact z4 HO635.out)
   (case side2 => exact (Kd.R_reads' HO635.out).2.1)
   rintro e w138 ⟨rfl, hb⟩
   refine ⟨_, rfl, ?_⟩
   replace HO_623001 := aM (Kd.R_below (bR HO_623001) hb)
   replace HO635 := aM (Kd.R_below (bR HO635) hb)
   replace BK622 := aM (blk_below (g := gb622) (o := .cells #[.int .i64 t618, .slice Ao11 t619.length co11] 25 (0, 0)) (bL BK622) hb)
   replace BK638 := aM (blk_below (g := gb638) (o := .cells #[.int .i64 t636, .string t637] 39 (0, 0)) (bL BK638) hb)
   replace HB := aM (below_step (bG2 GE622 GE638) hb)
   (try clear hb)
   (try clear hb2)
   (try clear hk)
   (try clear hi)
   refine hK.out _ _ ⟨(blk_cell BK638.out 0).trans rfl, (blk_cell BK638.out 1).trans rfl⟩ (fun hHeld => ?_)
   clear hK K
   refine na_ (N := some 48) (h := ?_)
   refine pure_ (i := 2) (N := some 49) (v := ?_) (a' := ?_) #[true, true, true, true, true, false, false] rfl rfl (by kernel_rfl) (fun _ _ _ h => h) (Or.inl ⟨by rfl, ?_⟩) ?_ ?_
   rotate_left
   ·intro w'
    go_simp
    with_reducible rfl
   rotate_left
   ·simp only [Act.put, List.setIfInBounds_toArray, List.set_cons_zero, List.set_cons_succ, i64_w, i32_w]
    rfl
   refine pure_ (i := 5) (N := some 52) (v := ?_) (a' := ?_) #[true, true, true, true, true, true, false] rfl rfl (by kernel_rfl) (fun _ _ _ h => h) (Or.inl ⟨by rfl, ?_⟩) ?_ ?_
   rotate_left
   ·intro w'
    go_simp
    with_reducible rfl
   rotate_left
   ·simp only [Act.put, List.setIfInBounds_toArray, List.set_cons_zero, List.set_cons_succ, i64_w, i32_w]
    rfl
   refine pure_ (i := 6) (N := some 2) (v := ?_) (a' := ?_) #[true, true, true, true, true, true, true] rfl rfl (by kernel_rfl) (fun _ _ _ h => h) (Or.inl ⟨by rfl, ?_⟩) ?_ ?_
   rotate_left
   ·intro w'
    go_simp
    with_reducible rfl
   rotate_left
   ·simp only [Act.put, List.setIfInBounds_toArray, List.set_cons_zero, List.set_cons_succ, i64_w, i32_w]
    rfl
   refine done_ (by kernel_rfl) ?_
   try go_wp2
   go_ret
   exact ⟨bE, bG2 GE622 GE638⟩
def laws_FnWords.Pure : Prop := ∀ (l0 : List Int), l0.length ≤ maxLen → l0.length * 1 ≤ 140737488351232 → (∀ x ∈ l0, (Lit.int .u8 x).wf = true) → ∃ k, laws_FnWords.f k l0 = some true
theorem laws_FnWords.walk (P : laws_FnWords.Pure) (a0 : Option Addr) (len0 cap0 : Nat) (z0 : List Int) (w : World) (hm_ : ∃ m, w.cell? ⟨0, 0, none⟩ = some (.int .i64 m)) (w0 : (a0 = none ∧ len0 = 0 ∧ cap0 = 0 ∧ z0 = []) ∨ ∃ x, a0 = some x ∧ len0 ≤ cap0 ∧ cap0 ≤ maxLen ∧ z0.length = cap0 ∧ (∀ i, i < z0.length → w.cell? (x.add i) = some (.int .u8 (z0.getD i 0))) ∧ ∀ n ∈ z0, (Lit.int .u8 n).wf = true) (y0 : len0 * 1 ≤ 140737488351232) :
  Calls Tryz.prog 4 #[.slice a0 len0 cap0] w fun e w' => e = .returned (.bool true) ∧ Below w.heap.size w w' := by
 obtain ⟨l0, rfl, hr0, hm0, hw0, hc0⟩ := ReadsInt.ofRowC w0
 obtain ⟨k, h⟩ := P l0 hm0 y0 hw0
 refine (laws_FnWords.calls k _ _ l0 w hm_ (Kd.C_of_reads (d := (0 : Int)) (h1 := fun _ => rfl) hr0) hc0 h).mono ?_
 rintro e w' ⟨rfl, hd⟩
 exact ⟨rfl, hd⟩
end Go.Proofs.YtjopgmjmjnfcjaaGreatDoor.PWords
