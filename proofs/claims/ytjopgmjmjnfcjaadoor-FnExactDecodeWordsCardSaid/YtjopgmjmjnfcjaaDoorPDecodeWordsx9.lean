/- Part of the proof; words that it uses. -/
import Derived.Test.YtjopgmjmjnfcjaaDoorPDecodeWordsx0
import Derived.Test.YtjopgmjmjnfcjaaDoorPDecodeWordsx5
import Derived.Test.YtjopgmjmjnfcjaaDoorPDecodeWordsx7
import Derived.Test.YtjopgmjmjnfcjaaDoorPDecodeWordsx8
namespace Go.Proofs.YtjopgmjmjnfcjaaDoor.PDecodeWords
open Go.RowKit Go.Proofs.YtjopgmjmjnfcjaaDoorW.PrintWords Go.Proofs.YtjopgmjmjnfcjaaDoorW.PrintLast
set_option linter.unusedVariables false
set_option linter.unusedSimpArgs false
def impl_decodeWords.l0 : Nat → ByteArray → List Int → Option (List Int)
 | 0, _, _ => none
 | k + 1, x0, x3 => if x0.toList = ([] : List UInt8) then (some x3) else ((impl_toldWord.f k x0).bind fun bt415 => (if bt415.2 > 0 then (if x3.length + bt415.1.length < 17592186044416 then ((some (x3 ++ bt415.1 : List Int)).bind fun y419 => (if 0 ≤ bt415.2 then (if bt415.2 ≤ (x0.size : Int) then ((strings_TrimLeft.f (x0.extract (bt415.2 : Int).toNat x0.size) (⟨#[32, 9]⟩ : ByteArray)).bind fun t422 => (if t422.toList = (x0.extract (bt415.2 : Int).toNat x0.size).toList then (impl_decodeWords.l0 k (x0.extract (bt415.2 : Int).toNat x0.size) y419) else ((impl_toldWord.f k t422).bind fun bt423 => (if bt423.2 > 0 then (impl_decodeWords.l0 k t422 y419) else (impl_decodeWords.l0 k (x0.extract (bt415.2 : Int).toNat x0.size) y419))))) else (none)) else (none))) else (none)) else (if x0.size ≤ 281474976710656 then ((impl_firstChar.f k 4 (bytesOf x0)).bind fun bt430 => (if bt430.2 = 0 then (if x3.length < 17592186044416 then (if 1 ≤ (x0.size : Int) then (impl_decodeWords.l0 k (x0.extract 1 x0.size) (x3 ++ [65533])) else (none)) else (none)) else (if x3.length < 17592186044416 then (if 0 ≤ bt430.2 then (if bt430.2 ≤ (x0.size : Int) then (impl_decodeWords.l0 k (x0.extract (bt430.2 : Int).toNat x0.size) (x3 ++ [bt430.1])) else (none)) else (none)) else (none)))) else (none))))
def impl_decodeWords.f (k : Nat) (a0 : ByteArray) : Option (List Int) := impl_decodeWords.l0 k a0 (([] : List Int))
def impl_decodeWords.T5 : Bool × List (List Nat × List Nat) := (true, [([], []), ([], []), ([0, 1], [0, 1]), ([], []), ([], []), ([3, 4], [3, 4]), ([2, 2, 0, 1, 2], [0, 2]), ([5, 6, 0, 1, 2, 3, 4, 5, 6], [3, 5])])
def impl_decodeWords.B5 : List Nat := [0, 0, 3, 0, 0, 24, 7, 127]
theorem impl_decodeWords.tab5 : rtab .any (opsOf Tryd.f38 5) = impl_decodeWords.T5 := by kernel_rfl
theorem impl_decodeWords.bits5 : waitsOk impl_decodeWords.T5.2 impl_decodeWords.B5 = true := by kernel_rfl
def impl_decodeWords.T14 : Bool × List (List Nat × List Nat) := (true, [([], []), ([], []), ([1], [1]), ([0, 2], [0, 2]), ([], []), ([], []), ([4, 5], [4, 5]), ([3, 3, 0, 1, 2, 3], [0, 3]), ([6, 7, 0, 1, 2, 3, 4, 5, 6, 7], [4, 6])])
def impl_decodeWords.B14 : List Nat := [0, 0, 2, 7, 0, 0, 48, 15, 255]
theorem impl_decodeWords.tab14 : rtab .any (opsOf Tryd.f38 14) = impl_decodeWords.T14 := by kernel_rfl
theorem impl_decodeWords.bits14 : waitsOk impl_decodeWords.T14.2 impl_decodeWords.B14 = true := by kernel_rfl
set_option maxHeartbeats 8000000 in
set_option maxRecDepth 100000 in
theorem impl_decodeWords.calls (k : Nat) (a0 : ByteArray) (r : List Int) (w : World) (hm_ : ∃ m, w.cell? ⟨0, 0, none⟩ = some (.int .i64 m)) (h : impl_decodeWords.f k a0 = some r) :
  Calls Tryd.prog 38 #[.string a0] w fun e w' => ∃ v0_ : Value, e = .returned (v0_) ∧ Kd.R (Kd.int .i64) 2 w' w.heap.size (fun _ => True) v0_ r ∧ Below w.heap.size w w' := by
 have HM_ := Aside0.mk hm_
 clear hm_
 have HB := Aside0.mk (Below.refl w.heap.size w)
 have H : (impl_decodeWords.l0 k a0 (([] : List Int))) = some r := h
 clear h
 obtain ⟨y412, hy412⟩ : ∃ y_ : List Int, y_ = (([] : List Int)) := ⟨_, rfl⟩
 replace H : (impl_decodeWords.l0 k a0 y412) = some r := z0 hy412
 have Ny412 := Aside0.mk hy412
 clear hy412
 have H' := Aside0.mk H
 clear H
 go_enter Tryd.func38, Tryd.ntmps38
 go_wp2_with (first | ((with_reducible refine gate_dst (N := 11) rfl ?_); refine Kd.R_lit (Kd.int .i64) _ 2 ?hg (N := 11) ?hd (xs := ([] : List Int)) (inner := []) (ok := fun _ => True) (okp := fun _ => True) ?hr ?hp (fun _ hk => hk) trivial (Below.refl _ _) (Nat.le_refl _) (by simp) ?_; (case hd => rfl); (case hg => rfl); (case hr => exact z11); (case hp => exact (Reps.none _ _)); intro v413 w2 ho3 hb hg_ hnew_; clear hg_ hnew_; (first | rw [← Ny412.out] at ho3 | (simp only [Int.reduceToNat] at ho3; rw [← Ny412.out] at ho3)); have HO414 := Aside0.mk (Kd.R_lower ho3 (below_size bB)); replace HB := Aside0.mk (below_step bB hb); clear hb ho3))
 go_loopg [0, 3] k (fun kq v0 v3 w' => ∃ (x0_1 : ByteArray) (x3_1 : List Int), v0 = .string x0_1 ∧ Aside0 (impl_decodeWords.l0 kq x0_1 x3_1 = some r) ∧ Aside0 (kq ≤ k) ∧ Aside0 (Kd.R (Kd.int .i64) 2 w' w.heap.size (fun _ => True) v3 x3_1) ∧ Aside0 (Below w.heap.size w w'))
 case atStart => exact ⟨(a0), (y412), bS, H', ⟨Nat.le_refl _⟩, ⟨bR HO414⟩, ⟨bB⟩⟩
 case round =>
  clear H'
  try clear p2
  try clear c3
  obtain ⟨x0_1, x3_1, rfl, HA, HK1, HO_3, HB⟩ := hrel
  cases gk with
  | zero => exact absurd HA.out (by simp [impl_decodeWords.l0])
  | succ k1 =>
   have H := HA.out
   clear HA
   simp only [impl_decodeWords.l0] at H
   by_cases c4 : x0_1.toList = ([] : List UInt8)
   ·rw [if_pos c4] at H
    have c4b0 : (x0_1.toList == ([] : List UInt8)) = true := beq_iff_eq.mpr c4
    have c4b1 : (x0_1.toList != ([] : List UInt8)) = false := bne_eq_false_iff_eq.mpr c4
    clear c4
    obtain rfl := Option.some.inj H
    go_wp2
    go_ret
    exact ⟨_, bE, bR HO_3, bB⟩
   ·rw [if_neg c4] at H
    have c4b0 : (x0_1.toList == ([] : List UInt8)) = false := beq_eq_false_iff_ne.mpr c4
    have c4b1 : (x0_1.toList != ([] : List UInt8)) = true := bne_iff_ne.mpr c4
    replace H := Option.bind_eq_some_iff.mp H
    obtain ⟨⟨t415, t416⟩, A50, H⟩ := H
    replace H : (if t416 > 0 then (if x3_1.length + t415.length < 17592186044416 then ((some (x3_1 ++ t415 : List Int)).bind fun y419 => (if 0 ≤ t416 then (if t416 ≤ (x0_1.size : Int) then ((strings_TrimLeft.f (x0_1.extract (t416 : Int).toNat x0_1.size) (⟨#[32, 9]⟩ : ByteArray)).bind fun t422 => (if t422.toList = (x0_1.extract (t416 : Int).toNat x0_1.size).toList then (impl_decodeWords.l0 k1 (x0_1.extract (t416 : Int).toNat x0_1.size) y419) else ((impl_toldWord.f k1 t422).bind fun bt423 => (if bt423.2 > 0 then (impl_decodeWords.l0 k1 t422 y419) else (impl_decodeWords.l0 k1 (x0_1.extract (t416 : Int).toNat x0_1.size) y419))))) else (none)) else (none))) else (none)) else (if x0_1.size ≤ 281474976710656 then ((impl_firstChar.f k1 4 (bytesOf x0_1)).bind fun bt430 => (if bt430.2 = 0 then (if x3_1.length < 17592186044416 then (if 1 ≤ (x0_1.size : Int) then (impl_decodeWords.l0 k1 (x0_1.extract 1 x0_1.size) (x3_1 ++ [65533])) else (none)) else (none)) else (if x3_1.length < 17592186044416 then (if 0 ≤ bt430.2 then (if bt430.2 ≤ (x0_1.size : Int) then (impl_decodeWords.l0 k1 (x0_1.extract (bt430.2 : Int).toNat x0_1.size) (x3_1 ++ [bt430.1])) else (none)) else (none)) else (none)))) else (none))) = some r := H
    have A5 := Aside0.mk A50
    clear A50
    by_cases c6 : t416 > 0
    ·rw [if_pos c6] at H
     have c6b0 : decide (0 < t416) = true := decide_eq_true c6
     clear c6
     by_cases c7 : x3_1.length + t415.length < 17592186044416
     ·rw [if_pos c7] at H
      have LMc7 := Aside0.mk c7
      clear c7
      obtain ⟨y419, hy419⟩ : ∃ y_ : List Int, y_ = (x3_1 ++ t415) := ⟨_, rfl⟩
      replace H : (if 0 ≤ t416 then (if t416 ≤ (x0_1.size : Int) then ((strings_TrimLeft.f (x0_1.extract (t416 : Int).toNat x0_1.size) (⟨#[32, 9]⟩ : ByteArray)).bind fun t422 => (if t422.toList = (x0_1.extract (t416 : Int).toNat x0_1.size).toList then (impl_decodeWords.l0 k1 (x0_1.extract (t416 : Int).toNat x0_1.size) y419) else ((impl_toldWord.f k1 t422).bind fun bt423 => (if bt423.2 > 0 then (impl_decodeWords.l0 k1 t422 y419) else (impl_decodeWords.l0 k1 (x0_1.extract (t416 : Int).toNat x0_1.size) y419))))) else (none)) else (none)) = some r := z0 hy419
      have Ny419 := Aside0.mk hy419
      clear hy419
      by_cases c8 : 0 ≤ t416
      ·rw [if_pos c8] at H
       have c8b0 := eq_true c8
       have c8b1 : decide (0 ≤ t416) = true := decide_eq_true c8
       clear c8
       by_cases c9 : t416 ≤ (x0_1.size : Int)
       ·rw [if_pos c9] at H
        have c9b0 := eq_true c9
        have c9b1 : decide (t416 ≤ (x0_1.size : Int)) = true := decide_eq_true c9
        clear c9
        replace H := Option.bind_eq_some_iff.mp H
        obtain ⟨t422, A100, H⟩ := H
        replace H : (if t422.toList = (x0_1.extract (t416 : Int).toNat x0_1.size).toList then (impl_decodeWords.l0 k1 (x0_1.extract (t416 : Int).toNat x0_1.size) y419) else ((impl_toldWord.f k1 t422).bind fun bt423 => (if bt423.2 > 0 then (impl_decodeWords.l0 k1 t422 y419) else (impl_decodeWords.l0 k1 (x0_1.extract (t416 : Int).toNat x0_1.size) y419)))) = some r := H
        have A10 := Aside0.mk A100
        clear A100
        by_cases c11 : t422.toList = (x0_1.extract (t416 : Int).toNat x0_1.size).toList
        ·rw [if_pos c11] at H
         have c11b0 : (t422.toList == (x0_1.extract (t416 : Int).toNat x0_1.size).toList) = true := beq_iff_eq.mpr c11
         have c11b1 : (t422.toList != (x0_1.extract (t416 : Int).toNat x0_1.size).toList) = false := bne_eq_false_iff_eq.mpr c11
         clear c11
         have H' := Aside0.mk H
         clear H
         try go_wp2_with (first | ((with_reducible refine gate_callee (f := 50) rfl ?_); refine goesL_ (some 16) rfl rfl Tryd.func50 (by kernel_rfl) rfl #[.string x0_1] rfl bM ?_; (with_reducible refine (impl_toldWord.calls k1 x0_1 t415 t416 _ ?sidem A5.out).mono ?_); (case sidem => exact z32); rintro e w12 ⟨v417, rfl, ho0, hb⟩; refine ⟨_, rfl, ?_⟩; have HO418 := Aside0.mk (Kd.R_lower (Kd.R_new' ho0 (Kd.R_lt (bR HO_3))) (below_size bB)); replace HO_3 := Aside0.mk (Kd.R_elder' (bR HO_3) (Kd.R_base ho0) hb); replace HB := Aside0.mk (below_step bB hb); (try clear ho0)))
         replace HO_3 := Aside0.mk (Kd.R_drew HO_3.out)
         replace HO418 := Aside0.mk (Kd.R_drew HO418.out)
         replace HB := Aside0.mk (below_drew1 HB.out)
         obtain ⟨Ao15, co15, eo15⟩ := Kd.R_slice HO418.out
         (first | subst eo15 | (injection eo15 with f1_ f2_ f3_; have f4_ := f1_.symm; have f5_ := f3_.symm; clear f1_ f2_ f3_; subst f4_; subst f5_))
         refine start_ (n := 8) (S := fun w' => True) (ds := []) (bsA 8 0) (by kernel_rfl) rfl rfl trivial (fun hHeld => ?_); refine with_tabW impl_decodeWords.tab5 impl_decodeWords.bits5 (fun HT_ HW_ => ?_)
         generalize w12.drew = w13 at HO_3 HO418 HB hHeld ⊢
         refine pa_ (i := 0) (N := some 21) (bsA 8 1) (h := ?_)
         refine pa_ (i := 1) (N := some 22) (bsA 8 3) (h := ?_)
         refine pa_ (i := 3) (N := some 24) (bsA 8 11) (h := ?_)
         refine pa_ (i := 4) (N := some 25) (bsA 8 27) (h := ?_)
         refine pa_ (i := 5) (N := some 26) (bsA 8 59) (h := ?_)
         refine one_ (i := 2) (N := some 23) (bsA 8 63) rfl rfl (one_of HT_.out (by kernel_rfl)) (by decide) (fun K hK => ?_)
         refine Kd.R_append_rows_step (Kd.int .i64) (w0 := w) w.heap.size (by rfl) (.tmp 21) (.tmp 22) 37 2 (.int .i64 0) 8 rfl Tryd.underlying37 info2 rfl (by decide) (by omega) u3 x3_1 t415 _ _ _ (fun k_ => some k_ ≠ (.slice Ao15 t415.length co15 : Value).ownBlock) (fun _ => False) rfl rfl ?aO ?aR (fun _ _ h => h) (fun _ h => h.elim) ?aF ?aB ?aS ?aL ?_
         (case aR => exact z3 HO418.out)
         (case aB => exact bB)
         (case aF => exact (fun k_ hk => Kd.fresh' (Kd.R_lt (bR HO418)) k_ hk))
         (case aO => exact z23 HO_3.out)
         (case aS => exact (below_size bB))
         (case aL => have := LMc7.out; omega)
         intro v420 w14 ho hb hg hat
         rw [← Ny419.out] at ho
         have n0_ := Aside0.mk (Kd.R_after (ok := (fun _ => True)) (bR HO418) hg hat)
         have n1_ := Aside0.mk (hb)
         have n2_ := Aside0.mk (ho)
         clear HO418
         clear HB
         clear HO_3
         have HO418 := n0_
         have HB := n1_
         have HO421 := n2_
         clear n0_ n1_ n2_
         clear ho hb hg hat
         refine hK.out _ _ trivial (fun hHeld => ?_)
         clear hK K
         refine na_ (N := some 23) (h := ?_)
         refine pa_ (i := 6) (N := some 3) (bsA 8 127) (h := ?_)
         refine pa_ (i := 7) (N := some 0) (bsA 8 255) (h := ?_)
         refine done_ (done_of HT_.out (by kernel_rfl)) ?_
         try go_wp2_with (first | ((with_reducible refine gate_callee (f := 51) rfl ?_); refine goesL_ (some 28) rfl rfl Tryd.func51 (by kernel_rfl) rfl #[.string (x0_1.extract (t416 : Int).toNat x0_1.size), .string (⟨#[32, 9]⟩ : ByteArray)] rfl bM ?_; (with_reducible refine (strings_TrimLeft.calls (x0_1.extract (t416 : Int).toNat x0_1.size) (⟨#[32, 9]⟩ : ByteArray) t422 _ A10.out).mono ?_); rintro e w16 ⟨rfl, hb⟩; refine ⟨_, rfl, ?_⟩; replace HO418 := Aside0.mk (Kd.R_below (bR HO418) hb); replace HO421 := Aside0.mk (Kd.R_below (bR HO421) hb); replace HB := Aside0.mk (below_step bB hb); (try clear hi)))
         go_roundg k1
         case measure => have := HK1.out; omega
         case rel => exact ⟨(x0_1.extract (t416 : Int).toNat x0_1.size), (y419), bS, H', ⟨by have := HK1.out; omega⟩, ⟨z20 HO421.out⟩, ⟨bB⟩⟩
        ·rw [if_neg c11] at H
         have c11b0 : (t422.toList == (x0_1.extract (t416 : Int).toNat x0_1.size).toList) = false := beq_eq_false_iff_ne.mpr c11
         have c11b1 : (t422.toList != (x0_1.extract (t416 : Int).toNat x0_1.size).toList) = true := bne_iff_ne.mpr c11
         replace H := Option.bind_eq_some_iff.mp H
         obtain ⟨⟨t423, t424⟩, A170, H⟩ := H
         replace H : (if t424 > 0 then (impl_decodeWords.l0 k1 t422 y419) else (impl_decodeWords.l0 k1 (x0_1.extract (t416 : Int).toNat x0_1.size) y419)) = some r := H
         have A17 := Aside0.mk A170
         clear A170
         by_cases c18 : t424 > 0
         ·rw [if_pos c18] at H
          have c18b0 : decide (0 < t424) = true := decide_eq_true c18
          clear c18
          have H' := Aside0.mk H
          clear H
          try go_wp2_with (first | ((with_reducible refine gate_callee (f := 50) rfl ?_); refine goesL_ (some 16) rfl rfl Tryd.func50 (by kernel_rfl) rfl #[.string x0_1] rfl bM ?_; (with_reducible refine (impl_toldWord.calls k1 x0_1 t415 t416 _ ?sidem A5.out).mono ?_); (case sidem => exact z32); rintro e w19 ⟨v417, rfl, ho0, hb⟩; refine ⟨_, rfl, ?_⟩; have HO418 := Aside0.mk (Kd.R_lower (Kd.R_new' ho0 (Kd.R_lt (bR HO_3))) (below_size bB)); replace HO_3 := Aside0.mk (Kd.R_elder' (bR HO_3) (Kd.R_base ho0) hb); replace HB := Aside0.mk (below_step bB hb); (try clear ho0)))
          replace HO_3 := Aside0.mk (Kd.R_drew HO_3.out)
          replace HO418 := Aside0.mk (Kd.R_drew HO418.out)
          replace HB := Aside0.mk (below_drew1 HB.out)
          obtain ⟨Ao22, co22, eo22⟩ := Kd.R_slice HO418.out
          (first | subst eo22 | (injection eo22 with f1_ f2_ f3_; have f4_ := f1_.symm; have f5_ := f3_.symm; clear f1_ f2_ f3_; subst f4_; subst f5_))
          refine start_ (n := 8) (S := fun w' => True) (ds := []) (bsA 8 0) (by kernel_rfl) rfl rfl trivial (fun hHeld => ?_); refine with_tabW impl_decodeWords.tab5 impl_decodeWords.bits5 (fun HT_ HW_ => ?_)
          generalize w19.drew = w20 at HO_3 HO418 HB hHeld ⊢
          refine pa_ (i := 0) (N := some 21) (bsA 8 1) (h := ?_)
          refine pa_ (i := 1) (N := some 22) (bsA 8 3) (h := ?_)
          refine pa_ (i := 3) (N := some 24) (bsA 8 11) (h := ?_)
          refine pa_ (i := 4) (N := some 25) (bsA 8 27) (h := ?_)
          refine pa_ (i := 5) (N := some 26) (bsA 8 59) (h := ?_)
          refine one_ (i := 2) (N := some 23) (bsA 8 63) rfl rfl (one_of HT_.out (by kernel_rfl)) (by decide) (fun K hK => ?_)
          refine Kd.R_append_rows_step (Kd.int .i64) (w0 := w) w.heap.size (by rfl) (.tmp 21) (.tmp 22) 37 2 (.int .i64 0) 8 rfl Tryd.underlying37 info2 rfl (by decide) (by omega) u3 x3_1 t415 _ _ _ (fun k_ => some k_ ≠ (.slice Ao22 t415.length co22 : Value).ownBlock) (fun _ => False) rfl rfl ?aO ?aR (fun _ _ h => h) (fun _ h => h.elim) ?aF ?aB ?aS ?aL ?_
          (case aR => exact z3 HO418.out)
          (case aB => exact bB)
          (case aF => exact (fun k_ hk => Kd.fresh' (Kd.R_lt (bR HO418)) k_ hk))
          (case aO => exact z23 HO_3.out)
          (case aS => exact (below_size bB))
          (case aL => have := LMc7.out; omega)
          intro v420 w21 ho hb hg hat
          rw [← Ny419.out] at ho
          have n0_ := Aside0.mk (Kd.R_after (ok := (fun _ => True)) (bR HO418) hg hat)
          have n1_ := Aside0.mk (hb)
          have n2_ := Aside0.mk (ho)
          clear HO418
          clear HB
          clear HO_3
          have HO418 := n0_
          have HB := n1_
          have HO421 := n2_
          clear n0_ n1_ n2_
          clear ho hb hg hat
          refine hK.out _ _ trivial (fun hHeld => ?_)
          clear hK K
          refine na_ (N := some 23) (h := ?_)
          refine pa_ (i := 6) (N := some 3) (bsA 8 127) (h := ?_)
          refine pa_ (i := 7) (N := some 0) (bsA 8 255) (h := ?_)
          refine done_ (done_of HT_.out (by kernel_rfl)) ?_
          try go_wp2_with (first | ((with_reducible refine gate_callee (f := 51) rfl ?_); refine goesL_ (some 28) rfl rfl Tryd.func51 (by kernel_rfl) rfl #[.string (x0_1.extract (t416 : Int).toNat x0_1.size), .string (⟨#[32, 9]⟩ : ByteArray)] rfl bM ?_; (with_reducible refine (strings_TrimLeft.calls (x0_1.extract (t416 : Int).toNat x0_1.size) (⟨#[32, 9]⟩ : ByteArray) t422 _ A10.out).mono ?_); rintro e w23 ⟨rfl, hb⟩; refine ⟨_, rfl, ?_⟩; replace HO418 := Aside0.mk (Kd.R_below (bR HO418) hb); replace HO421 := Aside0.mk (Kd.R_below (bR HO421) hb); replace HB := Aside0.mk (below_step bB hb); (try clear hi)) | ((with_reducible refine gate_callee (f := 50) rfl ?_); refine goesL_ (some 34) rfl rfl Tryd.func50 (by kernel_rfl) rfl #[.string t422] rfl bM ?_; (with_reducible refine (impl_toldWord.calls k1 t422 t423 t424 _ ?sidem A17.out).mono ?_); (case sidem => exact z32); rintro e w24 ⟨v425, rfl, ho0, hb⟩; refine ⟨_, rfl, ?_⟩; have HO426 := Aside0.mk (Kd.R_lower (Kd.R_new' (Kd.R_new' ho0 (Kd.R_lt (bR HO418))) (Kd.R_lt (bR HO421))) (below_size bB)); replace HO418 := Aside0.mk (Kd.R_elder' (bR HO418) (Kd.R_base ho0) hb); replace HO421 := Aside0.mk (Kd.R_elder' (bR HO421) (Kd.R_base ho0) hb); replace HB := Aside0.mk (below_step bB hb); (try clear ho0)))
          go_roundg k1
          case measure => have := HK1.out; omega
          case rel => exact ⟨(t422), (y419), bS, H', ⟨by have := HK1.out; omega⟩, ⟨z20 HO421.out⟩, ⟨bB⟩⟩
         ·rw [if_neg c18] at H
          have c18b0 : decide (0 < t424) = false := decide_eq_false c18
          clear c18
          have H' := Aside0.mk H
          clear H
          try go_wp2_with (first | ((with_reducible refine gate_callee (f := 50) rfl ?_); refine goesL_ (some 16) rfl rfl Tryd.func50 (by kernel_rfl) rfl #[.string x0_1] rfl bM ?_; (with_reducible refine (impl_toldWord.calls k1 x0_1 t415 t416 _ ?sidem A5.out).mono ?_); (case sidem => exact z32); rintro e w25 ⟨v417, rfl, ho0, hb⟩; refine ⟨_, rfl, ?_⟩; have HO418 := Aside0.mk (Kd.R_lower (Kd.R_new' ho0 (Kd.R_lt (bR HO_3))) (below_size bB)); replace HO_3 := Aside0.mk (Kd.R_elder' (bR HO_3) (Kd.R_base ho0) hb); replace HB := Aside0.mk (below_step bB hb); (try clear ho0)))
          replace HO_3 := Aside0.mk (Kd.R_drew HO_3.out)
          replace HO418 := Aside0.mk (Kd.R_drew HO418.out)
          replace HB := Aside0.mk (below_drew1 HB.out)
          obtain ⟨Ao28, co28, eo28⟩ := Kd.R_slice HO418.out
          (first | subst eo28 | (injection eo28 with f1_ f2_ f3_; have f4_ := f1_.symm; have f5_ := f3_.symm; clear f1_ f2_ f3_; subst f4_; subst f5_))
          refine start_ (n := 8) (S := fun w' => True) (ds := []) (bsA 8 0) (by kernel_rfl) rfl rfl trivial (fun hHeld => ?_); refine with_tabW impl_decodeWords.tab5 impl_decodeWords.bits5 (fun HT_ HW_ => ?_)
          generalize w25.drew = w26 at HO_3 HO418 HB hHeld ⊢
          refine pa_ (i := 0) (N := some 21) (bsA 8 1) (h := ?_)
          refine pa_ (i := 1) (N := some 22) (bsA 8 3) (h := ?_)
          refine pa_ (i := 3) (N := some 24) (bsA 8 11) (h := ?_)
          refine pa_ (i := 4) (N := some 25) (bsA 8 27) (h := ?_)
          refine pa_ (i := 5) (N := some 26) (bsA 8 59) (h := ?_)
          refine one_ (i := 2) (N := some 23) (bsA 8 63) rfl rfl (one_of HT_.out (by kernel_rfl)) (by decide) (fun K hK => ?_)
          refine Kd.R_append_rows_step (Kd.int .i64) (w0 := w) w.heap.size (by rfl) (.tmp 21) (.tmp 22) 37 2 (.int .i64 0) 8 rfl Tryd.underlying37 info2 rfl (by decide) (by omega) u3 x3_1 t415 _ _ _ (fun k_ => some k_ ≠ (.slice Ao28 t415.length co28 : Value).ownBlock) (fun _ => False) rfl rfl ?aO ?aR (fun _ _ h => h) (fun _ h => h.elim) ?aF ?aB ?aS ?aL ?_
          (case aR => exact z3 HO418.out)
          (case aB => exact bB)
          (case aF => exact (fun k_ hk => Kd.fresh' (Kd.R_lt (bR HO418)) k_ hk))
          (case aO => exact z23 HO_3.out)
          (case aS => exact (below_size bB))
          (case aL => have := LMc7.out; omega)
          intro v420 w27 ho hb hg hat
          rw [← Ny419.out] at ho
          have n0_ := Aside0.mk (Kd.R_after (ok := (fun _ => True)) (bR HO418) hg hat)
          have n1_ := Aside0.mk (hb)
          have n2_ := Aside0.mk (ho)
          clear HO418
          clear HB
          clear HO_3
          have HO418 := n0_
          have HB := n1_
          have HO421 := n2_
          clear n0_ n1_ n2_
          clear ho hb hg hat
          refine hK.out _ _ trivial (fun hHeld => ?_)
          clear hK K
          refine na_ (N := some 23) (h := ?_)
          refine pa_ (i := 6) (N := some 3) (bsA 8 127) (h := ?_)
          refine pa_ (i := 7) (N := some 0) (bsA 8 255) (h := ?_)
          refine done_ (done_of HT_.out (by kernel_rfl)) ?_
          try go_wp2_with (first | ((with_reducible refine gate_callee (f := 51) rfl ?_); refine goesL_ (some 28) rfl rfl Tryd.func51 (by kernel_rfl) rfl #[.string (x0_1.extract (t416 : Int).toNat x0_1.size), .string (⟨#[32, 9]⟩ : ByteArray)] rfl bM ?_; (with_reducible refine (strings_TrimLeft.calls (x0_1.extract (t416 : Int).toNat x0_1.size) (⟨#[32, 9]⟩ : ByteArray) t422 _ A10.out).mono ?_); rintro e w29 ⟨rfl, hb⟩; refine ⟨_, rfl, ?_⟩; replace HO418 := Aside0.mk (Kd.R_below (bR HO418) hb); replace HO421 := Aside0.mk (Kd.R_below (bR HO421) hb); replace HB := Aside0.mk (below_step bB hb); (try clear hi)) | ((with_reducible refine gate_callee (f := 50) rfl ?_); refine goesL_ (some 34) rfl rfl Tryd.func50 (by kernel_rfl) rfl #[.string t422] rfl bM ?_; (with_reducible refine (impl_toldWord.calls k1 t422 t423 t424 _ ?sidem A17.out).mono ?_); (case sidem => exact z32); rintro e w30 ⟨v425, rfl, ho0, hb⟩; refine ⟨_, rfl, ?_⟩; have HO426 := Aside0.mk (Kd.R_lower (Kd.R_new' (Kd.R_new' ho0 (Kd.R_lt (bR HO418))) (Kd.R_lt (bR HO421))) (below_size bB)); replace HO418 := Aside0.mk (Kd.R_elder' (bR HO418) (Kd.R_base ho0) hb); replace HO421 := Aside0.mk (Kd.R_elder' (bR HO421) (Kd.R_base ho0) hb); replace HB := Aside0.mk (below_step bB hb); (try clear ho0)))
          go_roundg k1
          case measure => have := HK1.out; omega
          case rel => exact ⟨(x0_1.extract (t416 : Int).toNat x0_1.size), (y419), bS, H', ⟨by have := HK1.out; omega⟩, ⟨z20 HO421.out⟩, ⟨bB⟩⟩
       ·rw [if_neg c9] at H
        exact absurd H (by simp)
      ·rw [if_neg c8] at H
       exact absurd H (by simp)
     ·rw [if_neg c7] at H
      exact absurd H (by simp)
    ·rw [if_neg c6] at H
     have c6b0 : decide (0 < t416) = false := decide_eq_false c6
     clear c6
     by_cases c31 : x0_1.size ≤ 281474976710656
     ·rw [if_pos c31] at H
      have c31b0 := eq_true c31
      have c31b1 : decide (x0_1.size ≤ 281474976710656) = true := decide_eq_true c31
      clear c31
      obtain ⟨y427, hy427⟩ : ∃ y_ : List Int, y_ = (bytesOf x0_1) := ⟨_, rfl⟩
      replace H : ((impl_firstChar.f k1 4 y427).bind fun bt430 => (if bt430.2 = 0 then (if x3_1.length < 17592186044416 then (if 1 ≤ (x0_1.size : Int) then (impl_decodeWords.l0 k1 (x0_1.extract 1 x0_1.size) (x3_1 ++ [65533])) else (none)) else (none)) else (if x3_1.length < 17592186044416 then (if 0 ≤ bt430.2 then (if bt430.2 ≤ (x0_1.size : Int) then (impl_decodeWords.l0 k1 (x0_1.extract (bt430.2 : Int).toNat x0_1.size) (x3_1 ++ [bt430.1])) else (none)) else (none)) else (none)))) = some r := z0 hy427
      have Ny427 := Aside0.mk hy427
      clear hy427
      replace H := Option.bind_eq_some_iff.mp H
      obtain ⟨⟨t430, t431⟩, A320, H⟩ := H
      replace H : (if t431 = 0 then (if x3_1.length < 17592186044416 then (if 1 ≤ (x0_1.size : Int) then (impl_decodeWords.l0 k1 (x0_1.extract 1 x0_1.size) (x3_1 ++ [65533])) else (none)) else (none)) else (if x3_1.length < 17592186044416 then (if 0 ≤ t431 then (if t431 ≤ (x0_1.size : Int) then (impl_decodeWords.l0 k1 (x0_1.extract (t431 : Int).toNat x0_1.size) (x3_1 ++ [t430])) else (none)) else (none)) else (none))) = some r := H
      have A32 := Aside0.mk A320
      clear A320
      by_cases c33 : t431 = 0
      ·rw [if_pos c33] at H
       have c33b0 : (t431 == 0) = true := beq_iff_eq.mpr c33
       have c33b1 : (t431 != 0) = false := bne_eq_false_iff_eq.mpr c33
       clear c33
       by_cases c34 : x3_1.length < 17592186044416
       ·rw [if_pos c34] at H
        have LMc34 := Aside0.mk c34
        clear c34
        obtain ⟨y432, hy432⟩ : ∃ y_ : List Int, y_ = (x3_1 ++ [65533]) := ⟨_, rfl⟩
        replace H : (if 1 ≤ (x0_1.size : Int) then (impl_decodeWords.l0 k1 (x0_1.extract 1 x0_1.size) y432) else (none)) = some r := z0 hy432
        have Ny432 := Aside0.mk hy432
        clear hy432
        by_cases c35 : 1 ≤ (x0_1.size : Int)
        ·rw [if_pos c35] at H
         have c35b0 := eq_true c35
         have c35b1 : decide (1 ≤ (x0_1.size : Int)) = true := decide_eq_true c35
         clear c35
         have H' := Aside0.mk H
         clear H
         try go_wp2_with (first | ((with_reducible refine gate_callee (f := 50) rfl ?_); refine goesL_ (some 16) rfl rfl Tryd.func50 (by kernel_rfl) rfl #[.string x0_1] rfl bM ?_; (with_reducible refine (impl_toldWord.calls k1 x0_1 t415 t416 _ ?sidem A5.out).mono ?_); (case sidem => exact z32); rintro e w36 ⟨v417, rfl, ho0, hb⟩; refine ⟨_, rfl, ?_⟩; have HO418 := Aside0.mk (Kd.R_lower (Kd.R_new' ho0 (Kd.R_lt (bR HO_3))) (below_size bB)); replace HO_3 := Aside0.mk (Kd.R_elder' (bR HO_3) (Kd.R_base ho0) hb); replace HB := Aside0.mk (below_step bB hb); (try clear ho0)) | ((with_reducible refine gate_dst (N := 42) rfl ?_); refine Kd.R_conv _ 5 rfl (N := 42) rfl 9 22 _ rfl x0_1 rfl Tryd.underlying9 Tryd.underlying22 Tryd.underlying5 (ok := fun _ => True) trivial (pI) (Below.refl _ _) (Nat.le_refl _) ?_; intro v428 w37 ho38 hb hg_ hnew_; clear hg_ hnew_; (first | rw [← Ny427.out] at ho38 | (simp only [Int.reduceToNat] at ho38; rw [← Ny427.out] at ho38)); replace HO_3 := Aside0.mk (Kd.R_below (bR HO_3) hb); replace HO418 := Aside0.mk (Kd.R_below (bR HO418) hb); have HO429 := Aside0.mk (Kd.R_lower ho38 (below_size bB)); replace HB := Aside0.mk (below_step bB hb); clear hb ho38; obtain ⟨Ao39, co39, eo39⟩ := Kd.R_slice HO429.out; subst eo39) | ((with_reducible refine gate_callee (f := 52) rfl ?_); refine goesL_ (some 43) rfl rfl Tryd.func52 (by kernel_rfl) rfl #[.int .i64 4, .slice Ao39 y427.length co39] rfl bM ?_; (with_reducible refine (impl_firstChar.calls k1 4 _ _ y427 t430 t431 _ ?side1 ?side2 A32.out).mono ?_); (case side1 => exact z3 HO429.out); (case side2 => exact (Kd.R_reads' HO429.out).2.1); rintro e w40 ⟨rfl, hb⟩; refine ⟨_, rfl, ?_⟩; replace HO_3 := Aside0.mk (Kd.R_below (bR HO_3) hb); replace HO418 := Aside0.mk (Kd.R_below (bR HO418) hb); replace HO429 := Aside0.mk (Kd.R_below (bR HO429) hb); replace HB := Aside0.mk (below_step bB hb); (try clear hi)))
         replace HO_3 := Aside0.mk (Kd.R_drew HO_3.out)
         replace HO418 := Aside0.mk (Kd.R_drew HO418.out)
         replace HO429 := Aside0.mk (Kd.R_drew HO429.out)
         replace HB := Aside0.mk (below_drew1 HB.out)
         refine start_ (n := 9) (S := fun w' => True) (ds := []) (bsA 9 0) (by kernel_rfl) rfl rfl trivial (fun hHeld => ?_); refine with_tabW impl_decodeWords.tab14 impl_decodeWords.bits14 (fun HT_ HW_ => ?_)
         generalize w40.drew = w41 at HO_3 HO418 HO429 HB hHeld ⊢
         refine pa_ (i := 0) (N := some 48) (bsA 9 1) (h := ?_)
         refine pa_ (i := 1) (N := some 49) (bsA 9 3) (h := ?_)
         refine pa_ (i := 4) (N := some 52) (bsA 9 19) (h := ?_)
         refine pa_ (i := 5) (N := some 53) (bsA 9 51) (h := ?_)
         refine pa_ (i := 6) (N := some 54) (bsA 9 115) (h := ?_)
         refine one_ (i := 2) (N := some 50) (bsA 9 119) rfl rfl (one_of HT_.out (by kernel_rfl)) (by decide) (fun K hK => ?_)
         refine value_ (w1 := ?_) (v := ?_) (by rfl) rfl ?_ ?_
         rotate_left 2
         ·go_simp
          constructor
          ·rfl
          ·rfl
         refine hK.out _ _ trivial (fun hHeld => ?_)
         clear hK K
         refine na_ (N := some 50) (h := ?_)
         refine one_ (i := 3) (N := some 51) (bsA 9 127) rfl rfl (one_of HT_.out (by kernel_rfl)) (by decide) (fun K hK => ?_)
         refine Kd.R_append_step (Kd.int .i64) (w0 := w) w.heap.size (by rfl) (.tmp 48) (.tmp 50) 37 2 (.int .i64 0) 8 rfl Tryd.underlying37 info2 rfl (by decide) (by omega) u3 x3_1 65533 [.int .i64 65533] (fun k_ => some k_ ≠ (v417 : Value).ownBlock) (fun _ => False) rfl rfl ?aP (fun _ hk => hk.elim) ?aF ?aO ?aB ?aS ?aL ?_
         (case aP => exact rfl)
         (case aB => exact bB)
         (case aF => exact (fun k_ hk => Kd.fresh' (Kd.R_lt (bR HO418)) k_ hk))
         (case aO => exact z23 HO_3.out)
         (case aS => exact (below_size bB))
         (case aL => have := LMc34.out; omega)
         intro v433 w42 ho hb hg hat
         rw [← Ny432.out] at ho
         have n0_ := Aside0.mk (Kd.R_after (ok := (fun _ => True)) (bR HO418) hg hat)
         have n1_ := Aside0.mk (Kd.R_over' (bR HO429) (Kd.R_typed (bR HO_3)) (by decide) hg)
         have n2_ := Aside0.mk (hb)
         have n3_ := Aside0.mk (ho)
         clear HO418
         clear HO429
         clear HB
         clear HO_3
         have HO418 := n0_
         have HO429 := n1_
         have HB := n2_
         have HO434 := n3_
         clear n0_ n1_ n2_ n3_
         clear ho hb hg hat
         refine hK.out _ _ trivial (fun hHeld => ?_)
         clear hK K
         refine na_ (N := some 51) (h := ?_)
         refine pa_ (i := 7) (N := some 3) (bsA 9 255) (h := ?_)
         refine pa_ (i := 8) (N := some 0) (bsA 9 511) (h := ?_)
         refine done_ (done_of HT_.out (by kernel_rfl)) ?_
         try go_wp2
         go_roundg k1
         case measure => have := HK1.out; omega
         case rel => exact ⟨(x0_1.extract 1 x0_1.size), (y432), bS, H', ⟨by have := HK1.out; omega⟩, ⟨z20 HO434.out⟩, ⟨bB⟩⟩
        ·rw [if_neg c35] at H
         exact absurd H (by simp)
       ·rw [if_neg c34] at H
        exact absurd H (by simp)
      ·rw [if_neg c33] at H
       have c33b0 : (t431 == 0) = false := beq_eq_false_iff_ne.mpr c33
       have c33b1 : (t431 != 0) = true := bne_iff_ne.mpr c33
       by_cases c43 : x3_1.length < 17592186044416
       ·rw [if_pos c43] at H
        have LMc43 := Aside0.mk c43
        clear c43
        obtain ⟨y435, hy435⟩ : ∃ y_ : List Int, y_ = (x3_1 ++ [t430]) := ⟨_, rfl⟩
        replace H : (if 0 ≤ t431 then (if t431 ≤ (x0_1.size : Int) then (impl_decodeWords.l0 k1 (x0_1.extract (t431 : Int).toNat x0_1.size) y435) else (none)) else (none)) = some r := z0 hy435
        have Ny435 := Aside0.mk hy435
        clear hy435
        by_cases c44 : 0 ≤ t431
        ·rw [if_pos c44] at H
         have c44b0 := eq_true c44
         have c44b1 : decide (0 ≤ t431) = true := decide_eq_true c44
         clear c44
         by_cases c45 : t431 ≤ (x0_1.size : Int)
         ·rw [if_pos c45] at H
          have c45b0 := eq_true c45
          have c45b1 : decide (t431 ≤ (x0_1.size : Int)) = true := decide_eq_true c45
          clear c45
          have H' := Aside0.mk H
          clear H
          try go_wp2_with (first | ((with_reducible refine gate_callee (f := 50) rfl ?_); refine goesL_ (some 16) rfl rfl Tryd.func50 (by kernel_rfl) rfl #[.string x0_1] rfl bM ?_; (with_reducible refine (impl_toldWord.calls k1 x0_1 t415 t416 _ ?sidem A5.out).mono ?_); (case sidem => exact z32); rintro e w46 ⟨v417, rfl, ho0, hb⟩; refine ⟨_, rfl, ?_⟩; have HO418 := Aside0.mk (Kd.R_lower (Kd.R_new' ho0 (Kd.R_lt (bR HO_3))) (below_size bB)); replace HO_3 := Aside0.mk (Kd.R_elder' (bR HO_3) (Kd.R_base ho0) hb); replace HB := Aside0.mk (below_step bB hb); (try clear ho0)) | ((with_reducible refine gate_dst (N := 42) rfl ?_); refine Kd.R_conv _ 5 rfl (N := 42) rfl 9 22 _ rfl x0_1 rfl Tryd.underlying9 Tryd.underlying22 Tryd.underlying5 (ok := fun _ => True) trivial (pI) (Below.refl _ _) (Nat.le_refl _) ?_; intro v428 w47 ho48 hb hg_ hnew_; clear hg_ hnew_; (first | rw [← Ny427.out] at ho48 | (simp only [Int.reduceToNat] at ho48; rw [← Ny427.out] at ho48)); replace HO_3 := Aside0.mk (Kd.R_below (bR HO_3) hb); replace HO418 := Aside0.mk (Kd.R_below (bR HO418) hb); have HO429 := Aside0.mk (Kd.R_lower ho48 (below_size bB)); replace HB := Aside0.mk (below_step bB hb); clear hb ho48; obtain ⟨Ao49, co49, eo49⟩ := Kd.R_slice HO429.out; subst eo49) | ((with_reducible refine gate_callee (f := 52) rfl ?_); refine goesL_ (some 43) rfl rfl Tryd.func52 (by kernel_rfl) rfl #[.int .i64 4, .slice Ao49 y427.length co49] rfl bM ?_; (with_reducible refine (impl_firstChar.calls k1 4 _ _ y427 t430 t431 _ ?side1 ?side2 A32.out).mono ?_); (case side1 => exact z3 HO429.out); (case side2 => exact (Kd.R_reads' HO429.out).2.1); rintro e w50 ⟨rfl, hb⟩; refine ⟨_, rfl, ?_⟩; replace HO_3 := Aside0.mk (Kd.R_below (bR HO_3) hb); replace HO418 := Aside0.mk (Kd.R_below (bR HO418) hb); replace HO429 := Aside0.mk (Kd.R_below (bR HO429) hb); replace HB := Aside0.mk (below_step bB hb); (try clear hi)))
          replace HO_3 := Aside0.mk (Kd.R_drew HO_3.out)
          replace HO418 := Aside0.mk (Kd.R_drew HO418.out)
          replace HO429 := Aside0.mk (Kd.R_drew HO429.out)
          replace HB := Aside0.mk (below_drew1 HB.out)
          refine start_ (n := 9) (S := fun w' => True) (ds := []) (bsA 9 0) (by kernel_rfl) rfl rfl trivial (fun hHeld => ?_); refine with_tabW impl_decodeWords.tab14 impl_decodeWords.bits14 (fun HT_ HW_ => ?_)
          generalize w50.drew = w51 at HO_3 HO418 HO429 HB hHeld ⊢
          refine pa_ (i := 0) (N := some 48) (bsA 9 1) (h := ?_)
          refine pa_ (i := 1) (N := some 49) (bsA 9 3) (h := ?_)
          refine pa_ (i := 4) (N := some 52) (bsA 9 19) (h := ?_)
          refine pa_ (i := 5) (N := some 53) (bsA 9 51) (h := ?_)
          refine pa_ (i := 6) (N := some 54) (bsA 9 115) (h := ?_)
          refine one_ (i := 2) (N := some 50) (bsA 9 119) rfl rfl (one_of HT_.out (by kernel_rfl)) (by decide) (fun K hK => ?_)
          refine value_ (w1 := ?_) (v := ?_) (by rfl) rfl ?_ ?_
          rotate_left 2
          ·go_simp
           constructor
           ·rfl
           ·rfl
          refine hK.out _ _ trivial (fun hHeld => ?_)
          clear hK K
          refine na_ (N := some 50) (h := ?_)
          refine one_ (i := 3) (N := some 51) (bsA 9 127) rfl rfl (one_of HT_.out (by kernel_rfl)) (by decide) (fun K hK => ?_)
          refine Kd.R_append_step (Kd.int .i64) (w0 := w) w.heap.size (by rfl) (.tmp 48) (.tmp 50) 37 2 (.int .i64 0) 8 rfl Tryd.underlying37 info2 rfl (by decide) (by omega) u3 x3_1 t430 [.int .i64 t430] (fun k_ => some k_ ≠ (v417 : Value).ownBlock) (fun _ => False) rfl rfl ?aP (fun _ hk => hk.elim) ?aF ?aO ?aB ?aS ?aL ?_
          (case aP => exact rfl)
          (case aB => exact bB)
          (case aF => exact (fun k_ hk => Kd.fresh' (Kd.R_lt (bR HO418)) k_ hk))
          (case aO => exact z23 HO_3.out)
          (case aS => exact (below_size bB))
          (case aL => have := LMc43.out; omega)
          intro v436 w52 ho hb hg hat
          rw [← Ny435.out] at ho
          have n0_ := Aside0.mk (Kd.R_after (ok := (fun _ => True)) (bR HO418) hg hat)
          have n1_ := Aside0.mk (Kd.R_over' (bR HO429) (Kd.R_typed (bR HO_3)) (by decide) hg)
          have n2_ := Aside0.mk (hb)
          have n3_ := Aside0.mk (ho)
          clear HO418
          clear HO429
          clear HB
          clear HO_3
          have HO418 := n0_
          have HO429 := n1_
          have HB := n2_
          have HO437 := n3_
          clear n0_ n1_ n2_ n3_
          clear ho hb hg hat
          refine hK.out _ _ trivial (fun hHeld => ?_)
          clear hK K
          refine na_ (N := some 51) (h := ?_)
          refine pa_ (i := 7) (N := some 3) (bsA 9 255) (h := ?_)
          refine pa_ (i := 8) (N := some 0) (bsA 9 511) (h := ?_)
          refine done_ (done_of HT_.out (by kernel_rfl)) ?_
          try go_wp2
          go_roundg k1
          case measure => have := HK1.out; omega
          case rel => exact ⟨(x0_1.extract (t431 : Int).toNat x0_1.size), (y435), bS, H', ⟨by have := HK1.out; omega⟩, ⟨z20 HO437.out⟩, ⟨bB⟩⟩
         ·rw [if_neg c45] at H
          exact absurd H (by simp)
        ·rw [if_neg c44] at H
         exact absurd H (by simp)
       ·rw [if_neg c43] at H
        exact absurd H (by simp)
     ·rw [if_neg c31] at H
      exact absurd H (by simp)
def impl_DecodeWords.f (k : Nat) (a0 : ByteArray) : Option (Int × List Int) := if (a0.size : Int) > 400 then (some (2, ([] : List Int))) else ((impl_decodeWords.f k a0).bind fun t439 => (if (t439.length : Int) > 400 then (some (2, ([] : List Int))) else (some (0, t439))))
set_option maxHeartbeats 8000000 in
set_option maxRecDepth 100000 in
theorem impl_DecodeWords.calls (k : Nat) (a0 : ByteArray) (r1 : Int) (r2 : List Int) (w : World) (hm_ : ∃ m, w.cell? ⟨0, 0, none⟩ = some (.int .i64 m)) (h : impl_DecodeWords.f k a0 = some (r1, r2)) :
  Calls Tryd.prog 18 #[.string a0] w fun e w' => ∃ v1_ : Value, e = .returned (.agg #[.int .i64 r1, v1_]) ∧ Kd.R (Kd.int .i64) 2 w' w.heap.size (fun _ => True) v1_ r2 ∧ Below w.heap.size w w' := by
 have HM_ := Aside0.mk hm_
 clear hm_
 have hu39 := Tryd.underlying39
 have HB := Aside0.mk (Below.refl w.heap.size w)
 have H : (if (a0.size : Int) > 400 then (some (2, ([] : List Int))) else ((impl_decodeWords.f k a0).bind fun t439 => (if (t439.length : Int) > 400 then (some (2, ([] : List Int))) else (some (0, t439))))) = some (r1, r2) := h
 clear h
 by_cases c2 : (a0.size : Int) > 400
 ·rw [if_pos c2] at H
  have c2b0 : decide (400 < (a0.size : Int)) = true := decide_eq_true c2
  have c2b1 : decide (400 < a0.size) = true := decide_eq_true (by omega)
  clear c2
  simp only [Option.some.injEq, Prod.mk.injEq] at H
  obtain ⟨rfl, rfl⟩ := H
  go_enter Tryd.func18, Tryd.ntmps18
  go_wp2_with (first | ((with_reducible refine gate_dst (N := 2) rfl ?_); refine box_event ?hg (N := 2) ?hd (cs := #[.int .i64 0, .slice none 0 0]) (t := 39) ?hr ?_; (case hd => rfl); (case hg => rfl); (case hr => exact z11); intro gb438 hg w3 hbox hb; have BK438 := Aside0.mk (hbox); have GW438 := Aside0.mk ((z18 : w.heap.size ≤ gb438)); have GE438 := Aside0.mk ((z18 : w.heap.size ≤ gb438)); replace HB := Aside0.mk (below_step bB hb); clear hb hbox hg; have hcz4_0 : w3.cell? ⟨gb438, 0, none⟩ = some (.int .i64 0) := (blk_cell BK438.out 0).trans rfl; have hcz4_1 : w3.cell? ⟨gb438, 1, none⟩ = some (.slice none 0 0) := (blk_cell BK438.out 1).trans rfl; have hfz4_0 := blk_frozen BK438.out 0; have hfz4_1 := blk_frozen BK438.out 1))
  refine bodyPost_ret (results_cell_row rfl _ _ gb438 39 #[.int .i64 2, .slice none 0 0] (0, 0) _ rfl (z15 BK438.out) Tryd.underlying39 rfl (by kernel_rfl)) rfl ?_
  exact ⟨_, bE, z4, bG GE438⟩
 ·rw [if_neg c2] at H
  have c2b0 : decide (400 < (a0.size : Int)) = false := decide_eq_false c2
  have c2b1 : decide (400 < a0.size) = false := decide_eq_false (by omega)
  clear c2
  replace H := Option.bind_eq_some_iff.mp H
  obtain ⟨t439, A50, H⟩ := H
  replace H : (if (t439.length : Int) > 400 then (some (2, ([] : List Int))) else (some (0, t439))) = some (r1, r2) := H
  have A5 := Aside0.mk A50
  clear A50
  by_cases c6 : (t439.length : Int) > 400
  ·rw [if_pos c6] at H
   have c6b0 : decide (400 < (t439.length : Int)) = true := decide_eq_true c6
   have c6b1 : decide (400 < t439.length) = true := decide_eq_true (by omega)
   clear c6
   simp only [Option.some.injEq, Prod.mk.injEq] at H
   obtain ⟨rfl, rfl⟩ := H
   go_enter Tryd.func18, Tryd.ntmps18
   go_wp2_with (first | ((with_reducible refine gate_dst (N := 2) rfl ?_); refine box_event ?hg (N := 2) ?hd (cs := #[.int .i64 0, .slice none 0 0]) (t := 39) ?hr ?_; (case hd => rfl); (case hg => rfl); (case hr => exact z11); intro gb438 hg w7 hbox hb; have BK438 := Aside0.mk (hbox); have GW438 := Aside0.mk ((z18 : w.heap.size ≤ gb438)); have GE438 := Aside0.mk ((z18 : w.heap.size ≤ gb438)); replace HB := Aside0.mk (below_step bB hb); clear hb hbox hg) | ((with_reducible refine gate_callee (f := 38) rfl ?_); refine goesL_ (some 9) rfl rfl Tryd.func38 (by kernel_rfl) rfl #[.string a0] rfl bM ?_; (with_reducible refine (impl_decodeWords.calls k a0 t439 _ ?sidem A5.out).mono ?_); (case sidem => exact z32); rintro e w8 ⟨v440, rfl, ho0, hb⟩; refine ⟨_, rfl, ?_⟩; have HO441 := Aside0.mk (Kd.R_lower ho0 (below_size (bG GE438))); replace BK438 := Aside0.mk (blk_below (g := gb438) (o := .cells #[.int .i64 0, .slice none 0 0] 39 (0, 0)) (bL BK438) hb); replace HB := Aside0.mk (below_step (bG GE438) hb); (try clear ho0); obtain ⟨Ao9, co9, eo9⟩ := Kd.R_slice HO441.out; subst eo9; have hcz10_0 : w8.cell? ⟨gb438, 0, none⟩ = some (.int .i64 0) := (blk_cell BK438.out 0).trans rfl; have hcz10_1 : w8.cell? ⟨gb438, 1, none⟩ = some (.slice none 0 0) := (blk_cell BK438.out 1).trans rfl; have hfz10_0 := blk_frozen BK438.out 0; have hfz10_1 := blk_frozen BK438.out 1))
   refine bodyPost_ret (results_cell_row rfl _ _ gb438 39 #[.int .i64 2, .slice none 0 0] (0, 0) _ rfl (z15 BK438.out) Tryd.underlying39 rfl (by kernel_rfl)) rfl ?_
   exact ⟨_, bE, z4, bG GE438⟩
  ·rw [if_neg c6] at H
   have c6b0 : decide (400 < (t439.length : Int)) = false := decide_eq_false c6
   have c6b1 : decide (400 < t439.length) = false := decide_eq_false (by omega)
   clear c6
   simp only [Option.some.injEq, Prod.mk.injEq] at H
   obtain ⟨rfl, rfl⟩ := H
   go_enter Tryd.func18, Tryd.ntmps18
   go_wp2_with (first | ((with_reducible refine gate_dst (N := 2) rfl ?_); refine box_event ?hg (N := 2) ?hd (cs := #[.int .i64 0, .slice none 0 0]) (t := 39) ?hr ?_; (case hd => rfl); (case hg => rfl); (case hr => exact z11); intro gb438 hg w11 hbox hb; have BK438 := Aside0.mk (hbox); have GW438 := Aside0.mk ((z18 : w.heap.size ≤ gb438)); have GE438 := Aside0.mk ((z18 : w.heap.size ≤ gb438)); replace HB := Aside0.mk (below_step bB hb); clear hb hbox hg) | ((with_reducible refine gate_callee (f := 38) rfl ?_); refine goesL_ (some 9) rfl rfl Tryd.func38 (by kernel_rfl) rfl #[.string a0] rfl bM ?_; (with_reducible refine (impl_decodeWords.calls k a0 t439 _ ?sidem A5.out).mono ?_); (case sidem => exact z32); rintro e w12 ⟨v440, rfl, ho0, hb⟩; refine ⟨_, rfl, ?_⟩; have HO441 := Aside0.mk (Kd.R_lower ho0 (below_size (bG GE438))); replace BK438 := Aside0.mk (blk_below (g := gb438) (o := .cells #[.int .i64 0, .slice none 0 0] 39 (0, 0)) (bL BK438) hb); replace HB := Aside0.mk (below_step (bG GE438) hb); (try clear ho0); obtain ⟨Ao13, co13, eo13⟩ := Kd.R_slice HO441.out; subst eo13; have hcz14_0 : w12.cell? ⟨gb438, 0, none⟩ = some (.int .i64 0) := (blk_cell BK438.out 0).trans rfl; have hcz14_1 : w12.cell? ⟨gb438, 1, none⟩ = some (.slice none 0 0) := (blk_cell BK438.out 1).trans rfl; have hfz14_0 := blk_frozen BK438.out 0; have hfz14_1 := blk_frozen BK438.out 1))
   refine bodyPost_ret (results_cell_row rfl _ _ gb438 39 #[.int .i64 0, .slice Ao13 t439.length co13] (0, 0) _ rfl (z22 BK438.out) Tryd.underlying39 rfl (by kernel_rfl)) rfl ?_
   exact ⟨_, bE, by (with_reducible repeat (first | apply Kd.R_alloc | apply Kd.R_drewN | apply Kd.R_drew)); exact Kd.R_mono (Kd.R_far (p := ⟨gb438, 1, none⟩) (Kd.R_far (p := ⟨gb438, 0, none⟩) (Kd.R_types HO441.out BK438.out (by decide)) (fun _ hk => hk.2) (.int .i64 0)) (fun _ hk => hk.2) (.slice Ao13 t439.length co13)) (fun _ hk => trivial), bG GE438⟩
def laws_eqInt64S.l0 : Nat → List Int → List Int → Int → Option (Bool)
 | 0, _, _, _ => none
 | k + 1, x0, x1, x5 => if x5 < (x0.length : Int) then (if 0 ≤ x5 then (if x5 < (x1.length : Int) then (if (rd x0 x5) = (rd x1 x5) then (laws_eqInt64S.l0 k x0 x1 (wrap64 (x5 + 1))) else (some false)) else (none)) else (none)) else (some true)
def laws_eqInt64S.f (k : Nat) (l0 : List Int) (l1 : List Int) : Option (Bool) := if (l0.length : Int) = (l1.length : Int) then (laws_eqInt64S.l0 k l0 l1 0) else (some false)
set_option maxHeartbeats 8000000 in
set_option maxRecDepth 100000 in
theorem laws_eqInt64S.calls (k : Nat) (A0 : Option Addr) (c0 : Nat) (l0 : List Int) (A1 : Option Addr) (c1 : Nat) (l1 : List Int) (r : Bool) (w : World) (hr0 : Kd.C (Kd.int .i64) w A0 l0.length l0) (hc0 : l0.length ≤ c0) (hr1 : Kd.C (Kd.int .i64) w A1 l1.length l1) (hc1 : l1.length ≤ c1) (h : laws_eqInt64S.f k l0 l1 = some r) :
  Calls Tryd.prog 39 #[.slice A0 l0.length c0, .slice A1 l1.length c1] w fun e w' => e = .returned (.bool r) ∧ Drawn0 w w' := by
 have HR0 := Aside0.mk hr0
 have HC0 := Aside0.mk hc0
 clear hr0 hc0
 have HR1 := Aside0.mk hr1
 have HC1 := Aside0.mk hc1
 clear hr1 hc1
 have H : (if (l0.length : Int) = (l1.length : Int) then (laws_eqInt64S.l0 k l0 l1 0) else (some false)) = some r := h
 clear h
 by_cases c3 : (l0.length : Int) = (l1.length : Int)
 ·rw [if_pos c3] at H
  have c3b0 : ((l0.length : Int) == (l1.length : Int)) = true := beq_iff_eq.mpr c3
  have c3b1 : ((l0.length : Int) != (l1.length : Int)) = false := bne_eq_false_iff_eq.mpr c3
  have c3b2 : (l0.length == l1.length) = true := by first | simpa using c3 | (simp at c3 ⊢; omega)
  clear c3
  have H' := Aside0.mk H
  clear H
  go_enter Tryd.func39, Tryd.ntmps39
  go_wp2
  repeat (go_quiet (fail); try go_wp2)
  go_loopg [5] k (fun kq v5 w' => ∃ (x5_1 : Int), v5 = .int .i64 x5_1 ∧ Aside0 (laws_eqInt64S.l0 kq l0 l1 x5_1 = some r) ∧ Aside0 (kq ≤ k) ∧ Drawn0 w w')
  case atStart => exact ⟨(0), bS, H', ⟨Nat.le_refl _⟩, z2⟩
  case round =>
   clear H'
   try clear c1
   try clear p2
   try clear c3
   try clear c3b0
   try clear c3b1
   try clear c3b2
   obtain ⟨x5_1, rfl, HA, HK1, ⟨m1, rfl⟩⟩ := hrel
   cases gk with
   | zero => exact absurd HA.out (by simp [laws_eqInt64S.l0])
   | succ k1 =>
    have H := HA.out
    clear HA
    simp only [laws_eqInt64S.l0] at H
    by_cases c4 : x5_1 < (l0.length : Int)
    ·rw [if_pos c4] at H
     have c4b0 : decide (x5_1 < (l0.length : Int)) = true := decide_eq_true c4
     clear c4
     by_cases c5 : 0 ≤ x5_1
     ·rw [if_pos c5] at H
      have c5b0 : decide (0 ≤ x5_1) = true := decide_eq_true c5
      clear c5
      by_cases c6 : x5_1 < (l1.length : Int)
      ·rw [if_pos c6] at H
       have c6b0 : decide (x5_1 < (l1.length : Int)) = true := decide_eq_true c6
       clear c6
       by_cases c7 : (rd l0 x5_1) = (rd l1 x5_1)
       ·rw [if_pos c7] at H
        have c7b0 : ((rd l0 x5_1) == (rd l1 x5_1)) = true := beq_iff_eq.mpr c7
        have c7b1 : ((rd l0 x5_1) != (rd l1 x5_1)) = false := bne_eq_false_iff_eq.mpr c7
        clear c7
        have H' := Aside0.mk H
        clear H
        have p442 : 0 ≤ (x5_1 : Int) := pI
        have q442 : x5_1 < (l0.length : Int) := pI
        obtain ⟨ad442, e442, hx442_0⟩ := Kd.at_int HR0.out x5_1 p442 q442
        cases e442
        replace p442 := eq_true p442
        replace q442 := eq_true q442
        have p443 : 0 ≤ (x5_1 : Int) := pI
        have q443 : x5_1 < (l1.length : Int) := pI
        obtain ⟨ad443, e443, hx443_0⟩ := Kd.at_int HR1.out x5_1 p443 q443
        cases e443
        replace p443 := eq_true p443
        replace q443 := eq_true q443
        go_wp2
        repeat (go_quiet (fail); try go_wp2)
        go_roundg k1
        case measure => have := HK1.out; omega
        case rel => exact ⟨(wrap64 (x5_1 + 1)), bS, H', ⟨by have := HK1.out; omega⟩, z2⟩
       ·rw [if_neg c7] at H
        have c7b0 : ((rd l0 x5_1) == (rd l1 x5_1)) = false := beq_eq_false_iff_ne.mpr c7
        have c7b1 : ((rd l0 x5_1) != (rd l1 x5_1)) = true := bne_iff_ne.mpr c7
        obtain rfl := Option.some.inj H
        have p442 : 0 ≤ (x5_1 : Int) := pI
        have q442 : x5_1 < (l0.length : Int) := pI
        obtain ⟨ad442, e442, hx442_0⟩ := Kd.at_int HR0.out x5_1 p442 q442
        cases e442
        replace p442 := eq_true p442
        replace q442 := eq_true q442
        have p443 : 0 ≤ (x5_1 : Int) := pI
        have q443 : x5_1 < (l1.length : Int) := pI
        obtain ⟨ad443, e443, hx443_0⟩ := Kd.at_int HR1.out x5_1 p443 q443
        cases e443
        replace p443 := eq_true p443
        replace q443 := eq_true q443
        go_wp2
        repeat (go_quiet (fail); try go_wp2)
        go_ret
        exact ⟨bS, z2⟩
      ·rw [if_neg c6] at H
       exact absurd H (by simp)
     ·rw [if_neg c5] at H
      exact absurd H (by simp)
    ·rw [if_neg c4] at H
     have c4b0 : decide (x5_1 < (l0.length : Int)) = false := decide_eq_false c4
     clear c4
     obtain rfl := Option.some.inj H
     go_wp2
     repeat (go_quiet (fail); try go_wp2)
     go_ret
     exact ⟨bS, z2⟩
 ·rw [if_neg c3] at H
  have c3b0 : ((l0.length : Int) == (l1.length : Int)) = false := beq_eq_false_iff_ne.mpr c3
  have c3b1 : ((l0.length : Int) != (l1.length : Int)) = true := bne_iff_ne.mpr c3
  have c3b2 : (l0.length == l1.length) = false := by first | simpa using c3 | (simp at c3 ⊢; omega)
  obtain rfl := Option.some.inj H
  go_enter Tryd.func39, Tryd.ntmps39
  go_wp2
  repeat (go_quiet (fail); try go_wp2)
  go_ret
  exact ⟨bS, z2⟩
def laws_eqCodesResult.f (k : Nat) (a0_0 : Int) (l0_1 : List Int) (a1_0 : Int) (l1_1 : List Int) : Option (Bool) := if a0_0 = a1_0 then ((laws_eqInt64S.f k l0_1 l1_1).bind fun t446 => (if t446 = true then (some true) else (some false))) else (some false)
set_option maxHeartbeats 8000000 in
set_option maxRecDepth 100000 in
theorem laws_eqCodesResult.calls (k : Nat) (a0_0 : Int) (A0_1 : Option Addr) (c0_1 : Nat) (l0_1 : List Int) (a1_0 : Int) (A1_1 : Option Addr) (c1_1 : Nat) (l1_1 : List Int) (r : Bool) (w : World) (hr0_1 : Kd.C (Kd.int .i64) w A0_1 l0_1.length l0_1) (hc0_1 : l0_1.length ≤ c0_1) (hr1_1 : Kd.C (Kd.int .i64) w A1_1 l1_1.length l1_1) (hc1_1 : l1_1.length ≤ c1_1) (h : laws_eqCodesResult.f k a0_0 l0_1 a1_0 l1_1 = some r) :
  Calls Tryd.prog 19 #[.agg #[.int .i64 a0_0, .slice A0_1 l0_1.length c0_1], .agg #[.int .i64 a1_0, .slice A1_1 l1_1.length c1_1]] w fun e w' => e = .returned (.bool r) ∧ Below w.heap.size w w' := by
 have hu39 := Tryd.underlying39
 have HR0_1 := Aside0.mk hr0_1
 have HC0_1 := Aside0.mk hc0_1
 clear hr0_1 hc0_1
 have HR1_1 := Aside0.mk hr1_1
 have HC1_1 := Aside0.mk hc1_1
 clear hr1_1 hc1_1
 have HB := Aside0.mk (Below.refl w.heap.size w)
 have H : (if a0_0 = a1_0 then ((laws_eqInt64S.f k l0_1 l1_1).bind fun t446 => (if t446 = true then (some true) else (some false))) else (some false)) = some r := h
 clear h
 by_cases c3 : a0_0 = a1_0
 ·rw [if_pos c3] at H
  have c3b0 : (a0_0 == a1_0) = true := beq_iff_eq.mpr c3
  have c3b1 : (a0_0 != a1_0) = false := bne_eq_false_iff_eq.mpr c3
  clear c3
  replace H := Option.bind_eq_some_iff.mp H
  obtain ⟨t446, A40, H⟩ := H
  replace H : (if t446 = true then (some true) else (some false)) = some r := H
  have A4 := Aside0.mk A40
  clear A40
  by_cases c5 : t446 = true
  ·subst c5
   have H1 : (some true) = some r := z31
   clear H
   have H := H1
   clear H1
   obtain rfl := Option.some.inj H
   go_enter Tryd.func19, Tryd.ntmps19
   go_wp2_with (first | ((with_reducible refine gate_dst (N := 2) rfl ?_); refine box_event ?hg (N := 2) ?hd (cs := #[.int .i64 a0_0, .slice A0_1 l0_1.length c0_1]) (t := 39) ?hr ?_; (case hd => rfl); (case hg => rfl); (case hr => exact z11); intro gb444 hg w6 hbox hb; have BK444 := Aside0.mk (hbox); have GW444 := Aside0.mk ((z18 : w.heap.size ≤ gb444)); have GE444 := Aside0.mk ((z18 : w.heap.size ≤ gb444)); replace HB := Aside0.mk (below_step bB hb); clear hb hbox hg) | ((with_reducible refine gate_dst (N := 3) rfl ?_); refine box_event ?hg (N := 3) ?hd (cs := #[.int .i64 a1_0, .slice A1_1 l1_1.length c1_1]) (t := 39) ?hr ?_; (case hd => rfl); (case hg => rfl); (case hr => exact z11); intro gb445 hg w7 hbox hb; have BK445 := Aside0.mk (hbox); have GW445 := Aside0.mk ((z78 : w.heap.size ≤ gb445)); have GE445 := Aside0.mk ((z78 : w.heap.size ≤ gb445)); replace HB := Aside0.mk (below_step (bG GE444) hb); have NB444_445 := Aside0.mk ((z58 : gb444 ≠ gb445)); have NB445_444 := Aside0.mk ((z65 : gb445 ≠ gb444)); replace BK444 := Aside0.mk (blk_below (g := gb444) (o := .cells #[.int .i64 a0_0, .slice A0_1 l0_1.length c0_1] 39 (0, 0)) (bL BK444) hb); clear hb hbox hg; have hnb8 := NB444_445.out; have hnc8 := NB445_444.out; have hcz9_0 : w7.cell? ⟨gb444, 0, none⟩ = some (.int .i64 a0_0) := (blk_cell BK444.out 0).trans rfl; have hcz9_1 : w7.cell? ⟨gb444, 1, none⟩ = some (.slice A0_1 l0_1.length c0_1) := (blk_cell BK444.out 1).trans rfl; have hfz9_0 := blk_frozen BK444.out 0; have hfz9_1 := blk_frozen BK444.out 1; have hcz10_0 : w7.cell? ⟨gb445, 0, none⟩ = some (.int .i64 a1_0) := (blk_cell BK445.out 0).trans rfl; have hcz10_1 : w7.cell? ⟨gb445, 1, none⟩ = some (.slice A1_1 l1_1.length c1_1) := (blk_cell BK445.out 1).trans rfl; have hfz10_0 := blk_frozen BK445.out 0; have hfz10_1 := blk_frozen BK445.out 1) | ((with_reducible refine gate_callee (f := 39) rfl ?_); refine goesL_ (some 14) rfl rfl Tryd.func39 (by kernel_rfl) rfl #[.slice A0_1 l0_1.length c0_1, .slice A1_1 l1_1.length c1_1] rfl bM ?_; (with_reducible refine (laws_eqInt64S.calls k _ _ l0_1 _ _ l1_1 true _ ?side1 ?side2 ?side3 ?side4 A4.out).mono ?_); (case side1 => exact z30 HR0_1.out); (case side2 => exact HC0_1.out); (case side3 => exact z30 HR1_1.out); (case side4 => exact HC1_1.out); rintro e w' ⟨rfl, ⟨nd, rfl⟩⟩; refine ⟨_, rfl, ?_⟩))
   go_ret
   exact ⟨bE, bG2 GE444 GE445⟩
  ·replace c5 := Bool.eq_false_iff.mpr c5
   subst c5
   have H1 : (some false) = some r := z14
   clear H
   have H := H1
   clear H1
   obtain rfl := Option.some.inj H
   go_enter Tryd.func19, Tryd.ntmps19
   go_wp2_with (first | ((with_reducible refine gate_dst (N := 2) rfl ?_); refine box_event ?hg (N := 2) ?hd (cs := #[.int .i64 a0_0, .slice A0_1 l0_1.length c0_1]) (t := 39) ?hr ?_; (case hd => rfl); (case hg => rfl); (case hr => exact z11); intro gb444 hg w11 hbox hb; have BK444 := Aside0.mk (hbox); have GW444 := Aside0.mk ((z18 : w.heap.size ≤ gb444)); have GE444 := Aside0.mk ((z18 : w.heap.size ≤ gb444)); replace HB := Aside0.mk (below_step bB hb); clear hb hbox hg) | ((with_reducible refine gate_dst (N := 3) rfl ?_); refine box_event ?hg (N := 3) ?hd (cs := #[.int .i64 a1_0, .slice A1_1 l1_1.length c1_1]) (t := 39) ?hr ?_; (case hd => rfl); (case hg => rfl); (case hr => exact z11); intro gb445 hg w12 hbox hb; have BK445 := Aside0.mk (hbox); have GW445 := Aside0.mk ((z78 : w.heap.size ≤ gb445)); have GE445 := Aside0.mk ((z78 : w.heap.size ≤ gb445)); replace HB := Aside0.mk (below_step (bG GE444) hb); have NB444_445 := Aside0.mk ((z58 : gb444 ≠ gb445)); have NB445_444 := Aside0.mk ((z65 : gb445 ≠ gb444)); replace BK444 := Aside0.mk (blk_below (g := gb444) (o := .cells #[.int .i64 a0_0, .slice A0_1 l0_1.length c0_1] 39 (0, 0)) (bL BK444) hb); clear hb hbox hg; have hnb13 := NB444_445.out; have hnc13 := NB445_444.out; have hcz14_0 : w12.cell? ⟨gb444, 0, none⟩ = some (.int .i64 a0_0) := (blk_cell BK444.out 0).trans rfl; have hcz14_1 : w12.cell? ⟨gb444, 1, none⟩ = some (.slice A0_1 l0_1.length c0_1) := (blk_cell BK444.out 1).trans rfl; have hfz14_0 := blk_frozen BK444.out 0; have hfz14_1 := blk_frozen BK444.out 1; have hcz15_0 : w12.cell? ⟨gb445, 0, none⟩ = some (.int .i64 a1_0) := (blk_cell BK445.out 0).trans rfl; have hcz15_1 : w12.cell? ⟨gb445, 1, none⟩ = some (.slice A1_1 l1_1.length c1_1) := (blk_cell BK445.out 1).trans rfl; have hfz15_0 := blk_frozen BK445.out 0; have hfz15_1 := blk_frozen BK445.out 1) | ((with_reducible refine gate_callee (f := 39) rfl ?_); refine goesL_ (some 14) rfl rfl Tryd.func39 (by kernel_rfl) rfl #[.slice A0_1 l0_1.length c0_1, .slice A1_1 l1_1.length c1_1] rfl bM ?_; (with_reducible refine (laws_eqInt64S.calls k _ _ l0_1 _ _ l1_1 false _ ?side1 ?side2 ?side3 ?side4 A4.out).mono ?_); (case side1 => exact z30 HR0_1.out); (case side2 => exact HC0_1.out); (case side3 => exact z30 HR1_1.out); (case side4 => exact HC1_1.out); rintro e w' ⟨rfl, ⟨nd, rfl⟩⟩; refine ⟨_, rfl, ?_⟩))
   go_ret
   exact ⟨bE, bG2 GE444 GE445⟩
 ·rw [if_neg c3] at H
  have c3b0 : (a0_0 == a1_0) = false := beq_eq_false_iff_ne.mpr c3
  have c3b1 : (a0_0 != a1_0) = true := bne_iff_ne.mpr c3
  obtain rfl := Option.some.inj H
  go_enter Tryd.func19, Tryd.ntmps19
  go_wp2_with (first | ((with_reducible refine gate_dst (N := 2) rfl ?_); refine box_event ?hg (N := 2) ?hd (cs := #[.int .i64 a0_0, .slice A0_1 l0_1.length c0_1]) (t := 39) ?hr ?_; (case hd => rfl); (case hg => rfl); (case hr => exact z11); intro gb444 hg w16 hbox hb; have BK444 := Aside0.mk (hbox); have GW444 := Aside0.mk ((z18 : w.heap.size ≤ gb444)); have GE444 := Aside0.mk ((z18 : w.heap.size ≤ gb444)); replace HB := Aside0.mk (below_step bB hb); clear hb hbox hg) | ((with_reducible refine gate_dst (N := 3) rfl ?_); refine box_event ?hg (N := 3) ?hd (cs := #[.int .i64 a1_0, .slice A1_1 l1_1.length c1_1]) (t := 39) ?hr ?_; (case hd => rfl); (case hg => rfl); (case hr => exact z11); intro gb445 hg w17 hbox hb; have BK445 := Aside0.mk (hbox); have GW445 := Aside0.mk ((z78 : w.heap.size ≤ gb445)); have GE445 := Aside0.mk ((z78 : w.heap.size ≤ gb445)); replace HB := Aside0.mk (below_step (bG GE444) hb); have NB444_445 := Aside0.mk ((z58 : gb444 ≠ gb445)); have NB445_444 := Aside0.mk ((z65 : gb445 ≠ gb444)); replace BK444 := Aside0.mk (blk_below (g := gb444) (o := .cells #[.int .i64 a0_0, .slice A0_1 l0_1.length c0_1] 39 (0, 0)) (bL BK444) hb); clear hb hbox hg; have hnb18 := NB444_445.out; have hnc18 := NB445_444.out; have hcz19_0 : w17.cell? ⟨gb444, 0, none⟩ = some (.int .i64 a0_0) := (blk_cell BK444.out 0).trans rfl; have hcz19_1 : w17.cell? ⟨gb444, 1, none⟩ = some (.slice A0_1 l0_1.length c0_1) := (blk_cell BK444.out 1).trans rfl; have hfz19_0 := blk_frozen BK444.out 0; have hfz19_1 := blk_frozen BK444.out 1; have hcz20_0 : w17.cell? ⟨gb445, 0, none⟩ = some (.int .i64 a1_0) := (blk_cell BK445.out 0).trans rfl; have hcz20_1 : w17.cell? ⟨gb445, 1, none⟩ = some (.slice A1_1 l1_1.length c1_1) := (blk_cell BK445.out 1).trans rfl; have hfz20_0 := blk_frozen BK445.out 0; have hfz20_1 := blk_frozen BK445.out 1))
  go_ret
  exact ⟨bE, bG2 GE444 GE445⟩
def laws_markInt64S.l0 : Nat → List Int → Int → Int → Option (Int × List Int)
 | 0, _, _, _ => none
 | k + 1, x0, x1, x5 => if x5 < (x0.length : Int) then (if 0 ≤ x5 then (laws_markInt64S.l0 k (x0.set (x5 : Int).toNat x1) (wrap64 (x1 + 1)) (wrap64 (x5 + 1))) else (none)) else (some (x1, x0))
def laws_markInt64S.f (k : Nat) (l0 : List Int) (a1 : Int) : Option (Int × List Int) := laws_markInt64S.l0 k l0 a1 0
set_option maxHeartbeats 8000000 in
set_option maxRecDepth 100000 in
theorem laws_markInt64S.calls (k : Nat) (P0_ : Nat → Prop) (u9000_ : Value) (l0 : List Int) (a1 : Int) (r1 : Int) (r2 : List Int) (w0 w : World) (hB : Below w0.heap.size w0 w) (ho0 : Kd.R (Kd.int .i64) 2 w w0.heap.size P0_ u9000_ l0) (h : laws_markInt64S.f k l0 a1 = some (r1, r2)) :
  Calls Tryd.prog 40 #[u9000_, .int .i64 a1] w fun e w' => e = .returned (.int .i64 r1) ∧ Kd.R (Kd.int .i64) 2 w' w0.heap.size (fun k_ => (P0_ k_ ∨ w.heap.size ≤ k_)) u9000_ r2 ∧ Below w0.heap.size w0 w' ∧ Kept w w' (fun k_ => P0_ k_) := by
 have HO0 := Aside0.mk (show Kd.R (Kd.int .i64) 2 w w0.heap.size (fun k_ => (P0_ k_ ∨ w.heap.size ≤ k_)) u9000_ l0 from Kd.R_mono ho0 (fun k_ hk => (.inl hk)))
 have HK := Aside0.mk (Kept.refl w (fun k_ => P0_ k_))
 have HW0 := Aside0.mk hB.size
 have HB := Aside0.mk hB
 clear hB
 have H : (laws_markInt64S.l0 k l0 a1 0) = some (r1, r2) := h
 clear h
 have H' := Aside0.mk H
 clear H
 go_enter Tryd.func40, Tryd.ntmps40
 go_wp2
 go_loopg [1, 5] k (fun kq v1 v5 w' => ∃ (x0_1 : List Int) (x1_1 : Int) (x5_1 : Int), v1 = .int .i64 x1_1 ∧ v5 = .int .i64 x5_1 ∧ Aside0 (laws_markInt64S.l0 kq x0_1 x1_1 x5_1 = some (r1, r2)) ∧ Aside0 (kq ≤ k) ∧ Aside0 (Kd.R (Kd.int .i64) 2 w' w0.heap.size (fun k_ => (P0_ k_ ∨ w.heap.size ≤ k_)) u9000_ x0_1) ∧ Aside0 (Kept w w' (fun k_ => P0_ k_)) ∧ Aside0 (Below w0.heap.size w0 w'))
 case atStart => exact ⟨(l0), (a1), (0), bS, bS, H', ⟨Nat.le_refl _⟩, ⟨bR HO0⟩, ⟨bK⟩, ⟨bB⟩⟩
 case round =>
  clear H'
  try clear p2
  obtain ⟨x0_1, x1_1, x5_1, rfl, rfl, HA, HK1, HO_0, HK, HB⟩ := hrel
  cases gk with
  | zero => exact absurd HA.out (by simp [laws_markInt64S.l0])
  | succ k1 =>
   have H := HA.out
   clear HA
   simp only [laws_markInt64S.l0] at H
   by_cases c3 : x5_1 < (x0_1.length : Int)
   ·rw [if_pos c3] at H
    have c3b0 : decide (x5_1 < (x0_1.length : Int)) = true := decide_eq_true c3
    clear c3
    by_cases c4 : 0 ≤ x5_1
    ·rw [if_pos c4] at H
     have c4b0 : decide (0 ≤ x5_1) = true := decide_eq_true c4
     clear c4
     obtain ⟨y447, hy447⟩ : ∃ y_ : List Int, y_ = (x0_1.set (x5_1 : Int).toNat x1_1) := ⟨_, rfl⟩
     replace H : (laws_markInt64S.l0 k1 y447 (wrap64 (x1_1 + 1)) (wrap64 (x5_1 + 1))) = some (r1, r2) := z0 hy447
     have Ny447 := Aside0.mk hy447
     clear hy447
     have H' := Aside0.mk H
     clear H
     obtain ⟨Ao6, co6, eo6⟩ := Kd.R_slice HO_0.out
     subst eo6
     have p5 : 0 ≤ (x5_1 : Int) := pI
     have q5 : (x5_1 : Int) < ((x0_1.length : Int) : Int) := pI
     obtain ⟨go5, co5, eo5, gb5, gl5, cl5, HG5⟩ := Kd.R_form HO_0.out (by omega)
     (first | cases eo5 | (injection eo5 with ea_ en_ ec_; (first | subst ea_ | (injection ea_ with ea_; subst ea_)); subst ec_; clear en_))
     have GB5 := Aside0.mk gb5
     have GG5 := Aside0.mk HG5
     clear gb5 gl5 HG5
     have HMgo5 := Aside0.mk (show (P0_ go5 ∨ w.heap.size ≤ go5) from (HO_0.out.1 _ rfl))
     obtain ⟨hx5_0, hf5_0⟩ := Kd.R_celln 0 HO_0.out (x5_1 : Int) p5 q5
     replace p5 := eq_true p5
     replace q5 := eq_true q5
     have HP7 := Kd.R_putg HO_0.out (x5_1 : Int) x1_1
     go_wp2_with (first | ((with_reducible refine gate_store (t := 2) (p := 15) rfl ?_); refine store_event (t := 2) (p := 15) (v := ?vo_w8) (w1 := (wr.setCell ⟨go5, (x5_1 : Int).toNat, none⟩ (.int .i64 x1_1))) ?hg ?ho ?hn ?hr ?_; (case ho => rfl); (case hg => rfl); (case hn => rfl); (case hr => exact z11); intro w8 hw; have hg : wr.grownBy w8 (some go5) := (by rw [hw]; exact HP7.2); have hp_ : Kd.R (Kd.int .i64) 2 w8 w0.heap.size (fun k_ => (P0_ k_ ∨ w.heap.size ≤ k_)) (.slice (some ⟨go5, 0, none⟩) x0_1.length co6) y447 := (by rw [hw, Ny447.out]; exact HP7.1); clear HP7; replace HB := Aside0.mk ((z79 GB5.out : Below w0.heap.size w0 w8)); replace HK := Aside0.mk (Kept.of_grown (S := (fun k_ => P0_ k_)) hg bK (fun k_ e_ => (HO_0.out.1 k_ e_))); replace HO_0 := Aside0.mk (hp_); clear hg hw hp_))
     go_roundg k1
     case measure => have := HK1.out; omega
     case rel => exact ⟨(y447), (wrap64 (x1_1 + 1)), (wrap64 (x5_1 + 1)), bS, bS, H', ⟨by have := HK1.out; omega⟩, ⟨bR HO_0⟩, ⟨bK⟩, ⟨bB⟩⟩
    ·rw [if_neg c4] at H
     exact absurd H (by simp)
   ·rw [if_neg c3] at H
    have c3b0 : decide (x5_1 < (x0_1.length : Int)) = false := decide_eq_false c3
    clear c3
    simp only [Option.some.injEq, Prod.mk.injEq] at H
    obtain ⟨rfl, rfl⟩ := H
    obtain ⟨Ao9, co9, eo9⟩ := Kd.R_slice HO_0.out
    subst eo9
    go_wp2
    go_ret
    exact ⟨bE, bR HO_0, bB, bK⟩
def laws_markCodesResult.f (k : Nat) (a0_0 : Int) (l0_1 : List Int) (a1 : Int) : Option (Int × List Int) := (laws_markInt64S.f k l0_1 a1).bind fun bt449 => (some (bt449.1, bt449.2))
set_option maxHeartbeats 8000000 in
set_option maxRecDepth 100000 in
theorem laws_markCodesResult.calls (k : Nat) (a0_0 : Int) (P0_1_ : Nat → Prop) (u9000_ : Value) (l0_1 : List Int) (a1 : Int) (r1 : Int) (r2 : List Int) (w0 w : World) (hB : Below w0.heap.size w0 w) (ho0_1 : Kd.R (Kd.int .i64) 2 w w0.heap.size P0_1_ u9000_ l0_1) (h : laws_markCodesResult.f k a0_0 l0_1 a1 = some (r1, r2)) :
  Calls Tryd.prog 20 #[.agg #[.int .i64 a0_0, u9000_], .int .i64 a1] w fun e w' => e = .returned (.int .i64 r1) ∧ Kd.R (Kd.int .i64) 2 w' w0.heap.size (fun k_ => (P0_1_ k_ ∨ w.heap.size ≤ k_)) u9000_ r2 ∧ Below w0.heap.size w0 w' ∧ Kept w w' (fun k_ => P0_1_ k_) := by
 have hu39 := Tryd.underlying39
 have HO0_1 := Aside0.mk (show Kd.R (Kd.int .i64) 2 w w0.heap.size (fun k_ => (P0_1_ k_ ∨ w.heap.size ≤ k_)) u9000_ l0_1 from Kd.R_mono ho0_1 (fun k_ hk => (.inl hk)))
 have HK := Aside0.mk (Kept.refl w (fun k_ => P0_1_ k_))
 have HW0 := Aside0.mk hB.size
 have HB := Aside0.mk hB
 clear hB
 have H : ((laws_markInt64S.f k l0_1 a1).bind fun bt449 => (some (bt449.1, bt449.2))) = some (r1, r2) := h
 clear h
 replace H := Option.bind_eq_some_iff.mp H
 obtain ⟨⟨t449, t450⟩, A30, H⟩ := H
 replace H : (some (t449, t450)) = some (r1, r2) := H
 have A3 := Aside0.mk A30
 clear A30
 simp only [Option.some.injEq, Prod.mk.injEq] at H
 obtain ⟨rfl, rfl⟩ := H
 obtain ⟨Ao4, co4, eo4⟩ := Kd.R_slice HO0_1.out
 subst eo4
 go_enter Tryd.func20, Tryd.ntmps20
 go_wp2_with (first | ((with_reducible refine gate_dst (N := 2) rfl ?_); refine box_event ?hg (N := 2) ?hd (cs := #[.int .i64 a0_0, .slice Ao4 l0_1.length co4]) (t := 39) ?hr ?_; (case hd => rfl); (case hg => rfl); (case hr => exact z11); intro gb448 hg w5 hbox hb; replace HO0_1 := Aside0.mk (Kd.R_below (bR HO0_1) hb); have BK448 := Aside0.mk (hbox); have GW448 := Aside0.mk ((by rw [hg]; exact (by first | exact HK.out.1 | exact (show Kept w _ (fun k_ => P0_1_ k_) from bK).1) : w.heap.size ≤ gb448)); replace HK := Aside0.mk (Kept.below (S := (fun k_ => P0_1_ k_)) bK hb); have GE448 := Aside0.mk ((z18 : w0.heap.size ≤ gb448)); replace HB := Aside0.mk (below_step bB hb); clear hb hbox hg; have hcz6_0 : w5.cell? ⟨gb448, 0, none⟩ = some (.int .i64 a0_0) := (blk_cell BK448.out 0).trans rfl; have hcz6_1 : w5.cell? ⟨gb448, 1, none⟩ = some (.slice Ao4 l0_1.length co4) := (blk_cell BK448.out 1).trans rfl; have hfz6_0 := blk_frozen BK448.out 0; have hfz6_1 := blk_frozen BK448.out 1) | ((with_reducible refine gate_callee (f := 40) rfl ?_); refine goesL_ (some 8) rfl rfl Tryd.func40 (by kernel_rfl) rfl #[.slice Ao4 l0_1.length co4, .int .i64 a1] rfl bM ?_; (with_reducible refine (laws_markInt64S.calls k (fun k_ => some k_ = (.slice Ao4 l0_1.length co4 : Value).ownBlock) (.slice Ao4 l0_1.length co4) l0_1 a1 t449 t450 w0 _ ?side1 ?side2 A3.out).mono ?_); (case side1 => repeat (first | (with_reducible first | exact HB.out | apply below_alloc | apply pw_below_drewN | apply below_drew1 | refine below_set ?_ GE448.out) | exact HB.out)); (case side2 => exact Kd.R_tight rfl HO0_1.out); rintro e w7 ⟨rfl, hy0, hb, hkp⟩; refine ⟨_, rfl, ?_⟩; replace BK448 := Aside0.mk (blk_kept (bL BK448) hkp (fun hs_ => (fun e_ => (Kd.R_ne HO0_1.out BK448.out (by decide)) e_) hs_)); replace HK := Aside0.mk (Kept.then_ (S := (fun k_ => P0_1_ k_)) (by repeat (first | (with_reducible first | exact HK.out | apply Kept.alloc | apply Kept.drewN | apply Kept.drew | refine Kept.setCell ?_ (.inr GW448.out) _) | exact HK.out)) hkp (fun k_ hs_ => (fun e_ => (HO0_1.out.1 k_ e_.symm)) hs_)); replace HO0_1 := Aside0.mk (Kd.R_reok rfl hy0 (fun k_ e_ => HO0_1.out.1 k_ e_)); replace HB := Aside0.mk (hb); (try clear hkp); (try clear hy0)))
 go_ret
 exact ⟨bE, bR HO0_1, bG GE448, by repeat (first | (with_reducible first | exact HK.out | apply Kept.alloc | apply Kept.drewN | apply Kept.drew | refine Kept.setCell ?_ (.inr GW448.out) _) | exact HK.out)⟩
def laws_heldInt64S.l0 : Nat → List Int → Int → Int → Option (Int)
 | 0, _, _, _ => none
 | k + 1, x0, x1, x5 => if x5 < (x0.length : Int) then (if 0 ≤ x5 then (if (rd x0 x5) = x1 then (laws_heldInt64S.l0 k x0 (wrap64 (x1 + 1)) (wrap64 (x5 + 1))) else (some (-1))) else (none)) else (some x1)
def laws_heldInt64S.f (k : Nat) (l0 : List Int) (a1 : Int) : Option (Int) := laws_heldInt64S.l0 k l0 a1 0
set_option maxHeartbeats 8000000 in
set_option maxRecDepth 100000 in
theorem laws_heldInt64S.calls (k : Nat) (A0 : Option Addr) (c0 : Nat) (l0 : List Int) (a1 : Int) (r : Int) (w : World) (hr0 : Kd.C (Kd.int .i64) w A0 l0.length l0) (hc0 : l0.length ≤ c0) (h : laws_heldInt64S.f k l0 a1 = some r) :
  Calls Tryd.prog 41 #[.slice A0 l0.length c0, .int .i64 a1] w fun e w' => e = .returned (.int .i64 r) ∧ Drawn0 w w' := by
 have HR0 := Aside0.mk hr0
 have HC0 := Aside0.mk hc0
 clear hr0 hc0
 have H : (laws_heldInt64S.l0 k l0 a1 0) = some r := h
 clear h
 have H' := Aside0.mk H
 clear H
 go_enter Tryd.func41, Tryd.ntmps41
 go_wp2
 go_loopg [1, 5] k (fun kq v1 v5 w' => ∃ (x1_1 : Int) (x5_1 : Int), v1 = .int .i64 x1_1 ∧ v5 = .int .i64 x5_1 ∧ Aside0 (laws_heldInt64S.l0 kq l0 x1_1 x5_1 = some r) ∧ Aside0 (kq ≤ k) ∧ Drawn0 w w')
 case atStart => exact ⟨(a1), (0), bS, bS, H', ⟨Nat.le_refl _⟩, z2⟩
 case round =>
  clear H'
  try clear p2
  obtain ⟨x1_1, x5_1, rfl, rfl, HA, HK1, ⟨m1, rfl⟩⟩ := hrel
  cases gk with
  | zero => exact absurd HA.out (by simp [laws_heldInt64S.l0])
  | succ k1 =>
   have H := HA.out
   clear HA
   simp only [laws_heldInt64S.l0] at H
   by_cases c3 : x5_1 < (l0.length : Int)
   ·rw [if_pos c3] at H
    have c3b0 : decide (x5_1 < (l0.length : Int)) = true := decide_eq_true c3
    clear c3
    by_cases c4 : 0 ≤ x5_1
    ·rw [if_pos c4] at H
     have c4b0 : decide (0 ≤ x5_1) = true := decide_eq_true c4
     clear c4
     by_cases c5 : (rd l0 x5_1) = x1_1
     ·rw [if_pos c5] at H
      have c5b0 : ((rd l0 x5_1) == x1_1) = true := beq_iff_eq.mpr c5
      have c5b1 : ((rd l0 x5_1) != x1_1) = false := bne_eq_false_iff_eq.mpr c5
      clear c5
      have H' := Aside0.mk H
      clear H
      have p451 : 0 ≤ (x5_1 : Int) := pI
      have q451 : x5_1 < (l0.length : Int) := pI
      obtain ⟨ad451, e451, hx451_0⟩ := Kd.at_int HR0.out x5_1 p451 q451
      cases e451
      replace p451 := eq_true p451
      replace q451 := eq_true q451
      go_wp2
      go_roundg k1
      case measure => have := HK1.out; omega
      case rel => exact ⟨(wrap64 (x1_1 + 1)), (wrap64 (x5_1 + 1)), bS, bS, H', ⟨by have := HK1.out; omega⟩, z2⟩
     ·rw [if_neg c5] at H
      have c5b0 : ((rd l0 x5_1) == x1_1) = false := beq_eq_false_iff_ne.mpr c5
      have c5b1 : ((rd l0 x5_1) != x1_1) = true := bne_iff_ne.mpr c5
      obtain rfl := Option.some.inj H
      have p451 : 0 ≤ (x5_1 : Int) := pI
      have q451 : x5_1 < (l0.length : Int) := pI
      obtain ⟨ad451, e451, hx451_0⟩ := Kd.at_int HR0.out x5_1 p451 q451
      cases e451
      replace p451 := eq_true p451
      replace q451 := eq_true q451
      go_wp2
      go_ret
      exact ⟨bS, z2⟩
    ·rw [if_neg c4] at H
     exact absurd H (by simp)
   ·rw [if_neg c3] at H
    have c3b0 : decide (x5_1 < (l0.length : Int)) = false := decide_eq_false c3
    clear c3
    obtain rfl := Option.some.inj H
    go_wp2
    go_ret
    exact ⟨bS, z2⟩
def laws_heldCodesResult.f (k : Nat) (a0_0 : Int) (l0_1 : List Int) (a1 : Int) : Option (Int) := (laws_heldInt64S.f k l0_1 a1).bind fun t453 => (if t453 < 0 then (some (-1)) else (some t453))
set_option maxHeartbeats 8000000 in
set_option maxRecDepth 100000 in
theorem laws_heldCodesResult.calls (k : Nat) (a0_0 : Int) (A0_1 : Option Addr) (c0_1 : Nat) (l0_1 : List Int) (a1 : Int) (r : Int) (w : World) (hr0_1 : Kd.C (Kd.int .i64) w A0_1 l0_1.length l0_1) (hc0_1 : l0_1.length ≤ c0_1) (h : laws_heldCodesResult.f k a0_0 l0_1 a1 = some r) :
  Calls Tryd.prog 21 #[.agg #[.int .i64 a0_0, .slice A0_1 l0_1.length c0_1], .int .i64 a1] w fun e w' => e = .returned (.int .i64 r) ∧ Below w.heap.size w w' := by
 have hu39 := Tryd.underlying39
 have HR0_1 := Aside0.mk hr0_1
 have HC0_1 := Aside0.mk hc0_1
 clear hr0_1 hc0_1
 have HB := Aside0.mk (Below.refl w.heap.size w)
 have H : ((laws_heldInt64S.f k l0_1 a1).bind fun t453 => (if t453 < 0 then (some (-1)) else (some t453))) = some r := h
 clear h
 replace H := Option.bind_eq_some_iff.mp H
 obtain ⟨t453, A30, H⟩ := H
 replace H : (if t453 < 0 then (some (-1)) else (some t453)) = some r := H
 have A3 := Aside0.mk A30
 clear A30
 by_cases c4 : t453 < 0
 ·rw [if_pos c4] at H
  have c4b0 : decide (t453 < 0) = true := decide_eq_true c4
  clear c4
  obtain rfl := Option.some.inj H
  go_enter Tryd.func21, Tryd.ntmps21
  go_wp2_with (first | ((with_reducible refine gate_dst (N := 2) rfl ?_); refine box_event ?hg (N := 2) ?hd (cs := #[.int .i64 a0_0, .slice A0_1 l0_1.length c0_1]) (t := 39) ?hr ?_; (case hd => rfl); (case hg => rfl); (case hr => exact z11); intro gb452 hg w5 hbox hb; have BK452 := Aside0.mk (hbox); have GW452 := Aside0.mk ((z18 : w.heap.size ≤ gb452)); have GE452 := Aside0.mk ((z18 : w.heap.size ≤ gb452)); replace HB := Aside0.mk (below_step bB hb); clear hb hbox hg; have hcz6_0 : w5.cell? ⟨gb452, 0, none⟩ = some (.int .i64 a0_0) := (blk_cell BK452.out 0).trans rfl; have hcz6_1 : w5.cell? ⟨gb452, 1, none⟩ = some (.slice A0_1 l0_1.length c0_1) := (blk_cell BK452.out 1).trans rfl; have hfz6_0 := blk_frozen BK452.out 0; have hfz6_1 := blk_frozen BK452.out 1) | ((with_reducible refine gate_callee (f := 41) rfl ?_); refine goesL_ (some 8) rfl rfl Tryd.func41 (by kernel_rfl) rfl #[.slice A0_1 l0_1.length c0_1, .int .i64 a1] rfl bM ?_; (with_reducible refine (laws_heldInt64S.calls k _ _ l0_1 a1 t453 _ ?side1 ?side2 A3.out).mono ?_); (case side1 => exact z30 HR0_1.out); (case side2 => exact HC0_1.out); rintro e w' ⟨rfl, ⟨nd, rfl⟩⟩; refine ⟨_, rfl, ?_⟩))
  go_ret
  exact ⟨bE, bG GE452⟩
 ·rw [if_neg c4] at H
  have c4b0 : decide (t453 < 0) = false := decide_eq_false c4
  clear c4
  obtain rfl := Option.some.inj H
  go_enter Tryd.func21, Tryd.ntmps21
  go_wp2_with (first | ((with_reducible refine gate_dst (N := 2) rfl ?_); refine box_event ?hg (N := 2) ?hd (cs := #[.int .i64 a0_0, .slice A0_1 l0_1.length c0_1]) (t := 39) ?hr ?_; (case hd => rfl); (case hg => rfl); (case hr => exact z11); intro gb452 hg w7 hbox hb; have BK452 := Aside0.mk (hbox); have GW452 := Aside0.mk ((z18 : w.heap.size ≤ gb452)); have GE452 := Aside0.mk ((z18 : w.heap.size ≤ gb452)); replace HB := Aside0.mk (below_step bB hb); clear hb hbox hg; have hcz8_0 : w7.cell? ⟨gb452, 0, none⟩ = some (.int .i64 a0_0) := (blk_cell BK452.out 0).trans rfl; have hcz8_1 : w7.cell? ⟨gb452, 1, none⟩ = some (.slice A0_1 l0_1.length c0_1) := (blk_cell BK452.out 1).trans rfl; have hfz8_0 := blk_frozen BK452.out 0; have hfz8_1 := blk_frozen BK452.out 1) | ((with_reducible refine gate_callee (f := 41) rfl ?_); refine goesL_ (some 8) rfl rfl Tryd.func41 (by kernel_rfl) rfl #[.slice A0_1 l0_1.length c0_1, .int .i64 a1] rfl bM ?_; (with_reducible refine (laws_heldInt64S.calls k _ _ l0_1 a1 t453 _ ?side1 ?side2 A3.out).mono ?_); (case side1 => exact z30 HR0_1.out); (case side2 => exact HC0_1.out); rintro e w' ⟨rfl, ⟨nd, rfl⟩⟩; refine ⟨_, rfl, ?_⟩))
  go_ret
  exact ⟨bE, bG GE452⟩
def laws_FnExactDecodeWords.f (k : Nat) (a0 : ByteArray) : Option (Bool) := if (a0.size : Int) > 1048576 then (some true) else ((spec_DecodeWords.f k a0).bind fun bt454 => ((impl_DecodeWords.f k a0).bind fun bt459 => ((laws_eqCodesResult.f k bt459.1 bt459.2 bt454.1 bt454.2).bind fun t464 => (if t464 = true then ((laws_markCodesResult.f k bt459.1 bt459.2 1).bind fun bt465 => ((laws_heldCodesResult.f k bt459.1 bt465.2 1).bind fun t467 => (if t467 < 0 then (some false) else (if t467 = bt465.1 then ((impl_DecodeWords.f k a0).bind fun bt468 => ((laws_eqCodesResult.f k bt468.1 bt468.2 bt454.1 bt454.2).bind fun t473 => (if t473 = true then ((laws_heldCodesResult.f k bt459.1 bt465.2 1).bind fun t474 => (if t474 < 0 then (some false) else (if t474 = bt465.1 then (some true) else (some false)))) else (some false)))) else (some false))))) else (some false)))))
set_option maxHeartbeats 8000000 in
set_option maxRecDepth 100000 in
theorem laws_FnExactDecodeWords.calls (k : Nat) (a0 : ByteArray) (r : Bool) (w : World) (hm_ : ∃ m, w.cell? ⟨0, 0, none⟩ = some (.int .i64 m)) (h : laws_FnExactDecodeWords.f k a0 = some r) :
  Calls Tryd.prog 4 #[.string a0] w fun e w' => e = .returned (.bool r) ∧ Below w.heap.size w w' := by
 have HM_ := Aside0.mk hm_
 clear hm_
 have hu39 := Tryd.underlying39
 have HB := Aside0.mk (Below.refl w.heap.size w)
 have H : (if (a0.size : Int) > 1048576 then (some true) else ((spec_DecodeWords.f k a0).bind fun bt454 => ((impl_DecodeWords.f k a0).bind fun bt459 => ((laws_eqCodesResult.f k bt459.1 bt459.2 bt454.1 bt454.2).bind fun t464 => (if t464 = true then ((laws_markCodesResult.f k bt459.1 bt459.2 1).bind fun bt465 => ((laws_heldCodesResult.f k bt459.1 bt465.2 1).bind fun t467 => (if t467 < 0 then (some false) else (if t467 = bt465.1 then ((impl_DecodeWords.f k a0).bind fun bt468 => ((laws_eqCodesResult.f k bt468.1 bt468.2 bt454.1 bt454.2).bind fun t473 => (if t473 = true then ((laws_heldCodesResult.f k bt459.1 bt465.2 1).bind fun t474 => (if t474 < 0 then (some false) else (if t474 = bt465.1 then (some true) else (some false)))) else (some false)))) else (some false))))) else (some false)))))) = some r := h
 clear h
 have HQ_ := Aside0.mk H
 clear H
 go_enter Tryd.func4, Tryd.ntmps4
 have H := HQ_.out
 clear HQ_
 by_cases c2 : (a0.size : Int) > 1048576
 ·rw [if_pos c2] at H
  have c2b0 : decide (1048576 < (a0.size : Int)) = true := decide_eq_true c2
  have c2b1 : decide (1048576 < a0.size) = true := decide_eq_true (by omega)
  clear c2
  obtain rfl := Option.some.inj H
  (try simp only [c2b0, c2b1])
  go_wp2
  go_ret
  exact ⟨bE, bB⟩
 ·rw [if_neg c2] at H
  have c2b0 : decide (1048576 < (a0.size : Int)) = false := decide_eq_false c2
  have c2b1 : decide (1048576 < a0.size) = false := decide_eq_false (by omega)
  clear c2
  replace H := Option.bind_eq_some_iff.mp H
  obtain ⟨⟨t454, t455⟩, A30, H⟩ := H
  replace H : ((impl_DecodeWords.f k a0).bind fun bt459 => ((laws_eqCodesResult.f k bt459.1 bt459.2 t454 t455).bind fun t464 => (if t464 = true then ((laws_markCodesResult.f k bt459.1 bt459.2 1).bind fun bt465 => ((laws_heldCodesResult.f k bt459.1 bt465.2 1).bind fun t467 => (if t467 < 0 then (some false) else (if t467 = bt465.1 then ((impl_DecodeWords.f k a0).bind fun bt468 => ((laws_eqCodesResult.f k bt468.1 bt468.2 t454 t455).bind fun t473 => (if t473 = true then ((laws_heldCodesResult.f k bt459.1 bt465.2 1).bind fun t474 => (if t474 < 0 then (some false) else (if t474 = bt465.1 then (some true) else (some false)))) else (some false)))) else (some false))))) else (some false)))) = some r := H
  have A3 := Aside0.mk A30
  clear A30
  replace H := Option.bind_eq_some_iff.mp H
  obtain ⟨⟨t459, t460⟩, A40, H⟩ := H
  replace H : ((laws_eqCodesResult.f k t459 t460 t454 t455).bind fun t464 => (if t464 = true then ((laws_markCodesResult.f k t459 t460 1).bind fun bt465 => ((laws_heldCodesResult.f k t459 bt465.2 1).bind fun t467 => (if t467 < 0 then (some false) else (if t467 = bt465.1 then ((impl_DecodeWords.f k a0).bind fun bt468 => ((laws_eqCodesResult.f k bt468.1 bt468.2 t454 t455).bind fun t473 => (if t473 = true then ((laws_heldCodesResult.f k t459 bt465.2 1).bind fun t474 => (if t474 < 0 then (some false) else (if t474 = bt465.1 then (some true) else (some false)))) else (some false)))) else (some false))))) else (some false))) = some r := H
  have A4 := Aside0.mk A40
  clear A40
  replace H := Option.bind_eq_some_iff.mp H
  obtain ⟨t464, A50, H⟩ := H
  replace H : (if t464 = true then ((laws_markCodesResult.f k t459 t460 1).bind fun bt465 => ((laws_heldCodesResult.f k t459 bt465.2 1).bind fun t467 => (if t467 < 0 then (some false) else (if t467 = bt465.1 then ((impl_DecodeWords.f k a0).bind fun bt468 => ((laws_eqCodesResult.f k bt468.1 bt468.2 t454 t455).bind fun t473 => (if t473 = true then ((laws_heldCodesResult.f k t459 bt465.2 1).bind fun t474 => (if t474 < 0 then (some false) else (if t474 = bt465.1 then (some true) else (some false)))) else (some false)))) else (some false))))) else (some false)) = some r := H
  have A5 := Aside0.mk A50
  clear A50
  (try simp only [c2b0, c2b1])
  by_cases c6 : t464 = true
  ·subst c6
   have H1 : ((laws_markCodesResult.f k t459 t460 1).bind fun bt465 => ((laws_heldCodesResult.f k t459 bt465.2 1).bind fun t467 => (if t467 < 0 then (some false) else (if t467 = bt465.1 then ((impl_DecodeWords.f k a0).bind fun bt468 => ((laws_eqCodesResult.f k bt468.1 bt468.2 t454 t455).bind fun t473 => (if t473 = true then ((laws_heldCodesResult.f k t459 bt465.2 1).bind fun t474 => (if t474 < 0 then (some false) else (if t474 = bt465.1 then (some true) else (some false)))) else (some false)))) else (some false))))) = some r := z31
   clear H
   have H := H1
   clear H1
   replace H := Option.bind_eq_some_iff.mp H
   obtain ⟨⟨t465, t466⟩, A70, H⟩ := H
   replace H : ((laws_heldCodesResult.f k t459 t466 1).bind fun t467 => (if t467 < 0 then (some false) else (if t467 = t465 then ((impl_DecodeWords.f k a0).bind fun bt468 => ((laws_eqCodesResult.f k bt468.1 bt468.2 t454 t455).bind fun t473 => (if t473 = true then ((laws_heldCodesResult.f k t459 t466 1).bind fun t474 => (if t474 < 0 then (some false) else (if t474 = t465 then (some true) else (some false)))) else (some false)))) else (some false)))) = some r := H
   have A7 := Aside0.mk A70
   clear A70
   replace H := Option.bind_eq_some_iff.mp H
   obtain ⟨t467, A80, H⟩ := H
   replace H : (if t467 < 0 then (some false) else (if t467 = t465 then ((impl_DecodeWords.f k a0).bind fun bt468 => ((laws_eqCodesResult.f k bt468.1 bt468.2 t454 t455).bind fun t473 => (if t473 = true then ((laws_heldCodesResult.f k t459 t466 1).bind fun t474 => (if t474 < 0 then (some false) else (if t474 = t465 then (some true) else (some false)))) else (some false)))) else (some false))) = some r := H
   have A8 := Aside0.mk A80
   clear A80
   by_cases c9 : t467 < 0
   ·rw [if_pos c9] at H
    have c9b0 : decide (t467 < 0) = true := decide_eq_true c9
    clear c9
    obtain rfl := Option.some.inj H
    (try simp only [c9b0])
    go_wp2_with (first | ((with_reducible refine gate_callee (f := 17) rfl ?_); refine goesL_ (some 12) rfl rfl Tryd.func17 (by kernel_rfl) rfl #[.string a0] rfl bM ?_; (with_reducible refine (spec_DecodeWords.calls k a0 t454 t455 _ A3.out).mono ?_); rintro e w10 ⟨v456, rfl, ho0, hb⟩; refine ⟨_, rfl, ?_⟩; have HO457 := Aside0.mk (Kd.R_lower ho0 (below_size bB)); replace HB := Aside0.mk (below_step bB hb); (try clear ho0)) | ((with_reducible refine gate_dst (N := 3) rfl ?_); refine box_event ?hg (N := 3) ?hd (cs := #[.int .i64 0, .slice none 0 0]) (t := 39) ?hr ?_; (case hd => rfl); (case hg => rfl); (case hr => exact z11); intro gb458 hg w11 hbox hb; replace HO457 := Aside0.mk (Kd.R_below (bR HO457) hb); have BK458 := Aside0.mk (hbox); have GW458 := Aside0.mk ((z18 : w.heap.size ≤ gb458)); have GE458 := Aside0.mk ((z18 : w.heap.size ≤ gb458)); replace HB := Aside0.mk (below_step bB hb); clear hb hbox hg; have hcz12_0 : w11.cell? ⟨gb458, 0, none⟩ = some (.int .i64 0) := (blk_cell BK458.out 0).trans rfl; have hcz12_1 : w11.cell? ⟨gb458, 1, none⟩ = some (.slice none 0 0) := (blk_cell BK458.out 1).trans rfl; have hfz12_0 := blk_frozen BK458.out 0; have hfz12_1 := blk_frozen BK458.out 1; obtain ⟨Ao13, co13, eo13⟩ := Kd.R_slice HO457.out; subst eo13) | ((with_reducible refine gate_callee (f := 18) rfl ?_); refine goesL_ (some 14) rfl rfl Tryd.func18 (by kernel_rfl) rfl #[.string a0] rfl bM ?_; (with_reducible refine (impl_DecodeWords.calls k a0 t459 t460 _ ?sidem A4.out).mono ?_); (case sidem => exact z16); rintro e w14 ⟨v461, rfl, ho0, hb⟩; refine ⟨_, rfl, ?_⟩; have HO462 := Aside0.mk (Kd.R_lower (Kd.R_new' ho0 (Kd.R_lt (by (with_reducible repeat (first | apply Kd.R_alloc | apply Kd.R_drewN | apply Kd.R_drew)); exact (Kd.R_mono (Kd.R_far (p := ⟨gb458, 1, none⟩) (Kd.R_far (p := ⟨gb458, 0, none⟩) (Kd.R_types HO457.out BK458.out (by decide)) (fun _ hk => hk.2) (.int .i64 t454)) (fun _ hk => hk.2) (.slice Ao13 t455.length co13)) (fun _ h_ => h_.1))))) (below_size (bG GE458))); replace HO457 := Aside0.mk (Kd.R_elder' (by (with_reducible repeat (first | apply Kd.R_alloc | apply Kd.R_drewN | apply Kd.R_drew)); exact (Kd.R_mono (Kd.R_far (p := ⟨gb458, 1, none⟩) (Kd.R_far (p := ⟨gb458, 0, none⟩) (Kd.R_types HO457.out BK458.out (by decide)) (fun _ hk => hk.2) (.int .i64 t454)) (fun _ hk => hk.2) (.slice Ao13 t455.length co13)) (fun _ h_ => h_.1))) (Kd.R_base ho0) hb); replace BK458 := Aside0.mk (blk_below (g := gb458) (o := .cells #[.int .i64 t454, .slice Ao13 t455.length co13] 39 (0, 0)) (z13 BK458.out) hb); replace HB := Aside0.mk (below_step (bG GE458) hb); (try clear ho0)) | ((with_reducible refine gate_dst (N := 4) rfl ?_); refine box_event ?hg (N := 4) ?hd (cs := #[.int .i64 0, .slice none 0 0]) (t := 39) ?hr ?_; (case hd => rfl); (case hg => rfl); (case hr => exact z11); intro gb463 hg w15 hbox hb; replace HO457 := Aside0.mk (Kd.R_below (bR HO457) hb); replace HO462 := Aside0.mk (Kd.R_below (bR HO462) hb); have BK463 := Aside0.mk (hbox); have GW463 := Aside0.mk ((z55 : w.heap.size ≤ gb463)); have GE463 := Aside0.mk ((z55 : w.heap.size ≤ gb463)); replace HB := Aside0.mk (below_step (bG GE458) hb); have NB458_463 := Aside0.mk ((by rw [hg]; exact Nat.ne_of_lt (blk_lt (g := gb458) (o := .cells #[.int .i64 t454, .slice Ao13 t455.length co13] 39 (0, 0)) (bL BK458)) : gb458 ≠ gb463)); have NB463_458 := Aside0.mk ((by rw [hg]; exact Nat.ne_of_gt (blk_lt (g := gb458) (o := .cells #[.int .i64 t454, .slice Ao13 t455.length co13] 39 (0, 0)) (bL BK458)) : gb463 ≠ gb458)); replace BK458 := Aside0.mk (blk_below (g := gb458) (o := .cells #[.int .i64 t454, .slice Ao13 t455.length co13] 39 (0, 0)) (bL BK458) hb); clear hb hbox hg; have hnb16 := NB463_458.out; have hnc16 := NB458_463.out; have hcz17_0 : w15.cell? ⟨gb463, 0, none⟩ = some (.int .i64 0) := (blk_cell BK463.out 0).trans rfl; have hcz17_1 : w15.cell? ⟨gb463, 1, none⟩ = some (.slice none 0 0) := (blk_cell BK463.out 1).trans rfl; have hfz17_0 := blk_frozen BK463.out 0; have hfz17_1 := blk_frozen BK463.out 1; obtain ⟨Ao18, co18, eo18⟩ := Kd.R_slice HO462.out; subst eo18; have hcz19_0 : w15.cell? ⟨gb458, 0, none⟩ = some (.int .i64 t454) := (blk_cell BK458.out 0).trans rfl; have hcz19_1 : w15.cell? ⟨gb458, 1, none⟩ = some (.slice Ao13 t455.length co13) := (blk_cell BK458.out 1).trans rfl; have hfz19_0 := blk_frozen BK458.out 0; have hfz19_1 := blk_frozen BK458.out 1) | ((with_reducible refine gate_callee (f := 19) rfl ?_); refine goesL_ (some 17) rfl rfl Tryd.func19 (by kernel_rfl) rfl #[.agg #[.int .i64 t459, .slice Ao18 t460.length co18], .agg #[.int .i64 t454, .slice Ao13 t455.length co13]] rfl bM ?_; (with_reducible refine (laws_eqCodesResult.calls k t459 _ _ t460 t454 _ _ t455 true _ ?side1 ?side2 ?side3 ?side4 A5.out).mono ?_); (case side1 => refine (Kd.R_reads' (e := 2) (base := w.heap.size) (ok := fun k_ => (True ∧ some k_ ≠ (.slice Ao13 t455.length co13 : Value).ownBlock)) (n := t460.length) (c := co18) ?_).2.2; exact (z44 HO462.out BK463.out)); (case side2 => exact (Kd.R_reads' HO462.out).2.1); (case side3 => refine (Kd.R_reads' (e := 2) (base := w.heap.size) (ok := fun k_ => (True ∧ some k_ ≠ (.slice Ao18 t460.length co18 : Value).ownBlock)) (n := t455.length) (c := co13) ?_).2.2; exact (z44 HO457.out BK463.out)); (case side4 => exact (Kd.R_reads' HO457.out).2.1); rintro e w20 ⟨rfl, hb⟩; refine ⟨_, rfl, ?_⟩; replace HO457 := Aside0.mk (Kd.R_below (z44 HO457.out BK463.out) hb); replace HO462 := Aside0.mk (Kd.R_below (z44 HO462.out BK463.out) hb); replace BK458 := Aside0.mk (blk_below (g := gb458) (o := .cells #[.int .i64 t454, .slice Ao13 t455.length co13] 39 (0, 0)) (z1 NB458_463.out BK458.out) hb); replace BK463 := Aside0.mk (blk_below (g := gb463) (o := .cells #[.int .i64 t459, .slice Ao18 t460.length co18] 39 (0, 0)) (z12 BK463.out) hb); replace HB := Aside0.mk (below_step (bG2 GE458 GE463) hb); have hcz21_0 : w20.cell? ⟨gb463, 0, none⟩ = some (.int .i64 t459) := (blk_cell BK463.out 0).trans rfl; have hcz21_1 : w20.cell? ⟨gb463, 1, none⟩ = some (.slice Ao18 t460.length co18) := (blk_cell BK463.out 1).trans rfl; have hfz21_0 := blk_frozen BK463.out 0; have hfz21_1 := blk_frozen BK463.out 1) | ((with_reducible refine gate_callee (f := 20) rfl ?_); refine goesL_ (some 21) rfl rfl Tryd.func20 (by kernel_rfl) rfl #[.agg #[.int .i64 t459, .slice Ao18 t460.length co18], .int .i64 1] rfl bM ?_; (with_reducible refine (laws_markCodesResult.calls k t459 (fun k_ => some k_ = (.slice Ao18 t460.length co18 : Value).ownBlock) (.slice Ao18 t460.length co18) t460 1 t465 t466 w _ ?side1 ?side2 A7.out).mono ?_); (case side1 => exact z46 GE458.out GE463.out); (case side2 => exact Kd.R_tight rfl HO462.out); rintro e w22 ⟨rfl, hy0, hb, hkp⟩; refine ⟨_, rfl, ?_⟩; replace HO457 := Aside0.mk (Kd.R_mono (ok' := fun k_ => some k_ ≠ (.slice Ao18 t460.length co18 : Value).ownBlock) (Kd.R_keptB (HO457.out) hkp (fun k_ hk_ hs_ => (hk_.2) hs_)) (fun k_ hk_ => hk_.1.2)); replace BK458 := Aside0.mk (blk_kept (bL BK458) hkp (fun hs_ => (fun e_ => (Kd.R_ne HO462.out BK458.out (by decide)) e_) hs_)); replace BK463 := Aside0.mk (blk_kept (bL BK463) hkp (fun hs_ => (fun e_ => (Kd.R_ne HO462.out BK463.out (by decide)) e_) hs_)); replace HO462 := Aside0.mk (Kd.R_reok rfl hy0 (fun k_ e_ => HO462.out.1 k_ e_)); replace HB := Aside0.mk (hb); (try clear hkp); (try clear hy0); have hcz23_0 : w22.cell? ⟨gb463, 0, none⟩ = some (.int .i64 t459) := (blk_cell BK463.out 0).trans rfl; have hcz23_1 : w22.cell? ⟨gb463, 1, none⟩ = some (.slice Ao18 t460.length co18) := (blk_cell BK463.out 1).trans rfl; have hfz23_0 := blk_frozen BK463.out 0; have hfz23_1 := blk_frozen BK463.out 1) | ((with_reducible refine gate_callee (f := 21) rfl ?_); refine goesL_ (some 24) rfl rfl Tryd.func21 (by kernel_rfl) rfl #[.agg #[.int .i64 t459, .slice Ao18 t466.length co18], .int .i64 1] rfl (z19 HO462.out) ?_; (with_reducible refine (laws_heldCodesResult.calls k t459 _ _ t466 1 t467 _ ?side1 ?side2 A8.out).mono ?_); (case side1 => exact z3 HO462.out); (case side2 => exact z50 HO462.out); rintro e w24 ⟨rfl, hb⟩; refine ⟨_, rfl, ?_⟩; replace HO457 := Aside0.mk (Kd.R_below (bR HO457) hb); replace HO462 := Aside0.mk (Kd.R_below (bR HO462) hb); replace BK458 := Aside0.mk (blk_below (g := gb458) (o := .cells #[.int .i64 t454, .slice Ao13 t455.length co13] 39 (0, 0)) (bL BK458) hb); replace BK463 := Aside0.mk (blk_below (g := gb463) (o := .cells #[.int .i64 t459, .slice Ao18 t460.length co18] 39 (0, 0)) (bL BK463) hb); replace HB := Aside0.mk (below_step (bG2 GE458 GE463) hb); (try clear hi)))
    go_ret
    exact ⟨bE, bG2 GE458 GE463⟩
   ·rw [if_neg c9] at H
    have c9b0 : decide (t467 < 0) = false := decide_eq_false c9
    clear c9
    (try simp only [c9b0])
    by_cases c25 : t467 = t465
    ·rw [if_pos c25] at H
     have c25b0 : (t467 == t465) = true := beq_iff_eq.mpr c25
     have c25b1 : (t467 != t465) = false := bne_eq_false_iff_eq.mpr c25
     clear c25
     replace H := Option.bind_eq_some_iff.mp H
     obtain ⟨⟨t468, t469⟩, A260, H⟩ := H
     replace H : ((laws_eqCodesResult.f k t468 t469 t454 t455).bind fun t473 => (if t473 = true then ((laws_heldCodesResult.f k t459 t466 1).bind fun t474 => (if t474 < 0 then (some false) else (if t474 = t465 then (some true) else (some false)))) else (some false))) = some r := H
     have A26 := Aside0.mk A260
     clear A260
     replace H := Option.bind_eq_some_iff.mp H
     obtain ⟨t473, A270, H⟩ := H
     replace H : (if t473 = true then ((laws_heldCodesResult.f k t459 t466 1).bind fun t474 => (if t474 < 0 then (some false) else (if t474 = t465 then (some true) else (some false)))) else (some false)) = some r := H
     have A27 := Aside0.mk A270
     clear A270
     (try simp only [c25b0, c25b1])
     by_cases c28 : t473 = true
     ·subst c28
      have H1 : ((laws_heldCodesResult.f k t459 t466 1).bind fun t474 => (if t474 < 0 then (some false) else (if t474 = t465 then (some true) else (some false)))) = some r := z31
      clear H
      have H := H1
      clear H1
      replace H := Option.bind_eq_some_iff.mp H
      obtain ⟨t474, A290, H⟩ := H
      replace H : (if t474 < 0 then (some false) else (if t474 = t465 then (some true) else (some false))) = some r := H
      have A29 := Aside0.mk A290
      clear A290
      by_cases c30 : t474 < 0
      ·rw [if_pos c30] at H
       have c30b0 : decide (t474 < 0) = true := decide_eq_true c30
       clear c30
       obtain rfl := Option.some.inj H
       (try simp only [c30b0])
       go_wp2_with (first | ((with_reducible refine gate_callee (f := 17) rfl ?_); refine goesL_ (some 12) rfl rfl Tryd.func17 (by kernel_rfl) rfl #[.string a0] rfl bM ?_; (with_reducible refine (spec_DecodeWords.calls k a0 t454 t455 _ A3.out).mono ?_); rintro e w31 ⟨v456, rfl, ho0, hb⟩; refine ⟨_, rfl, ?_⟩; have HO457 := Aside0.mk (Kd.R_lower ho0 (below_size bB)); replace HB := Aside0.mk (below_step bB hb); (try clear ho0)) | ((with_reducible refine gate_dst (N := 3) rfl ?_); refine box_event ?hg (N := 3) ?hd (cs := #[.int .i64 0, .slice none 0 0]) (t := 39) ?hr ?_; (case hd => rfl); (case hg => rfl); (case hr => exact z11); intro gb458 hg w32 hbox hb; replace HO457 := Aside0.mk (Kd.R_below (bR HO457) hb); have BK458 := Aside0.mk (hbox); have GW458 := Aside0.mk ((z18 : w.heap.size ≤ gb458)); have GE458 := Aside0.mk ((z18 : w.heap.size ≤ gb458)); replace HB := Aside0.mk (below_step bB hb); clear hb hbox hg; have hcz33_0 : w32.cell? ⟨gb458, 0, none⟩ = some (.int .i64 0) := (blk_cell BK458.out 0).trans rfl; have hcz33_1 : w32.cell? ⟨gb458, 1, none⟩ = some (.slice none 0 0) := (blk_cell BK458.out 1).trans rfl; have hfz33_0 := blk_frozen BK458.out 0; have hfz33_1 := blk_frozen BK458.out 1; obtain ⟨Ao34, co34, eo34⟩ := Kd.R_slice HO457.out; subst eo34) | ((with_reducible refine gate_callee (f := 18) rfl ?_); refine goesL_ (some 14) rfl rfl Tryd.func18 (by kernel_rfl) rfl #[.string a0] rfl bM ?_; (with_reducible refine (impl_DecodeWords.calls k a0 t459 t460 _ ?sidem A4.out).mono ?_); (case sidem => exact z16); rintro e w35 ⟨v461, rfl, ho0, hb⟩; refine ⟨_, rfl, ?_⟩; have HO462 := Aside0.mk (Kd.R_lower (Kd.R_new' ho0 (Kd.R_lt (by (with_reducible repeat (first | apply Kd.R_alloc | apply Kd.R_drewN | apply Kd.R_drew)); exact (Kd.R_mono (Kd.R_far (p := ⟨gb458, 1, none⟩) (Kd.R_far (p := ⟨gb458, 0, none⟩) (Kd.R_types HO457.out BK458.out (by decide)) (fun _ hk => hk.2) (.int .i64 t454)) (fun _ hk => hk.2) (.slice Ao34 t455.length co34)) (fun _ h_ => h_.1))))) (below_size (bG GE458))); replace HO457 := Aside0.mk (Kd.R_elder' (by (with_reducible repeat (first | apply Kd.R_alloc | apply Kd.R_drewN | apply Kd.R_drew)); exact (Kd.R_mono (Kd.R_far (p := ⟨gb458, 1, none⟩) (Kd.R_far (p := ⟨gb458, 0, none⟩) (Kd.R_types HO457.out BK458.out (by decide)) (fun _ hk => hk.2) (.int .i64 t454)) (fun _ hk => hk.2) (.slice Ao34 t455.length co34)) (fun _ h_ => h_.1))) (Kd.R_base ho0) hb); replace BK458 := Aside0.mk (blk_below (g := gb458) (o := .cells #[.int .i64 t454, .slice Ao34 t455.length co34] 39 (0, 0)) (z13 BK458.out) hb); replace HB := Aside0.mk (below_step (bG GE458) hb); (try clear ho0)) | ((with_reducible refine gate_dst (N := 4) rfl ?_); refine box_event ?hg (N := 4) ?hd (cs := #[.int .i64 0, .slice none 0 0]) (t := 39) ?hr ?_; (case hd => rfl); (case hg => rfl); (case hr => exact z11); intro gb463 hg w36 hbox hb; replace HO457 := Aside0.mk (Kd.R_below (bR HO457) hb); replace HO462 := Aside0.mk (Kd.R_below (bR HO462) hb); have BK463 := Aside0.mk (hbox); have GW463 := Aside0.mk ((z55 : w.heap.size ≤ gb463)); have GE463 := Aside0.mk ((z55 : w.heap.size ≤ gb463)); replace HB := Aside0.mk (below_step (bG GE458) hb); have NB458_463 := Aside0.mk ((by rw [hg]; exact Nat.ne_of_lt (blk_lt (g := gb458) (o := .cells #[.int .i64 t454, .slice Ao34 t455.length co34] 39 (0, 0)) (bL BK458)) : gb458 ≠ gb463)); have NB463_458 := Aside0.mk ((by rw [hg]; exact Nat.ne_of_gt (blk_lt (g := gb458) (o := .cells #[.int .i64 t454, .slice Ao34 t455.length co34] 39 (0, 0)) (bL BK458)) : gb463 ≠ gb458)); replace BK458 := Aside0.mk (blk_below (g := gb458) (o := .cells #[.int .i64 t454, .slice Ao34 t455.length co34] 39 (0, 0)) (bL BK458) hb); clear hb hbox hg; have hnb37 := NB463_458.out; have hnc37 := NB458_463.out; have hcz38_0 : w36.cell? ⟨gb463, 0, none⟩ = some (.int .i64 0) := (blk_cell BK463.out 0).trans rfl; have hcz38_1 : w36.cell? ⟨gb463, 1, none⟩ = some (.slice none 0 0) := (blk_cell BK463.out 1).trans rfl; have hfz38_0 := blk_frozen BK463.out 0; have hfz38_1 := blk_frozen BK463.out 1; obtain ⟨Ao39, co39, eo39⟩ := Kd.R_slice HO462.out; subst eo39; have hcz40_0 : w36.cell? ⟨gb458, 0, none⟩ = some (.int .i64 t454) := (blk_cell BK458.out 0).trans rfl; have hcz40_1 : w36.cell? ⟨gb458, 1, none⟩ = some (.slice Ao34 t455.length co34) := (blk_cell BK458.out 1).trans rfl; have hfz40_0 := blk_frozen BK458.out 0; have hfz40_1 := blk_frozen BK458.out 1) | ((with_reducible refine gate_callee (f := 19) rfl ?_); refine goesL_ (some 17) rfl rfl Tryd.func19 (by kernel_rfl) rfl #[.agg #[.int .i64 t459, .slice Ao39 t460.length co39], .agg #[.int .i64 t454, .slice Ao34 t455.length co34]] rfl bM ?_; (with_reducible refine (laws_eqCodesResult.calls k t459 _ _ t460 t454 _ _ t455 true _ ?side1 ?side2 ?side3 ?side4 A5.out).mono ?_); (case side1 => refine (Kd.R_reads' (e := 2) (base := w.heap.size) (ok := fun k_ => (True ∧ some k_ ≠ (.slice Ao34 t455.length co34 : Value).ownBlock)) (n := t460.length) (c := co39) ?_).2.2; exact (z43 HO462.out BK463.out)); (case side2 => exact (Kd.R_reads' HO462.out).2.1); (case side3 => refine (Kd.R_reads' (e := 2) (base := w.heap.size) (ok := fun k_ => (True ∧ some k_ ≠ (.slice Ao39 t460.length co39 : Value).ownBlock)) (n := t455.length) (c := co34) ?_).2.2; exact (z43 HO457.out BK463.out)); (case side4 => exact (Kd.R_reads' HO457.out).2.1); rintro e w41 ⟨rfl, hb⟩; refine ⟨_, rfl, ?_⟩; replace HO457 := Aside0.mk (Kd.R_below (z43 HO457.out BK463.out) hb); replace HO462 := Aside0.mk (Kd.R_below (z43 HO462.out BK463.out) hb); replace BK458 := Aside0.mk (blk_below (g := gb458) (o := .cells #[.int .i64 t454, .slice Ao34 t455.length co34] 39 (0, 0)) (z1 NB458_463.out BK458.out) hb); replace BK463 := Aside0.mk (blk_below (g := gb463) (o := .cells #[.int .i64 t459, .slice Ao39 t460.length co39] 39 (0, 0)) (z12 BK463.out) hb); replace HB := Aside0.mk (below_step (bG2 GE458 GE463) hb); have hcz42_0 : w41.cell? ⟨gb463, 0, none⟩ = some (.int .i64 t459) := (blk_cell BK463.out 0).trans rfl; have hcz42_1 : w41.cell? ⟨gb463, 1, none⟩ = some (.slice Ao39 t460.length co39) := (blk_cell BK463.out 1).trans rfl; have hfz42_0 := blk_frozen BK463.out 0; have hfz42_1 := blk_frozen BK463.out 1) | ((with_reducible refine gate_callee (f := 20) rfl ?_); refine goesL_ (some 21) rfl rfl Tryd.func20 (by kernel_rfl) rfl #[.agg #[.int .i64 t459, .slice Ao39 t460.length co39], .int .i64 1] rfl bM ?_; (with_reducible refine (laws_markCodesResult.calls k t459 (fun k_ => some k_ = (.slice Ao39 t460.length co39 : Value).ownBlock) (.slice Ao39 t460.length co39) t460 1 t465 t466 w _ ?side1 ?side2 A7.out).mono ?_); (case side1 => exact z46 GE458.out GE463.out); (case side2 => exact Kd.R_tight rfl HO462.out); rintro e w43 ⟨rfl, hy0, hb, hkp⟩; refine ⟨_, rfl, ?_⟩; replace HO457 := Aside0.mk (Kd.R_mono (ok' := fun k_ => some k_ ≠ (.slice Ao39 t460.length co39 : Value).ownBlock) (Kd.R_keptB (HO457.out) hkp (fun k_ hk_ hs_ => (hk_.2) hs_)) (fun k_ hk_ => hk_.1.2)); replace BK458 := Aside0.mk (blk_kept (bL BK458) hkp (fun hs_ => (fun e_ => (Kd.R_ne HO462.out BK458.out (by decide)) e_) hs_)); replace BK463 := Aside0.mk (blk_kept (bL BK463) hkp (fun hs_ => (fun e_ => (Kd.R_ne HO462.out BK463.out (by decide)) e_) hs_)); replace HO462 := Aside0.mk (Kd.R_reok rfl hy0 (fun k_ e_ => HO462.out.1 k_ e_)); replace HB := Aside0.mk (hb); (try clear hkp); (try clear hy0); have hcz44_0 : w43.cell? ⟨gb463, 0, none⟩ = some (.int .i64 t459) := (blk_cell BK463.out 0).trans rfl; have hcz44_1 : w43.cell? ⟨gb463, 1, none⟩ = some (.slice Ao39 t460.length co39) := (blk_cell BK463.out 1).trans rfl; have hfz44_0 := blk_frozen BK463.out 0; have hfz44_1 := blk_frozen BK463.out 1) | ((with_reducible refine gate_callee (f := 21) rfl ?_); refine goesL_ (some 24) rfl rfl Tryd.func21 (by kernel_rfl) rfl #[.agg #[.int .i64 t459, .slice Ao39 t466.length co39], .int .i64 1] rfl (z19 HO462.out) ?_; (with_reducible refine (laws_heldCodesResult.calls k t459 _ _ t466 1 t467 _ ?side1 ?side2 A8.out).mono ?_); (case side1 => exact z3 HO462.out); (case side2 => exact z50 HO462.out); rintro e w45 ⟨rfl, hb⟩; refine ⟨_, rfl, ?_⟩; replace HO457 := Aside0.mk (Kd.R_below (bR HO457) hb); replace HO462 := Aside0.mk (Kd.R_below (bR HO462) hb); replace BK458 := Aside0.mk (blk_below (g := gb458) (o := .cells #[.int .i64 t454, .slice Ao34 t455.length co34] 39 (0, 0)) (bL BK458) hb); replace BK463 := Aside0.mk (blk_below (g := gb463) (o := .cells #[.int .i64 t459, .slice Ao39 t460.length co39] 39 (0, 0)) (bL BK463) hb); replace HB := Aside0.mk (below_step (bG2 GE458 GE463) hb); (try clear hi)) | ((with_reducible refine gate_callee (f := 18) rfl ?_); refine goesL_ (some 31) rfl rfl Tryd.func18 (by kernel_rfl) rfl #[.string a0] rfl bM ?_; (with_reducible refine (impl_DecodeWords.calls k a0 t468 t469 _ ?sidem A26.out).mono ?_); (case sidem => exact z16); rintro e w46 ⟨v470, rfl, ho0, hb⟩; refine ⟨_, rfl, ?_⟩; have HO471 := Aside0.mk (Kd.R_lower (Kd.R_new' (Kd.R_new' ho0 (Kd.R_lt (bR HO457))) (Kd.R_lt (bR HO462))) (below_size (bG2 GE458 GE463))); replace HO457 := Aside0.mk (Kd.R_elder' (bR HO457) (Kd.R_base ho0) hb); replace HO462 := Aside0.mk (Kd.R_elder' (bR HO462) (Kd.R_base ho0) hb); replace BK458 := Aside0.mk (blk_below (g := gb458) (o := .cells #[.int .i64 t454, .slice Ao34 t455.length co34] 39 (0, 0)) (bL BK458) hb); replace BK463 := Aside0.mk (blk_below (g := gb463) (o := .cells #[.int .i64 t459, .slice Ao39 t460.length co39] 39 (0, 0)) (bL BK463) hb); replace HB := Aside0.mk (below_step (bG2 GE458 GE463) hb); (try clear ho0)) | ((with_reducible refine gate_dst (N := 7) rfl ?_); refine box_event ?hg (N := 7) ?hd (cs := #[.int .i64 0, .slice none 0 0]) (t := 39) ?hr ?_; (case hd => rfl); (case hg => rfl); (case hr => exact z11); intro gb472 hg w47 hbox hb; replace HO457 := Aside0.mk (Kd.R_below (bR HO457) hb); replace HO462 := Aside0.mk (Kd.R_below (bR HO462) hb); replace HO471 := Aside0.mk (Kd.R_below (bR HO471) hb); have BK472 := Aside0.mk (hbox); have GW472 := Aside0.mk ((z71 : w.heap.size ≤ gb472)); have GE472 := Aside0.mk ((z71 : w.heap.size ≤ gb472)); replace HB := Aside0.mk (below_step (bG2 GE458 GE463) hb); have NB458_472 := Aside0.mk ((by rw [hg]; exact Nat.ne_of_lt (blk_lt (g := gb458) (o := .cells #[.int .i64 t454, .slice Ao34 t455.length co34] 39 (0, 0)) (bL BK458)) : gb458 ≠ gb472)); have NB472_458 := Aside0.mk ((by rw [hg]; exact Nat.ne_of_gt (blk_lt (g := gb458) (o := .cells #[.int .i64 t454, .slice Ao34 t455.length co34] 39 (0, 0)) (bL BK458)) : gb472 ≠ gb458)); replace BK458 := Aside0.mk (blk_below (g := gb458) (o := .cells #[.int .i64 t454, .slice Ao34 t455.length co34] 39 (0, 0)) (bL BK458) hb); have NB463_472 := Aside0.mk ((by rw [hg]; exact Nat.ne_of_lt (blk_lt (g := gb463) (o := .cells #[.int .i64 t459, .slice Ao39 t460.length co39] 39 (0, 0)) (bL BK463)) : gb463 ≠ gb472)); have NB472_463 := Aside0.mk ((by rw [hg]; exact Nat.ne_of_gt (blk_lt (g := gb463) (o := .cells #[.int .i64 t459, .slice Ao39 t460.length co39] 39 (0, 0)) (bL BK463)) : gb472 ≠ gb463)); replace BK463 := Aside0.mk (blk_below (g := gb463) (o := .cells #[.int .i64 t459, .slice Ao39 t460.length co39] 39 (0, 0)) (bL BK463) hb); clear hb hbox hg; have hnb48 := NB472_458.out; have hnc48 := NB458_472.out; have hnb49 := NB472_463.out; have hnc49 := NB463_472.out; have hcz50_0 : w47.cell? ⟨gb472, 0, none⟩ = some (.int .i64 0) := (blk_cell BK472.out 0).trans rfl; have hcz50_1 : w47.cell? ⟨gb472, 1, none⟩ = some (.slice none 0 0) := (blk_cell BK472.out 1).trans rfl; have hfz50_0 := blk_frozen BK472.out 0; have hfz50_1 := blk_frozen BK472.out 1; obtain ⟨Ao51, co51, eo51⟩ := Kd.R_slice HO471.out; subst eo51; have hcz52_0 : w47.cell? ⟨gb458, 0, none⟩ = some (.int .i64 t454) := (blk_cell BK458.out 0).trans rfl; have hcz52_1 : w47.cell? ⟨gb458, 1, none⟩ = some (.slice Ao34 t455.length co34) := (blk_cell BK458.out 1).trans rfl; have hfz52_0 := blk_frozen BK458.out 0; have hfz52_1 := blk_frozen BK458.out 1) | ((with_reducible refine gate_callee (f := 19) rfl ?_); refine goesL_ (some 34) rfl rfl Tryd.func19 (by kernel_rfl) rfl #[.agg #[.int .i64 t468, .slice Ao51 t469.length co51], .agg #[.int .i64 t454, .slice Ao34 t455.length co34]] rfl bM ?_; (with_reducible refine (laws_eqCodesResult.calls k t468 _ _ t469 t454 _ _ t455 true _ ?side1 ?side2 ?side3 ?side4 A27.out).mono ?_); (case side1 => refine (Kd.R_reads' (e := 2) (base := w.heap.size) (ok := fun k_ => ((True ∧ some k_ ≠ (.slice Ao34 t455.length co34 : Value).ownBlock) ∧ some k_ ≠ (.slice Ao39 t460.length co39 : Value).ownBlock)) (n := t469.length) (c := co51) ?_).2.2; exact (z28 HO471.out BK472.out)); (case side2 => exact (Kd.R_reads' HO471.out).2.1); (case side3 => refine (Kd.R_reads' (e := 2) (base := w.heap.size) (ok := fun k_ => (some k_ ≠ (.slice Ao39 t460.length co39 : Value).ownBlock ∧ some k_ ≠ (.slice Ao51 t469.length co51 : Value).ownBlock)) (n := t455.length) (c := co34) ?_).2.2; exact (z28 HO457.out BK472.out)); (case side4 => exact (Kd.R_reads' HO457.out).2.1); rintro e w53 ⟨rfl, hb⟩; refine ⟨_, rfl, ?_⟩; replace HO457 := Aside0.mk (Kd.R_below (z28 HO457.out BK472.out) hb); replace HO462 := Aside0.mk (Kd.R_below (z28 HO462.out BK472.out) hb); replace HO471 := Aside0.mk (Kd.R_below (z28 HO471.out BK472.out) hb); replace BK458 := Aside0.mk (blk_below (g := gb458) (o := .cells #[.int .i64 t454, .slice Ao34 t455.length co34] 39 (0, 0)) (z1 NB458_472.out BK458.out) hb); replace BK463 := Aside0.mk (blk_below (g := gb463) (o := .cells #[.int .i64 t459, .slice Ao39 t460.length co39] 39 (0, 0)) (z1 NB463_472.out BK463.out) hb); replace BK472 := Aside0.mk (blk_below (g := gb472) (o := .cells #[.int .i64 t468, .slice Ao51 t469.length co51] 39 (0, 0)) (z21 BK472.out) hb); replace HB := Aside0.mk (below_step (z17 GE458.out GE463.out GE472.out) hb); have hcz54_0 : w53.cell? ⟨gb463, 0, none⟩ = some (.int .i64 t459) := (blk_cell BK463.out 0).trans rfl; have hcz54_1 : w53.cell? ⟨gb463, 1, none⟩ = some (.slice Ao39 t460.length co39) := (blk_cell BK463.out 1).trans rfl; have hfz54_0 := blk_frozen BK463.out 0; have hfz54_1 := blk_frozen BK463.out 1) | ((with_reducible refine gate_callee (f := 21) rfl ?_); refine goesL_ (some 38) rfl rfl Tryd.func21 (by kernel_rfl) rfl #[.agg #[.int .i64 t459, .slice Ao39 t466.length co39], .int .i64 1] rfl (z19 HO462.out) ?_; (with_reducible refine (laws_heldCodesResult.calls k t459 _ _ t466 1 t474 _ ?side1 ?side2 A29.out).mono ?_); (case side1 => exact z3 HO462.out); (case side2 => exact z50 HO462.out); rintro e w55 ⟨rfl, hb⟩; refine ⟨_, rfl, ?_⟩; replace HO457 := Aside0.mk (Kd.R_below (bR HO457) hb); replace HO462 := Aside0.mk (Kd.R_below (bR HO462) hb); replace HO471 := Aside0.mk (Kd.R_below (bR HO471) hb); replace BK458 := Aside0.mk (blk_below (g := gb458) (o := .cells #[.int .i64 t454, .slice Ao34 t455.length co34] 39 (0, 0)) (bL BK458) hb); replace BK463 := Aside0.mk (blk_below (g := gb463) (o := .cells #[.int .i64 t459, .slice Ao39 t460.length co39] 39 (0, 0)) (bL BK463) hb); replace BK472 := Aside0.mk (blk_below (g := gb472) (o := .cells #[.int .i64 t468, .slice Ao51 t469.length co51] 39 (0, 0)) (bL BK472) hb); replace HB := Aside0.mk (below_step (z17 GE458.out GE463.out GE472.out) hb); (try clear hi)))
       go_ret
       exact ⟨bE, z17 GE458.out GE463.out GE472.out⟩
      ·rw [if_neg c30] at H
       have c30b0 : decide (t474 < 0) = false := decide_eq_false c30
       clear c30
       (try simp only [c30b0])
       by_cases c56 : t474 = t465
       ·rw [if_pos c56] at H
        have c56b0 : (t474 == t465) = true := beq_iff_eq.mpr c56
        have c56b1 : (t474 != t465) = false := bne_eq_false_iff_eq.mpr c56
        clear c56
        obtain rfl := Option.some.inj H
        (try simp only [c56b0, c56b1])
        go_wp2_with (first | ((with_reducible refine gate_callee (f := 17) rfl ?_); refine goesL_ (some 12) rfl rfl Tryd.func17 (by kernel_rfl) rfl #[.string a0] rfl bM ?_; (with_reducible refine (spec_DecodeWords.calls k a0 t454 t455 _ A3.out).mono ?_); rintro e w57 ⟨v456, rfl, ho0, hb⟩; refine ⟨_, rfl, ?_⟩; have HO457 := Aside0.mk (Kd.R_lower ho0 (below_size bB)); replace HB := Aside0.mk (below_step bB hb); (try clear ho0)) | ((with_reducible refine gate_dst (N := 3) rfl ?_); refine box_event ?hg (N := 3) ?hd (cs := #[.int .i64 0, .slice none 0 0]) (t := 39) ?hr ?_; (case hd => rfl); (case hg => rfl); (case hr => exact z11); intro gb458 hg w58 hbox hb; replace HO457 := Aside0.mk (Kd.R_below (bR HO457) hb); have BK458 := Aside0.mk (hbox); have GW458 := Aside0.mk ((z18 : w.heap.size ≤ gb458)); have GE458 := Aside0.mk ((z18 : w.heap.size ≤ gb458)); replace HB := Aside0.mk (below_step bB hb); clear hb hbox hg; have hcz59_0 : w58.cell? ⟨gb458, 0, none⟩ = some (.int .i64 0) := (blk_cell BK458.out 0).trans rfl; have hcz59_1 : w58.cell? ⟨gb458, 1, none⟩ = some (.slice none 0 0) := (blk_cell BK458.out 1).trans rfl; have hfz59_0 := blk_frozen BK458.out 0; have hfz59_1 := blk_frozen BK458.out 1; obtain ⟨Ao60, co60, eo60⟩ := Kd.R_slice HO457.out; subst eo60) | ((with_reducible refine gate_callee (f := 18) rfl ?_); refine goesL_ (some 14) rfl rfl Tryd.func18 (by kernel_rfl) rfl #[.string a0] rfl bM ?_; (with_reducible refine (impl_DecodeWords.calls k a0 t459 t460 _ ?sidem A4.out).mono ?_); (case sidem => exact z16); rintro e w61 ⟨v461, rfl, ho0, hb⟩; refine ⟨_, rfl, ?_⟩; have HO462 := Aside0.mk (Kd.R_lower (Kd.R_new' ho0 (Kd.R_lt (by (with_reducible repeat (first | apply Kd.R_alloc | apply Kd.R_drewN | apply Kd.R_drew)); exact (Kd.R_mono (Kd.R_far (p := ⟨gb458, 1, none⟩) (Kd.R_far (p := ⟨gb458, 0, none⟩) (Kd.R_types HO457.out BK458.out (by decide)) (fun _ hk => hk.2) (.int .i64 t454)) (fun _ hk => hk.2) (.slice Ao60 t455.length co60)) (fun _ h_ => h_.1))))) (below_size (bG GE458))); replace HO457 := Aside0.mk (Kd.R_elder' (by (with_reducible repeat (first | apply Kd.R_alloc | apply Kd.R_drewN | apply Kd.R_drew)); exact (Kd.R_mono (Kd.R_far (p := ⟨gb458, 1, none⟩) (Kd.R_far (p := ⟨gb458, 0, none⟩) (Kd.R_types HO457.out BK458.out (by decide)) (fun _ hk => hk.2) (.int .i64 t454)) (fun _ hk => hk.2) (.slice Ao60 t455.length co60)) (fun _ h_ => h_.1))) (Kd.R_base ho0) hb); replace BK458 := Aside0.mk (blk_below (g := gb458) (o := .cells #[.int .i64 t454, .slice Ao60 t455.length co60] 39 (0, 0)) (z13 BK458.out) hb); replace HB := Aside0.mk (below_step (bG GE458) hb); (try clear ho0)) | ((with_reducible refine gate_dst (N := 4) rfl ?_); refine box_event ?hg (N := 4) ?hd (cs := #[.int .i64 0, .slice none 0 0]) (t := 39) ?hr ?_; (case hd => rfl); (case hg => rfl); (case hr => exact z11); intro gb463 hg w62 hbox hb; replace HO457 := Aside0.mk (Kd.R_below (bR HO457) hb); replace HO462 := Aside0.mk (Kd.R_below (bR HO462) hb); have BK463 := Aside0.mk (hbox); have GW463 := Aside0.mk ((z55 : w.heap.size ≤ gb463)); have GE463 := Aside0.mk ((z55 : w.heap.size ≤ gb463)); replace HB := Aside0.mk (below_step (bG GE458) hb); have NB458_463 := Aside0.mk ((by rw [hg]; exact Nat.ne_of_lt (blk_lt (g := gb458) (o := .cells #[.int .i64 t454, .slice Ao60 t455.length co60] 39 (0, 0)) (bL BK458)) : gb458 ≠ gb463)); have NB463_458 := Aside0.mk ((by rw [hg]; exact Nat.ne_of_gt (blk_lt (g := gb458) (o := .cells #[.int .i64 t454, .slice Ao60 t455.length co60] 39 (0, 0)) (bL BK458)) : gb463 ≠ gb458)); replace BK458 := Aside0.mk (blk_below (g := gb458) (o := .cells #[.int .i64 t454, .slice Ao60 t455.length co60] 39 (0, 0)) (bL BK458) hb); clear hb hbox hg; have hnb63 := NB463_458.out; have hnc63 := NB458_463.out; have hcz64_0 : w62.cell? ⟨gb463, 0, none⟩ = some (.int .i64 0) := (blk_cell BK463.out 0).trans rfl; have hcz64_1 : w62.cell? ⟨gb463, 1, none⟩ = some (.slice none 0 0) := (blk_cell BK463.out 1).trans rfl; have hfz64_0 := blk_frozen BK463.out 0; have hfz64_1 := blk_frozen BK463.out 1; obtain ⟨Ao65, co65, eo65⟩ := Kd.R_slice HO462.out; subst eo65; have hcz66_0 : w62.cell? ⟨gb458, 0, none⟩ = some (.int .i64 t454) := (blk_cell BK458.out 0).trans rfl; have hcz66_1 : w62.cell? ⟨gb458, 1, none⟩ = some (.slice Ao60 t455.length co60) := (blk_cell BK458.out 1).trans rfl; have hfz66_0 := blk_frozen BK458.out 0; have hfz66_1 := blk_frozen BK458.out 1) | ((with_reducible refine gate_callee (f := 19) rfl ?_); refine goesL_ (some 17) rfl rfl Tryd.func19 (by kernel_rfl) rfl #[.agg #[.int .i64 t459, .slice Ao65 t460.length co65], .agg #[.int .i64 t454, .slice Ao60 t455.length co60]] rfl bM ?_; (with_reducible refine (laws_eqCodesResult.calls k t459 _ _ t460 t454 _ _ t455 true _ ?side1 ?side2 ?side3 ?side4 A5.out).mono ?_); (case side1 => refine (Kd.R_reads' (e := 2) (base := w.heap.size) (ok := fun k_ => (True ∧ some k_ ≠ (.slice Ao60 t455.length co60 : Value).ownBlock)) (n := t460.length) (c := co65) ?_).2.2; exact (z42 HO462.out BK463.out)); (case side2 => exact (Kd.R_reads' HO462.out).2.1); (case side3 => refine (Kd.R_reads' (e := 2) (base := w.heap.size) (ok := fun k_ => (True ∧ some k_ ≠ (.slice Ao65 t460.length co65 : Value).ownBlock)) (n := t455.length) (c := co60) ?_).2.2; exact (z42 HO457.out BK463.out)); (case side4 => exact (Kd.R_reads' HO457.out).2.1); rintro e w67 ⟨rfl, hb⟩; refine ⟨_, rfl, ?_⟩; replace HO457 := Aside0.mk (Kd.R_below (z42 HO457.out BK463.out) hb); replace HO462 := Aside0.mk (Kd.R_below (z42 HO462.out BK463.out) hb); replace BK458 := Aside0.mk (blk_below (g := gb458) (o := .cells #[.int .i64 t454, .slice Ao60 t455.length co60] 39 (0, 0)) (z1 NB458_463.out BK458.out) hb); replace BK463 := Aside0.mk (blk_below (g := gb463) (o := .cells #[.int .i64 t459, .slice Ao65 t460.length co65] 39 (0, 0)) (z12 BK463.out) hb); replace HB := Aside0.mk (below_step (bG2 GE458 GE463) hb); have hcz68_0 : w67.cell? ⟨gb463, 0, none⟩ = some (.int .i64 t459) := (blk_cell BK463.out 0).trans rfl; have hcz68_1 : w67.cell? ⟨gb463, 1, none⟩ = some (.slice Ao65 t460.length co65) := (blk_cell BK463.out 1).trans rfl; have hfz68_0 := blk_frozen BK463.out 0; have hfz68_1 := blk_frozen BK463.out 1) | ((with_reducible refine gate_callee (f := 20) rfl ?_); refine goesL_ (some 21) rfl rfl Tryd.func20 (by kernel_rfl) rfl #[.agg #[.int .i64 t459, .slice Ao65 t460.length co65], .int .i64 1] rfl bM ?_; (with_reducible refine (laws_markCodesResult.calls k t459 (fun k_ => some k_ = (.slice Ao65 t460.length co65 : Value).ownBlock) (.slice Ao65 t460.length co65) t460 1 t465 t466 w _ ?side1 ?side2 A7.out).mono ?_); (case side1 => exact z46 GE458.out GE463.out); (case side2 => exact Kd.R_tight rfl HO462.out); rintro e w69 ⟨rfl, hy0, hb, hkp⟩; refine ⟨_, rfl, ?_⟩; replace HO457 := Aside0.mk (Kd.R_mono (ok' := fun k_ => some k_ ≠ (.slice Ao65 t460.length co65 : Value).ownBlock) (Kd.R_keptB (HO457.out) hkp (fun k_ hk_ hs_ => (hk_.2) hs_)) (fun k_ hk_ => hk_.1.2)); replace BK458 := Aside0.mk (blk_kept (bL BK458) hkp (fun hs_ => (fun e_ => (Kd.R_ne HO462.out BK458.out (by decide)) e_) hs_)); replace BK463 := Aside0.mk (blk_kept (bL BK463) hkp (fun hs_ => (fun e_ => (Kd.R_ne HO462.out BK463.out (by decide)) e_) hs_)); replace HO462 := Aside0.mk (Kd.R_reok rfl hy0 (fun k_ e_ => HO462.out.1 k_ e_)); replace HB := Aside0.mk (hb); (try clear hkp); (try clear hy0); have hcz70_0 : w69.cell? ⟨gb463, 0, none⟩ = some (.int .i64 t459) := (blk_cell BK463.out 0).trans rfl; have hcz70_1 : w69.cell? ⟨gb463, 1, none⟩ = some (.slice Ao65 t460.length co65) := (blk_cell BK463.out 1).trans rfl; have hfz70_0 := blk_frozen BK463.out 0; have hfz70_1 := blk_frozen BK463.out 1) | ((with_reducible refine gate_callee (f := 21) rfl ?_); refine goesL_ (some 24) rfl rfl Tryd.func21 (by kernel_rfl) rfl #[.agg #[.int .i64 t459, .slice Ao65 t466.length co65], .int .i64 1] rfl (z19 HO462.out) ?_; (with_reducible refine (laws_heldCodesResult.calls k t459 _ _ t466 1 t467 _ ?side1 ?side2 A8.out).mono ?_); (case side1 => exact z3 HO462.out); (case side2 => exact z50 HO462.out); rintro e w71 ⟨rfl, hb⟩; refine ⟨_, rfl, ?_⟩; replace HO457 := Aside0.mk (Kd.R_below (bR HO457) hb); replace HO462 := Aside0.mk (Kd.R_below (bR HO462) hb); replace BK458 := Aside0.mk (blk_below (g := gb458) (o := .cells #[.int .i64 t454, .slice Ao60 t455.length co60] 39 (0, 0)) (bL BK458) hb); replace BK463 := Aside0.mk (blk_below (g := gb463) (o := .cells #[.int .i64 t459, .slice Ao65 t460.length co65] 39 (0, 0)) (bL BK463) hb); replace HB := Aside0.mk (below_step (bG2 GE458 GE463) hb); (try clear hi)) | ((with_reducible refine gate_callee (f := 18) rfl ?_); refine goesL_ (some 31) rfl rfl Tryd.func18 (by kernel_rfl) rfl #[.string a0] rfl bM ?_; (with_reducible refine (impl_DecodeWords.calls k a0 t468 t469 _ ?sidem A26.out).mono ?_); (case sidem => exact z16); rintro e w72 ⟨v470, rfl, ho0, hb⟩; refine ⟨_, rfl, ?_⟩; have HO471 := Aside0.mk (Kd.R_lower (Kd.R_new' (Kd.R_new' ho0 (Kd.R_lt (bR HO457))) (Kd.R_lt (bR HO462))) (below_size (bG2 GE458 GE463))); replace HO457 := Aside0.mk (Kd.R_elder' (bR HO457) (Kd.R_base ho0) hb); replace HO462 := Aside0.mk (Kd.R_elder' (bR HO462) (Kd.R_base ho0) hb); replace BK458 := Aside0.mk (blk_below (g := gb458) (o := .cells #[.int .i64 t454, .slice Ao60 t455.length co60] 39 (0, 0)) (bL BK458) hb); replace BK463 := Aside0.mk (blk_below (g := gb463) (o := .cells #[.int .i64 t459, .slice Ao65 t460.length co65] 39 (0, 0)) (bL BK463) hb); replace HB := Aside0.mk (below_step (bG2 GE458 GE463) hb); (try clear ho0)) | ((with_reducible refine gate_dst (N := 7) rfl ?_); refine box_event ?hg (N := 7) ?hd (cs := #[.int .i64 0, .slice none 0 0]) (t := 39) ?hr ?_; (case hd => rfl); (case hg => rfl); (case hr => exact z11); intro gb472 hg w73 hbox hb; replace HO457 := Aside0.mk (Kd.R_below (bR HO457) hb); replace HO462 := Aside0.mk (Kd.R_below (bR HO462) hb); replace HO471 := Aside0.mk (Kd.R_below (bR HO471) hb); have BK472 := Aside0.mk (hbox); have GW472 := Aside0.mk ((z71 : w.heap.size ≤ gb472)); have GE472 := Aside0.mk ((z71 : w.heap.size ≤ gb472)); replace HB := Aside0.mk (below_step (bG2 GE458 GE463) hb); have NB458_472 := Aside0.mk ((by rw [hg]; exact Nat.ne_of_lt (blk_lt (g := gb458) (o := .cells #[.int .i64 t454, .slice Ao60 t455.length co60] 39 (0, 0)) (bL BK458)) : gb458 ≠ gb472)); have NB472_458 := Aside0.mk ((by rw [hg]; exact Nat.ne_of_gt (blk_lt (g := gb458) (o := .cells #[.int .i64 t454, .slice Ao60 t455.length co60] 39 (0, 0)) (bL BK458)) : gb472 ≠ gb458)); replace BK458 := Aside0.mk (blk_below (g := gb458) (o := .cells #[.int .i64 t454, .slice Ao60 t455.length co60] 39 (0, 0)) (bL BK458) hb); have NB463_472 := Aside0.mk ((by rw [hg]; exact Nat.ne_of_lt (blk_lt (g := gb463) (o := .cells #[.int .i64 t459, .slice Ao65 t460.length co65] 39 (0, 0)) (bL BK463)) : gb463 ≠ gb472)); have NB472_463 := Aside0.mk ((by rw [hg]; exact Nat.ne_of_gt (blk_lt (g := gb463) (o := .cells #[.int .i64 t459, .slice Ao65 t460.length co65] 39 (0, 0)) (bL BK463)) : gb472 ≠ gb463)); replace BK463 := Aside0.mk (blk_below (g := gb463) (o := .cells #[.int .i64 t459, .slice Ao65 t460.length co65] 39 (0, 0)) (bL BK463) hb); clear hb hbox hg; have hnb74 := NB472_458.out; have hnc74 := NB458_472.out; have hnb75 := NB472_463.out; have hnc75 := NB463_472.out; have hcz76_0 : w73.cell? ⟨gb472, 0, none⟩ = some (.int .i64 0) := (blk_cell BK472.out 0).trans rfl; have hcz76_1 : w73.cell? ⟨gb472, 1, none⟩ = some (.slice none 0 0) := (blk_cell BK472.out 1).trans rfl; have hfz76_0 := blk_frozen BK472.out 0; have hfz76_1 := blk_frozen BK472.out 1; obtain ⟨Ao77, co77, eo77⟩ := Kd.R_slice HO471.out; subst eo77; have hcz78_0 : w73.cell? ⟨gb458, 0, none⟩ = some (.int .i64 t454) := (blk_cell BK458.out 0).trans rfl; have hcz78_1 : w73.cell? ⟨gb458, 1, none⟩ = some (.slice Ao60 t455.length co60) := (blk_cell BK458.out 1).trans rfl; have hfz78_0 := blk_frozen BK458.out 0; have hfz78_1 := blk_frozen BK458.out 1) | ((with_reducible refine gate_callee (f := 19) rfl ?_); refine goesL_ (some 34) rfl rfl Tryd.func19 (by kernel_rfl) rfl #[.agg #[.int .i64 t468, .slice Ao77 t469.length co77], .agg #[.int .i64 t454, .slice Ao60 t455.length co60]] rfl bM ?_; (with_reducible refine (laws_eqCodesResult.calls k t468 _ _ t469 t454 _ _ t455 true _ ?side1 ?side2 ?side3 ?side4 A27.out).mono ?_); (case side1 => refine (Kd.R_reads' (e := 2) (base := w.heap.size) (ok := fun k_ => ((True ∧ some k_ ≠ (.slice Ao60 t455.length co60 : Value).ownBlock) ∧ some k_ ≠ (.slice Ao65 t460.length co65 : Value).ownBlock)) (n := t469.length) (c := co77) ?_).2.2; exact (z29 HO471.out BK472.out)); (case side2 => exact (Kd.R_reads' HO471.out).2.1); (case side3 => refine (Kd.R_reads' (e := 2) (base := w.heap.size) (ok := fun k_ => (some k_ ≠ (.slice Ao65 t460.length co65 : Value).ownBlock ∧ some k_ ≠ (.slice Ao77 t469.length co77 : Value).ownBlock)) (n := t455.length) (c := co60) ?_).2.2; exact (z29 HO457.out BK472.out)); (case side4 => exact (Kd.R_reads' HO457.out).2.1); rintro e w79 ⟨rfl, hb⟩; refine ⟨_, rfl, ?_⟩; replace HO457 := Aside0.mk (Kd.R_below (z29 HO457.out BK472.out) hb); replace HO462 := Aside0.mk (Kd.R_below (z29 HO462.out BK472.out) hb); replace HO471 := Aside0.mk (Kd.R_below (z29 HO471.out BK472.out) hb); replace BK458 := Aside0.mk (blk_below (g := gb458) (o := .cells #[.int .i64 t454, .slice Ao60 t455.length co60] 39 (0, 0)) (z1 NB458_472.out BK458.out) hb); replace BK463 := Aside0.mk (blk_below (g := gb463) (o := .cells #[.int .i64 t459, .slice Ao65 t460.length co65] 39 (0, 0)) (z1 NB463_472.out BK463.out) hb); replace BK472 := Aside0.mk (blk_below (g := gb472) (o := .cells #[.int .i64 t468, .slice Ao77 t469.length co77] 39 (0, 0)) (z21 BK472.out) hb); replace HB := Aside0.mk (below_step (z17 GE458.out GE463.out GE472.out) hb); have hcz80_0 : w79.cell? ⟨gb463, 0, none⟩ = some (.int .i64 t459) := (blk_cell BK463.out 0).trans rfl; have hcz80_1 : w79.cell? ⟨gb463, 1, none⟩ = some (.slice Ao65 t460.length co65) := (blk_cell BK463.out 1).trans rfl; have hfz80_0 := blk_frozen BK463.out 0; have hfz80_1 := blk_frozen BK463.out 1) | ((with_reducible refine gate_callee (f := 21) rfl ?_); refine goesL_ (some 38) rfl rfl Tryd.func21 (by kernel_rfl) rfl #[.agg #[.int .i64 t459, .slice Ao65 t466.length co65], .int .i64 1] rfl (z19 HO462.out) ?_; (with_reducible refine (laws_heldCodesResult.calls k t459 _ _ t466 1 t474 _ ?side1 ?side2 A29.out).mono ?_); (case side1 => exact z3 HO462.out); (case side2 => exact z50 HO462.out); rintro e w81 ⟨rfl, hb⟩; refine ⟨_, rfl, ?_⟩; replace HO457 := Aside0.mk (Kd.R_below (bR HO457) hb); replace HO462 := Aside0.mk (Kd.R_below (bR HO462) hb); replace HO471 := Aside0.mk (Kd.R_below (bR HO471) hb); replace BK458 := Aside0.mk (blk_below (g := gb458) (o := .cells #[.int .i64 t454, .slice Ao60 t455.length co60] 39 (0, 0)) (bL BK458) hb); replace BK463 := Aside0.mk (blk_below (g := gb463) (o := .cells #[.int .i64 t459, .slice Ao65 t460.length co65] 39 (0, 0)) (bL BK463) hb); replace BK472 := Aside0.mk (blk_below (g := gb472) (o := .cells #[.int .i64 t468, .slice Ao77 t469.length co77] 39 (0, 0)) (bL BK472) hb); replace HB := Aside0.mk (below_step (z17 GE458.out GE463.out GE472.out) hb); (try clear hi)))
        go_ret
        exact ⟨bE, z17 GE458.out GE463.out GE472.out⟩
       ·rw [if_neg c56] at H
        have c56b0 : (t474 == t465) = false := beq_eq_false_iff_ne.mpr c56
        have c56b1 : (t474 != t465) = true := bne_iff_ne.mpr c56
        obtain rfl := Option.some.inj H
        (try simp only [c56b0, c56b1])
        go_wp2_with (first | ((with_reducible refine gate_callee (f := 17) rfl ?_); refine goesL_ (some 12) rfl rfl Tryd.func17 (by kernel_rfl) rfl #[.string a0] rfl bM ?_; (with_reducible refine (spec_DecodeWords.calls k a0 t454 t455 _ A3.out).mono ?_); rintro e w82 ⟨v456, rfl, ho0, hb⟩; refine ⟨_, rfl, ?_⟩; have HO457 := Aside0.mk (Kd.R_lower ho0 (below_size bB)); replace HB := Aside0.mk (below_step bB hb); (try clear ho0)) | ((with_reducible refine gate_dst (N := 3) rfl ?_); refine box_event ?hg (N := 3) ?hd (cs := #[.int .i64 0, .slice none 0 0]) (t := 39) ?hr ?_; (case hd => rfl); (case hg => rfl); (case hr => exact z11); intro gb458 hg w83 hbox hb; replace HO457 := Aside0.mk (Kd.R_below (bR HO457) hb); have BK458 := Aside0.mk (hbox); have GW458 := Aside0.mk ((z18 : w.heap.size ≤ gb458)); have GE458 := Aside0.mk ((z18 : w.heap.size ≤ gb458)); replace HB := Aside0.mk (below_step bB hb); clear hb hbox hg; have hcz84_0 : w83.cell? ⟨gb458, 0, none⟩ = some (.int .i64 0) := (blk_cell BK458.out 0).trans rfl; have hcz84_1 : w83.cell? ⟨gb458, 1, none⟩ = some (.slice none 0 0) := (blk_cell BK458.out 1).trans rfl; have hfz84_0 := blk_frozen BK458.out 0; have hfz84_1 := blk_frozen BK458.out 1; obtain ⟨Ao85, co85, eo85⟩ := Kd.R_slice HO457.out; subst eo85) | ((with_reducible refine gate_callee (f := 18) rfl ?_); refine goesL_ (some 14) rfl rfl Tryd.func18 (by kernel_rfl) rfl #[.string a0] rfl bM ?_; (with_reducible refine (impl_DecodeWords.calls k a0 t459 t460 _ ?sidem A4.out).mono ?_); (case sidem => exact z16); rintro e w86 ⟨v461, rfl, ho0, hb⟩; refine ⟨_, rfl, ?_⟩; have HO462 := Aside0.mk (Kd.R_lower (Kd.R_new' ho0 (Kd.R_lt (by (with_reducible repeat (first | apply Kd.R_alloc | apply Kd.R_drewN | apply Kd.R_drew)); exact (Kd.R_mono (Kd.R_far (p := ⟨gb458, 1, none⟩) (Kd.R_far (p := ⟨gb458, 0, none⟩) (Kd.R_types HO457.out BK458.out (by decide)) (fun _ hk => hk.2) (.int .i64 t454)) (fun _ hk => hk.2) (.slice Ao85 t455.length co85)) (fun _ h_ => h_.1))))) (below_size (bG GE458))); replace HO457 := Aside0.mk (Kd.R_elder' (by (with_reducible repeat (first | apply Kd.R_alloc | apply Kd.R_drewN | apply Kd.R_drew)); exact (Kd.R_mono (Kd.R_far (p := ⟨gb458, 1, none⟩) (Kd.R_far (p := ⟨gb458, 0, none⟩) (Kd.R_types HO457.out BK458.out (by decide)) (fun _ hk => hk.2) (.int .i64 t454)) (fun _ hk => hk.2) (.slice Ao85 t455.length co85)) (fun _ h_ => h_.1))) (Kd.R_base ho0) hb); replace BK458 := Aside0.mk (blk_below (g := gb458) (o := .cells #[.int .i64 t454, .slice Ao85 t455.length co85] 39 (0, 0)) (z13 BK458.out) hb); replace HB := Aside0.mk (below_step (bG GE458) hb); (try clear ho0)) | ((with_reducible refine gate_dst (N := 4) rfl ?_); refine box_event ?hg (N := 4) ?hd (cs := #[.int .i64 0, .slice none 0 0]) (t := 39) ?hr ?_; (case hd => rfl); (case hg => rfl); (case hr => exact z11); intro gb463 hg w87 hbox hb; replace HO457 := Aside0.mk (Kd.R_below (bR HO457) hb); replace HO462 := Aside0.mk (Kd.R_below (bR HO462) hb); have BK463 := Aside0.mk (hbox); have GW463 := Aside0.mk ((z55 : w.heap.size ≤ gb463)); have GE463 := Aside0.mk ((z55 : w.heap.size ≤ gb463)); replace HB := Aside0.mk (below_step (bG GE458) hb); have NB458_463 := Aside0.mk ((by rw [hg]; exact Nat.ne_of_lt (blk_lt (g := gb458) (o := .cells #[.int .i64 t454, .slice Ao85 t455.length co85] 39 (0, 0)) (bL BK458)) : gb458 ≠ gb463)); have NB463_458 := Aside0.mk ((by rw [hg]; exact Nat.ne_of_gt (blk_lt (g := gb458) (o := .cells #[.int .i64 t454, .slice Ao85 t455.length co85] 39 (0, 0)) (bL BK458)) : gb463 ≠ gb458)); replace BK458 := Aside0.mk (blk_below (g := gb458) (o := .cells #[.int .i64 t454, .slice Ao85 t455.length co85] 39 (0, 0)) (bL BK458) hb); clear hb hbox hg; have hnb88 := NB463_458.out; have hnc88 := NB458_463.out; have hcz89_0 : w87.cell? ⟨gb463, 0, none⟩ = some (.int .i64 0) := (blk_cell BK463.out 0).trans rfl; have hcz89_1 : w87.cell? ⟨gb463, 1, none⟩ = some (.slice none 0 0) := (blk_cell BK463.out 1).trans rfl; have hfz89_0 := blk_frozen BK463.out 0; have hfz89_1 := blk_frozen BK463.out 1; obtain ⟨Ao90, co90, eo90⟩ := Kd.R_slice HO462.out; subst eo90; have hcz91_0 : w87.cell? ⟨gb458, 0, none⟩ = some (.int .i64 t454) := (blk_cell BK458.out 0).trans rfl; have hcz91_1 : w87.cell? ⟨gb458, 1, none⟩ = some (.slice Ao85 t455.length co85) := (blk_cell BK458.out 1).trans rfl; have hfz91_0 := blk_frozen BK458.out 0; have hfz91_1 := blk_frozen BK458.out 1) | ((with_reducible refine gate_callee (f := 19) rfl ?_); refine goesL_ (some 17) rfl rfl Tryd.func19 (by kernel_rfl) rfl #[.agg #[.int .i64 t459, .slice Ao90 t460.length co90], .agg #[.int .i64 t454, .slice Ao85 t455.length co85]] rfl bM ?_; (with_reducible refine (laws_eqCodesResult.calls k t459 _ _ t460 t454 _ _ t455 true _ ?side1 ?side2 ?side3 ?side4 A5.out).mono ?_); (case side1 => refine (Kd.R_reads' (e := 2) (base := w.heap.size) (ok := fun k_ => (True ∧ some k_ ≠ (.slice Ao85 t455.length co85 : Value).ownBlock)) (n := t460.length) (c := co90) ?_).2.2; exact (z41 HO462.out BK463.out)); (case side2 => exact (Kd.R_reads' HO462.out).2.1); (case side3 => refine (Kd.R_reads' (e := 2) (base := w.heap.size) (ok := fun k_ => (True ∧ some k_ ≠ (.slice Ao90 t460.length co90 : Value).ownBlock)) (n := t455.length) (c := co85) ?_).2.2; exact (z41 HO457.out BK463.out)); (case side4 => exact (Kd.R_reads' HO457.out).2.1); rintro e w92 ⟨rfl, hb⟩; refine ⟨_, rfl, ?_⟩; replace HO457 := Aside0.mk (Kd.R_below (z41 HO457.out BK463.out) hb); replace HO462 := Aside0.mk (Kd.R_below (z41 HO462.out BK463.out) hb); replace BK458 := Aside0.mk (blk_below (g := gb458) (o := .cells #[.int .i64 t454, .slice Ao85 t455.length co85] 39 (0, 0)) (z1 NB458_463.out BK458.out) hb); replace BK463 := Aside0.mk (blk_below (g := gb463) (o := .cells #[.int .i64 t459, .slice Ao90 t460.length co90] 39 (0, 0)) (z12 BK463.out) hb); replace HB := Aside0.mk (below_step (bG2 GE458 GE463) hb); have hcz93_0 : w92.cell? ⟨gb463, 0, none⟩ = some (.int .i64 t459) := (blk_cell BK463.out 0).trans rfl; have hcz93_1 : w92.cell? ⟨gb463, 1, none⟩ = some (.slice Ao90 t460.length co90) := (blk_cell BK463.out 1).trans rfl; have hfz93_0 := blk_frozen BK463.out 0; have hfz93_1 := blk_frozen BK463.out 1) | ((with_reducible refine gate_callee (f := 20) rfl ?_); refine goesL_ (some 21) rfl rfl Tryd.func20 (by kernel_rfl) rfl #[.agg #[.int .i64 t459, .slice Ao90 t460.length co90], .int .i64 1] rfl bM ?_; (with_reducible refine (laws_markCodesResult.calls k t459 (fun k_ => some k_ = (.slice Ao90 t460.length co90 : Value).ownBlock) (.slice Ao90 t460.length co90) t460 1 t465 t466 w _ ?side1 ?side2 A7.out).mono ?_); (case side1 => exact z46 GE458.out GE463.out); (case side2 => exact Kd.R_tight rfl HO462.out); rintro e w94 ⟨rfl, hy0, hb, hkp⟩; refine ⟨_, rfl, ?_⟩; replace HO457 := Aside0.mk (Kd.R_mono (ok' := fun k_ => some k_ ≠ (.slice Ao90 t460.length co90 : Value).ownBlock) (Kd.R_keptB (HO457.out) hkp (fun k_ hk_ hs_ => (hk_.2) hs_)) (fun k_ hk_ => hk_.1.2)); replace BK458 := Aside0.mk (blk_kept (bL BK458) hkp (fun hs_ => (fun e_ => (Kd.R_ne HO462.out BK458.out (by decide)) e_) hs_)); replace BK463 := Aside0.mk (blk_kept (bL BK463) hkp (fun hs_ => (fun e_ => (Kd.R_ne HO462.out BK463.out (by decide)) e_) hs_)); replace HO462 := Aside0.mk (Kd.R_reok rfl hy0 (fun k_ e_ => HO462.out.1 k_ e_)); replace HB := Aside0.mk (hb); (try clear hkp); (try clear hy0); have hcz95_0 : w94.cell? ⟨gb463, 0, none⟩ = some (.int .i64 t459) := (blk_cell BK463.out 0).trans rfl; have hcz95_1 : w94.cell? ⟨gb463, 1, none⟩ = some (.slice Ao90 t460.length co90) := (blk_cell BK463.out 1).trans rfl; have hfz95_0 := blk_frozen BK463.out 0; have hfz95_1 := blk_frozen BK463.out 1) | ((with_reducible refine gate_callee (f := 21) rfl ?_); refine goesL_ (some 24) rfl rfl Tryd.func21 (by kernel_rfl) rfl #[.agg #[.int .i64 t459, .slice Ao90 t466.length co90], .int .i64 1] rfl (z19 HO462.out) ?_; (with_reducible refine (laws_heldCodesResult.calls k t459 _ _ t466 1 t467 _ ?side1 ?side2 A8.out).mono ?_); (case side1 => exact z3 HO462.out); (case side2 => exact z50 HO462.out); rintro e w96 ⟨rfl, hb⟩; refine ⟨_, rfl, ?_⟩; replace HO457 := Aside0.mk (Kd.R_below (bR HO457) hb); replace HO462 := Aside0.mk (Kd.R_below (bR HO462) hb); replace BK458 := Aside0.mk (blk_below (g := gb458) (o := .cells #[.int .i64 t454, .slice Ao85 t455.length co85] 39 (0, 0)) (bL BK458) hb); replace BK463 := Aside0.mk (blk_below (g := gb463) (o := .cells #[.int .i64 t459, .slice Ao90 t460.length co90] 39 (0, 0)) (bL BK463) hb); replace HB := Aside0.mk (below_step (bG2 GE458 GE463) hb); (try clear hi)) | ((with_reducible refine gate_callee (f := 18) rfl ?_); refine goesL_ (some 31) rfl rfl Tryd.func18 (by kernel_rfl) rfl #[.string a0] rfl bM ?_; (with_reducible refine (impl_DecodeWords.calls k a0 t468 t469 _ ?sidem A26.out).mono ?_); (case sidem => exact z16); rintro e w97 ⟨v470, rfl, ho0, hb⟩; refine ⟨_, rfl, ?_⟩; have HO471 := Aside0.mk (Kd.R_lower (Kd.R_new' (Kd.R_new' ho0 (Kd.R_lt (bR HO457))) (Kd.R_lt (bR HO462))) (below_size (bG2 GE458 GE463))); replace HO457 := Aside0.mk (Kd.R_elder' (bR HO457) (Kd.R_base ho0) hb); replace HO462 := Aside0.mk (Kd.R_elder' (bR HO462) (Kd.R_base ho0) hb); replace BK458 := Aside0.mk (blk_below (g := gb458) (o := .cells #[.int .i64 t454, .slice Ao85 t455.length co85] 39 (0, 0)) (bL BK458) hb); replace BK463 := Aside0.mk (blk_below (g := gb463) (o := .cells #[.int .i64 t459, .slice Ao90 t460.length co90] 39 (0, 0)) (bL BK463) hb); replace HB := Aside0.mk (below_step (bG2 GE458 GE463) hb); (try clear ho0)) | ((with_reducible refine gate_dst (N := 7) rfl ?_); refine box_event ?hg (N := 7) ?hd (cs := #[.int .i64 0, .slice none 0 0]) (t := 39) ?hr ?_; (case hd => rfl); (case hg => rfl); (case hr => exact z11); intro gb472 hg w98 hbox hb; replace HO457 := Aside0.mk (Kd.R_below (bR HO457) hb); replace HO462 := Aside0.mk (Kd.R_below (bR HO462) hb); replace HO471 := Aside0.mk (Kd.R_below (bR HO471) hb); have BK472 := Aside0.mk (hbox); have GW472 := Aside0.mk ((z71 : w.heap.size ≤ gb472)); have GE472 := Aside0.mk ((z71 : w.heap.size ≤ gb472)); replace HB := Aside0.mk (below_step (bG2 GE458 GE463) hb); have NB458_472 := Aside0.mk ((by rw [hg]; exact Nat.ne_of_lt (blk_lt (g := gb458) (o := .cells #[.int .i64 t454, .slice Ao85 t455.length co85] 39 (0, 0)) (bL BK458)) : gb458 ≠ gb472)); have NB472_458 := Aside0.mk ((by rw [hg]; exact Nat.ne_of_gt (blk_lt (g := gb458) (o := .cells #[.int .i64 t454, .slice Ao85 t455.length co85] 39 (0, 0)) (bL BK458)) : gb472 ≠ gb458)); replace BK458 := Aside0.mk (blk_below (g := gb458) (o := .cells #[.int .i64 t454, .slice Ao85 t455.length co85] 39 (0, 0)) (bL BK458) hb); have NB463_472 := Aside0.mk ((by rw [hg]; exact Nat.ne_of_lt (blk_lt (g := gb463) (o := .cells #[.int .i64 t459, .slice Ao90 t460.length co90] 39 (0, 0)) (bL BK463)) : gb463 ≠ gb472)); have NB472_463 := Aside0.mk ((by rw [hg]; exact Nat.ne_of_gt (blk_lt (g := gb463) (o := .cells #[.int .i64 t459, .slice Ao90 t460.length co90] 39 (0, 0)) (bL BK463)) : gb472 ≠ gb463)); replace BK463 := Aside0.mk (blk_below (g := gb463) (o := .cells #[.int .i64 t459, .slice Ao90 t460.length co90] 39 (0, 0)) (bL BK463) hb); clear hb hbox hg; have hnb99 := NB472_458.out; have hnc99 := NB458_472.out; have hnb100 := NB472_463.out; have hnc100 := NB463_472.out; have hcz101_0 : w98.cell? ⟨gb472, 0, none⟩ = some (.int .i64 0) := (blk_cell BK472.out 0).trans rfl; have hcz101_1 : w98.cell? ⟨gb472, 1, none⟩ = some (.slice none 0 0) := (blk_cell BK472.out 1).trans rfl; have hfz101_0 := blk_frozen BK472.out 0; have hfz101_1 := blk_frozen BK472.out 1; obtain ⟨Ao102, co102, eo102⟩ := Kd.R_slice HO471.out; subst eo102; have hcz103_0 : w98.cell? ⟨gb458, 0, none⟩ = some (.int .i64 t454) := (blk_cell BK458.out 0).trans rfl; have hcz103_1 : w98.cell? ⟨gb458, 1, none⟩ = some (.slice Ao85 t455.length co85) := (blk_cell BK458.out 1).trans rfl; have hfz103_0 := blk_frozen BK458.out 0; have hfz103_1 := blk_frozen BK458.out 1) | ((with_reducible refine gate_callee (f := 19) rfl ?_); refine goesL_ (some 34) rfl rfl Tryd.func19 (by kernel_rfl) rfl #[.agg #[.int .i64 t468, .slice Ao102 t469.length co102], .agg #[.int .i64 t454, .slice Ao85 t455.length co85]] rfl bM ?_; (with_reducible refine (laws_eqCodesResult.calls k t468 _ _ t469 t454 _ _ t455 true _ ?side1 ?side2 ?side3 ?side4 A27.out).mono ?_); (case side1 => refine (Kd.R_reads' (e := 2) (base := w.heap.size) (ok := fun k_ => ((True ∧ some k_ ≠ (.slice Ao85 t455.length co85 : Value).ownBlock) ∧ some k_ ≠ (.slice Ao90 t460.length co90 : Value).ownBlock)) (n := t469.length) (c := co102) ?_).2.2; exact (z27 HO471.out BK472.out)); (case side2 => exact (Kd.R_reads' HO471.out).2.1); (case side3 => refine (Kd.R_reads' (e := 2) (base := w.heap.size) (ok := fun k_ => (some k_ ≠ (.slice Ao90 t460.length co90 : Value).ownBlock ∧ some k_ ≠ (.slice Ao102 t469.length co102 : Value).ownBlock)) (n := t455.length) (c := co85) ?_).2.2; exact (z27 HO457.out BK472.out)); (case side4 => exact (Kd.R_reads' HO457.out).2.1); rintro e w104 ⟨rfl, hb⟩; refine ⟨_, rfl, ?_⟩; replace HO457 := Aside0.mk (Kd.R_below (z27 HO457.out BK472.out) hb); replace HO462 := Aside0.mk (Kd.R_below (z27 HO462.out BK472.out) hb); replace HO471 := Aside0.mk (Kd.R_below (z27 HO471.out BK472.out) hb); replace BK458 := Aside0.mk (blk_below (g := gb458) (o := .cells #[.int .i64 t454, .slice Ao85 t455.length co85] 39 (0, 0)) (z1 NB458_472.out BK458.out) hb); replace BK463 := Aside0.mk (blk_below (g := gb463) (o := .cells #[.int .i64 t459, .slice Ao90 t460.length co90] 39 (0, 0)) (z1 NB463_472.out BK463.out) hb); replace BK472 := Aside0.mk (blk_below (g := gb472) (o := .cells #[.int .i64 t468, .slice Ao102 t469.length co102] 39 (0, 0)) (z21 BK472.out) hb); replace HB := Aside0.mk (below_step (z17 GE458.out GE463.out GE472.out) hb); have hcz105_0 : w104.cell? ⟨gb463, 0, none⟩ = some (.int .i64 t459) := (blk_cell BK463.out 0).trans rfl; have hcz105_1 : w104.cell? ⟨gb463, 1, none⟩ = some (.slice Ao90 t460.length co90) := (blk_cell BK463.out 1).trans rfl; have hfz105_0 := blk_frozen BK463.out 0; have hfz105_1 := blk_frozen BK463.out 1) | ((with_reducible refine gate_callee (f := 21) rfl ?_); refine goesL_ (some 38) rfl rfl Tryd.func21 (by kernel_rfl) rfl #[.agg #[.int .i64 t459, .slice Ao90 t466.length co90], .int .i64 1] rfl (z19 HO462.out) ?_; (with_reducible refine (laws_heldCodesResult.calls k t459 _ _ t466 1 t474 _ ?side1 ?side2 A29.out).mono ?_); (case side1 => exact z3 HO462.out); (case side2 => exact z50 HO462.out); rintro e w106 ⟨rfl, hb⟩; refine ⟨_, rfl, ?_⟩; replace HO457 := Aside0.mk (Kd.R_below (bR HO457) hb); replace HO462 := Aside0.mk (Kd.R_below (bR HO462) hb); replace HO471 := Aside0.mk (Kd.R_below (bR HO471) hb); replace BK458 := Aside0.mk (blk_below (g := gb458) (o := .cells #[.int .i64 t454, .slice Ao85 t455.length co85] 39 (0, 0)) (bL BK458) hb); replace BK463 := Aside0.mk (blk_below (g := gb463) (o := .cells #[.int .i64 t459, .slice Ao90 t460.length co90] 39 (0, 0)) (bL BK463) hb); replace BK472 := Aside0.mk (blk_below (g := gb472) (o := .cells #[.int .i64 t468, .slice Ao102 t469.length co102] 39 (0, 0)) (bL BK472) hb); replace HB := Aside0.mk (below_step (z17 GE458.out GE463.out GE472.out) hb); (try clear hi)))
        go_ret
        exact ⟨bE, z17 GE458.out GE463.out GE472.out⟩
     ·replace c28 := Bool.eq_false_iff.mpr c28
      subst c28
      have H1 : (some false) = some r := z14
      clear H
      have H := H1
      clear H1
      obtain rfl := Option.some.inj H
      go_wp2_with (first | ((with_reducible refine gate_callee (f := 17) rfl ?_); refine goesL_ (some 12) rfl rfl Tryd.func17 (by kernel_rfl) rfl #[.string a0] rfl bM ?_; (with_reducible refine (spec_DecodeWords.calls k a0 t454 t455 _ A3.out).mono ?_); rintro e w107 ⟨v456, rfl, ho0, hb⟩; refine ⟨_, rfl, ?_⟩; have HO457 := Aside0.mk (Kd.R_lower ho0 (below_size bB)); replace HB := Aside0.mk (below_step bB hb); (try clear ho0)) | ((with_reducible refine gate_dst (N := 3) rfl ?_); refine box_event ?hg (N := 3) ?hd (cs := #[.int .i64 0, .slice none 0 0]) (t := 39) ?hr ?_; (case hd => rfl); (case hg => rfl); (case hr => exact z11); intro gb458 hg w108 hbox hb; replace HO457 := Aside0.mk (Kd.R_below (bR HO457) hb); have BK458 := Aside0.mk (hbox); have GW458 := Aside0.mk ((z18 : w.heap.size ≤ gb458)); have GE458 := Aside0.mk ((z18 : w.heap.size ≤ gb458)); replace HB := Aside0.mk (below_step bB hb); clear hb hbox hg; have hcz109_0 : w108.cell? ⟨gb458, 0, none⟩ = some (.int .i64 0) := (blk_cell BK458.out 0).trans rfl; have hcz109_1 : w108.cell? ⟨gb458, 1, none⟩ = some (.slice none 0 0) := (blk_cell BK458.out 1).trans rfl; have hfz109_0 := blk_frozen BK458.out 0; have hfz109_1 := blk_frozen BK458.out 1; obtain ⟨Ao110, co110, eo110⟩ := Kd.R_slice HO457.out; subst eo110) | ((with_reducible refine gate_callee (f := 18) rfl ?_); refine goesL_ (some 14) rfl rfl Tryd.func18 (by kernel_rfl) rfl #[.string a0] rfl bM ?_; (with_reducible refine (impl_DecodeWords.calls k a0 t459 t460 _ ?sidem A4.out).mono ?_); (case sidem => exact z16); rintro e w111 ⟨v461, rfl, ho0, hb⟩; refine ⟨_, rfl, ?_⟩; have HO462 := Aside0.mk (Kd.R_lower (Kd.R_new' ho0 (Kd.R_lt (by (with_reducible repeat (first | apply Kd.R_alloc | apply Kd.R_drewN | apply Kd.R_drew)); exact (Kd.R_mono (Kd.R_far (p := ⟨gb458, 1, none⟩) (Kd.R_far (p := ⟨gb458, 0, none⟩) (Kd.R_types HO457.out BK458.out (by decide)) (fun _ hk => hk.2) (.int .i64 t454)) (fun _ hk => hk.2) (.slice Ao110 t455.length co110)) (fun _ h_ => h_.1))))) (below_size (bG GE458))); replace HO457 := Aside0.mk (Kd.R_elder' (by (with_reducible repeat (first | apply Kd.R_alloc | apply Kd.R_drewN | apply Kd.R_drew)); exact (Kd.R_mono (Kd.R_far (p := ⟨gb458, 1, none⟩) (Kd.R_far (p := ⟨gb458, 0, none⟩) (Kd.R_types HO457.out BK458.out (by decide)) (fun _ hk => hk.2) (.int .i64 t454)) (fun _ hk => hk.2) (.slice Ao110 t455.length co110)) (fun _ h_ => h_.1))) (Kd.R_base ho0) hb); replace BK458 := Aside0.mk (blk_below (g := gb458) (o := .cells #[.int .i64 t454, .slice Ao110 t455.length co110] 39 (0, 0)) (z13 BK458.out) hb); replace HB := Aside0.mk (below_step (bG GE458) hb); (try clear ho0)) | ((with_reducible refine gate_dst (N := 4) rfl ?_); refine box_event ?hg (N := 4) ?hd (cs := #[.int .i64 0, .slice none 0 0]) (t := 39) ?hr ?_; (case hd => rfl); (case hg => rfl); (case hr => exact z11); intro gb463 hg w112 hbox hb; replace HO457 := Aside0.mk (Kd.R_below (bR HO457) hb); replace HO462 := Aside0.mk (Kd.R_below (bR HO462) hb); have BK463 := Aside0.mk (hbox); have GW463 := Aside0.mk ((z55 : w.heap.size ≤ gb463)); have GE463 := Aside0.mk ((z55 : w.heap.size ≤ gb463)); replace HB := Aside0.mk (below_step (bG GE458) hb); have NB458_463 := Aside0.mk ((by rw [hg]; exact Nat.ne_of_lt (blk_lt (g := gb458) (o := .cells #[.int .i64 t454, .slice Ao110 t455.length co110] 39 (0, 0)) (bL BK458)) : gb458 ≠ gb463)); have NB463_458 := Aside0.mk ((by rw [hg]; exact Nat.ne_of_gt (blk_lt (g := gb458) (o := .cells #[.int .i64 t454, .slice Ao110 t455.length co110] 39 (0, 0)) (bL BK458)) : gb463 ≠ gb458)); replace BK458 := Aside0.mk (blk_below (g := gb458) (o := .cells #[.int .i64 t454, .slice Ao110 t455.length co110] 39 (0, 0)) (bL BK458) hb); clear hb hbox hg; have hnb113 := NB463_458.out; have hnc113 := NB458_463.out; have hcz114_0 : w112.cell? ⟨gb463, 0, none⟩ = some (.int .i64 0) := (blk_cell BK463.out 0).trans rfl; have hcz114_1 : w112.cell? ⟨gb463, 1, none⟩ = some (.slice none 0 0) := (blk_cell BK463.out 1).trans rfl; have hfz114_0 := blk_frozen BK463.out 0; have hfz114_1 := blk_frozen BK463.out 1; obtain ⟨Ao115, co115, eo115⟩ := Kd.R_slice HO462.out; subst eo115; have hcz116_0 : w112.cell? ⟨gb458, 0, none⟩ = some (.int .i64 t454) := (blk_cell BK458.out 0).trans rfl; have hcz116_1 : w112.cell? ⟨gb458, 1, none⟩ = some (.slice Ao110 t455.length co110) := (blk_cell BK458.out 1).trans rfl; have hfz116_0 := blk_frozen BK458.out 0; have hfz116_1 := blk_frozen BK458.out 1) | ((with_reducible refine gate_callee (f := 19) rfl ?_); refine goesL_ (some 17) rfl rfl Tryd.func19 (by kernel_rfl) rfl #[.agg #[.int .i64 t459, .slice Ao115 t460.length co115], .agg #[.int .i64 t454, .slice Ao110 t455.length co110]] rfl bM ?_; (with_reducible refine (laws_eqCodesResult.calls k t459 _ _ t460 t454 _ _ t455 true _ ?side1 ?side2 ?side3 ?side4 A5.out).mono ?_); (case side1 => refine (Kd.R_reads' (e := 2) (base := w.heap.size) (ok := fun k_ => (True ∧ some k_ ≠ (.slice Ao110 t455.length co110 : Value).ownBlock)) (n := t460.length) (c := co115) ?_).2.2; exact (z39 HO462.out BK463.out)); (case side2 => exact (Kd.R_reads' HO462.out).2.1); (case side3 => refine (Kd.R_reads' (e := 2) (base := w.heap.size) (ok := fun k_ => (True ∧ some k_ ≠ (.slice Ao115 t460.length co115 : Value).ownBlock)) (n := t455.length) (c := co110) ?_).2.2; exact (z39 HO457.out BK463.out)); (case side4 => exact (Kd.R_reads' HO457.out).2.1); rintro e w117 ⟨rfl, hb⟩; refine ⟨_, rfl, ?_⟩; replace HO457 := Aside0.mk (Kd.R_below (z39 HO457.out BK463.out) hb); replace HO462 := Aside0.mk (Kd.R_below (z39 HO462.out BK463.out) hb); replace BK458 := Aside0.mk (blk_below (g := gb458) (o := .cells #[.int .i64 t454, .slice Ao110 t455.length co110] 39 (0, 0)) (z1 NB458_463.out BK458.out) hb); replace BK463 := Aside0.mk (blk_below (g := gb463) (o := .cells #[.int .i64 t459, .slice Ao115 t460.length co115] 39 (0, 0)) (z12 BK463.out) hb); replace HB := Aside0.mk (below_step (bG2 GE458 GE463) hb); have hcz118_0 : w117.cell? ⟨gb463, 0, none⟩ = some (.int .i64 t459) := (blk_cell BK463.out 0).trans rfl; have hcz118_1 : w117.cell? ⟨gb463, 1, none⟩ = some (.slice Ao115 t460.length co115) := (blk_cell BK463.out 1).trans rfl; have hfz118_0 := blk_frozen BK463.out 0; have hfz118_1 := blk_frozen BK463.out 1) | ((with_reducible refine gate_callee (f := 20) rfl ?_); refine goesL_ (some 21) rfl rfl Tryd.func20 (by kernel_rfl) rfl #[.agg #[.int .i64 t459, .slice Ao115 t460.length co115], .int .i64 1] rfl bM ?_; (with_reducible refine (laws_markCodesResult.calls k t459 (fun k_ => some k_ = (.slice Ao115 t460.length co115 : Value).ownBlock) (.slice Ao115 t460.length co115) t460 1 t465 t466 w _ ?side1 ?side2 A7.out).mono ?_); (case side1 => exact z46 GE458.out GE463.out); (case side2 => exact Kd.R_tight rfl HO462.out); rintro e w119 ⟨rfl, hy0, hb, hkp⟩; refine ⟨_, rfl, ?_⟩; replace HO457 := Aside0.mk (Kd.R_mono (ok' := fun k_ => some k_ ≠ (.slice Ao115 t460.length co115 : Value).ownBlock) (Kd.R_keptB (HO457.out) hkp (fun k_ hk_ hs_ => (hk_.2) hs_)) (fun k_ hk_ => hk_.1.2)); replace BK458 := Aside0.mk (blk_kept (bL BK458) hkp (fun hs_ => (fun e_ => (Kd.R_ne HO462.out BK458.out (by decide)) e_) hs_)); replace BK463 := Aside0.mk (blk_kept (bL BK463) hkp (fun hs_ => (fun e_ => (Kd.R_ne HO462.out BK463.out (by decide)) e_) hs_)); replace HO462 := Aside0.mk (Kd.R_reok rfl hy0 (fun k_ e_ => HO462.out.1 k_ e_)); replace HB := Aside0.mk (hb); (try clear hkp); (try clear hy0); have hcz120_0 : w119.cell? ⟨gb463, 0, none⟩ = some (.int .i64 t459) := (blk_cell BK463.out 0).trans rfl; have hcz120_1 : w119.cell? ⟨gb463, 1, none⟩ = some (.slice Ao115 t460.length co115) := (blk_cell BK463.out 1).trans rfl; have hfz120_0 := blk_frozen BK463.out 0; have hfz120_1 := blk_frozen BK463.out 1) | ((with_reducible refine gate_callee (f := 21) rfl ?_); refine goesL_ (some 24) rfl rfl Tryd.func21 (by kernel_rfl) rfl #[.agg #[.int .i64 t459, .slice Ao115 t466.length co115], .int .i64 1] rfl (z19 HO462.out) ?_; (with_reducible refine (laws_heldCodesResult.calls k t459 _ _ t466 1 t467 _ ?side1 ?side2 A8.out).mono ?_); (case side1 => exact z3 HO462.out); (case side2 => exact z50 HO462.out); rintro e w121 ⟨rfl, hb⟩; refine ⟨_, rfl, ?_⟩; replace HO457 := Aside0.mk (Kd.R_below (bR HO457) hb); replace HO462 := Aside0.mk (Kd.R_below (bR HO462) hb); replace BK458 := Aside0.mk (blk_below (g := gb458) (o := .cells #[.int .i64 t454, .slice Ao110 t455.length co110] 39 (0, 0)) (bL BK458) hb); replace BK463 := Aside0.mk (blk_below (g := gb463) (o := .cells #[.int .i64 t459, .slice Ao115 t460.length co115] 39 (0, 0)) (bL BK463) hb); replace HB := Aside0.mk (below_step (bG2 GE458 GE463) hb); (try clear hi)) | ((with_reducible refine gate_callee (f := 18) rfl ?_); refine goesL_ (some 31) rfl rfl Tryd.func18 (by kernel_rfl) rfl #[.string a0] rfl bM ?_; (with_reducible refine (impl_DecodeWords.calls k a0 t468 t469 _ ?sidem A26.out).mono ?_); (case sidem => exact z16); rintro e w122 ⟨v470, rfl, ho0, hb⟩; refine ⟨_, rfl, ?_⟩; have HO471 := Aside0.mk (Kd.R_lower (Kd.R_new' (Kd.R_new' ho0 (Kd.R_lt (bR HO457))) (Kd.R_lt (bR HO462))) (below_size (bG2 GE458 GE463))); replace HO457 := Aside0.mk (Kd.R_elder' (bR HO457) (Kd.R_base ho0) hb); replace HO462 := Aside0.mk (Kd.R_elder' (bR HO462) (Kd.R_base ho0) hb); replace BK458 := Aside0.mk (blk_below (g := gb458) (o := .cells #[.int .i64 t454, .slice Ao110 t455.length co110] 39 (0, 0)) (bL BK458) hb); replace BK463 := Aside0.mk (blk_below (g := gb463) (o := .cells #[.int .i64 t459, .slice Ao115 t460.length co115] 39 (0, 0)) (bL BK463) hb); replace HB := Aside0.mk (below_step (bG2 GE458 GE463) hb); (try clear ho0)) | ((with_reducible refine gate_dst (N := 7) rfl ?_); refine box_event ?hg (N := 7) ?hd (cs := #[.int .i64 0, .slice none 0 0]) (t := 39) ?hr ?_; (case hd => rfl); (case hg => rfl); (case hr => exact z11); intro gb472 hg w123 hbox hb; replace HO457 := Aside0.mk (Kd.R_below (bR HO457) hb); replace HO462 := Aside0.mk (Kd.R_below (bR HO462) hb); replace HO471 := Aside0.mk (Kd.R_below (bR HO471) hb); have BK472 := Aside0.mk (hbox); have GW472 := Aside0.mk ((z71 : w.heap.size ≤ gb472)); have GE472 := Aside0.mk ((z71 : w.heap.size ≤ gb472)); replace HB := Aside0.mk (below_step (bG2 GE458 GE463) hb); have NB458_472 := Aside0.mk ((by rw [hg]; exact Nat.ne_of_lt (blk_lt (g := gb458) (o := .cells #[.int .i64 t454, .slice Ao110 t455.length co110] 39 (0, 0)) (bL BK458)) : gb458 ≠ gb472)); have NB472_458 := Aside0.mk ((by rw [hg]; exact Nat.ne_of_gt (blk_lt (g := gb458) (o := .cells #[.int .i64 t454, .slice Ao110 t455.length co110] 39 (0, 0)) (bL BK458)) : gb472 ≠ gb458)); replace BK458 := Aside0.mk (blk_below (g := gb458) (o := .cells #[.int .i64 t454, .slice Ao110 t455.length co110] 39 (0, 0)) (bL BK458) hb); have NB463_472 := Aside0.mk ((by rw [hg]; exact Nat.ne_of_lt (blk_lt (g := gb463) (o := .cells #[.int .i64 t459, .slice Ao115 t460.length co115] 39 (0, 0)) (bL BK463)) : gb463 ≠ gb472)); have NB472_463 := Aside0.mk ((by rw [hg]; exact Nat.ne_of_gt (blk_lt (g := gb463) (o := .cells #[.int .i64 t459, .slice Ao115 t460.length co115] 39 (0, 0)) (bL BK463)) : gb472 ≠ gb463)); replace BK463 := Aside0.mk (blk_below (g := gb463) (o := .cells #[.int .i64 t459, .slice Ao115 t460.length co115] 39 (0, 0)) (bL BK463) hb); clear hb hbox hg; have hnb124 := NB472_458.out; have hnc124 := NB458_472.out; have hnb125 := NB472_463.out; have hnc125 := NB463_472.out; have hcz126_0 : w123.cell? ⟨gb472, 0, none⟩ = some (.int .i64 0) := (blk_cell BK472.out 0).trans rfl; have hcz126_1 : w123.cell? ⟨gb472, 1, none⟩ = some (.slice none 0 0) := (blk_cell BK472.out 1).trans rfl; have hfz126_0 := blk_frozen BK472.out 0; have hfz126_1 := blk_frozen BK472.out 1; obtain ⟨Ao127, co127, eo127⟩ := Kd.R_slice HO471.out; subst eo127; have hcz128_0 : w123.cell? ⟨gb458, 0, none⟩ = some (.int .i64 t454) := (blk_cell BK458.out 0).trans rfl; have hcz128_1 : w123.cell? ⟨gb458, 1, none⟩ = some (.slice Ao110 t455.length co110) := (blk_cell BK458.out 1).trans rfl; have hfz128_0 := blk_frozen BK458.out 0; have hfz128_1 := blk_frozen BK458.out 1) | ((with_reducible refine gate_callee (f := 19) rfl ?_); refine goesL_ (some 34) rfl rfl Tryd.func19 (by kernel_rfl) rfl #[.agg #[.int .i64 t468, .slice Ao127 t469.length co127], .agg #[.int .i64 t454, .slice Ao110 t455.length co110]] rfl bM ?_; (with_reducible refine (laws_eqCodesResult.calls k t468 _ _ t469 t454 _ _ t455 false _ ?side1 ?side2 ?side3 ?side4 A27.out).mono ?_); (case side1 => refine (Kd.R_reads' (e := 2) (base := w.heap.size) (ok := fun k_ => ((True ∧ some k_ ≠ (.slice Ao110 t455.length co110 : Value).ownBlock) ∧ some k_ ≠ (.slice Ao115 t460.length co115 : Value).ownBlock)) (n := t469.length) (c := co127) ?_).2.2; exact (z26 HO471.out BK472.out)); (case side2 => exact (Kd.R_reads' HO471.out).2.1); (case side3 => refine (Kd.R_reads' (e := 2) (base := w.heap.size) (ok := fun k_ => (some k_ ≠ (.slice Ao115 t460.length co115 : Value).ownBlock ∧ some k_ ≠ (.slice Ao127 t469.length co127 : Value).ownBlock)) (n := t455.length) (c := co110) ?_).2.2; exact (z26 HO457.out BK472.out)); (case side4 => exact (Kd.R_reads' HO457.out).2.1); rintro e w129 ⟨rfl, hb⟩; refine ⟨_, rfl, ?_⟩; replace HO457 := Aside0.mk (Kd.R_below (z26 HO457.out BK472.out) hb); replace HO462 := Aside0.mk (Kd.R_below (z26 HO462.out BK472.out) hb); replace HO471 := Aside0.mk (Kd.R_below (z26 HO471.out BK472.out) hb); replace BK458 := Aside0.mk (blk_below (g := gb458) (o := .cells #[.int .i64 t454, .slice Ao110 t455.length co110] 39 (0, 0)) (z1 NB458_472.out BK458.out) hb); replace BK463 := Aside0.mk (blk_below (g := gb463) (o := .cells #[.int .i64 t459, .slice Ao115 t460.length co115] 39 (0, 0)) (z1 NB463_472.out BK463.out) hb); replace BK472 := Aside0.mk (blk_below (g := gb472) (o := .cells #[.int .i64 t468, .slice Ao127 t469.length co127] 39 (0, 0)) (z21 BK472.out) hb); replace HB := Aside0.mk (below_step (z17 GE458.out GE463.out GE472.out) hb); (try clear hi)))
      go_ret
      exact ⟨bE, z17 GE458.out GE463.out GE472.out⟩
    ·rw [if_neg c25] at H
     have c25b0 : (t467 == t465) = false := beq_eq_false_iff_ne.mpr c25
     have c25b1 : (t467 != t465) = true := bne_iff_ne.mpr c25
     obtain rfl := Option.some.inj H
     (try simp only [c25b0, c25b1])
     go_wp2_with (first | ((with_reducible refine gate_callee (f := 17) rfl ?_); refine goesL_ (some 12) rfl rfl Tryd.func17 (by kernel_rfl) rfl #[.string a0] rfl bM ?_; (with_reducible refine (spec_DecodeWords.calls k a0 t454 t455 _ A3.out).mono ?_); rintro e w130 ⟨v456, rfl, ho0, hb⟩; refine ⟨_, rfl, ?_⟩; have HO457 := Aside0.mk (Kd.R_lower ho0 (below_size bB)); replace HB := Aside0.mk (below_step bB hb); (try clear ho0)) | ((with_reducible refine gate_dst (N := 3) rfl ?_); refine box_event ?hg (N := 3) ?hd (cs := #[.int .i64 0, .slice none 0 0]) (t := 39) ?hr ?_; (case hd => rfl); (case hg => rfl); (case hr => exact z11); intro gb458 hg w131 hbox hb; replace HO457 := Aside0.mk (Kd.R_below (bR HO457) hb); have BK458 := Aside0.mk (hbox); have GW458 := Aside0.mk ((z18 : w.heap.size ≤ gb458)); have GE458 := Aside0.mk ((z18 : w.heap.size ≤ gb458)); replace HB := Aside0.mk (below_step bB hb); clear hb hbox hg; have hcz132_0 : w131.cell? ⟨gb458, 0, none⟩ = some (.int .i64 0) := (blk_cell BK458.out 0).trans rfl; have hcz132_1 : w131.cell? ⟨gb458, 1, none⟩ = some (.slice none 0 0) := (blk_cell BK458.out 1).trans rfl; have hfz132_0 := blk_frozen BK458.out 0; have hfz132_1 := blk_frozen BK458.out 1; obtain ⟨Ao133, co133, eo133⟩ := Kd.R_slice HO457.out; subst eo133) | ((with_reducible refine gate_callee (f := 18) rfl ?_); refine goesL_ (some 14) rfl rfl Tryd.func18 (by kernel_rfl) rfl #[.string a0] rfl bM ?_; (with_reducible refine (impl_DecodeWords.calls k a0 t459 t460 _ ?sidem A4.out).mono ?_); (case sidem => exact z16); rintro e w134 ⟨v461, rfl, ho0, hb⟩; refine ⟨_, rfl, ?_⟩; have HO462 := Aside0.mk (Kd.R_lower (Kd.R_new' ho0 (Kd.R_lt (by (with_reducible repeat (first | apply Kd.R_alloc | apply Kd.R_drewN | apply Kd.R_drew)); exact (Kd.R_mono (Kd.R_far (p := ⟨gb458, 1, none⟩) (Kd.R_far (p := ⟨gb458, 0, none⟩) (Kd.R_types HO457.out BK458.out (by decide)) (fun _ hk => hk.2) (.int .i64 t454)) (fun _ hk => hk.2) (.slice Ao133 t455.length co133)) (fun _ h_ => h_.1))))) (below_size (bG GE458))); replace HO457 := Aside0.mk (Kd.R_elder' (by (with_reducible repeat (first | apply Kd.R_alloc | apply Kd.R_drewN | apply Kd.R_drew)); exact (Kd.R_mono (Kd.R_far (p := ⟨gb458, 1, none⟩) (Kd.R_far (p := ⟨gb458, 0, none⟩) (Kd.R_types HO457.out BK458.out (by decide)) (fun _ hk => hk.2) (.int .i64 t454)) (fun _ hk => hk.2) (.slice Ao133 t455.length co133)) (fun _ h_ => h_.1))) (Kd.R_base ho0) hb); replace BK458 := Aside0.mk (blk_below (g := gb458) (o := .cells #[.int .i64 t454, .slice Ao133 t455.length co133] 39 (0, 0)) (z13 BK458.out) hb); replace HB := Aside0.mk (below_step (bG GE458) hb); (try clear ho0)) | ((with_reducible refine gate_dst (N := 4) rfl ?_); refine box_event ?hg (N := 4) ?hd (cs := #[.int .i64 0, .slice none 0 0]) (t := 39) ?hr ?_; (case hd => rfl); (case hg => rfl); (case hr => exact z11); intro gb463 hg w135 hbox hb; replace HO457 := Aside0.mk (Kd.R_below (bR HO457) hb); replace HO462 := Aside0.mk (Kd.R_below (bR HO462) hb); have BK463 := Aside0.mk (hbox); have GW463 := Aside0.mk ((z55 : w.heap.size ≤ gb463)); have GE463 := Aside0.mk ((z55 : w.heap.size ≤ gb463)); replace HB := Aside0.mk (below_step (bG GE458) hb); have NB458_463 := Aside0.mk ((by rw [hg]; exact Nat.ne_of_lt (blk_lt (g := gb458) (o := .cells #[.int .i64 t454, .slice Ao133 t455.length co133] 39 (0, 0)) (bL BK458)) : gb458 ≠ gb463)); have NB463_458 := Aside0.mk ((by rw [hg]; exact Nat.ne_of_gt (blk_lt (g := gb458) (o := .cells #[.int .i64 t454, .slice Ao133 t455.length co133] 39 (0, 0)) (bL BK458)) : gb463 ≠ gb458)); replace BK458 := Aside0.mk (blk_below (g := gb458) (o := .cells #[.int .i64 t454, .slice Ao133 t455.length co133] 39 (0, 0)) (bL BK458) hb); clear hb hbox hg; have hnb136 := NB463_458.out; have hnc136 := NB458_463.out; have hcz137_0 : w135.cell? ⟨gb463, 0, none⟩ = some (.int .i64 0) := (blk_cell BK463.out 0).trans rfl; have hcz137_1 : w135.cell? ⟨gb463, 1, none⟩ = some (.slice none 0 0) := (blk_cell BK463.out 1).trans rfl; have hfz137_0 := blk_frozen BK463.out 0; have hfz137_1 := blk_frozen BK463.out 1; obtain ⟨Ao138, co138, eo138⟩ := Kd.R_slice HO462.out; subst eo138; have hcz139_0 : w135.cell? ⟨gb458, 0, none⟩ = some (.int .i64 t454) := (blk_cell BK458.out 0).trans rfl; have hcz139_1 : w135.cell? ⟨gb458, 1, none⟩ = some (.slice Ao133 t455.length co133) := (blk_cell BK458.out 1).trans rfl; have hfz139_0 := blk_frozen BK458.out 0; have hfz139_1 := blk_frozen BK458.out 1) | ((with_reducible refine gate_callee (f := 19) rfl ?_); refine goesL_ (some 17) rfl rfl Tryd.func19 (by kernel_rfl) rfl #[.agg #[.int .i64 t459, .slice Ao138 t460.length co138], .agg #[.int .i64 t454, .slice Ao133 t455.length co133]] rfl bM ?_; (with_reducible refine (laws_eqCodesResult.calls k t459 _ _ t460 t454 _ _ t455 true _ ?side1 ?side2 ?side3 ?side4 A5.out).mono ?_); (case side1 => refine (Kd.R_reads' (e := 2) (base := w.heap.size) (ok := fun k_ => (True ∧ some k_ ≠ (.slice Ao133 t455.length co133 : Value).ownBlock)) (n := t460.length) (c := co138) ?_).2.2; exact (z38 HO462.out BK463.out)); (case side2 => exact (Kd.R_reads' HO462.out).2.1); (case side3 => refine (Kd.R_reads' (e := 2) (base := w.heap.size) (ok := fun k_ => (True ∧ some k_ ≠ (.slice Ao138 t460.length co138 : Value).ownBlock)) (n := t455.length) (c := co133) ?_).2.2; exact (z38 HO457.out BK463.out)); (case side4 => exact (Kd.R_reads' HO457.out).2.1); rintro e w140 ⟨rfl, hb⟩; refine ⟨_, rfl, ?_⟩; replace HO457 := Aside0.mk (Kd.R_below (z38 HO457.out BK463.out) hb); replace HO462 := Aside0.mk (Kd.R_below (z38 HO462.out BK463.out) hb); replace BK458 := Aside0.mk (blk_below (g := gb458) (o := .cells #[.int .i64 t454, .slice Ao133 t455.length co133] 39 (0, 0)) (z1 NB458_463.out BK458.out) hb); replace BK463 := Aside0.mk (blk_below (g := gb463) (o := .cells #[.int .i64 t459, .slice Ao138 t460.length co138] 39 (0, 0)) (z12 BK463.out) hb); replace HB := Aside0.mk (below_step (bG2 GE458 GE463) hb); have hcz141_0 : w140.cell? ⟨gb463, 0, none⟩ = some (.int .i64 t459) := (blk_cell BK463.out 0).trans rfl; have hcz141_1 : w140.cell? ⟨gb463, 1, none⟩ = some (.slice Ao138 t460.length co138) := (blk_cell BK463.out 1).trans rfl; have hfz141_0 := blk_frozen BK463.out 0; have hfz141_1 := blk_frozen BK463.out 1) | ((with_reducible refine gate_callee (f := 20) rfl ?_); refine goesL_ (some 21) rfl rfl Tryd.func20 (by kernel_rfl) rfl #[.agg #[.int .i64 t459, .slice Ao138 t460.length co138], .int .i64 1] rfl bM ?_; (with_reducible refine (laws_markCodesResult.calls k t459 (fun k_ => some k_ = (.slice Ao138 t460.length co138 : Value).ownBlock) (.slice Ao138 t460.length co138) t460 1 t465 t466 w _ ?side1 ?side2 A7.out).mono ?_); (case side1 => exact z46 GE458.out GE463.out); (case side2 => exact Kd.R_tight rfl HO462.out); rintro e w142 ⟨rfl, hy0, hb, hkp⟩; refine ⟨_, rfl, ?_⟩; replace HO457 := Aside0.mk (Kd.R_mono (ok' := fun k_ => some k_ ≠ (.slice Ao138 t460.length co138 : Value).ownBlock) (Kd.R_keptB (HO457.out) hkp (fun k_ hk_ hs_ => (hk_.2) hs_)) (fun k_ hk_ => hk_.1.2)); replace BK458 := Aside0.mk (blk_kept (bL BK458) hkp (fun hs_ => (fun e_ => (Kd.R_ne HO462.out BK458.out (by decide)) e_) hs_)); replace BK463 := Aside0.mk (blk_kept (bL BK463) hkp (fun hs_ => (fun e_ => (Kd.R_ne HO462.out BK463.out (by decide)) e_) hs_)); replace HO462 := Aside0.mk (Kd.R_reok rfl hy0 (fun k_ e_ => HO462.out.1 k_ e_)); replace HB := Aside0.mk (hb); (try clear hkp); (try clear hy0); have hcz143_0 : w142.cell? ⟨gb463, 0, none⟩ = some (.int .i64 t459) := (blk_cell BK463.out 0).trans rfl; have hcz143_1 : w142.cell? ⟨gb463, 1, none⟩ = some (.slice Ao138 t460.length co138) := (blk_cell BK463.out 1).trans rfl; have hfz143_0 := blk_frozen BK463.out 0; have hfz143_1 := blk_frozen BK463.out 1) | ((with_reducible refine gate_callee (f := 21) rfl ?_); refine goesL_ (some 24) rfl rfl Tryd.func21 (by kernel_rfl) rfl #[.agg #[.int .i64 t459, .slice Ao138 t466.length co138], .int .i64 1] rfl (z19 HO462.out) ?_; (with_reducible refine (laws_heldCodesResult.calls k t459 _ _ t466 1 t467 _ ?side1 ?side2 A8.out).mono ?_); (case side1 => exact z3 HO462.out); (case side2 => exact z50 HO462.out); rintro e w144 ⟨rfl, hb⟩; refine ⟨_, rfl, ?_⟩; replace HO457 := Aside0.mk (Kd.R_below (bR HO457) hb); replace HO462 := Aside0.mk (Kd.R_below (bR HO462) hb); replace BK458 := Aside0.mk (blk_below (g := gb458) (o := .cells #[.int .i64 t454, .slice Ao133 t455.length co133] 39 (0, 0)) (bL BK458) hb); replace BK463 := Aside0.mk (blk_below (g := gb463) (o := .cells #[.int .i64 t459, .slice Ao138 t460.length co138] 39 (0, 0)) (bL BK463) hb); replace HB := Aside0.mk (below_step (bG2 GE458 GE463) hb); (try clear hi)))
     go_ret
     exact ⟨bE, bG2 GE458 GE463⟩
  ·replace c6 := Bool.eq_false_iff.mpr c6
   subst c6
   have H1 : (some false) = some r := z14
   clear H
   have H := H1
   clear H1
   obtain rfl := Option.some.inj H
   go_wp2_with (first | ((with_reducible refine gate_callee (f := 17) rfl ?_); refine goesL_ (some 12) rfl rfl Tryd.func17 (by kernel_rfl) rfl #[.string a0] rfl bM ?_; (with_reducible refine (spec_DecodeWords.calls k a0 t454 t455 _ A3.out).mono ?_); rintro e w145 ⟨v456, rfl, ho0, hb⟩; refine ⟨_, rfl, ?_⟩; have HO457 := Aside0.mk (Kd.R_lower ho0 (below_size bB)); replace HB := Aside0.mk (below_step bB hb); (try clear ho0)) | ((with_reducible refine gate_dst (N := 3) rfl ?_); refine box_event ?hg (N := 3) ?hd (cs := #[.int .i64 0, .slice none 0 0]) (t := 39) ?hr ?_; (case hd => rfl); (case hg => rfl); (case hr => exact z11); intro gb458 hg w146 hbox hb; replace HO457 := Aside0.mk (Kd.R_below (bR HO457) hb); have BK458 := Aside0.mk (hbox); have GW458 := Aside0.mk ((z18 : w.heap.size ≤ gb458)); have GE458 := Aside0.mk ((z18 : w.heap.size ≤ gb458)); replace HB := Aside0.mk (below_step bB hb); clear hb hbox hg; have hcz147_0 : w146.cell? ⟨gb458, 0, none⟩ = some (.int .i64 0) := (blk_cell BK458.out 0).trans rfl; have hcz147_1 : w146.cell? ⟨gb458, 1, none⟩ = some (.slice none 0 0) := (blk_cell BK458.out 1).trans rfl; have hfz147_0 := blk_frozen BK458.out 0; have hfz147_1 := blk_frozen BK458.out 1; obtain ⟨Ao148, co148, eo148⟩ := Kd.R_slice HO457.out; subst eo148) | ((with_reducible refine gate_callee (f := 18) rfl ?_); refine goesL_ (some 14) rfl rfl Tryd.func18 (by kernel_rfl) rfl #[.string a0] rfl bM ?_; (with_reducible refine (impl_DecodeWords.calls k a0 t459 t460 _ ?sidem A4.out).mono ?_); (case sidem => exact z16); rintro e w149 ⟨v461, rfl, ho0, hb⟩; refine ⟨_, rfl, ?_⟩; have HO462 := Aside0.mk (Kd.R_lower (Kd.R_new' ho0 (Kd.R_lt (by (with_reducible repeat (first | apply Kd.R_alloc | apply Kd.R_drewN | apply Kd.R_drew)); exact (Kd.R_mono (Kd.R_far (p := ⟨gb458, 1, none⟩) (Kd.R_far (p := ⟨gb458, 0, none⟩) (Kd.R_types HO457.out BK458.out (by decide)) (fun _ hk => hk.2) (.int .i64 t454)) (fun _ hk => hk.2) (.slice Ao148 t455.length co148)) (fun _ h_ => h_.1))))) (below_size (bG GE458))); replace HO457 := Aside0.mk (Kd.R_elder' (by (with_reducible repeat (first | apply Kd.R_alloc | apply Kd.R_drewN | apply Kd.R_drew)); exact (Kd.R_mono (Kd.R_far (p := ⟨gb458, 1, none⟩) (Kd.R_far (p := ⟨gb458, 0, none⟩) (Kd.R_types HO457.out BK458.out (by decide)) (fun _ hk => hk.2) (.int .i64 t454)) (fun _ hk => hk.2) (.slice Ao148 t455.length co148)) (fun _ h_ => h_.1))) (Kd.R_base ho0) hb); replace BK458 := Aside0.mk (blk_below (g := gb458) (o := .cells #[.int .i64 t454, .slice Ao148 t455.length co148] 39 (0, 0)) (z13 BK458.out) hb); replace HB := Aside0.mk (below_step (bG GE458) hb); (try clear ho0)) | ((with_reducible refine gate_dst (N := 4) rfl ?_); refine box_event ?hg (N := 4) ?hd (cs := #[.int .i64 0, .slice none 0 0]) (t := 39) ?hr ?_; (case hd => rfl); (case hg => rfl); (case hr => exact z11); intro gb463 hg w150 hbox hb; replace HO457 := Aside0.mk (Kd.R_below (bR HO457) hb); replace HO462 := Aside0.mk (Kd.R_below (bR HO462) hb); have BK463 := Aside0.mk (hbox); have GW463 := Aside0.mk ((z55 : w.heap.size ≤ gb463)); have GE463 := Aside0.mk ((z55 : w.heap.size ≤ gb463)); replace HB := Aside0.mk (below_step (bG GE458) hb); have NB458_463 := Aside0.mk ((by rw [hg]; exact Nat.ne_of_lt (blk_lt (g := gb458) (o := .cells #[.int .i64 t454, .slice Ao148 t455.length co148] 39 (0, 0)) (bL BK458)) : gb458 ≠ gb463)); have NB463_458 := Aside0.mk ((by rw [hg]; exact Nat.ne_of_gt (blk_lt (g := gb458) (o := .cells #[.int .i64 t454, .slice Ao148 t455.length co148] 39 (0, 0)) (bL BK458)) : gb463 ≠ gb458)); replace BK458 := Aside0.mk (blk_below (g := gb458) (o := .cells #[.int .i64 t454, .slice Ao148 t455.length co148] 39 (0, 0)) (bL BK458) hb); clear hb hbox hg; have hnb151 := NB463_458.out; have hnc151 := NB458_463.out; have hcz152_0 : w150.cell? ⟨gb463, 0, none⟩ = some (.int .i64 0) := (blk_cell BK463.out 0).trans rfl; have hcz152_1 : w150.cell? ⟨gb463, 1, none⟩ = some (.slice none 0 0) := (blk_cell BK463.out 1).trans rfl; have hfz152_0 := blk_frozen BK463.out 0; have hfz152_1 := blk_frozen BK463.out 1; obtain ⟨Ao153, co153, eo153⟩ := Kd.R_slice HO462.out; subst eo153; have hcz154_0 : w150.cell? ⟨gb458, 0, none⟩ = some (.int .i64 t454) := (blk_cell BK458.out 0).trans rfl; have hcz154_1 : w150.cell? ⟨gb458, 1, none⟩ = some (.slice Ao148 t455.length co148) := (blk_cell BK458.out 1).trans rfl; have hfz154_0 := blk_frozen BK458.out 0; have hfz154_1 := blk_frozen BK458.out 1) | ((with_reducible refine gate_callee (f := 19) rfl ?_); refine goesL_ (some 17) rfl rfl Tryd.func19 (by kernel_rfl) rfl #[.agg #[.int .i64 t459, .slice Ao153 t460.length co153], .agg #[.int .i64 t454, .slice Ao148 t455.length co148]] rfl bM ?_; (with_reducible refine (laws_eqCodesResult.calls k t459 _ _ t460 t454 _ _ t455 false _ ?side1 ?side2 ?side3 ?side4 A5.out).mono ?_); (case side1 => refine (Kd.R_reads' (e := 2) (base := w.heap.size) (ok := fun k_ => (True ∧ some k_ ≠ (.slice Ao148 t455.length co148 : Value).ownBlock)) (n := t460.length) (c := co153) ?_).2.2; exact (z40 HO462.out BK463.out)); (case side2 => exact (Kd.R_reads' HO462.out).2.1); (case side3 => refine (Kd.R_reads' (e := 2) (base := w.heap.size) (ok := fun k_ => (True ∧ some k_ ≠ (.slice Ao153 t460.length co153 : Value).ownBlock)) (n := t455.length) (c := co148) ?_).2.2; exact (z40 HO457.out BK463.out)); (case side4 => exact (Kd.R_reads' HO457.out).2.1); rintro e w155 ⟨rfl, hb⟩; refine ⟨_, rfl, ?_⟩; replace HO457 := Aside0.mk (Kd.R_below (z40 HO457.out BK463.out) hb); replace HO462 := Aside0.mk (Kd.R_below (z40 HO462.out BK463.out) hb); replace BK458 := Aside0.mk (blk_below (g := gb458) (o := .cells #[.int .i64 t454, .slice Ao148 t455.length co148] 39 (0, 0)) (z1 NB458_463.out BK458.out) hb); replace BK463 := Aside0.mk (blk_below (g := gb463) (o := .cells #[.int .i64 t459, .slice Ao153 t460.length co153] 39 (0, 0)) (z12 BK463.out) hb); replace HB := Aside0.mk (below_step (bG2 GE458 GE463) hb); (try clear hi)))
   go_ret
   exact ⟨bE, bG2 GE458 GE463⟩
def laws_FnExactDecodeWords.Pure : Prop := ∀ (a0 : ByteArray), a0.size ≤ 140737488351232 → ∃ k, laws_FnExactDecodeWords.f k a0 = some true
theorem laws_FnExactDecodeWords.walk (P : laws_FnExactDecodeWords.Pure) (a0 : ByteArray) (w : World) (hm_ : ∃ m, w.cell? ⟨0, 0, none⟩ = some (.int .i64 m)) (w0 : a0.size ≤ 140737488351232) :
  Calls Tryd.prog 4 #[.string a0] w fun e w' => e = .returned (.bool true) ∧ Below w.heap.size w w' := by
 obtain ⟨k, h⟩ := P a0 w0
 refine (laws_FnExactDecodeWords.calls k a0 true w hm_ h).mono ?_
 rintro e w' ⟨rfl, hd⟩
 exact ⟨rfl, hd⟩
end Go.Proofs.YtjopgmjmjnfcjaaDoor.PDecodeWords
