/- Part of the proof; words that it uses. -/
import Derived.Test.YtjopgmjmjnfcjaaGreatDoorPSubjectOfx0
import Derived.Test.YtjopgmjmjnfcjaaGreatDoorPSubjectOfx6
import Derived.Test.YtjopgmjmjnfcjaaGreatDoorPSubjectOfx9
import Derived.Test.YtjopgmjmjnfcjaaGreatDoorPSubjectOfx10
namespace Go.Proofs.YtjopgmjmjnfcjaaGreatDoor.PSubjectOf
open Go.RowKit Go.Proofs.YtjopgmjmjnfcjaaGreatDoorW.PrintWords Go.Proofs.YtjopgmjmjnfcjaaGreatDoorW.PrintLast
set_option linter.unusedVariables false
set_option linter.unusedSimpArgs false
def impl_decodeWords.l0 : Nat → ByteArray → List Int → Option (List Int)
 | 0, _, _ => none
 | k + 1, x0, x3 => if x0.toList = ([] : List UInt8) then (some x3) else ((impl_toldWord.f k x0).bind fun bt503 => (if bt503.2 > 0 then (if x3.length + bt503.1.length < 17592186044416 then ((some (x3 ++ bt503.1 : List Int)).bind fun y507 => (if 0 ≤ bt503.2 then (if bt503.2 ≤ (x0.size : Int) then ((strings_TrimLeft.f (x0.extract (bt503.2 : Int).toNat x0.size) (⟨#[32, 9]⟩ : ByteArray)).bind fun t510 => (if t510.toList = (x0.extract (bt503.2 : Int).toNat x0.size).toList then (impl_decodeWords.l0 k (x0.extract (bt503.2 : Int).toNat x0.size) y507) else ((impl_toldWord.f k t510).bind fun bt511 => (if bt511.2 > 0 then (impl_decodeWords.l0 k t510 y507) else (impl_decodeWords.l0 k (x0.extract (bt503.2 : Int).toNat x0.size) y507))))) else (none)) else (none))) else (none)) else (if x0.size ≤ 281474976710656 then ((impl_firstChar.f k 4 (bytesOf x0)).bind fun bt518 => (if bt518.2 = 0 then (if x3.length < 17592186044416 then (if 1 ≤ (x0.size : Int) then (impl_decodeWords.l0 k (x0.extract 1 x0.size) (x3 ++ [65533])) else (none)) else (none)) else (if x3.length < 17592186044416 then (if 0 ≤ bt518.2 then (if bt518.2 ≤ (x0.size : Int) then (impl_decodeWords.l0 k (x0.extract (bt518.2 : Int).toNat x0.size) (x3 ++ [bt518.1])) else (none)) else (none)) else (none)))) else (none))))
def impl_decodeWords.f (k : Nat) (a0 : ByteArray) : Option (List Int) := impl_decodeWords.l0 k a0 (([] : List Int))
def impl_decodeWords.T5 : Bool × List (List Nat × List Nat) := (true, [([], []), ([], []), ([0, 1], [0, 1]), ([], []), ([], []), ([3, 4], [3, 4]), ([2, 2, 0, 1, 2], [0, 2]), ([5, 6, 0, 1, 2, 3, 4, 5, 6], [3, 5])])
def impl_decodeWords.B5 : List Nat := [0, 0, 3, 0, 0, 24, 7, 127]
theorem impl_decodeWords.tab5 : rtab .any (opsOf Tryz.f33 5) = impl_decodeWords.T5 := by kernel_rfl
theorem impl_decodeWords.bits5 : waitsOk impl_decodeWords.T5.2 impl_decodeWords.B5 = true := by kernel_rfl
def impl_decodeWords.T14 : Bool × List (List Nat × List Nat) := (true, [([], []), ([], []), ([1], [1]), ([0, 2], [0, 2]), ([], []), ([], []), ([4, 5], [4, 5]), ([3, 3, 0, 1, 2, 3], [0, 3]), ([6, 7, 0, 1, 2, 3, 4, 5, 6, 7], [4, 6])])
def impl_decodeWords.B14 : List Nat := [0, 0, 2, 7, 0, 0, 48, 15, 255]
theorem impl_decodeWords.tab14 : rtab .any (opsOf Tryz.f33 14) = impl_decodeWords.T14 := by kernel_rfl
theorem impl_decodeWords.bits14 : waitsOk impl_decodeWords.T14.2 impl_decodeWords.B14 = true := by kernel_rfl
set_option maxHeartbeats 8000000 in
set_option maxRecDepth 100000 in
theorem impl_decodeWords.calls (k : Nat) (a0 : ByteArray) (r : List Int) (w : World) (hm_ : ∃ m, w.cell? ⟨0, 0, none⟩ = some (.int .i64 m)) (h : impl_decodeWords.f k a0 = some r) :
  Calls Tryz.prog 33 #[.string a0] w fun e w' => ∃ v0_ : Value, e = .returned (v0_) ∧ Kd.R (Kd.int .i64) 2 w' w.heap.size (fun _ => True) v0_ r ∧ Below w.heap.size w w' := by
 have HM_ := aM hm_
 clear hm_
 have HB := aM (Below.refl w.heap.size w)
 have H : (impl_decodeWords.l0 k a0 (([] : List Int))) = some r := h
 clear h
 obtain ⟨y500, hy500⟩ : ∃ y_ : List Int, y_ = (([] : List Int)) := ⟨_, rfl⟩
 replace H : (impl_decodeWords.l0 k a0 y500) = some r := z0 hy500
 have Ny500 := aM hy500
 clear hy500
 have H' := aM H
 clear H
 go_enter Tryz.func33, Tryz.ntmps33
 go_wp2_with (first | ((with_reducible refine gate_dst (N := 11) rfl ?_); refine Kd.R_lit (Kd.int .i64) _ 2 ?hg (N := 11) ?hd (xs := ([] : List Int)) (inner := []) (ok := fun _ => True) (okp := fun _ => True) ?hr ?hp (fun _ hk => hk) trivial (Below.refl _ _) (Nat.le_refl _) (by simp) ?_; (case hd => rfl); (case hg => rfl); (case hr => exact z8); (case hp => exact (Reps.none _ _)); intro v501 w2 ho3 hb hg_ hnew_; clear hg_ hnew_; (first | rw [← Ny500.out] at ho3 | (simp only [Int.reduceToNat] at ho3; rw [← Ny500.out] at ho3)); have HO502 := aM (Kd.R_lower ho3 (below_size bB)); replace HB := aM (below_step bB hb); clear hb ho3))
 go_loopg [0, 3] k (fun kq v0 v3 w' => ∃ (x0_1 : ByteArray) (x3_1 : List Int), v0 = .string x0_1 ∧ Aside0 (impl_decodeWords.l0 kq x0_1 x3_1 = some r) ∧ Aside0 (kq ≤ k) ∧ Aside0 (Kd.R (Kd.int .i64) 2 w' w.heap.size (fun _ => True) v3 x3_1) ∧ Aside0 (Below w.heap.size w w'))
 case atStart => exact ⟨(a0), (y500), bS, H', ⟨Nat.le_refl _⟩, ⟨bR HO502⟩, ⟨bB⟩⟩
 case round =>
  clear H'
  try clear p2
  try clear c3
  obtain ⟨x0_1, x3_1, rfl, HA, HK1, HO_3, HB⟩ := hrel
  cases gk with
  | zero => exact absurd HA.out (by simp [impl_decodeWords.l0])
  | succ k1 =>
   have H := HA.out
   clear HA
   simp only [impl_decodeWords.l0] at H
   by_cases c4 : x0_1.toList = ([] : List UInt8)
   ·rw [if_pos c4] at H
    have c4b0 : (x0_1.toList == ([] : List UInt8)) = true := beq_iff_eq.mpr c4
    have c4b1 : (x0_1.toList != ([] : List UInt8)) = false := bne_eq_false_iff_eq.mpr c4
    clear c4
    obtain rfl := Option.some.inj H
    go_wp2
    go_ret
    exact ⟨_, bE, bR HO_3, bB⟩
   rw [if_neg c4] at H
   have c4b0 : (x0_1.toList == ([] : List UInt8)) = false := beq_eq_false_iff_ne.mpr c4
   have c4b1 : (x0_1.toList != ([] : List UInt8)) = true := bne_iff_ne.mpr c4
   replace H := Option.bind_eq_some_iff.mp H
   obtain ⟨⟨t503, t504⟩, A50, H⟩ := H
   replace H : (if t504 > 0 then (if x3_1.length + t503.length < 17592186044416 then ((some (x3_1 ++ t503 : List Int)).bind fun y507 => (if 0 ≤ t504 then (if t504 ≤ (x0_1.size : Int) then ((strings_TrimLeft.f (x0_1.extract (t504 : Int).toNat x0_1.size) (⟨#[32, 9]⟩ : ByteArray)).bind fun t510 => (if t510.toList = (x0_1.extract (t504 : Int).toNat x0_1.size).toList then (impl_decodeWords.l0 k1 (x0_1.extract (t504 : Int).toNat x0_1.size) y507) else ((impl_toldWord.f k1 t510).bind fun bt511 => (if bt511.2 > 0 then (impl_decodeWords.l0 k1 t510 y507) else (impl_decodeWords.l0 k1 (x0_1.extract (t504 : Int).toNat x0_1.size) y507))))) else (none)) else (none))) else (none)) else (if x0_1.size ≤ 281474976710656 then ((impl_firstChar.f k1 4 (bytesOf x0_1)).bind fun bt518 => (if bt518.2 = 0 then (if x3_1.length < 17592186044416 then (if 1 ≤ (x0_1.size : Int) then (impl_decodeWords.l0 k1 (x0_1.extract 1 x0_1.size) (x3_1 ++ [65533])) else (none)) else (none)) else (if x3_1.length < 17592186044416 then (if 0 ≤ bt518.2 then (if bt518.2 ≤ (x0_1.size : Int) then (impl_decodeWords.l0 k1 (x0_1.extract (bt518.2 : Int).toNat x0_1.size) (x3_1 ++ [bt518.1])) else (none)) else (none)) else (none)))) else (none))) = some r := H
   have A5 := aM A50
   clear A50
   by_cases c6 : t504 > 0
   ·rw [if_pos c6] at H
    have c6b0 : decide (0 < t504) = true := decide_eq_true c6
    clear c6
    by_cases c7 : x3_1.length + t503.length < 17592186044416
    ·rw [if_pos c7] at H
     have LMc7 := aM c7
     clear c7
     obtain ⟨y507, hy507⟩ : ∃ y_ : List Int, y_ = (x3_1 ++ t503) := ⟨_, rfl⟩
     replace H : (if 0 ≤ t504 then (if t504 ≤ (x0_1.size : Int) then ((strings_TrimLeft.f (x0_1.extract (t504 : Int).toNat x0_1.size) (⟨#[32, 9]⟩ : ByteArray)).bind fun t510 => (if t510.toList = (x0_1.extract (t504 : Int).toNat x0_1.size).toList then (impl_decodeWords.l0 k1 (x0_1.extract (t504 : Int).toNat x0_1.size) y507) else ((impl_toldWord.f k1 t510).bind fun bt511 => (if bt511.2 > 0 then (impl_decodeWords.l0 k1 t510 y507) else (impl_decodeWords.l0 k1 (x0_1.extract (t504 : Int).toNat x0_1.size) y507))))) else (none)) else (none)) = some r := z0 hy507
     have Ny507 := aM hy507
     clear hy507
     by_cases c8 : 0 ≤ t504
     ·rw [if_pos c8] at H
      have c8b0 := eq_true c8
      have c8b1 : decide (0 ≤ t504) = true := decide_eq_true c8
      clear c8
      by_cases c9 : t504 ≤ (x0_1.size : Int)
      ·rw [if_pos c9] at H
       have c9b0 := eq_true c9
       have c9b1 : decide (t504 ≤ (x0_1.size : Int)) = true := decide_eq_true c9
       clear c9
       replace H := Option.bind_eq_some_iff.mp H
       obtain ⟨t510, A100, H⟩ := H
       replace H : (if t510.toList = (x0_1.extract (t504 : Int).toNat x0_1.size).toList then (impl_decodeWords.l0 k1 (x0_1.extract (t504 : Int).toNat x0_1.size) y507) else ((impl_toldWord.f k1 t510).bind fun bt511 => (if bt511.2 > 0 then (impl_decodeWords.l0 k1 t510 y507) else (impl_decodeWords.l0 k1 (x0_1.extract (t504 : Int).toNat x0_1.size) y507)))) = some r := H
       have A10 := aM A100
       clear A100
       by_cases c11 : t510.toList = (x0_1.extract (t504 : Int).toNat x0_1.size).toList
       ·rw [if_pos c11] at H
        have c11b0 : (t510.toList == (x0_1.extract (t504 : Int).toNat x0_1.size).toList) = true := beq_iff_eq.mpr c11
        have c11b1 : (t510.toList != (x0_1.extract (t504 : Int).toNat x0_1.size).toList) = false := bne_eq_false_iff_eq.mpr c11
        clear c11
        have H' := aM H
        clear H
        try go_wp2_with (first | ((with_reducible refine gate_callee (f := 52) rfl ?_); refine gL_ (some 16) Tryz.func52 #[.string x0_1] ?_; (with_reducible refine (impl_toldWord.calls k1 x0_1 t503 t504 _ ?sidem A5.out).mono ?_); (case sidem => exact z18); rintro e w12 ⟨v505, rfl, ho0, hb⟩; refine ⟨_, rfl, ?_⟩; have HO506 := aM (Kd.R_lower (Kd.R_new' ho0 (Kd.R_lt (bR HO_3))) (below_size bB)); replace HO_3 := aM (Kd.R_elder' (bR HO_3) (Kd.R_base ho0) hb); replace HB := aM (below_step bB hb); (try clear ho0)))
        replace HO_3 := aM (Kd.R_drew HO_3.out)
        replace HO506 := aM (Kd.R_drew HO506.out)
        replace HB := aM (below_drew1 HB.out)
        obtain ⟨Ao15, co15, eo15⟩ := Kd.R_slice HO506.out
        (first | subst eo15 | (injection eo15 with f1_ f2_ f3_; have f4_ := f1_.symm; have f5_ := f3_.symm; clear f1_ f2_ f3_; subst f4_; subst f5_))
        refine start_ (n := 8) (S := fun w' => True) (ds := []) (bsA 8 0) (by kernel_rfl) rfl rfl trivial (fun hHeld => ?_); refine with_tabW impl_decodeWords.tab5 impl_decodeWords.bits5 (fun HT_ HW_ => ?_)
        generalize w12.drew = w13 at HO_3 HO506 HB hHeld ⊢
        refine pa_ (i := 0) (N := some 21) (bsA 8 1) (h := ?_)
        refine pa_ (i := 1) (N := some 22) (bsA 8 3) (h := ?_)
        refine pa_ (i := 3) (N := some 24) (bsA 8 11) (h := ?_)
        refine pa_ (i := 4) (N := some 25) (bsA 8 27) (h := ?_)
        refine pa_ (i := 5) (N := some 26) (bsA 8 59) (h := ?_)
        refine one_ (i := 2) (N := some 23) (bsA 8 63) rfl rfl (one_of HT_.out (by kernel_rfl)) (by decide) (fun K hK => ?_)
        refine Kd.R_append_rows_step (Kd.int .i64) (w0 := w) w.heap.size (by rfl) (.tmp 21) (.tmp 22) 23 2 (.int .i64 0) 8 rfl Tryz.underlying23 info2 rfl (by decide) (by omega) u3 x3_1 t503 _ _ _ (fun k_ => some k_ ≠ (.slice Ao15 t503.length co15 : Value).ownBlock) (fun _ => False) rfl rfl ?aO ?aR (fun _ _ h => h) (fun _ h => h.elim) ?aF ?aB ?aS ?aL ?_
        (case aR => exact z2 HO506.out)
        (case aB => exact bB)
        (case aF => exact (fun k_ hk => Kd.fresh' (Kd.R_lt (bR HO506)) k_ hk))
        (case aO => exact z10 HO_3.out)
        (case aS => exact (below_size bB))
        (case aL => have := LMc7.out; omega)
        intro v508 w14 ho hb hg hat
        rw [← Ny507.out] at ho
        have n0_ := aM (Kd.R_after (ok := (fun _ => True)) (bR HO506) hg hat)
        have n1_ := aM (hb)
        have n2_ := aM (ho)
        clear HO506
        clear HB
        clear HO_3
        have HO506 := n0_
        have HB := n1_
        have HO509 := n2_
        clear n0_ n1_ n2_
        clear ho hb hg hat
        refine hK.out _ _ trivial (fun hHeld => ?_)
        clear hK K
        refine na_ (N := some 23) (h := ?_)
        refine pa_ (i := 6) (N := some 3) (bsA 8 127) (h := ?_)
        refine pa_ (i := 7) (N := some 0) (bsA 8 255) (h := ?_)
        refine done_ (done_of HT_.out (by kernel_rfl)) ?_
        try go_wp2_with (first | ((with_reducible refine gate_callee (f := 53) rfl ?_); refine gL_ (some 28) Tryz.func53 #[.string (x0_1.extract (t504 : Int).toNat x0_1.size), .string (⟨#[32, 9]⟩ : ByteArray)] ?_; (with_reducible refine (strings_TrimLeft.calls (x0_1.extract (t504 : Int).toNat x0_1.size) (⟨#[32, 9]⟩ : ByteArray) t510 _ A10.out).mono ?_); rintro e w16 ⟨rfl, hb⟩; refine ⟨_, rfl, ?_⟩; replace HO506 := aM (Kd.R_below (bR HO506) hb); replace HO509 := aM (Kd.R_below (bR HO509) hb); replace HB := aM (below_step bB hb); (try clear hi)))
        go_roundg k1
        case measure => have := HK1.out; omega
        case rel => exact ⟨(x0_1.extract (t504 : Int).toNat x0_1.size), (y507), bS, H', ⟨by have := HK1.out; omega⟩, ⟨z9 HO509.out⟩, ⟨bB⟩⟩
       rw [if_neg c11] at H
       have c11b0 : (t510.toList == (x0_1.extract (t504 : Int).toNat x0_1.size).toList) = false := beq_eq_false_iff_ne.mpr c11
       have c11b1 : (t510.toList != (x0_1.extract (t504 : Int).toNat x0_1.size).toList) = true := bne_iff_ne.mpr c11
       replace H := Option.bind_eq_some_iff.mp H
       obtain ⟨⟨t511, t512⟩, A170, H⟩ := H
       replace H : (if t512 > 0 then (impl_decodeWords.l0 k1 t510 y507) else (impl_decodeWords.l0 k1 (x0_1.extract (t504 : Int).toNat x0_1.size) y507)) = some r := H
       have A17 := aM A170
       clear A170
       by_cases c18 : t512 > 0
       ·rw [if_pos c18] at H
        have c18b0 : decide (0 < t512) = true := decide_eq_true c18
        clear c18
        have H' := aM H
        clear H
        try go_wp2_with (first | ((with_reducible refine gate_callee (f := 52) rfl ?_); refine gL_ (some 16) Tryz.func52 #[.string x0_1] ?_; (with_reducible refine (impl_toldWord.calls k1 x0_1 t503 t504 _ ?sidem A5.out).mono ?_); (case sidem => exact z18); rintro e w19 ⟨v505, rfl, ho0, hb⟩; refine ⟨_, rfl, ?_⟩; have HO506 := aM (Kd.R_lower (Kd.R_new' ho0 (Kd.R_lt (bR HO_3))) (below_size bB)); replace HO_3 := aM (Kd.R_elder' (bR HO_3) (Kd.R_base ho0) hb); replace HB := aM (below_step bB hb); (try clear ho0)))
        replace HO_3 := aM (Kd.R_drew HO_3.out)
        replace HO506 := aM (Kd.R_drew HO506.out)
        replace HB := aM (below_drew1 HB.out)
        obtain ⟨Ao22, co22, eo22⟩ := Kd.R_slice HO506.out
        (first | subst eo22 | (injection eo22 with f1_ f2_ f3_; have f4_ := f1_.symm; have f5_ := f3_.symm; clear f1_ f2_ f3_; subst f4_; subst f5_))
        refine start_ (n := 8) (S := fun w' => True) (ds := []) (bsA 8 0) (by kernel_rfl) rfl rfl trivial (fun hHeld => ?_); refine with_tabW impl_decodeWords.tab5 impl_decodeWords.bits5 (fun HT_ HW_ => ?_)
        generalize w19.drew = w20 at HO_3 HO506 HB hHeld ⊢
        refine pa_ (i := 0) (N := some 21) (bsA 8 1) (h := ?_)
        refine pa_ (i := 1) (N := some 22) (bsA 8 3) (h := ?_)
        refine pa_ (i := 3) (N := some 24) (bsA 8 11) (h := ?_)
        refine pa_ (i := 4) (N := some 25) (bsA 8 27) (h := ?_)
        refine pa_ (i := 5) (N := some 26) (bsA 8 59) (h := ?_)
        refine one_ (i := 2) (N := some 23) (bsA 8 63) rfl rfl (one_of HT_.out (by kernel_rfl)) (by decide) (fun K hK => ?_)
        refine Kd.R_append_rows_step (Kd.int .i64) (w0 := w) w.heap.size (by rfl) (.tmp 21) (.tmp 22) 23 2 (.int .i64 0) 8 rfl Tryz.underlying23 info2 rfl (by decide) (by omega) u3 x3_1 t503 _ _ _ (fun k_ => some k_ ≠ (.slice Ao22 t503.length co22 : Value).ownBlock) (fun _ => False) rfl rfl ?aO ?aR (fun _ _ h => h) (fun _ h => h.elim) ?aF ?aB ?aS ?aL ?_
        (case aR => exact z2 HO506.out)
        (case aB => exact bB)
        (case aF => exact (fun k_ hk => Kd.fresh' (Kd.R_lt (bR HO506)) k_ hk))
        (case aO => exact z10 HO_3.out)
        (case aS => exact (below_size bB))
        (case aL => have := LMc7.out; omega)
        intro v508 w21 ho hb hg hat
        rw [← Ny507.out] at ho
        have n0_ := aM (Kd.R_after (ok := (fun _ => True)) (bR HO506) hg hat)
        have n1_ := aM (hb)
        have n2_ := aM (ho)
        clear HO506
        clear HB
        clear HO_3
        have HO506 := n0_
        have HB := n1_
        have HO509 := n2_
        clear n0_ n1_ n2_
        clear ho hb hg hat
        refine hK.out _ _ trivial (fun hHeld => ?_)
        clear hK K
        refine na_ (N := some 23) (h := ?_)
        refine pa_ (i := 6) (N := some 3) (bsA 8 127) (h := ?_)
        refine pa_ (i := 7) (N := some 0) (bsA 8 255) (h := ?_)
        refine done_ (done_of HT_.out (by kernel_rfl)) ?_
        try go_wp2_with (first | ((with_reducible refine gate_callee (f := 53) rfl ?_); refine gL_ (some 28) Tryz.func53 #[.string (x0_1.extract (t504 : Int).toNat x0_1.size), .string (⟨#[32, 9]⟩ : ByteArray)] ?_; (with_reducible refine (strings_TrimLeft.calls (x0_1.extract (t504 : Int).toNat x0_1.size) (⟨#[32, 9]⟩ : ByteArray) t510 _ A10.out).mono ?_); rintro e w23 ⟨rfl, hb⟩; refine ⟨_, rfl, ?_⟩; replace HO506 := aM (Kd.R_below (bR HO506) hb); replace HO509 := aM (Kd.R_below (bR HO509) hb); replace HB := aM (below_step bB hb); (try clear hi)) | ((with_reducible refine gate_callee (f := 52) rfl ?_); refine gL_ (some 34) Tryz.func52 #[.string t510] ?_; (with_reducible refine (impl_toldWord.calls k1 t510 t511 t512 _ ?sidem A17.out).mono ?_); (case sidem => exact z18); rintro e w24 ⟨v513, rfl, ho0, hb⟩; refine ⟨_, rfl, ?_⟩; have HO514 := aM (Kd.R_lower (Kd.R_new' (Kd.R_new' ho0 (Kd.R_lt (bR HO506))) (Kd.R_lt (bR HO509))) (below_size bB)); replace HO506 := aM (Kd.R_elder' (bR HO506) (Kd.R_base ho0) hb); replace HO509 := aM (Kd.R_elder' (bR HO509) (Kd.R_base ho0) hb); replace HB := aM (below_step bB hb); (try clear ho0)))
        go_roundg k1
        case measure => have := HK1.out; omega
        case rel => exact ⟨(t510), (y507), bS, H', ⟨by have := HK1.out; omega⟩, ⟨z9 HO509.out⟩, ⟨bB⟩⟩
       rw [if_neg c18] at H
       have c18b0 : decide (0 < t512) = false := decide_eq_false c18
       clear c18
       have H' := aM H
       clear H
       try go_wp2_with (first | ((with_reducible refine gate_callee (f := 52) rfl ?_); refine gL_ (some 16) Tryz.func52 #[.string x0_1] ?_; (with_reducible refine (impl_toldWord.calls k1 x0_1 t503 t504 _ ?sidem A5.out).mono ?_); (case sidem => exact z18); rintro e w25 ⟨v505, rfl, ho0, hb⟩; refine ⟨_, rfl, ?_⟩; have HO506 := aM (Kd.R_lower (Kd.R_new' ho0 (Kd.R_lt (bR HO_3))) (below_size bB)); replace HO_3 := aM (Kd.R_elder' (bR HO_3) (Kd.R_base ho0) hb); replace HB := aM (below_step bB hb); (try clear ho0)))
       replace HO_3 := aM (Kd.R_drew HO_3.out)
       replace HO506 := aM (Kd.R_drew HO506.out)
       replace HB := aM (below_drew1 HB.out)
       obtain ⟨Ao28, co28, eo28⟩ := Kd.R_slice HO506.out
       (first | subst eo28 | (injection eo28 with f1_ f2_ f3_; have f4_ := f1_.symm; have f5_ := f3_.symm; clear f1_ f2_ f3_; subst f4_; subst f5_))
       refine start_ (n := 8) (S := fun w' => True) (ds := []) (bsA 8 0) (by kernel_rfl) rfl rfl trivial (fun hHeld => ?_); refine with_tabW impl_decodeWords.tab5 impl_decodeWords.bits5 (fun HT_ HW_ => ?_)
       generalize w25.drew = w26 at HO_3 HO506 HB hHeld ⊢
       refine pa_ (i := 0) (N := some 21) (bsA 8 1) (h := ?_)
       refine pa_ (i := 1) (N := some 22) (bsA 8 3) (h := ?_)
       refine pa_ (i := 3) (N := some 24) (bsA 8 11) (h := ?_)
       refine pa_ (i := 4) (N := some 25) (bsA 8 27) (h := ?_)
       refine pa_ (i := 5) (N := some 26) (bsA 8 59) (h := ?_)
       refine one_ (i := 2) (N := some 23) (bsA 8 63) rfl rfl (one_of HT_.out (by kernel_rfl)) (by decide) (fun K hK => ?_)
       refine Kd.R_append_rows_step (Kd.int .i64) (w0 := w) w.heap.size (by rfl) (.tmp 21) (.tmp 22) 23 2 (.int .i64 0) 8 rfl Tryz.underlying23 info2 rfl (by decide) (by omega) u3 x3_1 t503 _ _ _ (fun k_ => some k_ ≠ (.slice Ao28 t503.length co28 : Value).ownBlock) (fun _ => False) rfl rfl ?aO ?aR (fun _ _ h => h) (fun _ h => h.elim) ?aF ?aB ?aS ?aL ?_
       (case aR => exact z2 HO506.out)
       (case aB => exact bB)
       (case aF => exact (fun k_ hk => Kd.fresh' (Kd.R_lt (bR HO506)) k_ hk))
       (case aO => exact z10 HO_3.out)
       (case aS => exact (below_size bB))
       (case aL => have := LMc7.out; omega)
       intro v508 w27 ho hb hg hat
       rw [← Ny507.out] at ho
       have n0_ := aM (Kd.R_after (ok := (fun _ => True)) (bR HO506) hg hat)
       have n1_ := aM (hb)
       have n2_ := aM (ho)
       clear HO506
       clear HB
       clear HO_3
       have HO506 := n0_
       have HB := n1_
       have HO509 := n2_
       clear n0_ n1_ n2_
       clear ho hb hg hat
       refine hK.out _ _ trivial (fun hHeld => ?_)
       clear hK K
       refine na_ (N := some 23) (h := ?_)
       refine pa_ (i := 6) (N := some 3) (bsA 8 127) (h := ?_)
       refine pa_ (i := 7) (N := some 0) (bsA 8 255) (h := ?_)
       refine done_ (done_of HT_.out (by kernel_rfl)) ?_
       try go_wp2_with (first | ((with_reducible refine gate_callee (f := 53) rfl ?_); refine gL_ (some 28) Tryz.func53 #[.string (x0_1.extract (t504 : Int).toNat x0_1.size), .string (⟨#[32, 9]⟩ : ByteArray)] ?_; (with_reducible refine (strings_TrimLeft.calls (x0_1.extract (t504 : Int).toNat x0_1.size) (⟨#[32, 9]⟩ : ByteArray) t510 _ A10.out).mono ?_); rintro e w29 ⟨rfl, hb⟩; refine ⟨_, rfl, ?_⟩; replace HO506 := aM (Kd.R_below (bR HO506) hb); replace HO509 := aM (Kd.R_below (bR HO509) hb); replace HB := aM (below_step bB hb); (try clear hi)) | ((with_reducible refine gate_callee (f := 52) rfl ?_); refine gL_ (some 34) Tryz.func52 #[.string t510] ?_; (with_reducible refine (impl_toldWord.calls k1 t510 t511 t512 _ ?sidem A17.out).mono ?_); (case sidem => exact z18); rintro e w30 ⟨v513, rfl, ho0, hb⟩; refine ⟨_, rfl, ?_⟩; have HO514 := aM (Kd.R_lower (Kd.R_new' (Kd.R_new' ho0 (Kd.R_lt (bR HO506))) (Kd.R_lt (bR HO509))) (below_size bB)); replace HO506 := aM (Kd.R_elder' (bR HO506) (Kd.R_base ho0) hb); replace HO509 := aM (Kd.R_elder' (bR HO509) (Kd.R_base ho0) hb); replace HB := aM (below_step bB hb); (try clear ho0)))
       go_roundg k1
       case measure => have := HK1.out; omega
       case rel => exact ⟨(x0_1.extract (t504 : Int).toNat x0_1.size), (y507), bS, H', ⟨by have := HK1.out; omega⟩, ⟨z9 HO509.out⟩, ⟨bB⟩⟩
      rw [if_neg c9] at H
      exact absurd H (by simp)
     rw [if_neg c8] at H
     exact absurd H (by simp)
    rw [if_neg c7] at H
    exact absurd H (by simp)
   rw [if_neg c6] at H
   have c6b0 : decide (0 < t504) = false := decide_eq_false c6
   clear c6
   by_cases c31 : x0_1.size ≤ 281474976710656
   ·rw [if_pos c31] at H
    have c31b0 := eq_true c31
    have c31b1 : decide (x0_1.size ≤ 281474976710656) = true := decide_eq_true c31
    clear c31
    obtain ⟨y515, hy515⟩ : ∃ y_ : List Int, y_ = (bytesOf x0_1) := ⟨_, rfl⟩
    replace H : ((impl_firstChar.f k1 4 y515).bind fun bt518 => (if bt518.2 = 0 then (if x3_1.length < 17592186044416 then (if 1 ≤ (x0_1.size : Int) then (impl_decodeWords.l0 k1 (x0_1.extract 1 x0_1.size) (x3_1 ++ [65533])) else (none)) else (none)) else (if x3_1.length < 17592186044416 then (if 0 ≤ bt518.2 then (if bt518.2 ≤ (x0_1.size : Int) then (impl_decodeWords.l0 k1 (x0_1.extract (bt518.2 : Int).toNat x0_1.size) (x3_1 ++ [bt518.1])) else (none)) else (none)) else (none)))) = some r := z0 hy515
    have Ny515 := aM hy515
    clear hy515
    replace H := Option.bind_eq_some_iff.mp H
    obtain ⟨⟨t518, t519⟩, A320, H⟩ := H
    replace H : (if t519 = 0 then (if x3_1.length < 17592186044416 then (if 1 ≤ (x0_1.size : Int) then (impl_decodeWords.l0 k1 (x0_1.extract 1 x0_1.size) (x3_1 ++ [65533])) else (none)) else (none)) else (if x3_1.length < 17592186044416 then (if 0 ≤ t519 then (if t519 ≤ (x0_1.size : Int) then (impl_decodeWords.l0 k1 (x0_1.extract (t519 : Int).toNat x0_1.size) (x3_1 ++ [t518])) else (none)) else (none)) else (none))) = some r := H
    have A32 := aM A320
    clear A320
    by_cases c33 : t519 = 0
    ·rw [if_pos c33] at H
     have c33b0 : (t519 == 0) = true := beq_iff_eq.mpr c33
     have c33b1 : (t519 != 0) = false := bne_eq_false_iff_eq.mpr c33
     clear c33
     by_cases c34 : x3_1.length < 17592186044416
     ·rw [if_pos c34] at H
      have LMc34 := aM c34
      clear c34
      obtain ⟨y520, hy520⟩ : ∃ y_ : List Int, y_ = (x3_1 ++ [65533]) := ⟨_, rfl⟩
      replace H : (if 1 ≤ (x0_1.size : Int) then (impl_decodeWords.l0 k1 (x0_1.extract 1 x0_1.size) y520) else (none)) = some r := z0 hy520
      have Ny520 := aM hy520
      clear hy520
      by_cases c35 : 1 ≤ (x0_1.size : Int)
      ·rw [if_pos c35] at H
       have c35b0 := eq_true c35
       have c35b1 : decide (1 ≤ (x0_1.size : Int)) = true := decide_eq_true c35
       clear c35
       have H' := aM H
       clear H
       try go_wp2_with (first | ((with_reducible refine gate_callee (f := 52) rfl ?_); refine gL_ (some 16) Tryz.func52 #[.string x0_1] ?_; (with_reducible refine (impl_toldWord.calls k1 x0_1 t503 t504 _ ?sidem A5.out).mono ?_); (case sidem => exact z18); rintro e w36 ⟨v505, rfl, ho0, hb⟩; refine ⟨_, rfl, ?_⟩; have HO506 := aM (Kd.R_lower (Kd.R_new' ho0 (Kd.R_lt (bR HO_3))) (below_size bB)); replace HO_3 := aM (Kd.R_elder' (bR HO_3) (Kd.R_base ho0) hb); replace HB := aM (below_step bB hb); (try clear ho0)) | ((with_reducible refine gate_dst (N := 42) rfl ?_); refine Kd.R_conv _ 5 rfl (N := 42) rfl 9 22 _ rfl x0_1 rfl Tryz.underlying9 Tryz.underlying22 Tryz.underlying5 (ok := fun _ => True) trivial (pI) (Below.refl _ _) (Nat.le_refl _) ?_; intro v516 w37 ho38 hb hg_ hnew_; clear hg_ hnew_; (first | rw [← Ny515.out] at ho38 | (simp only [Int.reduceToNat] at ho38; rw [← Ny515.out] at ho38)); replace HO_3 := aM (Kd.R_below (bR HO_3) hb); replace HO506 := aM (Kd.R_below (bR HO506) hb); have HO517 := aM (Kd.R_lower ho38 (below_size bB)); replace HB := aM (below_step bB hb); clear hb ho38; obtain ⟨Ao39, co39, eo39⟩ := Kd.R_slice HO517.out; subst eo39) | ((with_reducible refine gate_callee (f := 54) rfl ?_); refine gL_ (some 43) Tryz.func54 #[.int .i64 4, .slice Ao39 y515.length co39] ?_; (with_reducible refine (impl_firstChar.calls k1 4 _ _ y515 t518 t519 _ ?side1 ?side2 A32.out).mono ?_); (case side1 => exact z2 HO517.out); (case side2 => exact (Kd.R_reads' HO517.out).2.1); rintro e w40 ⟨rfl, hb⟩; refine ⟨_, rfl, ?_⟩; replace HO_3 := aM (Kd.R_below (bR HO_3) hb); replace HO506 := aM (Kd.R_below (bR HO506) hb); replace HO517 := aM (Kd.R_below (bR HO517) hb); replace HB := aM (below_step bB hb); (try clear hi)))
       replace HO_3 := aM (Kd.R_drew HO_3.out)
       replace HO506 := aM (Kd.R_drew HO506.out)
       replace HO517 := aM (Kd.R_drew HO517.out)
       replace HB := aM (below_drew1 HB.out)
       refine start_ (n := 9) (S := fun w' => True) (ds := []) (bsA 9 0) (by kernel_rfl) rfl rfl trivial (fun hHeld => ?_); refine with_tabW impl_decodeWords.tab14 impl_decodeWords.bits14 (fun HT_ HW_ => ?_)
       generalize w40.drew = w41 at HO_3 HO506 HO517 HB hHeld ⊢
       refine pa_ (i := 0) (N := some 48) (bsA 9 1) (h := ?_)
       refine pa_ (i := 1) (N := some 49) (bsA 9 3) (h := ?_)
       refine pa_ (i := 4) (N := some 52) (bsA 9 19) (h := ?_)
       refine pa_ (i := 5) (N := some 53) (bsA 9 51) (h := ?_)
       refine pa_ (i := 6) (N := some 54) (bsA 9 115) (h := ?_)
       refine one_ (i := 2) (N := some 50) (bsA 9 119) rfl rfl (one_of HT_.out (by kernel_rfl)) (by decide) (fun K hK => ?_)
       refine value_ (w1 := ?_) (v := ?_) (by rfl) rfl ?_ ?_
       rotate_left 2
       ·go_simp
        constructor
        ·rfl
        rfl
       refine hK.out _ _ trivial (fun hHeld => ?_)
       clear hK K
       refine na_ (N := some 50) (h := ?_)
       refine one_ (i := 3) (N := some 51) (bsA 9 127) rfl rfl (one_of HT_.out (by kernel_rfl)) (by decide) (fun K hK => ?_)
       refine Kd.R_append_step (Kd.int .i64) (w0 := w) w.heap.size (by rfl) (.tmp 48) (.tmp 50) 23 2 (.int .i64 0) 8 rfl Tryz.underlying23 info2 rfl (by decide) (by omega) u3 x3_1 65533 [.int .i64 65533] (fun k_ => some k_ ≠ (v505 : Value).ownBlock) (fun _ => False) rfl rfl ?aP (fun _ hk => hk.elim) ?aF ?aO ?aB ?aS ?aL ?_
       (case aP => exact rfl)
       (case aB => exact bB)
       (case aF => exact (fun k_ hk => Kd.fresh' (Kd.R_lt (bR HO506)) k_ hk))
       (case aO => exact z10 HO_3.out)
       (case aS => exact (below_size bB))
       (case aL => have := LMc34.out; omega)
       intro v521 w42 ho hb hg hat
       rw [← Ny520.out] at ho
       have n0_ := aM (Kd.R_after (ok := (fun _ => True)) (bR HO506) hg hat)
       have n1_ := aM (Kd.R_over' (bR HO517) (Kd.R_typed (bR HO_3)) (by decide) hg)
       have n2_ := aM (hb)
       have n3_ := aM (ho)
       clear HO506
       clear HO517
       clear HB
       clear HO_3
       have HO506 := n0_
       have HO517 := n1_
       have HB := n2_
       have HO522 := n3_
       clear n0_ n1_ n2_ n3_
       clear ho hb hg hat
       refine hK.out _ _ trivial (fun hHeld => ?_)
       clear hK K
       refine na_ (N := some 51) (h := ?_)
       refine pa_ (i := 7) (N := some 3) (bsA 9 255) (h := ?_)
       refine pa_ (i := 8) (N := some 0) (bsA 9 511) (h := ?_)
       refine done_ (done_of HT_.out (by kernel_rfl)) ?_
       try go_wp2
       go_roundg k1
       case measure => have := HK1.out; omega
       case rel => exact ⟨(x0_1.extract 1 x0_1.size), (y520), bS, H', ⟨by have := HK1.out; omega⟩, ⟨z9 HO522.out⟩, ⟨bB⟩⟩
      rw [if_neg c35] at H
      exact absurd H (by simp)
     rw [if_neg c34] at H
     exact absurd H (by simp)
    rw [if_neg c33] at H
    have c33b0 : (t519 == 0) = false := beq_eq_false_iff_ne.mpr c33
    have c33b1 : (t519 != 0) = true := bne_iff_ne.mpr c33
    by_cases c43 : x3_1.length < 17592186044416
    ·rw [if_pos c43] at H
     have LMc43 := aM c43
     clear c43
     obtain ⟨y523, hy523⟩ : ∃ y_ : List Int, y_ = (x3_1 ++ [t518]) := ⟨_, rfl⟩
     replace H : (if 0 ≤ t519 then (if t519 ≤ (x0_1.size : Int) then (impl_decodeWords.l0 k1 (x0_1.extract (t519 : Int).toNat x0_1.size) y523) else (none)) else (none)) = some r := z0 hy523
     have Ny523 := aM hy523
     clear hy523
     by_cases c44 : 0 ≤ t519
     ·rw [if_pos c44] at H
      have c44b0 := eq_true c44
      have c44b1 : decide (0 ≤ t519) = true := decide_eq_true c44
      clear c44
      by_cases c45 : t519 ≤ (x0_1.size : Int)
      ·rw [if_pos c45] at H
       have c45b0 := eq_true c45
       have c45b1 : decide (t519 ≤ (x0_1.size : Int)) = true := decide_eq_true c45
       clear c45
       have H' := aM H
       clear H
       try go_wp2_with (first | ((with_reducible refine gate_callee (f := 52) rfl ?_); refine gL_ (some 16) Tryz.func52 #[.string x0_1] ?_; (with_reducible refine (impl_toldWord.calls k1 x0_1 t503 t504 _ ?sidem A5.out).mono ?_); (case sidem => exact z18); rintro e w46 ⟨v505, rfl, ho0, hb⟩; refine ⟨_, rfl, ?_⟩; have HO506 := aM (Kd.R_lower (Kd.R_new' ho0 (Kd.R_lt (bR HO_3))) (below_size bB)); replace HO_3 := aM (Kd.R_elder' (bR HO_3) (Kd.R_base ho0) hb); replace HB := aM (below_step bB hb); (try clear ho0)) | ((with_reducible refine gate_dst (N := 42) rfl ?_); refine Kd.R_conv _ 5 rfl (N := 42) rfl 9 22 _ rfl x0_1 rfl Tryz.underlying9 Tryz.underlying22 Tryz.underlying5 (ok := fun _ => True) trivial (pI) (Below.refl _ _) (Nat.le_refl _) ?_; intro v516 w47 ho48 hb hg_ hnew_; clear hg_ hnew_; (first | rw [← Ny515.out] at ho48 | (simp only [Int.reduceToNat] at ho48; rw [← Ny515.out] at ho48)); replace HO_3 := aM (Kd.R_below (bR HO_3) hb); replace HO506 := aM (Kd.R_below (bR HO506) hb); have HO517 := aM (Kd.R_lower ho48 (below_size bB)); replace HB := aM (below_step bB hb); clear hb ho48; obtain ⟨Ao49, co49, eo49⟩ := Kd.R_slice HO517.out; subst eo49) | ((with_reducible refine gate_callee (f := 54) rfl ?_); refine gL_ (some 43) Tryz.func54 #[.int .i64 4, .slice Ao49 y515.length co49] ?_; (with_reducible refine (impl_firstChar.calls k1 4 _ _ y515 t518 t519 _ ?side1 ?side2 A32.out).mono ?_); (case side1 => exact z2 HO517.out); (case side2 => exact (Kd.R_reads' HO517.out).2.1); rintro e w50 ⟨rfl, hb⟩; refine ⟨_, rfl, ?_⟩; replace HO_3 := aM (Kd.R_below (bR HO_3) hb); replace HO506 := aM (Kd.R_below (bR HO506) hb); replace HO517 := aM (Kd.R_below (bR HO517) hb); replace HB := aM (below_step bB hb); (try clear hi)))
       replace HO_3 := aM (Kd.R_drew HO_3.out)
       replace HO506 := aM (Kd.R_drew HO506.out)
       replace HO517 := aM (Kd.R_drew HO517.out)
       replace HB := aM (below_drew1 HB.out)
       refine start_ (n := 9) (S := fun w' => True) (ds := []) (bsA 9 0) (by kernel_rfl) rfl rfl trivial (fun hHeld => ?_); refine with_tabW impl_decodeWords.tab14 impl_decodeWords.bits14 (fun HT_ HW_ => ?_)
       generalize w50.drew = w51 at HO_3 HO506 HO517 HB hHeld ⊢
       refine pa_ (i := 0) (N := some 48) (bsA 9 1) (h := ?_)
       refine pa_ (i := 1) (N := some 49) (bsA 9 3) (h := ?_)
       refine pa_ (i := 4) (N := some 52) (bsA 9 19) (h := ?_)
       refine pa_ (i := 5) (N := some 53) (bsA 9 51) (h := ?_)
       refine pa_ (i := 6) (N := some 54) (bsA 9 115) (h := ?_)
       refine one_ (i := 2) (N := some 50) (bsA 9 119) rfl rfl (one_of HT_.out (by kernel_rfl)) (by decide) (fun K hK => ?_)
       refine value_ (w1 := ?_) (v := ?_) (by rfl) rfl ?_ ?_
       rotate_left 2
       ·go_simp
        constructor
        ·rfl
        rfl
       refine hK.out _ _ trivial (fun hHeld => ?_)
       clear hK K
       refine na_ (N := some 50) (h := ?_)
       refine one_ (i := 3) (N := some 51) (bsA 9 127) rfl rfl (one_of HT_.out (by kernel_rfl)) (by decide) (fun K hK => ?_)
       refine Kd.R_append_step (Kd.int .i64) (w0 := w) w.heap.size (by rfl) (.tmp 48) (.tmp 50) 23 2 (.int .i64 0) 8 rfl Tryz.underlying23 info2 rfl (by decide) (by omega) u3 x3_1 t518 [.int .i64 t518] (fun k_ => some k_ ≠ (v505 : Value).ownBlock) (fun _ => False) rfl rfl ?aP (fun _ hk => hk.elim) ?aF ?aO ?aB ?aS ?aL ?_
       (case aP => exact rfl)
       (case aB => exact bB)
       (case aF => exact (fun k_ hk => Kd.fresh' (Kd.R_lt (bR HO506)) k_ hk))
       (case aO => exact z10 HO_3.out)
       (case aS => exact (below_size bB))
       (case aL => have := LMc43.out; omega)
       intro v524 w52 ho hb hg hat
       rw [← Ny523.out] at ho
       have n0_ := aM (Kd.R_after (ok := (fun _ => True)) (bR HO506) hg hat)
       have n1_ := aM (Kd.R_over' (bR HO517) (Kd.R_typed (bR HO_3)) (by decide) hg)
       have n2_ := aM (hb)
       have n3_ := aM (ho)
       clear HO506
       clear HO517
       clear HB
       clear HO_3
       have HO506 := n0_
       have HO517 := n1_
       have HB := n2_
       have HO525 := n3_
       clear n0_ n1_ n2_ n3_
       clear ho hb hg hat
       refine hK.out _ _ trivial (fun hHeld => ?_)
       clear hK K
       refine na_ (N := some 51) (h := ?_)
       refine pa_ (i := 7) (N := some 3) (bsA 9 255) (h := ?_)
       refine pa_ (i := 8) (N := some 0) (bsA 9 511) (h := ?_)
       refine done_ (done_of HT_.out (by kernel_rfl)) ?_
       try go_wp2
       go_roundg k1
       case measure => have := HK1.out; omega
       case rel => exact ⟨(x0_1.extract (t519 : Int).toNat x0_1.size), (y523), bS, H', ⟨by have := HK1.out; omega⟩, ⟨z9 HO525.out⟩, ⟨bB⟩⟩
      rw [if_neg c45] at H
      exact absurd H (by simp)
     rw [if_neg c44] at H
     exact absurd H (by simp)
    rw [if_neg c43] at H
    exact absurd H (by simp)
   rw [if_neg c31] at H
   exact absurd H (by simp)
def impl_DecodeWords.f (k : Nat) (a0 : ByteArray) : Option (Int × List Int) := if (a0.size : Int) > 400 then (some (2, ([] : List Int))) else ((impl_decodeWords.f k a0).bind fun t527 => (if (t527.length : Int) > 400 then (some (2, ([] : List Int))) else (some (0, t527))))
set_option maxHeartbeats 8000000 in
set_option maxRecDepth 100000 in
theorem impl_DecodeWords.calls (k : Nat) (a0 : ByteArray) (r1 : Int) (r2 : List Int) (w : World) (hm_ : ∃ m, w.cell? ⟨0, 0, none⟩ = some (.int .i64 m)) (h : impl_DecodeWords.f k a0 = some (r1, r2)) :
  Calls Tryz.prog 15 #[.string a0] w fun e w' => ∃ v1_ : Value, e = .returned (.agg #[.int .i64 r1, v1_]) ∧ Kd.R (Kd.int .i64) 2 w' w.heap.size (fun _ => True) v1_ r2 ∧ Below w.heap.size w w' := by
 have HM_ := aM hm_
 clear hm_
 have hu25 := Tryz.underlying25
 have HB := aM (Below.refl w.heap.size w)
 have H : (if (a0.size : Int) > 400 then (some (2, ([] : List Int))) else ((impl_decodeWords.f k a0).bind fun t527 => (if (t527.length : Int) > 400 then (some (2, ([] : List Int))) else (some (0, t527))))) = some (r1, r2) := h
 clear h
 by_cases c2 : (a0.size : Int) > 400
 ·rw [if_pos c2] at H
  have c2b0 : decide (400 < (a0.size : Int)) = true := decide_eq_true c2
  have c2b1 : decide (400 < a0.size) = true := decide_eq_true (by omega)
  clear c2
  simp only [Option.some.injEq, Prod.mk.injEq] at H
  obtain ⟨rfl, rfl⟩ := H
  go_enter Tryz.func15, Tryz.ntmps15
  go_wp2_with (first | ((with_reducible refine gate_dst (N := 2) rfl ?_); refine box_event ?hg (N := 2) ?hd (cs := #[.int .i64 0, .slice none 0 0]) (t := 25) ?hr ?_; (case hd => rfl); (case hg => rfl); (case hr => exact z8); intro gb526 hg w3 hbox hb; have BK526 := aM (hbox); have GW526 := aM ((z11 : w.heap.size ≤ gb526)); have GE526 := aM ((z11 : w.heap.size ≤ gb526)); replace HB := aM (below_step bB hb); clear hb hbox hg; have hcz4_0 : w3.cell? ⟨gb526, 0, none⟩ = some (.int .i64 0) := (blk_cell BK526.out 0).trans rfl; have hcz4_1 : w3.cell? ⟨gb526, 1, none⟩ = some (.slice none 0 0) := (blk_cell BK526.out 1).trans rfl; have hfz4_0 := blk_frozen BK526.out 0; have hfz4_1 := blk_frozen BK526.out 1))
  refine bodyPost_ret (results_cell_row rfl _ _ gb526 25 #[.int .i64 2, .slice none 0 0] (0, 0) _ rfl (z7 BK526.out) Tryz.underlying25 rfl (by kernel_rfl)) rfl ?_
  exact ⟨_, bE, z3, bG GE526⟩
 rw [if_neg c2] at H
 have c2b0 : decide (400 < (a0.size : Int)) = false := decide_eq_false c2
 have c2b1 : decide (400 < a0.size) = false := decide_eq_false (by omega)
 clear c2
 replace H := Option.bind_eq_some_iff.mp H
 obtain ⟨t527, A50, H⟩ := H
 replace H : (if (t527.length : Int) > 400 then (some (2, ([] : List Int))) else (some (0, t527))) = some (r1, r2) := H
 have A5 := aM A50
 clear A50
 by_cases c6 : (t527.length : Int) > 400
 ·rw [if_pos c6] at H
  have c6b0 : decide (400 < (t527.length : Int)) = true := decide_eq_true c6
  have c6b1 : decide (400 < t527.length) = true := decide_eq_true (by omega)
  clear c6
  simp only [Option.some.injEq, Prod.mk.injEq] at H
  obtain ⟨rfl, rfl⟩ := H
  go_enter Tryz.func15, Tryz.ntmps15
  go_wp2_with (first | ((with_reducible refine gate_dst (N := 2) rfl ?_); refine box_event ?hg (N := 2) ?hd (cs := #[.int .i64 0, .slice none 0 0]) (t := 25) ?hr ?_; (case hd => rfl); (case hg => rfl); (case hr => exact z8); intro gb526 hg w7 hbox hb; have BK526 := aM (hbox); have GW526 := aM ((z11 : w.heap.size ≤ gb526)); have GE526 := aM ((z11 : w.heap.size ≤ gb526)); replace HB := aM (below_step bB hb); clear hb hbox hg) | ((with_reducible refine gate_callee (f := 33) rfl ?_); refine gL_ (some 9) Tryz.func33 #[.string a0] ?_; (with_reducible refine (impl_decodeWords.calls k a0 t527 _ ?sidem A5.out).mono ?_); (case sidem => exact z18); rintro e w8 ⟨v528, rfl, ho0, hb⟩; refine ⟨_, rfl, ?_⟩; have HO529 := aM (Kd.R_lower ho0 (below_size (bG GE526))); replace BK526 := aM (blk_below (g := gb526) (o := .cells #[.int .i64 0, .slice none 0 0] 25 (0, 0)) (bL BK526) hb); replace HB := aM (below_step (bG GE526) hb); (try clear ho0); obtain ⟨Ao9, co9, eo9⟩ := Kd.R_slice HO529.out; subst eo9; have hcz10_0 : w8.cell? ⟨gb526, 0, none⟩ = some (.int .i64 0) := (blk_cell BK526.out 0).trans rfl; have hcz10_1 : w8.cell? ⟨gb526, 1, none⟩ = some (.slice none 0 0) := (blk_cell BK526.out 1).trans rfl; have hfz10_0 := blk_frozen BK526.out 0; have hfz10_1 := blk_frozen BK526.out 1))
  refine bodyPost_ret (results_cell_row rfl _ _ gb526 25 #[.int .i64 2, .slice none 0 0] (0, 0) _ rfl (z7 BK526.out) Tryz.underlying25 rfl (by kernel_rfl)) rfl ?_
  exact ⟨_, bE, z3, bG GE526⟩
 rw [if_neg c6] at H
 have c6b0 : decide (400 < (t527.length : Int)) = false := decide_eq_false c6
 have c6b1 : decide (400 < t527.length) = false := decide_eq_false (by omega)
 clear c6
 simp only [Option.some.injEq, Prod.mk.injEq] at H
 obtain ⟨rfl, rfl⟩ := H
 go_enter Tryz.func15, Tryz.ntmps15
 go_wp2_with (first | ((with_reducible refine gate_dst (N := 2) rfl ?_); refine box_event ?hg (N := 2) ?hd (cs := #[.int .i64 0, .slice none 0 0]) (t := 25) ?hr ?_; (case hd => rfl); (case hg => rfl); (case hr => exact z8); intro gb526 hg w11 hbox hb; have BK526 := aM (hbox); have GW526 := aM ((z11 : w.heap.size ≤ gb526)); have GE526 := aM ((z11 : w.heap.size ≤ gb526)); replace HB := aM (below_step bB hb); clear hb hbox hg) | ((with_reducible refine gate_callee (f := 33) rfl ?_); refine gL_ (some 9) Tryz.func33 #[.string a0] ?_; (with_reducible refine (impl_decodeWords.calls k a0 t527 _ ?sidem A5.out).mono ?_); (case sidem => exact z18); rintro e w12 ⟨v528, rfl, ho0, hb⟩; refine ⟨_, rfl, ?_⟩; have HO529 := aM (Kd.R_lower ho0 (below_size (bG GE526))); replace BK526 := aM (blk_below (g := gb526) (o := .cells #[.int .i64 0, .slice none 0 0] 25 (0, 0)) (bL BK526) hb); replace HB := aM (below_step (bG GE526) hb); (try clear ho0); obtain ⟨Ao13, co13, eo13⟩ := Kd.R_slice HO529.out; subst eo13; have hcz14_0 : w12.cell? ⟨gb526, 0, none⟩ = some (.int .i64 0) := (blk_cell BK526.out 0).trans rfl; have hcz14_1 : w12.cell? ⟨gb526, 1, none⟩ = some (.slice none 0 0) := (blk_cell BK526.out 1).trans rfl; have hfz14_0 := blk_frozen BK526.out 0; have hfz14_1 := blk_frozen BK526.out 1))
 refine bodyPost_ret (results_cell_row rfl _ _ gb526 25 #[.int .i64 0, .slice Ao13 t527.length co13] (0, 0) _ rfl (z17 BK526.out) Tryz.underlying25 rfl (by kernel_rfl)) rfl ?_
 exact ⟨_, bE, by (with_reducible repeat (first | apply Kd.R_alloc | apply Kd.R_drewN | apply Kd.R_drew)); exact Kd.R_mono (Kd.R_far (p := ⟨gb526, 1, none⟩) (Kd.R_far (p := ⟨gb526, 0, none⟩) (Kd.R_types HO529.out BK526.out (by decide)) (fun _ hk => hk.2) (.int .i64 0)) (fun _ hk => hk.2) (.slice Ao13 t527.length co13)) (fun _ hk => trivial), bG GE526⟩
open Go.Shelf in
def bytes_IndexByte.sh_lays187_ren : Go.Shelf.Ren := ⟨fun | 187 => 71 | 255 => 102 | n => n, fun | 37 => 22 | 5 => 5 | 3 => 3 | n => n, fun | n => n⟩
open Go.Shelf in
theorem bytes_IndexByte.sh_lays187 : Go.Proofs.Lays.n187 Tryz.prog bytes_IndexByte.sh_lays187_ren := {
  mixed := by kernel_rfl
  f187 := Tryz.func71.trans (congrArg some (by kernel_rfl))
  f255 := Tryz.func102.trans (congrArg some (by kernel_rfl))
  t3 := Tryz.underlying3
  a3 := Tryz.isAgg3
  z3 := Tryz.sizeOf3
  v3 := Tryz.zeroValue3
  t5 := Tryz.underlying5
  a5 := Tryz.isAgg5
  z5 := Tryz.sizeOf5
  v5 := Tryz.zeroValue5
  t37 := Tryz.underlying22
  a37 := Tryz.isAgg22
  z37 := Tryz.sizeOf22
  v37 := Tryz.zeroValue22 }
open Go.Shelf in
open Go.RowKit Go.Lib in
theorem bytes_IndexByte.sh_bytes_IndexByte_at (a : Addr) (n c : Nat) (xs : List Int) (cv : Int) (w : World) (hx : xs.length = n) (hc : ∀ i, i < n → w.cell? (a.add i) = some (.int .u8 (xs.getD i 0))) :
    Calls Tryz.prog 71 #[.slice (some a) n c, .int .u8 cv] w fun e w' => e = .returned (.int .i64 (Lib.indexByte (Lib.bytesOf xs) cv.toNat.toUInt8)) ∧ w' = w := Any.bytes_IndexByte_at bytes_IndexByte.sh_lays187 a n c xs cv w hx hc
def bytes_IndexByte.f (l0 : List Int) (a1 : Int) : Option Int := if 0 < l0.length then some (Lib.indexByte (Lib.bytesOf l0) a1.toNat.toUInt8) else none
theorem bytes_IndexByte.calls (A0 : Option Addr) (c0 : Nat) (l0 : List Int) (a1 : Int) (r : Int) (w : World) (hr0 : Kd.C (Kd.int .u8) w A0 l0.length l0) (hc0 : l0.length ≤ c0) (h : bytes_IndexByte.f l0 a1 = some r) :
    Calls Tryz.prog 71 #[.slice A0 l0.length c0, .int .u8 a1] w fun e w' => e = .returned (.int .i64 r) ∧ Drawn0 w w' := by
  unfold bytes_IndexByte.f at h
  by_cases h0 : 0 < l0.length
  · rw [if_pos h0] at h
    cases h
    obtain ⟨ad, rfl, hc⟩ := (Kd.reads_of_C (d := (0 : Int)) hr0).2.2 h0
    refine (bytes_IndexByte.sh_bytes_IndexByte_at ad l0.length c0 l0 a1 w rfl (fun i hi => hc i hi)).mono ?_
    rintro e w' ⟨rfl, rfl⟩
    exact ⟨rfl, Drawn0.refl _⟩
  rw [if_neg h0] at h
  cases h
def impl_isBlank.f (a0 : Int) : Option (Bool) := if a0 = 32 then (some true) else (some (a0 == 9))
set_option maxHeartbeats 8000000 in
set_option maxRecDepth 100000 in
theorem impl_isBlank.calls (a0 : Int) (r : Bool) (w : World) (h : impl_isBlank.f a0 = some r) :
  Calls Tryz.prog 72 #[.int .u8 a0] w fun e w' => e = .returned (.bool r) ∧ Drawn0 w w' := by
 have H : (if a0 = 32 then (some true) else (some (a0 == 9))) = some r := h
 clear h
 by_cases c2 : a0 = 32
 ·rw [if_pos c2] at H
  have c2b0 : (a0 == 32) = true := beq_iff_eq.mpr c2
  have c2b1 : (a0 != 32) = false := bne_eq_false_iff_eq.mpr c2
  clear c2
  obtain rfl := Option.some.inj H
  go_enter Tryz.func72, Tryz.ntmps72
  go_wp2
  go_ret
  exact ⟨bS, z1⟩
 rw [if_neg c2] at H
 have c2b0 : (a0 == 32) = false := beq_eq_false_iff_ne.mpr c2
 have c2b1 : (a0 != 32) = true := bne_iff_ne.mpr c2
 obtain rfl := Option.some.inj H
 go_enter Tryz.func72, Tryz.ntmps72
 go_wp2
 go_ret
 exact ⟨bS, z1⟩
open Go.Shelf in
def stringslite_Index.sh_lays219_ren : Go.Shelf.Ren := ⟨fun | 219 => 95 | 217 => 123 | 225 => 124 | 224 => 125 | 267 => 126 | 266 => 140 | 314 => 141 | n => n, fun | 9 => 9 | 3 => 3 | 4 => 4 | 5 => 5 | 46 => 87 | 146 => 143 | 51 => 142 | n => n, fun | 1 => 0 | n => n⟩
open Go.Shelf in
theorem stringslite_Index.sh_lays219 : Go.Proofs.Lays.n219 Tryz.prog stringslite_Index.sh_lays219_ren := {
  mixed := by kernel_rfl
  f217 := Tryz.func123.trans (congrArg some (by kernel_rfl))
  f219 := Tryz.func95.trans (congrArg some (by kernel_rfl))
  f224 := Tryz.func125.trans (congrArg some (by kernel_rfl))
  f225 := Tryz.func124.trans (congrArg some (by kernel_rfl))
  f266 := Tryz.func140.trans (congrArg some (by kernel_rfl))
  f267 := Tryz.func126.trans (congrArg some (by kernel_rfl))
  f314 := Tryz.func141.trans (congrArg some (by kernel_rfl))
  t3 := Tryz.underlying3
  a3 := Tryz.isAgg3
  z3 := Tryz.sizeOf3
  v3 := Tryz.zeroValue3
  t4 := Tryz.underlying4
  a4 := Tryz.isAgg4
  z4 := Tryz.sizeOf4
  v4 := Tryz.zeroValue4
  t5 := Tryz.underlying5
  a5 := Tryz.isAgg5
  z5 := Tryz.sizeOf5
  v5 := Tryz.zeroValue5
  t9 := Tryz.underlying9
  a9 := Tryz.isAgg9
  z9 := Tryz.sizeOf9
  v9 := Tryz.zeroValue9
  t46 := Tryz.underlying87
  a46 := Tryz.isAgg87
  z46 := Tryz.sizeOf87
  v46 := Tryz.zeroValue87
  t51 := Tryz.underlying142
  a51 := Tryz.isAgg142
  z51 := Tryz.sizeOf142
  v51 := Tryz.zeroValue142
  t146 := Tryz.underlying143
  a146 := Tryz.isAgg143
  z146 := Tryz.sizeOf143
  v146 := Tryz.zeroValue143
  g1 := by kernel_rfl }
open Go.Shelf in
open Go.RowKit Go.Lib in
theorem stringslite_Index.sh_stringslite_Index_one (s : ByteArray) (c : UInt8) (w : World) :
    Calls Tryz.prog 95 #[.string s, .string ⟨#[c]⟩] w fun e w' => e = .returned (.int .i64 (Lib.indexByte s.data.toList c)) ∧ w' = w := Any.stringslite_Index_one stringslite_Index.sh_lays219 s c w
def stringslite_Index.f (a0 : ByteArray) (a1 : ByteArray) : Option Int := if a1.size = 1 then some (Lib.indexByte a0.data.toList (bt a1 0).toNat.toUInt8) else none
theorem stringslite_Index.one (a : ByteArray) (h : a.size = 1) : a = ⟨#[(bt a 0).toNat.toUInt8]⟩ := by
  match a, h with
  | ⟨⟨[c]⟩⟩, _ =>
    have : (bt (⟨⟨[c]⟩⟩ : ByteArray) 0).toNat.toUInt8 = c := by
      show ((c.toNat : Int)).toNat.toUInt8 = c
      simp
    rw [this]
theorem stringslite_Index.calls (a0 : ByteArray) (a1 : ByteArray) (r : Int) (w : World) (h : stringslite_Index.f a0 a1 = some r) :
    Calls Tryz.prog 95 #[.string a0, .string a1] w fun e w' => e = .returned (.int .i64 r) ∧ Drawn0 w w' := by
  unfold stringslite_Index.f at h
  by_cases h1 : a1.size = 1
  · rw [if_pos h1] at h
    cases h
    have e := stringslite_Index.one a1 h1
    have hc := stringslite_Index.sh_stringslite_Index_one a0 (bt a1 0).toNat.toUInt8 w
    rw [← e] at hc
    refine hc.mono ?_
    rintro e w' ⟨rfl, rfl⟩
    exact ⟨rfl, Drawn0.refl _⟩
  rw [if_neg h1] at h
  cases h
def stringslite_Cut.f (a0 : ByteArray) (a1 : ByteArray) : Option (ByteArray × ByteArray × Bool) := (stringslite_Index.f a0 a1).bind fun t530 => (if t530 ≥ 0 then (if 0 ≤ t530 then (if t530 ≤ (a0.size : Int) then (if 0 ≤ (wrap64 (t530 + (a1.size : Int))) then (if (wrap64 (t530 + (a1.size : Int))) ≤ (a0.size : Int) then (some (a0.extract 0 (t530 : Int).toNat, a0.extract ((wrap64 (t530 + (a1.size : Int))) : Int).toNat a0.size, true)) else (none)) else (none)) else (none)) else (none)) else (some (a0, (⟨#[]⟩ : ByteArray), false)))
set_option maxHeartbeats 8000000 in
set_option maxRecDepth 100000 in
theorem stringslite_Cut.calls (a0 : ByteArray) (a1 : ByteArray) (r1 : ByteArray) (r2 : ByteArray) (r3 : Bool) (w : World) (h : stringslite_Cut.f a0 a1 = some (r1, r2, r3)) :
  Calls Tryz.prog 103 #[.string a0, .string a1] w fun e w' => e = .returned (.tuple #[.string r1, .string r2, .bool r3]) ∧ Drawn0 w w' := by
 have H : ((stringslite_Index.f a0 a1).bind fun t530 => (if t530 ≥ 0 then (if 0 ≤ t530 then (if t530 ≤ (a0.size : Int) then (if 0 ≤ (wrap64 (t530 + (a1.size : Int))) then (if (wrap64 (t530 + (a1.size : Int))) ≤ (a0.size : Int) then (some (a0.extract 0 (t530 : Int).toNat, a0.extract ((wrap64 (t530 + (a1.size : Int))) : Int).toNat a0.size, true)) else (none)) else (none)) else (none)) else (none)) else (some (a0, (⟨#[]⟩ : ByteArray), false)))) = some (r1, r2, r3) := h
 clear h
 replace H := Option.bind_eq_some_iff.mp H
 obtain ⟨t530, A30, H⟩ := H
 replace H : (if t530 ≥ 0 then (if 0 ≤ t530 then (if t530 ≤ (a0.size : Int) then (if 0 ≤ (wrap64 (t530 + (a1.size : Int))) then (if (wrap64 (t530 + (a1.size : Int))) ≤ (a0.size : Int) then (some (a0.extract 0 (t530 : Int).toNat, a0.extract ((wrap64 (t530 + (a1.size : Int))) : Int).toNat a0.size, true)) else (none)) else (none)) else (none)) else (none)) else (some (a0, (⟨#[]⟩ : ByteArray), false))) = some (r1, r2, r3) := H
 have A3 := aM A30
 clear A30
 by_cases c4 : t530 ≥ 0
 ·rw [if_pos c4] at H
  have c4b0 : decide (0 ≤ t530) = true := decide_eq_true c4
  clear c4
  by_cases c5 : 0 ≤ t530
  ·rw [if_pos c5] at H
   have c5b0 := eq_true c5
   have c5b1 : decide (0 ≤ t530) = true := decide_eq_true c5
   clear c5
   by_cases c6 : t530 ≤ (a0.size : Int)
   ·rw [if_pos c6] at H
    have c6b0 := eq_true c6
    have c6b1 : decide (t530 ≤ (a0.size : Int)) = true := decide_eq_true c6
    clear c6
    obtain ⟨ji7, hji7⟩ : ∃ j_ : Int, (wrap64 (t530 + (a1.size : Int))) = j_ := ⟨_, rfl⟩
    replace H : (if 0 ≤ (ji7) then (if (ji7) ≤ (a0.size : Int) then (some (a0.extract 0 (t530 : Int).toNat, a0.extract ((ji7) : Int).toNat a0.size, true)) else (none)) else (none)) = some (r1, r2, r3) := by first | (rw [hji7] at H; exact H) | (simp only [hji7] at H ⊢; exact H)
    (try rw [hji7] at A3)
    have hji7w : (IntKind.i64.wrap (t530 + (a1.size : Int))) = ji7 := (i64_w _).trans hji7
    by_cases c8 : 0 ≤ (ji7)
    ·rw [if_pos c8] at H
     have c8b0 := eq_true c8
     have c8b1 : decide (0 ≤ (ji7)) = true := decide_eq_true c8
     clear c8
     by_cases c9 : (ji7) ≤ (a0.size : Int)
     ·rw [if_pos c9] at H
      have c9b0 := eq_true c9
      have c9b1 : decide ((ji7) ≤ (a0.size : Int)) = true := decide_eq_true c9
      clear c9
      simp only [Option.some.injEq, Prod.mk.injEq] at H
      obtain ⟨rfl, rfl, rfl⟩ := H
      go_enter Tryz.func103, Tryz.ntmps103
      iterate 8 (go_wp2_with (first | (go_at_call 95; (with_reducible refine (stringslite_Index.calls a0 a1 t530 _ A3.out).mono ?_); rintro e w' ⟨rfl, ⟨nd, rfl⟩⟩; (try first | exact ⟨rfl, _, World.drewN_drewN _ _ _⟩ | exact ⟨rfl, _, Eq.trans (World.drewN_drewN _ _ _) (congrArg (World.drewN _) (Nat.add_assoc _ _ _))⟩))); try go_quiet (first | (go_at_call 95; (with_reducible refine (stringslite_Index.calls a0 a1 t530 _ A3.out).mono ?_); rintro e w' ⟨rfl, ⟨nd, rfl⟩⟩; (try first | exact ⟨rfl, _, World.drewN_drewN _ _ _⟩ | exact ⟨rfl, _, Eq.trans (World.drewN_drewN _ _ _) (congrArg (World.drewN _) (Nat.add_assoc _ _ _))⟩))))
      go_ret3
      exact ⟨by first | rfl | (simp; done) | (simp only [← hji7] <;> (first | rfl | simp)) | (simp [*]; done), z1⟩
     rw [if_neg c9] at H
     exact absurd H (by simp)
    rw [if_neg c8] at H
    exact absurd H (by simp)
   rw [if_neg c6] at H
   exact absurd H (by simp)
  rw [if_neg c5] at H
  exact absurd H (by simp)
 rw [if_neg c4] at H
 have c4b0 : decide (0 ≤ t530) = false := decide_eq_false c4
 clear c4
 simp only [Option.some.injEq, Prod.mk.injEq] at H
 obtain ⟨rfl, rfl, rfl⟩ := H
 go_enter Tryz.func103, Tryz.ntmps103
 iterate 8 (go_wp2_with (first | (go_at_call 95; (with_reducible refine (stringslite_Index.calls a0 a1 t530 _ A3.out).mono ?_); rintro e w' ⟨rfl, ⟨nd, rfl⟩⟩; (try first | exact ⟨rfl, _, World.drewN_drewN _ _ _⟩ | exact ⟨rfl, _, Eq.trans (World.drewN_drewN _ _ _) (congrArg (World.drewN _) (Nat.add_assoc _ _ _))⟩))); try go_quiet (first | (go_at_call 95; (with_reducible refine (stringslite_Index.calls a0 a1 t530 _ A3.out).mono ?_); rintro e w' ⟨rfl, ⟨nd, rfl⟩⟩; (try first | exact ⟨rfl, _, World.drewN_drewN _ _ _⟩ | exact ⟨rfl, _, Eq.trans (World.drewN_drewN _ _ _) (congrArg (World.drewN _) (Nat.add_assoc _ _ _))⟩))))
 go_ret3
 exact ⟨bS, z1⟩
def strings_Cut.f (a0 : ByteArray) (a1 : ByteArray) : Option (ByteArray × ByteArray × Bool) := (stringslite_Cut.f a0 a1).bind fun bt531 => (some (bt531.1, bt531.2.1, bt531.2.2))
set_option maxHeartbeats 8000000 in
set_option maxRecDepth 100000 in
theorem strings_Cut.calls (a0 : ByteArray) (a1 : ByteArray) (r1 : ByteArray) (r2 : ByteArray) (r3 : Bool) (w : World) (h : strings_Cut.f a0 a1 = some (r1, r2, r3)) :
  Calls Tryz.prog 73 #[.string a0, .string a1] w fun e w' => e = .returned (.tuple #[.string r1, .string r2, .bool r3]) ∧ Drawn0 w w' := by
 have H : ((stringslite_Cut.f a0 a1).bind fun bt531 => (some (bt531.1, bt531.2.1, bt531.2.2))) = some (r1, r2, r3) := h
 clear h
 replace H := Option.bind_eq_some_iff.mp H
 obtain ⟨⟨t531, t532, t533⟩, A30, H⟩ := H
 replace H : (some (t531, t532, t533)) = some (r1, r2, r3) := H
 have A3 := aM A30
 clear A30
 simp only [Option.some.injEq, Prod.mk.injEq] at H
 obtain ⟨rfl, rfl, rfl⟩ := H
 go_enter Tryz.func73, Tryz.ntmps73
 go_wp2_with (first | ((with_reducible refine gate_callee (f := 103) rfl ?_); refine gL_ (some 9) Tryz.func103 #[.string a0, .string a1] ?_; (with_reducible refine (stringslite_Cut.calls a0 a1 t531 t532 t533 _ A3.out).mono ?_); rintro e w' ⟨rfl, ⟨nd, rfl⟩⟩; refine ⟨_, rfl, ?_⟩))
 go_ret3
 exact ⟨bS, z1⟩
def stringslite_TrimPrefix.f (a0 : ByteArray) (a1 : ByteArray) : Option (ByteArray) := (stringslite_HasPrefix.f a0 a1).bind fun t534 => (if t534 = true then (if 0 ≤ (a1.size : Int) then (if (a1.size : Int) ≤ (a0.size : Int) then (some (a0.extract ((a1.size : Int) : Int).toNat a0.size)) else (none)) else (none)) else (some a0))
set_option maxHeartbeats 8000000 in
set_option maxRecDepth 100000 in
theorem stringslite_TrimPrefix.calls (a0 : ByteArray) (a1 : ByteArray) (r : ByteArray) (w : World) (h : stringslite_TrimPrefix.f a0 a1 = some r) :
  Calls Tryz.prog 104 #[.string a0, .string a1] w fun e w' => e = .returned (.string r) ∧ Drawn0 w w' := by
 have H : ((stringslite_HasPrefix.f a0 a1).bind fun t534 => (if t534 = true then (if 0 ≤ (a1.size : Int) then (if (a1.size : Int) ≤ (a0.size : Int) then (some (a0.extract ((a1.size : Int) : Int).toNat a0.size)) else (none)) else (none)) else (some a0))) = some r := h
 clear h
 replace H := Option.bind_eq_some_iff.mp H
 obtain ⟨t534, A30, H⟩ := H
 replace H : (if t534 = true then (if 0 ≤ (a1.size : Int) then (if (a1.size : Int) ≤ (a0.size : Int) then (some (a0.extract ((a1.size : Int) : Int).toNat a0.size)) else (none)) else (none)) else (some a0)) = some r := H
 have A3 := aM A30
 clear A30
 by_cases c4 : t534 = true
 ·subst c4
  have H1 : (if 0 ≤ (a1.size : Int) then (if (a1.size : Int) ≤ (a0.size : Int) then (some (a0.extract ((a1.size : Int) : Int).toNat a0.size)) else (none)) else (none)) = some r := z14
  clear H
  have H := H1
  clear H1
  by_cases c5 : 0 ≤ (a1.size : Int)
  ·rw [if_pos c5] at H
   have c5b0 := eq_true c5
   have c5b1 : decide (0 ≤ (a1.size : Int)) = true := decide_eq_true c5
   clear c5
   by_cases c6 : (a1.size : Int) ≤ (a0.size : Int)
   ·rw [if_pos c6] at H
    have c6b0 := eq_true c6
    have c6b1 : decide ((a1.size : Int) ≤ (a0.size : Int)) = true := decide_eq_true c6
    clear c6
    obtain rfl := Option.some.inj H
    go_enter Tryz.func104, Tryz.ntmps104
    go_wp2_with (first | ((with_reducible refine gate_callee (f := 108) rfl ?_); refine gL_ (some 7) Tryz.func108 #[.string a0, .string a1] ?_; (with_reducible refine (stringslite_HasPrefix.calls a0 a1 true _ A3.out).mono ?_); rintro e w' ⟨rfl, ⟨nd, rfl⟩⟩; refine ⟨_, rfl, ?_⟩))
    go_ret
    exact ⟨bS, z1⟩
   rw [if_neg c6] at H
   exact absurd H (by simp)
  rw [if_neg c5] at H
  exact absurd H (by simp)
 replace c4 := Bool.eq_false_iff.mpr c4
 subst c4
 have H1 : (some a0) = some r := z5
 clear H
 have H := H1
 clear H1
 obtain rfl := Option.some.inj H
 go_enter Tryz.func104, Tryz.ntmps104
 go_wp2_with (first | ((with_reducible refine gate_callee (f := 108) rfl ?_); refine gL_ (some 7) Tryz.func108 #[.string a0, .string a1] ?_; (with_reducible refine (stringslite_HasPrefix.calls a0 a1 false _ A3.out).mono ?_); rintro e w' ⟨rfl, ⟨nd, rfl⟩⟩; refine ⟨_, rfl, ?_⟩))
 go_ret
 exact ⟨bS, z1⟩
def strings_TrimPrefix.f (a0 : ByteArray) (a1 : ByteArray) : Option (ByteArray) := (stringslite_TrimPrefix.f a0 a1).bind fun t535 => (some t535)
set_option maxHeartbeats 8000000 in
set_option maxRecDepth 100000 in
theorem strings_TrimPrefix.calls (a0 : ByteArray) (a1 : ByteArray) (r : ByteArray) (w : World) (h : strings_TrimPrefix.f a0 a1 = some r) :
  Calls Tryz.prog 74 #[.string a0, .string a1] w fun e w' => e = .returned (.string r) ∧ Drawn0 w w' := by
 have H : ((stringslite_TrimPrefix.f a0 a1).bind fun t535 => (some t535)) = some r := h
 clear h
 replace H := Option.bind_eq_some_iff.mp H
 obtain ⟨t535, A30, H⟩ := H
 replace H : (some t535) = some r := H
 have A3 := aM A30
 clear A30
 obtain rfl := Option.some.inj H
 go_enter Tryz.func74, Tryz.ntmps74
 go_wp2_with (first | ((with_reducible refine gate_callee (f := 104) rfl ?_); refine gL_ (some 7) Tryz.func104 #[.string a0, .string a1] ?_; (with_reducible refine (stringslite_TrimPrefix.calls a0 a1 t535 _ A3.out).mono ?_); rintro e w' ⟨rfl, ⟨nd, rfl⟩⟩; refine ⟨_, rfl, ?_⟩))
 go_ret
 exact ⟨bS, z1⟩
def impl_isLetter.f (a0 : Int) : Option (Bool) := if a0 ≥ 97 then (if a0 ≤ 122 then (some true) else (if a0 ≥ 65 then (some (decide (a0 ≤ 90))) else (some false))) else (if a0 ≥ 65 then (some (decide (a0 ≤ 90))) else (some false))
set_option maxHeartbeats 8000000 in
set_option maxRecDepth 100000 in
theorem impl_isLetter.calls (a0 : Int) (r : Bool) (w : World) (h : impl_isLetter.f a0 = some r) :
  Calls Tryz.prog 129 #[.int .u8 a0] w fun e w' => e = .returned (.bool r) ∧ Drawn0 w w' := by
 have H : (if a0 ≥ 97 then (if a0 ≤ 122 then (some true) else (if a0 ≥ 65 then (some (decide (a0 ≤ 90))) else (some false))) else (if a0 ≥ 65 then (some (decide (a0 ≤ 90))) else (some false))) = some r := h
 clear h
 by_cases c2 : a0 ≥ 97
 ·rw [if_pos c2] at H
  have c2b0 : decide (97 ≤ a0) = true := decide_eq_true c2
  clear c2
  by_cases c3 : a0 ≤ 122
  ·rw [if_pos c3] at H
   have c3b0 : decide (a0 ≤ 122) = true := decide_eq_true c3
   clear c3
   obtain rfl := Option.some.inj H
   go_enter Tryz.func129, Tryz.ntmps129
   go_wp2
   go_ret
   exact ⟨bS, z1⟩
  rw [if_neg c3] at H
  have c3b0 : decide (a0 ≤ 122) = false := decide_eq_false c3
  clear c3
  by_cases c4 : a0 ≥ 65
  ·rw [if_pos c4] at H
   have c4b0 : decide (65 ≤ a0) = true := decide_eq_true c4
   clear c4
   obtain rfl := Option.some.inj H
   go_enter Tryz.func129, Tryz.ntmps129
   go_wp2
   go_ret
   exact ⟨bS, z1⟩
  rw [if_neg c4] at H
  have c4b0 : decide (65 ≤ a0) = false := decide_eq_false c4
  clear c4
  obtain rfl := Option.some.inj H
  go_enter Tryz.func129, Tryz.ntmps129
  go_wp2
  go_ret
  exact ⟨bS, z1⟩
 rw [if_neg c2] at H
 have c2b0 : decide (97 ≤ a0) = false := decide_eq_false c2
 clear c2
 by_cases c5 : a0 ≥ 65
 ·rw [if_pos c5] at H
  have c5b0 : decide (65 ≤ a0) = true := decide_eq_true c5
  clear c5
  obtain rfl := Option.some.inj H
  go_enter Tryz.func129, Tryz.ntmps129
  go_wp2
  go_ret
  exact ⟨bS, z1⟩
 rw [if_neg c5] at H
 have c5b0 : decide (65 ≤ a0) = false := decide_eq_false c5
 clear c5
 obtain rfl := Option.some.inj H
 go_enter Tryz.func129, Tryz.ntmps129
 go_wp2
 go_ret
 exact ⟨bS, z1⟩
def impl_isDigit.f (a0 : Int) : Option (Bool) := if a0 ≥ 48 then (some (decide (a0 ≤ 57))) else (some false)
set_option maxHeartbeats 8000000 in
set_option maxRecDepth 100000 in
theorem impl_isDigit.calls (a0 : Int) (r : Bool) (w : World) (h : impl_isDigit.f a0 = some r) :
  Calls Tryz.prog 130 #[.int .u8 a0] w fun e w' => e = .returned (.bool r) ∧ Drawn0 w w' := by
 have H : (if a0 ≥ 48 then (some (decide (a0 ≤ 57))) else (some false)) = some r := h
 clear h
 by_cases c2 : a0 ≥ 48
 ·rw [if_pos c2] at H
  have c2b0 : decide (48 ≤ a0) = true := decide_eq_true c2
  clear c2
  obtain rfl := Option.some.inj H
  go_enter Tryz.func130, Tryz.ntmps130
  go_wp2
  go_ret
  exact ⟨bS, z1⟩
 rw [if_neg c2] at H
 have c2b0 : decide (48 ≤ a0) = false := decide_eq_false c2
 clear c2
 obtain rfl := Option.some.inj H
 go_enter Tryz.func130, Tryz.ntmps130
 go_wp2
 go_ret
 exact ⟨bS, z1⟩
mutual
def impl_isField.l0 : Nat → Int → Int → ByteArray → ByteArray → Option (Bool)
 | 0, _, _, _, _ => none
 | k + 1, x9, x10, x537000, x537001 => if x10 < x9 then (if 0 ≤ x10 then (if x10 < (x537000.size : Int) then ((impl_isLetter.f (bt x537000 x10)).bind fun t537 => (if t537 = true then (impl_isField.l0 k x9 (wrap64 (x10 + 1)) x537000 x537001) else ((impl_isDigit.f (bt x537000 x10)).bind fun t538 => (if t538 = true then (impl_isField.l0 k x9 (wrap64 (x10 + 1)) x537000 x537001) else (if (bt x537000 x10) = 45 then (impl_isField.l0 k x9 (wrap64 (x10 + 1)) x537000 x537001) else (some false)))))) else (none)) else (none)) else (impl_isField.l1 k (x537001.size : Int) 0 x537000 x537001)
def impl_isField.l1 : Nat → Int → Int → ByteArray → ByteArray → Option (Bool)
 | 0, _, _, _, _ => none
 | k + 1, x32, x33, x537000, x537001 => if x33 < x32 then (if 0 ≤ x33 then (if x33 < (x537001.size : Int) then (if (bt x537001 x33) < 32 then (some false) else (if (bt x537001 x33) = 127 then (some false) else (impl_isField.l1 k x32 (wrap64 (x33 + 1)) x537000 x537001))) else (none)) else (none)) else (if (x537000.size : Int) ≥ 1 then (if (x537000.size : Int) ≤ 30 then (some (decide ((x537001.size : Int) ≤ 120))) else (some false)) else (some false))
end
def impl_isField.f (k : Nat) (a0_0 : ByteArray) (a0_1 : ByteArray) : Option (Bool) := impl_isField.l0 k (a0_0.size : Int) 0 a0_0 a0_1
set_option maxHeartbeats 8000000 in
set_option maxRecDepth 100000 in
theorem impl_isField.calls (k : Nat) (a0_0 : ByteArray) (a0_1 : ByteArray) (r : Bool) (w : World) (h : impl_isField.f k a0_0 a0_1 = some r) :
  Calls Tryz.prog 105 #[.agg #[.string a0_0, .string a0_1]] w fun e w' => e = .returned (.bool r) ∧ Below w.heap.size w w' := by
 have hu70 := Tryz.underlying70
 have HB := aM (Below.refl w.heap.size w)
 have H : (impl_isField.l0 k (a0_0.size : Int) 0 a0_0 a0_1) = some r := h
 clear h
 have H' := aM H
 clear H
 go_enter Tryz.func105, Tryz.ntmps105
 go_wp2_with (first | ((with_reducible refine gate_dst (N := 1) rfl ?_); (try (refine gate_guard (by rfl) ?_; dsimp only)); refine box_event ?hg (N := 1) ?hd (cs := #[.string a0_0, .string a0_1]) (t := 70) ?hr ?_; (case hd => rfl); (case hg => rfl); (case hr => exact z8); intro gb536 hg w2 hbox hb; have BK536 := aM (hbox); have GW536 := aM ((z11 : w.heap.size ≤ gb536)); have GE536 := aM ((z11 : w.heap.size ≤ gb536)); replace HB := aM (below_step bB hb); clear hb hbox hg; have hcz3_0 : w2.cell? ⟨gb536, 0, none⟩ = some (.string a0_0) := (blk_cell BK536.out 0).trans rfl; have hcz3_1 : w2.cell? ⟨gb536, 1, none⟩ = some (.string a0_1) := (blk_cell BK536.out 1).trans rfl; have hfz3_0 := blk_frozen BK536.out 0; have hfz3_1 := blk_frozen BK536.out 1))
 go_loopg [10] k (fun kq v10 w' => ∃ (x10_1 : Int), v10 = .int .i64 x10_1 ∧ Aside0 (impl_isField.l0 kq (a0_0.size : Int) x10_1 a0_0 a0_1 = some r) ∧ Aside0 (kq ≤ k) ∧ Aside0 (w'.heap[gb536]? = some (.cells #[.string a0_0, .string a0_1] 70 (0, 0))) ∧ Aside0 (Below w.heap.size w w'))
 case atStart => exact ⟨(0), bS, H', ⟨Nat.le_refl _⟩, ⟨bL BK536⟩, ⟨bG GE536⟩⟩
 case round =>
  clear H'
  try clear c1
  try clear p2
  try clear hcz3_0
  try clear hcz3_1
  try clear hfz3_0
  try clear hfz3_1
  obtain ⟨x10_1, rfl, HA, HK1, BK536, HB⟩ := hrel
  cases gk with
  | zero => exact absurd HA.out (by simp [impl_isField.l0])
  | succ k1 =>
   have H := HA.out
   clear HA
   simp only [impl_isField.l0] at H
   have HQ_ := aM H
   clear H
   have hcz10_0 : wr.cell? ⟨gb536, 0, none⟩ = some (.string a0_0) := (blk_cell BK536.out 0).trans rfl
   have hcz10_1 : wr.cell? ⟨gb536, 1, none⟩ = some (.string a0_1) := (blk_cell BK536.out 1).trans rfl
   have hfz10_0 := blk_frozen BK536.out 0
   have hfz10_1 := blk_frozen BK536.out 1
   have H := HQ_.out
   clear HQ_
   by_cases c4 : x10_1 < (a0_0.size : Int)
   ·rw [if_pos c4] at H
    have c4b0 : decide (x10_1 < (a0_0.size : Int)) = true := decide_eq_true c4
    clear c4
    (try simp only [c4b0])
    by_cases c5 : 0 ≤ x10_1
    ·rw [if_pos c5] at H
     have c5b0 : decide (0 ≤ x10_1) = true := decide_eq_true c5
     clear c5
     by_cases c6 : x10_1 < (a0_0.size : Int)
     ·rw [if_pos c6] at H
      have c6b0 : decide (x10_1 < (a0_0.size : Int)) = true := decide_eq_true c6
      clear c6
      replace H := Option.bind_eq_some_iff.mp H
      obtain ⟨t537, A80, H⟩ := H
      replace H : (if t537 = true then (impl_isField.l0 k1 (a0_0.size : Int) (wrap64 (x10_1 + 1)) a0_0 a0_1) else ((impl_isDigit.f (bt a0_0 x10_1)).bind fun t538 => (if t538 = true then (impl_isField.l0 k1 (a0_0.size : Int) (wrap64 (x10_1 + 1)) a0_0 a0_1) else (if (bt a0_0 x10_1) = 45 then (impl_isField.l0 k1 (a0_0.size : Int) (wrap64 (x10_1 + 1)) a0_0 a0_1) else (some false))))) = some r := H
      have A8 := aM A80
      clear A80
      have HQ_ := aM H
      clear H
      have p7 : 0 ≤ (x10_1 : Int) := pI
      have q7 : x10_1 < (a0_0.size : Int) := pI
      have hx7 := bt_at a0_0 x10_1
      replace p7 := eq_true p7
      replace q7 := eq_true q7
      have H := HQ_.out
      clear HQ_
      by_cases c9 : t537 = true
      ·subst c9
       have H1 : (impl_isField.l0 k1 (a0_0.size : Int) (wrap64 (x10_1 + 1)) a0_0 a0_1) = some r := z14
       clear H
       have H := H1
       clear H1
       have H' := aM H
       clear H
       go_wp2_with (first | ((with_reducible refine gate_callee (f := 129) rfl ?_); refine gL_ (some 18) Tryz.func129 #[.int .u8 (bt a0_0 x10_1)] ?_; (with_reducible refine (impl_isLetter.calls (bt a0_0 x10_1) true _ A8.out).mono ?_); rintro e w' ⟨rfl, ⟨nd, rfl⟩⟩; refine ⟨_, rfl, ?_⟩))
       go_roundg k1
       case measure => have := HK1.out; omega
       case rel => exact ⟨(wrap64 (x10_1 + 1)), bS, H', ⟨by have := HK1.out; omega⟩, ⟨bL BK536⟩, ⟨bG GE536⟩⟩
      replace c9 := Bool.eq_false_iff.mpr c9
      subst c9
      have H1 : ((impl_isDigit.f (bt a0_0 x10_1)).bind fun t538 => (if t538 = true then (impl_isField.l0 k1 (a0_0.size : Int) (wrap64 (x10_1 + 1)) a0_0 a0_1) else (if (bt a0_0 x10_1) = 45 then (impl_isField.l0 k1 (a0_0.size : Int) (wrap64 (x10_1 + 1)) a0_0 a0_1) else (some false)))) = some r := z5
      clear H
      have H := H1
      clear H1
      replace H := Option.bind_eq_some_iff.mp H
      obtain ⟨t538, A110, H⟩ := H
      replace H : (if t538 = true then (impl_isField.l0 k1 (a0_0.size : Int) (wrap64 (x10_1 + 1)) a0_0 a0_1) else (if (bt a0_0 x10_1) = 45 then (impl_isField.l0 k1 (a0_0.size : Int) (wrap64 (x10_1 + 1)) a0_0 a0_1) else (some false))) = some r := H
      have A11 := aM A110
      clear A110
      by_cases c12 : t538 = true
      ·subst c12
       have H1 : (impl_isField.l0 k1 (a0_0.size : Int) (wrap64 (x10_1 + 1)) a0_0 a0_1) = some r := z14
       clear H
       have H := H1
       clear H1
       have H' := aM H
       clear H
       go_wp2_with (first | ((with_reducible refine gate_callee (f := 129) rfl ?_); refine gL_ (some 18) Tryz.func129 #[.int .u8 (bt a0_0 x10_1)] ?_; (with_reducible refine (impl_isLetter.calls (bt a0_0 x10_1) false _ A8.out).mono ?_); rintro e w' ⟨rfl, ⟨nd, rfl⟩⟩; refine ⟨_, rfl, ?_⟩) | (go_at_call 130; (with_reducible refine (impl_isDigit.calls (bt a0_0 x10_1) true _ A11.out).mono ?_); rintro e w' ⟨rfl, ⟨nd, rfl⟩⟩))
       go_roundg k1
       case measure => have := HK1.out; omega
       case rel => exact ⟨(wrap64 (x10_1 + 1)), bS, H', ⟨by have := HK1.out; omega⟩, ⟨bL BK536⟩, ⟨bG GE536⟩⟩
      replace c12 := Bool.eq_false_iff.mpr c12
      subst c12
      have H1 : (if (bt a0_0 x10_1) = 45 then (impl_isField.l0 k1 (a0_0.size : Int) (wrap64 (x10_1 + 1)) a0_0 a0_1) else (some false)) = some r := z5
      clear H
      have H := H1
      clear H1
      by_cases c14 : (bt a0_0 x10_1) = 45
      ·rw [if_pos c14] at H
       have c14b0 : ((bt a0_0 x10_1) == 45) = true := beq_iff_eq.mpr c14
       have c14b1 : ((bt a0_0 x10_1) != 45) = false := bne_eq_false_iff_eq.mpr c14
       clear c14
       have H' := aM H
       clear H
       (try simp only [c14b0, c14b1])
       go_wp2_with (first | ((with_reducible refine gate_callee (f := 129) rfl ?_); refine gL_ (some 18) Tryz.func129 #[.int .u8 (bt a0_0 x10_1)] ?_; (with_reducible refine (impl_isLetter.calls (bt a0_0 x10_1) false _ A8.out).mono ?_); rintro e w' ⟨rfl, ⟨nd, rfl⟩⟩; refine ⟨_, rfl, ?_⟩) | (go_at_call 130; (with_reducible refine (impl_isDigit.calls (bt a0_0 x10_1) false _ A11.out).mono ?_); rintro e w' ⟨rfl, ⟨nd, rfl⟩⟩))
       go_roundg k1
       case measure => have := HK1.out; omega
       case rel => exact ⟨(wrap64 (x10_1 + 1)), bS, H', ⟨by have := HK1.out; omega⟩, ⟨bL BK536⟩, ⟨bG GE536⟩⟩
      rw [if_neg c14] at H
      have c14b0 : ((bt a0_0 x10_1) == 45) = false := beq_eq_false_iff_ne.mpr c14
      have c14b1 : ((bt a0_0 x10_1) != 45) = true := bne_iff_ne.mpr c14
      obtain rfl := Option.some.inj H
      (try simp only [c14b0, c14b1])
      go_wp2_with (first | ((with_reducible refine gate_callee (f := 129) rfl ?_); refine gL_ (some 18) Tryz.func129 #[.int .u8 (bt a0_0 x10_1)] ?_; (with_reducible refine (impl_isLetter.calls (bt a0_0 x10_1) false _ A8.out).mono ?_); rintro e w' ⟨rfl, ⟨nd, rfl⟩⟩; refine ⟨_, rfl, ?_⟩) | (go_at_call 130; (with_reducible refine (impl_isDigit.calls (bt a0_0 x10_1) false _ A11.out).mono ?_); rintro e w' ⟨rfl, ⟨nd, rfl⟩⟩))
      go_ret
      exact ⟨bE, bG GE536⟩
     rw [if_neg c6] at H
     exact absurd H (by simp)
    rw [if_neg c5] at H
    exact absurd H (by simp)
   rw [if_neg c4] at H
   have c4b0 : decide (x10_1 < (a0_0.size : Int)) = false := decide_eq_false c4
   clear c4
   have H' := aM H
   clear H
   (try simp only [c4b0])
   go_wp2
   go_loopg [33] k1 (fun kq v33 w' => ∃ (x33_2 : Int), v33 = .int .i64 x33_2 ∧ Aside0 (impl_isField.l1 kq (a0_1.size : Int) x33_2 a0_0 a0_1 = some r) ∧ Aside0 (kq ≤ k1) ∧ Aside0 (w'.heap[gb536]? = some (.cells #[.string a0_0, .string a0_1] 70 (0, 0))) ∧ Aside0 (Below w.heap.size w w'))
   case atStart => exact ⟨(0), bS, H', ⟨Nat.le_refl _⟩, ⟨bL BK536⟩, ⟨bG GE536⟩⟩
   case round =>
    clear H'
    try clear c1
    try clear p2
    try clear c4
    try clear c4b0
    try clear c5
    try clear c5b0
    try clear c6
    try clear c6b0
    try clear p6
    try clear p7
    try clear q7
    try clear hx7
    try clear c9
    try clear c10
    try clear c12
    try clear c14
    try clear c14b0
    try clear c14b1
    try clear hcz10_0
    try clear hcz10_1
    try clear hcz13_0
    try clear hcz13_1
    try clear hcz15_0
    try clear hcz15_1
    try clear hcz16_0
    try clear hcz16_1
    try clear hcz10_0
    try clear hcz10_1
    try clear hcz3_0
    try clear hcz3_1
    try clear hfz10_0
    try clear hfz10_1
    try clear hfz13_0
    try clear hfz13_1
    try clear hfz15_0
    try clear hfz15_1
    try clear hfz16_0
    try clear hfz16_1
    try clear hfz10_0
    try clear hfz10_1
    try clear hfz3_0
    try clear hfz3_1
    try clear p2
    try clear p7
    try clear q7
    obtain ⟨x33_2, rfl, HA, HK2, BK536, HB⟩ := hrel
    cases gk with
    | zero => exact absurd HA.out (by simp [impl_isField.l1])
    | succ k2 =>
     have H := HA.out
     clear HA
     simp only [impl_isField.l1] at H
     have HQ_ := aM H
     clear H
     have hcz23_0 : wr.cell? ⟨gb536, 0, none⟩ = some (.string a0_0) := (blk_cell BK536.out 0).trans rfl
     have hcz23_1 : wr.cell? ⟨gb536, 1, none⟩ = some (.string a0_1) := (blk_cell BK536.out 1).trans rfl
     have hfz23_0 := blk_frozen BK536.out 0
     have hfz23_1 := blk_frozen BK536.out 1
     have H := HQ_.out
     clear HQ_
     by_cases c18 : x33_2 < (a0_1.size : Int)
     ·rw [if_pos c18] at H
      have c18b0 : decide (x33_2 < (a0_1.size : Int)) = true := decide_eq_true c18
      clear c18
      (try simp only [c18b0])
      by_cases c19 : 0 ≤ x33_2
      ·rw [if_pos c19] at H
       have c19b0 : decide (0 ≤ x33_2) = true := decide_eq_true c19
       clear c19
       by_cases c20 : x33_2 < (a0_1.size : Int)
       ·rw [if_pos c20] at H
        have c20b0 : decide (x33_2 < (a0_1.size : Int)) = true := decide_eq_true c20
        clear c20
        have HQ_ := aM H
        clear H
        have p21 : 0 ≤ (x33_2 : Int) := pI
        have q21 : x33_2 < (a0_1.size : Int) := pI
        have hx21 := bt_at a0_1 x33_2
        replace p21 := eq_true p21
        replace q21 := eq_true q21
        have H := HQ_.out
        clear HQ_
        by_cases c22 : (bt a0_1 x33_2) < 32
        ·rw [if_pos c22] at H
         have c22b0 : decide ((bt a0_1 x33_2) < 32) = true := decide_eq_true c22
         clear c22
         obtain rfl := Option.some.inj H
         (try simp only [c22b0])
         go_wp2
         go_ret
         exact ⟨bE, bG GE536⟩
        rw [if_neg c22] at H
        have c22b0 : decide ((bt a0_1 x33_2) < 32) = false := decide_eq_false c22
        clear c22
        (try simp only [c22b0])
        by_cases c24 : (bt a0_1 x33_2) = 127
        ·rw [if_pos c24] at H
         have c24b0 : ((bt a0_1 x33_2) == 127) = true := beq_iff_eq.mpr c24
         have c24b1 : ((bt a0_1 x33_2) != 127) = false := bne_eq_false_iff_eq.mpr c24
         clear c24
         obtain rfl := Option.some.inj H
         (try simp only [c24b0, c24b1])
         go_wp2
         go_ret
         exact ⟨bE, bG GE536⟩
        rw [if_neg c24] at H
        have c24b0 : ((bt a0_1 x33_2) == 127) = false := beq_eq_false_iff_ne.mpr c24
        have c24b1 : ((bt a0_1 x33_2) != 127) = true := bne_iff_ne.mpr c24
        have H' := aM H
        clear H
        (try simp only [c24b0, c24b1])
        go_wp2
        go_roundg k2
        case measure => have := HK1.out; have := HK2.out; omega
        case rel => exact ⟨(wrap64 (x33_2 + 1)), bS, H', ⟨by have := HK1.out; have := HK2.out; omega⟩, ⟨bL BK536⟩, ⟨bG GE536⟩⟩
       rw [if_neg c20] at H
       exact absurd H (by simp)
      rw [if_neg c19] at H
      exact absurd H (by simp)
     rw [if_neg c18] at H
     have c18b0 : decide (x33_2 < (a0_1.size : Int)) = false := decide_eq_false c18
     clear c18
     (try simp only [c18b0])
     by_cases c27 : (a0_0.size : Int) ≥ 1
     ·rw [if_pos c27] at H
      have c27b0 : decide (1 ≤ (a0_0.size : Int)) = true := decide_eq_true c27
      have c27b1 : decide (1 ≤ a0_0.size) = true := decide_eq_true (by omega)
      clear c27
      (try simp only [c27b0, c27b1])
      by_cases c28 : (a0_0.size : Int) ≤ 30
      ·rw [if_pos c28] at H
       have c28b0 : decide ((a0_0.size : Int) ≤ 30) = true := decide_eq_true c28
       have c28b1 : decide (a0_0.size ≤ 30) = true := decide_eq_true (by omega)
       clear c28
       obtain rfl := Option.some.inj H
       (try simp only [c28b0, c28b1])
       go_wp2
       go_ret
       exact ⟨bE, bG GE536⟩
      rw [if_neg c28] at H
      have c28b0 : decide ((a0_0.size : Int) ≤ 30) = false := decide_eq_false c28
      have c28b1 : decide (a0_0.size ≤ 30) = false := decide_eq_false (by omega)
      clear c28
      obtain rfl := Option.some.inj H
      (try simp only [c28b0, c28b1])
      go_wp2
      go_ret
      exact ⟨bE, bG GE536⟩
     rw [if_neg c27] at H
     have c27b0 : decide (1 ≤ (a0_0.size : Int)) = false := decide_eq_false c27
     have c27b1 : decide (1 ≤ a0_0.size) = false := decide_eq_false (by omega)
     clear c27
     obtain rfl := Option.some.inj H
     (try simp only [c27b0, c27b1])
     go_wp2
     go_ret
     exact ⟨bE, bG GE536⟩
end Go.Proofs.YtjopgmjmjnfcjaaGreatDoor.PSubjectOf
