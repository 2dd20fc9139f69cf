/- Part of the proof; words that it uses. -/
import Derived.Test.YtjopgmjmjnfcjaaGreatDoorPWordsx0
import Derived.Test.YtjopgmjmjnfcjaaGreatDoorPWordsx1
import Derived.Test.YtjopgmjmjnfcjaaGreatDoorPWordsx6
import Derived.Test.YtjopgmjmjnfcjaaGreatDoorPWordsx7
namespace Go.Proofs.YtjopgmjmjnfcjaaGreatDoor.PWords
open Go.RowKit Go.Proofs.YtjopgmjmjnfcjaaGreatDoorW.PrintWords Go.Proofs.YtjopgmjmjnfcjaaGreatDoorW.PrintLast
set_option linter.unusedVariables false
set_option linter.unusedSimpArgs false
def impl_decodeWords.l0 : Nat → ByteArray → List Int → Option (List Int)
 | 0, _, _ => none
 | k + 1, x0, x3 => if x0.toList = ([] : List UInt8) then (some x3) else ((impl_toldWord.f k x0).bind fun bt398 => (if bt398.2 > 0 then (if x3.length + bt398.1.length < 17592186044416 then ((some (x3 ++ bt398.1 : List Int)).bind fun y402 => (if 0 ≤ bt398.2 then (if bt398.2 ≤ (x0.size : Int) then ((strings_TrimLeft.f (x0.extract (bt398.2 : Int).toNat x0.size) (⟨#[32, 9]⟩ : ByteArray)).bind fun t405 => (if t405.toList = (x0.extract (bt398.2 : Int).toNat x0.size).toList then (impl_decodeWords.l0 k (x0.extract (bt398.2 : Int).toNat x0.size) y402) else ((impl_toldWord.f k t405).bind fun bt406 => (if bt406.2 > 0 then (impl_decodeWords.l0 k t405 y402) else (impl_decodeWords.l0 k (x0.extract (bt398.2 : Int).toNat x0.size) y402))))) else (none)) else (none))) else (none)) else (if x0.size ≤ 281474976710656 then ((impl_firstChar.f k 4 (bytesOf x0)).bind fun bt413 => (if bt413.2 = 0 then (if x3.length < 17592186044416 then (if 1 ≤ (x0.size : Int) then (impl_decodeWords.l0 k (x0.extract 1 x0.size) (x3 ++ [65533])) else (none)) else (none)) else (if x3.length < 17592186044416 then (if 0 ≤ bt413.2 then (if bt413.2 ≤ (x0.size : Int) then (impl_decodeWords.l0 k (x0.extract (bt413.2 : Int).toNat x0.size) (x3 ++ [bt413.1])) else (none)) else (none)) else (none)))) else (none))))
def impl_decodeWords.f (k : Nat) (a0 : ByteArray) : Option (List Int) := impl_decodeWords.l0 k a0 (([] : List Int))
def impl_decodeWords.T5 : Bool × List (List Nat × List Nat) := (true, [([], []), ([], []), ([0, 1], [0, 1]), ([], []), ([], []), ([3, 4], [3, 4]), ([2, 2, 0, 1, 2], [0, 2]), ([5, 6, 0, 1, 2, 3, 4, 5, 6], [3, 5])])
def impl_decodeWords.B5 : List Nat := [0, 0, 3, 0, 0, 24, 7, 127]
theorem impl_decodeWords.tab5 : rtab .any (opsOf Tryz.f33 5) = impl_decodeWords.T5 := by kernel_rfl
theorem impl_decodeWords.bits5 : waitsOk impl_decodeWords.T5.2 impl_decodeWords.B5 = true := by kernel_rfl
def impl_decodeWords.T14 : Bool × List (List Nat × List Nat) := (true, [([], []), ([], []), ([1], [1]), ([0, 2], [0, 2]), ([], []), ([], []), ([4, 5], [4, 5]), ([3, 3, 0, 1, 2, 3], [0, 3]), ([6, 7, 0, 1, 2, 3, 4, 5, 6, 7], [4, 6])])
def impl_decodeWords.B14 : List Nat := [0, 0, 2, 7, 0, 0, 48, 15, 255]
theorem impl_decodeWords.tab14 : rtab .any (opsOf Tryz.f33 14) = impl_decodeWords.T14 := by kernel_rfl
theorem impl_decodeWords.bits14 : waitsOk impl_decodeWords.T14.2 impl_decodeWords.B14 = true := by kernel_rfl
set_option maxHeartbeats 8000000 in
set_option maxRecDepth 100000 in
theorem impl_decodeWords.calls (k : Nat) (a0 : ByteArray) (r : List Int) (w : World) (hm_ : ∃ m, w.cell? ⟨0, 0, none⟩ = some (.int .i64 m)) (h : impl_decodeWords.f k a0 = some r) :
  Calls Tryz.prog 33 #[.string a0] w fun e w' => ∃ v0_ : Value, e = .returned (v0_) ∧ Kd.R (Kd.int .i64) 2 w' w.heap.size (fun _ => True) v0_ r ∧ Below w.heap.size w w' := by
 have HM_ := aM hm_
 clear hm_
 have HB := aM (Below.refl w.heap.size w)
 have H : (impl_decodeWords.l0 k a0 (([] : List Int))) = some r := h
 clear h
 obtain ⟨y395, hy395⟩ : ∃ y_ : List Int, y_ = (([] : List Int)) := ⟨_, rfl⟩
 replace H : (impl_decodeWords.l0 k a0 y395) = some r := z0 hy395
 have Ny395 := aM hy395
 clear hy395
 have H' := aM H
 clear H
 go_enter Tryz.func33, Tryz.ntmps33
 go_wp2_with (first | ((with_reducible refine gate_dst (N := 11) rfl ?_); refine Kd.R_lit (Kd.int .i64) _ 2 ?hg (N := 11) ?hd (xs := ([] : List Int)) (inner := []) (ok := fun _ => True) (okp := fun _ => True) ?hr ?hp (fun _ hk => hk) trivial (Below.refl _ _) (Nat.le_refl _) (by simp) ?_; (case hd => rfl); (case hg => rfl); (case hr => exact z10); (case hp => exact (Reps.none _ _)); intro v396 w2 ho3 hb hg_ hnew_; clear hg_ hnew_; (first | rw [← Ny395.out] at ho3 | (simp only [Int.reduceToNat] at ho3; rw [← Ny395.out] at ho3)); have HO397 := aM (Kd.R_lower ho3 (below_size bB)); replace HB := aM (below_step bB hb); clear hb ho3))
 go_loopg [0, 3] k (fun kq v0 v3 w' => ∃ (x0_1 : ByteArray) (x3_1 : List Int), v0 = .string x0_1 ∧ Aside0 (impl_decodeWords.l0 kq x0_1 x3_1 = some r) ∧ Aside0 (kq ≤ k) ∧ Aside0 (Kd.R (Kd.int .i64) 2 w' w.heap.size (fun _ => True) v3 x3_1) ∧ Aside0 (Below w.heap.size w w'))
 case atStart => exact ⟨(a0), (y395), bS, H', ⟨Nat.le_refl _⟩, ⟨bR HO397⟩, ⟨bB⟩⟩
 case round =>
  clear H'
  try clear p2
  try clear c3
  obtain ⟨x0_1, x3_1, rfl, HA, HK1, HO_3, HB⟩ := hrel
  cases gk with
  | zero => exact absurd HA.out (by simp [impl_decodeWords.l0])
  | succ k1 =>
   have H := HA.out
   clear HA
   simp only [impl_decodeWords.l0] at H
   by_cases c4 : x0_1.toList = ([] : List UInt8)
   ·rw [if_pos c4] at H
    have c4b0 : (x0_1.toList == ([] : List UInt8)) = true := beq_iff_eq.mpr c4
    have c4b1 : (x0_1.toList != ([] : List UInt8)) = false := bne_eq_false_iff_eq.mpr c4
    clear c4
    obtain rfl := Option.some.inj H
    go_wp2
    go_ret
    exact ⟨_, bE, bR HO_3, bB⟩
   rw [if_neg c4] at H
   have c4b0 : (x0_1.toList == ([] : List UInt8)) = false := beq_eq_false_iff_ne.mpr c4
   have c4b1 : (x0_1.toList != ([] : List UInt8)) = true := bne_iff_ne.mpr c4
   replace H := Option.bind_eq_some_iff.mp H
   obtain ⟨⟨t398, t399⟩, A50, H⟩ := H
   replace H : (if t399 > 0 then (if x3_1.length + t398.length < 17592186044416 then ((some (x3_1 ++ t398 : List Int)).bind fun y402 => (if 0 ≤ t399 then (if t399 ≤ (x0_1.size : Int) then ((strings_TrimLeft.f (x0_1.extract (t399 : Int).toNat x0_1.size) (⟨#[32, 9]⟩ : ByteArray)).bind fun t405 => (if t405.toList = (x0_1.extract (t399 : Int).toNat x0_1.size).toList then (impl_decodeWords.l0 k1 (x0_1.extract (t399 : Int).toNat x0_1.size) y402) else ((impl_toldWord.f k1 t405).bind fun bt406 => (if bt406.2 > 0 then (impl_decodeWords.l0 k1 t405 y402) else (impl_decodeWords.l0 k1 (x0_1.extract (t399 : Int).toNat x0_1.size) y402))))) else (none)) else (none))) else (none)) else (if x0_1.size ≤ 281474976710656 then ((impl_firstChar.f k1 4 (bytesOf x0_1)).bind fun bt413 => (if bt413.2 = 0 then (if x3_1.length < 17592186044416 then (if 1 ≤ (x0_1.size : Int) then (impl_decodeWords.l0 k1 (x0_1.extract 1 x0_1.size) (x3_1 ++ [65533])) else (none)) else (none)) else (if x3_1.length < 17592186044416 then (if 0 ≤ bt413.2 then (if bt413.2 ≤ (x0_1.size : Int) then (impl_decodeWords.l0 k1 (x0_1.extract (bt413.2 : Int).toNat x0_1.size) (x3_1 ++ [bt413.1])) else (none)) else (none)) else (none)))) else (none))) = some r := H
   have A5 := aM A50
   clear A50
   by_cases c6 : t399 > 0
   ·rw [if_pos c6] at H
    have c6b0 : decide (0 < t399) = true := decide_eq_true c6
    clear c6
    by_cases c7 : x3_1.length + t398.length < 17592186044416
    ·rw [if_pos c7] at H
     have LMc7 := aM c7
     clear c7
     obtain ⟨y402, hy402⟩ : ∃ y_ : List Int, y_ = (x3_1 ++ t398) := ⟨_, rfl⟩
     replace H : (if 0 ≤ t399 then (if t399 ≤ (x0_1.size : Int) then ((strings_TrimLeft.f (x0_1.extract (t399 : Int).toNat x0_1.size) (⟨#[32, 9]⟩ : ByteArray)).bind fun t405 => (if t405.toList = (x0_1.extract (t399 : Int).toNat x0_1.size).toList then (impl_decodeWords.l0 k1 (x0_1.extract (t399 : Int).toNat x0_1.size) y402) else ((impl_toldWord.f k1 t405).bind fun bt406 => (if bt406.2 > 0 then (impl_decodeWords.l0 k1 t405 y402) else (impl_decodeWords.l0 k1 (x0_1.extract (t399 : Int).toNat x0_1.size) y402))))) else (none)) else (none)) = some r := z0 hy402
     have Ny402 := aM hy402
     clear hy402
     by_cases c8 : 0 ≤ t399
     ·rw [if_pos c8] at H
      have c8b0 := eq_true c8
      have c8b1 : decide (0 ≤ t399) = true := decide_eq_true c8
      clear c8
      by_cases c9 : t399 ≤ (x0_1.size : Int)
      ·rw [if_pos c9] at H
       have c9b0 := eq_true c9
       have c9b1 : decide (t399 ≤ (x0_1.size : Int)) = true := decide_eq_true c9
       clear c9
       replace H := Option.bind_eq_some_iff.mp H
       obtain ⟨t405, A100, H⟩ := H
       replace H : (if t405.toList = (x0_1.extract (t399 : Int).toNat x0_1.size).toList then (impl_decodeWords.l0 k1 (x0_1.extract (t399 : Int).toNat x0_1.size) y402) else ((impl_toldWord.f k1 t405).bind fun bt406 => (if bt406.2 > 0 then (impl_decodeWords.l0 k1 t405 y402) else (impl_decodeWords.l0 k1 (x0_1.extract (t399 : Int).toNat x0_1.size) y402)))) = some r := H
       have A10 := aM A100
       clear A100
       by_cases c11 : t405.toList = (x0_1.extract (t399 : Int).toNat x0_1.size).toList
       ·rw [if_pos c11] at H
        have c11b0 : (t405.toList == (x0_1.extract (t399 : Int).toNat x0_1.size).toList) = true := beq_iff_eq.mpr c11
        have c11b1 : (t405.toList != (x0_1.extract (t399 : Int).toNat x0_1.size).toList) = false := bne_eq_false_iff_eq.mpr c11
        clear c11
        have H' := aM H
        clear H
        try go_wp2_with (first | ((with_reducible refine gate_callee (f := 52) rfl ?_); refine gL_ (some 16) Tryz.func52 #[.string x0_1] ?_; (with_reducible refine (impl_toldWord.calls k1 x0_1 t398 t399 _ ?sidem A5.out).mono ?_); (case sidem => exact z20); rintro e w12 ⟨v400, rfl, ho0, hb⟩; refine ⟨_, rfl, ?_⟩; have HO401 := aM (Kd.R_lower (Kd.R_new' ho0 (Kd.R_lt (bR HO_3))) (below_size bB)); replace HO_3 := aM (Kd.R_elder' (bR HO_3) (Kd.R_base ho0) hb); replace HB := aM (below_step bB hb); (try clear ho0)))
        replace HO_3 := aM (Kd.R_drew HO_3.out)
        replace HO401 := aM (Kd.R_drew HO401.out)
        replace HB := aM (below_drew1 HB.out)
        obtain ⟨Ao15, co15, eo15⟩ := Kd.R_slice HO401.out
        (first | subst eo15 | (injection eo15 with f1_ f2_ f3_; have f4_ := f1_.symm; have f5_ := f3_.symm; clear f1_ f2_ f3_; subst f4_; subst f5_))
        refine start_ (n := 8) (S := fun w' => True) (ds := []) (bsA 8 0) (by kernel_rfl) rfl rfl trivial (fun hHeld => ?_); refine with_tabW impl_decodeWords.tab5 impl_decodeWords.bits5 (fun HT_ HW_ => ?_)
        generalize w12.drew = w13 at HO_3 HO401 HB hHeld ⊢
        refine pa_ (i := 0) (N := some 21) (bsA 8 1) (h := ?_)
        refine pa_ (i := 1) (N := some 22) (bsA 8 3) (h := ?_)
        refine pa_ (i := 3) (N := some 24) (bsA 8 11) (h := ?_)
        refine pa_ (i := 4) (N := some 25) (bsA 8 27) (h := ?_)
        refine pa_ (i := 5) (N := some 26) (bsA 8 59) (h := ?_)
        refine one_ (i := 2) (N := some 23) (bsA 8 63) rfl rfl (one_of HT_.out (by kernel_rfl)) (by decide) (fun K hK => ?_)
        refine Kd.R_append_rows_step (Kd.int .i64) (w0 := w) w.heap.size (by rfl) (.tmp 21) (.tmp 22) 23 2 (.int .i64 0) 8 rfl Tryz.underlying23 info2 rfl (by decide) (by omega) u3 x3_1 t398 _ _ _ (fun k_ => some k_ ≠ (.slice Ao15 t398.length co15 : Value).ownBlock) (fun _ => False) rfl rfl ?aO ?aR (fun _ _ h => h) (fun _ h => h.elim) ?aF ?aB ?aS ?aL ?_
        (case aR => exact z4 HO401.out)
        (case aB => exact bB)
        (case aF => exact (fun k_ hk => Kd.fresh' (Kd.R_lt (bR HO401)) k_ hk))
        (case aO => exact z13 HO_3.out)
        (case aS => exact (below_size bB))
        (case aL => have := LMc7.out; omega)
        intro v403 w14 ho hb hg hat
        rw [← Ny402.out] at ho
        have n0_ := aM (Kd.R_after (ok := (fun _ => True)) (bR HO401) hg hat)
        have n1_ := aM (hb)
        have n2_ := aM (ho)
        clear HO401
        clear HB
        clear HO_3
        have HO401 := n0_
        have HB := n1_
        have HO404 := n2_
        clear n0_ n1_ n2_
        clear ho hb hg hat
        refine hK.out _ _ trivial (fun hHeld => ?_)
        clear hK K
        refine na_ (N := some 23) (h := ?_)
        refine pa_ (i := 6) (N := some 3) (bsA 8 127) (h := ?_)
        refine pa_ (i := 7) (N := some 0) (bsA 8 255) (h := ?_)
        refine done_ (done_of HT_.out (by kernel_rfl)) ?_
        try go_wp2_with (first | ((with_reducible refine gate_callee (f := 53) rfl ?_); refine gL_ (some 28) Tryz.func53 #[.string (x0_1.extract (t399 : Int).toNat x0_1.size), .string (⟨#[32, 9]⟩ : ByteArray)] ?_; (with_reducible refine (strings_TrimLeft.calls (x0_1.extract (t399 : Int).toNat x0_1.size) (⟨#[32, 9]⟩ : ByteArray) t405 _ A10.out).mono ?_); rintro e w16 ⟨rfl, hb⟩; refine ⟨_, rfl, ?_⟩; replace HO401 := aM (Kd.R_below (bR HO401) hb); replace HO404 := aM (Kd.R_below (bR HO404) hb); replace HB := aM (below_step bB hb); (try clear hi)))
        go_roundg k1
        case measure => have := HK1.out; omega
        case rel => exact ⟨(x0_1.extract (t399 : Int).toNat x0_1.size), (y402), bS, H', ⟨by have := HK1.out; omega⟩, ⟨z9 HO404.out⟩, ⟨bB⟩⟩
       rw [if_neg c11] at H
       have c11b0 : (t405.toList == (x0_1.extract (t399 : Int).toNat x0_1.size).toList) = false := beq_eq_false_iff_ne.mpr c11
       have c11b1 : (t405.toList != (x0_1.extract (t399 : Int).toNat x0_1.size).toList) = true := bne_iff_ne.mpr c11
       replace H := Option.bind_eq_some_iff.mp H
       obtain ⟨⟨t406, t407⟩, A170, H⟩ := H
       replace H : (if t407 > 0 then (impl_decodeWords.l0 k1 t405 y402) else (impl_decodeWords.l0 k1 (x0_1.extract (t399 : Int).toNat x0_1.size) y402)) = some r := H
       have A17 := aM A170
       clear A170
       by_cases c18 : t407 > 0
       ·rw [if_pos c18] at H
        have c18b0 : decide (0 < t407) = true := decide_eq_true c18
        clear c18
        have H' := aM H
        clear H
        try go_wp2_with (first | ((with_reducible refine gate_callee (f := 52) rfl ?_); refine gL_ (some 16) Tryz.func52 #[.string x0_1] ?_; (with_reducible refine (impl_toldWord.calls k1 x0_1 t398 t399 _ ?sidem A5.out).mono ?_); (case sidem => exact z20); rintro e w19 ⟨v400, rfl, ho0, hb⟩; refine ⟨_, rfl, ?_⟩; have HO401 := aM (Kd.R_lower (Kd.R_new' ho0 (Kd.R_lt (bR HO_3))) (below_size bB)); replace HO_3 := aM (Kd.R_elder' (bR HO_3) (Kd.R_base ho0) hb); replace HB := aM (below_step bB hb); (try clear ho0)))
        replace HO_3 := aM (Kd.R_drew HO_3.out)
        replace HO401 := aM (Kd.R_drew HO401.out)
        replace HB := aM (below_drew1 HB.out)
        obtain ⟨Ao22, co22, eo22⟩ := Kd.R_slice HO401.out
        (first | subst eo22 | (injection eo22 with f1_ f2_ f3_; have f4_ := f1_.symm; have f5_ := f3_.symm; clear f1_ f2_ f3_; subst f4_; subst f5_))
        refine start_ (n := 8) (S := fun w' => True) (ds := []) (bsA 8 0) (by kernel_rfl) rfl rfl trivial (fun hHeld => ?_); refine with_tabW impl_decodeWords.tab5 impl_decodeWords.bits5 (fun HT_ HW_ => ?_)
        generalize w19.drew = w20 at HO_3 HO401 HB hHeld ⊢
        refine pa_ (i := 0) (N := some 21) (bsA 8 1) (h := ?_)
        refine pa_ (i := 1) (N := some 22) (bsA 8 3) (h := ?_)
        refine pa_ (i := 3) (N := some 24) (bsA 8 11) (h := ?_)
        refine pa_ (i := 4) (N := some 25) (bsA 8 27) (h := ?_)
        refine pa_ (i := 5) (N := some 26) (bsA 8 59) (h := ?_)
        refine one_ (i := 2) (N := some 23) (bsA 8 63) rfl rfl (one_of HT_.out (by kernel_rfl)) (by decide) (fun K hK => ?_)
        refine Kd.R_append_rows_step (Kd.int .i64) (w0 := w) w.heap.size (by rfl) (.tmp 21) (.tmp 22) 23 2 (.int .i64 0) 8 rfl Tryz.underlying23 info2 rfl (by decide) (by omega) u3 x3_1 t398 _ _ _ (fun k_ => some k_ ≠ (.slice Ao22 t398.length co22 : Value).ownBlock) (fun _ => False) rfl rfl ?aO ?aR (fun _ _ h => h) (fun _ h => h.elim) ?aF ?aB ?aS ?aL ?_
        (case aR => exact z4 HO401.out)
        (case aB => exact bB)
        (case aF => exact (fun k_ hk => Kd.fresh' (Kd.R_lt (bR HO401)) k_ hk))
        (case aO => exact z13 HO_3.out)
        (case aS => exact (below_size bB))
        (case aL => have := LMc7.out; omega)
        intro v403 w21 ho hb hg hat
        rw [← Ny402.out] at ho
        have n0_ := aM (Kd.R_after (ok := (fun _ => True)) (bR HO401) hg hat)
        have n1_ := aM (hb)
        have n2_ := aM (ho)
        clear HO401
        clear HB
        clear HO_3
        have HO401 := n0_
        have HB := n1_
        have HO404 := n2_
        clear n0_ n1_ n2_
        clear ho hb hg hat
        refine hK.out _ _ trivial (fun hHeld => ?_)
        clear hK K
        refine na_ (N := some 23) (h := ?_)
        refine pa_ (i := 6) (N := some 3) (bsA 8 127) (h := ?_)
        refine pa_ (i := 7) (N := some 0) (bsA 8 255) (h := ?_)
        refine done_ (done_of HT_.out (by kernel_rfl)) ?_
        try go_wp2_with (first | ((with_reducible refine gate_callee (f := 53) rfl ?_); refine gL_ (some 28) Tryz.func53 #[.string (x0_1.extract (t399 : Int).toNat x0_1.size), .string (⟨#[32, 9]⟩ : ByteArray)] ?_; (with_reducible refine (strings_TrimLeft.calls (x0_1.extract (t399 : Int).toNat x0_1.size) (⟨#[32, 9]⟩ : ByteArray) t405 _ A10.out).mono ?_); rintro e w23 ⟨rfl, hb⟩; refine ⟨_, rfl, ?_⟩; replace HO401 := aM (Kd.R_below (bR HO401) hb); replace HO404 := aM (Kd.R_below (bR HO404) hb); replace HB := aM (below_step bB hb); (try clear hi)) | ((with_reducible refine gate_callee (f := 52) rfl ?_); refine gL_ (some 34) Tryz.func52 #[.string t405] ?_; (with_reducible refine (impl_toldWord.calls k1 t405 t406 t407 _ ?sidem A17.out).mono ?_); (case sidem => exact z20); rintro e w24 ⟨v408, rfl, ho0, hb⟩; refine ⟨_, rfl, ?_⟩; have HO409 := aM (Kd.R_lower (Kd.R_new' (Kd.R_new' ho0 (Kd.R_lt (bR HO401))) (Kd.R_lt (bR HO404))) (below_size bB)); replace HO401 := aM (Kd.R_elder' (bR HO401) (Kd.R_base ho0) hb); replace HO404 := aM (Kd.R_elder' (bR HO404) (Kd.R_base ho0) hb); replace HB := aM (below_step bB hb); (try clear ho0)))
        go_roundg k1
        case measure => have := HK1.out; omega
        case rel => exact ⟨(t405), (y402), bS, H', ⟨by have := HK1.out; omega⟩, ⟨z9 HO404.out⟩, ⟨bB⟩⟩
       rw [if_neg c18] at H
       have c18b0 : decide (0 < t407) = false := decide_eq_false c18
       clear c18
       have H' := aM H
       clear H
       try go_wp2_with (first | ((with_reducible refine gate_callee (f := 52) rfl ?_); refine gL_ (some 16) Tryz.func52 #[.string x0_1] ?_; (with_reducible refine (impl_toldWord.calls k1 x0_1 t398 t399 _ ?sidem A5.out).mono ?_); (case sidem => exact z20); rintro e w25 ⟨v400, rfl, ho0, hb⟩; refine ⟨_, rfl, ?_⟩; have HO401 := aM (Kd.R_lower (Kd.R_new' ho0 (Kd.R_lt (bR HO_3))) (below_size bB)); replace HO_3 := aM (Kd.R_elder' (bR HO_3) (Kd.R_base ho0) hb); replace HB := aM (below_step bB hb); (try clear ho0)))
       replace HO_3 := aM (Kd.R_drew HO_3.out)
       replace HO401 := aM (Kd.R_drew HO401.out)
       replace HB := aM (below_drew1 HB.out)
       obtain ⟨Ao28, co28, eo28⟩ := Kd.R_slice HO401.out
       (first | subst eo28 | (injection eo28 with f1_ f2_ f3_; have f4_ := f1_.symm; have f5_ := f3_.symm; clear f1_ f2_ f3_; subst f4_; subst f5_))
       refine start_ (n := 8) (S := fun w' => True) (ds := []) (bsA 8 0) (by kernel_rfl) rfl rfl trivial (fun hHeld => ?_); refine with_tabW impl_decodeWords.tab5 impl_decodeWords.bits5 (fun HT_ HW_ => ?_)
       generalize w25.drew = w26 at HO_3 HO401 HB hHeld ⊢
       refine pa_ (i := 0) (N := some 21) (bsA 8 1) (h := ?_)
       refine pa_ (i := 1) (N := some 22) (bsA 8 3) (h := ?_)
       refine pa_ (i := 3) (N := some 24) (bsA 8 11) (h := ?_)
       refine pa_ (i := 4) (N := some 25) (bsA 8 27) (h := ?_)
       refine pa_ (i := 5) (N := some 26) (bsA 8 59) (h := ?_)
       refine one_ (i := 2) (N := some 23) (bsA 8 63) rfl rfl (one_of HT_.out (by kernel_rfl)) (by decide) (fun K hK => ?_)
       refine Kd.R_append_rows_step (Kd.int .i64) (w0 := w) w.heap.size (by rfl) (.tmp 21) (.tmp 22) 23 2 (.int .i64 0) 8 rfl Tryz.underlying23 info2 rfl (by decide) (by omega) u3 x3_1 t398 _ _ _ (fun k_ => some k_ ≠ (.slice Ao28 t398.length co28 : Value).ownBlock) (fun _ => False) rfl rfl ?aO ?aR (fun _ _ h => h) (fun _ h => h.elim) ?aF ?aB ?aS ?aL ?_
       (case aR => exact z4 HO401.out)
       (case aB => exact bB)
       (case aF => exact (fun k_ hk => Kd.fresh' (Kd.R_lt (bR HO401)) k_ hk))
       (case aO => exact z13 HO_3.out)
       (case aS => exact (below_size bB))
       (case aL => have := LMc7.out; omega)
       intro v403 w27 ho hb hg hat
       rw [← Ny402.out] at ho
       have n0_ := aM (Kd.R_after (ok := (fun _ => True)) (bR HO401) hg hat)
       have n1_ := aM (hb)
       have n2_ := aM (ho)
       clear HO401
       clear HB
       clear HO_3
       have HO401 := n0_
       have HB := n1_
       have HO404 := n2_
       clear n0_ n1_ n2_
       clear ho hb hg hat
       refine hK.out _ _ trivial (fun hHeld => ?_)
       clear hK K
       refine na_ (N := some 23) (h := ?_)
       refine pa_ (i := 6) (N := some 3) (bsA 8 127) (h := ?_)
       refine pa_ (i := 7) (N := some 0) (bsA 8 255) (h := ?_)
       refine done_ (done_of HT_.out (by kernel_rfl)) ?_
       try go_wp2_with (first | ((with_reducible refine gate_callee (f := 53) rfl ?_); refine gL_ (some 28) Tryz.func53 #[.string (x0_1.extract (t399 : Int).toNat x0_1.size), .string (⟨#[32, 9]⟩ : ByteArray)] ?_; (with_reducible refine (strings_TrimLeft.calls (x0_1.extract (t399 : Int).toNat x0_1.size) (⟨#[32, 9]⟩ : ByteArray) t405 _ A10.out).mono ?_); rintro e w29 ⟨rfl, hb⟩; refine ⟨_, rfl, ?_⟩; replace HO401 := aM (Kd.R_below (bR HO401) hb); replace HO404 := aM (Kd.R_below (bR HO404) hb); replace HB := aM (below_step bB hb); (try clear hi)) | ((with_reducible refine gate_callee (f := 52) rfl ?_); refine gL_ (some 34) Tryz.func52 #[.string t405] ?_; (with_reducible refine (impl_toldWord.calls k1 t405 t406 t407 _ ?sidem A17.out).mono ?_); (case sidem => exact z20); rintro e w30 ⟨v408, rfl, ho0, hb⟩; refine ⟨_, rfl, ?_⟩; have HO409 := aM (Kd.R_lower (Kd.R_new' (Kd.R_new' ho0 (Kd.R_lt (bR HO401))) (Kd.R_lt (bR HO404))) (below_size bB)); replace HO401 := aM (Kd.R_elder' (bR HO401) (Kd.R_base ho0) hb); replace HO404 := aM (Kd.R_elder' (bR HO404) (Kd.R_base ho0) hb); replace HB := aM (below_step bB hb); (try clear ho0)))
       go_roundg k1
       case measure => have := HK1.out; omega
       case rel => exact ⟨(x0_1.extract (t399 : Int).toNat x0_1.size), (y402), bS, H', ⟨by have := HK1.out; omega⟩, ⟨z9 HO404.out⟩, ⟨bB⟩⟩
      rw [if_neg c9] at H
      exact absurd H (by simp)
     rw [if_neg c8] at H
     exact absurd H (by simp)
    rw [if_neg c7] at H
    exact absurd H (by simp)
   rw [if_neg c6] at H
   have c6b0 : decide (0 < t399) = false := decide_eq_false c6
   clear c6
   by_cases c31 : x0_1.size ≤ 281474976710656
   ·rw [if_pos c31] at H
    have c31b0 := eq_true c31
    have c31b1 : decide (x0_1.size ≤ 281474976710656) = true := decide_eq_true c31
    clear c31
    obtain ⟨y410, hy410⟩ : ∃ y_ : List Int, y_ = (bytesOf x0_1) := ⟨_, rfl⟩
    replace H : ((impl_firstChar.f k1 4 y410).bind fun bt413 => (if bt413.2 = 0 then (if x3_1.length < 17592186044416 then (if 1 ≤ (x0_1.size : Int) then (impl_decodeWords.l0 k1 (x0_1.extract 1 x0_1.size) (x3_1 ++ [65533])) else (none)) else (none)) else (if x3_1.length < 17592186044416 then (if 0 ≤ bt413.2 then (if bt413.2 ≤ (x0_1.size : Int) then (impl_decodeWords.l0 k1 (x0_1.extract (bt413.2 : Int).toNat x0_1.size) (x3_1 ++ [bt413.1])) else (none)) else (none)) else (none)))) = some r := z0 hy410
    have Ny410 := aM hy410
    clear hy410
    replace H := Option.bind_eq_some_iff.mp H
    obtain ⟨⟨t413, t414⟩, A320, H⟩ := H
    replace H : (if t414 = 0 then (if x3_1.length < 17592186044416 then (if 1 ≤ (x0_1.size : Int) then (impl_decodeWords.l0 k1 (x0_1.extract 1 x0_1.size) (x3_1 ++ [65533])) else (none)) else (none)) else (if x3_1.length < 17592186044416 then (if 0 ≤ t414 then (if t414 ≤ (x0_1.size : Int) then (impl_decodeWords.l0 k1 (x0_1.extract (t414 : Int).toNat x0_1.size) (x3_1 ++ [t413])) else (none)) else (none)) else (none))) = some r := H
    have A32 := aM A320
    clear A320
    by_cases c33 : t414 = 0
    ·rw [if_pos c33] at H
     have c33b0 : (t414 == 0) = true := beq_iff_eq.mpr c33
     have c33b1 : (t414 != 0) = false := bne_eq_false_iff_eq.mpr c33
     clear c33
     by_cases c34 : x3_1.length < 17592186044416
     ·rw [if_pos c34] at H
      have LMc34 := aM c34
      clear c34
      obtain ⟨y415, hy415⟩ : ∃ y_ : List Int, y_ = (x3_1 ++ [65533]) := ⟨_, rfl⟩
      replace H : (if 1 ≤ (x0_1.size : Int) then (impl_decodeWords.l0 k1 (x0_1.extract 1 x0_1.size) y415) else (none)) = some r := z0 hy415
      have Ny415 := aM hy415
      clear hy415
      by_cases c35 : 1 ≤ (x0_1.size : Int)
      ·rw [if_pos c35] at H
       have c35b0 := eq_true c35
       have c35b1 : decide (1 ≤ (x0_1.size : Int)) = true := decide_eq_true c35
       clear c35
       have H' := aM H
       clear H
       try go_wp2_with (first | ((with_reducible refine gate_callee (f := 52) rfl ?_); refine gL_ (some 16) Tryz.func52 #[.string x0_1] ?_; (with_reducible refine (impl_toldWord.calls k1 x0_1 t398 t399 _ ?sidem A5.out).mono ?_); (case sidem => exact z20); rintro e w36 ⟨v400, rfl, ho0, hb⟩; refine ⟨_, rfl, ?_⟩; have HO401 := aM (Kd.R_lower (Kd.R_new' ho0 (Kd.R_lt (bR HO_3))) (below_size bB)); replace HO_3 := aM (Kd.R_elder' (bR HO_3) (Kd.R_base ho0) hb); replace HB := aM (below_step bB hb); (try clear ho0)) | ((with_reducible refine gate_dst (N := 42) rfl ?_); refine Kd.R_conv _ 5 rfl (N := 42) rfl 9 22 _ rfl x0_1 rfl Tryz.underlying9 Tryz.underlying22 Tryz.underlying5 (ok := fun _ => True) trivial (pI) (Below.refl _ _) (Nat.le_refl _) ?_; intro v411 w37 ho38 hb hg_ hnew_; clear hg_ hnew_; (first | rw [← Ny410.out] at ho38 | (simp only [Int.reduceToNat] at ho38; rw [← Ny410.out] at ho38)); replace HO_3 := aM (Kd.R_below (bR HO_3) hb); replace HO401 := aM (Kd.R_below (bR HO401) hb); have HO412 := aM (Kd.R_lower ho38 (below_size bB)); replace HB := aM (below_step bB hb); clear hb ho38; obtain ⟨Ao39, co39, eo39⟩ := Kd.R_slice HO412.out; subst eo39) | ((with_reducible refine gate_callee (f := 54) rfl ?_); refine gL_ (some 43) Tryz.func54 #[.int .i64 4, .slice Ao39 y410.length co39] ?_; (with_reducible refine (impl_firstChar.calls k1 4 _ _ y410 t413 t414 _ ?side1 ?side2 A32.out).mono ?_); (case side1 => exact z4 HO412.out); (case side2 => exact (Kd.R_reads' HO412.out).2.1); rintro e w40 ⟨rfl, hb⟩; refine ⟨_, rfl, ?_⟩; replace HO_3 := aM (Kd.R_below (bR HO_3) hb); replace HO401 := aM (Kd.R_below (bR HO401) hb); replace HO412 := aM (Kd.R_below (bR HO412) hb); replace HB := aM (below_step bB hb); (try clear hi)))
       replace HO_3 := aM (Kd.R_drew HO_3.out)
       replace HO401 := aM (Kd.R_drew HO401.out)
       replace HO412 := aM (Kd.R_drew HO412.out)
       replace HB := aM (below_drew1 HB.out)
       refine start_ (n := 9) (S := fun w' => True) (ds := []) (bsA 9 0) (by kernel_rfl) rfl rfl trivial (fun hHeld => ?_); refine with_tabW impl_decodeWords.tab14 impl_decodeWords.bits14 (fun HT_ HW_ => ?_)
       generalize w40.drew = w41 at HO_3 HO401 HO412 HB hHeld ⊢
       refine pa_ (i := 0) (N := some 48) (bsA 9 1) (h := ?_)
       refine pa_ (i := 1) (N := some 49) (bsA 9 3) (h := ?_)
       refine pa_ (i := 4) (N := some 52) (bsA 9 19) (h := ?_)
       refine pa_ (i := 5) (N := some 53) (bsA 9 51) (h := ?_)
       refine pa_ (i := 6) (N := some 54) (bsA 9 115) (h := ?_)
       refine one_ (i := 2) (N := some 50) (bsA 9 119) rfl rfl (one_of HT_.out (by kernel_rfl)) (by decide) (fun K hK => ?_)
       refine value_ (w1 := ?_) (v := ?_) (by rfl) rfl ?_ ?_
       rotate_left 2
       ·go_simp
        constructor
        ·rfl
        rfl
       refine hK.out _ _ trivial (fun hHeld => ?_)
       clear hK K
       refine na_ (N := some 50) (h := ?_)
       refine one_ (i := 3) (N := some 51) (bsA 9 127) rfl rfl (one_of HT_.out (by kernel_rfl)) (by decide) (fun K hK => ?_)
       refine Kd.R_append_step (Kd.int .i64) (w0 := w) w.heap.size (by rfl) (.tmp 48) (.tmp 50) 23 2 (.int .i64 0) 8 rfl Tryz.underlying23 info2 rfl (by decide) (by omega) u3 x3_1 65533 [.int .i64 65533] (fun k_ => some k_ ≠ (v400 : Value).ownBlock) (fun _ => False) rfl rfl ?aP (fun _ hk => hk.elim) ?aF ?aO ?aB ?aS ?aL ?_
       (case aP => exact rfl)
       (case aB => exact bB)
       (case aF => exact (fun k_ hk => Kd.fresh' (Kd.R_lt (bR HO401)) k_ hk))
       (case aO => exact z13 HO_3.out)
       (case aS => exact (below_size bB))
       (case aL => have := LMc34.out; omega)
       intro v416 w42 ho hb hg hat
       rw [← Ny415.out] at ho
       have n0_ := aM (Kd.R_after (ok := (fun _ => True)) (bR HO401) hg hat)
       have n1_ := aM (Kd.R_over' (bR HO412) (Kd.R_typed (bR HO_3)) (by decide) hg)
       have n2_ := aM (hb)
       have n3_ := aM (ho)
       clear HO401
       clear HO412
       clear HB
       clear HO_3
       have HO401 := n0_
       have HO412 := n1_
       have HB := n2_
       have HO417 := n3_
       clear n0_ n1_ n2_ n3_
       clear ho hb hg hat
       refine hK.out _ _ trivial (fun hHeld => ?_)
       clear hK K
       refine na_ (N := some 51) (h := ?_)
       refine pa_ (i := 7) (N := some 3) (bsA 9 255) (h := ?_)
       refine pa_ (i := 8) (N := some 0) (bsA 9 511) (h := ?_)
       refine done_ (done_of HT_.out (by kernel_rfl)) ?_
       try go_wp2
       go_roundg k1
       case measure => have := HK1.out; omega
       case rel => exact ⟨(x0_1.extract 1 x0_1.size), (y415), bS, H', ⟨by have := HK1.out; omega⟩, ⟨z9 HO417.out⟩, ⟨bB⟩⟩
      rw [if_neg c35] at H
      exact absurd H (by simp)
     rw [if_neg c34] at H
     exact absurd H (by simp)
    rw [if_neg c33] at H
    have c33b0 : (t414 == 0) = false := beq_eq_false_iff_ne.mpr c33
    have c33b1 : (t414 != 0) = true := bne_iff_ne.mpr c33
    by_cases c43 : x3_1.length < 17592186044416
    ·rw [if_pos c43] at H
     have LMc43 := aM c43
     clear c43
     obtain ⟨y418, hy418⟩ : ∃ y_ : List Int, y_ = (x3_1 ++ [t413]) := ⟨_, rfl⟩
     replace H : (if 0 ≤ t414 then (if t414 ≤ (x0_1.size : Int) then (impl_decodeWords.l0 k1 (x0_1.extract (t414 : Int).toNat x0_1.size) y418) else (none)) else (none)) = some r := z0 hy418
     have Ny418 := aM hy418
     clear hy418
     by_cases c44 : 0 ≤ t414
     ·rw [if_pos c44] at H
      have c44b0 := eq_true c44
      have c44b1 : decide (0 ≤ t414) = true := decide_eq_true c44
      clear c44
      by_cases c45 : t414 ≤ (x0_1.size : Int)
      ·rw [if_pos c45] at H
       have c45b0 := eq_true c45
       have c45b1 : decide (t414 ≤ (x0_1.size : Int)) = true := decide_eq_true c45
       clear c45
       have H' := aM H
       clear H
       try go_wp2_with (first | ((with_reducible refine gate_callee (f := 52) rfl ?_); refine gL_ (some 16) Tryz.func52 #[.string x0_1] ?_; (with_reducible refine (impl_toldWord.calls k1 x0_1 t398 t399 _ ?sidem A5.out).mono ?_); (case sidem => exact z20); rintro e w46 ⟨v400, rfl, ho0, hb⟩; refine ⟨_, rfl, ?_⟩; have HO401 := aM (Kd.R_lower (Kd.R_new' ho0 (Kd.R_lt (bR HO_3))) (below_size bB)); replace HO_3 := aM (Kd.R_elder' (bR HO_3) (Kd.R_base ho0) hb); replace HB := aM (below_step bB hb); (try clear ho0)) | ((with_reducible refine gate_dst (N := 42) rfl ?_); refine Kd.R_conv _ 5 rfl (N := 42) rfl 9 22 _ rfl x0_1 rfl Tryz.underlying9 Tryz.underlying22 Tryz.underlying5 (ok := fun _ => True) trivial (pI) (Below.refl _ _) (Nat.le_refl _) ?_; intro v411 w47 ho48 hb hg_ hnew_; clear hg_ hnew_; (first | rw [← Ny410.out] at ho48 | (simp only [Int.reduceToNat] at ho48; rw [← Ny410.out] at ho48)); replace HO_3 := aM (Kd.R_below (bR HO_3) hb); replace HO401 := aM (Kd.R_below (bR HO401) hb); have HO412 := aM (Kd.R_lower ho48 (below_size bB)); replace HB := aM (below_step bB hb); clear hb ho48; obtain ⟨Ao49, co49, eo49⟩ := Kd.R_slice HO412.out; subst eo49) | ((with_reducible refine gate_callee (f := 54) rfl ?_); refine gL_ (some 43) Tryz.func54 #[.int .i64 4, .slice Ao49 y410.length co49] ?_; (with_reducible refine (impl_firstChar.calls k1 4 _ _ y410 t413 t414 _ ?side1 ?side2 A32.out).mono ?_); (case side1 => exact z4 HO412.out); (case side2 => exact (Kd.R_reads' HO412.out).2.1); rintro e w50 ⟨rfl, hb⟩; refine ⟨_, rfl, ?_⟩; replace HO_3 := aM (Kd.R_below (bR HO_3) hb); replace HO401 := aM (Kd.R_below (bR HO401) hb); replace HO412 := aM (Kd.R_below (bR HO412) hb); replace HB := aM (below_step bB hb); (try clear hi)))
       replace HO_3 := aM (Kd.R_drew HO_3.out)
       replace HO401 := aM (Kd.R_drew HO401.out)
       replace HO412 := aM (Kd.R_drew HO412.out)
       replace HB := aM (below_drew1 HB.out)
       refine start_ (n := 9) (S := fun w' => True) (ds := []) (bsA 9 0) (by kernel_rfl) rfl rfl trivial (fun hHeld => ?_); refine with_tabW impl_decodeWords.tab14 impl_decodeWords.bits14 (fun HT_ HW_ => ?_)
       generalize w50.drew = w51 at HO_3 HO401 HO412 HB hHeld ⊢
       refine pa_ (i := 0) (N := some 48) (bsA 9 1) (h := ?_)
       refine pa_ (i := 1) (N := some 49) (bsA 9 3) (h := ?_)
       refine pa_ (i := 4) (N := some 52) (bsA 9 19) (h := ?_)
       refine pa_ (i := 5) (N := some 53) (bsA 9 51) (h := ?_)
       refine pa_ (i := 6) (N := some 54) (bsA 9 115) (h := ?_)
       refine one_ (i := 2) (N := some 50) (bsA 9 119) rfl rfl (one_of HT_.out (by kernel_rfl)) (by decide) (fun K hK => ?_)
       refine value_ (w1 := ?_) (v := ?_) (by rfl) rfl ?_ ?_
       rotate_left 2
       ·go_simp
        constructor
        ·rfl
        rfl
       refine hK.out _ _ trivial (fun hHeld => ?_)
       clear hK K
       refine na_ (N := some 50) (h := ?_)
       refine one_ (i := 3) (N := some 51) (bsA 9 127) rfl rfl (one_of HT_.out (by kernel_rfl)) (by decide) (fun K hK => ?_)
       refine Kd.R_append_step (Kd.int .i64) (w0 := w) w.heap.size (by rfl) (.tmp 48) (.tmp 50) 23 2 (.int .i64 0) 8 rfl Tryz.underlying23 info2 rfl (by decide) (by omega) u3 x3_1 t413 [.int .i64 t413] (fun k_ => some k_ ≠ (v400 : Value).ownBlock) (fun _ => False) rfl rfl ?aP (fun _ hk => hk.elim) ?aF ?aO ?aB ?aS ?aL ?_
       (case aP => exact rfl)
       (case aB => exact bB)
       (case aF => exact (fun k_ hk => Kd.fresh' (Kd.R_lt (bR HO401)) k_ hk))
       (case aO => exact z13 HO_3.out)
       (case aS => exact (below_size bB))
       (case aL => have := LMc43.out; omega)
       intro v419 w52 ho hb hg hat
       rw [← Ny418.out] at ho
       have n0_ := aM (Kd.R_after (ok := (fun _ => True)) (bR HO401) hg hat)
       have n1_ := aM (Kd.R_over' (bR HO412) (Kd.R_typed (bR HO_3)) (by decide) hg)
       have n2_ := aM (hb)
       have n3_ := aM (ho)
       clear HO401
       clear HO412
       clear HB
       clear HO_3
       have HO401 := n0_
       have HO412 := n1_
       have HB := n2_
       have HO420 := n3_
       clear n0_ n1_ n2_ n3_
       clear ho hb hg hat
       refine hK.out _ _ trivial (fun hHeld => ?_)
       clear hK K
       refine na_ (N := some 51) (h := ?_)
       refine pa_ (i := 7) (N := some 3) (bsA 9 255) (h := ?_)
       refine pa_ (i := 8) (N := some 0) (bsA 9 511) (h := ?_)
       refine done_ (done_of HT_.out (by kernel_rfl)) ?_
       try go_wp2
       go_roundg k1
       case measure => have := HK1.out; omega
       case rel => exact ⟨(x0_1.extract (t414 : Int).toNat x0_1.size), (y418), bS, H', ⟨by have := HK1.out; omega⟩, ⟨z9 HO420.out⟩, ⟨bB⟩⟩
      rw [if_neg c45] at H
      exact absurd H (by simp)
     rw [if_neg c44] at H
     exact absurd H (by simp)
    rw [if_neg c43] at H
    exact absurd H (by simp)
   rw [if_neg c31] at H
   exact absurd H (by simp)
def impl_DecodeWords.f (k : Nat) (a0 : ByteArray) : Option (Int × List Int) := if (a0.size : Int) > 400 then (some (2, ([] : List Int))) else ((impl_decodeWords.f k a0).bind fun t422 => (if (t422.length : Int) > 400 then (some (2, ([] : List Int))) else (some (0, t422))))
set_option maxHeartbeats 8000000 in
set_option maxRecDepth 100000 in
theorem impl_DecodeWords.calls (k : Nat) (a0 : ByteArray) (r1 : Int) (r2 : List Int) (w : World) (hm_ : ∃ m, w.cell? ⟨0, 0, none⟩ = some (.int .i64 m)) (h : impl_DecodeWords.f k a0 = some (r1, r2)) :
  Calls Tryz.prog 15 #[.string a0] w fun e w' => ∃ v1_ : Value, e = .returned (.agg #[.int .i64 r1, v1_]) ∧ Kd.R (Kd.int .i64) 2 w' w.heap.size (fun _ => True) v1_ r2 ∧ Below w.heap.size w w' := by
 have HM_ := aM hm_
 clear hm_
 have hu25 := Tryz.underlying25
 have HB := aM (Below.refl w.heap.size w)
 have H : (if (a0.size : Int) > 400 then (some (2, ([] : List Int))) else ((impl_decodeWords.f k a0).bind fun t422 => (if (t422.length : Int) > 400 then (some (2, ([] : List Int))) else (some (0, t422))))) = some (r1, r2) := h
 clear h
 by_cases c2 : (a0.size : Int) > 400
 ·rw [if_pos c2] at H
  have c2b0 : decide (400 < (a0.size : Int)) = true := decide_eq_true c2
  have c2b1 : decide (400 < a0.size) = true := decide_eq_true (by omega)
  clear c2
  simp only [Option.some.injEq, Prod.mk.injEq] at H
  obtain ⟨rfl, rfl⟩ := H
  go_enter Tryz.func15, Tryz.ntmps15
  go_wp2_with (first | ((with_reducible refine gate_dst (N := 2) rfl ?_); refine box_event ?hg (N := 2) ?hd (cs := #[.int .i64 0, .slice none 0 0]) (t := 25) ?hr ?_; (case hd => rfl); (case hg => rfl); (case hr => exact z10); intro gb421 hg w3 hbox hb; have BK421 := aM (hbox); have GW421 := aM ((z21 : w.heap.size ≤ gb421)); have GE421 := aM ((z21 : w.heap.size ≤ gb421)); replace HB := aM (below_step bB hb); clear hb hbox hg; have hcz4_0 : w3.cell? ⟨gb421, 0, none⟩ = some (.int .i64 0) := (blk_cell BK421.out 0).trans rfl; have hcz4_1 : w3.cell? ⟨gb421, 1, none⟩ = some (.slice none 0 0) := (blk_cell BK421.out 1).trans rfl; have hfz4_0 := blk_frozen BK421.out 0; have hfz4_1 := blk_frozen BK421.out 1))
  refine bodyPost_ret (results_cell_row rfl _ _ gb421 25 #[.int .i64 2, .slice none 0 0] (0, 0) _ rfl (z8 BK421.out) Tryz.underlying25 rfl (by kernel_rfl)) rfl ?_
  exact ⟨_, bE, z6, bG GE421⟩
 rw [if_neg c2] at H
 have c2b0 : decide (400 < (a0.size : Int)) = false := decide_eq_false c2
 have c2b1 : decide (400 < a0.size) = false := decide_eq_false (by omega)
 clear c2
 replace H := Option.bind_eq_some_iff.mp H
 obtain ⟨t422, A50, H⟩ := H
 replace H : (if (t422.length : Int) > 400 then (some (2, ([] : List Int))) else (some (0, t422))) = some (r1, r2) := H
 have A5 := aM A50
 clear A50
 by_cases c6 : (t422.length : Int) > 400
 ·rw [if_pos c6] at H
  have c6b0 : decide (400 < (t422.length : Int)) = true := decide_eq_true c6
  have c6b1 : decide (400 < t422.length) = true := decide_eq_true (by omega)
  clear c6
  simp only [Option.some.injEq, Prod.mk.injEq] at H
  obtain ⟨rfl, rfl⟩ := H
  go_enter Tryz.func15, Tryz.ntmps15
  go_wp2_with (first | ((with_reducible refine gate_dst (N := 2) rfl ?_); refine box_event ?hg (N := 2) ?hd (cs := #[.int .i64 0, .slice none 0 0]) (t := 25) ?hr ?_; (case hd => rfl); (case hg => rfl); (case hr => exact z10); intro gb421 hg w7 hbox hb; have BK421 := aM (hbox); have GW421 := aM ((z21 : w.heap.size ≤ gb421)); have GE421 := aM ((z21 : w.heap.size ≤ gb421)); replace HB := aM (below_step bB hb); clear hb hbox hg) | ((with_reducible refine gate_callee (f := 33) rfl ?_); refine gL_ (some 9) Tryz.func33 #[.string a0] ?_; (with_reducible refine (impl_decodeWords.calls k a0 t422 _ ?sidem A5.out).mono ?_); (case sidem => exact z20); rintro e w8 ⟨v423, rfl, ho0, hb⟩; refine ⟨_, rfl, ?_⟩; have HO424 := aM (Kd.R_lower ho0 (below_size (bG GE421))); replace BK421 := aM (blk_below (g := gb421) (o := .cells #[.int .i64 0, .slice none 0 0] 25 (0, 0)) (bL BK421) hb); replace HB := aM (below_step (bG GE421) hb); (try clear ho0); obtain ⟨Ao9, co9, eo9⟩ := Kd.R_slice HO424.out; subst eo9; have hcz10_0 : w8.cell? ⟨gb421, 0, none⟩ = some (.int .i64 0) := (blk_cell BK421.out 0).trans rfl; have hcz10_1 : w8.cell? ⟨gb421, 1, none⟩ = some (.slice none 0 0) := (blk_cell BK421.out 1).trans rfl; have hfz10_0 := blk_frozen BK421.out 0; have hfz10_1 := blk_frozen BK421.out 1))
  refine bodyPost_ret (results_cell_row rfl _ _ gb421 25 #[.int .i64 2, .slice none 0 0] (0, 0) _ rfl (z8 BK421.out) Tryz.underlying25 rfl (by kernel_rfl)) rfl ?_
  exact ⟨_, bE, z6, bG GE421⟩
 rw [if_neg c6] at H
 have c6b0 : decide (400 < (t422.length : Int)) = false := decide_eq_false c6
 have c6b1 : decide (400 < t422.length) = false := decide_eq_false (by omega)
 clear c6
 simp only [Option.some.injEq, Prod.mk.injEq] at H
 obtain ⟨rfl, rfl⟩ := H
 go_enter Tryz.func15, Tryz.ntmps15
 go_wp2_with (first | ((with_reducible refine gate_dst (N := 2) rfl ?_); refine box_event ?hg (N := 2) ?hd (cs := #[.int .i64 0, .slice none 0 0]) (t := 25) ?hr ?_; (case hd => rfl); (case hg => rfl); (case hr => exact z10); intro gb421 hg w11 hbox hb; have BK421 := aM (hbox); have GW421 := aM ((z21 : w.heap.size ≤ gb421)); have GE421 := aM ((z21 : w.heap.size ≤ gb421)); replace HB := aM (below_step bB hb); clear hb hbox hg) | ((with_reducible refine gate_callee (f := 33) rfl ?_); refine gL_ (some 9) Tryz.func33 #[.string a0] ?_; (with_reducible refine (impl_decodeWords.calls k a0 t422 _ ?sidem A5.out).mono ?_); (case sidem => exact z20); rintro e w12 ⟨v423, rfl, ho0, hb⟩; refine ⟨_, rfl, ?_⟩; have HO424 := aM (Kd.R_lower ho0 (below_size (bG GE421))); replace BK421 := aM (blk_below (g := gb421) (o := .cells #[.int .i64 0, .slice none 0 0] 25 (0, 0)) (bL BK421) hb); replace HB := aM (below_step (bG GE421) hb); (try clear ho0); obtain ⟨Ao13, co13, eo13⟩ := Kd.R_slice HO424.out; subst eo13; have hcz14_0 : w12.cell? ⟨gb421, 0, none⟩ = some (.int .i64 0) := (blk_cell BK421.out 0).trans rfl; have hcz14_1 : w12.cell? ⟨gb421, 1, none⟩ = some (.slice none 0 0) := (blk_cell BK421.out 1).trans rfl; have hfz14_0 := blk_frozen BK421.out 0; have hfz14_1 := blk_frozen BK421.out 1))
 refine bodyPost_ret (results_cell_row rfl _ _ gb421 25 #[.int .i64 0, .slice Ao13 t422.length co13] (0, 0) _ rfl (z18 BK421.out) Tryz.underlying25 rfl (by kernel_rfl)) rfl ?_
 exact ⟨_, bE, by (with_reducible repeat (first | apply Kd.R_alloc | apply Kd.R_drewN | apply Kd.R_drew)); exact Kd.R_mono (Kd.R_far (p := ⟨gb421, 1, none⟩) (Kd.R_far (p := ⟨gb421, 0, none⟩) (Kd.R_types HO424.out BK421.out (by decide)) (fun _ hk => hk.2) (.int .i64 0)) (fun _ hk => hk.2) (.slice Ao13 t422.length co13)) (fun _ hk => trivial), bG GE421⟩
def spec_l4Gap.l0 : Nat → ByteArray → Int → Int → Option (Int)
 | 0, _, _, _ => none
 | k + 1, x0, x1, x5 => if (wrap64 (x1 + x5)) < (x0.size : Int) then (if 0 ≤ (wrap64 (x1 + x5)) then (if (bt x0 (wrap64 (x1 + x5))) = 32 then (spec_l4Gap.l0 k x0 x1 (wrap64 (x5 + 1))) else (if (bt x0 (wrap64 (x1 + x5))) = 9 then (spec_l4Gap.l0 k x0 x1 (wrap64 (x5 + 1))) else (some x5))) else (none)) else (some x5)
def spec_l4Gap.f (k : Nat) (a0 : ByteArray) (a1 : Int) : Option (Int) := spec_l4Gap.l0 k a0 a1 0
set_option maxHeartbeats 8000000 in
set_option maxRecDepth 100000 in
theorem spec_l4Gap.calls (k : Nat) (a0 : ByteArray) (a1 : Int) (r : Int) (w : World) (h : spec_l4Gap.f k a0 a1 = some r) :
  Calls Tryz.prog 55 #[.string a0, .int .i64 a1] w fun e w' => e = .returned (.int .i64 r) ∧ Drawn0 w w' := by
 have H : (spec_l4Gap.l0 k a0 a1 0) = some r := h
 clear h
 have H' := aM H
 clear H
 go_enter Tryz.func55, Tryz.ntmps55
 go_wp2
 go_loopg [5] k (fun kq v5 w' => ∃ (x5_1 : Int), v5 = .int .i64 x5_1 ∧ Aside0 (spec_l4Gap.l0 kq a0 a1 x5_1 = some r) ∧ Aside0 (kq ≤ k) ∧ Drawn0 w w')
 case atStart => exact ⟨(0), bS, H', ⟨Nat.le_refl _⟩, z5⟩
 case round =>
  clear H'
  try clear p2
  obtain ⟨x5_1, rfl, HA, HK1, ⟨m1, rfl⟩⟩ := hrel
  cases gk with
  | zero => exact absurd HA.out (by simp [spec_l4Gap.l0])
  | succ k1 =>
   have H := HA.out
   clear HA
   simp only [spec_l4Gap.l0] at H
   by_cases c3 : (wrap64 (a1 + x5_1)) < (a0.size : Int)
   ·rw [if_pos c3] at H
    have c3b0 : decide ((wrap64 (a1 + x5_1)) < (a0.size : Int)) = true := decide_eq_true c3
    clear c3
    obtain ⟨ji4, hji4⟩ : ∃ j_ : Int, (wrap64 (a1 + x5_1)) = j_ := ⟨_, rfl⟩
    replace H : (if 0 ≤ (ji4) then (if (bt a0 (ji4)) = 32 then (spec_l4Gap.l0 k1 a0 a1 (wrap64 (x5_1 + 1))) else (if (bt a0 (ji4)) = 9 then (spec_l4Gap.l0 k1 a0 a1 (wrap64 (x5_1 + 1))) else (some x5_1))) else (none)) = some r := by first | (rw [hji4] at H; exact H) | (simp only [hji4] at H ⊢; exact H)
    (try rw [hji4] at c3b0)
    have hji4w : (IntKind.i64.wrap (a1 + x5_1)) = ji4 := (i64_w _).trans hji4
    by_cases c5 : 0 ≤ (ji4)
    ·rw [if_pos c5] at H
     have c5b0 : decide (0 ≤ (ji4)) = true := decide_eq_true c5
     clear c5
     by_cases c7 : (bt a0 (ji4)) = 32
     ·rw [if_pos c7] at H
      have c7b0 : ((bt a0 (ji4)) == 32) = true := beq_iff_eq.mpr c7
      have c7b1 : ((bt a0 (ji4)) != 32) = false := bne_eq_false_iff_eq.mpr c7
      clear c7
      have H' := aM H
      clear H
      have p6 : 0 ≤ ((ji4) : Int) := pI
      have q6 : (ji4) < (a0.size : Int) := pI
      have hx6 := bt_at a0 (ji4)
      replace p6 := eq_true p6
      replace q6 := eq_true q6
      go_wp2
      go_roundg k1
      case measure => have := HK1.out; omega
      case rel => exact ⟨(wrap64 (x5_1 + 1)), bS, H', ⟨by have := HK1.out; omega⟩, z5⟩
     rw [if_neg c7] at H
     have c7b0 : ((bt a0 (ji4)) == 32) = false := beq_eq_false_iff_ne.mpr c7
     have c7b1 : ((bt a0 (ji4)) != 32) = true := bne_iff_ne.mpr c7
     by_cases c9 : (bt a0 (ji4)) = 9
     ·rw [if_pos c9] at H
      have c9b0 : ((bt a0 (ji4)) == 9) = true := beq_iff_eq.mpr c9
      have c9b1 : ((bt a0 (ji4)) != 9) = false := bne_eq_false_iff_eq.mpr c9
      clear c9
      have H' := aM H
      clear H
      have p6 : 0 ≤ ((ji4) : Int) := pI
      have q6 : (ji4) < (a0.size : Int) := pI
      have hx6 := bt_at a0 (ji4)
      replace p6 := eq_true p6
      replace q6 := eq_true q6
      have p8 : 0 ≤ ((ji4) : Int) := pI
      have q8 : (ji4) < (a0.size : Int) := pI
      have hx8 := bt_at a0 (ji4)
      replace p8 := eq_true p8
      replace q8 := eq_true q8
      go_wp2
      go_roundg k1
      case measure => have := HK1.out; omega
      case rel => exact ⟨(wrap64 (x5_1 + 1)), bS, H', ⟨by have := HK1.out; omega⟩, z5⟩
     rw [if_neg c9] at H
     have c9b0 : ((bt a0 (ji4)) == 9) = false := beq_eq_false_iff_ne.mpr c9
     have c9b1 : ((bt a0 (ji4)) != 9) = true := bne_iff_ne.mpr c9
     obtain rfl := Option.some.inj H
     have p6 : 0 ≤ ((ji4) : Int) := pI
     have q6 : (ji4) < (a0.size : Int) := pI
     have hx6 := bt_at a0 (ji4)
     replace p6 := eq_true p6
     replace q6 := eq_true q6
     have p8 : 0 ≤ ((ji4) : Int) := pI
     have q8 : (ji4) < (a0.size : Int) := pI
     have hx8 := bt_at a0 (ji4)
     replace p8 := eq_true p8
     replace q8 := eq_true q8
     go_wp2
     go_ret
     exact ⟨by first | rfl | (simp; done) | (simp only [← hji4] <;> (first | rfl | simp)) | (simp [*]; done), z5⟩
    rw [if_neg c5] at H
    exact absurd H (by simp)
   rw [if_neg c3] at H
   have c3b0 : decide ((wrap64 (a1 + x5_1)) < (a0.size : Int)) = false := decide_eq_false c3
   clear c3
   obtain rfl := Option.some.inj H
   go_wp2
   go_ret
   exact ⟨bS, z5⟩
def spec_l4Mark.l0 : Nat → ByteArray → Int → Option (Int)
 | 0, _, _ => none
 | k + 1, x0, x5 => if x5 < (x0.size : Int) then (if 0 ≤ x5 then (if (bt x0 x5) = 63 then (some x5) else (spec_l4Mark.l0 k x0 (wrap64 (x5 + 1)))) else (none)) else (some (-1))
def spec_l4Mark.f (k : Nat) (a0 : ByteArray) (a1 : Int) : Option (Int) := spec_l4Mark.l0 k a0 a1
set_option maxHeartbeats 8000000 in
set_option maxRecDepth 100000 in
theorem spec_l4Mark.calls (k : Nat) (a0 : ByteArray) (a1 : Int) (r : Int) (w : World) (h : spec_l4Mark.f k a0 a1 = some r) :
  Calls Tryz.prog 89 #[.string a0, .int .i64 a1] w fun e w' => e = .returned (.int .i64 r) ∧ Drawn0 w w' := by
 have H : (spec_l4Mark.l0 k a0 a1) = some r := h
 clear h
 have H' := aM H
 clear H
 go_enter Tryz.func89, Tryz.ntmps89
 go_wp2
 go_loopg [5] k (fun kq v5 w' => ∃ (x5_1 : Int), v5 = .int .i64 x5_1 ∧ Aside0 (spec_l4Mark.l0 kq a0 x5_1 = some r) ∧ Aside0 (kq ≤ k) ∧ Drawn0 w w')
 case atStart => exact ⟨(a1), bS, H', ⟨Nat.le_refl _⟩, z5⟩
 case round =>
  clear H'
  try clear p2
  obtain ⟨x5_1, rfl, HA, HK1, ⟨m1, rfl⟩⟩ := hrel
  cases gk with
  | zero => exact absurd HA.out (by simp [spec_l4Mark.l0])
  | succ k1 =>
   have H := HA.out
   clear HA
   simp only [spec_l4Mark.l0] at H
   by_cases c3 : x5_1 < (a0.size : Int)
   ·rw [if_pos c3] at H
    have c3b0 : decide (x5_1 < (a0.size : Int)) = true := decide_eq_true c3
    clear c3
    by_cases c4 : 0 ≤ x5_1
    ·rw [if_pos c4] at H
     have c4b0 : decide (0 ≤ x5_1) = true := decide_eq_true c4
     clear c4
     by_cases c6 : (bt a0 x5_1) = 63
     ·rw [if_pos c6] at H
      have c6b0 : ((bt a0 x5_1) == 63) = true := beq_iff_eq.mpr c6
      have c6b1 : ((bt a0 x5_1) != 63) = false := bne_eq_false_iff_eq.mpr c6
      clear c6
      obtain rfl := Option.some.inj H
      have p5 : 0 ≤ (x5_1 : Int) := pI
      have q5 : x5_1 < (a0.size : Int) := pI
      have hx5 := bt_at a0 x5_1
      replace p5 := eq_true p5
      replace q5 := eq_true q5
      go_wp2
      go_ret
      exact ⟨bS, z5⟩
     rw [if_neg c6] at H
     have c6b0 : ((bt a0 x5_1) == 63) = false := beq_eq_false_iff_ne.mpr c6
     have c6b1 : ((bt a0 x5_1) != 63) = true := bne_iff_ne.mpr c6
     have H' := aM H
     clear H
     have p5 : 0 ≤ (x5_1 : Int) := pI
     have q5 : x5_1 < (a0.size : Int) := pI
     have hx5 := bt_at a0 x5_1
     replace p5 := eq_true p5
     replace q5 := eq_true q5
     go_wp2
     go_roundg k1
     case measure => have := HK1.out; omega
     case rel => exact ⟨(wrap64 (x5_1 + 1)), bS, H', ⟨by have := HK1.out; omega⟩, z5⟩
    rw [if_neg c4] at H
    exact absurd H (by simp)
   rw [if_neg c3] at H
   have c3b0 : decide (x5_1 < (a0.size : Int)) = false := decide_eq_false c3
   clear c3
   obtain rfl := Option.some.inj H
   go_wp2
   go_ret
   exact ⟨bS, z5⟩
def spec_l2Lower.l0 : Nat → List Int → Int → Option (ByteArray)
 | 0, _, _ => none
 | k + 1, x3, x4 => if x4 < (x3.length : Int) then (if 0 ≤ x4 then (if (rd x3 x4) ≥ 65 then (if (rd x3 x4) ≤ 90 then (spec_l2Lower.l0 k (x3.set (x4 : Int).toNat (((rd x3 x4) + 32) % 256)) (wrap64 (x4 + 1))) else (spec_l2Lower.l0 k x3 (wrap64 (x4 + 1)))) else (spec_l2Lower.l0 k x3 (wrap64 (x4 + 1)))) else (none)) else (some (strOfNums x3))
def spec_l2Lower.f (k : Nat) (a0 : ByteArray) : Option (ByteArray) := if a0.size ≤ 281474976710656 then (spec_l2Lower.l0 k (bytesOf a0) 0) else (none)
set_option maxHeartbeats 8000000 in
set_option maxRecDepth 100000 in
theorem spec_l2Lower.calls (k : Nat) (a0 : ByteArray) (r : ByteArray) (w : World) (h : spec_l2Lower.f k a0 = some r) :
  Calls Tryz.prog 70 #[.string a0] w fun e w' => e = .returned (.string r) ∧ Below w.heap.size w w' := by
 have HB := aM (Below.refl w.heap.size w)
 have H : (if a0.size ≤ 281474976710656 then (spec_l2Lower.l0 k (bytesOf a0) 0) else (none)) = some r := h
 clear h
 by_cases c2 : a0.size ≤ 281474976710656
 ·rw [if_pos c2] at H
  have c2b0 := eq_true c2
  have c2b1 : decide (a0.size ≤ 281474976710656) = true := decide_eq_true c2
  clear c2
  obtain ⟨y425, hy425⟩ : ∃ y_ : List Int, y_ = (bytesOf a0) := ⟨_, rfl⟩
  replace H : (spec_l2Lower.l0 k y425 0) = some r := z0 hy425
  have Ny425 := aM hy425
  clear hy425
  have H' := aM H
  clear H
  go_enter Tryz.func70, Tryz.ntmps70
  go_wp2_with (first | ((with_reducible refine gate_dst (N := 6) rfl ?_); refine Kd.R_conv _ 5 rfl (N := 6) rfl 9 22 _ rfl a0 rfl Tryz.underlying9 Tryz.underlying22 Tryz.underlying5 (ok := fun _ => True) trivial (pI) (Below.refl _ _) (Nat.le_refl _) ?_; intro v426 w3 ho4 hb hg_ hnew_; clear hg_ hnew_; (first | rw [← Ny425.out] at ho4 | (simp only [Int.reduceToNat] at ho4; rw [← Ny425.out] at ho4)); have HO427 := aM (Kd.R_lower ho4 (below_size bB)); replace HB := aM (below_step bB hb); clear hb ho4))
  go_loopg [4] k (fun kq v4 w' => ∃ (x3_1 : List Int) (x4_1 : Int), v4 = .int .i64 x4_1 ∧ Aside0 (spec_l2Lower.l0 kq x3_1 x4_1 = some r) ∧ Aside0 (kq ≤ k) ∧ Aside0 (Kd.R (Kd.int .u8) 5 w' w.heap.size (fun _ => True) v426 x3_1) ∧ Aside0 (Below w.heap.size w w'))
  case atStart => exact ⟨(y425), (0), bS, H', ⟨Nat.le_refl _⟩, ⟨bR HO427⟩, ⟨bB⟩⟩
  case round =>
   clear H'
   try clear c2
   try clear c2b0
   try clear c2b1
   try clear p2
   obtain ⟨x3_1, x4_1, rfl, HA, HK1, HO_3, HB⟩ := hrel
   cases gk with
   | zero => exact absurd HA.out (by simp [spec_l2Lower.l0])
   | succ k1 =>
    have H := HA.out
    clear HA
    simp only [spec_l2Lower.l0] at H
    by_cases c5 : x4_1 < (x3_1.length : Int)
    ·rw [if_pos c5] at H
     have c5b0 : decide (x4_1 < (x3_1.length : Int)) = true := decide_eq_true c5
     clear c5
     by_cases c6 : 0 ≤ x4_1
     ·rw [if_pos c6] at H
      have c6b0 : decide (0 ≤ x4_1) = true := decide_eq_true c6
      clear c6
      by_cases c7 : (rd x3_1 x4_1) ≥ 65
      ·rw [if_pos c7] at H
       have c7b0 : decide (65 ≤ (rd x3_1 x4_1)) = true := decide_eq_true c7
       clear c7
       by_cases c8 : (rd x3_1 x4_1) ≤ 90
       ·rw [if_pos c8] at H
        have c8b0 : decide ((rd x3_1 x4_1) ≤ 90) = true := decide_eq_true c8
        clear c8
        obtain ⟨y431, hy431⟩ : ∃ y_ : List Int, y_ = (x3_1.set (x4_1 : Int).toNat (((rd x3_1 x4_1) + 32) % 256)) := ⟨_, rfl⟩
        replace H : (spec_l2Lower.l0 k1 y431 (wrap64 (x4_1 + 1))) = some r := z0 hy431
        have Ny431 := aM hy431
        clear hy431
        have H' := aM H
        clear H
        obtain ⟨Ao10, co10, eo10⟩ := Kd.R_slice HO_3.out
        subst eo10
        have p428 : 0 ≤ (x4_1 : Int) := pI
        have q428 : x4_1 < (x3_1.length : Int) := pI
        obtain ⟨ad428, e428, hx428_0⟩ := Kd.at_int (Kd.R_reads' HO_3.out).2.2 x4_1 p428 q428
        cases e428
        replace p428 := eq_true p428
        replace q428 := eq_true q428
        have p429 : 0 ≤ (x4_1 : Int) := pI
        have q429 : x4_1 < (x3_1.length : Int) := pI
        obtain ⟨ad429, e429, hx429_0⟩ := Kd.at_int (Kd.R_reads' HO_3.out).2.2 x4_1 p429 q429
        obtain rfl : ad428 = ad429 := (by injection e429)
        replace p429 := eq_true p429
        replace q429 := eq_true q429
        have p430 : 0 ≤ (x4_1 : Int) := pI
        have q430 : x4_1 < (x3_1.length : Int) := pI
        obtain ⟨ad430, e430, hx430_0⟩ := Kd.at_int (Kd.R_reads' HO_3.out).2.2 x4_1 p430 q430
        obtain rfl : ad428 = ad430 := (by injection e430)
        replace p430 := eq_true p430
        replace q430 := eq_true q430
        have p9 : 0 ≤ (x4_1 : Int) := pI
        have q9 : (x4_1 : Int) < ((x3_1.length : Int) : Int) := pI
        obtain ⟨go9, co9, eo9, gb9, gl9, cl9, HG9⟩ := Kd.R_form HO_3.out (by omega)
        (first | cases eo9 | (injection eo9 with ea_ en_ ec_; (first | subst ea_ | (injection ea_ with ea_; subst ea_)); subst ec_; clear en_))
        have GB9 := aM gb9
        have GG9 := aM HG9
        clear gb9 gl9 HG9
        (first | simp only [add_plain] at hx428_0 | skip)
        (first | simp only [add_plain] at hx429_0 | skip)
        (first | simp only [add_plain] at hx430_0 | skip)
        obtain ⟨hx9_0, hf9_0⟩ := Kd.R_celln 0 HO_3.out (x4_1 : Int) p9 q9
        replace p9 := eq_true p9
        replace q9 := eq_true q9
        have HP11 := Kd.R_putg HO_3.out (x4_1 : Int) (((rd x3_1 x4_1) + 32) % 256)
        go_wp2_with (first | ((with_reducible refine gate_store (t := 5) (p := 32) rfl ?_); refine store_event (t := 5) (p := 32) (v := ?vo_w12) (w1 := (wr.setCell ⟨go9, (x4_1 : Int).toNat, none⟩ (.int .u8 (((rd x3_1 x4_1) + 32) % 256)))) ?hg ?ho ?hn ?hr ?_; (case ho => rfl); (case hg => rfl); (case hn => rfl); (case hr => exact z10); intro w12 hw; have hg : wr.grownBy w12 (some go9) := (by rw [hw]; exact HP11.2); have hp_ : Kd.R (Kd.int .u8) 5 w12 w.heap.size (fun _ => True) (.slice (some ⟨go9, 0, none⟩) x3_1.length co10) y431 := (by rw [hw, Ny431.out]; exact HP11.1); clear HP11; replace HO_3 := aM (hp_); replace HB := aM ((z53 GB9.out : Below w.heap.size w w12)); clear hg hw hp_))
        go_roundg k1
        case measure => have := HK1.out; omega
        case rel => exact ⟨(y431), (wrap64 (x4_1 + 1)), bS, H', ⟨by have := HK1.out; omega⟩, ⟨bR HO_3⟩, ⟨bB⟩⟩
       rw [if_neg c8] at H
       have c8b0 : decide ((rd x3_1 x4_1) ≤ 90) = false := decide_eq_false c8
       clear c8
       have H' := aM H
       clear H
       obtain ⟨Ao13, co13, eo13⟩ := Kd.R_slice HO_3.out
       subst eo13
       have p428 : 0 ≤ (x4_1 : Int) := pI
       have q428 : x4_1 < (x3_1.length : Int) := pI
       obtain ⟨ad428, e428, hx428_0⟩ := Kd.at_int (Kd.R_reads' HO_3.out).2.2 x4_1 p428 q428
       cases e428
       replace p428 := eq_true p428
       replace q428 := eq_true q428
       have p429 : 0 ≤ (x4_1 : Int) := pI
       have q429 : x4_1 < (x3_1.length : Int) := pI
       obtain ⟨ad429, e429, hx429_0⟩ := Kd.at_int (Kd.R_reads' HO_3.out).2.2 x4_1 p429 q429
       obtain rfl : ad428 = ad429 := (by injection e429)
       replace p429 := eq_true p429
       replace q429 := eq_true q429
       go_wp2
       go_roundg k1
       case measure => have := HK1.out; omega
       case rel => exact ⟨(x3_1), (wrap64 (x4_1 + 1)), bS, H', ⟨by have := HK1.out; omega⟩, ⟨bR HO_3⟩, ⟨bB⟩⟩
      rw [if_neg c7] at H
      have c7b0 : decide (65 ≤ (rd x3_1 x4_1)) = false := decide_eq_false c7
      clear c7
      have H' := aM H
      clear H
      obtain ⟨Ao14, co14, eo14⟩ := Kd.R_slice HO_3.out
      subst eo14
      have p428 : 0 ≤ (x4_1 : Int) := pI
      have q428 : x4_1 < (x3_1.length : Int) := pI
      obtain ⟨ad428, e428, hx428_0⟩ := Kd.at_int (Kd.R_reads' HO_3.out).2.2 x4_1 p428 q428
      cases e428
      replace p428 := eq_true p428
      replace q428 := eq_true q428
      go_wp2
      go_roundg k1
      case measure => have := HK1.out; omega
      case rel => exact ⟨(x3_1), (wrap64 (x4_1 + 1)), bS, H', ⟨by have := HK1.out; omega⟩, ⟨bR HO_3⟩, ⟨bB⟩⟩
     rw [if_neg c6] at H
     exact absurd H (by simp)
    rw [if_neg c5] at H
    have c5b0 : decide (x4_1 < (x3_1.length : Int)) = false := decide_eq_false c5
    clear c5
    obtain rfl := Option.some.inj H
    obtain ⟨Ao15, co15, eo15⟩ := Kd.R_slice HO_3.out
    subst eo15
    have hcv16 := own_string (P := Tryz.prog) Tryz.underlying22 Tryz.underlying5 Tryz.underlying9 (Kd.own_of_R HO_3.out); (try have hcv16d := fun nq_ : Nat => own_string (P := Tryz.prog) Tryz.underlying22 Tryz.underlying5 Tryz.underlying9 (Kd.own_of_R (Kd.R_drewN HO_3.out nq_)))
    go_wp2
    go_ret
    exact ⟨bE, bB⟩
 rw [if_neg c2] at H
 exact absurd H (by simp)
def spec_l2Name.f (a0 : Int) : Option (ByteArray) := (some (([(⟨#[]⟩ : ByteArray), (⟨#[117, 115, 45, 97, 115, 99, 105, 105]⟩ : ByteArray), (⟨#[105, 115, 111, 45, 56, 56, 53, 57, 45, 49]⟩ : ByteArray), (⟨#[105, 115, 111, 45, 56, 56, 53, 57, 45, 53]⟩ : ByteArray), (⟨#[117, 116, 102, 45, 56]⟩ : ByteArray), (⟨#[117, 116, 102, 45, 49, 54]⟩ : ByteArray)] : List ByteArray) : List ByteArray)).bind fun y432 => (if 0 ≤ a0 then (if a0 < (y432.length : Int) then (some (rdOf ByteArray.empty y432 a0)) else (none)) else (none))
set_option maxHeartbeats 8000000 in
set_option maxRecDepth 100000 in
theorem spec_l2Name.calls (a0 : Int) (r : ByteArray) (w : World) (h : spec_l2Name.f a0 = some r) :
  Calls Tryz.prog 119 #[.int .i64 a0] w fun e w' => e = .returned (.string r) ∧ Below w.heap.size w w' := by
 have HB := aM (Below.refl w.heap.size w)
 have H : ((some (([(⟨#[]⟩ : ByteArray), (⟨#[117, 115, 45, 97, 115, 99, 105, 105]⟩ : ByteArray), (⟨#[105, 115, 111, 45, 56, 56, 53, 57, 45, 49]⟩ : ByteArray), (⟨#[105, 115, 111, 45, 56, 56, 53, 57, 45, 53]⟩ : ByteArray), (⟨#[117, 116, 102, 45, 56]⟩ : ByteArray), (⟨#[117, 116, 102, 45, 49, 54]⟩ : ByteArray)] : List ByteArray) : List ByteArray)).bind fun y432 => (if 0 ≤ a0 then (if a0 < (y432.length : Int) then (some (rdOf ByteArray.empty y432 a0)) else (none)) else (none))) = some r := h
 clear h
 obtain ⟨y432, hy432⟩ : ∃ y_ : List ByteArray, y_ = (([(⟨#[]⟩ : ByteArray), (⟨#[117, 115, 45, 97, 115, 99, 105, 105]⟩ : ByteArray), (⟨#[105, 115, 111, 45, 56, 56, 53, 57, 45, 49]⟩ : ByteArray), (⟨#[105, 115, 111, 45, 56, 56, 53, 57, 45, 53]⟩ : ByteArray), (⟨#[117, 116, 102, 45, 56]⟩ : ByteArray), (⟨#[117, 116, 102, 45, 49, 54]⟩ : ByteArray)] : List ByteArray)) := ⟨_, rfl⟩
 replace H : (if 0 ≤ a0 then (if a0 < (y432.length : Int) then (some (rdOf ByteArray.empty y432 a0)) else (none)) else (none)) = some r := z0 hy432
 have Ny432 := aM hy432
 clear hy432
 by_cases c2 : 0 ≤ a0
 ·rw [if_pos c2] at H
  have c2b0 : decide (0 ≤ a0) = true := decide_eq_true c2
  clear c2
  by_cases c3 : a0 < (y432.length : Int)
  ·rw [if_pos c3] at H
   have c3b0 : decide (a0 < (y432.length : Int)) = true := decide_eq_true c3
   clear c3
   obtain rfl := Option.some.inj H
   go_enter Tryz.func119, Tryz.ntmps119
   go_wp2_with (first | ((with_reducible refine gate_dst (N := 3) rfl ?_); refine Kd.R_lit Kd.string _ 9 ?hg (N := 3) ?hd (xs := ([(⟨#[]⟩ : ByteArray), (⟨#[117, 115, 45, 97, 115, 99, 105, 105]⟩ : ByteArray), (⟨#[105, 115, 111, 45, 56, 56, 53, 57, 45, 49]⟩ : ByteArray), (⟨#[105, 115, 111, 45, 56, 56, 53, 57, 45, 53]⟩ : ByteArray), (⟨#[117, 116, 102, 45, 56]⟩ : ByteArray), (⟨#[117, 116, 102, 45, 49, 54]⟩ : ByteArray)] : List ByteArray)) (inner := [.string (⟨#[]⟩ : ByteArray), .string (⟨#[117, 115, 45, 97, 115, 99, 105, 105]⟩ : ByteArray), .string (⟨#[105, 115, 111, 45, 56, 56, 53, 57, 45, 49]⟩ : ByteArray), .string (⟨#[105, 115, 111, 45, 56, 56, 53, 57, 45, 53]⟩ : ByteArray), .string (⟨#[117, 116, 102, 45, 56]⟩ : ByteArray), .string (⟨#[117, 116, 102, 45, 49, 54]⟩ : ByteArray)]) (ok := fun _ => True) (okp := fun _ => True) ?hr ?hp (fun _ hk => hk) trivial (Below.refl _ _) (Nat.le_refl _) (by simp) ?_; (case hd => rfl); (case hg => rfl); (case hr => exact z10); (case hp => exact (Reps.one (show Kd.M Kd.string _ _ _ (⟨#[]⟩ : ByteArray) [.string (⟨#[]⟩ : ByteArray)] from rfl) (Reps.one (show Kd.M Kd.string _ _ _ (⟨#[117, 115, 45, 97, 115, 99, 105, 105]⟩ : ByteArray) [.string (⟨#[117, 115, 45, 97, 115, 99, 105, 105]⟩ : ByteArray)] from rfl) (Reps.one (show Kd.M Kd.string _ _ _ (⟨#[105, 115, 111, 45, 56, 56, 53, 57, 45, 49]⟩ : ByteArray) [.string (⟨#[105, 115, 111, 45, 56, 56, 53, 57, 45, 49]⟩ : ByteArray)] from rfl) (Reps.one (show Kd.M Kd.string _ _ _ (⟨#[105, 115, 111, 45, 56, 56, 53, 57, 45, 53]⟩ : ByteArray) [.string (⟨#[105, 115, 111, 45, 56, 56, 53, 57, 45, 53]⟩ : ByteArray)] from rfl) (Reps.one (show Kd.M Kd.string _ _ _ (⟨#[117, 116, 102, 45, 56]⟩ : ByteArray) [.string (⟨#[117, 116, 102, 45, 56]⟩ : ByteArray)] from rfl) (Reps.one (show Kd.M Kd.string _ _ _ (⟨#[117, 116, 102, 45, 49, 54]⟩ : ByteArray) [.string (⟨#[117, 116, 102, 45, 49, 54]⟩ : ByteArray)] from rfl) (Reps.none _ _)))))))); intro v433 w4 ho5 hb hg_ hnew_; clear hg_ hnew_; (first | rw [← Ny432.out] at ho5 | (simp only [Int.reduceToNat] at ho5; rw [← Ny432.out] at ho5)); have HO434 := aM (Kd.R_lower ho5 (below_size bB)); replace HB := aM (below_step bB hb); clear hb ho5; obtain ⟨Ao6, co6, eo6⟩ := Kd.R_slice HO434.out; subst eo6; have p435 : 0 ≤ (a0 : Int) := pI; have q435 : a0 < (y432.length : Int) := pI; obtain ⟨ad435, e435, hx435_0⟩ := Kd.at_string (Kd.R_reads' HO434.out).2.2 a0 p435 q435; cases e435; replace p435 := eq_true p435; replace q435 := eq_true q435))
   go_ret
   exact ⟨bE, bB⟩
  rw [if_neg c3] at H
  exact absurd H (by simp)
 rw [if_neg c2] at H
 exact absurd H (by simp)
def spec_l2Of.l0 : Nat → ByteArray → Int → Option (Int)
 | 0, _, _ => none
 | k + 1, x0, x3 => if x3 ≤ 5 then ((spec_l2Name.f x3).bind fun t436 => ((spec_l2Lower.f k x0).bind fun t437 => (if t436.toList = t437.toList then (some x3) else (spec_l2Of.l0 k x0 (wrap64 (x3 + 1)))))) else (some 0)
def spec_l2Of.f (k : Nat) (a0 : ByteArray) : Option (Int) := spec_l2Of.l0 k a0 1
set_option maxHeartbeats 8000000 in
set_option maxRecDepth 100000 in
theorem spec_l2Of.calls (k : Nat) (a0 : ByteArray) (r : Int) (w : World) (h : spec_l2Of.f k a0 = some r) :
  Calls Tryz.prog 90 #[.string a0] w fun e w' => e = .returned (.int .i64 r) ∧ Below w.heap.size w w' := by
 have HB := aM (Below.refl w.heap.size w)
 have H : (spec_l2Of.l0 k a0 1) = some r := h
 clear h
 have H' := aM H
 clear H
 go_enter Tryz.func90, Tryz.ntmps90
 go_wp2
 go_loopg [3] k (fun kq v3 w' => ∃ (x3_1 : Int), v3 = .int .i64 x3_1 ∧ Aside0 (spec_l2Of.l0 kq a0 x3_1 = some r) ∧ Aside0 (kq ≤ k) ∧ Aside0 (Below w.heap.size w w'))
 case atStart => exact ⟨(1), bS, H', ⟨Nat.le_refl _⟩, ⟨bB⟩⟩
 case round =>
  clear H'
  obtain ⟨x3_1, rfl, HA, HK1, HB⟩ := hrel
  cases gk with
  | zero => exact absurd HA.out (by simp [spec_l2Of.l0])
  | succ k1 =>
   have H := HA.out
   clear HA
   simp only [spec_l2Of.l0] at H
   by_cases c2 : x3_1 ≤ 5
   ·rw [if_pos c2] at H
    have c2b0 : decide (x3_1 ≤ 5) = true := decide_eq_true c2
    clear c2
    replace H := Option.bind_eq_some_iff.mp H
    obtain ⟨t436, A30, H⟩ := H
    replace H : ((spec_l2Lower.f k1 a0).bind fun t437 => (if t436.toList = t437.toList then (some x3_1) else (spec_l2Of.l0 k1 a0 (wrap64 (x3_1 + 1))))) = some r := H
    have A3 := aM A30
    clear A30
    replace H := Option.bind_eq_some_iff.mp H
    obtain ⟨t437, A40, H⟩ := H
    replace H : (if t436.toList = t437.toList then (some x3_1) else (spec_l2Of.l0 k1 a0 (wrap64 (x3_1 + 1)))) = some r := H
    have A4 := aM A40
    clear A40
    by_cases c5 : t436.toList = t437.toList
    ·rw [if_pos c5] at H
     have c5b0 : (t436.toList == t437.toList) = true := beq_iff_eq.mpr c5
     have c5b1 : (t436.toList != t437.toList) = false := bne_eq_false_iff_eq.mpr c5
     clear c5
     obtain rfl := Option.some.inj H
     go_wp2_with (first | ((with_reducible refine gate_callee (f := 119) rfl ?_); refine gL_ (some 9) Tryz.func119 #[.int .i64 x3_1] ?_; (with_reducible refine (spec_l2Name.calls x3_1 t436 _ A3.out).mono ?_); rintro e w6 ⟨rfl, hb⟩; refine ⟨_, rfl, ?_⟩; replace HB := aM (below_step bB hb); (try clear hi)) | ((with_reducible refine gate_callee (f := 70) rfl ?_); refine gL_ (some 11) Tryz.func70 #[.string a0] ?_; (with_reducible refine (spec_l2Lower.calls k1 a0 t437 _ A4.out).mono ?_); rintro e w7 ⟨rfl, hb⟩; refine ⟨_, rfl, ?_⟩; replace HB := aM (below_step bB hb); (try clear hi)))
     go_ret
     exact ⟨bE, bB⟩
    rw [if_neg c5] at H
    have c5b0 : (t436.toList == t437.toList) = false := beq_eq_false_iff_ne.mpr c5
    have c5b1 : (t436.toList != t437.toList) = true := bne_iff_ne.mpr c5
    have H' := aM H
    clear H
    go_wp2_with (first | ((with_reducible refine gate_callee (f := 119) rfl ?_); refine gL_ (some 9) Tryz.func119 #[.int .i64 x3_1] ?_; (with_reducible refine (spec_l2Name.calls x3_1 t436 _ A3.out).mono ?_); rintro e w8 ⟨rfl, hb⟩; refine ⟨_, rfl, ?_⟩; replace HB := aM (below_step bB hb); (try clear hi)) | ((with_reducible refine gate_callee (f := 70) rfl ?_); refine gL_ (some 11) Tryz.func70 #[.string a0] ?_; (with_reducible refine (spec_l2Lower.calls k1 a0 t437 _ A4.out).mono ?_); rintro e w9 ⟨rfl, hb⟩; refine ⟨_, rfl, ?_⟩; replace HB := aM (below_step bB hb); (try clear hi)))
    go_roundg k1
    case measure => have := HK1.out; omega
    case rel => exact ⟨(wrap64 (x3_1 + 1)), bS, H', ⟨by have := HK1.out; omega⟩, ⟨bB⟩⟩
   rw [if_neg c2] at H
   have c2b0 : decide (x3_1 ≤ 5) = false := decide_eq_false c2
   clear c2
   obtain rfl := Option.some.inj H
   go_wp2
   go_ret
   exact ⟨bE, bB⟩
def spec_l1Digit.l0 : Nat → Int → Int → Option (Int)
 | 0, _, _ => none
 | k + 1, x0, x3 => if x3 < 64 then ((spec_l1Base.f x3).bind fun t438 => (if t438 = x0 then (some x3) else (spec_l1Digit.l0 k x0 (wrap64 (x3 + 1))))) else (some (-1))
def spec_l1Digit.f (k : Nat) (a0 : Int) : Option (Int) := spec_l1Digit.l0 k a0 0
theorem spec_l1Digit.mono_l : ∀ k, (∀ y0 y1, LeO (spec_l1Digit.l0 k y0 y1) (spec_l1Digit.l0 (k + 1) y0 y1))
 | 0 => fun _ _ r h => by simp [spec_l1Digit.l0] at h
 | k + 1 => by
  have ih0 := spec_l1Digit.mono_l k
  ·intro y0 y1
   unfold spec_l1Digit.l0
   repeat' first
   | (with_reducible exact ih0 _ _)
   | (with_reducible exact LeO.refl _)
   | (with_reducible exact LeO.none _)
   | (with_reducible refine LeO.ite ?_ ?_)
   | (with_reducible refine LeO.bind ?_ (fun _ => ?_))
   | exact ih0 _ _
   | exact LeO.none _
   | refine LeO.ite ?_ ?_
   | refine LeO.bind ?_ (fun _ => ?_)
theorem spec_l1Digit.mono : ∀ a0 k, LeO (spec_l1Digit.f k a0) (spec_l1Digit.f (k + 1) a0) := by
 intro a0 k
 have ih0 := spec_l1Digit.mono_l k
 unfold spec_l1Digit.f
 repeat' first
   | (with_reducible exact ih0 _ _)
   | (with_reducible exact LeO.refl _)
   | (with_reducible exact LeO.none _)
   | (with_reducible refine LeO.ite ?_ ?_)
   | (with_reducible refine LeO.bind ?_ (fun _ => ?_))
   | exact ih0 _ _
   | exact LeO.none _
   | refine LeO.ite ?_ ?_
   | refine LeO.bind ?_ (fun _ => ?_)
set_option maxHeartbeats 8000000 in
set_option maxRecDepth 100000 in
theorem spec_l1Digit.calls (k : Nat) (a0 : Int) (r : Int) (w : World) (h : spec_l1Digit.f k a0 = some r) :
  Calls Tryz.prog 137 #[.int .u8 a0] w fun e w' => e = .returned (.int .i64 r) ∧ Drawn0 w w' := by
 have H : (spec_l1Digit.l0 k a0 0) = some r := h
 clear h
 have H' := aM H
 clear H
 go_enter Tryz.func137, Tryz.ntmps137
 go_wp2
 go_loopg [3] k (fun kq v3 w' => ∃ (x3_1 : Int), v3 = .int .i64 x3_1 ∧ Aside0 (spec_l1Digit.l0 kq a0 x3_1 = some r) ∧ Aside0 (kq ≤ k) ∧ Drawn0 w w')
 case atStart => exact ⟨(0), bS, H', ⟨Nat.le_refl _⟩, z5⟩
 case round =>
  clear H'
  try clear c1
  obtain ⟨x3_1, rfl, HA, HK1, ⟨m1, rfl⟩⟩ := hrel
  cases gk with
  | zero => exact absurd HA.out (by simp [spec_l1Digit.l0])
  | succ k1 =>
   have H := HA.out
   clear HA
   simp only [spec_l1Digit.l0] at H
   by_cases c2 : x3_1 < 64
   ·rw [if_pos c2] at H
    have c2b0 : decide (x3_1 < 64) = true := decide_eq_true c2
    clear c2
    replace H := Option.bind_eq_some_iff.mp H
    obtain ⟨t438, A30, H⟩ := H
    replace H : (if t438 = a0 then (some x3_1) else (spec_l1Digit.l0 k1 a0 (wrap64 (x3_1 + 1)))) = some r := H
    have A3 := aM A30
    clear A30
    by_cases c4 : t438 = a0
    ·rw [if_pos c4] at H
     have c4b0 : (t438 == a0) = true := beq_iff_eq.mpr c4
     have c4b1 : (t438 != a0) = false := bne_eq_false_iff_eq.mpr c4
     clear c4
     obtain rfl := Option.some.inj H
     go_wp2_with (first | ((with_reducible refine gate_callee (f := 99) rfl ?_); refine gL_ (some 9) Tryz.func99 #[.int .i64 x3_1] ?_; (with_reducible refine (spec_l1Base.calls x3_1 t438 _ A3.out).mono ?_); rintro e w' ⟨rfl, ⟨nd, rfl⟩⟩; refine ⟨_, rfl, ?_⟩))
     go_ret
     exact ⟨bS, z5⟩
    rw [if_neg c4] at H
    have c4b0 : (t438 == a0) = false := beq_eq_false_iff_ne.mpr c4
    have c4b1 : (t438 != a0) = true := bne_iff_ne.mpr c4
    have H' := aM H
    clear H
    go_wp2_with (first | ((with_reducible refine gate_callee (f := 99) rfl ?_); refine gL_ (some 9) Tryz.func99 #[.int .i64 x3_1] ?_; (with_reducible refine (spec_l1Base.calls x3_1 t438 _ A3.out).mono ?_); rintro e w' ⟨rfl, ⟨nd, rfl⟩⟩; refine ⟨_, rfl, ?_⟩))
    go_roundg k1
    case measure => have := HK1.out; omega
    case rel => exact ⟨(wrap64 (x3_1 + 1)), bS, H', ⟨by have := HK1.out; omega⟩, z5⟩
   rw [if_neg c2] at H
   have c2b0 : decide (x3_1 < 64) = false := decide_eq_false c2
   clear c2
   obtain rfl := Option.some.inj H
   go_wp2
   go_ret
   exact ⟨bS, z5⟩
end Go.Proofs.YtjopgmjmjnfcjaaGreatDoor.PWords
