/- Part of the proof; words that it uses. -/
import Derived.Test.YtjopgmjmjnfcjaaGreatDoorPWordsx0
import Derived.Test.YtjopgmjmjnfcjaaGreatDoorPWordsx1
import Derived.Test.YtjopgmjmjnfcjaaGreatDoorPWordsx2
namespace Go.Proofs.YtjopgmjmjnfcjaaGreatDoor.PWords
open Go.RowKit Go.Proofs.YtjopgmjmjnfcjaaGreatDoorW.PrintWords Go.Proofs.YtjopgmjmjnfcjaaGreatDoorW.PrintLast
set_option linter.unusedVariables false
set_option linter.unusedSimpArgs false
def spec_DrawDecodeWords.f (k : Nat) (l0 : List Int) : Option (ByteArray) := (spec_l1Source.f l0).bind fun bt216 => ((spec_l4DrawValue.f k bt216.1 bt216.2).bind fun bt219 => ((spec_l1Chance.f bt216.1 bt219.2 3).bind fun bt221 => (if bt221.1 = true then ((some (([(⟨#[32]⟩ : ByteArray), (⟨#[]⟩ : ByteArray), (⟨#[63, 61]⟩ : ByteArray)] : List ByteArray) : List ByteArray)).bind fun y223 => ((spec_l1Next.f bt216.1 bt221.2 3).bind fun bt226 => (if 0 ≤ bt226.1 then (if bt226.1 < (y223.length : Int) then (if bt219.1.size + (rdOf ByteArray.empty y223 bt226.1).size ≤ 9223372036854775807 then ((spec_l4DrawValue.f k bt216.1 bt226.2).bind fun bt229 => (if (bt219.1 ++ (rdOf ByteArray.empty y223 bt226.1)).size + bt229.1.size ≤ 9223372036854775807 then ((spec_l1Chance.f bt216.1 bt229.2 40).bind fun bt231 => (if bt231.1 = true then (if 401 ≤ 281474976710656 then (some (strOfNums (List.replicate 401 0))) else (none)) else (some ((bt219.1 ++ (rdOf ByteArray.empty y223 bt226.1)) ++ bt229.1)))) else (none))) else (none)) else (none)) else (none)))) else ((spec_l1Chance.f bt216.1 bt221.2 40).bind fun bt236 => (if bt236.1 = true then (if 401 ≤ 281474976710656 then (some (strOfNums (List.replicate 401 0))) else (none)) else (some bt219.1))))))
def spec_DrawDecodeWords.T4 : Bool × List (List Nat × List Nat) := (true, [([], []), ([], []), ([], []), ([2], [2]), ([1, 3], [1, 3]), ([4], [4]), ([0, 5], [0, 5]), ([], []), ([7, 3], [7]), ([6, 8], [6, 8]), ([9, 8, 0, 1, 2, 3, 4, 5, 6, 7, 8, 9], [0, 9])])
def spec_DrawDecodeWords.B4 : List Nat := [0, 0, 0, 4, 14, 30, 63, 0, 140, 511, 1023]
theorem spec_DrawDecodeWords.tab4 : rtab .any (opsOf Tryz.f14 4) = spec_DrawDecodeWords.T4 := by kernel_rfl
theorem spec_DrawDecodeWords.bits4 : waitsOk spec_DrawDecodeWords.T4.2 spec_DrawDecodeWords.B4 = true := by kernel_rfl
set_option maxHeartbeats 8000000 in
set_option maxRecDepth 100000 in
theorem spec_DrawDecodeWords.calls (k : Nat) (A0 : Option Addr) (c0 : Nat) (l0 : List Int) (r : ByteArray) (w : World) (hr0 : Kd.C (Kd.int .u8) w A0 l0.length l0) (hc0 : l0.length ≤ c0) (h : spec_DrawDecodeWords.f k l0 = some r) :
  Calls Tryz.prog 14 #[.slice A0 l0.length c0] w fun e w' => e = .returned (.string r) ∧ Below w.heap.size w w' := by
 have HR0 := aM hr0
 have HC0 := aM hc0
 clear hr0 hc0
 have HB := aM (Below.refl w.heap.size w)
 have H : ((spec_l1Source.f l0).bind fun bt216 => ((spec_l4DrawValue.f k bt216.1 bt216.2).bind fun bt219 => ((spec_l1Chance.f bt216.1 bt219.2 3).bind fun bt221 => (if bt221.1 = true then ((some (([(⟨#[32]⟩ : ByteArray), (⟨#[]⟩ : ByteArray), (⟨#[63, 61]⟩ : ByteArray)] : List ByteArray) : List ByteArray)).bind fun y223 => ((spec_l1Next.f bt216.1 bt221.2 3).bind fun bt226 => (if 0 ≤ bt226.1 then (if bt226.1 < (y223.length : Int) then (if bt219.1.size + (rdOf ByteArray.empty y223 bt226.1).size ≤ 9223372036854775807 then ((spec_l4DrawValue.f k bt216.1 bt226.2).bind fun bt229 => (if (bt219.1 ++ (rdOf ByteArray.empty y223 bt226.1)).size + bt229.1.size ≤ 9223372036854775807 then ((spec_l1Chance.f bt216.1 bt229.2 40).bind fun bt231 => (if bt231.1 = true then (if 401 ≤ 281474976710656 then (some (strOfNums (List.replicate 401 0))) else (none)) else (some ((bt219.1 ++ (rdOf ByteArray.empty y223 bt226.1)) ++ bt229.1)))) else (none))) else (none)) else (none)) else (none)))) else ((spec_l1Chance.f bt216.1 bt221.2 40).bind fun bt236 => (if bt236.1 = true then (if 401 ≤ 281474976710656 then (some (strOfNums (List.replicate 401 0))) else (none)) else (some bt219.1))))))) = some r := h
 clear h
 replace H := Option.bind_eq_some_iff.mp H
 obtain ⟨⟨t216, t217⟩, A20, H⟩ := H
 replace H : ((spec_l4DrawValue.f k t216 t217).bind fun bt219 => ((spec_l1Chance.f t216 bt219.2 3).bind fun bt221 => (if bt221.1 = true then ((some (([(⟨#[32]⟩ : ByteArray), (⟨#[]⟩ : ByteArray), (⟨#[63, 61]⟩ : ByteArray)] : List ByteArray) : List ByteArray)).bind fun y223 => ((spec_l1Next.f t216 bt221.2 3).bind fun bt226 => (if 0 ≤ bt226.1 then (if bt226.1 < (y223.length : Int) then (if bt219.1.size + (rdOf ByteArray.empty y223 bt226.1).size ≤ 9223372036854775807 then ((spec_l4DrawValue.f k t216 bt226.2).bind fun bt229 => (if (bt219.1 ++ (rdOf ByteArray.empty y223 bt226.1)).size + bt229.1.size ≤ 9223372036854775807 then ((spec_l1Chance.f t216 bt229.2 40).bind fun bt231 => (if bt231.1 = true then (if 401 ≤ 281474976710656 then (some (strOfNums (List.replicate 401 0))) else (none)) else (some ((bt219.1 ++ (rdOf ByteArray.empty y223 bt226.1)) ++ bt229.1)))) else (none))) else (none)) else (none)) else (none)))) else ((spec_l1Chance.f t216 bt221.2 40).bind fun bt236 => (if bt236.1 = true then (if 401 ≤ 281474976710656 then (some (strOfNums (List.replicate 401 0))) else (none)) else (some bt219.1)))))) = some r := H
 have A2 := aM A20
 clear A20
 replace H := Option.bind_eq_some_iff.mp H
 obtain ⟨⟨t219, t220⟩, A30, H⟩ := H
 replace H : ((spec_l1Chance.f t216 t220 3).bind fun bt221 => (if bt221.1 = true then ((some (([(⟨#[32]⟩ : ByteArray), (⟨#[]⟩ : ByteArray), (⟨#[63, 61]⟩ : ByteArray)] : List ByteArray) : List ByteArray)).bind fun y223 => ((spec_l1Next.f t216 bt221.2 3).bind fun bt226 => (if 0 ≤ bt226.1 then (if bt226.1 < (y223.length : Int) then (if t219.size + (rdOf ByteArray.empty y223 bt226.1).size ≤ 9223372036854775807 then ((spec_l4DrawValue.f k t216 bt226.2).bind fun bt229 => (if (t219 ++ (rdOf ByteArray.empty y223 bt226.1)).size + bt229.1.size ≤ 9223372036854775807 then ((spec_l1Chance.f t216 bt229.2 40).bind fun bt231 => (if bt231.1 = true then (if 401 ≤ 281474976710656 then (some (strOfNums (List.replicate 401 0))) else (none)) else (some ((t219 ++ (rdOf ByteArray.empty y223 bt226.1)) ++ bt229.1)))) else (none))) else (none)) else (none)) else (none)))) else ((spec_l1Chance.f t216 bt221.2 40).bind fun bt236 => (if bt236.1 = true then (if 401 ≤ 281474976710656 then (some (strOfNums (List.replicate 401 0))) else (none)) else (some t219))))) = some r := H
 have A3 := aM A30
 clear A30
 replace H := Option.bind_eq_some_iff.mp H
 obtain ⟨⟨t221, t222⟩, A40, H⟩ := H
 replace H : (if t221 = true then ((some (([(⟨#[32]⟩ : ByteArray), (⟨#[]⟩ : ByteArray), (⟨#[63, 61]⟩ : ByteArray)] : List ByteArray) : List ByteArray)).bind fun y223 => ((spec_l1Next.f t216 t222 3).bind fun bt226 => (if 0 ≤ bt226.1 then (if bt226.1 < (y223.length : Int) then (if t219.size + (rdOf ByteArray.empty y223 bt226.1).size ≤ 9223372036854775807 then ((spec_l4DrawValue.f k t216 bt226.2).bind fun bt229 => (if (t219 ++ (rdOf ByteArray.empty y223 bt226.1)).size + bt229.1.size ≤ 9223372036854775807 then ((spec_l1Chance.f t216 bt229.2 40).bind fun bt231 => (if bt231.1 = true then (if 401 ≤ 281474976710656 then (some (strOfNums (List.replicate 401 0))) else (none)) else (some ((t219 ++ (rdOf ByteArray.empty y223 bt226.1)) ++ bt229.1)))) else (none))) else (none)) else (none)) else (none)))) else ((spec_l1Chance.f t216 t222 40).bind fun bt236 => (if bt236.1 = true then (if 401 ≤ 281474976710656 then (some (strOfNums (List.replicate 401 0))) else (none)) else (some t219)))) = some r := H
 have A4 := aM A40
 clear A40
 have HQ_ := aM H
 clear H
 go_enter Tryz.func14, Tryz.ntmps14
 have H := HQ_.out
 clear HQ_
 by_cases c5 : t221 = true
 ·subst c5
  have H1 : ((some (([(⟨#[32]⟩ : ByteArray), (⟨#[]⟩ : ByteArray), (⟨#[63, 61]⟩ : ByteArray)] : List ByteArray) : List ByteArray)).bind fun y223 => ((spec_l1Next.f t216 t222 3).bind fun bt226 => (if 0 ≤ bt226.1 then (if bt226.1 < (y223.length : Int) then (if t219.size + (rdOf ByteArray.empty y223 bt226.1).size ≤ 9223372036854775807 then ((spec_l4DrawValue.f k t216 bt226.2).bind fun bt229 => (if (t219 ++ (rdOf ByteArray.empty y223 bt226.1)).size + bt229.1.size ≤ 9223372036854775807 then ((spec_l1Chance.f t216 bt229.2 40).bind fun bt231 => (if bt231.1 = true then (if 401 ≤ 281474976710656 then (some (strOfNums (List.replicate 401 0))) else (none)) else (some ((t219 ++ (rdOf ByteArray.empty y223 bt226.1)) ++ bt229.1)))) else (none))) else (none)) else (none)) else (none)))) = some r := z16
  clear H
  have H := H1
  clear H1
  obtain ⟨y223, hy223⟩ : ∃ y_ : List ByteArray, y_ = (([(⟨#[32]⟩ : ByteArray), (⟨#[]⟩ : ByteArray), (⟨#[63, 61]⟩ : ByteArray)] : List ByteArray)) := ⟨_, rfl⟩
  replace H : ((spec_l1Next.f t216 t222 3).bind fun bt226 => (if 0 ≤ bt226.1 then (if bt226.1 < (y223.length : Int) then (if t219.size + (rdOf ByteArray.empty y223 bt226.1).size ≤ 9223372036854775807 then ((spec_l4DrawValue.f k t216 bt226.2).bind fun bt229 => (if (t219 ++ (rdOf ByteArray.empty y223 bt226.1)).size + bt229.1.size ≤ 9223372036854775807 then ((spec_l1Chance.f t216 bt229.2 40).bind fun bt231 => (if bt231.1 = true then (if 401 ≤ 281474976710656 then (some (strOfNums (List.replicate 401 0))) else (none)) else (some ((t219 ++ (rdOf ByteArray.empty y223 bt226.1)) ++ bt229.1)))) else (none))) else (none)) else (none)) else (none))) = some r := z0 hy223
  have Ny223 := aM hy223
  clear hy223
  replace H := Option.bind_eq_some_iff.mp H
  obtain ⟨⟨t226, t227⟩, A60, H⟩ := H
  replace H : (if 0 ≤ t226 then (if t226 < (y223.length : Int) then (if t219.size + (rdOf ByteArray.empty y223 t226).size ≤ 9223372036854775807 then ((spec_l4DrawValue.f k t216 t227).bind fun bt229 => (if (t219 ++ (rdOf ByteArray.empty y223 t226)).size + bt229.1.size ≤ 9223372036854775807 then ((spec_l1Chance.f t216 bt229.2 40).bind fun bt231 => (if bt231.1 = true then (if 401 ≤ 281474976710656 then (some (strOfNums (List.replicate 401 0))) else (none)) else (some ((t219 ++ (rdOf ByteArray.empty y223 t226)) ++ bt229.1)))) else (none))) else (none)) else (none)) else (none)) = some r := H
  have A6 := aM A60
  clear A60
  by_cases c7 : 0 ≤ t226
  ·rw [if_pos c7] at H
   have c7b0 : decide (0 ≤ t226) = true := decide_eq_true c7
   clear c7
   by_cases c8 : t226 < (y223.length : Int)
   ·rw [if_pos c8] at H
    have c8b0 : decide (t226 < (y223.length : Int)) = true := decide_eq_true c8
    clear c8
    by_cases c9 : t219.size + (rdOf ByteArray.empty y223 t226).size ≤ 9223372036854775807
    ·rw [if_pos c9] at H
     have c9b0 := eq_true c9
     have c9b1 : decide (t219.size + (rdOf ByteArray.empty y223 t226).size ≤ 9223372036854775807) = true := decide_eq_true c9
     try have c9b2 : (9223372036854775807 < t219.size + (rdOf ByteArray.empty y223 t226).size) = False := eq_false (Nat.not_lt.2 c9)
     replace H := Option.bind_eq_some_iff.mp H
     obtain ⟨⟨t229, t230⟩, A100, H⟩ := H
     replace H : (if (t219 ++ (rdOf ByteArray.empty y223 t226)).size + t229.size ≤ 9223372036854775807 then ((spec_l1Chance.f t216 t230 40).bind fun bt231 => (if bt231.1 = true then (if 401 ≤ 281474976710656 then (some (strOfNums (List.replicate 401 0))) else (none)) else (some ((t219 ++ (rdOf ByteArray.empty y223 t226)) ++ t229)))) else (none)) = some r := H
     have A10 := aM A100
     clear A100
     by_cases c11 : (t219 ++ (rdOf ByteArray.empty y223 t226)).size + t229.size ≤ 9223372036854775807
     ·rw [if_pos c11] at H
      have c11b0 := eq_true c11
      have c11b1 : decide ((t219 ++ (rdOf ByteArray.empty y223 t226)).size + t229.size ≤ 9223372036854775807) = true := decide_eq_true c11
      try have c11b2 : (9223372036854775807 < (t219 ++ (rdOf ByteArray.empty y223 t226)).size + t229.size) = False := eq_false (Nat.not_lt.2 c11)
      (try (have c11b3 : (9223372036854775807 < t219.size + (rdOf ByteArray.empty y223 t226).size + t229.size) = False := by have h_ := c11b2; simp only [ByteArray.size_append] at h_; exact h_))
      replace H := Option.bind_eq_some_iff.mp H
      obtain ⟨⟨t231, t232⟩, A120, H⟩ := H
      replace H : (if t231 = true then (if 401 ≤ 281474976710656 then (some (strOfNums (List.replicate 401 0))) else (none)) else (some ((t219 ++ (rdOf ByteArray.empty y223 t226)) ++ t229))) = some r := H
      have A12 := aM A120
      clear A120
      by_cases c13 : t231 = true
      ·subst c13
       have H1 : (if 401 ≤ 281474976710656 then (some (strOfNums (List.replicate 401 0))) else (none)) = some r := z16
       clear H
       have H := H1
       clear H1
       by_cases c14 : 401 ≤ 281474976710656
       ·rw [if_pos c14] at H
        have c14b0 := eq_true c14
        have c14b1 : decide (401 ≤ 281474976710656) = true := decide_eq_true c14
        clear c14
        obtain ⟨y233, hy233⟩ : ∃ y_ : List Int, y_ = (List.replicate 401 0) := ⟨_, rfl⟩
        replace H : (some (strOfNums y233)) = some r := z0 hy233
        have Ny233 := aM hy233
        clear hy233
        obtain rfl := Option.some.inj H
        try go_wp2_with (first | ((with_reducible refine gate_callee (f := 29) rfl ?_); refine gL_ (some 6) Tryz.func29 #[.slice A0 l0.length c0] ?_; (with_reducible refine (spec_l1Source.calls _ _ l0 t216 t217 w _ ?side1 ?side2 ?side3 A2.out).mono ?_); (case side1 => exact z32); (case side2 => exact HR0.out); (case side3 => exact HC0.out); rintro e w15 ⟨g218, rfl, hi, hb, hb2⟩; refine ⟨_, rfl, ?_⟩; replace HB := aM (hb); have HI218 := aM (hi); (try clear hi)) | ((with_reducible refine gate_callee (f := 30) rfl ?_); refine gL_ (some 8) Tryz.func30 #[.pointer (some ⟨g218, 0, none⟩)] ?_; (with_reducible refine (spec_l4DrawValue.calls k g218 t216 t217 t219 t220 w _ ?side1 ?side2 A3.out).mono ?_); (case side1 => exact z2 HI218.out); (case side2 => exact z1 HI218.out); rintro e w16 ⟨rfl, hi, hb, hk⟩; refine ⟨_, rfl, ?_⟩; replace HB := aM (hb); replace HI218 := aM (hi); (try clear hi)) | ((with_reducible refine gate_callee (f := 31) rfl ?_); refine gL_ (some 10) Tryz.func31 #[.pointer (some ⟨g218, 0, none⟩), .int .i64 3] ?_; (with_reducible refine (spec_l1Chance.calls g218 t216 t220 3 true t222 w _ ?side1 ?side2 A4.out).mono ?_); (case side1 => exact z2 HI218.out); (case side2 => exact z1 HI218.out); rintro e w17 ⟨rfl, hi, hb, hk⟩; refine ⟨_, rfl, ?_⟩; replace HB := aM (hb); replace HI218 := aM (hi); (try clear hi)))
        have pi228 : (0 ≤ (t226 : Int)) = True := eq_true (pI)
        have qi228 : (t226 < (y223.length : Int)) = True := eq_true (pI)
        replace HI218 := aM (IsS73.drew HI218.out)
        replace HB := aM (below_drew1 HB.out)
        refine start_ (n := 11) (S := fun w' => True) (ds := []) (bsA 11 0) (by kernel_rfl) rfl rfl trivial (fun hHeld => ?_); refine with_tabW spec_DrawDecodeWords.tab4 spec_DrawDecodeWords.bits4 (fun HT_ HW_ => ?_)
        generalize w17.drew = w18 at HI218 HB hHeld ⊢
        refine pa_ (i := 0) (N := some 11) (bsA 11 1) (h := ?_)
        refine pa_ (i := 2) (N := some 13) (bsA 11 5) (h := ?_)
        refine pa_ (i := 7) (N := some 18) (bsA 11 133) (h := ?_)
        refine inv_at [1, 3, 4, 5, 6, 8, 9, 10] (fun a0_ b a w' => ∃ (v224 : Value) (adz_v224 : Addr) (m4_ : Value), a = putSel a0_ b [(1, 12, v224), (3, 14, .int .i64 t226), (4, 15, m4_), (5, 16, .string (rdOf ByteArray.empty y223 t226)), (6, 17, .string (t219 ++ (rdOf ByteArray.empty y223 t226))), (8, 19, .string t229), (9, 20, .string ((t219 ++ (rdOf ByteArray.empty y223 t226)) ++ t229)), (10, 4, .string ((t219 ++ (rdOf ByteArray.empty y223 t226)) ++ t229))] ∧ (b 3 = false → IsS73 w w' g218 t216 t222) ∧ (Below w.heap.size w w') ∧ (b 1 = true → Kd.R Kd.string 9 w' w.heap.size (fun _ => True) v224 y223) ∧ (b 1 = true → ∃ c_, (v224 : Value) = .slice (some adz_v224) y223.length c_) ∧ (b 3 = true → b 8 = false → IsS73 w w' g218 t216 t227) ∧ (b 8 = true → IsS73 w w' g218 t216 t230) ∧ (b 4 = true → (m4_ : Value) = .pointer (some (adz_v224.add (t226).toNat)))) HT_.out HW_.out (by kernel_rfl) (by kernel_rfl) ?_ ?_ ?_
        ·exact ⟨.bool false, ⟨0, 0, none⟩, .bool false, by simp only [putSel, Bool.false_eq_true, if_false], fun _ => HI218.out, HB.out, fun h_ => absurd h_ (by decide), fun h_ => absurd h_ (by decide), fun h_ => absurd h_ (by decide), fun h_ => absurd h_ (by decide), fun h_ => absurd h_ (by decide)⟩
        ·skip
         clear HB HI218
         refine steps_cons ?_ ?_
         ·rintro b a w' ⟨v224, adz_v224, m4_, ha, Q_HI218, Q_HB, Q_HO225, Q_HA_HO225, Q_HI218_e3, Q_HI218_e8, Q_X4_⟩ hb_ hon hoff
          refine ⟨_, rfl, fun K hK => ?_⟩
          replace ha := aM ha
          have HB := aM Q_HB
          refine Kd.R_lit_step Kd.string _ 9 ?hg (N := 12) ?hd (xs := ([(⟨#[32]⟩ : ByteArray), (⟨#[]⟩ : ByteArray), (⟨#[63, 61]⟩ : ByteArray)] : List ByteArray)) (inner := [.string (⟨#[32]⟩ : ByteArray), .string (⟨#[]⟩ : ByteArray), .string (⟨#[63, 61]⟩ : ByteArray)]) (ok := fun _ => True) (okp := fun _ => True) ?hr ?hp (fun _ hk => hk) trivial (Below.refl _ _) (Nat.le_refl _) (by simp) ?_; (case hd => rfl); (case hg => rfl); (case hr => exact z10); (case hp => exact (Reps.one (show Kd.M Kd.string _ _ _ (⟨#[32]⟩ : ByteArray) [.string (⟨#[32]⟩ : ByteArray)] from rfl) (Reps.one (show Kd.M Kd.string _ _ _ (⟨#[]⟩ : ByteArray) [.string (⟨#[]⟩ : ByteArray)] from rfl) (Reps.one (show Kd.M Kd.string _ _ _ (⟨#[63, 61]⟩ : ByteArray) [.string (⟨#[63, 61]⟩ : ByteArray)] from rfl) (Reps.none _ _)))))
          intro v224 w19 ho20 hb hg_ hnew_
          clear hg_ hnew_
          (first | rw [← Ny223.out] at ho20 | (simp only [Int.reduceToNat] at ho20; rw [← Ny223.out] at ho20))
          have n0_ := aM (Kd.R_lower ho20 (below_size bB))
          have n2_ := aM (below_step bB hb)
          have z_HI218 := fun (h0_ : b 3 = false) => (show IsS73 w w19 g218 t216 t222 from by first | exact (IsS73.below (by repeat (first | (with_reducible first | exact (Q_HI218 h0_) | apply IsS73.alloc | apply IsS73.drewN | apply IsS73.drew | apply IsS73.set_1) | exact (Q_HI218 h0_))) hb))
          have z_HI218_e3 := fun (h0_ : b 3 = true) (h1_ : b 8 = false) => (show IsS73 w w19 g218 t216 t227 from by first | exact (IsS73.below (by repeat (first | (with_reducible first | exact (Q_HI218_e3 h0_ h1_) | apply IsS73.alloc | apply IsS73.drewN | apply IsS73.drew | apply IsS73.set_1) | exact (Q_HI218_e3 h0_ h1_))) hb))
          have z_HI218_e8 := fun (h0_ : b 8 = true) => (show IsS73 w w19 g218 t216 t230 from by first | exact (IsS73.below (by repeat (first | (with_reducible first | exact (Q_HI218_e8 h0_) | apply IsS73.alloc | apply IsS73.drewN | apply IsS73.drew | apply IsS73.set_1) | exact (Q_HI218_e8 h0_))) hb))
          clear HB
          have HO225 := n0_
          have HB := n2_
          clear n0_ n2_
          clear hb ho20
          obtain ⟨Ao21, co21, eo21⟩ := Kd.R_slice HO225.out
          subst eo21
          obtain ⟨ado21, fo21, _⟩ := Kd.at_string (Kd.R_reads' HO225.out).2.2 0 (by decide) (by rw [Ny223.out]; simp)
          cases fo21
          refine hK.out _ _ ⟨.slice (some ado21) y223.length co21, ado21, m4_, (by rw [ha.out]; exact putSel_upk 0 hb_ rfl rfl rfl), z_HI218, bB, fun _ => (bR HO225), fun _ => ⟨_, rfl⟩, z_HI218_e3, z_HI218_e8, fun h0_ => absurd ((hoff 4 (by kernel_rfl)).symm.trans h0_) (by decide)⟩
         refine steps_cons ?_ ?_
         ·rintro b a w' ⟨v224, adz_v224, m4_, ha, Q_HI218, Q_HB, Q_HO225, Q_HA_HO225, Q_HI218_e3, Q_HI218_e8, Q_X4_⟩ hb_ hon hoff
          refine ⟨_, rfl, fun K hK => ?_⟩
          have e13 : a.tmps[13]? = some (.pointer (some ⟨g218, 0, none⟩)) := z51
          replace ha := aM ha
          have HI218 := aM (Q_HI218 hb_)
          have HB := aM Q_HB
          refine goes_ Tryz.func32 (by kernel_rfl) rfl #[.pointer (some ⟨g218, 0, none⟩), .int .i64 3] (by rfl) rfl rfl (by first | (simp only [List.map_toArray, List.map_cons, List.map_nil, Act.eval, Array.getD_eq_getD_getElem?, Option.getD_some, e13]; done) | (simp only [List.map_toArray, List.map_cons, List.map_nil, Act.eval, Array.getD_eq_getD_getElem?, Option.getD_some, e13]; rfl)) ?_
          with_reducible refine (spec_l1Next.calls g218 t216 t222 3 t226 t227 w _ ?side1 ?side2 A6.out).mono ?_
          (case side1 => exact z2 HI218.out)
          (case side2 => exact z1 HI218.out)
          rintro e w19 ⟨rfl, hi, hb, hk⟩
          refine ⟨_, rfl, ?_⟩
          have n0_ := aM (hb)
          have n1_ := aM (hi)
          have z_HO225 := fun (h0_ : b 1 = true) => (show Kd.R Kd.string 9 w19 w.heap.size (fun _ => True) v224 y223 from by first | exact (Kd.R_mono (Kd.R_keep (IsS73.apart (show IsS73 w _ g218 t216 t222 from z2 HI218.out) z36 (by decide)) hk (fun _ h => h.2)) (fun _ h => h.1)) | exact Kd.R_mono (Kd.R_mono (Kd.R_keep (IsS73.apart (show IsS73 w _ g218 t216 t222 from z2 HI218.out) z36 (by decide)) hk (fun _ h => h.2)) (fun _ h => h.1)) (fun _ h_ => by first | trivial | exact h_ | exact h_.1))
          clear HB
          clear HI218
          have HB := n0_
          have HI218 := n1_
          clear n0_ n1_
          (try clear hb)
          (try clear hb2)
          (try clear hk)
          (try clear hi)
          refine hK.out _ _ ⟨v224, adz_v224, m4_, (by rw [ha.out]; exact putSel_upk 1 hb_ rfl rfl rfl), fun h0_ => absurd ((up_self b 3).symm.trans h0_) (by decide), (z1 HI218.out), z_HO225, Q_HA_HO225, fun _ _ => (z2 HI218.out), fun h0_ => absurd ((hoff 8 (by kernel_rfl)).symm.trans h0_) (by decide), fun h0_ => absurd ((hoff 4 (by kernel_rfl)).symm.trans h0_) (by decide)⟩
         refine steps_cons ?_ ?_
         ·rintro b a w' ⟨v224, adz_v224, m4_, ha, Q_HI218, Q_HB, Q_HO225, Q_HA_HO225, Q_HI218_e3, Q_HI218_e8, Q_X4_⟩ hb_ hon hoff
          refine ⟨_, rfl, fun K hK => ?_⟩
          have e12 : a.tmps[12]? = some (v224) := by rw [ha]; exact putSel_on (e := (1, 12, v224)) 0 rfl rfl (hon 1 (by kernel_rfl)) rfl
          have e14 : a.tmps[14]? = some (.int .i64 t226) := by rw [ha]; exact putSel_on (e := (3, 14, .int .i64 t226)) 1 rfl rfl (hon 3 (by kernel_rfl)) rfl
          replace ha := aM ha
          have HB := aM Q_HB
          have HO225 := aM (Q_HO225 (hon 1 (by kernel_rfl)))
          have HA_HO225 := aM (Q_HA_HO225 (hon 1 (by kernel_rfl)))
          obtain ⟨c_, hv_⟩ := HA_HO225.out
          rw [hv_] at e12
          refine value_ (w1 := w') (v := .pointer (some (adz_v224.add (t226).toNat))) (by rfl) rfl ?_ ?_
          ·go_simp
           (try simp only [i64_w])
           try rfl
          refine hK.out _ _ ⟨v224, adz_v224, (.pointer (some (adz_v224.add (t226).toNat))), (by rw [ha.out]; exact putSel_upk 2 hb_ rfl rfl rfl), fun h0_ => absurd ((hon 3 (by kernel_rfl)).symm.trans h0_) (by decide), Q_HB, Q_HO225, Q_HA_HO225, Q_HI218_e3, Q_HI218_e8, fun _ => rfl⟩
         refine steps_cons ?_ ?_
         ·rintro b a w' ⟨v224, adz_v224, m4_, ha, Q_HI218, Q_HB, Q_HO225, Q_HA_HO225, Q_HI218_e3, Q_HI218_e8, Q_X4_⟩ hb_ hon hoff
          refine ⟨_, rfl, fun K hK => ?_⟩
          have e15 : a.tmps[15]? = some (m4_) := by rw [ha]; exact putSel_on (e := (4, 15, m4_)) 2 rfl rfl (hon 4 (by kernel_rfl)) rfl
          rw [Q_X4_ (hon 4 (by kernel_rfl))] at e15
          replace ha := aM ha
          have HB := aM Q_HB
          have HO225 := aM (Q_HO225 (hon 1 (by kernel_rfl)))
          have HA_HO225 := aM (Q_HA_HO225 (hon 1 (by kernel_rfl)))
          obtain ⟨c_, hv_⟩ := HA_HO225.out
          have hF_ := HO225.out
          rw [hv_] at hF_
          obtain ⟨ad_, ea_, hx_⟩ := Kd.at_string (Kd.R_reads' hF_).2.2 t226 (of_eq_true pi228) (of_eq_true qi228)
          cases ea_
          refine value_ (w1 := w') (v := .string (rdOf ByteArray.empty y223 t226)) (by rfl) rfl ?_ ?_
          ·go_simp
           (try simp only [i64_w])
           try rfl
          refine hK.out _ _ ⟨v224, adz_v224, m4_, (by rw [ha.out]; exact putSel_upk 3 hb_ rfl rfl rfl), fun h0_ => absurd ((hon 3 (by kernel_rfl)).symm.trans h0_) (by decide), Q_HB, Q_HO225, Q_HA_HO225, Q_HI218_e3, Q_HI218_e8, Q_X4_⟩
         refine steps_cons ?_ ?_
         ·rintro b a w' ⟨v224, adz_v224, m4_, ha, Q_HI218, Q_HB, Q_HO225, Q_HA_HO225, Q_HI218_e3, Q_HI218_e8, Q_X4_⟩ hb_ hon hoff
          refine ⟨_, rfl, fun K hK => ?_⟩
          have e11 : a.tmps[11]? = some (.string t219) := z51
          have e16 : a.tmps[16]? = some (.string (rdOf ByteArray.empty y223 t226)) := by rw [ha]; exact putSel_on (e := (5, 16, .string (rdOf ByteArray.empty y223 t226))) 3 rfl rfl (hon 5 (by kernel_rfl)) rfl
          replace ha := aM ha
          have HB := aM Q_HB
          have HO225 := aM (Q_HO225 (hon 1 (by kernel_rfl)))
          have HA_HO225 := aM (Q_HA_HO225 (hon 1 (by kernel_rfl)))
          refine value_ (w1 := w') (v := .string (t219 ++ (rdOf ByteArray.empty y223 t226))) (by rfl) rfl ?_ ?_
          ·go_simp
           (try simp only [i64_w])
           try rfl
          refine hK.out _ _ ⟨v224, adz_v224, m4_, (by rw [ha.out]; exact putSel_upk 4 hb_ rfl rfl rfl), fun h0_ => absurd ((hon 3 (by kernel_rfl)).symm.trans h0_) (by decide), Q_HB, Q_HO225, Q_HA_HO225, Q_HI218_e3, Q_HI218_e8, Q_X4_⟩
         refine steps_cons ?_ ?_
         ·rintro b a w' ⟨v224, adz_v224, m4_, ha, Q_HI218, Q_HB, Q_HO225, Q_HA_HO225, Q_HI218_e3, Q_HI218_e8, Q_X4_⟩ hb_ hon hoff
          refine ⟨_, rfl, fun K hK => ?_⟩
          have e18 : a.tmps[18]? = some (.pointer (some ⟨g218, 0, none⟩)) := z51
          replace ha := aM ha
          have HB := aM Q_HB
          have HI218 := aM (Q_HI218_e3 (hon 3 (by kernel_rfl)) hb_)
          refine goes_ Tryz.func30 (by kernel_rfl) rfl #[.pointer (some ⟨g218, 0, none⟩)] (by rfl) rfl rfl (by first | (simp only [List.map_toArray, List.map_cons, List.map_nil, Act.eval, Array.getD_eq_getD_getElem?, Option.getD_some, e18]; done) | (simp only [List.map_toArray, List.map_cons, List.map_nil, Act.eval, Array.getD_eq_getD_getElem?, Option.getD_some, e18]; rfl)) ?_
          with_reducible refine (spec_l4DrawValue.calls k g218 t216 t227 t229 t230 w _ ?side1 ?side2 A10.out).mono ?_
          (case side1 => exact z2 HI218.out)
          (case side2 => exact z1 HI218.out)
          rintro e w21 ⟨rfl, hi, hb, hk⟩
          refine ⟨_, rfl, ?_⟩
          have n0_ := aM (hb)
          have n1_ := aM (hi)
          have z_HO225 := fun (h0_ : b 1 = true) => (show Kd.R Kd.string 9 w21 w.heap.size (fun _ => True) v224 y223 from by first | exact (Kd.R_mono (Kd.R_keep (IsS73.apart (show IsS73 w _ g218 t216 t227 from z2 HI218.out) z36 (by decide)) hk (fun _ h => h.2)) (fun _ h => h.1)) | exact Kd.R_mono (Kd.R_mono (Kd.R_keep (IsS73.apart (show IsS73 w _ g218 t216 t227 from z2 HI218.out) z36 (by decide)) hk (fun _ h => h.2)) (fun _ h => h.1)) (fun _ h_ => by first | trivial | exact h_ | exact h_.1))
          clear HB
          clear HI218
          have HB := n0_
          have HI218 := n1_
          clear n0_ n1_
          (try clear hb)
          (try clear hb2)
          (try clear hk)
          (try clear hi)
          refine hK.out _ _ ⟨v224, adz_v224, m4_, (by rw [ha.out]; exact putSel_upk 5 hb_ rfl rfl rfl), fun h0_ => absurd ((hon 3 (by kernel_rfl)).symm.trans h0_) (by decide), (z1 HI218.out), z_HO225, Q_HA_HO225, fun _ h1_ => absurd ((up_self b 8).symm.trans h1_) (by decide), fun _ => (z2 HI218.out), Q_X4_⟩
         refine steps_cons ?_ ?_
         ·rintro b a w' ⟨v224, adz_v224, m4_, ha, Q_HI218, Q_HB, Q_HO225, Q_HA_HO225, Q_HI218_e3, Q_HI218_e8, Q_X4_⟩ hb_ hon hoff
          refine ⟨_, rfl, fun K hK => ?_⟩
          have e17 : a.tmps[17]? = some (.string (t219 ++ (rdOf ByteArray.empty y223 t226))) := by rw [ha]; exact putSel_on (e := (6, 17, .string (t219 ++ (rdOf ByteArray.empty y223 t226)))) 4 rfl rfl (hon 6 (by kernel_rfl)) rfl
          have e19 : a.tmps[19]? = some (.string t229) := by rw [ha]; exact putSel_on (e := (8, 19, .string t229)) 5 rfl rfl (hon 8 (by kernel_rfl)) rfl
          replace ha := aM ha
          have HB := aM Q_HB
          have HO225 := aM (Q_HO225 (hon 1 (by kernel_rfl)))
          have HA_HO225 := aM (Q_HA_HO225 (hon 1 (by kernel_rfl)))
          have HI218 := aM (Q_HI218_e8 (hon 8 (by kernel_rfl)))
          refine value_ (w1 := w') (v := .string ((t219 ++ (rdOf ByteArray.empty y223 t226)) ++ t229)) (by rfl) rfl ?_ ?_
          ·go_simp
           (try simp only [i64_w])
           try rfl
          refine hK.out _ _ ⟨v224, adz_v224, m4_, (by rw [ha.out]; exact putSel_upk 6 hb_ rfl rfl rfl), fun h0_ => absurd ((hon 3 (by kernel_rfl)).symm.trans h0_) (by decide), Q_HB, Q_HO225, Q_HA_HO225, fun _ h1_ => absurd ((hon 8 (by kernel_rfl)).symm.trans h1_) (by decide), Q_HI218_e8, Q_X4_⟩
         refine steps_cons ?_ ?_
         ·rintro b a w' ⟨v224, adz_v224, m4_, ha, Q_HI218, Q_HB, Q_HO225, Q_HA_HO225, Q_HI218_e3, Q_HI218_e8, Q_X4_⟩ hb_ hon hoff
          refine ⟨_, rfl, fun K hK => ?_⟩
          have e20 : a.tmps[20]? = some (.string ((t219 ++ (rdOf ByteArray.empty y223 t226)) ++ t229)) := by rw [ha]; exact putSel_on (e := (9, 20, .string ((t219 ++ (rdOf ByteArray.empty y223 t226)) ++ t229))) 6 rfl rfl (hon 9 (by kernel_rfl)) rfl
          replace ha := aM ha
          have HB := aM Q_HB
          have HO225 := aM (Q_HO225 (hon 1 (by kernel_rfl)))
          have HA_HO225 := aM (Q_HA_HO225 (hon 1 (by kernel_rfl)))
          have HI218 := aM (Q_HI218_e8 (hon 8 (by kernel_rfl)))
          refine value_ (w1 := w') (v := .string ((t219 ++ (rdOf ByteArray.empty y223 t226)) ++ t229)) (by rfl) rfl ?_ ?_
          ·go_simp
           (try simp only [i64_w])
           try rfl
          refine hK.out _ _ ⟨v224, adz_v224, m4_, (by rw [ha.out]; exact putSel_upk 7 hb_ rfl rfl rfl), fun h0_ => absurd ((hon 3 (by kernel_rfl)).symm.trans h0_) (by decide), Q_HB, Q_HO225, Q_HA_HO225, fun _ h1_ => absurd ((hon 8 (by kernel_rfl)).symm.trans h1_) (by decide), Q_HI218_e8, Q_X4_⟩
         exact steps_nil
        rintro b a w24 hall ⟨v224, adz_v224, m4_, ha, Q_HI218, Q_HB, Q_HO225, Q_HA_HO225, Q_HI218_e3, Q_HI218_e8, Q_X4_⟩
        clear HB HI218
        have hb1_ := hall 1 (by kernel_rfl)
        have hb3_ := hall 3 (by kernel_rfl)
        have hb4_ := hall 4 (by kernel_rfl)
        have hb5_ := hall 5 (by kernel_rfl)
        have hb6_ := hall 6 (by kernel_rfl)
        have hb8_ := hall 8 (by kernel_rfl)
        have hb9_ := hall 9 (by kernel_rfl)
        have hb10_ := hall 10 (by kernel_rfl)
        subst ha
        obtain rfl := Q_X4_ hb4_
        simp only [putSel, hb1_, hb3_, hb4_, hb5_, hb6_, hb8_, hb9_, hb10_, if_true, Act.put, List.setIfInBounds_toArray, List.set_cons_zero, List.set_cons_succ]
        clear Q_HI218
        have HB := aM Q_HB
        clear Q_HB
        have HO225 := aM (Q_HO225 hb1_)
        clear Q_HO225
        have HA_HO225 := aM (Q_HA_HO225 hb1_)
        clear Q_HA_HO225
        clear Q_HI218_e3
        have HI218 := aM (Q_HI218_e8 hb8_)
        clear Q_HI218_e8
        clear hall hb1_ hb3_ hb4_ hb5_ hb6_ hb8_ hb9_ hb10_
        obtain ⟨co25, eo25⟩ := HA_HO225.out
        clear HA_HO225
        subst eo25
        try go_wp2_with (first | ((with_reducible refine gate_callee (f := 31) rfl ?_); refine gL_ (some 22) Tryz.func31 #[.pointer (some ⟨g218, 0, none⟩), .int .i64 40] ?_; (with_reducible refine (spec_l1Chance.calls g218 t216 t230 40 true t232 w _ ?side1 ?side2 A12.out).mono ?_); (case side1 => exact z2 HI218.out); (case side2 => exact z1 HI218.out); rintro e w26 ⟨rfl, hi, hb, hk⟩; refine ⟨_, rfl, ?_⟩; replace HO225 := aM (Kd.R_mono (Kd.R_keep (IsS73.apart (show IsS73 w _ g218 t216 t230 from z2 HI218.out) (bR HO225) (by decide)) hk (fun _ h => h.2)) (fun _ h => h.1)); replace HB := aM (hb); replace HI218 := aM (hi); (try clear hi)) | ((with_reducible refine gate_dst (N := 23) rfl ?_); refine Kd.R_make (Kd.int .u8) _ 5 rfl (N := 23) rfl 22 _ _ rfl 401 rfl rfl Tryz.underlying22 (.int .u8 0) 1 info5 rfl (by decide) (by omega) 0 (ok := fun _ => True) (okp := fun _ => True) rfl (fun _ hk => hk) trivial (by omega) (by omega) (Below.refl _ _) (Nat.le_refl _) ?_; intro v234 w27 ho28 hb hg_ hnew_; clear hg_ hnew_; (first | rw [← Ny233.out] at ho28 | (simp only [Int.reduceToNat] at ho28; rw [← Ny233.out] at ho28)); replace HO225 := aM (Kd.R_below (bR HO225) hb); have HO235 := aM (Kd.R_lower ho28 (below_size (z1 HI218.out))); replace HB := aM (below_step (z1 HI218.out) hb); replace HI218 := aM (IsS73.below (z2 HI218.out) hb); clear hb ho28; have hcv29 := own_string (P := Tryz.prog) Tryz.underlying22 Tryz.underlying5 Tryz.underlying9 (Kd.own_of_R HO235.out); (try have hcv29d := fun nq_ : Nat => own_string (P := Tryz.prog) Tryz.underlying22 Tryz.underlying5 Tryz.underlying9 (Kd.own_of_R (Kd.R_drewN HO235.out nq_)))))
        go_ret
        exact ⟨bE, z1 HI218.out⟩
       rw [if_neg c14] at H
       exact absurd H (by simp)
      replace c13 := Bool.eq_false_iff.mpr c13
      subst c13
      have H1 : (some ((t219 ++ (rdOf ByteArray.empty y223 t226)) ++ t229)) = some r := z7
      clear H
      have H := H1
      clear H1
      obtain rfl := Option.some.inj H
      try go_wp2_with (first | ((with_reducible refine gate_callee (f := 29) rfl ?_); refine gL_ (some 6) Tryz.func29 #[.slice A0 l0.length c0] ?_; (with_reducible refine (spec_l1Source.calls _ _ l0 t216 t217 w _ ?side1 ?side2 ?side3 A2.out).mono ?_); (case side1 => exact z32); (case side2 => exact HR0.out); (case side3 => exact HC0.out); rintro e w30 ⟨g218, rfl, hi, hb, hb2⟩; refine ⟨_, rfl, ?_⟩; replace HB := aM (hb); have HI218 := aM (hi); (try clear hi)) | ((with_reducible refine gate_callee (f := 30) rfl ?_); refine gL_ (some 8) Tryz.func30 #[.pointer (some ⟨g218, 0, none⟩)] ?_; (with_reducible refine (spec_l4DrawValue.calls k g218 t216 t217 t219 t220 w _ ?side1 ?side2 A3.out).mono ?_); (case side1 => exact z2 HI218.out); (case side2 => exact z1 HI218.out); rintro e w31 ⟨rfl, hi, hb, hk⟩; refine ⟨_, rfl, ?_⟩; replace HB := aM (hb); replace HI218 := aM (hi); (try clear hi)) | ((with_reducible refine gate_callee (f := 31) rfl ?_); refine gL_ (some 10) Tryz.func31 #[.pointer (some ⟨g218, 0, none⟩), .int .i64 3] ?_; (with_reducible refine (spec_l1Chance.calls g218 t216 t220 3 true t222 w _ ?side1 ?side2 A4.out).mono ?_); (case side1 => exact z2 HI218.out); (case side2 => exact z1 HI218.out); rintro e w32 ⟨rfl, hi, hb, hk⟩; refine ⟨_, rfl, ?_⟩; replace HB := aM (hb); replace HI218 := aM (hi); (try clear hi)))
      have pi228 : (0 ≤ (t226 : Int)) = True := eq_true (pI)
      have qi228 : (t226 < (y223.length : Int)) = True := eq_true (pI)
      replace HI218 := aM (IsS73.drew HI218.out)
      replace HB := aM (below_drew1 HB.out)
      refine start_ (n := 11) (S := fun w' => True) (ds := []) (bsA 11 0) (by kernel_rfl) rfl rfl trivial (fun hHeld => ?_); refine with_tabW spec_DrawDecodeWords.tab4 spec_DrawDecodeWords.bits4 (fun HT_ HW_ => ?_)
      generalize w32.drew = w33 at HI218 HB hHeld ⊢
      refine pa_ (i := 0) (N := some 11) (bsA 11 1) (h := ?_)
      refine pa_ (i := 2) (N := some 13) (bsA 11 5) (h := ?_)
      refine pa_ (i := 7) (N := some 18) (bsA 11 133) (h := ?_)
      refine inv_at [1, 3, 4, 5, 6, 8, 9, 10] (fun a0_ b a w' => ∃ (v224 : Value) (adz_v224 : Addr) (m4_ : Value), a = putSel a0_ b [(1, 12, v224), (3, 14, .int .i64 t226), (4, 15, m4_), (5, 16, .string (rdOf ByteArray.empty y223 t226)), (6, 17, .string (t219 ++ (rdOf ByteArray.empty y223 t226))), (8, 19, .string t229), (9, 20, .string ((t219 ++ (rdOf ByteArray.empty y223 t226)) ++ t229)), (10, 4, .string ((t219 ++ (rdOf ByteArray.empty y223 t226)) ++ t229))] ∧ (b 3 = false → IsS73 w w' g218 t216 t222) ∧ (Below w.heap.size w w') ∧ (b 1 = true → Kd.R Kd.string 9 w' w.heap.size (fun _ => True) v224 y223) ∧ (b 1 = true → ∃ c_, (v224 : Value) = .slice (some adz_v224) y223.length c_) ∧ (b 3 = true → b 8 = false → IsS73 w w' g218 t216 t227) ∧ (b 8 = true → IsS73 w w' g218 t216 t230) ∧ (b 4 = true → (m4_ : Value) = .pointer (some (adz_v224.add (t226).toNat)))) HT_.out HW_.out (by kernel_rfl) (by kernel_rfl) ?_ ?_ ?_
      ·exact ⟨.bool false, ⟨0, 0, none⟩, .bool false, by simp only [putSel, Bool.false_eq_true, if_false], fun _ => HI218.out, HB.out, fun h_ => absurd h_ (by decide), fun h_ => absurd h_ (by decide), fun h_ => absurd h_ (by decide), fun h_ => absurd h_ (by decide), fun h_ => absurd h_ (by decide)⟩
      ·skip
       clear HB HI218
       refine steps_cons ?_ ?_
       ·rintro b a w' ⟨v224, adz_v224, m4_, ha, Q_HI218, Q_HB, Q_HO225, Q_HA_HO225, Q_HI218_e3, Q_HI218_e8, Q_X4_⟩ hb_ hon hoff
        refine ⟨_, rfl, fun K hK => ?_⟩
        replace ha := aM ha
        have HB := aM Q_HB
        refine Kd.R_lit_step Kd.string _ 9 ?hg (N := 12) ?hd (xs := ([(⟨#[32]⟩ : ByteArray), (⟨#[]⟩ : ByteArray), (⟨#[63, 61]⟩ : ByteArray)] : List ByteArray)) (inner := [.string (⟨#[32]⟩ : ByteArray), .string (⟨#[]⟩ : ByteArray), .string (⟨#[63, 61]⟩ : ByteArray)]) (ok := fun _ => True) (okp := fun _ => True) ?hr ?hp (fun _ hk => hk) trivial (Below.refl _ _) (Nat.le_refl _) (by simp) ?_; (case hd => rfl); (case hg => rfl); (case hr => exact z10); (case hp => exact (Reps.one (show Kd.M Kd.string _ _ _ (⟨#[32]⟩ : ByteArray) [.string (⟨#[32]⟩ : ByteArray)] from rfl) (Reps.one (show Kd.M Kd.string _ _ _ (⟨#[]⟩ : ByteArray) [.string (⟨#[]⟩ : ByteArray)] from rfl) (Reps.one (show Kd.M Kd.string _ _ _ (⟨#[63, 61]⟩ : ByteArray) [.string (⟨#[63, 61]⟩ : ByteArray)] from rfl) (Reps.none _ _)))))
        intro v224 w34 ho35 hb hg_ hnew_
        clear hg_ hnew_
        (first | rw [← Ny223.out] at ho35 | (simp only [Int.reduceToNat] at ho35; rw [← Ny223.out] at ho35))
        have n0_ := aM (Kd.R_lower ho35 (below_size bB))
        have n2_ := aM (below_step bB hb)
        have z_HI218 := fun (h0_ : b 3 = false) => (show IsS73 w w34 g218 t216 t222 from by first | exact (IsS73.below (by repeat (first | (with_reducible first | exact (Q_HI218 h0_) | apply IsS73.alloc | apply IsS73.drewN | apply IsS73.drew | apply IsS73.set_1) | exact (Q_HI218 h0_))) hb))
        have z_HI218_e3 := fun (h0_ : b 3 = true) (h1_ : b 8 = false) => (show IsS73 w w34 g218 t216 t227 from by first | exact (IsS73.below (by repeat (first | (with_reducible first | exact (Q_HI218_e3 h0_ h1_) | apply IsS73.alloc | apply IsS73.drewN | apply IsS73.drew | apply IsS73.set_1) | exact (Q_HI218_e3 h0_ h1_))) hb))
        have z_HI218_e8 := fun (h0_ : b 8 = true) => (show IsS73 w w34 g218 t216 t230 from by first | exact (IsS73.below (by repeat (first | (with_reducible first | exact (Q_HI218_e8 h0_) | apply IsS73.alloc | apply IsS73.drewN | apply IsS73.drew | apply IsS73.set_1) | exact (Q_HI218_e8 h0_))) hb))
        clear HB
        have HO225 := n0_
        have HB := n2_
        clear n0_ n2_
        clear hb ho35
        obtain ⟨Ao36, co36, eo36⟩ := Kd.R_slice HO225.out
        subst eo36
        obtain ⟨ado36, fo36, _⟩ := Kd.at_string (Kd.R_reads' HO225.out).2.2 0 (by decide) (by rw [Ny223.out]; simp)
        cases fo36
        refine hK.out _ _ ⟨.slice (some ado36) y223.length co36, ado36, m4_, (by rw [ha.out]; exact putSel_upk 0 hb_ rfl rfl rfl), z_HI218, bB, fun _ => (bR HO225), fun _ => ⟨_, rfl⟩, z_HI218_e3, z_HI218_e8, fun h0_ => absurd ((hoff 4 (by kernel_rfl)).symm.trans h0_) (by decide)⟩
       refine steps_cons ?_ ?_
       ·rintro b a w' ⟨v224, adz_v224, m4_, ha, Q_HI218, Q_HB, Q_HO225, Q_HA_HO225, Q_HI218_e3, Q_HI218_e8, Q_X4_⟩ hb_ hon hoff
        refine ⟨_, rfl, fun K hK => ?_⟩
        have e13 : a.tmps[13]? = some (.pointer (some ⟨g218, 0, none⟩)) := z51
        replace ha := aM ha
        have HI218 := aM (Q_HI218 hb_)
        have HB := aM Q_HB
        refine goes_ Tryz.func32 (by kernel_rfl) rfl #[.pointer (some ⟨g218, 0, none⟩), .int .i64 3] (by rfl) rfl rfl (by first | (simp only [List.map_toArray, List.map_cons, List.map_nil, Act.eval, Array.getD_eq_getD_getElem?, Option.getD_some, e13]; done) | (simp only [List.map_toArray, List.map_cons, List.map_nil, Act.eval, Array.getD_eq_getD_getElem?, Option.getD_some, e13]; rfl)) ?_
        with_reducible refine (spec_l1Next.calls g218 t216 t222 3 t226 t227 w _ ?side1 ?side2 A6.out).mono ?_
        (case side1 => exact z2 HI218.out)
        (case side2 => exact z1 HI218.out)
        rintro e w34 ⟨rfl, hi, hb, hk⟩
        refine ⟨_, rfl, ?_⟩
        have n0_ := aM (hb)
        have n1_ := aM (hi)
        have z_HO225 := fun (h0_ : b 1 = true) => (show Kd.R Kd.string 9 w34 w.heap.size (fun _ => True) v224 y223 from by first | exact (Kd.R_mono (Kd.R_keep (IsS73.apart (show IsS73 w _ g218 t216 t222 from z2 HI218.out) z36 (by decide)) hk (fun _ h => h.2)) (fun _ h => h.1)) | exact Kd.R_mono (Kd.R_mono (Kd.R_keep (IsS73.apart (show IsS73 w _ g218 t216 t222 from z2 HI218.out) z36 (by decide)) hk (fun _ h => h.2)) (fun _ h => h.1)) (fun _ h_ => by first | trivial | exact h_ | exact h_.1))
        clear HB
        clear HI218
        have HB := n0_
        have HI218 := n1_
        clear n0_ n1_
        (try clear hb)
        (try clear hb2)
        (try clear hk)
        (try clear hi)
        refine hK.out _ _ ⟨v224, adz_v224, m4_, (by rw [ha.out]; exact putSel_upk 1 hb_ rfl rfl rfl), fun h0_ => absurd ((up_self b 3).symm.trans h0_) (by decide), (z1 HI218.out), z_HO225, Q_HA_HO225, fun _ _ => (z2 HI218.out), fun h0_ => absurd ((hoff 8 (by kernel_rfl)).symm.trans h0_) (by decide), fun h0_ => absurd ((hoff 4 (by kernel_rfl)).symm.trans h0_) (by decide)⟩
       refine steps_cons ?_ ?_
       ·rintro b a w' ⟨v224, adz_v224, m4_, ha, Q_HI218, Q_HB, Q_HO225, Q_HA_HO225, Q_HI218_e3, Q_HI218_e8, Q_X4_⟩ hb_ hon hoff
        refine ⟨_, rfl, fun K hK => ?_⟩
        have e12 : a.tmps[12]? = some (v224) := by rw [ha]; exact putSel_on (e := (1, 12, v224)) 0 rfl rfl (hon 1 (by kernel_rfl)) rfl
        have e14 : a.tmps[14]? = some (.int .i64 t226) := by rw [ha]; exact putSel_on (e := (3, 14, .int .i64 t226)) 1 rfl rfl (hon 3 (by kernel_rfl)) rfl
        replace ha := aM ha
        have HB := aM Q_HB
        have HO225 := aM (Q_HO225 (hon 1 (by kernel_rfl)))
        have HA_HO225 := aM (Q_HA_HO225 (hon 1 (by kernel_rfl)))
        obtain ⟨c_, hv_⟩ := HA_HO225.out
        rw [hv_] at e12
        refine value_ (w1 := w') (v := .pointer (some (adz_v224.add (t226).toNat))) (by rfl) rfl ?_ ?_
        ·go_simp
         (try simp only [i64_w])
         try rfl
        refine hK.out _ _ ⟨v224, adz_v224, (.pointer (some (adz_v224.add (t226).toNat))), (by rw [ha.out]; exact putSel_upk 2 hb_ rfl rfl rfl), fun h0_ => absurd ((hon 3 (by kernel_rfl)).symm.trans h0_) (by decide), Q_HB, Q_HO225, Q_HA_HO225, Q_HI218_e3, Q_HI218_e8, fun _ => rfl⟩
       refine steps_cons ?_ ?_
       ·rintro b a w' ⟨v224, adz_v224, m4_, ha, Q_HI218, Q_HB, Q_HO225, Q_HA_HO225, Q_HI218_e3, Q_HI218_e8, Q_X4_⟩ hb_ hon hoff
        refine ⟨_, rfl, fun K hK => ?_⟩
        have e15 : a.tmps[15]? = some (m4_) := by rw [ha]; exact putSel_on (e := (4, 15, m4_)) 2 rfl rfl (hon 4 (by kernel_rfl)) rfl
        rw [Q_X4_ (hon 4 (by kernel_rfl))] at e15
        replace ha := aM ha
        have HB := aM Q_HB
        have HO225 := aM (Q_HO225 (hon 1 (by kernel_rfl)))
        have HA_HO225 := aM (Q_HA_HO225 (hon 1 (by kernel_rfl)))
        obtain ⟨c_, hv_⟩ := HA_HO225.out
        have hF_ := HO225.out
        rw [hv_] at hF_
        obtain ⟨ad_, ea_, hx_⟩ := Kd.at_string (Kd.R_reads' hF_).2.2 t226 (of_eq_true pi228) (of_eq_true qi228)
        cases ea_
        refine value_ (w1 := w') (v := .string (rdOf ByteArray.empty y223 t226)) (by rfl) rfl ?_ ?_
        ·go_simp
         (try simp only [i64_w])
         try rfl
        refine hK.out _ _ ⟨v224, adz_v224, m4_, (by rw [ha.out]; exact putSel_upk 3 hb_ rfl rfl rfl), fun h0_ => absurd ((hon 3 (by kernel_rfl)).symm.trans h0_) (by decide), Q_HB, Q_HO225, Q_HA_HO225, Q_HI218_e3, Q_HI218_e8, Q_X4_⟩
       refine steps_cons ?_ ?_
       ·rintro b a w' ⟨v224, adz_v224, m4_, ha, Q_HI218, Q_HB, Q_HO225, Q_HA_HO225, Q_HI218_e3, Q_HI218_e8, Q_X4_⟩ hb_ hon hoff
        refine ⟨_, rfl, fun K hK => ?_⟩
        have e11 : a.tmps[11]? = some (.string t219) := z51
        have e16 : a.tmps[16]? = some (.string (rdOf ByteArray.empty y223 t226)) := by rw [ha]; exact putSel_on (e := (5, 16, .string (rdOf ByteArray.empty y223 t226))) 3 rfl rfl (hon 5 (by kernel_rfl)) rfl
        replace ha := aM ha
        have HB := aM Q_HB
        have HO225 := aM (Q_HO225 (hon 1 (by kernel_rfl)))
        have HA_HO225 := aM (Q_HA_HO225 (hon 1 (by kernel_rfl)))
        refine value_ (w1 := w') (v := .string (t219 ++ (rdOf ByteArray.empty y223 t226))) (by rfl) rfl ?_ ?_
        ·go_simp
         (try simp only [i64_w])
         try rfl
        refine hK.out _ _ ⟨v224, adz_v224, m4_, (by rw [ha.out]; exact putSel_upk 4 hb_ rfl rfl rfl), fun h0_ => absurd ((hon 3 (by kernel_rfl)).symm.trans h0_) (by decide), Q_HB, Q_HO225, Q_HA_HO225, Q_HI218_e3, Q_HI218_e8, Q_X4_⟩
       refine steps_cons ?_ ?_
       ·rintro b a w' ⟨v224, adz_v224, m4_, ha, Q_HI218, Q_HB, Q_HO225, Q_HA_HO225, Q_HI218_e3, Q_HI218_e8, Q_X4_⟩ hb_ hon hoff
        refine ⟨_, rfl, fun K hK => ?_⟩
        have e18 : a.tmps[18]? = some (.pointer (some ⟨g218, 0, none⟩)) := z51
        replace ha := aM ha
        have HB := aM Q_HB
        have HI218 := aM (Q_HI218_e3 (hon 3 (by kernel_rfl)) hb_)
        refine goes_ Tryz.func30 (by kernel_rfl) rfl #[.pointer (some ⟨g218, 0, none⟩)] (by rfl) rfl rfl (by first | (simp only [List.map_toArray, List.map_cons, List.map_nil, Act.eval, Array.getD_eq_getD_getElem?, Option.getD_some, e18]; done) | (simp only [List.map_toArray, List.map_cons, List.map_nil, Act.eval, Array.getD_eq_getD_getElem?, Option.getD_some, e18]; rfl)) ?_
        with_reducible refine (spec_l4DrawValue.calls k g218 t216 t227 t229 t230 w _ ?side1 ?side2 A10.out).mono ?_
        (case side1 => exact z2 HI218.out)
        (case side2 => exact z1 HI218.out)
        rintro e w36 ⟨rfl, hi, hb, hk⟩
        refine ⟨_, rfl, ?_⟩
        have n0_ := aM (hb)
        have n1_ := aM (hi)
        have z_HO225 := fun (h0_ : b 1 = true) => (show Kd.R Kd.string 9 w36 w.heap.size (fun _ => True) v224 y223 from by first | exact (Kd.R_mono (Kd.R_keep (IsS73.apart (show IsS73 w _ g218 t216 t227 from z2 HI218.out) z36 (by decide)) hk (fun _ h => h.2)) (fun _ h => h.1)) | exact Kd.R_mono (Kd.R_mono (Kd.R_keep (IsS73.apart (show IsS73 w _ g218 t216 t227 from z2 HI218.out) z36 (by decide)) hk (fun _ h => h.2)) (fun _ h => h.1)) (fun _ h_ => by first | trivial | exact h_ | exact h_.1))
        clear HB
        clear HI218
        have HB := n0_
        have HI218 := n1_
        clear n0_ n1_
        (try clear hb)
        (try clear hb2)
        (try clear hk)
        (try clear hi)
        refine hK.out _ _ ⟨v224, adz_v224, m4_, (by rw [ha.out]; exact putSel_upk 5 hb_ rfl rfl rfl), fun h0_ => absurd ((hon 3 (by kernel_rfl)).symm.trans h0_) (by decide), (z1 HI218.out), z_HO225, Q_HA_HO225, fun _ h1_ => absurd ((up_self b 8).symm.trans h1_) (by decide), fun _ => (z2 HI218.out), Q_X4_⟩
       refine steps_cons ?_ ?_
       ·rintro b a w' ⟨v224, adz_v224, m4_, ha, Q_HI218, Q_HB, Q_HO225, Q_HA_HO225, Q_HI218_e3, Q_HI218_e8, Q_X4_⟩ hb_ hon hoff
        refine ⟨_, rfl, fun K hK => ?_⟩
        have e17 : a.tmps[17]? = some (.string (t219 ++ (rdOf ByteArray.empty y223 t226))) := by rw [ha]; exact putSel_on (e := (6, 17, .string (t219 ++ (rdOf ByteArray.empty y223 t226)))) 4 rfl rfl (hon 6 (by kernel_rfl)) rfl
        have e19 : a.tmps[19]? = some (.string t229) := by rw [ha]; exact putSel_on (e := (8, 19, .string t229)) 5 rfl rfl (hon 8 (by kernel_rfl)) rfl
        replace ha := aM ha
        have HB := aM Q_HB
        have HO225 := aM (Q_HO225 (hon 1 (by kernel_rfl)))
        have HA_HO225 := aM (Q_HA_HO225 (hon 1 (by kernel_rfl)))
        have HI218 := aM (Q_HI218_e8 (hon 8 (by kernel_rfl)))
        refine value_ (w1 := w') (v := .string ((t219 ++ (rdOf ByteArray.empty y223 t226)) ++ t229)) (by rfl) rfl ?_ ?_
        ·go_simp
         (try simp only [i64_w])
         try rfl
        refine hK.out _ _ ⟨v224, adz_v224, m4_, (by rw [ha.out]; exact putSel_upk 6 hb_ rfl rfl rfl), fun h0_ => absurd ((hon 3 (by kernel_rfl)).symm.trans h0_) (by decide), Q_HB, Q_HO225, Q_HA_HO225, fun _ h1_ => absurd ((hon 8 (by kernel_rfl)).symm.trans h1_) (by decide), Q_HI218_e8, Q_X4_⟩
       refine steps_cons ?_ ?_
       ·rintro b a w' ⟨v224, adz_v224, m4_, ha, Q_HI218, Q_HB, Q_HO225, Q_HA_HO225, Q_HI218_e3, Q_HI218_e8, Q_X4_⟩ hb_ hon hoff
        refine ⟨_, rfl, fun K hK => ?_⟩
        have e20 : a.tmps[20]? = some (.string ((t219 ++ (rdOf ByteArray.empty y223 t226)) ++ t229)) := by rw [ha]; exact putSel_on (e := (9, 20, .string ((t219 ++ (rdOf ByteArray.empty y223 t226)) ++ t229))) 6 rfl rfl (hon 9 (by kernel_rfl)) rfl
        replace ha := aM ha
        have HB := aM Q_HB
        have HO225 := aM (Q_HO225 (hon 1 (by kernel_rfl)))
        have HA_HO225 := aM (Q_HA_HO225 (hon 1 (by kernel_rfl)))
        have HI218 := aM (Q_HI218_e8 (hon 8 (by kernel_rfl)))
        refine value_ (w1 := w') (v := .string ((t219 ++ (rdOf ByteArray.empty y223 t226)) ++ t229)) (by rfl) rfl ?_ ?_
        ·go_simp
         (try simp only [i64_w])
         try rfl
        refine hK.out _ _ ⟨v224, adz_v224, m4_, (by rw [ha.out]; exact putSel_upk 7 hb_ rfl rfl rfl), fun h0_ => absurd ((hon 3 (by kernel_rfl)).symm.trans h0_) (by decide), Q_HB, Q_HO225, Q_HA_HO225, fun _ h1_ => absurd ((hon 8 (by kernel_rfl)).symm.trans h1_) (by decide), Q_HI218_e8, Q_X4_⟩
       exact steps_nil
      rintro b a w39 hall ⟨v224, adz_v224, m4_, ha, Q_HI218, Q_HB, Q_HO225, Q_HA_HO225, Q_HI218_e3, Q_HI218_e8, Q_X4_⟩
      clear HB HI218
      have hb1_ := hall 1 (by kernel_rfl)
      have hb3_ := hall 3 (by kernel_rfl)
      have hb4_ := hall 4 (by kernel_rfl)
      have hb5_ := hall 5 (by kernel_rfl)
      have hb6_ := hall 6 (by kernel_rfl)
      have hb8_ := hall 8 (by kernel_rfl)
      have hb9_ := hall 9 (by kernel_rfl)
      have hb10_ := hall 10 (by kernel_rfl)
      subst ha
      obtain rfl := Q_X4_ hb4_
      simp only [putSel, hb1_, hb3_, hb4_, hb5_, hb6_, hb8_, hb9_, hb10_, if_true, Act.put, List.setIfInBounds_toArray, List.set_cons_zero, List.set_cons_succ]
      clear Q_HI218
      have HB := aM Q_HB
      clear Q_HB
      have HO225 := aM (Q_HO225 hb1_)
      clear Q_HO225
      have HA_HO225 := aM (Q_HA_HO225 hb1_)
      clear Q_HA_HO225
      clear Q_HI218_e3
      have HI218 := aM (Q_HI218_e8 hb8_)
      clear Q_HI218_e8
      clear hall hb1_ hb3_ hb4_ hb5_ hb6_ hb8_ hb9_ hb10_
      obtain ⟨co40, eo40⟩ := HA_HO225.out
      clear HA_HO225
      subst eo40
      try go_wp2_with (first | ((with_reducible refine gate_callee (f := 31) rfl ?_); refine gL_ (some 22) Tryz.func31 #[.pointer (some ⟨g218, 0, none⟩), .int .i64 40] ?_; (with_reducible refine (spec_l1Chance.calls g218 t216 t230 40 false t232 w _ ?side1 ?side2 A12.out).mono ?_); (case side1 => exact z2 HI218.out); (case side2 => exact z1 HI218.out); rintro e w41 ⟨rfl, hi, hb, hk⟩; refine ⟨_, rfl, ?_⟩; replace HO225 := aM (Kd.R_mono (Kd.R_keep (IsS73.apart (show IsS73 w _ g218 t216 t230 from z2 HI218.out) (bR HO225) (by decide)) hk (fun _ h => h.2)) (fun _ h => h.1)); replace HB := aM (hb); replace HI218 := aM (hi); (try clear hi)))
      go_ret
      exact ⟨bE, z1 HI218.out⟩
     rw [if_neg c11] at H
     exact absurd H (by simp)
    rw [if_neg c9] at H
    exact absurd H (by simp)
   rw [if_neg c8] at H
   exact absurd H (by simp)
  rw [if_neg c7] at H
  exact absurd H (by simp)
 replace c5 := Bool.eq_false_iff.mpr c5
 subst c5
 have H1 : ((spec_l1Chance.f t216 t222 40).bind fun bt236 => (if bt236.1 = true then (if 401 ≤ 281474976710656 then (some (strOfNums (List.replicate 401 0))) else (none)) else (some t219))) = some r := z7
 clear H
 have H := H1
 clear H1
 replace H := Option.bind_eq_some_iff.mp H
 obtain ⟨⟨t236, t237⟩, A420, H⟩ := H
 replace H : (if t236 = true then (if 401 ≤ 281474976710656 then (some (strOfNums (List.replicate 401 0))) else (none)) else (some t219)) = some r := H
 have A42 := aM A420
 clear A420
 by_cases c43 : t236 = true
 ·subst c43
  have H1 : (if 401 ≤ 281474976710656 then (some (strOfNums (List.replicate 401 0))) else (none)) = some r := z16
  clear H
  have H := H1
  clear H1
  by_cases c44 : 401 ≤ 281474976710656
  ·rw [if_pos c44] at H
   have c44b0 := eq_true c44
   have c44b1 : decide (401 ≤ 281474976710656) = true := decide_eq_true c44
   clear c44
   obtain ⟨y238, hy238⟩ : ∃ y_ : List Int, y_ = (List.replicate 401 0) := ⟨_, rfl⟩
   replace H : (some (strOfNums y238)) = some r := z0 hy238
   have Ny238 := aM hy238
   clear hy238
   obtain rfl := Option.some.inj H
   go_wp2_with (first | ((with_reducible refine gate_callee (f := 29) rfl ?_); refine gL_ (some 6) Tryz.func29 #[.slice A0 l0.length c0] ?_; (with_reducible refine (spec_l1Source.calls _ _ l0 t216 t217 w _ ?side1 ?side2 ?side3 A2.out).mono ?_); (case side1 => exact z32); (case side2 => exact HR0.out); (case side3 => exact HC0.out); rintro e w45 ⟨g218, rfl, hi, hb, hb2⟩; refine ⟨_, rfl, ?_⟩; replace HB := aM (hb); have HI218 := aM (hi); (try clear hi)) | ((with_reducible refine gate_callee (f := 30) rfl ?_); refine gL_ (some 8) Tryz.func30 #[.pointer (some ⟨g218, 0, none⟩)] ?_; (with_reducible refine (spec_l4DrawValue.calls k g218 t216 t217 t219 t220 w _ ?side1 ?side2 A3.out).mono ?_); (case side1 => exact z2 HI218.out); (case side2 => exact z1 HI218.out); rintro e w46 ⟨rfl, hi, hb, hk⟩; refine ⟨_, rfl, ?_⟩; replace HB := aM (hb); replace HI218 := aM (hi); (try clear hi)) | ((with_reducible refine gate_callee (f := 31) rfl ?_); refine gL_ (some 10) Tryz.func31 #[.pointer (some ⟨g218, 0, none⟩), .int .i64 3] ?_; (with_reducible refine (spec_l1Chance.calls g218 t216 t220 3 false t222 w _ ?side1 ?side2 A4.out).mono ?_); (case side1 => exact z2 HI218.out); (case side2 => exact z1 HI218.out); rintro e w47 ⟨rfl, hi, hb, hk⟩; refine ⟨_, rfl, ?_⟩; replace HB := aM (hb); replace HI218 := aM (hi); (try clear hi)) | ((with_reducible refine gate_callee (f := 31) rfl ?_); refine gL_ (some 22) Tryz.func31 #[.pointer (some ⟨g218, 0, none⟩), .int .i64 40] ?_; (with_reducible refine (spec_l1Chance.calls g218 t216 t222 40 true t237 w _ ?side1 ?side2 A42.out).mono ?_); (case side1 => exact z2 HI218.out); (case side2 => exact z1 HI218.out); rintro e w48 ⟨rfl, hi, hb, hk⟩; refine ⟨_, rfl, ?_⟩; replace HB := aM (hb); replace HI218 := aM (hi); (try clear hi)) | ((with_reducible refine gate_dst (N := 23) rfl ?_); refine Kd.R_make (Kd.int .u8) _ 5 rfl (N := 23) rfl 22 _ _ rfl 401 rfl rfl Tryz.underlying22 (.int .u8 0) 1 info5 rfl (by decide) (by omega) 0 (ok := fun _ => True) (okp := fun _ => True) rfl (fun _ hk => hk) trivial (by omega) (by omega) (Below.refl _ _) (Nat.le_refl _) ?_; intro v239 w49 ho50 hb hg_ hnew_; clear hg_ hnew_; (first | rw [← Ny238.out] at ho50 | (simp only [Int.reduceToNat] at ho50; rw [← Ny238.out] at ho50)); have HO240 := aM (Kd.R_lower ho50 (below_size (z1 HI218.out))); replace HB := aM (below_step (z1 HI218.out) hb); replace HI218 := aM (IsS73.below (z2 HI218.out) hb); clear hb ho50; have hcv51 := own_string (P := Tryz.prog) Tryz.underlying22 Tryz.underlying5 Tryz.underlying9 (Kd.own_of_R HO240.out); (try have hcv51d := fun nq_ : Nat => own_string (P := Tryz.prog) Tryz.underlying22 Tryz.underlying5 Tryz.underlying9 (Kd.own_of_R (Kd.R_drewN HO240.out nq_)))))
   go_ret
   exact ⟨bE, z1 HI218.out⟩
  rw [if_neg c44] at H
  exact absurd H (by simp)
 replace c43 := Bool.eq_false_iff.mpr c43
 subst c43
 have H1 : (some t219) = some r := z7
 clear H
 have H := H1
 clear H1
 obtain rfl := Option.some.inj H
 go_wp2_with (first | ((with_reducible refine gate_callee (f := 29) rfl ?_); refine gL_ (some 6) Tryz.func29 #[.slice A0 l0.length c0] ?_; (with_reducible refine (spec_l1Source.calls _ _ l0 t216 t217 w _ ?side1 ?side2 ?side3 A2.out).mono ?_); (case side1 => exact z32); (case side2 => exact HR0.out); (case side3 => exact HC0.out); rintro e w52 ⟨g218, rfl, hi, hb, hb2⟩; refine ⟨_, rfl, ?_⟩; replace HB := aM (hb); have HI218 := aM (hi); (try clear hi)) | ((with_reducible refine gate_callee (f := 30) rfl ?_); refine gL_ (some 8) Tryz.func30 #[.pointer (some ⟨g218, 0, none⟩)] ?_; (with_reducible refine (spec_l4DrawValue.calls k g218 t216 t217 t219 t220 w _ ?side1 ?side2 A3.out).mono ?_); (case side1 => exact z2 HI218.out); (case side2 => exact z1 HI218.out); rintro e w53 ⟨rfl, hi, hb, hk⟩; refine ⟨_, rfl, ?_⟩; replace HB := aM (hb); replace HI218 := aM (hi); (try clear hi)) | ((with_reducible refine gate_callee (f := 31) rfl ?_); refine gL_ (some 10) Tryz.func31 #[.pointer (some ⟨g218, 0, none⟩), .int .i64 3] ?_; (with_reducible refine (spec_l1Chance.calls g218 t216 t220 3 false t222 w _ ?side1 ?side2 A4.out).mono ?_); (case side1 => exact z2 HI218.out); (case side2 => exact z1 HI218.out); rintro e w54 ⟨rfl, hi, hb, hk⟩; refine ⟨_, rfl, ?_⟩; replace HB := aM (hb); replace HI218 := aM (hi); (try clear hi)) | ((with_reducible refine gate_callee (f := 31) rfl ?_); refine gL_ (some 22) Tryz.func31 #[.pointer (some ⟨g218, 0, none⟩), .int .i64 40] ?_; (with_reducible refine (spec_l1Chance.calls g218 t216 t222 40 false t237 w _ ?side1 ?side2 A42.out).mono ?_); (case side1 => exact z2 HI218.out); (case side2 => exact z1 HI218.out); rintro e w55 ⟨rfl, hi, hb, hk⟩; refine ⟨_, rfl, ?_⟩; replace HB := aM (hb); replace HI218 := aM (hi); (try clear hi)))
 go_ret
 exact ⟨bE, z1 HI218.out⟩
def stringslite_HasPrefix.f (a0 : ByteArray) (a1 : ByteArray) : Option (Bool) := if (a0.size : Int) ≥ (a1.size : Int) then (if 0 ≤ (a1.size : Int) then (if (a1.size : Int) ≤ (a0.size : Int) then (some ((a0.extract 0 ((a1.size : Int) : Int).toNat).toList == a1.toList)) else (none)) else (none)) else (some false)
set_option maxHeartbeats 8000000 in
set_option maxRecDepth 100000 in
theorem stringslite_HasPrefix.calls (a0 : ByteArray) (a1 : ByteArray) (r : Bool) (w : World) (h : stringslite_HasPrefix.f a0 a1 = some r) :
  Calls Tryz.prog 108 #[.string a0, .string a1] w fun e w' => e = .returned (.bool r) ∧ Drawn0 w w' := by
 have H : (if (a0.size : Int) ≥ (a1.size : Int) then (if 0 ≤ (a1.size : Int) then (if (a1.size : Int) ≤ (a0.size : Int) then (some ((a0.extract 0 ((a1.size : Int) : Int).toNat).toList == a1.toList)) else (none)) else (none)) else (some false)) = some r := h
 clear h
 by_cases c3 : (a0.size : Int) ≥ (a1.size : Int)
 ·rw [if_pos c3] at H
  have c3b0 : decide ((a1.size : Int) ≤ (a0.size : Int)) = true := decide_eq_true c3
  have c3b1 : decide (a1.size ≤ a0.size) = true := decide_eq_true (Int.ofNat_le.mp c3)
  clear c3
  by_cases c4 : 0 ≤ (a1.size : Int)
  ·rw [if_pos c4] at H
   have c4b0 := eq_true c4
   have c4b1 : decide (0 ≤ (a1.size : Int)) = true := decide_eq_true c4
   clear c4
   by_cases c5 : (a1.size : Int) ≤ (a0.size : Int)
   ·rw [if_pos c5] at H
    have c5b0 := eq_true c5
    have c5b1 : decide ((a1.size : Int) ≤ (a0.size : Int)) = true := decide_eq_true c5
    clear c5
    obtain rfl := Option.some.inj H
    go_enter Tryz.func108, Tryz.ntmps108
    go_wp2
    go_ret
    exact ⟨bS, z5⟩
   rw [if_neg c5] at H
   exact absurd H (by simp)
  rw [if_neg c4] at H
  exact absurd H (by simp)
 rw [if_neg c3] at H
 have c3b0 : decide ((a1.size : Int) ≤ (a0.size : Int)) = false := decide_eq_false c3
 have c3b1 : decide (a1.size ≤ a0.size) = false := decide_eq_false (fun h => c3 (Int.ofNat_le.mpr h))
 clear c3
 obtain rfl := Option.some.inj H
 go_enter Tryz.func108, Tryz.ntmps108
 go_wp2
 go_ret
 exact ⟨bS, z5⟩
def stringslite_CutPrefix.f (a0 : ByteArray) (a1 : ByteArray) : Option (ByteArray × Bool) := (stringslite_HasPrefix.f a0 a1).bind fun t241 => (if t241 = true then (if 0 ≤ (a1.size : Int) then (if (a1.size : Int) ≤ (a0.size : Int) then (some (a0.extract ((a1.size : Int) : Int).toNat a0.size, true)) else (none)) else (none)) else (some (a0, false)))
set_option maxHeartbeats 8000000 in
set_option maxRecDepth 100000 in
theorem stringslite_CutPrefix.calls (a0 : ByteArray) (a1 : ByteArray) (r1 : ByteArray) (r2 : Bool) (w : World) (h : stringslite_CutPrefix.f a0 a1 = some (r1, r2)) :
  Calls Tryz.prog 106 #[.string a0, .string a1] w fun e w' => e = .returned (.tuple #[.string r1, .bool r2]) ∧ Drawn0 w w' := by
 have H : ((stringslite_HasPrefix.f a0 a1).bind fun t241 => (if t241 = true then (if 0 ≤ (a1.size : Int) then (if (a1.size : Int) ≤ (a0.size : Int) then (some (a0.extract ((a1.size : Int) : Int).toNat a0.size, true)) else (none)) else (none)) else (some (a0, false)))) = some (r1, r2) := h
 clear h
 replace H := Option.bind_eq_some_iff.mp H
 obtain ⟨t241, A30, H⟩ := H
 replace H : (if t241 = true then (if 0 ≤ (a1.size : Int) then (if (a1.size : Int) ≤ (a0.size : Int) then (some (a0.extract ((a1.size : Int) : Int).toNat a0.size, true)) else (none)) else (none)) else (some (a0, false))) = some (r1, r2) := H
 have A3 := aM A30
 clear A30
 by_cases c4 : t241 = true
 ·subst c4
  have H1 : (if 0 ≤ (a1.size : Int) then (if (a1.size : Int) ≤ (a0.size : Int) then (some (a0.extract ((a1.size : Int) : Int).toNat a0.size, true)) else (none)) else (none)) = some (r1, r2) := z16
  clear H
  have H := H1
  clear H1
  by_cases c5 : 0 ≤ (a1.size : Int)
  ·rw [if_pos c5] at H
   have c5b0 := eq_true c5
   have c5b1 : decide (0 ≤ (a1.size : Int)) = true := decide_eq_true c5
   clear c5
   by_cases c6 : (a1.size : Int) ≤ (a0.size : Int)
   ·rw [if_pos c6] at H
    have c6b0 := eq_true c6
    have c6b1 : decide ((a1.size : Int) ≤ (a0.size : Int)) = true := decide_eq_true c6
    clear c6
    simp only [Option.some.injEq, Prod.mk.injEq] at H
    obtain ⟨rfl, rfl⟩ := H
    go_enter Tryz.func106, Tryz.ntmps106
    go_wp2_with (first | ((with_reducible refine gate_callee (f := 108) rfl ?_); refine gL_ (some 8) Tryz.func108 #[.string a0, .string a1] ?_; (with_reducible refine (stringslite_HasPrefix.calls a0 a1 true _ A3.out).mono ?_); rintro e w' ⟨rfl, ⟨nd, rfl⟩⟩; refine ⟨_, rfl, ?_⟩))
    go_ret2
    exact ⟨bS, z5⟩
   rw [if_neg c6] at H
   exact absurd H (by simp)
  rw [if_neg c5] at H
  exact absurd H (by simp)
 replace c4 := Bool.eq_false_iff.mpr c4
 subst c4
 have H1 : (some (a0, false)) = some (r1, r2) := z7
 clear H
 have H := H1
 clear H1
 simp only [Option.some.injEq, Prod.mk.injEq] at H
 obtain ⟨rfl, rfl⟩ := H
 go_enter Tryz.func106, Tryz.ntmps106
 go_wp2_with (first | ((with_reducible refine gate_callee (f := 108) rfl ?_); refine gL_ (some 8) Tryz.func108 #[.string a0, .string a1] ?_; (with_reducible refine (stringslite_HasPrefix.calls a0 a1 false _ A3.out).mono ?_); rintro e w' ⟨rfl, ⟨nd, rfl⟩⟩; refine ⟨_, rfl, ?_⟩))
 go_ret2
 exact ⟨bS, z5⟩
def strings_CutPrefix.f (a0 : ByteArray) (a1 : ByteArray) : Option (ByteArray × Bool) := (stringslite_CutPrefix.f a0 a1).bind fun bt242 => (some (bt242.1, bt242.2))
set_option maxHeartbeats 8000000 in
set_option maxRecDepth 100000 in
theorem strings_CutPrefix.calls (a0 : ByteArray) (a1 : ByteArray) (r1 : ByteArray) (r2 : Bool) (w : World) (h : strings_CutPrefix.f a0 a1 = some (r1, r2)) :
  Calls Tryz.prog 76 #[.string a0, .string a1] w fun e w' => e = .returned (.tuple #[.string r1, .bool r2]) ∧ Drawn0 w w' := by
 have H : ((stringslite_CutPrefix.f a0 a1).bind fun bt242 => (some (bt242.1, bt242.2))) = some (r1, r2) := h
 clear h
 replace H := Option.bind_eq_some_iff.mp H
 obtain ⟨⟨t242, t243⟩, A30, H⟩ := H
 replace H : (some (t242, t243)) = some (r1, r2) := H
 have A3 := aM A30
 clear A30
 simp only [Option.some.injEq, Prod.mk.injEq] at H
 obtain ⟨rfl, rfl⟩ := H
 go_enter Tryz.func76, Tryz.ntmps76
 go_wp2_with (first | ((with_reducible refine gate_callee (f := 106) rfl ?_); refine gL_ (some 8) Tryz.func106 #[.string a0, .string a1] ?_; (with_reducible refine (stringslite_CutPrefix.calls a0 a1 t242 t243 _ A3.out).mono ?_); rintro e w' ⟨rfl, ⟨nd, rfl⟩⟩; refine ⟨_, rfl, ?_⟩))
 go_ret2
 exact ⟨bS, z5⟩
open Go.Shelf in
def strings_SplitN.sh_lays147_ren : Go.Shelf.Ren := ⟨fun | 147 => 77 | 221 => 107 | 268 => 131 | 138 => 132 | 143 => 61 | 195 => 142 | 197 => 117 | 218 => 143 | 219 => 95 | 260 => 135 | 217 => 123 | 225 => 124 | 224 => 125 | 267 => 126 | 266 => 140 | 314 => 141 | n => n, fun | 9 => 9 | 3 => 3 | 31 => 54 | 4 => 4 | 0 => 0 | 105 => 130 | 21 => 21 | 5 => 5 | 46 => 87 | 119 => 146 | 139 => 149 | 138 => 148 | 146 => 143 | 51 => 142 | n => n, fun | 1 => 0 | 3 => 1 | 4 => 2 | n => n⟩
open Go.Shelf in
theorem strings_SplitN.sh_lays147 : Go.Proofs.Lays.n147 Tryz.prog strings_SplitN.sh_lays147_ren := {
  mixed := by kernel_rfl
  f138 := Tryz.func132.trans (congrArg some (by kernel_rfl))
  f143 := Tryz.func61.trans (congrArg some (by kernel_rfl))
  f147 := Tryz.func77.trans (congrArg some (by kernel_rfl))
  f195 := Tryz.func142.trans (congrArg some (by kernel_rfl))
  f197 := Tryz.func117.trans (congrArg some (by kernel_rfl))
  f217 := Tryz.func123.trans (congrArg some (by kernel_rfl))
  f218 := Tryz.func143.trans (congrArg some (by kernel_rfl))
  f219 := Tryz.func95.trans (congrArg some (by kernel_rfl))
  f221 := Tryz.func107.trans (congrArg some (by kernel_rfl))
  f224 := Tryz.func125.trans (congrArg some (by kernel_rfl))
  f225 := Tryz.func124.trans (congrArg some (by kernel_rfl))
  f260 := Tryz.func135.trans (congrArg some (by kernel_rfl))
  f266 := Tryz.func140.trans (congrArg some (by kernel_rfl))
  f267 := Tryz.func126.trans (congrArg some (by kernel_rfl))
  f268 := Tryz.func131.trans (congrArg some (by kernel_rfl))
  f314 := Tryz.func141.trans (congrArg some (by kernel_rfl))
  t0 := Tryz.underlying0
  a0 := Tryz.isAgg0
  z0 := Tryz.sizeOf0
  v0 := Tryz.zeroValue0
  t3 := Tryz.underlying3
  a3 := Tryz.isAgg3
  z3 := Tryz.sizeOf3
  v3 := Tryz.zeroValue3
  t4 := Tryz.underlying4
  a4 := Tryz.isAgg4
  z4 := Tryz.sizeOf4
  v4 := Tryz.zeroValue4
  t5 := Tryz.underlying5
  a5 := Tryz.isAgg5
  z5 := Tryz.sizeOf5
  v5 := Tryz.zeroValue5
  t9 := Tryz.underlying9
  a9 := Tryz.isAgg9
  z9 := Tryz.sizeOf9
  v9 := Tryz.zeroValue9
  t21 := Tryz.underlying21
  a21 := Tryz.isAgg21
  z21 := Tryz.sizeOf21
  v21 := Tryz.zeroValue21
  t31 := Tryz.underlying54
  a31 := Tryz.isAgg54
  z31 := Tryz.sizeOf54
  v31 := Tryz.zeroValue54
  t46 := Tryz.underlying87
  a46 := Tryz.isAgg87
  z46 := Tryz.sizeOf87
  v46 := Tryz.zeroValue87
  t51 := Tryz.underlying142
  a51 := Tryz.isAgg142
  z51 := Tryz.sizeOf142
  v51 := Tryz.zeroValue142
  t105 := Tryz.underlying130
  a105 := Tryz.isAgg130
  z105 := Tryz.sizeOf130
  v105 := Tryz.zeroValue130
  t119 := Tryz.underlying146
  a119 := Tryz.isAgg146
  z119 := Tryz.sizeOf146
  t138 := Tryz.underlying148
  a138 := Tryz.isAgg148
  z138 := Tryz.sizeOf148
  v138 := Tryz.zeroValue148
  t139 := Tryz.underlying149
  a139 := Tryz.isAgg149
  z139 := Tryz.sizeOf149
  v139 := Tryz.zeroValue149
  t146 := Tryz.underlying143
  a146 := Tryz.isAgg143
  z146 := Tryz.sizeOf143
  v146 := Tryz.zeroValue143
  g1 := by kernel_rfl
  g3 := by kernel_rfl
  g4 := by kernel_rfl }
open Go.Shelf in
open Go.RowKit Go.Lib in
theorem strings_SplitN.sh_strings_SplitN (s sep : ByteArray) (n : Nat) (m : Int) (w : World) (hs : s.size < 4294967281) (hm : w.cell? ⟨0, 0, none⟩ = some (.int .i64 m)) (h1 : 1 ≤ sep.size) (hn : 1 ≤ n) (hn63 : n ≤ 9223372036854775807) :
    Calls Tryz.prog 77 #[.string s, .string sep, .int .i64 n] w fun e w' =>
      e = .returned (.slice (some ⟨w.heap.size, 0, none⟩) (Lib.splitB sep 0 (min n (s.size + 1) - 1) s).length (min n (s.size + 1))) ∧ w' = w.alloc (.cells (Lib.cellsOf (Lib.splitB sep 0 (min n (s.size + 1) - 1) s) (min n (s.size + 1))) 9) := Any.strings_SplitN strings_SplitN.sh_lays147 (by kernel_rfl) s sep n m w hs hm h1 hn hn63
theorem strings_SplitN.below {w w' : World} {a : Addr} (h : ∃ m, w.cell? a = some (.int .i64 m)) (hb : Below w.heap.size w w') : ∃ m, w'.cell? a = some (.int .i64 m) := by
  obtain ⟨m, hm⟩ := h
  exact ⟨m, (hb.cell (World.block_lt_of_cell? w a hm)).trans hm⟩
theorem strings_SplitN.reps {W : World} {base : Nat} {ok : Nat → Prop} : ∀ xs : List ByteArray, Reps (Kd.string.M W base ok) Kd.string.sz xs (xs.map Value.string)
  | [] => Reps.none _ _
  | x :: r => Reps.one (show Kd.M Kd.string W base ok x [.string x] from rfl) (strings_SplitN.reps r)
def strings_SplitN.f (a0 : ByteArray) (a1 : ByteArray) (a2 : Int) : Option (List ByteArray) := if a0.size < 4294967281 ∧ 1 ≤ a1.size ∧ 1 ≤ a2 ∧ a2 ≤ 9223372036854775807 then some (Lib.splitB a1 0 (min a2.toNat (a0.size + 1) - 1) a0) else none
theorem strings_SplitN.calls (a0 : ByteArray) (a1 : ByteArray) (a2 : Int) (r : List ByteArray) (w : World) (hm_ : ∃ m, w.cell? ⟨0, 0, none⟩ = some (.int .i64 m)) (h : strings_SplitN.f a0 a1 a2 = some r) :
    Calls Tryz.prog 77 #[.string a0, .string a1, .int .i64 a2] w fun e w' => ∃ v0_ : Value, e = .returned (v0_) ∧ Kd.R Kd.string 9 w' w.heap.size (fun _ => True) v0_ r ∧ Below w.heap.size w w' := by
  unfold strings_SplitN.f at h
  by_cases h0 : a0.size < 4294967281 ∧ 1 ≤ a1.size ∧ 1 ≤ a2 ∧ a2 ≤ 9223372036854775807
  · obtain ⟨h1, h2, h3, h4⟩ := h0
    obtain ⟨n, rfl⟩ := Int.eq_ofNat_of_zero_le (show (0 : Int) ≤ a2 by omega)
    rw [if_pos ⟨h1, h2, h3, h4⟩, show ((n : Nat) : Int).toNat = n from Int.toNat_natCast n] at h
    cases h
    obtain ⟨m, hm⟩ := hm_
    have hl := Lib.splitB_length_le a1 0 (min n (a0.size + 1) - 1) a0
    have hcs := Lib.cellsOf_size (done := Lib.splitB a1 0 (min n (a0.size + 1) - 1) a0) (N := min n (a0.size + 1)) (by omega)
    have hs1 : Kd.string.sz = 1 := rfl
    refine (strings_SplitN.sh_strings_SplitN a0 a1 n m w h1 hm h2 (by omega) (by omega)).mono ?_
    rintro e w' ⟨rfl, rfl⟩
    refine ⟨_, rfl, ⟨fun _ _ => trivial, (Lib.splitB a1 0 (min n (a0.size + 1) - 1) a0).map Value.string, ⟨by rw [hs1, List.length_map, Nat.mul_one], .inr ⟨w.heap.size, min n (a0.size + 1), Lib.cellsOf (Lib.splitB a1 0 (min n (a0.size + 1) - 1) a0) (min n (a0.size + 1)), rfl, Nat.le_refl _, ⟨(0, 0), ?_, .inl rfl⟩, by omega, ?_, by rw [hcs, hs1, Nat.mul_one], ?_⟩⟩, strings_SplitN.reps _⟩, below_alloc (Below.refl _ _) _⟩
    · show (w.heap.push _)[w.heap.size]? = _; simp
    · have : min n (a0.size + 1) ≤ a0.size + 1 := Nat.min_le_right _ _
      unfold maxLen
      omega
    rw [hs1, Nat.mul_one]
    simp [Lib.cellsOf]
  rw [if_neg h0] at h
  cases h
def strings_HasPrefix.f (a0 : ByteArray) (a1 : ByteArray) : Option (Bool) := (stringslite_HasPrefix.f a0 a1).bind fun t244 => (some t244)
set_option maxHeartbeats 8000000 in
set_option maxRecDepth 100000 in
theorem strings_HasPrefix.calls (a0 : ByteArray) (a1 : ByteArray) (r : Bool) (w : World) (h : strings_HasPrefix.f a0 a1 = some r) :
  Calls Tryz.prog 78 #[.string a0, .string a1] w fun e w' => e = .returned (.bool r) ∧ Drawn0 w w' := by
 have H : ((stringslite_HasPrefix.f a0 a1).bind fun t244 => (some t244)) = some r := h
 clear h
 replace H := Option.bind_eq_some_iff.mp H
 obtain ⟨t244, A30, H⟩ := H
 replace H : (some t244) = some r := H
 have A3 := aM A30
 clear A30
 obtain rfl := Option.some.inj H
 go_enter Tryz.func78, Tryz.ntmps78
 go_wp2_with (first | ((with_reducible refine gate_callee (f := 108) rfl ?_); refine gL_ (some 7) Tryz.func108 #[.string a0, .string a1] ?_; (with_reducible refine (stringslite_HasPrefix.calls a0 a1 t244 _ A3.out).mono ?_); rintro e w' ⟨rfl, ⟨nd, rfl⟩⟩; refine ⟨_, rfl, ?_⟩))
 go_ret
 exact ⟨bS, z5⟩
def impl_small.l0 : Nat → List Int → Int → Int → Option (ByteArray)
 | 0, _, _, _ => none
 | k + 1, x3, x9, x10 => if x10 < x9 then (if 0 ≤ x10 then (if x10 < (x3.length : Int) then (if (rd x3 x10) ≥ 65 then (if (rd x3 x10) ≤ 90 then (impl_small.l0 k (x3.set (x10 : Int).toNat (((rd x3 x10) + 32) % 256)) x9 (wrap64 (x10 + 1))) else (impl_small.l0 k x3 x9 (wrap64 (x10 + 1)))) else (impl_small.l0 k x3 x9 (wrap64 (x10 + 1)))) else (none)) else (none)) else (some (strOfNums x3))
def impl_small.f (k : Nat) (a0 : ByteArray) : Option (ByteArray) := if a0.size ≤ 281474976710656 then ((some (bytesOf a0 : List Int)).bind fun y245 => (impl_small.l0 k y245 (y245.length : Int) 0)) else (none)
set_option maxHeartbeats 8000000 in
set_option maxRecDepth 100000 in
theorem impl_small.calls (k : Nat) (a0 : ByteArray) (r : ByteArray) (w : World) (h : impl_small.f k a0 = some r) :
  Calls Tryz.prog 50 #[.string a0] w fun e w' => e = .returned (.string r) ∧ Below w.heap.size w w' := by
 have HB := aM (Below.refl w.heap.size w)
 have H : (if a0.size ≤ 281474976710656 then ((some (bytesOf a0 : List Int)).bind fun y245 => (impl_small.l0 k y245 (y245.length : Int) 0)) else (none)) = some r := h
 clear h
 by_cases c2 : a0.size ≤ 281474976710656
 ·rw [if_pos c2] at H
  have c2b0 := eq_true c2
  have c2b1 : decide (a0.size ≤ 281474976710656) = true := decide_eq_true c2
  clear c2
  obtain ⟨y245, hy245⟩ : ∃ y_ : List Int, y_ = (bytesOf a0) := ⟨_, rfl⟩
  replace H : (impl_small.l0 k y245 (y245.length : Int) 0) = some r := z0 hy245
  have Ny245 := aM hy245
  clear hy245
  have H' := aM H
  clear H
  go_enter Tryz.func50, Tryz.ntmps50
  go_wp2_with (first | ((with_reducible refine gate_dst (N := 7) rfl ?_); refine Kd.R_conv _ 5 rfl (N := 7) rfl 9 22 _ rfl a0 rfl Tryz.underlying9 Tryz.underlying22 Tryz.underlying5 (ok := fun _ => True) trivial (pI) (Below.refl _ _) (Nat.le_refl _) ?_; intro v246 w3 ho4 hb hg_ hnew_; clear hg_ hnew_; (first | rw [← Ny245.out] at ho4 | (simp only [Int.reduceToNat] at ho4; rw [← Ny245.out] at ho4)); have HO247 := aM (Kd.R_lower ho4 (below_size bB)); replace HB := aM (below_step bB hb); clear hb ho4; obtain ⟨Ao5, co5, eo5⟩ := Kd.R_slice HO247.out; subst eo5))
  go_loopg [10] k (fun kq v10 w' => ∃ (x3_1 : List Int) (x10_1 : Int), v10 = .int .i64 x10_1 ∧ Aside0 (impl_small.l0 kq x3_1 (y245.length : Int) x10_1 = some r) ∧ Aside0 (kq ≤ k) ∧ Aside0 (Kd.R (Kd.int .u8) 5 w' w.heap.size (fun _ => True) (.slice Ao5 y245.length co5) x3_1) ∧ Aside0 (Below w.heap.size w w'))
  case atStart => exact ⟨(y245), (0), bS, H', ⟨Nat.le_refl _⟩, ⟨bR HO247⟩, ⟨bB⟩⟩
  case round =>
   clear H'
   try clear c2
   try clear c2b0
   try clear c2b1
   try clear p2
   try clear c5
   obtain ⟨x3_1, x10_1, rfl, HA, HK1, HO_3, HB⟩ := hrel
   have hl3_1 := (Kd.R_reads' HO_3.out).1
   rw [hl3_1] at HO_3
   (try simp only [hl3_1])
   cases gk with
   | zero => exact absurd HA.out (by simp [impl_small.l0])
   | succ k1 =>
    have H := HA.out
    clear HA
    simp only [impl_small.l0] at H
    by_cases c6 : x10_1 < (y245.length : Int)
    ·rw [if_pos c6] at H
     have c6b0 : decide (x10_1 < (y245.length : Int)) = true := decide_eq_true c6
     (try simp only [hl3_1] at c6b0)
     clear c6
     by_cases c7 : 0 ≤ x10_1
     ·rw [if_pos c7] at H
      have c7b0 : decide (0 ≤ x10_1) = true := decide_eq_true c7
      (try simp only [hl3_1] at c7b0)
      clear c7
      by_cases c8 : x10_1 < (x3_1.length : Int)
      ·rw [if_pos c8] at H
       have c8b0 : decide (x10_1 < (x3_1.length : Int)) = true := decide_eq_true c8
       (try simp only [hl3_1] at c8b0)
       clear c8
       by_cases c9 : (rd x3_1 x10_1) ≥ 65
       ·rw [if_pos c9] at H
        have c9b0 : decide (65 ≤ (rd x3_1 x10_1)) = true := decide_eq_true c9
        (try simp only [hl3_1] at c9b0)
        clear c9
        by_cases c10 : (rd x3_1 x10_1) ≤ 90
        ·rw [if_pos c10] at H
         have c10b0 : decide ((rd x3_1 x10_1) ≤ 90) = true := decide_eq_true c10
         (try simp only [hl3_1] at c10b0)
         clear c10
         obtain ⟨y249, hy249⟩ : ∃ y_ : List Int, y_ = (x3_1.set (x10_1 : Int).toNat (((rd x3_1 x10_1) + 32) % 256)) := ⟨_, rfl⟩
         replace H : (impl_small.l0 k1 y249 (y245.length : Int) (wrap64 (x10_1 + 1))) = some r := z0 hy249
         have Ny249 := aM hy249
         clear hy249
         have H' := aM H
         clear H
         have p248 : 0 ≤ (x10_1 : Int) := pI
         have q248 : x10_1 < (x3_1.length : Int) := pI
         obtain ⟨ad248, e248, hx248_0⟩ := Kd.at_int (Kd.R_reads' HO_3.out).2.2 x10_1 p248 q248
         cases e248
         replace p248 := eq_true p248
         replace q248 := eq_true q248
         have p11 : 0 ≤ (x10_1 : Int) := pI
         have q11 : (x10_1 : Int) < ((x3_1.length : Int) : Int) := pI
         obtain ⟨go11, co11, eo11, gb11, gl11, cl11, HG11⟩ := Kd.R_form HO_3.out (by omega)
         (first | cases eo11 | (injection eo11 with ea_ en_ ec_; (first | subst ea_ | (injection ea_ with ea_; subst ea_)); subst ec_; clear en_))
         have GB11 := aM gb11
         have GG11 := aM HG11
         clear gb11 gl11 HG11
         (first | simp only [add_plain] at hx248_0 | skip)
         obtain ⟨hx11_0, hf11_0⟩ := Kd.R_celln 0 HO_3.out (x10_1 : Int) p11 q11
         replace p11 := eq_true p11
         replace q11 := eq_true q11
         have HP12 := Kd.R_putg HO_3.out (x10_1 : Int) (((rd x3_1 x10_1) + 32) % 256)
         go_wp2_with (first | ((with_reducible refine gate_store (t := 5) (p := 25) rfl ?_); refine store_event (t := 5) (p := 25) (v := ?vo_w13) (w1 := (wr.setCell ⟨go11, (x10_1 : Int).toNat, none⟩ (.int .u8 (((rd x3_1 x10_1) + 32) % 256)))) ?hg ?ho ?hn ?hr ?_; (case ho => rfl); (case hg => rfl); (case hn => rfl); (case hr => exact z10); intro w13 hw; have hg : wr.grownBy w13 (some go11) := (by rw [hw]; exact HP12.2); have hp_ : Kd.R (Kd.int .u8) 5 w13 w.heap.size (fun _ => True) (.slice (some ⟨go11, 0, none⟩) x3_1.length co5) y249 := (by rw [hw, Ny249.out]; exact HP12.1); clear HP12; replace HO_3 := aM (hp_); replace HB := aM ((z53 GB11.out : Below w.heap.size w w13)); clear hg hw hp_))
         (try simp only [← hl3_1])
         go_roundg k1
         case measure => have := HK1.out; omega
         case rel => exact ⟨(y249), (wrap64 (x10_1 + 1)), bS, H', ⟨by have := HK1.out; omega⟩, ⟨z44 HO_3.out⟩, ⟨bB⟩⟩
        rw [if_neg c10] at H
        have c10b0 : decide ((rd x3_1 x10_1) ≤ 90) = false := decide_eq_false c10
        (try simp only [hl3_1] at c10b0)
        clear c10
        have H' := aM H
        clear H
        have p248 : 0 ≤ (x10_1 : Int) := pI
        have q248 : x10_1 < (x3_1.length : Int) := pI
        obtain ⟨ad248, e248, hx248_0⟩ := Kd.at_int (Kd.R_reads' HO_3.out).2.2 x10_1 p248 q248
        cases e248
        replace p248 := eq_true p248
        replace q248 := eq_true q248
        go_wp2
        (try simp only [← hl3_1])
        go_roundg k1
        case measure => have := HK1.out; omega
        case rel => exact ⟨(x3_1), (wrap64 (x10_1 + 1)), bS, H', ⟨by have := HK1.out; omega⟩, ⟨z44 HO_3.out⟩, ⟨bB⟩⟩
       rw [if_neg c9] at H
       have c9b0 : decide (65 ≤ (rd x3_1 x10_1)) = false := decide_eq_false c9
       (try simp only [hl3_1] at c9b0)
       clear c9
       have H' := aM H
       clear H
       have p248 : 0 ≤ (x10_1 : Int) := pI
       have q248 : x10_1 < (x3_1.length : Int) := pI
       obtain ⟨ad248, e248, hx248_0⟩ := Kd.at_int (Kd.R_reads' HO_3.out).2.2 x10_1 p248 q248
       cases e248
       replace p248 := eq_true p248
       replace q248 := eq_true q248
       go_wp2
       (try simp only [← hl3_1])
       go_roundg k1
       case measure => have := HK1.out; omega
       case rel => exact ⟨(x3_1), (wrap64 (x10_1 + 1)), bS, H', ⟨by have := HK1.out; omega⟩, ⟨z44 HO_3.out⟩, ⟨bB⟩⟩
      rw [if_neg c8] at H
      exact absurd H (by simp)
     rw [if_neg c7] at H
     exact absurd H (by simp)
    rw [if_neg c6] at H
    have c6b0 : decide (x10_1 < (y245.length : Int)) = false := decide_eq_false c6
    (try simp only [hl3_1] at c6b0)
    clear c6
    obtain rfl := Option.some.inj H
    have hcv14 := own_string (P := Tryz.prog) Tryz.underlying22 Tryz.underlying5 Tryz.underlying9 (Kd.own_of_R HO_3.out); (try have hcv14d := fun nq_ : Nat => own_string (P := Tryz.prog) Tryz.underlying22 Tryz.underlying5 Tryz.underlying9 (Kd.own_of_R (Kd.R_drewN HO_3.out nq_)))
    go_wp2
    go_ret
    exact ⟨bE, bB⟩
 rw [if_neg c2] at H
 exact absurd H (by simp)
def slices_Index_string_string.l0 : Nat → List ByteArray → ByteArray → Int → Int → Option (Int)
 | 0, _, _, _, _ => none
 | k + 1, x0, x1, x7, x8 => if x8 < x7 then (if 0 ≤ x8 then (if x8 < (x0.length : Int) then (if x1.toList = (rdOf ByteArray.empty x0 x8).toList then (some x8) else (slices_Index_string_string.l0 k x0 x1 x7 (wrap64 (x8 + 1)))) else (none)) else (none)) else (some (-1))
def slices_Index_string_string.f (k : Nat) (l0 : List ByteArray) (a1 : ByteArray) : Option (Int) := slices_Index_string_string.l0 k l0 a1 (l0.length : Int) 0
set_option maxHeartbeats 8000000 in
set_option maxRecDepth 100000 in
theorem slices_Index_string_string.calls (k : Nat) (A0 : Option Addr) (c0 : Nat) (l0 : List ByteArray) (a1 : ByteArray) (r : Int) (w : World) (hr0 : Kd.C Kd.string w A0 l0.length l0) (hc0 : l0.length ≤ c0) (h : slices_Index_string_string.f k l0 a1 = some r) :
  Calls Tryz.prog 109 #[.slice A0 l0.length c0, .string a1] w fun e w' => e = .returned (.int .i64 r) ∧ Drawn0 w w' := by
 have HR0 := aM hr0
 have HC0 := aM hc0
 clear hr0 hc0
 have H : (slices_Index_string_string.l0 k l0 a1 (l0.length : Int) 0) = some r := h
 clear h
 have H' := aM H
 clear H
 go_enter Tryz.func109, Tryz.ntmps109
 go_wp2
 go_loopg [8] k (fun kq v8 w' => ∃ (x8_1 : Int), v8 = .int .i64 x8_1 ∧ Aside0 (slices_Index_string_string.l0 kq l0 a1 (l0.length : Int) x8_1 = some r) ∧ Aside0 (kq ≤ k) ∧ Drawn0 w w')
 case atStart => exact ⟨(0), bS, H', ⟨Nat.le_refl _⟩, z5⟩
 case round =>
  clear H'
  try clear c1
  try clear p2
  obtain ⟨x8_1, rfl, HA, HK1, ⟨m1, rfl⟩⟩ := hrel
  cases gk with
  | zero => exact absurd HA.out (by simp [slices_Index_string_string.l0])
  | succ k1 =>
   have H := HA.out
   clear HA
   simp only [slices_Index_string_string.l0] at H
   by_cases c3 : x8_1 < (l0.length : Int)
   ·rw [if_pos c3] at H
    have c3b0 : decide (x8_1 < (l0.length : Int)) = true := decide_eq_true c3
    clear c3
    by_cases c4 : 0 ≤ x8_1
    ·rw [if_pos c4] at H
     have c4b0 : decide (0 ≤ x8_1) = true := decide_eq_true c4
     clear c4
     by_cases c5 : x8_1 < (l0.length : Int)
     ·rw [if_pos c5] at H
      have c5b0 : decide (x8_1 < (l0.length : Int)) = true := decide_eq_true c5
      clear c5
      by_cases c6 : a1.toList = (rdOf ByteArray.empty l0 x8_1).toList
      ·rw [if_pos c6] at H
       have c6b0 : (a1.toList == (rdOf ByteArray.empty l0 x8_1).toList) = true := beq_iff_eq.mpr c6
       have c6b1 : (a1.toList != (rdOf ByteArray.empty l0 x8_1).toList) = false := bne_eq_false_iff_eq.mpr c6
       clear c6
       obtain rfl := Option.some.inj H
       have p250 : 0 ≤ (x8_1 : Int) := pI
       have q250 : x8_1 < (l0.length : Int) := pI
       obtain ⟨ad250, e250, hx250_0⟩ := Kd.at_string HR0.out x8_1 p250 q250
       cases e250
       replace p250 := eq_true p250
       replace q250 := eq_true q250
       go_wp2
       go_ret
       exact ⟨bS, z5⟩
      rw [if_neg c6] at H
      have c6b0 : (a1.toList == (rdOf ByteArray.empty l0 x8_1).toList) = false := beq_eq_false_iff_ne.mpr c6
      have c6b1 : (a1.toList != (rdOf ByteArray.empty l0 x8_1).toList) = true := bne_iff_ne.mpr c6
      have H' := aM H
      clear H
      have p250 : 0 ≤ (x8_1 : Int) := pI
      have q250 : x8_1 < (l0.length : Int) := pI
      obtain ⟨ad250, e250, hx250_0⟩ := Kd.at_string HR0.out x8_1 p250 q250
      cases e250
      replace p250 := eq_true p250
      replace q250 := eq_true q250
      go_wp2
      go_roundg k1
      case measure => have := HK1.out; omega
      case rel => exact ⟨(wrap64 (x8_1 + 1)), bS, H', ⟨by have := HK1.out; omega⟩, z5⟩
     rw [if_neg c5] at H
     exact absurd H (by simp)
    rw [if_neg c4] at H
    exact absurd H (by simp)
   rw [if_neg c3] at H
   have c3b0 : decide (x8_1 < (l0.length : Int)) = false := decide_eq_false c3
   clear c3
   obtain rfl := Option.some.inj H
   go_wp2
   go_ret
   exact ⟨bS, z5⟩
def impl_charsets.f  : Option (List ByteArray) := some (([(⟨#[117, 115, 45, 97, 115, 99, 105, 105]⟩ : ByteArray), (⟨#[105, 115, 111, 45, 56, 56, 53, 57, 45, 49]⟩ : ByteArray), (⟨#[105, 115, 111, 45, 56, 56, 53, 57, 45, 53]⟩ : ByteArray), (⟨#[117, 116, 102, 45, 56]⟩ : ByteArray), (⟨#[117, 116, 102, 45, 49, 54]⟩ : ByteArray)] : List ByteArray))
set_option maxHeartbeats 8000000 in
set_option maxRecDepth 100000 in
theorem impl_charsets.calls  (r : List ByteArray) (w : World) (h : impl_charsets.f  = some r) :
  Calls Tryz.prog 110 #[] w fun e w' => ∃ v0_ : Value, e = .returned (v0_) ∧ Kd.R Kd.string 9 w' w.heap.size (fun _ => True) v0_ r ∧ Below w.heap.size w w' := by
 have HB := aM (Below.refl w.heap.size w)
 have H : (some (([(⟨#[117, 115, 45, 97, 115, 99, 105, 105]⟩ : ByteArray), (⟨#[105, 115, 111, 45, 56, 56, 53, 57, 45, 49]⟩ : ByteArray), (⟨#[105, 115, 111, 45, 56, 56, 53, 57, 45, 53]⟩ : ByteArray), (⟨#[117, 116, 102, 45, 56]⟩ : ByteArray), (⟨#[117, 116, 102, 45, 49, 54]⟩ : ByteArray)] : List ByteArray))) = some r := h
 clear h
 obtain ⟨y251, hy251⟩ : ∃ y_ : List ByteArray, y_ = (([(⟨#[117, 115, 45, 97, 115, 99, 105, 105]⟩ : ByteArray), (⟨#[105, 115, 111, 45, 56, 56, 53, 57, 45, 49]⟩ : ByteArray), (⟨#[105, 115, 111, 45, 56, 56, 53, 57, 45, 53]⟩ : ByteArray), (⟨#[117, 116, 102, 45, 56]⟩ : ByteArray), (⟨#[117, 116, 102, 45, 49, 54]⟩ : ByteArray)] : List ByteArray)) := ⟨_, rfl⟩
 replace H : (some y251) = some r := z0 hy251
 have Ny251 := aM hy251
 clear hy251
 obtain rfl := Option.some.inj H
 go_enter Tryz.func110, Tryz.ntmps110
 go_wp2_with (first | ((with_reducible refine gate_dst (N := 1) rfl ?_); refine Kd.R_lit Kd.string _ 9 ?hg (N := 1) ?hd (xs := ([(⟨#[117, 115, 45, 97, 115, 99, 105, 105]⟩ : ByteArray), (⟨#[105, 115, 111, 45, 56, 56, 53, 57, 45, 49]⟩ : ByteArray), (⟨#[105, 115, 111, 45, 56, 56, 53, 57, 45, 53]⟩ : ByteArray), (⟨#[117, 116, 102, 45, 56]⟩ : ByteArray), (⟨#[117, 116, 102, 45, 49, 54]⟩ : ByteArray)] : List ByteArray)) (inner := [.string (⟨#[117, 115, 45, 97, 115, 99, 105, 105]⟩ : ByteArray), .string (⟨#[105, 115, 111, 45, 56, 56, 53, 57, 45, 49]⟩ : ByteArray), .string (⟨#[105, 115, 111, 45, 56, 56, 53, 57, 45, 53]⟩ : ByteArray), .string (⟨#[117, 116, 102, 45, 56]⟩ : ByteArray), .string (⟨#[117, 116, 102, 45, 49, 54]⟩ : ByteArray)]) (ok := fun _ => True) (okp := fun _ => True) ?hr ?hp (fun _ hk => hk) trivial (Below.refl _ _) (Nat.le_refl _) (by simp) ?_; (case hd => rfl); (case hg => rfl); (case hr => exact z10); (case hp => exact (Reps.one (show Kd.M Kd.string _ _ _ (⟨#[117, 115, 45, 97, 115, 99, 105, 105]⟩ : ByteArray) [.string (⟨#[117, 115, 45, 97, 115, 99, 105, 105]⟩ : ByteArray)] from rfl) (Reps.one (show Kd.M Kd.string _ _ _ (⟨#[105, 115, 111, 45, 56, 56, 53, 57, 45, 49]⟩ : ByteArray) [.string (⟨#[105, 115, 111, 45, 56, 56, 53, 57, 45, 49]⟩ : ByteArray)] from rfl) (Reps.one (show Kd.M Kd.string _ _ _ (⟨#[105, 115, 111, 45, 56, 56, 53, 57, 45, 53]⟩ : ByteArray) [.string (⟨#[105, 115, 111, 45, 56, 56, 53, 57, 45, 53]⟩ : ByteArray)] from rfl) (Reps.one (show Kd.M Kd.string _ _ _ (⟨#[117, 116, 102, 45, 56]⟩ : ByteArray) [.string (⟨#[117, 116, 102, 45, 56]⟩ : ByteArray)] from rfl) (Reps.one (show Kd.M Kd.string _ _ _ (⟨#[117, 116, 102, 45, 49, 54]⟩ : ByteArray) [.string (⟨#[117, 116, 102, 45, 49, 54]⟩ : ByteArray)] from rfl) (Reps.none _ _))))))); intro v252 w1 ho2 hb hg_ hnew_; clear hg_ hnew_; (first | rw [← Ny251.out] at ho2 | (simp only [Int.reduceToNat] at ho2; rw [← Ny251.out] at ho2)); have HO253 := aM (Kd.R_lower ho2 (below_size bB)); replace HB := aM (below_step bB hb); clear hb ho2))
 go_ret
 exact ⟨_, bE, bR HO253, bB⟩
def impl_CharsetOf.f (k : Nat) (a0 : ByteArray) : Option (Int × Int) := (impl_charsets.f).bind fun t255 => ((impl_small.f k a0).bind fun t258 => ((slices_Index_string_string.f k t255 t258).bind fun t259 => (if t259 < 0 then (some (4, 0)) else (some (0, wrap64 (t259 + 1))))))
set_option maxHeartbeats 8000000 in
set_option maxRecDepth 100000 in
theorem impl_CharsetOf.calls (k : Nat) (a0 : ByteArray) (r1 : Int) (r2 : Int) (w : World) (h : impl_CharsetOf.f k a0 = some (r1, r2)) :
  Calls Tryz.prog 79 #[.string a0] w fun e w' => e = .returned (.agg #[.int .i64 r1, .int .i64 r2]) ∧ Below w.heap.size w w' := by
 have hu101 := Tryz.underlying101
 have HB := aM (Below.refl w.heap.size w)
 have H : ((impl_charsets.f).bind fun t255 => ((impl_small.f k a0).bind fun t258 => ((slices_Index_string_string.f k t255 t258).bind fun t259 => (if t259 < 0 then (some (4, 0)) else (some (0, wrap64 (t259 + 1))))))) = some (r1, r2) := h
 clear h
 replace H := Option.bind_eq_some_iff.mp H
 obtain ⟨t255, A20, H⟩ := H
 replace H : ((impl_small.f k a0).bind fun t258 => ((slices_Index_string_string.f k t255 t258).bind fun t259 => (if t259 < 0 then (some (4, 0)) else (some (0, wrap64 (t259 + 1)))))) = some (r1, r2) := H
 have A2 := aM A20
 clear A20
 replace H := Option.bind_eq_some_iff.mp H
 obtain ⟨t258, A30, H⟩ := H
 replace H : ((slices_Index_string_string.f k t255 t258).bind fun t259 => (if t259 < 0 then (some (4, 0)) else (some (0, wrap64 (t259 + 1))))) = some (r1, r2) := H
 have A3 := aM A30
 clear A30
 replace H := Option.bind_eq_some_iff.mp H
 obtain ⟨t259, A40, H⟩ := H
 replace H : (if t259 < 0 then (some (4, 0)) else (some (0, wrap64 (t259 + 1)))) = some (r1, r2) := H
 have A4 := aM A40
 clear A40
 by_cases c5 : t259 < 0
 ·rw [if_pos c5] at H
  have c5b0 : decide (t259 < 0) = true := decide_eq_true c5
  clear c5
  simp only [Option.some.injEq, Prod.mk.injEq] at H
  obtain ⟨rfl, rfl⟩ := H
  go_enter Tryz.func79, Tryz.ntmps79
  go_wp2_with (first | ((with_reducible refine gate_dst (N := 2) rfl ?_); refine box_event ?hg (N := 2) ?hd (cs := #[.int .i64 0, .int .i64 0]) (t := 101) ?hr ?_; (case hd => rfl); (case hg => rfl); (case hr => exact z10); intro gb254 hg w6 hbox hb; have BK254 := aM (hbox); have GW254 := aM ((z21 : w.heap.size ≤ gb254)); have GE254 := aM ((z21 : w.heap.size ≤ gb254)); replace HB := aM (below_step bB hb); clear hb hbox hg) | ((with_reducible refine gate_callee (f := 110) rfl ?_); refine gL_ (some 4) Tryz.func110 #[] ?_; (with_reducible refine (impl_charsets.calls  t255 _ A2.out).mono ?_); rintro e w7 ⟨v256, rfl, ho0, hb⟩; refine ⟨_, rfl, ?_⟩; have HO257 := aM (Kd.R_lower ho0 (below_size (bG GE254))); replace BK254 := aM (blk_below (g := gb254) (o := .cells #[.int .i64 0, .int .i64 0] 101 (0, 0)) (bL BK254) hb); replace HB := aM (below_step (bG GE254) hb); (try clear ho0)) | ((with_reducible refine gate_callee (f := 50) rfl ?_); refine gL_ (some 6) Tryz.func50 #[.string a0] ?_; (with_reducible refine (impl_small.calls k a0 t258 _ A3.out).mono ?_); rintro e w8 ⟨rfl, hb⟩; refine ⟨_, rfl, ?_⟩; replace HO257 := aM (Kd.R_below (bR HO257) hb); replace BK254 := aM (blk_below (g := gb254) (o := .cells #[.int .i64 0, .int .i64 0] 101 (0, 0)) (bL BK254) hb); replace HB := aM (below_step (bG GE254) hb); obtain ⟨Ao9, co9, eo9⟩ := Kd.R_slice HO257.out; subst eo9) | ((with_reducible refine gate_callee (f := 109) rfl ?_); refine gL_ (some 7) Tryz.func109 #[.slice Ao9 t255.length co9, .string t258] ?_; (with_reducible refine (slices_Index_string_string.calls k _ _ t255 t258 t259 _ ?side1 ?side2 A4.out).mono ?_); (case side1 => exact z4 HO257.out); (case side2 => exact (Kd.R_reads' HO257.out).2.1); rintro e w' ⟨rfl, ⟨nd, rfl⟩⟩; refine ⟨_, rfl, ?_⟩; (try (rw [drewN_self w8]; generalize hq_ : World.drewN w8 _ = w8; have n0_ : Aside0 (Kd.R Kd.string 9 w8 w.heap.size (fun _ => True) (.slice Ao9 t255.length co9) t255) := ⟨by rw [← hq_]; exact (bR HO257)⟩; have n1_ : Aside0 (w8.heap[gb254]? = some (.cells #[.int .i64 0, .int .i64 0] 101 (0, 0))) := ⟨by rw [← hq_]; exact (bL BK254)⟩; have n2_ : Aside0 (Below w.heap.size w w8) := ⟨by rw [← hq_]; exact (bG GE254)⟩; clear HO257 BK254 HB hq_; have HO257 := n0_; have BK254 := n1_; have HB := n2_; clear n0_ n1_ n2_)); have hcz10_0 : w8.cell? ⟨gb254, 0, none⟩ = some (.int .i64 0) := (blk_cell BK254.out 0).trans rfl; have hcz10_1 : w8.cell? ⟨gb254, 1, none⟩ = some (.int .i64 0) := (blk_cell BK254.out 1).trans rfl; have hfz10_0 := blk_frozen BK254.out 0; have hfz10_1 := blk_frozen BK254.out 1))
  refine bodyPost_ret (results_cell_row rfl _ _ gb254 101 #[.int .i64 4, .int .i64 0] (0, 0) _ rfl (by (with_reducible repeat (first | refine blk_drewN ?_ _ | refine blk_drew ?_ | refine blk_alloc ?_ _)); refine blk_put (cs := #[.int .i64 4, .int .i64 0]) ?_ 1 _ rfl; (with_reducible repeat (first | refine blk_drewN ?_ _ | refine blk_drew ?_ | refine blk_alloc ?_ _)); refine blk_put (cs := #[.int .i64 0, .int .i64 0]) ?_ 0 _ rfl; (with_reducible repeat (first | refine blk_drewN ?_ _ | refine blk_drew ?_ | refine blk_alloc ?_ _)); exact BK254.out) Tryz.underlying101 rfl (by kernel_rfl)) rfl ?_
  exact ⟨bE, bG GE254⟩
 rw [if_neg c5] at H
 have c5b0 : decide (t259 < 0) = false := decide_eq_false c5
 clear c5
 simp only [Option.some.injEq, Prod.mk.injEq] at H
 obtain ⟨rfl, rfl⟩ := H
 go_enter Tryz.func79, Tryz.ntmps79
 go_wp2_with (first | ((with_reducible refine gate_dst (N := 2) rfl ?_); refine box_event ?hg (N := 2) ?hd (cs := #[.int .i64 0, .int .i64 0]) (t := 101) ?hr ?_; (case hd => rfl); (case hg => rfl); (case hr => exact z10); intro gb254 hg w11 hbox hb; have BK254 := aM (hbox); have GW254 := aM ((z21 : w.heap.size ≤ gb254)); have GE254 := aM ((z21 : w.heap.size ≤ gb254)); replace HB := aM (below_step bB hb); clear hb hbox hg) | ((with_reducible refine gate_callee (f := 110) rfl ?_); refine gL_ (some 4) Tryz.func110 #[] ?_; (with_reducible refine (impl_charsets.calls  t255 _ A2.out).mono ?_); rintro e w12 ⟨v256, rfl, ho0, hb⟩; refine ⟨_, rfl, ?_⟩; have HO257 := aM (Kd.R_lower ho0 (below_size (bG GE254))); replace BK254 := aM (blk_below (g := gb254) (o := .cells #[.int .i64 0, .int .i64 0] 101 (0, 0)) (bL BK254) hb); replace HB := aM (below_step (bG GE254) hb); (try clear ho0)) | ((with_reducible refine gate_callee (f := 50) rfl ?_); refine gL_ (some 6) Tryz.func50 #[.string a0] ?_; (with_reducible refine (impl_small.calls k a0 t258 _ A3.out).mono ?_); rintro e w13 ⟨rfl, hb⟩; refine ⟨_, rfl, ?_⟩; replace HO257 := aM (Kd.R_below (bR HO257) hb); replace BK254 := aM (blk_below (g := gb254) (o := .cells #[.int .i64 0, .int .i64 0] 101 (0, 0)) (bL BK254) hb); replace HB := aM (below_step (bG GE254) hb); obtain ⟨Ao14, co14, eo14⟩ := Kd.R_slice HO257.out; subst eo14) | ((with_reducible refine gate_callee (f := 109) rfl ?_); refine gL_ (some 7) Tryz.func109 #[.slice Ao14 t255.length co14, .string t258] ?_; (with_reducible refine (slices_Index_string_string.calls k _ _ t255 t258 t259 _ ?side1 ?side2 A4.out).mono ?_); (case side1 => exact z4 HO257.out); (case side2 => exact (Kd.R_reads' HO257.out).2.1); rintro e w' ⟨rfl, ⟨nd, rfl⟩⟩; refine ⟨_, rfl, ?_⟩; (try (rw [drewN_self w13]; generalize hq_ : World.drewN w13 _ = w13; have n0_ : Aside0 (Kd.R Kd.string 9 w13 w.heap.size (fun _ => True) (.slice Ao14 t255.length co14) t255) := ⟨by rw [← hq_]; exact (bR HO257)⟩; have n1_ : Aside0 (w13.heap[gb254]? = some (.cells #[.int .i64 0, .int .i64 0] 101 (0, 0))) := ⟨by rw [← hq_]; exact (bL BK254)⟩; have n2_ : Aside0 (Below w.heap.size w w13) := ⟨by rw [← hq_]; exact (bG GE254)⟩; clear HO257 BK254 HB hq_; have HO257 := n0_; have BK254 := n1_; have HB := n2_; clear n0_ n1_ n2_)); have hcz15_0 : w13.cell? ⟨gb254, 0, none⟩ = some (.int .i64 0) := (blk_cell BK254.out 0).trans rfl; have hcz15_1 : w13.cell? ⟨gb254, 1, none⟩ = some (.int .i64 0) := (blk_cell BK254.out 1).trans rfl; have hfz15_0 := blk_frozen BK254.out 0; have hfz15_1 := blk_frozen BK254.out 1))
 refine bodyPost_ret (results_cell_row rfl _ _ gb254 101 #[.int .i64 0, .int .i64 (wrap64 (t259 + 1))] (0, 0) _ rfl (by (with_reducible repeat (first | refine blk_drewN ?_ _ | refine blk_drew ?_ | refine blk_alloc ?_ _)); refine blk_put (cs := #[.int .i64 0, .int .i64 0]) ?_ 1 _ rfl; (with_reducible repeat (first | refine blk_drewN ?_ _ | refine blk_drew ?_ | refine blk_alloc ?_ _)); refine blk_put (cs := #[.int .i64 0, .int .i64 0]) ?_ 0 _ rfl; (with_reducible repeat (first | refine blk_drewN ?_ _ | refine blk_drew ?_ | refine blk_alloc ?_ _)); exact BK254.out) Tryz.underlying101 rfl (by kernel_rfl)) rfl ?_
 exact ⟨bE, bG GE254⟩
end Go.Proofs.YtjopgmjmjnfcjaaGreatDoor.PWords
