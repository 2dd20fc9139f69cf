/- Part of the proof: what its walks use. -/
import Derived.Test.YtjopgmjmjnfcjaaPHeadersx0
import Derived.Test.YtjopgmjmjnfcjaaPHeadersx3
import Derived.Test.YtjopgmjmjnfcjaaPHeadersx5
import Derived.Test.YtjopgmjmjnfcjaaPHeadersx6
namespace Go.Proofs.Ytjopgmjmjnfcjaa.PHeaders
open Go.RowKit Go.Proofs.YtjopgmjmjnfcjaaW.PrintWords Go.Proofs.YtjopgmjmjnfcjaaW.PrintLast Go.Proofs.YtjopgmjmjnfcjaaW.PrintMore
set_option linter.unusedVariables false
set_option linter.unusedSimpArgs false
def spec_l4DrawValue.f (k : Nat) (s0_0 : List Int) (s0_1 : Int) : Option (ByteArray × Int) := (spec_l1Next.f s0_0 s0_1 5).bind fun bt358 => (if bt358.1 = 0 then ((spec_l2Codes.f k s0_0 bt358.2).bind fun bt360 => ((spec_l4Encode.f k bt360.1).bind fun bt364 => (some (bt364.1, bt360.2)))) else (if bt358.1 = 1 then ((some (([(⟨#[61, 63, 117, 116, 102, 45, 56, 63, 81, 63, 97, 61, 67, 51, 61, 65, 52, 95, 98, 63, 61]⟩ : ByteArray), (⟨#[61, 63, 105, 115, 111, 45, 56, 56, 53, 57, 45, 53, 63, 113, 63, 61, 68, 54, 63, 61, 32, 61, 63, 117, 115, 45, 97, 115, 99, 105, 105, 63, 66, 63, 89, 81, 61, 61, 63, 61]⟩ : ByteArray), (⟨#[120, 32, 61, 63, 98, 97, 100, 63, 81, 63, 97, 63, 61, 32, 121]⟩ : ByteArray), (⟨#[61, 63, 117, 116, 102, 45, 56, 63, 66, 63, 89, 81, 63, 61]⟩ : ByteArray), (⟨#[97, 32, 228, 32, 98]⟩ : ByteArray), (⟨#[61, 63, 117, 116, 102, 45, 56, 63, 81, 63, 97, 63, 61, 32, 98, 32, 61, 63, 117, 116, 102, 45, 56, 63, 81, 63, 99, 63, 61]⟩ : ByteArray)] : List ByteArray) : List ByteArray)).bind fun y366 => ((spec_l1Next.f s0_0 bt358.2 6).bind fun bt369 => (if 0 ≤ bt369.1 then (if bt369.1 < (y366.length : Int) then (some (rdOf ByteArray.empty y366 bt369.1, bt369.2)) else (none)) else (none)))) else ((some (([(⟨#[]⟩ : ByteArray), (⟨#[104, 101, 108, 108, 111]⟩ : ByteArray), (⟨#[97, 58, 32, 98]⟩ : ByteArray), (⟨#[32, 120]⟩ : ByteArray), (⟨#[116, 101, 120, 116, 47, 112, 108, 97, 105, 110, 59, 32, 99, 104, 97, 114, 115, 101, 116, 61, 117, 116, 102, 45, 56]⟩ : ByteArray), (⟨#[98, 97, 115, 101, 54, 52]⟩ : ByteArray)] : List ByteArray) : List ByteArray)).bind fun y372 => ((spec_l1Next.f s0_0 bt358.2 6).bind fun bt375 => (if 0 ≤ bt375.1 then (if bt375.1 < (y372.length : Int) then (some (rdOf ByteArray.empty y372 bt375.1, bt375.2)) else (none)) else (none))))))
set_option maxHeartbeats 8000000 in
set_option maxRecDepth 100000 in
theorem spec_l4DrawValue.calls (k : Nat) (g : Nat) (s0_0 : List Int) (s0_1 : Int) (r1 : ByteArray) (r2 : Int) (w0 w : World) (hI : IsS107 w0 w g s0_0 s0_1) (hB : Below w0.heap.size w0 w) (h : spec_l4DrawValue.f k s0_0 s0_1 = some (r1, r2)) :
  Calls Try.prog 115 #[.pointer (some ⟨g, 0, none⟩)] w fun e w' => e = .returned (.string r1) ∧ IsS107 w0 w' g s0_0 r2 ∧ Below w0.heap.size w0 w' ∧ KeepBut w w' g none := by
 have HI0 := Aside0.mk hI
 have HK := Aside0.mk (KeepBut.refl w g none)
 have HL := Aside0.mk hB.size
 clear hI
 have HW0 := Aside0.mk hB.size
 have HB := Aside0.mk hB
 clear hB
 have H : ((spec_l1Next.f s0_0 s0_1 5).bind fun bt358 => (if bt358.1 = 0 then ((spec_l2Codes.f k s0_0 bt358.2).bind fun bt360 => ((spec_l4Encode.f k bt360.1).bind fun bt364 => (some (bt364.1, bt360.2)))) else (if bt358.1 = 1 then ((some (([(⟨#[61, 63, 117, 116, 102, 45, 56, 63, 81, 63, 97, 61, 67, 51, 61, 65, 52, 95, 98, 63, 61]⟩ : ByteArray), (⟨#[61, 63, 105, 115, 111, 45, 56, 56, 53, 57, 45, 53, 63, 113, 63, 61, 68, 54, 63, 61, 32, 61, 63, 117, 115, 45, 97, 115, 99, 105, 105, 63, 66, 63, 89, 81, 61, 61, 63, 61]⟩ : ByteArray), (⟨#[120, 32, 61, 63, 98, 97, 100, 63, 81, 63, 97, 63, 61, 32, 121]⟩ : ByteArray), (⟨#[61, 63, 117, 116, 102, 45, 56, 63, 66, 63, 89, 81, 63, 61]⟩ : ByteArray), (⟨#[97, 32, 228, 32, 98]⟩ : ByteArray), (⟨#[61, 63, 117, 116, 102, 45, 56, 63, 81, 63, 97, 63, 61, 32, 98, 32, 61, 63, 117, 116, 102, 45, 56, 63, 81, 63, 99, 63, 61]⟩ : ByteArray)] : List ByteArray) : List ByteArray)).bind fun y366 => ((spec_l1Next.f s0_0 bt358.2 6).bind fun bt369 => (if 0 ≤ bt369.1 then (if bt369.1 < (y366.length : Int) then (some (rdOf ByteArray.empty y366 bt369.1, bt369.2)) else (none)) else (none)))) else ((some (([(⟨#[]⟩ : ByteArray), (⟨#[104, 101, 108, 108, 111]⟩ : ByteArray), (⟨#[97, 58, 32, 98]⟩ : ByteArray), (⟨#[32, 120]⟩ : ByteArray), (⟨#[116, 101, 120, 116, 47, 112, 108, 97, 105, 110, 59, 32, 99, 104, 97, 114, 115, 101, 116, 61, 117, 116, 102, 45, 56]⟩ : ByteArray), (⟨#[98, 97, 115, 101, 54, 52]⟩ : ByteArray)] : List ByteArray) : List ByteArray)).bind fun y372 => ((spec_l1Next.f s0_0 bt358.2 6).bind fun bt375 => (if 0 ≤ bt375.1 then (if bt375.1 < (y372.length : Int) then (some (rdOf ByteArray.empty y372 bt375.1, bt375.2)) else (none)) else (none))))))) = some (r1, r2) := h
 clear h
 replace H := Option.bind_eq_some_iff.mp H
 obtain ⟨⟨t358, t359⟩, A20, H⟩ := H
 replace H : (if t358 = 0 then ((spec_l2Codes.f k s0_0 t359).bind fun bt360 => ((spec_l4Encode.f k bt360.1).bind fun bt364 => (some (bt364.1, bt360.2)))) else (if t358 = 1 then ((some (([(⟨#[61, 63, 117, 116, 102, 45, 56, 63, 81, 63, 97, 61, 67, 51, 61, 65, 52, 95, 98, 63, 61]⟩ : ByteArray), (⟨#[61, 63, 105, 115, 111, 45, 56, 56, 53, 57, 45, 53, 63, 113, 63, 61, 68, 54, 63, 61, 32, 61, 63, 117, 115, 45, 97, 115, 99, 105, 105, 63, 66, 63, 89, 81, 61, 61, 63, 61]⟩ : ByteArray), (⟨#[120, 32, 61, 63, 98, 97, 100, 63, 81, 63, 97, 63, 61, 32, 121]⟩ : ByteArray), (⟨#[61, 63, 117, 116, 102, 45, 56, 63, 66, 63, 89, 81, 63, 61]⟩ : ByteArray), (⟨#[97, 32, 228, 32, 98]⟩ : ByteArray), (⟨#[61, 63, 117, 116, 102, 45, 56, 63, 81, 63, 97, 63, 61, 32, 98, 32, 61, 63, 117, 116, 102, 45, 56, 63, 81, 63, 99, 63, 61]⟩ : ByteArray)] : List ByteArray) : List ByteArray)).bind fun y366 => ((spec_l1Next.f s0_0 t359 6).bind fun bt369 => (if 0 ≤ bt369.1 then (if bt369.1 < (y366.length : Int) then (some (rdOf ByteArray.empty y366 bt369.1, bt369.2)) else (none)) else (none)))) else ((some (([(⟨#[]⟩ : ByteArray), (⟨#[104, 101, 108, 108, 111]⟩ : ByteArray), (⟨#[97, 58, 32, 98]⟩ : ByteArray), (⟨#[32, 120]⟩ : ByteArray), (⟨#[116, 101, 120, 116, 47, 112, 108, 97, 105, 110, 59, 32, 99, 104, 97, 114, 115, 101, 116, 61, 117, 116, 102, 45, 56]⟩ : ByteArray), (⟨#[98, 97, 115, 101, 54, 52]⟩ : ByteArray)] : List ByteArray) : List ByteArray)).bind fun y372 => ((spec_l1Next.f s0_0 t359 6).bind fun bt375 => (if 0 ≤ bt375.1 then (if bt375.1 < (y372.length : Int) then (some (rdOf ByteArray.empty y372 bt375.1, bt375.2)) else (none)) else (none)))))) = some (r1, r2) := H
 have A2 := Aside0.mk A20
 clear A20
 have HQ_ := Aside0.mk H
 clear H
 go_enter Try.func115, Try.ntmps115
 have H := HQ_.out
 clear HQ_
 by_cases c3 : t358 = 0
 ·rw [if_pos c3] at H
  have c3b0 : (t358 == 0) = true := beq_iff_eq.mpr c3
  have c3b1 : (t358 != 0) = false := bne_eq_false_iff_eq.mpr c3
  clear c3
  replace H := Option.bind_eq_some_iff.mp H
  obtain ⟨⟨t360, t363⟩, A40, H⟩ := H
  replace H : ((spec_l4Encode.f k t360).bind fun bt364 => (some (bt364.1, t363))) = some (r1, r2) := H
  have A4 := Aside0.mk A40
  clear A40
  replace H := Option.bind_eq_some_iff.mp H
  obtain ⟨⟨t364, t365⟩, A50, H⟩ := H
  replace H : (some (t364, t363)) = some (r1, r2) := H
  have A5 := Aside0.mk A50
  clear A50
  simp only [Option.some.injEq, Prod.mk.injEq] at H
  obtain ⟨rfl, rfl⟩ := H
  (try simp only [c3b0, c3b1])
  go_wp2_with (first | ((with_reducible refine gate_callee (f := 91) rfl ?_); refine goesL_ (some 6) rfl rfl Try.func91 (by kernel_rfl) rfl #[.pointer (some ⟨g, 0, none⟩), .int .i64 5] rfl bM ?_; (with_reducible refine (spec_l1Next.calls g s0_0 s0_1 5 t358 t359 w0 _ ?side1 ?side2 A2.out).mono ?_); (case side1 => exact z0 HI0.out); (case side2 => exact z1 HI0.out); rintro e w6 ⟨rfl, hi, hb, hk⟩; refine ⟨_, rfl, ?_⟩; replace HK := Aside0.mk (KeepBut.trans z2 hk (.inl rfl)); replace HB := Aside0.mk (hb); replace HI0 := Aside0.mk (hi); (try clear hi)) | ((with_reducible refine gate_callee (f := 56) rfl ?_); refine goesL_ (some 11) rfl rfl Try.func56 (by kernel_rfl) rfl #[.pointer (some ⟨g, 0, none⟩)] rfl bM ?_; (with_reducible refine (spec_l2Codes.calls k g s0_0 t359 t360 t363 w0 _ ?side1 ?side2 A4.out).mono ?_); (case side1 => exact z0 HI0.out); (case side2 => exact z1 HI0.out); rintro e w7 ⟨v361, rfl, ho0, hi, hb, hk⟩; refine ⟨_, rfl, ?_⟩; have HO362 := Aside0.mk (Kd.R_lower ho0 (keep_size (w := w) (g := g) (row := none) z2)); replace HK := Aside0.mk (KeepBut.trans z2 hk (.inl rfl)); replace HB := Aside0.mk (hb); replace HI0 := Aside0.mk (hi); (try clear ho0); obtain ⟨Ao8, co8, eo8⟩ := Kd.R_slice HO362.out; subst eo8) | ((with_reducible refine gate_callee (f := 83) rfl ?_); refine goesL_ (some 12) rfl rfl Try.func83 (by kernel_rfl) rfl #[.slice Ao8 t360.length co8] rfl bM ?_; (with_reducible refine (spec_l4Encode.calls k _ _ t360 t364 t365 _ ?side1 ?side2 A5.out).mono ?_); (case side1 => exact z5 HO362.out); (case side2 => exact (Kd.R_reads' HO362.out).2.1); rintro e w9 ⟨rfl, hb⟩; refine ⟨_, rfl, ?_⟩; replace HO362 := Aside0.mk (Kd.R_below (bR HO362) hb); replace HK := Aside0.mk (KeepBut.trans z2 (KeepBut.of_below hb g none) (.inl rfl)); replace HB := Aside0.mk (below_step (z1 HI0.out) hb); replace HI0 := Aside0.mk (IsS107.below (z0 HI0.out) hb); (try clear hi)))
  go_ret
  exact ⟨bE, z0 HI0.out, z1 HI0.out, z2⟩
 ·rw [if_neg c3] at H
  have c3b0 : (t358 == 0) = false := beq_eq_false_iff_ne.mpr c3
  have c3b1 : (t358 != 0) = true := bne_iff_ne.mpr c3
  (try simp only [c3b0, c3b1])
  by_cases c10 : t358 = 1
  ·rw [if_pos c10] at H
   have c10b0 : (t358 == 1) = true := beq_iff_eq.mpr c10
   have c10b1 : (t358 != 1) = false := bne_eq_false_iff_eq.mpr c10
   clear c10
   obtain ⟨y366, hy366⟩ : ∃ y_ : List ByteArray, y_ = (([(⟨#[61, 63, 117, 116, 102, 45, 56, 63, 81, 63, 97, 61, 67, 51, 61, 65, 52, 95, 98, 63, 61]⟩ : ByteArray), (⟨#[61, 63, 105, 115, 111, 45, 56, 56, 53, 57, 45, 53, 63, 113, 63, 61, 68, 54, 63, 61, 32, 61, 63, 117, 115, 45, 97, 115, 99, 105, 105, 63, 66, 63, 89, 81, 61, 61, 63, 61]⟩ : ByteArray), (⟨#[120, 32, 61, 63, 98, 97, 100, 63, 81, 63, 97, 63, 61, 32, 121]⟩ : ByteArray), (⟨#[61, 63, 117, 116, 102, 45, 56, 63, 66, 63, 89, 81, 63, 61]⟩ : ByteArray), (⟨#[97, 32, 228, 32, 98]⟩ : ByteArray), (⟨#[61, 63, 117, 116, 102, 45, 56, 63, 81, 63, 97, 63, 61, 32, 98, 32, 61, 63, 117, 116, 102, 45, 56, 63, 81, 63, 99, 63, 61]⟩ : ByteArray)] : List ByteArray)) := ⟨_, rfl⟩
   replace H : ((spec_l1Next.f s0_0 t359 6).bind fun bt369 => (if 0 ≤ bt369.1 then (if bt369.1 < (y366.length : Int) then (some (rdOf ByteArray.empty y366 bt369.1, bt369.2)) else (none)) else (none))) = some (r1, r2) := z3 hy366
   have Ny366 := Aside0.mk hy366
   clear hy366
   replace H := Option.bind_eq_some_iff.mp H
   obtain ⟨⟨t369, t370⟩, A110, H⟩ := H
   replace H : (if 0 ≤ t369 then (if t369 < (y366.length : Int) then (some (rdOf ByteArray.empty y366 t369, t370)) else (none)) else (none)) = some (r1, r2) := H
   have A11 := Aside0.mk A110
   clear A110
   (try simp only [c10b0, c10b1])
   by_cases c12 : 0 ≤ t369
   ·rw [if_pos c12] at H
    have c12b0 : decide (0 ≤ t369) = true := decide_eq_true c12
    clear c12
    by_cases c13 : t369 < (y366.length : Int)
    ·rw [if_pos c13] at H
     have c13b0 : decide (t369 < (y366.length : Int)) = true := decide_eq_true c13
     clear c13
     simp only [Option.some.injEq, Prod.mk.injEq] at H
     obtain ⟨rfl, rfl⟩ := H
     go_wp2_with (first | ((with_reducible refine gate_callee (f := 91) rfl ?_); refine goesL_ (some 6) rfl rfl Try.func91 (by kernel_rfl) rfl #[.pointer (some ⟨g, 0, none⟩), .int .i64 5] rfl bM ?_; (with_reducible refine (spec_l1Next.calls g s0_0 s0_1 5 t358 t359 w0 _ ?side1 ?side2 A2.out).mono ?_); (case side1 => exact z0 HI0.out); (case side2 => exact z1 HI0.out); rintro e w14 ⟨rfl, hi, hb, hk⟩; refine ⟨_, rfl, ?_⟩; replace HK := Aside0.mk (KeepBut.trans z2 hk (.inl rfl)); replace HB := Aside0.mk (hb); replace HI0 := Aside0.mk (hi); (try clear hi)) | ((with_reducible refine gate_dst (N := 18) rfl ?_); refine Kd.R_lit Kd.string _ 9 ?hg (N := 18) ?hd (xs := ([(⟨#[61, 63, 117, 116, 102, 45, 56, 63, 81, 63, 97, 61, 67, 51, 61, 65, 52, 95, 98, 63, 61]⟩ : ByteArray), (⟨#[61, 63, 105, 115, 111, 45, 56, 56, 53, 57, 45, 53, 63, 113, 63, 61, 68, 54, 63, 61, 32, 61, 63, 117, 115, 45, 97, 115, 99, 105, 105, 63, 66, 63, 89, 81, 61, 61, 63, 61]⟩ : ByteArray), (⟨#[120, 32, 61, 63, 98, 97, 100, 63, 81, 63, 97, 63, 61, 32, 121]⟩ : ByteArray), (⟨#[61, 63, 117, 116, 102, 45, 56, 63, 66, 63, 89, 81, 63, 61]⟩ : ByteArray), (⟨#[97, 32, 228, 32, 98]⟩ : ByteArray), (⟨#[61, 63, 117, 116, 102, 45, 56, 63, 81, 63, 97, 63, 61, 32, 98, 32, 61, 63, 117, 116, 102, 45, 56, 63, 81, 63, 99, 63, 61]⟩ : ByteArray)] : List ByteArray)) (inner := [.string (⟨#[61, 63, 117, 116, 102, 45, 56, 63, 81, 63, 97, 61, 67, 51, 61, 65, 52, 95, 98, 63, 61]⟩ : ByteArray), .string (⟨#[61, 63, 105, 115, 111, 45, 56, 56, 53, 57, 45, 53, 63, 113, 63, 61, 68, 54, 63, 61, 32, 61, 63, 117, 115, 45, 97, 115, 99, 105, 105, 63, 66, 63, 89, 81, 61, 61, 63, 61]⟩ : ByteArray), .string (⟨#[120, 32, 61, 63, 98, 97, 100, 63, 81, 63, 97, 63, 61, 32, 121]⟩ : ByteArray), .string (⟨#[61, 63, 117, 116, 102, 45, 56, 63, 66, 63, 89, 81, 63, 61]⟩ : ByteArray), .string (⟨#[97, 32, 228, 32, 98]⟩ : ByteArray), .string (⟨#[61, 63, 117, 116, 102, 45, 56, 63, 81, 63, 97, 63, 61, 32, 98, 32, 61, 63, 117, 116, 102, 45, 56, 63, 81, 63, 99, 63, 61]⟩ : ByteArray)]) (ok := fun _ => True) (okp := fun _ => True) ?hr ?hp (fun _ hk => hk) trivial (Below.refl _ _) (Nat.le_refl _) (by simp) ?_; (case hd => rfl); (case hg => rfl); (case hr => exact z14); (case hp => exact (Reps.one (show Kd.M Kd.string _ _ _ (⟨#[61, 63, 117, 116, 102, 45, 56, 63, 81, 63, 97, 61, 67, 51, 61, 65, 52, 95, 98, 63, 61]⟩ : ByteArray) [.string (⟨#[61, 63, 117, 116, 102, 45, 56, 63, 81, 63, 97, 61, 67, 51, 61, 65, 52, 95, 98, 63, 61]⟩ : ByteArray)] from rfl) (Reps.one (show Kd.M Kd.string _ _ _ (⟨#[61, 63, 105, 115, 111, 45, 56, 56, 53, 57, 45, 53, 63, 113, 63, 61, 68, 54, 63, 61, 32, 61, 63, 117, 115, 45, 97, 115, 99, 105, 105, 63, 66, 63, 89, 81, 61, 61, 63, 61]⟩ : ByteArray) [.string (⟨#[61, 63, 105, 115, 111, 45, 56, 56, 53, 57, 45, 53, 63, 113, 63, 61, 68, 54, 63, 61, 32, 61, 63, 117, 115, 45, 97, 115, 99, 105, 105, 63, 66, 63, 89, 81, 61, 61, 63, 61]⟩ : ByteArray)] from rfl) (Reps.one (show Kd.M Kd.string _ _ _ (⟨#[120, 32, 61, 63, 98, 97, 100, 63, 81, 63, 97, 63, 61, 32, 121]⟩ : ByteArray) [.string (⟨#[120, 32, 61, 63, 98, 97, 100, 63, 81, 63, 97, 63, 61, 32, 121]⟩ : ByteArray)] from rfl) (Reps.one (show Kd.M Kd.string _ _ _ (⟨#[61, 63, 117, 116, 102, 45, 56, 63, 66, 63, 89, 81, 63, 61]⟩ : ByteArray) [.string (⟨#[61, 63, 117, 116, 102, 45, 56, 63, 66, 63, 89, 81, 63, 61]⟩ : ByteArray)] from rfl) (Reps.one (show Kd.M Kd.string _ _ _ (⟨#[97, 32, 228, 32, 98]⟩ : ByteArray) [.string (⟨#[97, 32, 228, 32, 98]⟩ : ByteArray)] from rfl) (Reps.one (show Kd.M Kd.string _ _ _ (⟨#[61, 63, 117, 116, 102, 45, 56, 63, 81, 63, 97, 63, 61, 32, 98, 32, 61, 63, 117, 116, 102, 45, 56, 63, 81, 63, 99, 63, 61]⟩ : ByteArray) [.string (⟨#[61, 63, 117, 116, 102, 45, 56, 63, 81, 63, 97, 63, 61, 32, 98, 32, 61, 63, 117, 116, 102, 45, 56, 63, 81, 63, 99, 63, 61]⟩ : ByteArray)] from rfl) (Reps.none _ _)))))))); intro v367 w15 ho16 hb hg_ hnew_; clear hg_ hnew_; (first | rw [← Ny366.out] at ho16 | (simp only [Int.reduceToNat] at ho16; rw [← Ny366.out] at ho16)); have HO368 := Aside0.mk (Kd.R_lower ho16 (keep_size (w := w) (g := g) (row := none) z2)); replace HK := Aside0.mk (KeepBut.trans z2 (KeepBut.of_below hb g none) (.inl rfl)); replace HB := Aside0.mk (below_step (z1 HI0.out) hb); replace HI0 := Aside0.mk (IsS107.below (z0 HI0.out) hb); clear hb ho16) | ((with_reducible refine gate_callee (f := 91) rfl ?_); refine goesL_ (some 20) rfl rfl Try.func91 (by kernel_rfl) rfl #[.pointer (some ⟨g, 0, none⟩), .int .i64 6] rfl bM ?_; (with_reducible refine (spec_l1Next.calls g s0_0 t359 6 t369 t370 w0 _ ?side1 ?side2 A11.out).mono ?_); (case side1 => exact z0 HI0.out); (case side2 => exact z1 HI0.out); rintro e w17 ⟨rfl, hi, hb, hk⟩; refine ⟨_, rfl, ?_⟩; replace HO368 := Aside0.mk (Kd.R_mono (Kd.R_keep (IsS107.apart (show IsS107 w0 _ g s0_0 t359 from z0 HI0.out) (bR HO368) (by decide)) hk (fun _ h => h.2)) (fun _ h => h.1)); replace HK := Aside0.mk (KeepBut.trans z2 hk (.inl rfl)); replace HB := Aside0.mk (hb); replace HI0 := Aside0.mk (hi); obtain ⟨Ao18, co18, eo18⟩ := Kd.R_slice HO368.out; subst eo18; have p371 : 0 ≤ (t369 : Int) := pI; have q371 : t369 < (y366.length : Int) := pI; obtain ⟨ad371, e371, hx371_0⟩ := Kd.at_string (Kd.R_reads' HO368.out).2.2 t369 p371 q371; cases e371; replace p371 := eq_true p371; replace q371 := eq_true q371))
     go_ret
     exact ⟨bE, z0 HI0.out, z1 HI0.out, z2⟩
    ·rw [if_neg c13] at H
     exact absurd H (by simp)
   ·rw [if_neg c12] at H
    exact absurd H (by simp)
  ·rw [if_neg c10] at H
   have c10b0 : (t358 == 1) = false := beq_eq_false_iff_ne.mpr c10
   have c10b1 : (t358 != 1) = true := bne_iff_ne.mpr c10
   obtain ⟨y372, hy372⟩ : ∃ y_ : List ByteArray, y_ = (([(⟨#[]⟩ : ByteArray), (⟨#[104, 101, 108, 108, 111]⟩ : ByteArray), (⟨#[97, 58, 32, 98]⟩ : ByteArray), (⟨#[32, 120]⟩ : ByteArray), (⟨#[116, 101, 120, 116, 47, 112, 108, 97, 105, 110, 59, 32, 99, 104, 97, 114, 115, 101, 116, 61, 117, 116, 102, 45, 56]⟩ : ByteArray), (⟨#[98, 97, 115, 101, 54, 52]⟩ : ByteArray)] : List ByteArray)) := ⟨_, rfl⟩
   replace H : ((spec_l1Next.f s0_0 t359 6).bind fun bt375 => (if 0 ≤ bt375.1 then (if bt375.1 < (y372.length : Int) then (some (rdOf ByteArray.empty y372 bt375.1, bt375.2)) else (none)) else (none))) = some (r1, r2) := z3 hy372
   have Ny372 := Aside0.mk hy372
   clear hy372
   replace H := Option.bind_eq_some_iff.mp H
   obtain ⟨⟨t375, t376⟩, A190, H⟩ := H
   replace H : (if 0 ≤ t375 then (if t375 < (y372.length : Int) then (some (rdOf ByteArray.empty y372 t375, t376)) else (none)) else (none)) = some (r1, r2) := H
   have A19 := Aside0.mk A190
   clear A190
   (try simp only [c10b0, c10b1])
   by_cases c20 : 0 ≤ t375
   ·rw [if_pos c20] at H
    have c20b0 : decide (0 ≤ t375) = true := decide_eq_true c20
    clear c20
    by_cases c21 : t375 < (y372.length : Int)
    ·rw [if_pos c21] at H
     have c21b0 : decide (t375 < (y372.length : Int)) = true := decide_eq_true c21
     clear c21
     simp only [Option.some.injEq, Prod.mk.injEq] at H
     obtain ⟨rfl, rfl⟩ := H
     go_wp2_with (first | ((with_reducible refine gate_callee (f := 91) rfl ?_); refine goesL_ (some 6) rfl rfl Try.func91 (by kernel_rfl) rfl #[.pointer (some ⟨g, 0, none⟩), .int .i64 5] rfl bM ?_; (with_reducible refine (spec_l1Next.calls g s0_0 s0_1 5 t358 t359 w0 _ ?side1 ?side2 A2.out).mono ?_); (case side1 => exact z0 HI0.out); (case side2 => exact z1 HI0.out); rintro e w22 ⟨rfl, hi, hb, hk⟩; refine ⟨_, rfl, ?_⟩; replace HK := Aside0.mk (KeepBut.trans z2 hk (.inl rfl)); replace HB := Aside0.mk (hb); replace HI0 := Aside0.mk (hi); (try clear hi)) | ((with_reducible refine gate_dst (N := 23) rfl ?_); refine Kd.R_lit Kd.string _ 9 ?hg (N := 23) ?hd (xs := ([(⟨#[]⟩ : ByteArray), (⟨#[104, 101, 108, 108, 111]⟩ : ByteArray), (⟨#[97, 58, 32, 98]⟩ : ByteArray), (⟨#[32, 120]⟩ : ByteArray), (⟨#[116, 101, 120, 116, 47, 112, 108, 97, 105, 110, 59, 32, 99, 104, 97, 114, 115, 101, 116, 61, 117, 116, 102, 45, 56]⟩ : ByteArray), (⟨#[98, 97, 115, 101, 54, 52]⟩ : ByteArray)] : List ByteArray)) (inner := [.string (⟨#[]⟩ : ByteArray), .string (⟨#[104, 101, 108, 108, 111]⟩ : ByteArray), .string (⟨#[97, 58, 32, 98]⟩ : ByteArray), .string (⟨#[32, 120]⟩ : ByteArray), .string (⟨#[116, 101, 120, 116, 47, 112, 108, 97, 105, 110, 59, 32, 99, 104, 97, 114, 115, 101, 116, 61, 117, 116, 102, 45, 56]⟩ : ByteArray), .string (⟨#[98, 97, 115, 101, 54, 52]⟩ : ByteArray)]) (ok := fun _ => True) (okp := fun _ => True) ?hr ?hp (fun _ hk => hk) trivial (Below.refl _ _) (Nat.le_refl _) (by simp) ?_; (case hd => rfl); (case hg => rfl); (case hr => exact z14); (case hp => exact (Reps.one (show Kd.M Kd.string _ _ _ (⟨#[]⟩ : ByteArray) [.string (⟨#[]⟩ : ByteArray)] from rfl) (Reps.one (show Kd.M Kd.string _ _ _ (⟨#[104, 101, 108, 108, 111]⟩ : ByteArray) [.string (⟨#[104, 101, 108, 108, 111]⟩ : ByteArray)] from rfl) (Reps.one (show Kd.M Kd.string _ _ _ (⟨#[97, 58, 32, 98]⟩ : ByteArray) [.string (⟨#[97, 58, 32, 98]⟩ : ByteArray)] from rfl) (Reps.one (show Kd.M Kd.string _ _ _ (⟨#[32, 120]⟩ : ByteArray) [.string (⟨#[32, 120]⟩ : ByteArray)] from rfl) (Reps.one (show Kd.M Kd.string _ _ _ (⟨#[116, 101, 120, 116, 47, 112, 108, 97, 105, 110, 59, 32, 99, 104, 97, 114, 115, 101, 116, 61, 117, 116, 102, 45, 56]⟩ : ByteArray) [.string (⟨#[116, 101, 120, 116, 47, 112, 108, 97, 105, 110, 59, 32, 99, 104, 97, 114, 115, 101, 116, 61, 117, 116, 102, 45, 56]⟩ : ByteArray)] from rfl) (Reps.one (show Kd.M Kd.string _ _ _ (⟨#[98, 97, 115, 101, 54, 52]⟩ : ByteArray) [.string (⟨#[98, 97, 115, 101, 54, 52]⟩ : ByteArray)] from rfl) (Reps.none _ _)))))))); intro v373 w23 ho24 hb hg_ hnew_; clear hg_ hnew_; (first | rw [← Ny372.out] at ho24 | (simp only [Int.reduceToNat] at ho24; rw [← Ny372.out] at ho24)); have HO374 := Aside0.mk (Kd.R_lower ho24 (keep_size (w := w) (g := g) (row := none) z2)); replace HK := Aside0.mk (KeepBut.trans z2 (KeepBut.of_below hb g none) (.inl rfl)); replace HB := Aside0.mk (below_step (z1 HI0.out) hb); replace HI0 := Aside0.mk (IsS107.below (z0 HI0.out) hb); clear hb ho24) | ((with_reducible refine gate_callee (f := 91) rfl ?_); refine goesL_ (some 25) rfl rfl Try.func91 (by kernel_rfl) rfl #[.pointer (some ⟨g, 0, none⟩), .int .i64 6] rfl bM ?_; (with_reducible refine (spec_l1Next.calls g s0_0 t359 6 t375 t376 w0 _ ?side1 ?side2 A19.out).mono ?_); (case side1 => exact z0 HI0.out); (case side2 => exact z1 HI0.out); rintro e w25 ⟨rfl, hi, hb, hk⟩; refine ⟨_, rfl, ?_⟩; replace HO374 := Aside0.mk (Kd.R_mono (Kd.R_keep (IsS107.apart (show IsS107 w0 _ g s0_0 t359 from z0 HI0.out) (bR HO374) (by decide)) hk (fun _ h => h.2)) (fun _ h => h.1)); replace HK := Aside0.mk (KeepBut.trans z2 hk (.inl rfl)); replace HB := Aside0.mk (hb); replace HI0 := Aside0.mk (hi); obtain ⟨Ao26, co26, eo26⟩ := Kd.R_slice HO374.out; subst eo26; have p377 : 0 ≤ (t375 : Int) := pI; have q377 : t375 < (y372.length : Int) := pI; obtain ⟨ad377, e377, hx377_0⟩ := Kd.at_string (Kd.R_reads' HO374.out).2.2 t375 p377 q377; cases e377; replace p377 := eq_true p377; replace q377 := eq_true q377))
     go_ret
     exact ⟨bE, z0 HI0.out, z1 HI0.out, z2⟩
    ·rw [if_neg c21] at H
     exact absurd H (by simp)
   ·rw [if_neg c20] at H
    exact absurd H (by simp)
def spec_l4Right.l0 : Nat → List (S69) → Int → List Int → Int → Option ((List (S69)) × Int)
 | 0, _, _, _, _ => none
 | k + 1, x3, x4, x1000, x1001 => if x4 > 0 then ((some (([(⟨#[83, 117, 98, 106, 101, 99, 116]⟩ : ByteArray), (⟨#[84, 111]⟩ : ByteArray), (⟨#[99, 111, 110, 116, 101, 110, 116, 45, 116, 121, 112, 101]⟩ : ByteArray), (⟨#[88, 45, 49]⟩ : ByteArray)] : List ByteArray) : List ByteArray)).bind fun y383 => ((spec_l1Next.f x1000 x1001 4).bind fun bt386 => (if 0 ≤ bt386.1 then (if bt386.1 < (y383.length : Int) then ((spec_l4DrawValue.f k x1000 bt386.2).bind fun bt389 => (if x3.length < 4398046511104 then (spec_l4Right.l0 k (x3 ++ [(⟨rdOf ByteArray.empty y383 bt386.1, bt389.1⟩ : S69)]) (wrap64 (x4 - 1)) x1000 bt389.2) else (none))) else (none)) else (none)))) else (some (x3, x1001))
def spec_l4Right.f (k : Nat) (s0_0 : List Int) (s0_1 : Int) : Option ((List (S69)) × Int) := (spec_l1Next.f s0_0 s0_1 4).bind fun bt381 => (spec_l4Right.l0 k (([] : List (S69))) bt381.1 s0_0 bt381.2)
def spec_l4Right.T5 : Bool × List (List Nat × List Nat) := (true, [([], []), ([], []), ([], []), ([2], [2]), ([1, 3], [1, 3]), ([4], [4]), ([], []), ([6, 3], [6]), ([5, 7], [5, 7]), ([8], [8]), ([0, 9, 7], [0, 9]), ([10, 10, 0, 1, 2, 3, 4, 5, 6, 7, 8, 9, 10], [0, 10])])
def spec_l4Right.B5 : List Nat := [0, 0, 0, 4, 14, 30, 0, 76, 254, 510, 1023, 2047]
theorem spec_l4Right.tab5 : rtab .any (opsOf Try.f89 5) = spec_l4Right.T5 := by kernel_rfl
theorem spec_l4Right.bits5 : waitsOk spec_l4Right.T5.2 spec_l4Right.B5 = true := by kernel_rfl
set_option maxHeartbeats 8000000 in
set_option maxRecDepth 100000 in
theorem spec_l4Right.calls (k : Nat) (g : Nat) (s0_0 : List Int) (s0_1 : Int) (r1 : List (S69)) (r2 : Int) (w0 w : World) (hI : IsS107 w0 w g s0_0 s0_1) (hB : Below w0.heap.size w0 w) (h : spec_l4Right.f k s0_0 s0_1 = some (r1, r2)) :
  Calls Try.prog 89 #[.pointer (some ⟨g, 0, none⟩)] w fun e w' => ∃ v0_ : Value, e = .returned (v0_) ∧ Kd.R k69 69 w' w.heap.size (fun _ => True) v0_ r1 ∧ IsS107 w0 w' g s0_0 r2 ∧ Below w0.heap.size w0 w' ∧ KeepBut w w' g none := by
 have hu69 := Try.underlying69
 have HI0 := Aside0.mk hI
 have HK := Aside0.mk (KeepBut.refl w g none)
 have HL := Aside0.mk hB.size
 clear hI
 have HW0 := Aside0.mk hB.size
 have HB := Aside0.mk hB
 clear hB
 have H : ((spec_l1Next.f s0_0 s0_1 4).bind fun bt381 => (spec_l4Right.l0 k (([] : List (S69))) bt381.1 s0_0 bt381.2)) = some (r1, r2) := h
 clear h
 obtain ⟨y378, hy378⟩ : ∃ y_ : List (S69), y_ = (([] : List (S69))) := ⟨_, rfl⟩
 replace H : ((spec_l1Next.f s0_0 s0_1 4).bind fun bt381 => (spec_l4Right.l0 k y378 bt381.1 s0_0 bt381.2)) = some (r1, r2) := z3 hy378
 have Ny378 := Aside0.mk hy378
 clear hy378
 replace H := Option.bind_eq_some_iff.mp H
 obtain ⟨⟨t381, t382⟩, A20, H⟩ := H
 replace H : (spec_l4Right.l0 k y378 t381 s0_0 t382) = some (r1, r2) := H
 have A2 := Aside0.mk A20
 clear A20
 have H' := Aside0.mk H
 clear H
 go_enter Try.func89, Try.ntmps89
 go_wp2_with (first | ((with_reducible refine gate_dst (N := 5) rfl ?_); refine Kd.R_lit k69 _ 69 ?hg (N := 5) ?hd (xs := ([] : List (S69))) (inner := []) (ok := fun _ => True) (okp := fun _ => True) ?hr ?hp (fun _ hk => hk) trivial (Below.refl _ _) (Nat.le_refl _) (by simp) ?_; (case hd => rfl); (case hg => rfl); (case hr => exact z14); (case hp => exact (Reps.none _ _)); intro v379 w3 ho4 hb hg_ hnew_; clear hg_ hnew_; (first | rw [← Ny378.out] at ho4 | (simp only [Int.reduceToNat] at ho4; rw [← Ny378.out] at ho4)); have HO380 := Aside0.mk (Kd.R_lower ho4 (keep_size (w := w) (g := g) (row := none) z2)); replace HK := Aside0.mk (KeepBut.trans z2 (KeepBut.of_below hb g none) (.inl rfl)); replace HB := Aside0.mk (below_step (z1 HI0.out) hb); replace HI0 := Aside0.mk (IsS107.below (z0 HI0.out) hb); clear hb ho4) | ((with_reducible refine gate_callee (f := 91) rfl ?_); refine goesL_ (some 7) rfl rfl Try.func91 (by kernel_rfl) rfl #[.pointer (some ⟨g, 0, none⟩), .int .i64 4] rfl bM ?_; (with_reducible refine (spec_l1Next.calls g s0_0 s0_1 4 t381 t382 w0 _ ?side1 ?side2 A2.out).mono ?_); (case side1 => exact z0 HI0.out); (case side2 => exact z1 HI0.out); rintro e w5 ⟨rfl, hi, hb, hk⟩; refine ⟨_, rfl, ?_⟩; replace HO380 := Aside0.mk (Kd.R_mono (Kd.R_keep (IsS107.apart (show IsS107 w0 _ g s0_0 s0_1 from z0 HI0.out) (bR HO380) (by decide)) hk (fun _ h => h.2)) (fun _ h => h.1)); replace HK := Aside0.mk (KeepBut.trans z2 hk (.inl rfl)); replace HB := Aside0.mk (hb); replace HI0 := Aside0.mk (hi); (try clear hi)))
 go_loopg [3, 4] k (fun kq v3 v4 w' => ∃ (x3_1 : List (S69)) (x4_1 : Int) (x1001_1 : Int), v4 = .int .i64 x4_1 ∧ Aside0 (spec_l4Right.l0 kq x3_1 x4_1 s0_0 x1001_1 = some (r1, r2)) ∧ Aside0 (kq ≤ k) ∧ Aside0 (Kd.R k69 69 w' w.heap.size (fun _ => True) v3 x3_1) ∧ Aside0 (IsS107 w0 w' g s0_0 x1001_1) ∧ Aside0 (KeepBut w w' g none) ∧ Aside0 (Below w0.heap.size w0 w'))
 case atStart => exact ⟨(y378), (t381), (t382), bS, H', ⟨Nat.le_refl _⟩, ⟨bR HO380⟩, ⟨z0 HI0.out⟩, ⟨z2⟩, ⟨z1 HI0.out⟩⟩
 case round =>
  clear H'
  try clear p2
  obtain ⟨x3_1, x4_1, x1001_1, rfl, HA, HK1, HO_3, HI0, HK, HB⟩ := hrel
  cases gk with
  | zero => exact absurd HA.out (by simp [spec_l4Right.l0])
  | succ k1 =>
   have H := HA.out
   clear HA
   simp only [spec_l4Right.l0] at H
   by_cases c6 : x4_1 > 0
   ·rw [if_pos c6] at H
    have c6b0 : decide (0 < x4_1) = true := decide_eq_true c6
    clear c6
    obtain ⟨y383, hy383⟩ : ∃ y_ : List ByteArray, y_ = (([(⟨#[83, 117, 98, 106, 101, 99, 116]⟩ : ByteArray), (⟨#[84, 111]⟩ : ByteArray), (⟨#[99, 111, 110, 116, 101, 110, 116, 45, 116, 121, 112, 101]⟩ : ByteArray), (⟨#[88, 45, 49]⟩ : ByteArray)] : List ByteArray)) := ⟨_, rfl⟩
    replace H : ((spec_l1Next.f s0_0 x1001_1 4).bind fun bt386 => (if 0 ≤ bt386.1 then (if bt386.1 < (y383.length : Int) then ((spec_l4DrawValue.f k1 s0_0 bt386.2).bind fun bt389 => (if x3_1.length < 4398046511104 then (spec_l4Right.l0 k1 (x3_1 ++ [(⟨rdOf ByteArray.empty y383 bt386.1, bt389.1⟩ : S69)]) (wrap64 (x4_1 - 1)) s0_0 bt389.2) else (none))) else (none)) else (none))) = some (r1, r2) := z3 hy383
    have Ny383 := Aside0.mk hy383
    clear hy383
    replace H := Option.bind_eq_some_iff.mp H
    obtain ⟨⟨t386, t387⟩, A70, H⟩ := H
    replace H : (if 0 ≤ t386 then (if t386 < (y383.length : Int) then ((spec_l4DrawValue.f k1 s0_0 t387).bind fun bt389 => (if x3_1.length < 4398046511104 then (spec_l4Right.l0 k1 (x3_1 ++ [(⟨rdOf ByteArray.empty y383 t386, bt389.1⟩ : S69)]) (wrap64 (x4_1 - 1)) s0_0 bt389.2) else (none))) else (none)) else (none)) = some (r1, r2) := H
    have A7 := Aside0.mk A70
    clear A70
    by_cases c8 : 0 ≤ t386
    ·rw [if_pos c8] at H
     have c8b0 : decide (0 ≤ t386) = true := decide_eq_true c8
     clear c8
     by_cases c9 : t386 < (y383.length : Int)
     ·rw [if_pos c9] at H
      have c9b0 : decide (t386 < (y383.length : Int)) = true := decide_eq_true c9
      clear c9
      replace H := Option.bind_eq_some_iff.mp H
      obtain ⟨⟨t389, t390⟩, A100, H⟩ := H
      replace H : (if x3_1.length < 4398046511104 then (spec_l4Right.l0 k1 (x3_1 ++ [(⟨rdOf ByteArray.empty y383 t386, t389⟩ : S69)]) (wrap64 (x4_1 - 1)) s0_0 t390) else (none)) = some (r1, r2) := H
      have A10 := Aside0.mk A100
      clear A100
      by_cases c11 : x3_1.length < 4398046511104
      ·rw [if_pos c11] at H
       have LMc11 := Aside0.mk c11
       clear c11
       obtain ⟨y391, hy391⟩ : ∃ y_ : List (S69), y_ = (x3_1 ++ [(⟨rdOf ByteArray.empty y383 t386, t389⟩ : S69)]) := ⟨_, rfl⟩
       replace H : (spec_l4Right.l0 k1 y391 (wrap64 (x4_1 - 1)) s0_0 t390) = some (r1, r2) := z3 hy391
       have Ny391 := Aside0.mk hy391
       clear hy391
       have H' := Aside0.mk H
       clear H
       obtain ⟨Ao12, co12, eo12⟩ := Kd.R_slice HO_3.out
       subst eo12
       try go_wp2
       have pi388 : (0 ≤ (t386 : Int)) = True := eq_true (pI)
       have qi388 : (t386 < (y383.length : Int)) = True := eq_true (pI)
       replace HO_3 := Aside0.mk (Kd.R_drew HO_3.out)
       replace HI0 := Aside0.mk (IsS107.drew HI0.out)
       replace HK := Aside0.mk (keep_drew HK.out)
       replace HB := Aside0.mk (below_drew1 HB.out)
       refine start_ (n := 12) (S := fun w' => True) (ds := []) (bsA 12 0) (by kernel_rfl) rfl rfl trivial (fun hHeld => ?_); refine with_tabW spec_l4Right.tab5 spec_l4Right.bits5 (fun HT_ HW_ => ?_)
       generalize wr.drew = w13 at HO_3 HI0 HK HB hHeld ⊢
       refine pa_ (i := 0) (N := some 12) (bsA 12 1) (h := ?_)
       refine pa_ (i := 2) (N := some 14) (bsA 12 5) (h := ?_)
       refine pa_ (i := 6) (N := some 18) (bsA 12 69) (h := ?_)
       refine join_ (σ := Value × Addr) 4 (bsA 12 255) (fun s_ => [(13, s_.1), (15, .int .i64 t386), (17, .string (rdOf ByteArray.empty y383 t386)), (19, .string t389), (16, .pointer (some (s_.2.add (t386).toNat)))]) (fun s_ w' => (Kd.R Kd.string 9 w' w.heap.size (fun _ => True) s_.1 y383) ∧ (Kd.R k69 69 w' w.heap.size (fun _ => True) (.slice Ao12 x3_1.length co12) x3_1) ∧ (∃ c_, (s_.1 : Value) = .slice (some s_.2) y383.length c_) ∧ (IsS107 w0 w' g s0_0 t390) ∧ (KeepBut w w' g none) ∧ (Below w0.heap.size w0 w')) ?_ ?_
       rotate_left
       ·intro hJ1_3_5_7
        refine join_ (σ := Value × Addr) 5 (bsA 12 127) (fun s_ => [(13, s_.1), (15, .int .i64 t386), (17, .string (rdOf ByteArray.empty y383 t386)), (16, .pointer (some (s_.2.add (t386).toNat)))]) (fun s_ w' => (Kd.R Kd.string 9 w' w.heap.size (fun _ => True) s_.1 y383) ∧ (Kd.R k69 69 w' w.heap.size (fun _ => True) (.slice Ao12 x3_1.length co12) x3_1) ∧ (∃ c_, (s_.1 : Value) = .slice (some s_.2) y383.length c_) ∧ (IsS107 w0 w' g s0_0 t387) ∧ (KeepBut w w' g none) ∧ (Below w0.heap.size w0 w')) ?_ ?_
        rotate_left
        ·intro hJ1_3_5
         refine join_ (σ := Value × Addr) 5 (bsA 12 223) (fun s_ => [(13, s_.1), (15, .int .i64 t386), (19, .string t389), (16, .pointer (some (s_.2.add (t386).toNat)))]) (fun s_ w' => (Kd.R Kd.string 9 w' w.heap.size (fun _ => True) s_.1 y383) ∧ (Kd.R k69 69 w' w.heap.size (fun _ => True) (.slice Ao12 x3_1.length co12) x3_1) ∧ (∃ c_, (s_.1 : Value) = .slice (some s_.2) y383.length c_) ∧ (IsS107 w0 w' g s0_0 t390) ∧ (KeepBut w w' g none) ∧ (Below w0.heap.size w0 w')) ?_ ?_
         rotate_left
         ·intro hJ1_3_7
          refine join_ (σ := Value × Addr) 6 (bsA 12 95) (fun s_ => [(13, s_.1), (15, .int .i64 t386), (16, .pointer (some (s_.2.add (t386).toNat)))]) (fun s_ w' => (Kd.R Kd.string 9 w' w.heap.size (fun _ => True) s_.1 y383) ∧ (Kd.R k69 69 w' w.heap.size (fun _ => True) (.slice Ao12 x3_1.length co12) x3_1) ∧ (∃ c_, (s_.1 : Value) = .slice (some s_.2) y383.length c_) ∧ (IsS107 w0 w' g s0_0 t387) ∧ (KeepBut w w' g none) ∧ (Below w0.heap.size w0 w')) ?_ ?_
          rotate_left
          ·intro hJ1_3
           refine join_ (σ := Unit) 7 (bsA 12 205) (fun s_ => [(15, .int .i64 t386), (19, .string t389)]) (fun s_ w' => (Kd.R k69 69 w' w.heap.size (fun _ => True) (.slice Ao12 x3_1.length co12) x3_1) ∧ (IsS107 w0 w' g s0_0 t390) ∧ (KeepBut w w' g none) ∧ (Below w0.heap.size w0 w')) ?_ ?_
           rotate_left
           ·intro hJ3_7
            refine join_ (σ := Value × Addr) 8 (bsA 12 71) (fun s_ => [(13, s_.1)]) (fun s_ w' => (Kd.R Kd.string 9 w' w.heap.size (fun _ => True) s_.1 y383) ∧ (Kd.R k69 69 w' w.heap.size (fun _ => True) (.slice Ao12 x3_1.length co12) x3_1) ∧ (∃ c_, (s_.1 : Value) = .slice (some s_.2) y383.length c_) ∧ (IsS107 w0 w' g s0_0 x1001_1) ∧ (KeepBut w w' g none) ∧ (Below w0.heap.size w0 w')) ?_ ?_
            rotate_left
            ·intro hJ1
             refine join_ (σ := Unit) 8 (bsA 12 77) (fun s_ => [(15, .int .i64 t386)]) (fun s_ w' => (Kd.R k69 69 w' w.heap.size (fun _ => True) (.slice Ao12 x3_1.length co12) x3_1) ∧ (IsS107 w0 w' g s0_0 t387) ∧ (KeepBut w w' g none) ∧ (Below w0.heap.size w0 w')) ?_ ?_
             rotate_left
             ·intro hJ3
              refine two_ (i := 1) (j := 3) (Ni := some 13) (Nj := some 15) (bsA 12 71) (bsA 12 77) rfl rfl rfl rfl (two_of HT_.out (by kernel_rfl)) (by decide) (by decide) (fun K hK => ?_) (fun K hK => ?_)
              ·skip
               refine Kd.R_lit_step Kd.string _ 9 ?hg (N := 13) ?hd (xs := ([(⟨#[83, 117, 98, 106, 101, 99, 116]⟩ : ByteArray), (⟨#[84, 111]⟩ : ByteArray), (⟨#[99, 111, 110, 116, 101, 110, 116, 45, 116, 121, 112, 101]⟩ : ByteArray), (⟨#[88, 45, 49]⟩ : ByteArray)] : List ByteArray)) (inner := [.string (⟨#[83, 117, 98, 106, 101, 99, 116]⟩ : ByteArray), .string (⟨#[84, 111]⟩ : ByteArray), .string (⟨#[99, 111, 110, 116, 101, 110, 116, 45, 116, 121, 112, 101]⟩ : ByteArray), .string (⟨#[88, 45, 49]⟩ : ByteArray)]) (ok := fun _ => True) (okp := fun _ => True) ?hr ?hp (fun _ hk => hk) trivial (Below.refl _ _) (Nat.le_refl _) (by simp) ?_; (case hd => rfl); (case hg => rfl); (case hr => exact z14); (case hp => exact (Reps.one (show Kd.M Kd.string _ _ _ (⟨#[83, 117, 98, 106, 101, 99, 116]⟩ : ByteArray) [.string (⟨#[83, 117, 98, 106, 101, 99, 116]⟩ : ByteArray)] from rfl) (Reps.one (show Kd.M Kd.string _ _ _ (⟨#[84, 111]⟩ : ByteArray) [.string (⟨#[84, 111]⟩ : ByteArray)] from rfl) (Reps.one (show Kd.M Kd.string _ _ _ (⟨#[99, 111, 110, 116, 101, 110, 116, 45, 116, 121, 112, 101]⟩ : ByteArray) [.string (⟨#[99, 111, 110, 116, 101, 110, 116, 45, 116, 121, 112, 101]⟩ : ByteArray)] from rfl) (Reps.one (show Kd.M Kd.string _ _ _ (⟨#[88, 45, 49]⟩ : ByteArray) [.string (⟨#[88, 45, 49]⟩ : ByteArray)] from rfl) (Reps.none _ _))))))
               intro v384 w14 ho15 hb hg_ hnew_
               clear hg_ hnew_
               (first | rw [← Ny383.out] at ho15 | (simp only [Int.reduceToNat] at ho15; rw [← Ny383.out] at ho15))
               replace HO_3 := Aside0.mk (Kd.R_below (bR HO_3) hb)
               have HO385 := Aside0.mk (Kd.R_lower ho15 (keep_size (w := w) (g := g) (row := none) z2))
               replace HK := Aside0.mk (KeepBut.trans z2 (KeepBut.of_below hb g none) (.inl rfl))
               replace HB := Aside0.mk (below_step (z1 HI0.out) hb)
               replace HI0 := Aside0.mk (IsS107.below (z0 HI0.out) hb)
               clear hb ho15
               obtain ⟨Ao16, co16, eo16⟩ := Kd.R_slice HO385.out
               subst eo16
               obtain ⟨ado16, fo16, _⟩ := Kd.at_string (Kd.R_reads' HO385.out).2.2 0 (by decide) (by rw [Ny383.out]; simp)
               cases fo16
               refine hK.out _ _ trivial (fun hHeld => ?_)
               clear hK K
               refine na_ (N := some 13) (h := ?_)
               exact norm_ z4 (hJ1 (.slice (some ado16) y383.length co16, ado16) _ ⟨(bR HO385), (bR HO_3), ⟨_, rfl⟩, (z0 HI0.out), z2, (z1 HI0.out)⟩)
              ·skip
               refine goes_ Try.func91 (by kernel_rfl) rfl #[.pointer (some ⟨g, 0, none⟩), .int .i64 4] (by rfl) rfl rfl bM ?_
               with_reducible refine (spec_l1Next.calls g s0_0 x1001_1 4 t386 t387 w0 _ ?side1 ?side2 A7.out).mono ?_
               (case side1 => exact z0 HI0.out)
               (case side2 => exact z1 HI0.out)
               rintro e w14 ⟨rfl, hi, hb, hk⟩
               refine ⟨_, rfl, ?_⟩
               replace HO_3 := Aside0.mk (Kd.R_mono (Kd.R_keep (IsS107.apart (show IsS107 w0 _ g s0_0 x1001_1 from z0 HI0.out) (bR HO_3) (by decide)) hk (fun _ h => h.2)) (fun _ h => h.1))
               replace HK := Aside0.mk (KeepBut.trans z2 hk (.inl rfl))
               replace HB := Aside0.mk (hb)
               replace HI0 := Aside0.mk (hi)
               (try clear hb)
               (try clear hb2)
               (try clear hk)
               (try clear hi)
               refine hK.out _ _ trivial (fun hHeld => ?_)
               clear hK K
               refine na_ (N := some 15) (h := ?_)
               exact norm_ z4 (hJ3 () _ ⟨(bR HO_3), (z0 HI0.out), z2, (z1 HI0.out)⟩)
             ·skip
              rintro _ w15 ⟨h0_, h1_, h2_, h3_⟩
              have n0_ : Aside0 (Kd.R k69 69 w15 w.heap.size (fun _ => True) (.slice Ao12 x3_1.length co12) x3_1) := ⟨h0_⟩
              have n1_ : Aside0 (IsS107 w0 w15 g s0_0 t387) := ⟨h1_⟩
              have n2_ : Aside0 (KeepBut w w15 g none) := ⟨h2_⟩
              have n3_ : Aside0 (Below w0.heap.size w0 w15) := ⟨h3_⟩
              clear HO_3
              clear HI0
              clear HK
              clear HB
              clear h0_ h1_ h2_ h3_
              have HO_3 := n0_
              have HI0 := n1_
              have HK := n2_
              have HB := n3_
              clear n0_ n1_ n2_ n3_
              have hHeld := trivial
              refine norm_ (a' := ?_) ?_ ?_
              rotate_left
              ·simp only [putAll, Act.put, List.setIfInBounds_toArray, List.set_cons_zero, List.set_cons_succ]
               rfl
              refine two_ (i := 1) (j := 7) (Ni := some 13) (Nj := some 19) (bsA 12 79) (bsA 12 205) rfl rfl rfl rfl (two_of HT_.out (by kernel_rfl)) (by decide) (by decide) (fun K hK => ?_) (fun K hK => ?_)
              ·skip
               refine Kd.R_lit_step Kd.string _ 9 ?hg (N := 13) ?hd (xs := ([(⟨#[83, 117, 98, 106, 101, 99, 116]⟩ : ByteArray), (⟨#[84, 111]⟩ : ByteArray), (⟨#[99, 111, 110, 116, 101, 110, 116, 45, 116, 121, 112, 101]⟩ : ByteArray), (⟨#[88, 45, 49]⟩ : ByteArray)] : List ByteArray)) (inner := [.string (⟨#[83, 117, 98, 106, 101, 99, 116]⟩ : ByteArray), .string (⟨#[84, 111]⟩ : ByteArray), .string (⟨#[99, 111, 110, 116, 101, 110, 116, 45, 116, 121, 112, 101]⟩ : ByteArray), .string (⟨#[88, 45, 49]⟩ : ByteArray)]) (ok := fun _ => True) (okp := fun _ => True) ?hr ?hp (fun _ hk => hk) trivial (Below.refl _ _) (Nat.le_refl _) (by simp) ?_; (case hd => rfl); (case hg => rfl); (case hr => exact z14); (case hp => exact (Reps.one (show Kd.M Kd.string _ _ _ (⟨#[83, 117, 98, 106, 101, 99, 116]⟩ : ByteArray) [.string (⟨#[83, 117, 98, 106, 101, 99, 116]⟩ : ByteArray)] from rfl) (Reps.one (show Kd.M Kd.string _ _ _ (⟨#[84, 111]⟩ : ByteArray) [.string (⟨#[84, 111]⟩ : ByteArray)] from rfl) (Reps.one (show Kd.M Kd.string _ _ _ (⟨#[99, 111, 110, 116, 101, 110, 116, 45, 116, 121, 112, 101]⟩ : ByteArray) [.string (⟨#[99, 111, 110, 116, 101, 110, 116, 45, 116, 121, 112, 101]⟩ : ByteArray)] from rfl) (Reps.one (show Kd.M Kd.string _ _ _ (⟨#[88, 45, 49]⟩ : ByteArray) [.string (⟨#[88, 45, 49]⟩ : ByteArray)] from rfl) (Reps.none _ _))))))
               intro v384 w16 ho17 hb hg_ hnew_
               clear hg_ hnew_
               (first | rw [← Ny383.out] at ho17 | (simp only [Int.reduceToNat] at ho17; rw [← Ny383.out] at ho17))
               replace HO_3 := Aside0.mk (Kd.R_below (bR HO_3) hb)
               have HO385 := Aside0.mk (Kd.R_lower ho17 (keep_size (w := w) (g := g) (row := none) z2))
               replace HK := Aside0.mk (KeepBut.trans z2 (KeepBut.of_below hb g none) (.inl rfl))
               replace HB := Aside0.mk (below_step (z1 HI0.out) hb)
               replace HI0 := Aside0.mk (IsS107.below (z0 HI0.out) hb)
               clear hb ho17
               obtain ⟨Ao18, co18, eo18⟩ := Kd.R_slice HO385.out
               subst eo18
               obtain ⟨ado18, fo18, _⟩ := Kd.at_string (Kd.R_reads' HO385.out).2.2 0 (by decide) (by rw [Ny383.out]; simp)
               cases fo18
               refine hK.out _ _ trivial (fun hHeld => ?_)
               clear hK K
               refine na_ (N := some 13) (h := ?_)
               refine pa_ (i := 4) (N := some 16) (bsA 12 95) (h := ?_)
               exact norm_ z4 (hJ1_3 (.slice (some ado18) y383.length co18, ado18) _ ⟨(bR HO385), (bR HO_3), ⟨_, rfl⟩, (z0 HI0.out), z2, (z1 HI0.out)⟩)
              ·skip
               refine goes_ Try.func115 (by kernel_rfl) rfl #[.pointer (some ⟨g, 0, none⟩)] (by rfl) rfl rfl bM ?_
               with_reducible refine (spec_l4DrawValue.calls k1 g s0_0 t387 t389 t390 w0 _ ?side1 ?side2 A10.out).mono ?_
               (case side1 => exact z0 HI0.out)
               (case side2 => exact z1 HI0.out)
               rintro e w16 ⟨rfl, hi, hb, hk⟩
               refine ⟨_, rfl, ?_⟩
               replace HO_3 := Aside0.mk (Kd.R_mono (Kd.R_keep (IsS107.apart (show IsS107 w0 _ g s0_0 t387 from z0 HI0.out) (bR HO_3) (by decide)) hk (fun _ h => h.2)) (fun _ h => h.1))
               replace HK := Aside0.mk (KeepBut.trans z2 hk (.inl rfl))
               replace HB := Aside0.mk (hb)
               replace HI0 := Aside0.mk (hi)
               (try clear hb)
               (try clear hb2)
               (try clear hk)
               (try clear hi)
               refine hK.out _ _ trivial (fun hHeld => ?_)
               clear hK K
               refine na_ (N := some 19) (h := ?_)
               exact norm_ z4 (hJ3_7 () _ ⟨(bR HO_3), (z0 HI0.out), z2, (z1 HI0.out)⟩)
            ·skip
             rintro ⟨v384, adz_v384⟩ w17 ⟨h0_, h1_, h2_, h3_, h4_, h5_⟩
             have n0_ : Aside0 (Kd.R Kd.string 9 w17 w.heap.size (fun _ => True) v384 y383) := ⟨h0_⟩
             have n1_ : Aside0 (Kd.R k69 69 w17 w.heap.size (fun _ => True) (.slice Ao12 x3_1.length co12) x3_1) := ⟨h1_⟩
             have n2_ : Aside0 (∃ c_, (v384 : Value) = .slice (some adz_v384) y383.length c_) := ⟨h2_⟩
             have n3_ : Aside0 (IsS107 w0 w17 g s0_0 x1001_1) := ⟨h3_⟩
             have n4_ : Aside0 (KeepBut w w17 g none) := ⟨h4_⟩
             have n5_ : Aside0 (Below w0.heap.size w0 w17) := ⟨h5_⟩
             clear HO_3
             clear HI0
             clear HK
             clear HB
             clear h0_ h1_ h2_ h3_ h4_ h5_
             have HO385 := n0_
             have HO_3 := n1_
             have HA_HO385 := n2_
             have HI0 := n3_
             have HK := n4_
             have HB := n5_
             clear n0_ n1_ n2_ n3_ n4_ n5_
             have hHeld := trivial
             obtain ⟨co18, eo18⟩ := HA_HO385.out
             clear HA_HO385
             subst eo18
             refine norm_ (a' := ?_) ?_ ?_
             rotate_left
             ·simp only [putAll, Act.put, List.setIfInBounds_toArray, List.set_cons_zero, List.set_cons_succ]
              rfl
             refine one_ (i := 3) (N := some 15) (bsA 12 79) rfl rfl (one_of HT_.out (by kernel_rfl)) (by decide) (fun K hK => ?_)
             refine goes_ Try.func91 (by kernel_rfl) rfl #[.pointer (some ⟨g, 0, none⟩), .int .i64 4] (by rfl) rfl rfl bM ?_
             with_reducible refine (spec_l1Next.calls g s0_0 x1001_1 4 t386 t387 w0 _ ?side1 ?side2 A7.out).mono ?_
             (case side1 => exact z0 HI0.out)
             (case side2 => exact z1 HI0.out)
             rintro e w19 ⟨rfl, hi, hb, hk⟩
             refine ⟨_, rfl, ?_⟩
             replace HO_3 := Aside0.mk (Kd.R_mono (Kd.R_keep (IsS107.apart (show IsS107 w0 _ g s0_0 x1001_1 from z0 HI0.out) (bR HO_3) (by decide)) hk (fun _ h => h.2)) (fun _ h => h.1))
             replace HO385 := Aside0.mk (Kd.R_mono (Kd.R_keep (IsS107.apart (show IsS107 w0 _ g s0_0 x1001_1 from z0 HI0.out) (bR HO385) (by decide)) hk (fun _ h => h.2)) (fun _ h => h.1))
             replace HK := Aside0.mk (KeepBut.trans z2 hk (.inl rfl))
             replace HB := Aside0.mk (hb)
             replace HI0 := Aside0.mk (hi)
             (try clear hb)
             (try clear hb2)
             (try clear hk)
             (try clear hi)
             refine hK.out _ _ trivial (fun hHeld => ?_)
             clear hK K
             refine na_ (N := some 15) (h := ?_)
             refine pa_ (i := 4) (N := some 16) (bsA 12 95) (h := ?_)
             exact norm_ z4 (hJ1_3 (.slice (some adz_v384) y383.length co18, adz_v384) _ ⟨(bR HO385), (bR HO_3), ⟨_, rfl⟩, (z0 HI0.out), z2, (z1 HI0.out)⟩)
           ·skip
            rintro _ w16 ⟨h0_, h1_, h2_, h3_⟩
            have n0_ : Aside0 (Kd.R k69 69 w16 w.heap.size (fun _ => True) (.slice Ao12 x3_1.length co12) x3_1) := ⟨h0_⟩
            have n1_ : Aside0 (IsS107 w0 w16 g s0_0 t390) := ⟨h1_⟩
            have n2_ : Aside0 (KeepBut w w16 g none) := ⟨h2_⟩
            have n3_ : Aside0 (Below w0.heap.size w0 w16) := ⟨h3_⟩
            clear HO_3
            clear HI0
            clear HK
            clear HB
            clear h0_ h1_ h2_ h3_
            have HO_3 := n0_
            have HI0 := n1_
            have HK := n2_
            have HB := n3_
            clear n0_ n1_ n2_ n3_
            have hHeld := trivial
            refine norm_ (a' := ?_) ?_ ?_
            rotate_left
            ·simp only [putAll, Act.put, List.setIfInBounds_toArray, List.set_cons_zero, List.set_cons_succ]
             rfl
            refine one_ (i := 1) (N := some 13) (bsA 12 207) rfl rfl (one_of HT_.out (by kernel_rfl)) (by decide) (fun K hK => ?_)
            refine Kd.R_lit_step Kd.string _ 9 ?hg (N := 13) ?hd (xs := ([(⟨#[83, 117, 98, 106, 101, 99, 116]⟩ : ByteArray), (⟨#[84, 111]⟩ : ByteArray), (⟨#[99, 111, 110, 116, 101, 110, 116, 45, 116, 121, 112, 101]⟩ : ByteArray), (⟨#[88, 45, 49]⟩ : ByteArray)] : List ByteArray)) (inner := [.string (⟨#[83, 117, 98, 106, 101, 99, 116]⟩ : ByteArray), .string (⟨#[84, 111]⟩ : ByteArray), .string (⟨#[99, 111, 110, 116, 101, 110, 116, 45, 116, 121, 112, 101]⟩ : ByteArray), .string (⟨#[88, 45, 49]⟩ : ByteArray)]) (ok := fun _ => True) (okp := fun _ => True) ?hr ?hp (fun _ hk => hk) trivial (Below.refl _ _) (Nat.le_refl _) (by simp) ?_; (case hd => rfl); (case hg => rfl); (case hr => exact z14); (case hp => exact (Reps.one (show Kd.M Kd.string _ _ _ (⟨#[83, 117, 98, 106, 101, 99, 116]⟩ : ByteArray) [.string (⟨#[83, 117, 98, 106, 101, 99, 116]⟩ : ByteArray)] from rfl) (Reps.one (show Kd.M Kd.string _ _ _ (⟨#[84, 111]⟩ : ByteArray) [.string (⟨#[84, 111]⟩ : ByteArray)] from rfl) (Reps.one (show Kd.M Kd.string _ _ _ (⟨#[99, 111, 110, 116, 101, 110, 116, 45, 116, 121, 112, 101]⟩ : ByteArray) [.string (⟨#[99, 111, 110, 116, 101, 110, 116, 45, 116, 121, 112, 101]⟩ : ByteArray)] from rfl) (Reps.one (show Kd.M Kd.string _ _ _ (⟨#[88, 45, 49]⟩ : ByteArray) [.string (⟨#[88, 45, 49]⟩ : ByteArray)] from rfl) (Reps.none _ _))))))
            intro v384 w17 ho18 hb hg_ hnew_
            clear hg_ hnew_
            (first | rw [← Ny383.out] at ho18 | (simp only [Int.reduceToNat] at ho18; rw [← Ny383.out] at ho18))
            replace HO_3 := Aside0.mk (Kd.R_below (bR HO_3) hb)
            have HO385 := Aside0.mk (Kd.R_lower ho18 (keep_size (w := w) (g := g) (row := none) z2))
            replace HK := Aside0.mk (KeepBut.trans z2 (KeepBut.of_below hb g none) (.inl rfl))
            replace HB := Aside0.mk (below_step (z1 HI0.out) hb)
            replace HI0 := Aside0.mk (IsS107.below (z0 HI0.out) hb)
            clear hb ho18
            obtain ⟨Ao19, co19, eo19⟩ := Kd.R_slice HO385.out
            subst eo19
            obtain ⟨ado19, fo19, _⟩ := Kd.at_string (Kd.R_reads' HO385.out).2.2 0 (by decide) (by rw [Ny383.out]; simp)
            cases fo19
            refine hK.out _ _ trivial (fun hHeld => ?_)
            clear hK K
            refine na_ (N := some 13) (h := ?_)
            refine pa_ (i := 4) (N := some 16) (bsA 12 223) (h := ?_)
            exact norm_ z4 (hJ1_3_7 (.slice (some ado19) y383.length co19, ado19) _ ⟨(bR HO385), (bR HO_3), ⟨_, rfl⟩, (z0 HI0.out), z2, (z1 HI0.out)⟩)
          ·skip
           rintro ⟨v384, adz_v384⟩ w18 ⟨h0_, h1_, h2_, h3_, h4_, h5_⟩
           have n0_ : Aside0 (Kd.R Kd.string 9 w18 w.heap.size (fun _ => True) v384 y383) := ⟨h0_⟩
           have n1_ : Aside0 (Kd.R k69 69 w18 w.heap.size (fun _ => True) (.slice Ao12 x3_1.length co12) x3_1) := ⟨h1_⟩
           have n2_ : Aside0 (∃ c_, (v384 : Value) = .slice (some adz_v384) y383.length c_) := ⟨h2_⟩
           have n3_ : Aside0 (IsS107 w0 w18 g s0_0 t387) := ⟨h3_⟩
           have n4_ : Aside0 (KeepBut w w18 g none) := ⟨h4_⟩
           have n5_ : Aside0 (Below w0.heap.size w0 w18) := ⟨h5_⟩
           clear HO_3
           clear HI0
           clear HK
           clear HB
           clear h0_ h1_ h2_ h3_ h4_ h5_
           have HO385 := n0_
           have HO_3 := n1_
           have HA_HO385 := n2_
           have HI0 := n3_
           have HK := n4_
           have HB := n5_
           clear n0_ n1_ n2_ n3_ n4_ n5_
           have hHeld := trivial
           obtain ⟨co19, eo19⟩ := HA_HO385.out
           clear HA_HO385
           subst eo19
           refine norm_ (a' := ?_) ?_ ?_
           rotate_left
           ·simp only [putAll, Act.put, List.setIfInBounds_toArray, List.set_cons_zero, List.set_cons_succ]
            rfl
           refine two_ (i := 5) (j := 7) (Ni := some 17) (Nj := some 19) (bsA 12 127) (bsA 12 223) rfl rfl rfl rfl (two_of HT_.out (by kernel_rfl)) (by decide) (by decide) (fun K hK => ?_) (fun K hK => ?_)
           ·skip
            (have p388 : 0 ≤ (t386 : Int) := pI; have q388 : t386 < (y383.length : Int) := pI; obtain ⟨ad388, e388, hx388_0⟩ := Kd.at_string (Kd.R_reads' HO385.out).2.2 t386 p388 q388; obtain rfl : adz_v384 = ad388 := (by injection e388))
            refine value_ (w1 := ?_) (v := ?_) (by rfl) rfl ?_ ?_
            rotate_left 2
            ·go_simp
             constructor
             ·rfl
             ·rfl
            clear hx388_0
            refine hK.out _ _ trivial (fun hHeld => ?_)
            clear hK K
            refine na_ (N := some 17) (h := ?_)
            exact norm_ z4 (hJ1_3_5 (.slice (some adz_v384) y383.length co19, adz_v384) _ ⟨(bR HO385), (bR HO_3), ⟨_, rfl⟩, (z0 HI0.out), z2, (z1 HI0.out)⟩)
           ·skip
            refine goes_ Try.func115 (by kernel_rfl) rfl #[.pointer (some ⟨g, 0, none⟩)] (by rfl) rfl rfl bM ?_
            with_reducible refine (spec_l4DrawValue.calls k1 g s0_0 t387 t389 t390 w0 _ ?side1 ?side2 A10.out).mono ?_
            (case side1 => exact z0 HI0.out)
            (case side2 => exact z1 HI0.out)
            rintro e w20 ⟨rfl, hi, hb, hk⟩
            refine ⟨_, rfl, ?_⟩
            replace HO_3 := Aside0.mk (Kd.R_mono (Kd.R_keep (IsS107.apart (show IsS107 w0 _ g s0_0 t387 from z0 HI0.out) (bR HO_3) (by decide)) hk (fun _ h => h.2)) (fun _ h => h.1))
            replace HO385 := Aside0.mk (Kd.R_mono (Kd.R_keep (IsS107.apart (show IsS107 w0 _ g s0_0 t387 from z0 HI0.out) (bR HO385) (by decide)) hk (fun _ h => h.2)) (fun _ h => h.1))
            replace HK := Aside0.mk (KeepBut.trans z2 hk (.inl rfl))
            replace HB := Aside0.mk (hb)
            replace HI0 := Aside0.mk (hi)
            (try clear hb)
            (try clear hb2)
            (try clear hk)
            (try clear hi)
            refine hK.out _ _ trivial (fun hHeld => ?_)
            clear hK K
            refine na_ (N := some 19) (h := ?_)
            exact norm_ z4 (hJ1_3_7 (.slice (some adz_v384) y383.length co19, adz_v384) _ ⟨(bR HO385), (bR HO_3), ⟨_, rfl⟩, (z0 HI0.out), z2, (z1 HI0.out)⟩)
         ·skip
          rintro ⟨v384, adz_v384⟩ w19 ⟨h0_, h1_, h2_, h3_, h4_, h5_⟩
          have n0_ : Aside0 (Kd.R Kd.string 9 w19 w.heap.size (fun _ => True) v384 y383) := ⟨h0_⟩
          have n1_ : Aside0 (Kd.R k69 69 w19 w.heap.size (fun _ => True) (.slice Ao12 x3_1.length co12) x3_1) := ⟨h1_⟩
          have n2_ : Aside0 (∃ c_, (v384 : Value) = .slice (some adz_v384) y383.length c_) := ⟨h2_⟩
          have n3_ : Aside0 (IsS107 w0 w19 g s0_0 t390) := ⟨h3_⟩
          have n4_ : Aside0 (KeepBut w w19 g none) := ⟨h4_⟩
          have n5_ : Aside0 (Below w0.heap.size w0 w19) := ⟨h5_⟩
          clear HO_3
          clear HI0
          clear HK
          clear HB
          clear h0_ h1_ h2_ h3_ h4_ h5_
          have HO385 := n0_
          have HO_3 := n1_
          have HA_HO385 := n2_
          have HI0 := n3_
          have HK := n4_
          have HB := n5_
          clear n0_ n1_ n2_ n3_ n4_ n5_
          have hHeld := trivial
          obtain ⟨co20, eo20⟩ := HA_HO385.out
          clear HA_HO385
          subst eo20
          refine norm_ (a' := ?_) ?_ ?_
          rotate_left
          ·simp only [putAll, Act.put, List.setIfInBounds_toArray, List.set_cons_zero, List.set_cons_succ]
           rfl
          refine one_ (i := 5) (N := some 17) (bsA 12 255) rfl rfl (one_of HT_.out (by kernel_rfl)) (by decide) (fun K hK => ?_)
          (have p388 : 0 ≤ (t386 : Int) := pI; have q388 : t386 < (y383.length : Int) := pI; obtain ⟨ad388, e388, hx388_0⟩ := Kd.at_string (Kd.R_reads' HO385.out).2.2 t386 p388 q388; obtain rfl : adz_v384 = ad388 := (by injection e388))
          refine value_ (w1 := ?_) (v := ?_) (by rfl) rfl ?_ ?_
          rotate_left 2
          ·go_simp
           constructor
           ·rfl
           ·rfl
          clear hx388_0
          refine hK.out _ _ trivial (fun hHeld => ?_)
          clear hK K
          refine na_ (N := some 17) (h := ?_)
          exact norm_ z4 (hJ1_3_5_7 (.slice (some adz_v384) y383.length co20, adz_v384) _ ⟨(bR HO385), (bR HO_3), ⟨_, rfl⟩, (z0 HI0.out), z2, (z1 HI0.out)⟩)
        ·skip
         rintro ⟨v384, adz_v384⟩ w18 ⟨h0_, h1_, h2_, h3_, h4_, h5_⟩
         have n0_ : Aside0 (Kd.R Kd.string 9 w18 w.heap.size (fun _ => True) v384 y383) := ⟨h0_⟩
         have n1_ : Aside0 (Kd.R k69 69 w18 w.heap.size (fun _ => True) (.slice Ao12 x3_1.length co12) x3_1) := ⟨h1_⟩
         have n2_ : Aside0 (∃ c_, (v384 : Value) = .slice (some adz_v384) y383.length c_) := ⟨h2_⟩
         have n3_ : Aside0 (IsS107 w0 w18 g s0_0 t387) := ⟨h3_⟩
         have n4_ : Aside0 (KeepBut w w18 g none) := ⟨h4_⟩
         have n5_ : Aside0 (Below w0.heap.size w0 w18) := ⟨h5_⟩
         clear HO_3
         clear HI0
         clear HK
         clear HB
         clear h0_ h1_ h2_ h3_ h4_ h5_
         have HO385 := n0_
         have HO_3 := n1_
         have HA_HO385 := n2_
         have HI0 := n3_
         have HK := n4_
         have HB := n5_
         clear n0_ n1_ n2_ n3_ n4_ n5_
         have hHeld := trivial
         obtain ⟨co19, eo19⟩ := HA_HO385.out
         clear HA_HO385
         subst eo19
         refine norm_ (a' := ?_) ?_ ?_
         rotate_left
         ·simp only [putAll, Act.put, List.setIfInBounds_toArray, List.set_cons_zero, List.set_cons_succ]
          rfl
         refine one_ (i := 7) (N := some 19) (bsA 12 255) rfl rfl (one_of HT_.out (by kernel_rfl)) (by decide) (fun K hK => ?_)
         refine goes_ Try.func115 (by kernel_rfl) rfl #[.pointer (some ⟨g, 0, none⟩)] (by rfl) rfl rfl bM ?_
         with_reducible refine (spec_l4DrawValue.calls k1 g s0_0 t387 t389 t390 w0 _ ?side1 ?side2 A10.out).mono ?_
         (case side1 => exact z0 HI0.out)
         (case side2 => exact z1 HI0.out)
         rintro e w20 ⟨rfl, hi, hb, hk⟩
         refine ⟨_, rfl, ?_⟩
         replace HO_3 := Aside0.mk (Kd.R_mono (Kd.R_keep (IsS107.apart (show IsS107 w0 _ g s0_0 t387 from z0 HI0.out) (bR HO_3) (by decide)) hk (fun _ h => h.2)) (fun _ h => h.1))
         replace HO385 := Aside0.mk (Kd.R_mono (Kd.R_keep (IsS107.apart (show IsS107 w0 _ g s0_0 t387 from z0 HI0.out) (bR HO385) (by decide)) hk (fun _ h => h.2)) (fun _ h => h.1))
         replace HK := Aside0.mk (KeepBut.trans z2 hk (.inl rfl))
         replace HB := Aside0.mk (hb)
         replace HI0 := Aside0.mk (hi)
         (try clear hb)
         (try clear hb2)
         (try clear hk)
         (try clear hi)
         refine hK.out _ _ trivial (fun hHeld => ?_)
         clear hK K
         refine na_ (N := some 19) (h := ?_)
         exact norm_ z4 (hJ1_3_5_7 (.slice (some adz_v384) y383.length co19, adz_v384) _ ⟨(bR HO385), (bR HO_3), ⟨_, rfl⟩, (z0 HI0.out), z2, (z1 HI0.out)⟩)
       rintro ⟨v384, adz_v384⟩ w19 ⟨h0_, h1_, h2_, h3_, h4_, h5_⟩
       have n0_ : Aside0 (Kd.R Kd.string 9 w19 w.heap.size (fun _ => True) v384 y383) := ⟨h0_⟩
       have n1_ : Aside0 (Kd.R k69 69 w19 w.heap.size (fun _ => True) (.slice Ao12 x3_1.length co12) x3_1) := ⟨h1_⟩
       have n2_ : Aside0 (∃ c_, (v384 : Value) = .slice (some adz_v384) y383.length c_) := ⟨h2_⟩
       have n3_ : Aside0 (IsS107 w0 w19 g s0_0 t390) := ⟨h3_⟩
       have n4_ : Aside0 (KeepBut w w19 g none) := ⟨h4_⟩
       have n5_ : Aside0 (Below w0.heap.size w0 w19) := ⟨h5_⟩
       clear HO_3
       clear HI0
       clear HK
       clear HB
       clear h0_ h1_ h2_ h3_ h4_ h5_
       have HO385 := n0_
       have HO_3 := n1_
       have HA_HO385 := n2_
       have HI0 := n3_
       have HK := n4_
       have HB := n5_
       clear n0_ n1_ n2_ n3_ n4_ n5_
       have hHeld := trivial
       obtain ⟨co20, eo20⟩ := HA_HO385.out
       clear HA_HO385
       subst eo20
       refine norm_ (a' := ?_) ?_ ?_
       rotate_left
       ·simp only [putAll, Act.put, List.setIfInBounds_toArray, List.set_cons_zero, List.set_cons_succ]
        rfl
       refine pa_ (i := 8) (N := some 20) (bsA 12 511) (h := ?_)
       refine one_ (i := 9) (N := some 21) (bsA 12 1023) rfl rfl (one_of HT_.out (by kernel_rfl)) (by decide) (fun K hK => ?_)
       refine value_ (w1 := ?_) (v := ?_) (by rfl) rfl ?_ ?_
       rotate_left 2
       ·go_simp
        constructor
        ·rfl
        ·rfl
       refine hK.out _ _ trivial (fun hHeld => ?_)
       clear hK K
       refine na_ (N := some 21) (h := ?_)
       refine one_ (i := 10) (N := some 22) (bsA 12 2047) rfl rfl (one_of HT_.out (by kernel_rfl)) (by decide) (fun K hK => ?_)
       refine Kd.R_append_step k69 w.heap.size (by rfl) (.tmp 12) (.tmp 21) 44 69 (.agg #[(.string ⟨#[]⟩), (.string ⟨#[]⟩)]) 32 rfl Try.underlying44 info69 rfl (by decide) (by omega) (.slice Ao12 x3_1.length co12) x3_1 (⟨rdOf ByteArray.empty y383 t386, t389⟩ : S69) [.string (rdOf ByteArray.empty y383 t386), .string t389] (fun _ => True) (fun _ => False) rfl rfl ?aP (fun _ hk => hk.elim) ?aF ?aO (Below.refl _ _) ?aS ?aL ?_
       (case aP => exact k69_mkM _ _ _ (⟨rdOf ByteArray.empty y383 t386, t389⟩ : S69))
       (case aF => exact (fun _ _ => trivial))
       (case aO => exact (bR HO_3))
       (case aS => exact z34)
       (case aL => have := LMc11.out; omega)
       intro v392 w21 ho hb hg hat
       rw [← Ny391.out] at ho
       have n0_ := Aside0.mk (IsS107.grown (z0 HI0.out) hg (IsS107.own_ne HI0.out HO_3.out (by decide)))
       have n1_ := Aside0.mk (Kd.R_over' (bR HO385) (Kd.R_typed (bR HO_3)) (by decide) hg)
       have n2_ := Aside0.mk (below_weaken (z1 HI0.out) HL.out hb)
       have n3_ := Aside0.mk (KeepBut.trans z2 (KeepBut.of_grown hg g) (Kd.R_base2 HO_3.out))
       have n4_ := Aside0.mk (ho)
       clear HI0
       clear HO385
       clear HB
       clear HK
       clear HO_3
       have HI0 := n0_
       have HO385 := n1_
       have HB := n2_
       have HK := n3_
       have HO393 := n4_
       clear n0_ n1_ n2_ n3_ n4_
       clear ho hb hg hat
       refine hK.out _ _ trivial (fun hHeld => ?_)
       clear hK K
       refine na_ (N := some 22) (h := ?_)
       refine pa_ (i := 11) (N := some 3) (bsA 12 4095) (h := ?_)
       refine done_ (done_of HT_.out (by kernel_rfl)) ?_
       try go_wp2
       go_roundg k1
       case measure => have := HK1.out; omega
       case rel => exact ⟨(y391), (wrap64 (x4_1 - 1)), (t390), bS, H', ⟨by have := HK1.out; omega⟩, ⟨bR HO393⟩, ⟨z0 HI0.out⟩, ⟨z2⟩, ⟨z1 HI0.out⟩⟩
      ·rw [if_neg c11] at H
       exact absurd H (by simp)
     ·rw [if_neg c9] at H
      exact absurd H (by simp)
    ·rw [if_neg c8] at H
     exact absurd H (by simp)
   ·rw [if_neg c6] at H
    have c6b0 : decide (0 < x4_1) = false := decide_eq_false c6
    clear c6
    simp only [Option.some.injEq, Prod.mk.injEq] at H
    obtain ⟨rfl, rfl⟩ := H
    go_wp2
    go_ret
    exact ⟨_, bE, bR HO_3, z0 HI0.out, z1 HI0.out, z2⟩
def spec_l1Some.l0 : Nat → Int → List Int → List Int → Int → Option (List Int × Int)
 | 0, _, _, _, _ => none
 | k + 1, x1, x5, x1000, x1001 => if x1 > 0 then ((spec_l1Next.f x1000 x1001 256).bind fun bt397 => ((spec_l1Pick.f x1000 bt397.2 (([bt397.1, 97, 32, 10, 61, 122] : List Int))).bind fun bt402 => (if x5.length < 140737488355328 then (spec_l1Some.l0 k (wrap64 (x1 - 1)) (x5 ++ [(bt402.1) % 256]) x1000 bt402.2) else (none)))) else (some (x5, x1001))
def spec_l1Some.f (k : Nat) (s0_0 : List Int) (s0_1 : Int) (a1 : Int) : Option (List Int × Int) := spec_l1Some.l0 k a1 (([] : List Int)) s0_0 s0_1
set_option maxHeartbeats 8000000 in
set_option maxRecDepth 100000 in
theorem spec_l1Some.calls (k : Nat) (g : Nat) (s0_0 : List Int) (s0_1 : Int) (a1 : Int) (r1 : List Int) (r2 : Int) (w0 w : World) (hI : IsS107 w0 w g s0_0 s0_1) (hB : Below w0.heap.size w0 w) (h : spec_l1Some.f k s0_0 s0_1 a1 = some (r1, r2)) :
  Calls Try.prog 90 #[.pointer (some ⟨g, 0, none⟩), .int .i64 a1] w fun e w' => ∃ v0_ : Value, e = .returned (v0_) ∧ Kd.R (Kd.int .u8) 5 w' w.heap.size (fun _ => True) v0_ r1 ∧ IsS107 w0 w' g s0_0 r2 ∧ Below w0.heap.size w0 w' ∧ KeepBut w w' g none := by
 have HI0 := Aside0.mk hI
 have HK := Aside0.mk (KeepBut.refl w g none)
 have HL := Aside0.mk hB.size
 clear hI
 have HW0 := Aside0.mk hB.size
 have HB := Aside0.mk hB
 clear hB
 have H : (spec_l1Some.l0 k a1 (([] : List Int)) s0_0 s0_1) = some (r1, r2) := h
 clear h
 obtain ⟨y394, hy394⟩ : ∃ y_ : List Int, y_ = (([] : List Int)) := ⟨_, rfl⟩
 replace H : (spec_l1Some.l0 k a1 y394 s0_0 s0_1) = some (r1, r2) := z3 hy394
 have Ny394 := Aside0.mk hy394
 clear hy394
 have H' := Aside0.mk H
 clear H
 go_enter Try.func90, Try.ntmps90
 go_wp2_with (first | ((with_reducible refine gate_dst (N := 6) rfl ?_); refine Kd.R_lit (Kd.int .u8) _ 5 ?hg (N := 6) ?hd (xs := ([] : List Int)) (inner := []) (ok := fun _ => True) (okp := fun _ => True) ?hr ?hp (fun _ hk => hk) trivial (Below.refl _ _) (Nat.le_refl _) (by simp) ?_; (case hd => rfl); (case hg => rfl); (case hr => exact z14); (case hp => exact (Reps.none _ _)); intro v395 w3 ho4 hb hg_ hnew_; clear hg_ hnew_; (first | rw [← Ny394.out] at ho4 | (simp only [Int.reduceToNat] at ho4; rw [← Ny394.out] at ho4)); have HO396 := Aside0.mk (Kd.R_lower ho4 (keep_size (w := w) (g := g) (row := none) z2)); replace HK := Aside0.mk (KeepBut.trans z2 (KeepBut.of_below hb g none) (.inl rfl)); replace HB := Aside0.mk (below_step (z1 HI0.out) hb); replace HI0 := Aside0.mk (IsS107.below (z0 HI0.out) hb); clear hb ho4))
 go_loopg [1, 5] k (fun kq v1 v5 w' => ∃ (x1_1 : Int) (x5_1 : List Int) (x1001_1 : Int), v1 = .int .i64 x1_1 ∧ Aside0 (spec_l1Some.l0 kq x1_1 x5_1 s0_0 x1001_1 = some (r1, r2)) ∧ Aside0 (kq ≤ k) ∧ Aside0 (Kd.R (Kd.int .u8) 5 w' w.heap.size (fun _ => True) v5 x5_1) ∧ Aside0 (IsS107 w0 w' g s0_0 x1001_1) ∧ Aside0 (KeepBut w w' g none) ∧ Aside0 (Below w0.heap.size w0 w'))
 case atStart => exact ⟨(a1), (y394), (s0_1), bS, H', ⟨Nat.le_refl _⟩, ⟨bR HO396⟩, ⟨z0 HI0.out⟩, ⟨z2⟩, ⟨z1 HI0.out⟩⟩
 case round =>
  clear H'
  try clear p2
  obtain ⟨x1_1, x5_1, x1001_1, rfl, HA, HK1, HO_5, HI0, HK, HB⟩ := hrel
  cases gk with
  | zero => exact absurd HA.out (by simp [spec_l1Some.l0])
  | succ k1 =>
   have H := HA.out
   clear HA
   simp only [spec_l1Some.l0] at H
   by_cases c5 : x1_1 > 0
   ·rw [if_pos c5] at H
    have c5b0 : decide (0 < x1_1) = true := decide_eq_true c5
    clear c5
    replace H := Option.bind_eq_some_iff.mp H
    obtain ⟨⟨t397, t398⟩, A60, H⟩ := H
    replace H : ((spec_l1Pick.f s0_0 t398 (([t397, 97, 32, 10, 61, 122] : List Int))).bind fun bt402 => (if x5_1.length < 140737488355328 then (spec_l1Some.l0 k1 (wrap64 (x1_1 - 1)) (x5_1 ++ [(bt402.1) % 256]) s0_0 bt402.2) else (none))) = some (r1, r2) := H
    have A6 := Aside0.mk A60
    clear A60
    obtain ⟨y399, hy399⟩ : ∃ y_ : List Int, y_ = (([t397, 97, 32, 10, 61, 122] : List Int)) := ⟨_, rfl⟩
    replace H : ((spec_l1Pick.f s0_0 t398 y399).bind fun bt402 => (if x5_1.length < 140737488355328 then (spec_l1Some.l0 k1 (wrap64 (x1_1 - 1)) (x5_1 ++ [(bt402.1) % 256]) s0_0 bt402.2) else (none))) = some (r1, r2) := z3 hy399
    have Ny399 := Aside0.mk hy399
    clear hy399
    replace H := Option.bind_eq_some_iff.mp H
    obtain ⟨⟨t402, t403⟩, A70, H⟩ := H
    replace H : (if x5_1.length < 140737488355328 then (spec_l1Some.l0 k1 (wrap64 (x1_1 - 1)) (x5_1 ++ [(t402) % 256]) s0_0 t403) else (none)) = some (r1, r2) := H
    have A7 := Aside0.mk A70
    clear A70
    by_cases c8 : x5_1.length < 140737488355328
    ·rw [if_pos c8] at H
     have LMc8 := Aside0.mk c8
     clear c8
     obtain ⟨y404, hy404⟩ : ∃ y_ : List Int, y_ = (x5_1 ++ [(t402) % 256]) := ⟨_, rfl⟩
     replace H : (spec_l1Some.l0 k1 (wrap64 (x1_1 - 1)) y404 s0_0 t403) = some (r1, r2) := z3 hy404
     have Ny404 := Aside0.mk hy404
     clear hy404
     have H' := Aside0.mk H
     clear H
     go_wp2_with (first | ((with_reducible refine gate_callee (f := 91) rfl ?_); refine goesL_ (some 14) rfl rfl Try.func91 (by kernel_rfl) rfl #[.pointer (some ⟨g, 0, none⟩), .int .i64 256] rfl bM ?_; (with_reducible refine (spec_l1Next.calls g s0_0 x1001_1 256 t397 t398 w0 _ ?side1 ?side2 A6.out).mono ?_); (case side1 => exact z0 HI0.out); (case side2 => exact z1 HI0.out); rintro e w9 ⟨rfl, hi, hb, hk⟩; refine ⟨_, rfl, ?_⟩; replace HO_5 := Aside0.mk (Kd.R_mono (Kd.R_keep (IsS107.apart (show IsS107 w0 _ g s0_0 x1001_1 from z0 HI0.out) (bR HO_5) (by decide)) hk (fun _ h => h.2)) (fun _ h => h.1)); replace HK := Aside0.mk (KeepBut.trans z2 hk (.inl rfl)); replace HB := Aside0.mk (hb); replace HI0 := Aside0.mk (hi); (try clear hi)) | ((with_reducible refine gate_dst (N := 15) rfl ?_); refine Kd.R_lit (Kd.int .i64) _ 2 ?hg (N := 15) ?hd (xs := ([t397, 97, 32, 10, 61, 122] : List Int)) (inner := [.int .i64 t397, .int .i64 97, .int .i64 32, .int .i64 10, .int .i64 61, .int .i64 122]) (ok := fun _ => True) (okp := fun _ => True) ?hr ?hp (fun _ hk => hk) trivial (Below.refl _ _) (Nat.le_refl _) (by simp) ?_; (case hd => rfl); (case hg => rfl); (case hr => exact z14); (case hp => exact (Reps.one (show Kd.M (Kd.int .i64) _ _ _ t397 [.int .i64 t397] from rfl) (Reps.one (show Kd.M (Kd.int .i64) _ _ _ 97 [.int .i64 97] from rfl) (Reps.one (show Kd.M (Kd.int .i64) _ _ _ 32 [.int .i64 32] from rfl) (Reps.one (show Kd.M (Kd.int .i64) _ _ _ 10 [.int .i64 10] from rfl) (Reps.one (show Kd.M (Kd.int .i64) _ _ _ 61 [.int .i64 61] from rfl) (Reps.one (show Kd.M (Kd.int .i64) _ _ _ 122 [.int .i64 122] from rfl) (Reps.none _ _)))))))); intro v400 w10 ho11 hb hg_ hnew_; clear hg_ hnew_; (first | rw [← Ny399.out] at ho11 | (simp only [Int.reduceToNat] at ho11; rw [← Ny399.out] at ho11)); replace HO_5 := Aside0.mk (Kd.R_below (bR HO_5) hb); have HO401 := Aside0.mk (Kd.R_lower ho11 (keep_size (w := w) (g := g) (row := none) z2)); replace HK := Aside0.mk (KeepBut.trans z2 (KeepBut.of_below hb g none) (.inl rfl)); replace HB := Aside0.mk (below_step (z1 HI0.out) hb); replace HI0 := Aside0.mk (IsS107.below (z0 HI0.out) hb); clear hb ho11; obtain ⟨Ao12, co12, eo12⟩ := Kd.R_slice HO401.out; subst eo12) | ((with_reducible refine gate_callee (f := 69) rfl ?_); refine goesL_ (some 16) rfl rfl Try.func69 (by kernel_rfl) rfl #[.pointer (some ⟨g, 0, none⟩), .slice Ao12 y399.length co12] rfl bM ?_; (with_reducible refine (spec_l1Pick.calls g s0_0 t398 _ _ y399 t402 t403 w0 _ ?side1 ?side2 ?side3 ?side4 ?side5 A7.out).mono ?_); (case side1 => exact z0 HI0.out); (case side2 => exact z1 HI0.out); (case side3 => exact z5 HO401.out); (case side4 => exact (Kd.R_reads' HO401.out).2.1); (case side5 => exact far_slice (IsS107.own_ne HI0.out HO401.out (by decide))); rintro e w13 ⟨rfl, hi, hb, hk⟩; refine ⟨_, rfl, ?_⟩; replace HO_5 := Aside0.mk (Kd.R_mono (Kd.R_keep (IsS107.apart (show IsS107 w0 _ g s0_0 t398 from z0 HI0.out) (bR HO_5) (by decide)) hk (fun _ h => h.2)) (fun _ h => h.1)); replace HO401 := Aside0.mk (Kd.R_mono (Kd.R_keep (IsS107.apart (show IsS107 w0 _ g s0_0 t398 from z0 HI0.out) (bR HO401) (by decide)) hk (fun _ h => h.2)) (fun _ h => h.1)); replace HK := Aside0.mk (KeepBut.trans z2 hk (.inl rfl)); replace HB := Aside0.mk (hb); replace HI0 := Aside0.mk (hi); (try clear hi)) | ((with_reducible refine gate_builtin (b := .append) (xs := #[.tmp 11, .tmp 18]) rfl ?_); at_builtin; refine Kd.R_append (Kd.int .u8) w.heap.size rfl (.tmp 11) (.tmp 18) 22 5 (.int .u8 0) 1 rfl Try.underlying22 info5 rfl (by decide) (by omega) u5 x5_1 ((t402) % 256) [.int .u8 ((t402) % 256)] (fun _ => True) (fun _ => False) rfl rfl ?aP (fun _ hk => hk.elim) ?aF ?aO (Below.refl _ _) ?aS ?aL ?_; (case aP => exact rfl); (case aF => exact (fun _ _ => trivial)); (case aO => exact (bR HO_5)); (case aS => exact z34); (case aL => have := LMc8.out; omega); intro v405 w14 ho hb hg hat; rw [← Ny404.out] at ho; have n0_ := Aside0.mk (IsS107.grown (z0 HI0.out) hg (IsS107.own_ne HI0.out HO_5.out (by decide))); have n1_ := Aside0.mk (Kd.R_over' (bR HO401) (Kd.R_typed (bR HO_5)) (by decide) hg); have n2_ := Aside0.mk (below_weaken (z1 HI0.out) HL.out hb); have n3_ := Aside0.mk (KeepBut.trans z2 (KeepBut.of_grown hg g) (Kd.R_base2 HO_5.out)); have n4_ := Aside0.mk (ho); clear HI0; clear HO401; clear HB; clear HK; clear HO_5; have HI0 := n0_; have HO401 := n1_; have HB := n2_; have HK := n3_; have HO406 := n4_; clear n0_ n1_ n2_ n3_ n4_; clear ho hb hg hat))
     go_roundg k1
     case measure => have := HK1.out; omega
     case rel => exact ⟨(wrap64 (x1_1 - 1)), (y404), (t403), bS, H', ⟨by have := HK1.out; omega⟩, ⟨bR HO406⟩, ⟨z0 HI0.out⟩, ⟨z2⟩, ⟨z1 HI0.out⟩⟩
    ·rw [if_neg c8] at H
     exact absurd H (by simp)
   ·rw [if_neg c5] at H
    have c5b0 : decide (0 < x1_1) = false := decide_eq_false c5
    clear c5
    simp only [Option.some.injEq, Prod.mk.injEq] at H
    obtain ⟨rfl, rfl⟩ := H
    go_wp2
    go_ret
    exact ⟨_, bE, bR HO_5, z0 HI0.out, z1 HI0.out, z2⟩
def spec_DrawParseHeader.f (k : Nat) (l0 : List Int) : Option (List Int) := (spec_l1Source.f l0).bind fun bt407 => ((spec_l4Right.f k bt407.1 bt407.2).bind fun bt410 => ((spec_l4Pack.f k bt410.1).bind fun t414 => ((spec_l1Next.f bt407.1 bt410.2 6).bind fun bt417 => ((spec_l1Some.f k bt407.1 bt417.2 bt417.1).bind fun bt419 => (if t414.length + bt419.1.length < 140737488355328 then ((some (t414 ++ bt419.1 : List Int)).bind fun y423 => ((spec_l1Next.f bt407.1 bt419.2 6).bind fun bt426 => (if bt426.1 = 0 then ((spec_l1Next.f bt407.1 bt426.2 (y423.length : Int)).bind fun bt428 => ((spec_l1Pick.f bt407.1 bt428.2 (([10, 58, 32, 127, 97] : List Int))).bind fun bt433 => (if 0 ≤ bt428.1 then (if bt428.1 < (y423.length : Int) then (some (y423.set (bt428.1 : Int).toNat ((bt433.1) % 256))) else (none)) else (none)))) else (if bt426.1 = 1 then ((spec_l1Next.f bt407.1 bt426.2 (y423.length : Int)).bind fun bt436 => (if 0 ≤ bt436.1 then (if bt436.1 ≤ (y423.length : Int) then (some (y423.take (bt436.1 : Int).toNat)) else (none)) else (none))) else (if bt426.1 = 2 then ((some (([(⟨#[32, 120, 10]⟩ : ByteArray), (⟨#[65, 58, 32, 98, 10, 32, 99, 10, 9, 100, 10]⟩ : ByteArray), (⟨#[97, 98, 99, 10]⟩ : ByteArray), (⟨#[10]⟩ : ByteArray)] : List ByteArray) : List ByteArray)).bind fun y441 => ((spec_l1Next.f bt407.1 bt426.2 4).bind fun bt444 => (if 0 ≤ bt444.1 then (if bt444.1 < (y441.length : Int) then (if (rdOf ByteArray.empty y441 bt444.1).size ≤ 281474976710656 then ((some (bytesOf (rdOf ByteArray.empty y441 bt444.1) : List Int)).bind fun y447 => (if y447.length + y423.length < 140737488355328 then (some (y447 ++ y423)) else (none))) else (none)) else (none)) else (none)))) else (some y423)))))) else (none))))))
set_option maxHeartbeats 8000000 in
set_option maxRecDepth 100000 in
theorem spec_DrawParseHeader.calls (k : Nat) (A0 : Option Addr) (c0 : Nat) (l0 : List Int) (r : List Int) (w : World) (hr0 : Kd.C (Kd.int .u8) w A0 l0.length l0) (hc0 : l0.length ≤ c0) (h : spec_DrawParseHeader.f k l0 = some r) :
  Calls Try.prog 49 #[.slice A0 l0.length c0] w fun e w' => ∃ v0_ : Value, e = .returned (v0_) ∧ Kd.R (Kd.int .u8) 5 w' w.heap.size (fun _ => True) v0_ r ∧ Below w.heap.size w w' := by
 have HR0 := Aside0.mk hr0
 have HC0 := Aside0.mk hc0
 clear hr0 hc0
 have HB := Aside0.mk (Below.refl w.heap.size w)
 have H : ((spec_l1Source.f l0).bind fun bt407 => ((spec_l4Right.f k bt407.1 bt407.2).bind fun bt410 => ((spec_l4Pack.f k bt410.1).bind fun t414 => ((spec_l1Next.f bt407.1 bt410.2 6).bind fun bt417 => ((spec_l1Some.f k bt407.1 bt417.2 bt417.1).bind fun bt419 => (if t414.length + bt419.1.length < 140737488355328 then ((some (t414 ++ bt419.1 : List Int)).bind fun y423 => ((spec_l1Next.f bt407.1 bt419.2 6).bind fun bt426 => (if bt426.1 = 0 then ((spec_l1Next.f bt407.1 bt426.2 (y423.length : Int)).bind fun bt428 => ((spec_l1Pick.f bt407.1 bt428.2 (([10, 58, 32, 127, 97] : List Int))).bind fun bt433 => (if 0 ≤ bt428.1 then (if bt428.1 < (y423.length : Int) then (some (y423.set (bt428.1 : Int).toNat ((bt433.1) % 256))) else (none)) else (none)))) else (if bt426.1 = 1 then ((spec_l1Next.f bt407.1 bt426.2 (y423.length : Int)).bind fun bt436 => (if 0 ≤ bt436.1 then (if bt436.1 ≤ (y423.length : Int) then (some (y423.take (bt436.1 : Int).toNat)) else (none)) else (none))) else (if bt426.1 = 2 then ((some (([(⟨#[32, 120, 10]⟩ : ByteArray), (⟨#[65, 58, 32, 98, 10, 32, 99, 10, 9, 100, 10]⟩ : ByteArray), (⟨#[97, 98, 99, 10]⟩ : ByteArray), (⟨#[10]⟩ : ByteArray)] : List ByteArray) : List ByteArray)).bind fun y441 => ((spec_l1Next.f bt407.1 bt426.2 4).bind fun bt444 => (if 0 ≤ bt444.1 then (if bt444.1 < (y441.length : Int) then (if (rdOf ByteArray.empty y441 bt444.1).size ≤ 281474976710656 then ((some (bytesOf (rdOf ByteArray.empty y441 bt444.1) : List Int)).bind fun y447 => (if y447.length + y423.length < 140737488355328 then (some (y447 ++ y423)) else (none))) else (none)) else (none)) else (none)))) else (some y423)))))) else (none))))))) = some r := h
 clear h
 replace H := Option.bind_eq_some_iff.mp H
 obtain ⟨⟨t407, t408⟩, A20, H⟩ := H
 replace H : ((spec_l4Right.f k t407 t408).bind fun bt410 => ((spec_l4Pack.f k bt410.1).bind fun t414 => ((spec_l1Next.f t407 bt410.2 6).bind fun bt417 => ((spec_l1Some.f k t407 bt417.2 bt417.1).bind fun bt419 => (if t414.length + bt419.1.length < 140737488355328 then ((some (t414 ++ bt419.1 : List Int)).bind fun y423 => ((spec_l1Next.f t407 bt419.2 6).bind fun bt426 => (if bt426.1 = 0 then ((spec_l1Next.f t407 bt426.2 (y423.length : Int)).bind fun bt428 => ((spec_l1Pick.f t407 bt428.2 (([10, 58, 32, 127, 97] : List Int))).bind fun bt433 => (if 0 ≤ bt428.1 then (if bt428.1 < (y423.length : Int) then (some (y423.set (bt428.1 : Int).toNat ((bt433.1) % 256))) else (none)) else (none)))) else (if bt426.1 = 1 then ((spec_l1Next.f t407 bt426.2 (y423.length : Int)).bind fun bt436 => (if 0 ≤ bt436.1 then (if bt436.1 ≤ (y423.length : Int) then (some (y423.take (bt436.1 : Int).toNat)) else (none)) else (none))) else (if bt426.1 = 2 then ((some (([(⟨#[32, 120, 10]⟩ : ByteArray), (⟨#[65, 58, 32, 98, 10, 32, 99, 10, 9, 100, 10]⟩ : ByteArray), (⟨#[97, 98, 99, 10]⟩ : ByteArray), (⟨#[10]⟩ : ByteArray)] : List ByteArray) : List ByteArray)).bind fun y441 => ((spec_l1Next.f t407 bt426.2 4).bind fun bt444 => (if 0 ≤ bt444.1 then (if bt444.1 < (y441.length : Int) then (if (rdOf ByteArray.empty y441 bt444.1).size ≤ 281474976710656 then ((some (bytesOf (rdOf ByteArray.empty y441 bt444.1) : List Int)).bind fun y447 => (if y447.length + y423.length < 140737488355328 then (some (y447 ++ y423)) else (none))) else (none)) else (none)) else (none)))) else (some y423)))))) else (none)))))) = some r := H
 have A2 := Aside0.mk A20
 clear A20
 replace H := Option.bind_eq_some_iff.mp H
 obtain ⟨⟨t410, t413⟩, A30, H⟩ := H
 replace H : ((spec_l4Pack.f k t410).bind fun t414 => ((spec_l1Next.f t407 t413 6).bind fun bt417 => ((spec_l1Some.f k t407 bt417.2 bt417.1).bind fun bt419 => (if t414.length + bt419.1.length < 140737488355328 then ((some (t414 ++ bt419.1 : List Int)).bind fun y423 => ((spec_l1Next.f t407 bt419.2 6).bind fun bt426 => (if bt426.1 = 0 then ((spec_l1Next.f t407 bt426.2 (y423.length : Int)).bind fun bt428 => ((spec_l1Pick.f t407 bt428.2 (([10, 58, 32, 127, 97] : List Int))).bind fun bt433 => (if 0 ≤ bt428.1 then (if bt428.1 < (y423.length : Int) then (some (y423.set (bt428.1 : Int).toNat ((bt433.1) % 256))) else (none)) else (none)))) else (if bt426.1 = 1 then ((spec_l1Next.f t407 bt426.2 (y423.length : Int)).bind fun bt436 => (if 0 ≤ bt436.1 then (if bt436.1 ≤ (y423.length : Int) then (some (y423.take (bt436.1 : Int).toNat)) else (none)) else (none))) else (if bt426.1 = 2 then ((some (([(⟨#[32, 120, 10]⟩ : ByteArray), (⟨#[65, 58, 32, 98, 10, 32, 99, 10, 9, 100, 10]⟩ : ByteArray), (⟨#[97, 98, 99, 10]⟩ : ByteArray), (⟨#[10]⟩ : ByteArray)] : List ByteArray) : List ByteArray)).bind fun y441 => ((spec_l1Next.f t407 bt426.2 4).bind fun bt444 => (if 0 ≤ bt444.1 then (if bt444.1 < (y441.length : Int) then (if (rdOf ByteArray.empty y441 bt444.1).size ≤ 281474976710656 then ((some (bytesOf (rdOf ByteArray.empty y441 bt444.1) : List Int)).bind fun y447 => (if y447.length + y423.length < 140737488355328 then (some (y447 ++ y423)) else (none))) else (none)) else (none)) else (none)))) else (some y423)))))) else (none))))) = some r := H
 have A3 := Aside0.mk A30
 clear A30
 replace H := Option.bind_eq_some_iff.mp H
 obtain ⟨t414, A40, H⟩ := H
 replace H : ((spec_l1Next.f t407 t413 6).bind fun bt417 => ((spec_l1Some.f k t407 bt417.2 bt417.1).bind fun bt419 => (if t414.length + bt419.1.length < 140737488355328 then ((some (t414 ++ bt419.1 : List Int)).bind fun y423 => ((spec_l1Next.f t407 bt419.2 6).bind fun bt426 => (if bt426.1 = 0 then ((spec_l1Next.f t407 bt426.2 (y423.length : Int)).bind fun bt428 => ((spec_l1Pick.f t407 bt428.2 (([10, 58, 32, 127, 97] : List Int))).bind fun bt433 => (if 0 ≤ bt428.1 then (if bt428.1 < (y423.length : Int) then (some (y423.set (bt428.1 : Int).toNat ((bt433.1) % 256))) else (none)) else (none)))) else (if bt426.1 = 1 then ((spec_l1Next.f t407 bt426.2 (y423.length : Int)).bind fun bt436 => (if 0 ≤ bt436.1 then (if bt436.1 ≤ (y423.length : Int) then (some (y423.take (bt436.1 : Int).toNat)) else (none)) else (none))) else (if bt426.1 = 2 then ((some (([(⟨#[32, 120, 10]⟩ : ByteArray), (⟨#[65, 58, 32, 98, 10, 32, 99, 10, 9, 100, 10]⟩ : ByteArray), (⟨#[97, 98, 99, 10]⟩ : ByteArray), (⟨#[10]⟩ : ByteArray)] : List ByteArray) : List ByteArray)).bind fun y441 => ((spec_l1Next.f t407 bt426.2 4).bind fun bt444 => (if 0 ≤ bt444.1 then (if bt444.1 < (y441.length : Int) then (if (rdOf ByteArray.empty y441 bt444.1).size ≤ 281474976710656 then ((some (bytesOf (rdOf ByteArray.empty y441 bt444.1) : List Int)).bind fun y447 => (if y447.length + y423.length < 140737488355328 then (some (y447 ++ y423)) else (none))) else (none)) else (none)) else (none)))) else (some y423)))))) else (none)))) = some r := H
 have A4 := Aside0.mk A40
 clear A40
 replace H := Option.bind_eq_some_iff.mp H
 obtain ⟨⟨t417, t418⟩, A50, H⟩ := H
 replace H : ((spec_l1Some.f k t407 t418 t417).bind fun bt419 => (if t414.length + bt419.1.length < 140737488355328 then ((some (t414 ++ bt419.1 : List Int)).bind fun y423 => ((spec_l1Next.f t407 bt419.2 6).bind fun bt426 => (if bt426.1 = 0 then ((spec_l1Next.f t407 bt426.2 (y423.length : Int)).bind fun bt428 => ((spec_l1Pick.f t407 bt428.2 (([10, 58, 32, 127, 97] : List Int))).bind fun bt433 => (if 0 ≤ bt428.1 then (if bt428.1 < (y423.length : Int) then (some (y423.set (bt428.1 : Int).toNat ((bt433.1) % 256))) else (none)) else (none)))) else (if bt426.1 = 1 then ((spec_l1Next.f t407 bt426.2 (y423.length : Int)).bind fun bt436 => (if 0 ≤ bt436.1 then (if bt436.1 ≤ (y423.length : Int) then (some (y423.take (bt436.1 : Int).toNat)) else (none)) else (none))) else (if bt426.1 = 2 then ((some (([(⟨#[32, 120, 10]⟩ : ByteArray), (⟨#[65, 58, 32, 98, 10, 32, 99, 10, 9, 100, 10]⟩ : ByteArray), (⟨#[97, 98, 99, 10]⟩ : ByteArray), (⟨#[10]⟩ : ByteArray)] : List ByteArray) : List ByteArray)).bind fun y441 => ((spec_l1Next.f t407 bt426.2 4).bind fun bt444 => (if 0 ≤ bt444.1 then (if bt444.1 < (y441.length : Int) then (if (rdOf ByteArray.empty y441 bt444.1).size ≤ 281474976710656 then ((some (bytesOf (rdOf ByteArray.empty y441 bt444.1) : List Int)).bind fun y447 => (if y447.length + y423.length < 140737488355328 then (some (y447 ++ y423)) else (none))) else (none)) else (none)) else (none)))) else (some y423)))))) else (none))) = some r := H
 have A5 := Aside0.mk A50
 clear A50
 replace H := Option.bind_eq_some_iff.mp H
 obtain ⟨⟨t419, t422⟩, A60, H⟩ := H
 replace H : (if t414.length + t419.length < 140737488355328 then ((some (t414 ++ t419 : List Int)).bind fun y423 => ((spec_l1Next.f t407 t422 6).bind fun bt426 => (if bt426.1 = 0 then ((spec_l1Next.f t407 bt426.2 (y423.length : Int)).bind fun bt428 => ((spec_l1Pick.f t407 bt428.2 (([10, 58, 32, 127, 97] : List Int))).bind fun bt433 => (if 0 ≤ bt428.1 then (if bt428.1 < (y423.length : Int) then (some (y423.set (bt428.1 : Int).toNat ((bt433.1) % 256))) else (none)) else (none)))) else (if bt426.1 = 1 then ((spec_l1Next.f t407 bt426.2 (y423.length : Int)).bind fun bt436 => (if 0 ≤ bt436.1 then (if bt436.1 ≤ (y423.length : Int) then (some (y423.take (bt436.1 : Int).toNat)) else (none)) else (none))) else (if bt426.1 = 2 then ((some (([(⟨#[32, 120, 10]⟩ : ByteArray), (⟨#[65, 58, 32, 98, 10, 32, 99, 10, 9, 100, 10]⟩ : ByteArray), (⟨#[97, 98, 99, 10]⟩ : ByteArray), (⟨#[10]⟩ : ByteArray)] : List ByteArray) : List ByteArray)).bind fun y441 => ((spec_l1Next.f t407 bt426.2 4).bind fun bt444 => (if 0 ≤ bt444.1 then (if bt444.1 < (y441.length : Int) then (if (rdOf ByteArray.empty y441 bt444.1).size ≤ 281474976710656 then ((some (bytesOf (rdOf ByteArray.empty y441 bt444.1) : List Int)).bind fun y447 => (if y447.length + y423.length < 140737488355328 then (some (y447 ++ y423)) else (none))) else (none)) else (none)) else (none)))) else (some y423)))))) else (none)) = some r := H
 have A6 := Aside0.mk A60
 clear A60
 by_cases c7 : t414.length + t419.length < 140737488355328
 ·rw [if_pos c7] at H
  have LMc7 := Aside0.mk c7
  clear c7
  obtain ⟨y423, hy423⟩ : ∃ y_ : List Int, y_ = (t414 ++ t419) := ⟨_, rfl⟩
  replace H : ((spec_l1Next.f t407 t422 6).bind fun bt426 => (if bt426.1 = 0 then ((spec_l1Next.f t407 bt426.2 (y423.length : Int)).bind fun bt428 => ((spec_l1Pick.f t407 bt428.2 (([10, 58, 32, 127, 97] : List Int))).bind fun bt433 => (if 0 ≤ bt428.1 then (if bt428.1 < (y423.length : Int) then (some (y423.set (bt428.1 : Int).toNat ((bt433.1) % 256))) else (none)) else (none)))) else (if bt426.1 = 1 then ((spec_l1Next.f t407 bt426.2 (y423.length : Int)).bind fun bt436 => (if 0 ≤ bt436.1 then (if bt436.1 ≤ (y423.length : Int) then (some (y423.take (bt436.1 : Int).toNat)) else (none)) else (none))) else (if bt426.1 = 2 then ((some (([(⟨#[32, 120, 10]⟩ : ByteArray), (⟨#[65, 58, 32, 98, 10, 32, 99, 10, 9, 100, 10]⟩ : ByteArray), (⟨#[97, 98, 99, 10]⟩ : ByteArray), (⟨#[10]⟩ : ByteArray)] : List ByteArray) : List ByteArray)).bind fun y441 => ((spec_l1Next.f t407 bt426.2 4).bind fun bt444 => (if 0 ≤ bt444.1 then (if bt444.1 < (y441.length : Int) then (if (rdOf ByteArray.empty y441 bt444.1).size ≤ 281474976710656 then ((some (bytesOf (rdOf ByteArray.empty y441 bt444.1) : List Int)).bind fun y447 => (if y447.length + y423.length < 140737488355328 then (some (y447 ++ y423)) else (none))) else (none)) else (none)) else (none)))) else (some y423))))) = some r := z3 hy423
  have Ny423 := Aside0.mk hy423
  clear hy423
  replace H := Option.bind_eq_some_iff.mp H
  obtain ⟨⟨t426, t427⟩, A80, H⟩ := H
  replace H : (if t426 = 0 then ((spec_l1Next.f t407 t427 (y423.length : Int)).bind fun bt428 => ((spec_l1Pick.f t407 bt428.2 (([10, 58, 32, 127, 97] : List Int))).bind fun bt433 => (if 0 ≤ bt428.1 then (if bt428.1 < (y423.length : Int) then (some (y423.set (bt428.1 : Int).toNat ((bt433.1) % 256))) else (none)) else (none)))) else (if t426 = 1 then ((spec_l1Next.f t407 t427 (y423.length : Int)).bind fun bt436 => (if 0 ≤ bt436.1 then (if bt436.1 ≤ (y423.length : Int) then (some (y423.take (bt436.1 : Int).toNat)) else (none)) else (none))) else (if t426 = 2 then ((some (([(⟨#[32, 120, 10]⟩ : ByteArray), (⟨#[65, 58, 32, 98, 10, 32, 99, 10, 9, 100, 10]⟩ : ByteArray), (⟨#[97, 98, 99, 10]⟩ : ByteArray), (⟨#[10]⟩ : ByteArray)] : List ByteArray) : List ByteArray)).bind fun y441 => ((spec_l1Next.f t407 t427 4).bind fun bt444 => (if 0 ≤ bt444.1 then (if bt444.1 < (y441.length : Int) then (if (rdOf ByteArray.empty y441 bt444.1).size ≤ 281474976710656 then ((some (bytesOf (rdOf ByteArray.empty y441 bt444.1) : List Int)).bind fun y447 => (if y447.length + y423.length < 140737488355328 then (some (y447 ++ y423)) else (none))) else (none)) else (none)) else (none)))) else (some y423)))) = some r := H
  have A8 := Aside0.mk A80
  clear A80
  have HQ_ := Aside0.mk H
  clear H
  go_enter Try.func49, Try.ntmps49
  have H := HQ_.out
  clear HQ_
  by_cases c9 : t426 = 0
  ·rw [if_pos c9] at H
   have c9b0 : (t426 == 0) = true := beq_iff_eq.mpr c9
   have c9b1 : (t426 != 0) = false := bne_eq_false_iff_eq.mpr c9
   clear c9
   replace H := Option.bind_eq_some_iff.mp H
   obtain ⟨⟨t428, t429⟩, A100, H⟩ := H
   replace H : ((spec_l1Pick.f t407 t429 (([10, 58, 32, 127, 97] : List Int))).bind fun bt433 => (if 0 ≤ t428 then (if t428 < (y423.length : Int) then (some (y423.set (t428 : Int).toNat ((bt433.1) % 256))) else (none)) else (none))) = some r := H
   have A10 := Aside0.mk A100
   clear A100
   obtain ⟨y430, hy430⟩ : ∃ y_ : List Int, y_ = (([10, 58, 32, 127, 97] : List Int)) := ⟨_, rfl⟩
   replace H : ((spec_l1Pick.f t407 t429 y430).bind fun bt433 => (if 0 ≤ t428 then (if t428 < (y423.length : Int) then (some (y423.set (t428 : Int).toNat ((bt433.1) % 256))) else (none)) else (none))) = some r := z3 hy430
   have Ny430 := Aside0.mk hy430
   clear hy430
   replace H := Option.bind_eq_some_iff.mp H
   obtain ⟨⟨t433, t434⟩, A110, H⟩ := H
   replace H : (if 0 ≤ t428 then (if t428 < (y423.length : Int) then (some (y423.set (t428 : Int).toNat ((t433) % 256))) else (none)) else (none)) = some r := H
   have A11 := Aside0.mk A110
   clear A110
   (try simp only [c9b0, c9b1])
   by_cases c12 : 0 ≤ t428
   ·rw [if_pos c12] at H
    have c12b0 : decide (0 ≤ t428) = true := decide_eq_true c12
    clear c12
    by_cases c13 : t428 < (y423.length : Int)
    ·rw [if_pos c13] at H
     have c13b0 : decide (t428 < (y423.length : Int)) = true := decide_eq_true c13
     clear c13
     obtain ⟨y435, hy435⟩ : ∃ y_ : List Int, y_ = (y423.set (t428 : Int).toNat ((t433) % 256)) := ⟨_, rfl⟩
     replace H : (some y435) = some r := z3 hy435
     have Ny435 := Aside0.mk hy435
     clear hy435
     obtain rfl := Option.some.inj H
     go_wp2_with (first | ((with_reducible refine gate_callee (f := 52) rfl ?_); refine goesL_ (some 6) rfl rfl Try.func52 (by kernel_rfl) rfl #[.slice A0 l0.length c0] rfl bM ?_; (with_reducible refine (spec_l1Source.calls _ _ l0 t407 t408 w _ ?side1 ?side2 ?side3 A2.out).mono ?_); (case side1 => exact z36); (case side2 => exact HR0.out); (case side3 => exact HC0.out); rintro e w15 ⟨g409, rfl, hi, hb, hb2⟩; refine ⟨_, rfl, ?_⟩; replace HB := Aside0.mk (hb); have HI409 := Aside0.mk (hi); (try clear hi)) | ((with_reducible refine gate_callee (f := 89) rfl ?_); refine goesL_ (some 8) rfl rfl Try.func89 (by kernel_rfl) rfl #[.pointer (some ⟨g409, 0, none⟩)] rfl bM ?_; (with_reducible refine (spec_l4Right.calls k g409 t407 t408 t410 t413 w _ ?side1 ?side2 A3.out).mono ?_); (case side1 => exact z0 HI409.out); (case side2 => exact z1 HI409.out); rintro e w16 ⟨v411, rfl, ho0, hi, hb, hk⟩; refine ⟨_, rfl, ?_⟩; have HO412 := Aside0.mk (Kd.R_lower ho0 (below_size (z1 HI409.out))); replace HB := Aside0.mk (hb); replace HI409 := Aside0.mk (hi); (try clear ho0); obtain ⟨Ao17, co17, eo17⟩ := Kd.R_slice HO412.out; subst eo17) | ((with_reducible refine gate_callee (f := 80) rfl ?_); refine goesL_ (some 9) rfl rfl Try.func80 (by kernel_rfl) rfl #[.slice Ao17 t410.length co17] rfl bM ?_; (with_reducible refine (spec_l4Pack.calls k _ _ t410 t414 _ ?side1 ?side2 A4.out).mono ?_); (case side1 => exact z5 HO412.out); (case side2 => exact (Kd.R_reads' HO412.out).2.1); rintro e w18 ⟨v415, rfl, ho0, hb⟩; refine ⟨_, rfl, ?_⟩; replace HO412 := Aside0.mk (Kd.R_below (bR HO412) hb); have HO416 := Aside0.mk (Kd.R_lower ho0 (below_size (z1 HI409.out))); replace HB := Aside0.mk (below_step (z1 HI409.out) hb); replace HI409 := Aside0.mk (IsS107.below (z0 HI409.out) hb); (try clear ho0)) | ((with_reducible refine gate_callee (f := 91) rfl ?_); refine goesL_ (some 12) rfl rfl Try.func91 (by kernel_rfl) rfl #[.pointer (some ⟨g409, 0, none⟩), .int .i64 6] rfl bM ?_; (with_reducible refine (spec_l1Next.calls g409 t407 t413 6 t417 t418 w _ ?side1 ?side2 A5.out).mono ?_); (case side1 => exact z0 HI409.out); (case side2 => exact z1 HI409.out); rintro e w19 ⟨rfl, hi, hb, hk⟩; refine ⟨_, rfl, ?_⟩; replace HO412 := Aside0.mk (Kd.R_mono (Kd.R_keep (IsS107.apart (show IsS107 w _ g409 t407 t413 from z0 HI409.out) (bR HO412) (by decide)) hk (fun _ h => h.2)) (fun _ h => h.1)); replace HO416 := Aside0.mk (Kd.R_mono (Kd.R_keep (IsS107.apart (show IsS107 w _ g409 t407 t413 from z0 HI409.out) (bR HO416) (by decide)) hk (fun _ h => h.2)) (fun _ h => h.1)); replace HB := Aside0.mk (hb); replace HI409 := Aside0.mk (hi); (try clear hi)) | ((with_reducible refine gate_callee (f := 90) rfl ?_); refine goesL_ (some 13) rfl rfl Try.func90 (by kernel_rfl) rfl #[.pointer (some ⟨g409, 0, none⟩), .int .i64 t417] rfl bM ?_; (with_reducible refine (spec_l1Some.calls k g409 t407 t418 t417 t419 t422 w _ ?side1 ?side2 A6.out).mono ?_); (case side1 => exact z0 HI409.out); (case side2 => exact z1 HI409.out); rintro e w20 ⟨v420, rfl, ho0, hi, hb, hk⟩; refine ⟨_, rfl, ?_⟩; replace HO412 := Aside0.mk (Kd.R_mono (Kd.R_keep (IsS107.apart (show IsS107 w _ g409 t407 t418 from z0 HI409.out) (bR HO412) (by decide)) hk (fun _ h => h.2)) (fun _ h => h.1)); have HO421 := Aside0.mk (Kd.R_lower (Kd.R_new' ho0 (Kd.R_lt (bR HO416))) (below_size (z1 HI409.out))); replace HO416 := Aside0.mk (Kd.R_mono (Kd.R_told (Kd.R_oldK (IsS107.apart (show IsS107 w _ g409 t407 t418 from z0 HI409.out) (bR HO416) (by decide)) hk) (Kd.R_base ho0)) (fun _ h_ => h_.1)); replace HB := Aside0.mk (hb); replace HI409 := Aside0.mk (hi); (try clear ho0); obtain ⟨Ao22, co22, eo22⟩ := Kd.R_slice HO421.out; subst eo22) | ((with_reducible refine gate_builtin (b := .append) (xs := #[.tmp 9, .tmp 13]) rfl ?_); at_builtin; refine Kd.R_append_rows (Kd.int .u8) (w0 := w) w.heap.size rfl (.tmp 9) (.tmp 13) 22 5 (.int .u8 0) 1 rfl Try.underlying22 info5 rfl (by decide) (by omega) v415 t414 t419 _ _ _ (fun k_ => some k_ ≠ (.slice Ao22 t419.length co22 : Value).ownBlock) (fun _ => False) rfl rfl ?aO ?aR (fun _ _ h => h) (fun _ h => h.elim) ?aF ?aB ?aS ?aL ?_; (case aR => exact z5 HO421.out); (case aB => exact z31 HI409.out); (case aF => exact (fun k_ hk => Kd.fresh' (Kd.R_lt (bR HO421)) k_ hk)); (case aO => exact z17 HO416.out); (case aS => exact z29 HI409.out); (case aL => have := LMc7.out; omega); intro v424 w21 ho hb hg hat; rw [← Ny423.out] at ho; have n0_ := Aside0.mk (IsS107.grown (z0 HI409.out) hg (IsS107.own_ne HI409.out HO416.out (by decide))); have n1_ := Aside0.mk (Kd.R_over' (bR HO412) (Kd.R_typed (bR HO416)) (by decide) hg); have n2_ := Aside0.mk (Kd.R_after (ok := (fun _ => True)) (bR HO421) hg hat); have n3_ := Aside0.mk (hb); have n4_ := Aside0.mk (ho); clear HI409; clear HO412; clear HO421; clear HB; clear HO416; have HI409 := n0_; have HO412 := n1_; have HO421 := n2_; have HB := n3_; have HO425 := n4_; clear n0_ n1_ n2_ n3_ n4_; clear ho hb hg hat) | ((with_reducible refine gate_callee (f := 91) rfl ?_); refine goesL_ (some 16) rfl rfl Try.func91 (by kernel_rfl) rfl #[.pointer (some ⟨g409, 0, none⟩), .int .i64 6] rfl bM ?_; (with_reducible refine (spec_l1Next.calls g409 t407 t422 6 t426 t427 w _ ?side1 ?side2 A8.out).mono ?_); (case side1 => exact z0 HI409.out); (case side2 => exact z1 HI409.out); rintro e w23 ⟨rfl, hi, hb, hk⟩; refine ⟨_, rfl, ?_⟩; replace HO412 := Aside0.mk (Kd.R_mono (Kd.R_keep (IsS107.apart (show IsS107 w _ g409 t407 t422 from z0 HI409.out) (bR HO412) (by decide)) hk (fun _ h => h.2)) (fun _ h => h.1)); replace HO421 := Aside0.mk (Kd.R_mono (Kd.R_keep (IsS107.apart (show IsS107 w _ g409 t407 t422 from z0 HI409.out) (bR HO421) (by decide)) hk (fun _ h => h.2)) (fun _ h => h.1)); replace HO425 := Aside0.mk (Kd.R_mono (Kd.R_keep (IsS107.apart (show IsS107 w _ g409 t407 t422 from z0 HI409.out) (bR HO425) (by decide)) hk (fun _ h => h.2)) (fun _ h => h.1)); replace HB := Aside0.mk (hb); replace HI409 := Aside0.mk (hi); obtain ⟨Ao24, co24, eo24⟩ := Kd.R_slice HO425.out; subst eo24) | ((with_reducible refine gate_callee (f := 91) rfl ?_); refine goesL_ (some 23) rfl rfl Try.func91 (by kernel_rfl) rfl #[.pointer (some ⟨g409, 0, none⟩), .int .i64 (y423.length : Int)] rfl bM ?_; (with_reducible refine (spec_l1Next.calls g409 t407 t427 (y423.length : Int) t428 t429 w _ ?side1 ?side2 A10.out).mono ?_); (case side1 => exact z0 HI409.out); (case side2 => exact z1 HI409.out); rintro e w25 ⟨rfl, hi, hb, hk⟩; refine ⟨_, rfl, ?_⟩; replace HO412 := Aside0.mk (Kd.R_mono (Kd.R_keep (IsS107.apart (show IsS107 w _ g409 t407 t427 from z0 HI409.out) (bR HO412) (by decide)) hk (fun _ h => h.2)) (fun _ h => h.1)); replace HO421 := Aside0.mk (Kd.R_mono (Kd.R_keep (IsS107.apart (show IsS107 w _ g409 t407 t427 from z0 HI409.out) (bR HO421) (by decide)) hk (fun _ h => h.2)) (fun _ h => h.1)); replace HO425 := Aside0.mk (Kd.R_mono (Kd.R_keep (IsS107.apart (show IsS107 w _ g409 t407 t427 from z0 HI409.out) (bR HO425) (by decide)) hk (fun _ h => h.2)) (fun _ h => h.1)); replace HB := Aside0.mk (hb); replace HI409 := Aside0.mk (hi); (try clear hi)) | ((with_reducible refine gate_dst (N := 25) rfl ?_); refine Kd.R_lit (Kd.int .i64) _ 2 ?hg (N := 25) ?hd (xs := ([10, 58, 32, 127, 97] : List Int)) (inner := [.int .i64 10, .int .i64 58, .int .i64 32, .int .i64 127, .int .i64 97]) (ok := fun _ => True) (okp := fun _ => True) ?hr ?hp (fun _ hk => hk) trivial (Below.refl _ _) (Nat.le_refl _) (by simp) ?_; (case hd => rfl); (case hg => rfl); (case hr => exact z14); (case hp => exact (Reps.one (show Kd.M (Kd.int .i64) _ _ _ 10 [.int .i64 10] from rfl) (Reps.one (show Kd.M (Kd.int .i64) _ _ _ 58 [.int .i64 58] from rfl) (Reps.one (show Kd.M (Kd.int .i64) _ _ _ 32 [.int .i64 32] from rfl) (Reps.one (show Kd.M (Kd.int .i64) _ _ _ 127 [.int .i64 127] from rfl) (Reps.one (show Kd.M (Kd.int .i64) _ _ _ 97 [.int .i64 97] from rfl) (Reps.none _ _))))))); intro v431 w26 ho27 hb hg_ hnew_; clear hg_ hnew_; (first | rw [← Ny430.out] at ho27 | (simp only [Int.reduceToNat] at ho27; rw [← Ny430.out] at ho27)); replace HO412 := Aside0.mk (Kd.R_below (bR HO412) hb); replace HO421 := Aside0.mk (Kd.R_below (bR HO421) hb); replace HO425 := Aside0.mk (Kd.R_below (bR HO425) hb); have HO432 := Aside0.mk (Kd.R_lower ho27 (below_size (z1 HI409.out))); replace HB := Aside0.mk (below_step (z1 HI409.out) hb); replace HI409 := Aside0.mk (IsS107.below (z0 HI409.out) hb); clear hb ho27; obtain ⟨Ao28, co28, eo28⟩ := Kd.R_slice HO432.out; subst eo28) | ((with_reducible refine gate_callee (f := 69) rfl ?_); refine goesL_ (some 26) rfl rfl Try.func69 (by kernel_rfl) rfl #[.pointer (some ⟨g409, 0, none⟩), .slice Ao28 y430.length co28] rfl bM ?_; (with_reducible refine (spec_l1Pick.calls g409 t407 t429 _ _ y430 t433 t434 w _ ?side1 ?side2 ?side3 ?side4 ?side5 A11.out).mono ?_); (case side1 => exact z0 HI409.out); (case side2 => exact z1 HI409.out); (case side3 => exact z5 HO432.out); (case side4 => exact (Kd.R_reads' HO432.out).2.1); (case side5 => exact far_slice (IsS107.own_ne HI409.out HO432.out (by decide))); rintro e w29 ⟨rfl, hi, hb, hk⟩; refine ⟨_, rfl, ?_⟩; replace HO412 := Aside0.mk (Kd.R_mono (Kd.R_keep (IsS107.apart (show IsS107 w _ g409 t407 t429 from z0 HI409.out) (bR HO412) (by decide)) hk (fun _ h => h.2)) (fun _ h => h.1)); replace HO421 := Aside0.mk (Kd.R_mono (Kd.R_keep (IsS107.apart (show IsS107 w _ g409 t407 t429 from z0 HI409.out) (bR HO421) (by decide)) hk (fun _ h => h.2)) (fun _ h => h.1)); replace HO425 := Aside0.mk (Kd.R_mono (Kd.R_keep (IsS107.apart (show IsS107 w _ g409 t407 t429 from z0 HI409.out) (bR HO425) (by decide)) hk (fun _ h => h.2)) (fun _ h => h.1)); replace HO432 := Aside0.mk (Kd.R_mono (Kd.R_keep (IsS107.apart (show IsS107 w _ g409 t407 t429 from z0 HI409.out) (bR HO432) (by decide)) hk (fun _ h => h.2)) (fun _ h => h.1)); replace HB := Aside0.mk (hb); replace HI409 := Aside0.mk (hi); have p14 : 0 ≤ (t428 : Int) := pI; have q14 : (t428 : Int) < ((y423.length : Int) : Int) := pI; obtain ⟨go14, co14, eo14, gb14, gl14, cl14, HG14⟩ := Kd.R_form HO425.out (by omega); (first | cases eo14 | (injection eo14 with ea_ en_ ec_; (first | subst ea_ | (injection ea_ with ea_; subst ea_)); subst ec_; clear en_)); have GB14 := Aside0.mk gb14; have GG14 := Aside0.mk HG14; clear gb14 gl14 HG14; obtain ⟨hx14_0, hf14_0⟩ := Kd.R_celln 0 HO425.out (t428 : Int) p14 q14; replace p14 := eq_true p14; replace q14 := eq_true q14; obtain ⟨hy30_, hz30_⟩ := Kd.R_celln 0 HO425.out (t428 : Int) (pI) (pI); have HP30 := Kd.R_putg HO425.out (t428 : Int) ((t433) % 256)) | ((with_reducible refine gate_store (t := 5) (p := 28) rfl ?_); refine store_event (t := 5) (p := 28) (v := ?vo_w31) (w1 := (w29.setCell ⟨go14, (t428 : Int).toNat, none⟩ (.int .u8 ((t433) % 256)))) ?hg ?ho ?hn ?hr ?_; (case ho => rfl); (case hg => rfl); (case hn => rfl); (case hr => exact z14); intro w31 hw; have hg : w29.grownBy w31 (some go14) := (by rw [hw]; exact HP30.2); have hp_ : Kd.R (Kd.int .u8) 5 w31 w.heap.size (fun k_ => some k_ ≠ (.slice Ao22 t419.length co22 : Value).ownBlock) (.slice (some ⟨go14, 0, none⟩) y423.length co24) y435 := (by rw [hw, Ny435.out]; exact HP30.1); clear HP30; replace HI409 := Aside0.mk (IsS107.grown (z0 HI409.out) hg (IsS107.own_ne HI409.out HO425.out (by decide))); replace HO412 := Aside0.mk (Kd.R_over' (v := (.slice (some ⟨go14, 0, none⟩) y423.length co24)) (bR HO412) (Kd.R_typed HO425.out) (by decide) hg); replace HO421 := Aside0.mk (Kd.R_after (v := (.slice (some ⟨go14, 0, none⟩) y423.length co24)) (v1 := (.slice (some ⟨go14, 0, none⟩) y423.length co24)) (ok := (fun _ => True)) (bR HO421) hg (.inl rfl)); replace HO432 := Aside0.mk (Kd.R_over' (v := (.slice (some ⟨go14, 0, none⟩) y423.length co24)) (bR HO432) (Kd.R_typed HO425.out) (by decide) hg); replace HO425 := Aside0.mk (hp_); replace HB := Aside0.mk ((z47 GB14.out : Below w.heap.size w w31)); clear hg hw hp_))
     go_ret
     exact ⟨_, bE, z15 HO425.out, z1 HI409.out⟩
    ·rw [if_neg c13] at H
     exact absurd H (by simp)
   ·rw [if_neg c12] at H
    exact absurd H (by simp)
  ·rw [if_neg c9] at H
   have c9b0 : (t426 == 0) = false := beq_eq_false_iff_ne.mpr c9
   have c9b1 : (t426 != 0) = true := bne_iff_ne.mpr c9
   (try simp only [c9b0, c9b1])
   by_cases c32 : t426 = 1
   ·rw [if_pos c32] at H
    have c32b0 : (t426 == 1) = true := beq_iff_eq.mpr c32
    have c32b1 : (t426 != 1) = false := bne_eq_false_iff_eq.mpr c32
    clear c32
    replace H := Option.bind_eq_some_iff.mp H
    obtain ⟨⟨t436, t437⟩, A330, H⟩ := H
    replace H : (if 0 ≤ t436 then (if t436 ≤ (y423.length : Int) then (some (y423.take (t436 : Int).toNat)) else (none)) else (none)) = some r := H
    have A33 := Aside0.mk A330
    clear A330
    (try simp only [c32b0, c32b1])
    by_cases c34 : 0 ≤ t436
    ·rw [if_pos c34] at H
     have c34b0 := eq_true c34
     have c34b1 : decide (0 ≤ t436) = true := decide_eq_true c34
     clear c34
     by_cases c35 : t436 ≤ (y423.length : Int)
     ·rw [if_pos c35] at H
      have c35b0 := eq_true c35
      have c35b1 : decide (t436 ≤ (y423.length : Int)) = true := decide_eq_true c35
      clear c35
      obtain ⟨y438, hy438⟩ : ∃ y_ : List Int, y_ = (y423.take (t436 : Int).toNat) := ⟨_, rfl⟩
      replace H : (some y438) = some r := z3 hy438
      have Ny438 := Aside0.mk hy438
      clear hy438
      obtain rfl := Option.some.inj H
      go_wp2_with (first | ((with_reducible refine gate_callee (f := 52) rfl ?_); refine goesL_ (some 6) rfl rfl Try.func52 (by kernel_rfl) rfl #[.slice A0 l0.length c0] rfl bM ?_; (with_reducible refine (spec_l1Source.calls _ _ l0 t407 t408 w _ ?side1 ?side2 ?side3 A2.out).mono ?_); (case side1 => exact z36); (case side2 => exact HR0.out); (case side3 => exact HC0.out); rintro e w36 ⟨g409, rfl, hi, hb, hb2⟩; refine ⟨_, rfl, ?_⟩; replace HB := Aside0.mk (hb); have HI409 := Aside0.mk (hi); (try clear hi)) | ((with_reducible refine gate_callee (f := 89) rfl ?_); refine goesL_ (some 8) rfl rfl Try.func89 (by kernel_rfl) rfl #[.pointer (some ⟨g409, 0, none⟩)] rfl bM ?_; (with_reducible refine (spec_l4Right.calls k g409 t407 t408 t410 t413 w _ ?side1 ?side2 A3.out).mono ?_); (case side1 => exact z0 HI409.out); (case side2 => exact z1 HI409.out); rintro e w37 ⟨v411, rfl, ho0, hi, hb, hk⟩; refine ⟨_, rfl, ?_⟩; have HO412 := Aside0.mk (Kd.R_lower ho0 (below_size (z1 HI409.out))); replace HB := Aside0.mk (hb); replace HI409 := Aside0.mk (hi); (try clear ho0); obtain ⟨Ao38, co38, eo38⟩ := Kd.R_slice HO412.out; subst eo38) | ((with_reducible refine gate_callee (f := 80) rfl ?_); refine goesL_ (some 9) rfl rfl Try.func80 (by kernel_rfl) rfl #[.slice Ao38 t410.length co38] rfl bM ?_; (with_reducible refine (spec_l4Pack.calls k _ _ t410 t414 _ ?side1 ?side2 A4.out).mono ?_); (case side1 => exact z5 HO412.out); (case side2 => exact (Kd.R_reads' HO412.out).2.1); rintro e w39 ⟨v415, rfl, ho0, hb⟩; refine ⟨_, rfl, ?_⟩; replace HO412 := Aside0.mk (Kd.R_below (bR HO412) hb); have HO416 := Aside0.mk (Kd.R_lower ho0 (below_size (z1 HI409.out))); replace HB := Aside0.mk (below_step (z1 HI409.out) hb); replace HI409 := Aside0.mk (IsS107.below (z0 HI409.out) hb); (try clear ho0)) | ((with_reducible refine gate_callee (f := 91) rfl ?_); refine goesL_ (some 12) rfl rfl Try.func91 (by kernel_rfl) rfl #[.pointer (some ⟨g409, 0, none⟩), .int .i64 6] rfl bM ?_; (with_reducible refine (spec_l1Next.calls g409 t407 t413 6 t417 t418 w _ ?side1 ?side2 A5.out).mono ?_); (case side1 => exact z0 HI409.out); (case side2 => exact z1 HI409.out); rintro e w40 ⟨rfl, hi, hb, hk⟩; refine ⟨_, rfl, ?_⟩; replace HO412 := Aside0.mk (Kd.R_mono (Kd.R_keep (IsS107.apart (show IsS107 w _ g409 t407 t413 from z0 HI409.out) (bR HO412) (by decide)) hk (fun _ h => h.2)) (fun _ h => h.1)); replace HO416 := Aside0.mk (Kd.R_mono (Kd.R_keep (IsS107.apart (show IsS107 w _ g409 t407 t413 from z0 HI409.out) (bR HO416) (by decide)) hk (fun _ h => h.2)) (fun _ h => h.1)); replace HB := Aside0.mk (hb); replace HI409 := Aside0.mk (hi); (try clear hi)) | ((with_reducible refine gate_callee (f := 90) rfl ?_); refine goesL_ (some 13) rfl rfl Try.func90 (by kernel_rfl) rfl #[.pointer (some ⟨g409, 0, none⟩), .int .i64 t417] rfl bM ?_; (with_reducible refine (spec_l1Some.calls k g409 t407 t418 t417 t419 t422 w _ ?side1 ?side2 A6.out).mono ?_); (case side1 => exact z0 HI409.out); (case side2 => exact z1 HI409.out); rintro e w41 ⟨v420, rfl, ho0, hi, hb, hk⟩; refine ⟨_, rfl, ?_⟩; replace HO412 := Aside0.mk (Kd.R_mono (Kd.R_keep (IsS107.apart (show IsS107 w _ g409 t407 t418 from z0 HI409.out) (bR HO412) (by decide)) hk (fun _ h => h.2)) (fun _ h => h.1)); have HO421 := Aside0.mk (Kd.R_lower (Kd.R_new' ho0 (Kd.R_lt (bR HO416))) (below_size (z1 HI409.out))); replace HO416 := Aside0.mk (Kd.R_mono (Kd.R_told (Kd.R_oldK (IsS107.apart (show IsS107 w _ g409 t407 t418 from z0 HI409.out) (bR HO416) (by decide)) hk) (Kd.R_base ho0)) (fun _ h_ => h_.1)); replace HB := Aside0.mk (hb); replace HI409 := Aside0.mk (hi); (try clear ho0); obtain ⟨Ao43, co43, eo43⟩ := Kd.R_slice HO421.out; subst eo43) | ((with_reducible refine gate_builtin (b := .append) (xs := #[.tmp 9, .tmp 13]) rfl ?_); at_builtin; refine Kd.R_append_rows (Kd.int .u8) (w0 := w) w.heap.size rfl (.tmp 9) (.tmp 13) 22 5 (.int .u8 0) 1 rfl Try.underlying22 info5 rfl (by decide) (by omega) v415 t414 t419 _ _ _ (fun k_ => some k_ ≠ (.slice Ao43 t419.length co43 : Value).ownBlock) (fun _ => False) rfl rfl ?aO ?aR (fun _ _ h => h) (fun _ h => h.elim) ?aF ?aB ?aS ?aL ?_; (case aR => exact z5 HO421.out); (case aB => exact z31 HI409.out); (case aF => exact (fun k_ hk => Kd.fresh' (Kd.R_lt (bR HO421)) k_ hk)); (case aO => exact z17 HO416.out); (case aS => exact z29 HI409.out); (case aL => have := LMc7.out; omega); intro v424 w42 ho hb hg hat; rw [← Ny423.out] at ho; have n0_ := Aside0.mk (IsS107.grown (z0 HI409.out) hg (IsS107.own_ne HI409.out HO416.out (by decide))); have n1_ := Aside0.mk (Kd.R_over' (bR HO412) (Kd.R_typed (bR HO416)) (by decide) hg); have n2_ := Aside0.mk (Kd.R_after (ok := (fun _ => True)) (bR HO421) hg hat); have n3_ := Aside0.mk (hb); have n4_ := Aside0.mk (ho); clear HI409; clear HO412; clear HO421; clear HB; clear HO416; have HI409 := n0_; have HO412 := n1_; have HO421 := n2_; have HB := n3_; have HO425 := n4_; clear n0_ n1_ n2_ n3_ n4_; clear ho hb hg hat) | ((with_reducible refine gate_callee (f := 91) rfl ?_); refine goesL_ (some 16) rfl rfl Try.func91 (by kernel_rfl) rfl #[.pointer (some ⟨g409, 0, none⟩), .int .i64 6] rfl bM ?_; (with_reducible refine (spec_l1Next.calls g409 t407 t422 6 t426 t427 w _ ?side1 ?side2 A8.out).mono ?_); (case side1 => exact z0 HI409.out); (case side2 => exact z1 HI409.out); rintro e w44 ⟨rfl, hi, hb, hk⟩; refine ⟨_, rfl, ?_⟩; replace HO412 := Aside0.mk (Kd.R_mono (Kd.R_keep (IsS107.apart (show IsS107 w _ g409 t407 t422 from z0 HI409.out) (bR HO412) (by decide)) hk (fun _ h => h.2)) (fun _ h => h.1)); replace HO421 := Aside0.mk (Kd.R_mono (Kd.R_keep (IsS107.apart (show IsS107 w _ g409 t407 t422 from z0 HI409.out) (bR HO421) (by decide)) hk (fun _ h => h.2)) (fun _ h => h.1)); replace HO425 := Aside0.mk (Kd.R_mono (Kd.R_keep (IsS107.apart (show IsS107 w _ g409 t407 t422 from z0 HI409.out) (bR HO425) (by decide)) hk (fun _ h => h.2)) (fun _ h => h.1)); replace HB := Aside0.mk (hb); replace HI409 := Aside0.mk (hi); obtain ⟨Ao45, co45, eo45⟩ := Kd.R_slice HO425.out; subst eo45) | ((with_reducible refine gate_callee (f := 91) rfl ?_); refine goesL_ (some 35) rfl rfl Try.func91 (by kernel_rfl) rfl #[.pointer (some ⟨g409, 0, none⟩), .int .i64 (y423.length : Int)] rfl bM ?_; (with_reducible refine (spec_l1Next.calls g409 t407 t427 (y423.length : Int) t436 t437 w _ ?side1 ?side2 A33.out).mono ?_); (case side1 => exact z0 HI409.out); (case side2 => exact z1 HI409.out); rintro e w46 ⟨rfl, hi, hb, hk⟩; refine ⟨_, rfl, ?_⟩; replace HO412 := Aside0.mk (Kd.R_mono (Kd.R_keep (IsS107.apart (show IsS107 w _ g409 t407 t427 from z0 HI409.out) (bR HO412) (by decide)) hk (fun _ h => h.2)) (fun _ h => h.1)); replace HO421 := Aside0.mk (Kd.R_mono (Kd.R_keep (IsS107.apart (show IsS107 w _ g409 t407 t427 from z0 HI409.out) (bR HO421) (by decide)) hk (fun _ h => h.2)) (fun _ h => h.1)); replace HO425 := Aside0.mk (Kd.R_mono (Kd.R_keep (IsS107.apart (show IsS107 w _ g409 t407 t427 from z0 HI409.out) (bR HO425) (by decide)) hk (fun _ h => h.2)) (fun _ h => h.1)); replace HB := Aside0.mk (hb); replace HI409 := Aside0.mk (hi); have q47 : (t436 : Int) ≤ ((y423.length : Int) : Int) := pI; obtain ⟨i047, hi047, _, hsz47, _⟩ := info_parts info5; have hcut47 := cut_to (P := Try.prog) 22 5 .i64 Try.underlying22 hi047 Ao45 y423.length co45 t436 (pI) q47 (Kd.R_reads' HO425.out).2.1; have hr47 := Kd.R_take (m := (t436 : Int).toNat) HO425.out (by omega); have hy47 : y438.length = (t436 : Int).toNat := (by rw [Ny438.out, List.length_take]; omega); rw [← Ny438.out] at hr47; rw [← hy47] at hr47 hcut47; clear hy47 hi047 hsz47 HO425; have HO440 := Aside0.mk hr47; clear hr47; replace q47 := eq_true q47))
      go_ret
      exact ⟨_, bE, z15 HO440.out, z1 HI409.out⟩
     ·rw [if_neg c35] at H
      exact absurd H (by simp)
    ·rw [if_neg c34] at H
     exact absurd H (by simp)
   ·rw [if_neg c32] at H
    have c32b0 : (t426 == 1) = false := beq_eq_false_iff_ne.mpr c32
    have c32b1 : (t426 != 1) = true := bne_iff_ne.mpr c32
    (try simp only [c32b0, c32b1])
    by_cases c48 : t426 = 2
    ·rw [if_pos c48] at H
     have c48b0 : (t426 == 2) = true := beq_iff_eq.mpr c48
     have c48b1 : (t426 != 2) = false := bne_eq_false_iff_eq.mpr c48
     clear c48
     obtain ⟨y441, hy441⟩ : ∃ y_ : List ByteArray, y_ = (([(⟨#[32, 120, 10]⟩ : ByteArray), (⟨#[65, 58, 32, 98, 10, 32, 99, 10, 9, 100, 10]⟩ : ByteArray), (⟨#[97, 98, 99, 10]⟩ : ByteArray), (⟨#[10]⟩ : ByteArray)] : List ByteArray)) := ⟨_, rfl⟩
     replace H : ((spec_l1Next.f t407 t427 4).bind fun bt444 => (if 0 ≤ bt444.1 then (if bt444.1 < (y441.length : Int) then (if (rdOf ByteArray.empty y441 bt444.1).size ≤ 281474976710656 then ((some (bytesOf (rdOf ByteArray.empty y441 bt444.1) : List Int)).bind fun y447 => (if y447.length + y423.length < 140737488355328 then (some (y447 ++ y423)) else (none))) else (none)) else (none)) else (none))) = some r := z3 hy441
     have Ny441 := Aside0.mk hy441
     clear hy441
     replace H := Option.bind_eq_some_iff.mp H
     obtain ⟨⟨t444, t445⟩, A490, H⟩ := H
     replace H : (if 0 ≤ t444 then (if t444 < (y441.length : Int) then (if (rdOf ByteArray.empty y441 t444).size ≤ 281474976710656 then ((some (bytesOf (rdOf ByteArray.empty y441 t444) : List Int)).bind fun y447 => (if y447.length + y423.length < 140737488355328 then (some (y447 ++ y423)) else (none))) else (none)) else (none)) else (none)) = some r := H
     have A49 := Aside0.mk A490
     clear A490
     (try simp only [c48b0, c48b1])
     by_cases c50 : 0 ≤ t444
     ·rw [if_pos c50] at H
      have c50b0 : decide (0 ≤ t444) = true := decide_eq_true c50
      clear c50
      by_cases c51 : t444 < (y441.length : Int)
      ·rw [if_pos c51] at H
       have c51b0 : decide (t444 < (y441.length : Int)) = true := decide_eq_true c51
       clear c51
       by_cases c52 : (rdOf ByteArray.empty y441 t444).size ≤ 281474976710656
       ·rw [if_pos c52] at H
        have c52b0 := eq_true c52
        have c52b1 : decide ((rdOf ByteArray.empty y441 t444).size ≤ 281474976710656) = true := decide_eq_true c52
        clear c52
        obtain ⟨y447, hy447⟩ : ∃ y_ : List Int, y_ = (bytesOf (rdOf ByteArray.empty y441 t444)) := ⟨_, rfl⟩
        replace H : (if y447.length + y423.length < 140737488355328 then (some (y447 ++ y423)) else (none)) = some r := z3 hy447
        have Ny447 := Aside0.mk hy447
        clear hy447
        by_cases c53 : y447.length + y423.length < 140737488355328
        ·rw [if_pos c53] at H
         have LMc53 := Aside0.mk c53
         clear c53
         obtain ⟨y450, hy450⟩ : ∃ y_ : List Int, y_ = (y447 ++ y423) := ⟨_, rfl⟩
         replace H : (some y450) = some r := z3 hy450
         have Ny450 := Aside0.mk hy450
         clear hy450
         obtain rfl := Option.some.inj H
         go_wp2_with (first | ((with_reducible refine gate_callee (f := 52) rfl ?_); refine goesL_ (some 6) rfl rfl Try.func52 (by kernel_rfl) rfl #[.slice A0 l0.length c0] rfl bM ?_; (with_reducible refine (spec_l1Source.calls _ _ l0 t407 t408 w _ ?side1 ?side2 ?side3 A2.out).mono ?_); (case side1 => exact z36); (case side2 => exact HR0.out); (case side3 => exact HC0.out); rintro e w54 ⟨g409, rfl, hi, hb, hb2⟩; refine ⟨_, rfl, ?_⟩; replace HB := Aside0.mk (hb); have HI409 := Aside0.mk (hi); (try clear hi)) | ((with_reducible refine gate_callee (f := 89) rfl ?_); refine goesL_ (some 8) rfl rfl Try.func89 (by kernel_rfl) rfl #[.pointer (some ⟨g409, 0, none⟩)] rfl bM ?_; (with_reducible refine (spec_l4Right.calls k g409 t407 t408 t410 t413 w _ ?side1 ?side2 A3.out).mono ?_); (case side1 => exact z0 HI409.out); (case side2 => exact z1 HI409.out); rintro e w55 ⟨v411, rfl, ho0, hi, hb, hk⟩; refine ⟨_, rfl, ?_⟩; have HO412 := Aside0.mk (Kd.R_lower ho0 (below_size (z1 HI409.out))); replace HB := Aside0.mk (hb); replace HI409 := Aside0.mk (hi); (try clear ho0); obtain ⟨Ao56, co56, eo56⟩ := Kd.R_slice HO412.out; subst eo56) | ((with_reducible refine gate_callee (f := 80) rfl ?_); refine goesL_ (some 9) rfl rfl Try.func80 (by kernel_rfl) rfl #[.slice Ao56 t410.length co56] rfl bM ?_; (with_reducible refine (spec_l4Pack.calls k _ _ t410 t414 _ ?side1 ?side2 A4.out).mono ?_); (case side1 => exact z5 HO412.out); (case side2 => exact (Kd.R_reads' HO412.out).2.1); rintro e w57 ⟨v415, rfl, ho0, hb⟩; refine ⟨_, rfl, ?_⟩; replace HO412 := Aside0.mk (Kd.R_below (bR HO412) hb); have HO416 := Aside0.mk (Kd.R_lower ho0 (below_size (z1 HI409.out))); replace HB := Aside0.mk (below_step (z1 HI409.out) hb); replace HI409 := Aside0.mk (IsS107.below (z0 HI409.out) hb); (try clear ho0)) | ((with_reducible refine gate_callee (f := 91) rfl ?_); refine goesL_ (some 12) rfl rfl Try.func91 (by kernel_rfl) rfl #[.pointer (some ⟨g409, 0, none⟩), .int .i64 6] rfl bM ?_; (with_reducible refine (spec_l1Next.calls g409 t407 t413 6 t417 t418 w _ ?side1 ?side2 A5.out).mono ?_); (case side1 => exact z0 HI409.out); (case side2 => exact z1 HI409.out); rintro e w58 ⟨rfl, hi, hb, hk⟩; refine ⟨_, rfl, ?_⟩; replace HO412 := Aside0.mk (Kd.R_mono (Kd.R_keep (IsS107.apart (show IsS107 w _ g409 t407 t413 from z0 HI409.out) (bR HO412) (by decide)) hk (fun _ h => h.2)) (fun _ h => h.1)); replace HO416 := Aside0.mk (Kd.R_mono (Kd.R_keep (IsS107.apart (show IsS107 w _ g409 t407 t413 from z0 HI409.out) (bR HO416) (by decide)) hk (fun _ h => h.2)) (fun _ h => h.1)); replace HB := Aside0.mk (hb); replace HI409 := Aside0.mk (hi); (try clear hi)) | ((with_reducible refine gate_callee (f := 90) rfl ?_); refine goesL_ (some 13) rfl rfl Try.func90 (by kernel_rfl) rfl #[.pointer (some ⟨g409, 0, none⟩), .int .i64 t417] rfl bM ?_; (with_reducible refine (spec_l1Some.calls k g409 t407 t418 t417 t419 t422 w _ ?side1 ?side2 A6.out).mono ?_); (case side1 => exact z0 HI409.out); (case side2 => exact z1 HI409.out); rintro e w59 ⟨v420, rfl, ho0, hi, hb, hk⟩; refine ⟨_, rfl, ?_⟩; replace HO412 := Aside0.mk (Kd.R_mono (Kd.R_keep (IsS107.apart (show IsS107 w _ g409 t407 t418 from z0 HI409.out) (bR HO412) (by decide)) hk (fun _ h => h.2)) (fun _ h => h.1)); have HO421 := Aside0.mk (Kd.R_lower (Kd.R_new' ho0 (Kd.R_lt (bR HO416))) (below_size (z1 HI409.out))); replace HO416 := Aside0.mk (Kd.R_mono (Kd.R_told (Kd.R_oldK (IsS107.apart (show IsS107 w _ g409 t407 t418 from z0 HI409.out) (bR HO416) (by decide)) hk) (Kd.R_base ho0)) (fun _ h_ => h_.1)); replace HB := Aside0.mk (hb); replace HI409 := Aside0.mk (hi); (try clear ho0); obtain ⟨Ao61, co61, eo61⟩ := Kd.R_slice HO421.out; subst eo61) | ((with_reducible refine gate_builtin (b := .append) (xs := #[.tmp 9, .tmp 13]) rfl ?_); at_builtin; refine Kd.R_append_rows (Kd.int .u8) (w0 := w) w.heap.size rfl (.tmp 9) (.tmp 13) 22 5 (.int .u8 0) 1 rfl Try.underlying22 info5 rfl (by decide) (by omega) v415 t414 t419 _ _ _ (fun k_ => some k_ ≠ (.slice Ao61 t419.length co61 : Value).ownBlock) (fun _ => False) rfl rfl ?aO ?aR (fun _ _ h => h) (fun _ h => h.elim) ?aF ?aB ?aS ?aL ?_; (case aR => exact z5 HO421.out); (case aB => exact z31 HI409.out); (case aF => exact (fun k_ hk => Kd.fresh' (Kd.R_lt (bR HO421)) k_ hk)); (case aO => exact z17 HO416.out); (case aS => exact z29 HI409.out); (case aL => have := LMc7.out; omega); intro v424 w60 ho hb hg hat; rw [← Ny423.out] at ho; have n0_ := Aside0.mk (IsS107.grown (z0 HI409.out) hg (IsS107.own_ne HI409.out HO416.out (by decide))); have n1_ := Aside0.mk (Kd.R_over' (bR HO412) (Kd.R_typed (bR HO416)) (by decide) hg); have n2_ := Aside0.mk (Kd.R_after (ok := (fun _ => True)) (bR HO421) hg hat); have n3_ := Aside0.mk (hb); have n4_ := Aside0.mk (ho); clear HI409; clear HO412; clear HO421; clear HB; clear HO416; have HI409 := n0_; have HO412 := n1_; have HO421 := n2_; have HB := n3_; have HO425 := n4_; clear n0_ n1_ n2_ n3_ n4_; clear ho hb hg hat) | ((with_reducible refine gate_callee (f := 91) rfl ?_); refine goesL_ (some 16) rfl rfl Try.func91 (by kernel_rfl) rfl #[.pointer (some ⟨g409, 0, none⟩), .int .i64 6] rfl bM ?_; (with_reducible refine (spec_l1Next.calls g409 t407 t422 6 t426 t427 w _ ?side1 ?side2 A8.out).mono ?_); (case side1 => exact z0 HI409.out); (case side2 => exact z1 HI409.out); rintro e w62 ⟨rfl, hi, hb, hk⟩; refine ⟨_, rfl, ?_⟩; replace HO412 := Aside0.mk (Kd.R_mono (Kd.R_keep (IsS107.apart (show IsS107 w _ g409 t407 t422 from z0 HI409.out) (bR HO412) (by decide)) hk (fun _ h => h.2)) (fun _ h => h.1)); replace HO421 := Aside0.mk (Kd.R_mono (Kd.R_keep (IsS107.apart (show IsS107 w _ g409 t407 t422 from z0 HI409.out) (bR HO421) (by decide)) hk (fun _ h => h.2)) (fun _ h => h.1)); replace HO425 := Aside0.mk (Kd.R_mono (Kd.R_keep (IsS107.apart (show IsS107 w _ g409 t407 t422 from z0 HI409.out) (bR HO425) (by decide)) hk (fun _ h => h.2)) (fun _ h => h.1)); replace HB := Aside0.mk (hb); replace HI409 := Aside0.mk (hi); (try clear hi)) | ((with_reducible refine gate_dst (N := 39) rfl ?_); refine Kd.R_lit Kd.string _ 9 ?hg (N := 39) ?hd (xs := ([(⟨#[32, 120, 10]⟩ : ByteArray), (⟨#[65, 58, 32, 98, 10, 32, 99, 10, 9, 100, 10]⟩ : ByteArray), (⟨#[97, 98, 99, 10]⟩ : ByteArray), (⟨#[10]⟩ : ByteArray)] : List ByteArray)) (inner := [.string (⟨#[32, 120, 10]⟩ : ByteArray), .string (⟨#[65, 58, 32, 98, 10, 32, 99, 10, 9, 100, 10]⟩ : ByteArray), .string (⟨#[97, 98, 99, 10]⟩ : ByteArray), .string (⟨#[10]⟩ : ByteArray)]) (ok := fun _ => True) (okp := fun _ => True) ?hr ?hp (fun _ hk => hk) trivial (Below.refl _ _) (Nat.le_refl _) (by simp) ?_; (case hd => rfl); (case hg => rfl); (case hr => exact z14); (case hp => exact (Reps.one (show Kd.M Kd.string _ _ _ (⟨#[32, 120, 10]⟩ : ByteArray) [.string (⟨#[32, 120, 10]⟩ : ByteArray)] from rfl) (Reps.one (show Kd.M Kd.string _ _ _ (⟨#[65, 58, 32, 98, 10, 32, 99, 10, 9, 100, 10]⟩ : ByteArray) [.string (⟨#[65, 58, 32, 98, 10, 32, 99, 10, 9, 100, 10]⟩ : ByteArray)] from rfl) (Reps.one (show Kd.M Kd.string _ _ _ (⟨#[97, 98, 99, 10]⟩ : ByteArray) [.string (⟨#[97, 98, 99, 10]⟩ : ByteArray)] from rfl) (Reps.one (show Kd.M Kd.string _ _ _ (⟨#[10]⟩ : ByteArray) [.string (⟨#[10]⟩ : ByteArray)] from rfl) (Reps.none _ _)))))); intro v442 w63 ho64 hb hg_ hnew_; clear hg_ hnew_; (first | rw [← Ny441.out] at ho64 | (simp only [Int.reduceToNat] at ho64; rw [← Ny441.out] at ho64)); replace HO412 := Aside0.mk (Kd.R_below (bR HO412) hb); replace HO421 := Aside0.mk (Kd.R_below (bR HO421) hb); replace HO425 := Aside0.mk (Kd.R_below (bR HO425) hb); have HO443 := Aside0.mk (Kd.R_lower ho64 (below_size (z1 HI409.out))); replace HB := Aside0.mk (below_step (z1 HI409.out) hb); replace HI409 := Aside0.mk (IsS107.below (z0 HI409.out) hb); clear hb ho64) | ((with_reducible refine gate_callee (f := 91) rfl ?_); refine goesL_ (some 41) rfl rfl Try.func91 (by kernel_rfl) rfl #[.pointer (some ⟨g409, 0, none⟩), .int .i64 4] rfl bM ?_; (with_reducible refine (spec_l1Next.calls g409 t407 t427 4 t444 t445 w _ ?side1 ?side2 A49.out).mono ?_); (case side1 => exact z0 HI409.out); (case side2 => exact z1 HI409.out); rintro e w65 ⟨rfl, hi, hb, hk⟩; refine ⟨_, rfl, ?_⟩; replace HO412 := Aside0.mk (Kd.R_mono (Kd.R_keep (IsS107.apart (show IsS107 w _ g409 t407 t427 from z0 HI409.out) (bR HO412) (by decide)) hk (fun _ h => h.2)) (fun _ h => h.1)); replace HO421 := Aside0.mk (Kd.R_mono (Kd.R_keep (IsS107.apart (show IsS107 w _ g409 t407 t427 from z0 HI409.out) (bR HO421) (by decide)) hk (fun _ h => h.2)) (fun _ h => h.1)); replace HO425 := Aside0.mk (Kd.R_mono (Kd.R_keep (IsS107.apart (show IsS107 w _ g409 t407 t427 from z0 HI409.out) (bR HO425) (by decide)) hk (fun _ h => h.2)) (fun _ h => h.1)); replace HO443 := Aside0.mk (Kd.R_mono (Kd.R_keep (IsS107.apart (show IsS107 w _ g409 t407 t427 from z0 HI409.out) (bR HO443) (by decide)) hk (fun _ h => h.2)) (fun _ h => h.1)); replace HB := Aside0.mk (hb); replace HI409 := Aside0.mk (hi); obtain ⟨Ao66, co66, eo66⟩ := Kd.R_slice HO443.out; subst eo66; have p446 : 0 ≤ (t444 : Int) := pI; have q446 : t444 < (y441.length : Int) := pI; obtain ⟨ad446, e446, hx446_0⟩ := Kd.at_string (Kd.R_reads' HO443.out).2.2 t444 p446 q446; cases e446; replace p446 := eq_true p446; replace q446 := eq_true q446) | ((with_reducible refine gate_dst (N := 44) rfl ?_); refine Kd.R_conv _ 5 rfl (N := 44) rfl 9 22 _ rfl (rdOf ByteArray.empty y441 t444) rfl Try.underlying9 Try.underlying22 Try.underlying5 (ok := fun _ => True) trivial (pI) (Below.refl _ _) (Nat.le_refl _) ?_; intro v448 w67 ho68 hb hg_ hnew_; clear hg_ hnew_; (first | rw [← Ny447.out] at ho68 | (simp only [Int.reduceToNat] at ho68; rw [← Ny447.out] at ho68)); replace HO412 := Aside0.mk (Kd.R_below (bR HO412) hb); replace HO443 := Aside0.mk (Kd.R_below (bR HO443) hb); have HO449 := Aside0.mk (Kd.R_lower (Kd.R_new' (Kd.R_new' ho68 (Kd.R_lt (bR HO421))) (Kd.R_lt (bR HO425))) (below_size (z1 HI409.out))); replace HO421 := Aside0.mk (Kd.R_elder' (bR HO421) (Kd.R_base ho68) hb); replace HO425 := Aside0.mk (Kd.R_elder' (bR HO425) (Kd.R_base ho68) hb); replace HB := Aside0.mk (below_step (z1 HI409.out) hb); replace HI409 := Aside0.mk (IsS107.below (z0 HI409.out) hb); clear hb ho68; obtain ⟨Ao70, co70, eo70⟩ := Kd.R_slice HO425.out; subst eo70) | ((with_reducible refine gate_builtin (b := .append) (xs := #[.tmp 44, .tmp 45]) rfl ?_); at_builtin; refine Kd.R_append_rows (Kd.int .u8) (w0 := w) w.heap.size rfl (.tmp 44) (.tmp 45) 22 5 (.int .u8 0) 1 rfl Try.underlying22 info5 rfl (by decide) (by omega) v448 y447 y423 _ _ _ (fun k_ => some k_ ≠ (.slice Ao61 t419.length co61 : Value).ownBlock ∧ some k_ ≠ (.slice Ao70 y423.length co70 : Value).ownBlock) (fun _ => False) rfl rfl ?aO ?aR (fun _ _ h => h) (fun _ h => h.elim) ?aF ?aB ?aS ?aL ?_; (case aR => exact z5 HO425.out); (case aB => exact z31 HI409.out); (case aF => exact (fun k_ hk => ⟨Kd.fresh' (Kd.R_lt (bR HO421)) k_ hk, Kd.fresh' (Kd.R_lt (bR HO425)) k_ hk⟩)); (case aO => exact (by (with_reducible repeat (first | apply Kd.R_alloc | apply Kd.R_drewN | apply Kd.R_drew)); exact Kd.R_mono HO449.out (fun _ hk => ⟨hk.1.2, hk.2⟩))); (case aS => exact z29 HI409.out); (case aL => have := LMc53.out; omega); intro v451 w69 ho hb hg hat; rw [← Ny450.out] at ho; have n0_ := Aside0.mk (IsS107.grown (z0 HI409.out) hg (IsS107.own_ne HI409.out HO449.out (by decide))); have n1_ := Aside0.mk (Kd.R_over' (bR HO412) (Kd.R_typed (bR HO449)) (by decide) hg); have n2_ := Aside0.mk (Kd.R_after (ok := (fun k_ => some k_ ≠ (.slice Ao70 y423.length co70 : Value).ownBlock)) (by (with_reducible repeat (first | apply Kd.R_alloc | apply Kd.R_drewN | apply Kd.R_drew)); exact Kd.R_mono HO421.out (fun _ hk => ⟨hk.1.2, hk.2⟩)) hg hat); have n3_ := Aside0.mk (Kd.R_after (ok := (fun k_ => some k_ ≠ (.slice Ao61 t419.length co61 : Value).ownBlock)) (bR HO425) hg hat); have n4_ := Aside0.mk (Kd.R_over' (bR HO443) (Kd.R_typed (bR HO449)) (by decide) hg); have n5_ := Aside0.mk (hb); have n6_ := Aside0.mk (ho); clear HI409; clear HO412; clear HO421; clear HO425; clear HO443; clear HB; clear HO449; have HI409 := n0_; have HO412 := n1_; have HO421 := n2_; have HO425 := n3_; have HO443 := n4_; have HB := n5_; have HO452 := n6_; clear n0_ n1_ n2_ n3_ n4_ n5_ n6_; clear ho hb hg hat))
         go_ret
         exact ⟨_, bE, z15 HO452.out, z1 HI409.out⟩
        ·rw [if_neg c53] at H
         exact absurd H (by simp)
       ·rw [if_neg c52] at H
        exact absurd H (by simp)
      ·rw [if_neg c51] at H
       exact absurd H (by simp)
     ·rw [if_neg c50] at H
      exact absurd H (by simp)
    ·rw [if_neg c48] at H
     have c48b0 : (t426 == 2) = false := beq_eq_false_iff_ne.mpr c48
     have c48b1 : (t426 != 2) = true := bne_iff_ne.mpr c48
     obtain rfl := Option.some.inj H
     (try simp only [c48b0, c48b1])
     go_wp2_with (first | ((with_reducible refine gate_callee (f := 52) rfl ?_); refine goesL_ (some 6) rfl rfl Try.func52 (by kernel_rfl) rfl #[.slice A0 l0.length c0] rfl bM ?_; (with_reducible refine (spec_l1Source.calls _ _ l0 t407 t408 w _ ?side1 ?side2 ?side3 A2.out).mono ?_); (case side1 => exact z36); (case side2 => exact HR0.out); (case side3 => exact HC0.out); rintro e w71 ⟨g409, rfl, hi, hb, hb2⟩; refine ⟨_, rfl, ?_⟩; replace HB := Aside0.mk (hb); have HI409 := Aside0.mk (hi); (try clear hi)) | ((with_reducible refine gate_callee (f := 89) rfl ?_); refine goesL_ (some 8) rfl rfl Try.func89 (by kernel_rfl) rfl #[.pointer (some ⟨g409, 0, none⟩)] rfl bM ?_; (with_reducible refine (spec_l4Right.calls k g409 t407 t408 t410 t413 w _ ?side1 ?side2 A3.out).mono ?_); (case side1 => exact z0 HI409.out); (case side2 => exact z1 HI409.out); rintro e w72 ⟨v411, rfl, ho0, hi, hb, hk⟩; refine ⟨_, rfl, ?_⟩; have HO412 := Aside0.mk (Kd.R_lower ho0 (below_size (z1 HI409.out))); replace HB := Aside0.mk (hb); replace HI409 := Aside0.mk (hi); (try clear ho0); obtain ⟨Ao73, co73, eo73⟩ := Kd.R_slice HO412.out; subst eo73) | ((with_reducible refine gate_callee (f := 80) rfl ?_); refine goesL_ (some 9) rfl rfl Try.func80 (by kernel_rfl) rfl #[.slice Ao73 t410.length co73] rfl bM ?_; (with_reducible refine (spec_l4Pack.calls k _ _ t410 t414 _ ?side1 ?side2 A4.out).mono ?_); (case side1 => exact z5 HO412.out); (case side2 => exact (Kd.R_reads' HO412.out).2.1); rintro e w74 ⟨v415, rfl, ho0, hb⟩; refine ⟨_, rfl, ?_⟩; replace HO412 := Aside0.mk (Kd.R_below (bR HO412) hb); have HO416 := Aside0.mk (Kd.R_lower ho0 (below_size (z1 HI409.out))); replace HB := Aside0.mk (below_step (z1 HI409.out) hb); replace HI409 := Aside0.mk (IsS107.below (z0 HI409.out) hb); (try clear ho0)) | ((with_reducible refine gate_callee (f := 91) rfl ?_); refine goesL_ (some 12) rfl rfl Try.func91 (by kernel_rfl) rfl #[.pointer (some ⟨g409, 0, none⟩), .int .i64 6] rfl bM ?_; (with_reducible refine (spec_l1Next.calls g409 t407 t413 6 t417 t418 w _ ?side1 ?side2 A5.out).mono ?_); (case side1 => exact z0 HI409.out); (case side2 => exact z1 HI409.out); rintro e w75 ⟨rfl, hi, hb, hk⟩; refine ⟨_, rfl, ?_⟩; replace HO412 := Aside0.mk (Kd.R_mono (Kd.R_keep (IsS107.apart (show IsS107 w _ g409 t407 t413 from z0 HI409.out) (bR HO412) (by decide)) hk (fun _ h => h.2)) (fun _ h => h.1)); replace HO416 := Aside0.mk (Kd.R_mono (Kd.R_keep (IsS107.apart (show IsS107 w _ g409 t407 t413 from z0 HI409.out) (bR HO416) (by decide)) hk (fun _ h => h.2)) (fun _ h => h.1)); replace HB := Aside0.mk (hb); replace HI409 := Aside0.mk (hi); (try clear hi)) | ((with_reducible refine gate_callee (f := 90) rfl ?_); refine goesL_ (some 13) rfl rfl Try.func90 (by kernel_rfl) rfl #[.pointer (some ⟨g409, 0, none⟩), .int .i64 t417] rfl bM ?_; (with_reducible refine (spec_l1Some.calls k g409 t407 t418 t417 t419 t422 w _ ?side1 ?side2 A6.out).mono ?_); (case side1 => exact z0 HI409.out); (case side2 => exact z1 HI409.out); rintro e w76 ⟨v420, rfl, ho0, hi, hb, hk⟩; refine ⟨_, rfl, ?_⟩; replace HO412 := Aside0.mk (Kd.R_mono (Kd.R_keep (IsS107.apart (show IsS107 w _ g409 t407 t418 from z0 HI409.out) (bR HO412) (by decide)) hk (fun _ h => h.2)) (fun _ h => h.1)); have HO421 := Aside0.mk (Kd.R_lower (Kd.R_new' ho0 (Kd.R_lt (bR HO416))) (below_size (z1 HI409.out))); replace HO416 := Aside0.mk (Kd.R_mono (Kd.R_told (Kd.R_oldK (IsS107.apart (show IsS107 w _ g409 t407 t418 from z0 HI409.out) (bR HO416) (by decide)) hk) (Kd.R_base ho0)) (fun _ h_ => h_.1)); replace HB := Aside0.mk (hb); replace HI409 := Aside0.mk (hi); (try clear ho0); obtain ⟨Ao78, co78, eo78⟩ := Kd.R_slice HO421.out; subst eo78) | ((with_reducible refine gate_builtin (b := .append) (xs := #[.tmp 9, .tmp 13]) rfl ?_); at_builtin; refine Kd.R_append_rows (Kd.int .u8) (w0 := w) w.heap.size rfl (.tmp 9) (.tmp 13) 22 5 (.int .u8 0) 1 rfl Try.underlying22 info5 rfl (by decide) (by omega) v415 t414 t419 _ _ _ (fun k_ => some k_ ≠ (.slice Ao78 t419.length co78 : Value).ownBlock) (fun _ => False) rfl rfl ?aO ?aR (fun _ _ h => h) (fun _ h => h.elim) ?aF ?aB ?aS ?aL ?_; (case aR => exact z5 HO421.out); (case aB => exact z31 HI409.out); (case aF => exact (fun k_ hk => Kd.fresh' (Kd.R_lt (bR HO421)) k_ hk)); (case aO => exact z17 HO416.out); (case aS => exact z29 HI409.out); (case aL => have := LMc7.out; omega); intro v424 w77 ho hb hg hat; rw [← Ny423.out] at ho; have n0_ := Aside0.mk (IsS107.grown (z0 HI409.out) hg (IsS107.own_ne HI409.out HO416.out (by decide))); have n1_ := Aside0.mk (Kd.R_over' (bR HO412) (Kd.R_typed (bR HO416)) (by decide) hg); have n2_ := Aside0.mk (Kd.R_after (ok := (fun _ => True)) (bR HO421) hg hat); have n3_ := Aside0.mk (hb); have n4_ := Aside0.mk (ho); clear HI409; clear HO412; clear HO421; clear HB; clear HO416; have HI409 := n0_; have HO412 := n1_; have HO421 := n2_; have HB := n3_; have HO425 := n4_; clear n0_ n1_ n2_ n3_ n4_; clear ho hb hg hat) | ((with_reducible refine gate_callee (f := 91) rfl ?_); refine goesL_ (some 16) rfl rfl Try.func91 (by kernel_rfl) rfl #[.pointer (some ⟨g409, 0, none⟩), .int .i64 6] rfl bM ?_; (with_reducible refine (spec_l1Next.calls g409 t407 t422 6 t426 t427 w _ ?side1 ?side2 A8.out).mono ?_); (case side1 => exact z0 HI409.out); (case side2 => exact z1 HI409.out); rintro e w79 ⟨rfl, hi, hb, hk⟩; refine ⟨_, rfl, ?_⟩; replace HO412 := Aside0.mk (Kd.R_mono (Kd.R_keep (IsS107.apart (show IsS107 w _ g409 t407 t422 from z0 HI409.out) (bR HO412) (by decide)) hk (fun _ h => h.2)) (fun _ h => h.1)); replace HO421 := Aside0.mk (Kd.R_mono (Kd.R_keep (IsS107.apart (show IsS107 w _ g409 t407 t422 from z0 HI409.out) (bR HO421) (by decide)) hk (fun _ h => h.2)) (fun _ h => h.1)); replace HO425 := Aside0.mk (Kd.R_mono (Kd.R_keep (IsS107.apart (show IsS107 w _ g409 t407 t422 from z0 HI409.out) (bR HO425) (by decide)) hk (fun _ h => h.2)) (fun _ h => h.1)); replace HB := Aside0.mk (hb); replace HI409 := Aside0.mk (hi); (try clear hi)))
     go_ret
     exact ⟨_, bE, z15 HO425.out, z1 HI409.out⟩
 ·rw [if_neg c7] at H
  exact absurd H (by simp)
end Go.Proofs.Ytjopgmjmjnfcjaa.PHeaders
