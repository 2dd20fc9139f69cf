/- Part of the proof: what its walks use. -/
import Derived.Test.YtjopgmjmjnfcjaaPHeadersx0
import Derived.Test.YtjopgmjmjnfcjaaPHeadersx5
import Derived.Test.YtjopgmjmjnfcjaaPHeadersx7
namespace Go.Proofs.Ytjopgmjmjnfcjaa.PHeaders
open Go.RowKit Go.Proofs.YtjopgmjmjnfcjaaW.PrintWords Go.Proofs.YtjopgmjmjnfcjaaW.PrintLast Go.Proofs.YtjopgmjmjnfcjaaW.PrintMore
set_option linter.unusedVariables false
set_option linter.unusedSimpArgs false
def spec_l4Bent.f (k : Nat) (s0_0 : List Int) (s0_1 : Int) : Option ((List (S69)) × Int) := (spec_l4Right.f k s0_0 s0_1).bind fun bt453 => ((spec_l1Next.f s0_0 bt453.2 12).bind fun bt457 => (if bt457.1 = 0 then ((some (([(⟨#[]⟩ : ByteArray), (⟨#[97, 32, 98]⟩ : ByteArray), (⟨#[65]⟩ : ByteArray)] : List ByteArray) : List ByteArray)).bind fun y459 => ((spec_l1Next.f s0_0 bt457.2 3).bind fun bt462 => (if 0 ≤ bt462.1 then (if bt462.1 < (y459.length : Int) then ((some (([(⟨#[120]⟩ : ByteArray), (⟨#[10]⟩ : ByteArray), (⟨#[127]⟩ : ByteArray)] : List ByteArray) : List ByteArray)).bind fun y465 => ((spec_l1Next.f s0_0 bt462.2 3).bind fun bt468 => (if 0 ≤ bt468.1 then (if bt468.1 < (y465.length : Int) then (if bt453.1.length < 4398046511104 then (some ((bt453.1 ++ [(⟨rdOf ByteArray.empty y459 bt462.1, rdOf ByteArray.empty y465 bt468.1⟩ : S69)]), bt468.2)) else (none)) else (none)) else (none)))) else (none)) else (none)))) else (if bt457.1 = 1 then (if 9 ≤ 8796093022208 then (some ((List.replicate 9 z69), bt457.2)) else (none)) else (some (bt453.1, bt457.2)))))
def spec_l4Bent.T4 : Bool × List (List Nat × List Nat) := (true, [([], []), ([], []), ([], []), ([2], [2]), ([1, 3], [1, 3]), ([4], [4]), ([], []), ([], []), ([7, 3], [7]), ([6, 8], [6, 8]), ([9], [9]), ([5, 10], [5, 10]), ([11], [11]), ([0, 12, 8], [0, 12]), ([13, 13, 0, 1, 2, 3, 4, 5, 6, 7, 8, 9, 10, 11, 12, 13], [0, 13])])
def spec_l4Bent.B4 : List Nat := [0, 0, 0, 4, 14, 30, 0, 0, 140, 460, 972, 2046, 4094, 8191, 16383]
theorem spec_l4Bent.tab4 : rtab .any (opsOf Try.f92 4) = spec_l4Bent.T4 := by kernel_rfl
theorem spec_l4Bent.bits4 : waitsOk spec_l4Bent.T4.2 spec_l4Bent.B4 = true := by kernel_rfl
set_option maxHeartbeats 8000000 in
set_option maxRecDepth 100000 in
theorem spec_l4Bent.calls (k : Nat) (g : Nat) (s0_0 : List Int) (s0_1 : Int) (r1 : List (S69)) (r2 : Int) (w0 w : World) (hI : IsS107 w0 w g s0_0 s0_1) (hB : Below w0.heap.size w0 w) (h : spec_l4Bent.f k s0_0 s0_1 = some (r1, r2)) :
  Calls Try.prog 92 #[.pointer (some ⟨g, 0, none⟩)] w fun e w' => ∃ v0_ : Value, e = .returned (v0_) ∧ Kd.R k69 69 w' w.heap.size (fun _ => True) v0_ r1 ∧ IsS107 w0 w' g s0_0 r2 ∧ Below w0.heap.size w0 w' ∧ KeepBut w w' g none := by
 have hu69 := Try.underlying69
 have HI0 := Aside0.mk hI
 have HK := Aside0.mk (KeepBut.refl w g none)
 have HL := Aside0.mk hB.size
 clear hI
 have HW0 := Aside0.mk hB.size
 have HB := Aside0.mk hB
 clear hB
 have H : ((spec_l4Right.f k s0_0 s0_1).bind fun bt453 => ((spec_l1Next.f s0_0 bt453.2 12).bind fun bt457 => (if bt457.1 = 0 then ((some (([(⟨#[]⟩ : ByteArray), (⟨#[97, 32, 98]⟩ : ByteArray), (⟨#[65]⟩ : ByteArray)] : List ByteArray) : List ByteArray)).bind fun y459 => ((spec_l1Next.f s0_0 bt457.2 3).bind fun bt462 => (if 0 ≤ bt462.1 then (if bt462.1 < (y459.length : Int) then ((some (([(⟨#[120]⟩ : ByteArray), (⟨#[10]⟩ : ByteArray), (⟨#[127]⟩ : ByteArray)] : List ByteArray) : List ByteArray)).bind fun y465 => ((spec_l1Next.f s0_0 bt462.2 3).bind fun bt468 => (if 0 ≤ bt468.1 then (if bt468.1 < (y465.length : Int) then (if bt453.1.length < 4398046511104 then (some ((bt453.1 ++ [(⟨rdOf ByteArray.empty y459 bt462.1, rdOf ByteArray.empty y465 bt468.1⟩ : S69)]), bt468.2)) else (none)) else (none)) else (none)))) else (none)) else (none)))) else (if bt457.1 = 1 then (if 9 ≤ 8796093022208 then (some ((List.replicate 9 z69), bt457.2)) else (none)) else (some (bt453.1, bt457.2)))))) = some (r1, r2) := h
 clear h
 replace H := Option.bind_eq_some_iff.mp H
 obtain ⟨⟨t453, t456⟩, A20, H⟩ := H
 replace H : ((spec_l1Next.f s0_0 t456 12).bind fun bt457 => (if bt457.1 = 0 then ((some (([(⟨#[]⟩ : ByteArray), (⟨#[97, 32, 98]⟩ : ByteArray), (⟨#[65]⟩ : ByteArray)] : List ByteArray) : List ByteArray)).bind fun y459 => ((spec_l1Next.f s0_0 bt457.2 3).bind fun bt462 => (if 0 ≤ bt462.1 then (if bt462.1 < (y459.length : Int) then ((some (([(⟨#[120]⟩ : ByteArray), (⟨#[10]⟩ : ByteArray), (⟨#[127]⟩ : ByteArray)] : List ByteArray) : List ByteArray)).bind fun y465 => ((spec_l1Next.f s0_0 bt462.2 3).bind fun bt468 => (if 0 ≤ bt468.1 then (if bt468.1 < (y465.length : Int) then (if t453.length < 4398046511104 then (some ((t453 ++ [(⟨rdOf ByteArray.empty y459 bt462.1, rdOf ByteArray.empty y465 bt468.1⟩ : S69)]), bt468.2)) else (none)) else (none)) else (none)))) else (none)) else (none)))) else (if bt457.1 = 1 then (if 9 ≤ 8796093022208 then (some ((List.replicate 9 z69), bt457.2)) else (none)) else (some (t453, bt457.2))))) = some (r1, r2) := H
 have A2 := Aside0.mk A20
 clear A20
 replace H := Option.bind_eq_some_iff.mp H
 obtain ⟨⟨t457, t458⟩, A30, H⟩ := H
 replace H : (if t457 = 0 then ((some (([(⟨#[]⟩ : ByteArray), (⟨#[97, 32, 98]⟩ : ByteArray), (⟨#[65]⟩ : ByteArray)] : List ByteArray) : List ByteArray)).bind fun y459 => ((spec_l1Next.f s0_0 t458 3).bind fun bt462 => (if 0 ≤ bt462.1 then (if bt462.1 < (y459.length : Int) then ((some (([(⟨#[120]⟩ : ByteArray), (⟨#[10]⟩ : ByteArray), (⟨#[127]⟩ : ByteArray)] : List ByteArray) : List ByteArray)).bind fun y465 => ((spec_l1Next.f s0_0 bt462.2 3).bind fun bt468 => (if 0 ≤ bt468.1 then (if bt468.1 < (y465.length : Int) then (if t453.length < 4398046511104 then (some ((t453 ++ [(⟨rdOf ByteArray.empty y459 bt462.1, rdOf ByteArray.empty y465 bt468.1⟩ : S69)]), bt468.2)) else (none)) else (none)) else (none)))) else (none)) else (none)))) else (if t457 = 1 then (if 9 ≤ 8796093022208 then (some ((List.replicate 9 z69), t458)) else (none)) else (some (t453, t458)))) = some (r1, r2) := H
 have A3 := Aside0.mk A30
 clear A30
 have HQ_ := Aside0.mk H
 clear H
 go_enter Try.func92, Try.ntmps92
 have H := HQ_.out
 clear HQ_
 by_cases c4 : t457 = 0
 ·rw [if_pos c4] at H
  have c4b0 : (t457 == 0) = true := beq_iff_eq.mpr c4
  have c4b1 : (t457 != 0) = false := bne_eq_false_iff_eq.mpr c4
  clear c4
  obtain ⟨y459, hy459⟩ : ∃ y_ : List ByteArray, y_ = (([(⟨#[]⟩ : ByteArray), (⟨#[97, 32, 98]⟩ : ByteArray), (⟨#[65]⟩ : ByteArray)] : List ByteArray)) := ⟨_, rfl⟩
  replace H : ((spec_l1Next.f s0_0 t458 3).bind fun bt462 => (if 0 ≤ bt462.1 then (if bt462.1 < (y459.length : Int) then ((some (([(⟨#[120]⟩ : ByteArray), (⟨#[10]⟩ : ByteArray), (⟨#[127]⟩ : ByteArray)] : List ByteArray) : List ByteArray)).bind fun y465 => ((spec_l1Next.f s0_0 bt462.2 3).bind fun bt468 => (if 0 ≤ bt468.1 then (if bt468.1 < (y465.length : Int) then (if t453.length < 4398046511104 then (some ((t453 ++ [(⟨rdOf ByteArray.empty y459 bt462.1, rdOf ByteArray.empty y465 bt468.1⟩ : S69)]), bt468.2)) else (none)) else (none)) else (none)))) else (none)) else (none))) = some (r1, r2) := z3 hy459
  have Ny459 := Aside0.mk hy459
  clear hy459
  replace H := Option.bind_eq_some_iff.mp H
  obtain ⟨⟨t462, t463⟩, A50, H⟩ := H
  replace H : (if 0 ≤ t462 then (if t462 < (y459.length : Int) then ((some (([(⟨#[120]⟩ : ByteArray), (⟨#[10]⟩ : ByteArray), (⟨#[127]⟩ : ByteArray)] : List ByteArray) : List ByteArray)).bind fun y465 => ((spec_l1Next.f s0_0 t463 3).bind fun bt468 => (if 0 ≤ bt468.1 then (if bt468.1 < (y465.length : Int) then (if t453.length < 4398046511104 then (some ((t453 ++ [(⟨rdOf ByteArray.empty y459 t462, rdOf ByteArray.empty y465 bt468.1⟩ : S69)]), bt468.2)) else (none)) else (none)) else (none)))) else (none)) else (none)) = some (r1, r2) := H
  have A5 := Aside0.mk A50
  clear A50
  (try simp only [c4b0, c4b1])
  by_cases c6 : 0 ≤ t462
  ·rw [if_pos c6] at H
   have c6b0 : decide (0 ≤ t462) = true := decide_eq_true c6
   clear c6
   by_cases c7 : t462 < (y459.length : Int)
   ·rw [if_pos c7] at H
    have c7b0 : decide (t462 < (y459.length : Int)) = true := decide_eq_true c7
    clear c7
    obtain ⟨y465, hy465⟩ : ∃ y_ : List ByteArray, y_ = (([(⟨#[120]⟩ : ByteArray), (⟨#[10]⟩ : ByteArray), (⟨#[127]⟩ : ByteArray)] : List ByteArray)) := ⟨_, rfl⟩
    replace H : ((spec_l1Next.f s0_0 t463 3).bind fun bt468 => (if 0 ≤ bt468.1 then (if bt468.1 < (y465.length : Int) then (if t453.length < 4398046511104 then (some ((t453 ++ [(⟨rdOf ByteArray.empty y459 t462, rdOf ByteArray.empty y465 bt468.1⟩ : S69)]), bt468.2)) else (none)) else (none)) else (none))) = some (r1, r2) := z3 hy465
    have Ny465 := Aside0.mk hy465
    clear hy465
    replace H := Option.bind_eq_some_iff.mp H
    obtain ⟨⟨t468, t469⟩, A80, H⟩ := H
    replace H : (if 0 ≤ t468 then (if t468 < (y465.length : Int) then (if t453.length < 4398046511104 then (some ((t453 ++ [(⟨rdOf ByteArray.empty y459 t462, rdOf ByteArray.empty y465 t468⟩ : S69)]), t469)) else (none)) else (none)) else (none)) = some (r1, r2) := H
    have A8 := Aside0.mk A80
    clear A80
    by_cases c9 : 0 ≤ t468
    ·rw [if_pos c9] at H
     have c9b0 : decide (0 ≤ t468) = true := decide_eq_true c9
     clear c9
     by_cases c10 : t468 < (y465.length : Int)
     ·rw [if_pos c10] at H
      have c10b0 : decide (t468 < (y465.length : Int)) = true := decide_eq_true c10
      clear c10
      by_cases c11 : t453.length < 4398046511104
      ·rw [if_pos c11] at H
       have LMc11 := Aside0.mk c11
       clear c11
       obtain ⟨y471, hy471⟩ : ∃ y_ : List (S69), y_ = (t453 ++ [(⟨rdOf ByteArray.empty y459 t462, rdOf ByteArray.empty y465 t468⟩ : S69)]) := ⟨_, rfl⟩
       replace H : (some (y471, t469)) = some (r1, r2) := z3 hy471
       have Ny471 := Aside0.mk hy471
       clear hy471
       simp only [Option.some.injEq, Prod.mk.injEq] at H
       obtain ⟨rfl, rfl⟩ := H
       try go_wp2_with (first | ((with_reducible refine gate_callee (f := 89) rfl ?_); refine goesL_ (some 5) rfl rfl Try.func89 (by kernel_rfl) rfl #[.pointer (some ⟨g, 0, none⟩)] rfl bM ?_; (with_reducible refine (spec_l4Right.calls k g s0_0 s0_1 t453 t456 w0 _ ?side1 ?side2 A2.out).mono ?_); (case side1 => exact z0 HI0.out); (case side2 => exact z1 HI0.out); rintro e w12 ⟨v454, rfl, ho0, hi, hb, hk⟩; refine ⟨_, rfl, ?_⟩; have HO455 := Aside0.mk (Kd.R_lower ho0 (keep_size (w := w) (g := g) (row := none) z2)); replace HK := Aside0.mk (KeepBut.trans z2 hk (.inl rfl)); replace HB := Aside0.mk (hb); replace HI0 := Aside0.mk (hi); (try clear ho0)) | ((with_reducible refine gate_callee (f := 91) rfl ?_); refine goesL_ (some 7) rfl rfl Try.func91 (by kernel_rfl) rfl #[.pointer (some ⟨g, 0, none⟩), .int .i64 12] rfl bM ?_; (with_reducible refine (spec_l1Next.calls g s0_0 t456 12 t457 t458 w0 _ ?side1 ?side2 A3.out).mono ?_); (case side1 => exact z0 HI0.out); (case side2 => exact z1 HI0.out); rintro e w13 ⟨rfl, hi, hb, hk⟩; refine ⟨_, rfl, ?_⟩; replace HO455 := Aside0.mk (Kd.R_mono (Kd.R_keep (IsS107.apart (show IsS107 w0 _ g s0_0 t456 from z0 HI0.out) (bR HO455) (by decide)) hk (fun _ h => h.2)) (fun _ h => h.1)); replace HK := Aside0.mk (KeepBut.trans z2 hk (.inl rfl)); replace HB := Aside0.mk (hb); replace HI0 := Aside0.mk (hi); obtain ⟨Ao14, co14, eo14⟩ := Kd.R_slice HO455.out; subst eo14))
       have pi464 : (0 ≤ (t462 : Int)) = True := eq_true (pI)
       have qi464 : (t462 < (y459.length : Int)) = True := eq_true (pI)
       have pi470 : (0 ≤ (t468 : Int)) = True := eq_true (pI)
       have qi470 : (t468 < (y465.length : Int)) = True := eq_true (pI)
       replace HO455 := Aside0.mk (Kd.R_drew HO455.out)
       replace HI0 := Aside0.mk (IsS107.drew HI0.out)
       replace HK := Aside0.mk (keep_drew HK.out)
       replace HB := Aside0.mk (below_drew1 HB.out)
       refine start_ (n := 15) (S := fun w' => True) (ds := []) (bsA 15 0) (by kernel_rfl) rfl rfl trivial (fun hHeld => ?_); refine with_tabW spec_l4Bent.tab4 spec_l4Bent.bits4 (fun HT_ HW_ => ?_)
       generalize w13.drew = w15 at HO455 HI0 HK HB hHeld ⊢
       refine pa_ (i := 0) (N := some 10) (bsA 15 1) (h := ?_)
       refine pa_ (i := 2) (N := some 12) (bsA 15 5) (h := ?_)
       refine pa_ (i := 7) (N := some 17) (bsA 15 133) (h := ?_)
       refine join_ (σ := Value × Addr × Value × Addr) 4 (bsA 15 2047) (fun s_ => [(11, s_.1), (13, .int .i64 t462), (15, .string (rdOf ByteArray.empty y459 t462)), (16, s_.2.2.1), (18, .int .i64 t468), (20, .string (rdOf ByteArray.empty y465 t468)), (14, .pointer (some (s_.2.1.add (t462).toNat))), (19, .pointer (some (s_.2.2.2.add (t468).toNat)))]) (fun s_ w' => (Kd.R k69 69 w' w.heap.size (fun _ => True) (.slice Ao14 t453.length co14) t453) ∧ (Kd.R Kd.string 9 w' w.heap.size (fun k_ => some k_ ≠ (s_.2.2.1 : Value).ownBlock) s_.1 y459) ∧ (Kd.R Kd.string 9 w' w.heap.size (fun k_ => some k_ ≠ (s_.1 : Value).ownBlock) s_.2.2.1 y465) ∧ (∃ c_, (s_.1 : Value) = .slice (some s_.2.1) y459.length c_) ∧ (∃ c_, (s_.2.2.1 : Value) = .slice (some s_.2.2.2) y465.length c_) ∧ (IsS107 w0 w' g s0_0 t469) ∧ (KeepBut w w' g none) ∧ (Below w0.heap.size w0 w')) ?_ ?_
       rotate_left
       ·intro hJ1_3_5_6_8_10
        refine join_ (σ := Value × Addr × Value × Addr) 5 (bsA 15 1023) (fun s_ => [(11, s_.1), (13, .int .i64 t462), (15, .string (rdOf ByteArray.empty y459 t462)), (16, s_.2.2.1), (18, .int .i64 t468), (14, .pointer (some (s_.2.1.add (t462).toNat))), (19, .pointer (some (s_.2.2.2.add (t468).toNat)))]) (fun s_ w' => (Kd.R k69 69 w' w.heap.size (fun _ => True) (.slice Ao14 t453.length co14) t453) ∧ (Kd.R Kd.string 9 w' w.heap.size (fun k_ => some k_ ≠ (s_.2.2.1 : Value).ownBlock) s_.1 y459) ∧ (Kd.R Kd.string 9 w' w.heap.size (fun k_ => some k_ ≠ (s_.1 : Value).ownBlock) s_.2.2.1 y465) ∧ (∃ c_, (s_.1 : Value) = .slice (some s_.2.1) y459.length c_) ∧ (∃ c_, (s_.2.2.1 : Value) = .slice (some s_.2.2.2) y465.length c_) ∧ (IsS107 w0 w' g s0_0 t469) ∧ (KeepBut w w' g none) ∧ (Below w0.heap.size w0 w')) ?_ ?_
        rotate_left
        ·intro hJ1_3_5_6_8
         refine join_ (σ := Value × Addr × Value × Addr) 5 (bsA 15 2015) (fun s_ => [(11, s_.1), (13, .int .i64 t462), (16, s_.2.2.1), (18, .int .i64 t468), (20, .string (rdOf ByteArray.empty y465 t468)), (14, .pointer (some (s_.2.1.add (t462).toNat))), (19, .pointer (some (s_.2.2.2.add (t468).toNat)))]) (fun s_ w' => (Kd.R k69 69 w' w.heap.size (fun _ => True) (.slice Ao14 t453.length co14) t453) ∧ (Kd.R Kd.string 9 w' w.heap.size (fun k_ => some k_ ≠ (s_.2.2.1 : Value).ownBlock) s_.1 y459) ∧ (Kd.R Kd.string 9 w' w.heap.size (fun k_ => some k_ ≠ (s_.1 : Value).ownBlock) s_.2.2.1 y465) ∧ (∃ c_, (s_.1 : Value) = .slice (some s_.2.1) y459.length c_) ∧ (∃ c_, (s_.2.2.1 : Value) = .slice (some s_.2.2.2) y465.length c_) ∧ (IsS107 w0 w' g s0_0 t469) ∧ (KeepBut w w' g none) ∧ (Below w0.heap.size w0 w')) ?_ ?_
         rotate_left
         ·intro hJ1_3_6_8_10
          refine join_ (σ := Value × Addr × Value × Addr) 7 (bsA 15 255) (fun s_ => [(11, s_.1), (13, .int .i64 t462), (15, .string (rdOf ByteArray.empty y459 t462)), (16, s_.2.2.1), (14, .pointer (some (s_.2.1.add (t462).toNat)))]) (fun s_ w' => (Kd.R k69 69 w' w.heap.size (fun _ => True) (.slice Ao14 t453.length co14) t453) ∧ (Kd.R Kd.string 9 w' w.heap.size (fun k_ => some k_ ≠ (s_.2.2.1 : Value).ownBlock) s_.1 y459) ∧ (Kd.R Kd.string 9 w' w.heap.size (fun k_ => some k_ ≠ (s_.1 : Value).ownBlock) s_.2.2.1 y465) ∧ (∃ c_, (s_.1 : Value) = .slice (some s_.2.1) y459.length c_) ∧ (∃ c_, (s_.2.2.1 : Value) = .slice (some s_.2.2.2) y465.length c_) ∧ (IsS107 w0 w' g s0_0 t463) ∧ (KeepBut w w' g none) ∧ (Below w0.heap.size w0 w')) ?_ ?_
          rotate_left
          ·intro hJ1_3_5_6
           refine join_ (σ := Value × Addr) 7 (bsA 15 447) (fun s_ => [(11, s_.1), (13, .int .i64 t462), (15, .string (rdOf ByteArray.empty y459 t462)), (18, .int .i64 t468), (14, .pointer (some (s_.2.add (t462).toNat)))]) (fun s_ w' => (Kd.R k69 69 w' w.heap.size (fun _ => True) (.slice Ao14 t453.length co14) t453) ∧ (Kd.R Kd.string 9 w' w.heap.size (fun _ => True) s_.1 y459) ∧ (∃ c_, (s_.1 : Value) = .slice (some s_.2) y459.length c_) ∧ (IsS107 w0 w' g s0_0 t469) ∧ (KeepBut w w' g none) ∧ (Below w0.heap.size w0 w')) ?_ ?_
           rotate_left
           ·intro hJ1_3_5_8
            refine join_ (σ := Value × Addr × Value × Addr) 6 (bsA 15 991) (fun s_ => [(11, s_.1), (13, .int .i64 t462), (16, s_.2.2.1), (18, .int .i64 t468), (14, .pointer (some (s_.2.1.add (t462).toNat))), (19, .pointer (some (s_.2.2.2.add (t468).toNat)))]) (fun s_ w' => (Kd.R k69 69 w' w.heap.size (fun _ => True) (.slice Ao14 t453.length co14) t453) ∧ (Kd.R Kd.string 9 w' w.heap.size (fun k_ => some k_ ≠ (s_.2.2.1 : Value).ownBlock) s_.1 y459) ∧ (Kd.R Kd.string 9 w' w.heap.size (fun k_ => some k_ ≠ (s_.1 : Value).ownBlock) s_.2.2.1 y465) ∧ (∃ c_, (s_.1 : Value) = .slice (some s_.2.1) y459.length c_) ∧ (∃ c_, (s_.2.2.1 : Value) = .slice (some s_.2.2.2) y465.length c_) ∧ (IsS107 w0 w' g s0_0 t469) ∧ (KeepBut w w' g none) ∧ (Below w0.heap.size w0 w')) ?_ ?_
            rotate_left
            ·intro hJ1_3_6_8
             refine join_ (σ := Value × Addr) 7 (bsA 15 1997) (fun s_ => [(13, .int .i64 t462), (16, s_.1), (18, .int .i64 t468), (20, .string (rdOf ByteArray.empty y465 t468)), (19, .pointer (some (s_.2.add (t468).toNat)))]) (fun s_ w' => (Kd.R k69 69 w' w.heap.size (fun _ => True) (.slice Ao14 t453.length co14) t453) ∧ (Kd.R Kd.string 9 w' w.heap.size (fun _ => True) s_.1 y465) ∧ (∃ c_, (s_.1 : Value) = .slice (some s_.2) y465.length c_) ∧ (IsS107 w0 w' g s0_0 t469) ∧ (KeepBut w w' g none) ∧ (Below w0.heap.size w0 w')) ?_ ?_
             rotate_left
             ·intro hJ3_6_8_10
              refine join_ (σ := Value × Addr) 8 (bsA 15 191) (fun s_ => [(11, s_.1), (13, .int .i64 t462), (15, .string (rdOf ByteArray.empty y459 t462)), (14, .pointer (some (s_.2.add (t462).toNat)))]) (fun s_ w' => (Kd.R k69 69 w' w.heap.size (fun _ => True) (.slice Ao14 t453.length co14) t453) ∧ (Kd.R Kd.string 9 w' w.heap.size (fun _ => True) s_.1 y459) ∧ (∃ c_, (s_.1 : Value) = .slice (some s_.2) y459.length c_) ∧ (IsS107 w0 w' g s0_0 t463) ∧ (KeepBut w w' g none) ∧ (Below w0.heap.size w0 w')) ?_ ?_
              rotate_left
              ·intro hJ1_3_5
               refine join_ (σ := Value × Addr × Value × Addr) 8 (bsA 15 223) (fun s_ => [(11, s_.1), (13, .int .i64 t462), (16, s_.2.2.1), (14, .pointer (some (s_.2.1.add (t462).toNat)))]) (fun s_ w' => (Kd.R k69 69 w' w.heap.size (fun _ => True) (.slice Ao14 t453.length co14) t453) ∧ (Kd.R Kd.string 9 w' w.heap.size (fun k_ => some k_ ≠ (s_.2.2.1 : Value).ownBlock) s_.1 y459) ∧ (Kd.R Kd.string 9 w' w.heap.size (fun k_ => some k_ ≠ (s_.1 : Value).ownBlock) s_.2.2.1 y465) ∧ (∃ c_, (s_.1 : Value) = .slice (some s_.2.1) y459.length c_) ∧ (∃ c_, (s_.2.2.1 : Value) = .slice (some s_.2.2.2) y465.length c_) ∧ (IsS107 w0 w' g s0_0 t463) ∧ (KeepBut w w' g none) ∧ (Below w0.heap.size w0 w')) ?_ ?_
               rotate_left
               ·intro hJ1_3_6
                refine join_ (σ := Value × Addr) 8 (bsA 15 415) (fun s_ => [(11, s_.1), (13, .int .i64 t462), (18, .int .i64 t468), (14, .pointer (some (s_.2.add (t462).toNat)))]) (fun s_ w' => (Kd.R k69 69 w' w.heap.size (fun _ => True) (.slice Ao14 t453.length co14) t453) ∧ (Kd.R Kd.string 9 w' w.heap.size (fun _ => True) s_.1 y459) ∧ (∃ c_, (s_.1 : Value) = .slice (some s_.2) y459.length c_) ∧ (IsS107 w0 w' g s0_0 t469) ∧ (KeepBut w w' g none) ∧ (Below w0.heap.size w0 w')) ?_ ?_
                rotate_left
                ·intro hJ1_3_8
                 refine join_ (σ := Value × Addr) 8 (bsA 15 973) (fun s_ => [(13, .int .i64 t462), (16, s_.1), (18, .int .i64 t468), (19, .pointer (some (s_.2.add (t468).toNat)))]) (fun s_ w' => (Kd.R k69 69 w' w.heap.size (fun _ => True) (.slice Ao14 t453.length co14) t453) ∧ (Kd.R Kd.string 9 w' w.heap.size (fun _ => True) s_.1 y465) ∧ (∃ c_, (s_.1 : Value) = .slice (some s_.2) y465.length c_) ∧ (IsS107 w0 w' g s0_0 t469) ∧ (KeepBut w w' g none) ∧ (Below w0.heap.size w0 w')) ?_ ?_
                 rotate_left
                 ·intro hJ3_6_8
                  refine join_ (σ := Value × Addr) 9 (bsA 15 159) (fun s_ => [(11, s_.1), (13, .int .i64 t462), (14, .pointer (some (s_.2.add (t462).toNat)))]) (fun s_ w' => (Kd.R k69 69 w' w.heap.size (fun _ => True) (.slice Ao14 t453.length co14) t453) ∧ (Kd.R Kd.string 9 w' w.heap.size (fun _ => True) s_.1 y459) ∧ (∃ c_, (s_.1 : Value) = .slice (some s_.2) y459.length c_) ∧ (IsS107 w0 w' g s0_0 t463) ∧ (KeepBut w w' g none) ∧ (Below w0.heap.size w0 w')) ?_ ?_
                  rotate_left
                  ·intro hJ1_3
                   refine join_ (σ := Value × Addr × Value × Addr) 10 (bsA 15 199) (fun s_ => [(11, s_.1), (16, s_.2.2.1)]) (fun s_ w' => (Kd.R k69 69 w' w.heap.size (fun _ => True) (.slice Ao14 t453.length co14) t453) ∧ (Kd.R Kd.string 9 w' w.heap.size (fun k_ => some k_ ≠ (s_.2.2.1 : Value).ownBlock) s_.1 y459) ∧ (Kd.R Kd.string 9 w' w.heap.size (fun k_ => some k_ ≠ (s_.1 : Value).ownBlock) s_.2.2.1 y465) ∧ (∃ c_, (s_.1 : Value) = .slice (some s_.2.1) y459.length c_) ∧ (∃ c_, (s_.2.2.1 : Value) = .slice (some s_.2.2.2) y465.length c_) ∧ (IsS107 w0 w' g s0_0 t458) ∧ (KeepBut w w' g none) ∧ (Below w0.heap.size w0 w')) ?_ ?_
                   rotate_left
                   ·intro hJ1_6
                    refine join_ (σ := Value × Addr) 10 (bsA 15 205) (fun s_ => [(13, .int .i64 t462), (16, s_.1)]) (fun s_ w' => (Kd.R k69 69 w' w.heap.size (fun _ => True) (.slice Ao14 t453.length co14) t453) ∧ (Kd.R Kd.string 9 w' w.heap.size (fun _ => True) s_.1 y465) ∧ (∃ c_, (s_.1 : Value) = .slice (some s_.2) y465.length c_) ∧ (IsS107 w0 w' g s0_0 t463) ∧ (KeepBut w w' g none) ∧ (Below w0.heap.size w0 w')) ?_ ?_
                    rotate_left
                    ·intro hJ3_6
                     refine join_ (σ := Unit) 10 (bsA 15 397) (fun s_ => [(13, .int .i64 t462), (18, .int .i64 t468)]) (fun s_ w' => (Kd.R k69 69 w' w.heap.size (fun _ => True) (.slice Ao14 t453.length co14) t453) ∧ (IsS107 w0 w' g s0_0 t469) ∧ (KeepBut w w' g none) ∧ (Below w0.heap.size w0 w')) ?_ ?_
                     rotate_left
                     ·intro hJ3_8
                      refine join_ (σ := Value × Addr) 11 (bsA 15 135) (fun s_ => [(11, s_.1)]) (fun s_ w' => (Kd.R k69 69 w' w.heap.size (fun _ => True) (.slice Ao14 t453.length co14) t453) ∧ (Kd.R Kd.string 9 w' w.heap.size (fun _ => True) s_.1 y459) ∧ (∃ c_, (s_.1 : Value) = .slice (some s_.2) y459.length c_) ∧ (IsS107 w0 w' g s0_0 t458) ∧ (KeepBut w w' g none) ∧ (Below w0.heap.size w0 w')) ?_ ?_
                      rotate_left
                      ·intro hJ1
                       refine join_ (σ := Unit) 11 (bsA 15 141) (fun s_ => [(13, .int .i64 t462)]) (fun s_ w' => (Kd.R k69 69 w' w.heap.size (fun _ => True) (.slice Ao14 t453.length co14) t453) ∧ (IsS107 w0 w' g s0_0 t463) ∧ (KeepBut w w' g none) ∧ (Below w0.heap.size w0 w')) ?_ ?_
                       rotate_left
                       ·intro hJ3
                        refine join_ (σ := Value × Addr) 11 (bsA 15 197) (fun s_ => [(16, s_.1)]) (fun s_ w' => (Kd.R k69 69 w' w.heap.size (fun _ => True) (.slice Ao14 t453.length co14) t453) ∧ (Kd.R Kd.string 9 w' w.heap.size (fun _ => True) s_.1 y465) ∧ (∃ c_, (s_.1 : Value) = .slice (some s_.2) y465.length c_) ∧ (IsS107 w0 w' g s0_0 t458) ∧ (KeepBut w w' g none) ∧ (Below w0.heap.size w0 w')) ?_ ?_
                        rotate_left
                        ·intro hJ6
                         refine three_ (i := 1) (j := 3) (k := 6) (Ni := some 11) (Nj := some 13) (Nk := some 16) (bsA 15 135) (bsA 15 141) (bsA 15 197) rfl rfl rfl rfl rfl rfl (three_of HT_.out (by kernel_rfl)) (by decide) (by decide) (by decide) (fun K hK => ?_) (fun K hK => ?_) (fun K hK => ?_)
                         ·skip
                          refine Kd.R_lit_step Kd.string _ 9 ?hg (N := 11) ?hd (xs := ([(⟨#[]⟩ : ByteArray), (⟨#[97, 32, 98]⟩ : ByteArray), (⟨#[65]⟩ : ByteArray)] : List ByteArray)) (inner := [.string (⟨#[]⟩ : ByteArray), .string (⟨#[97, 32, 98]⟩ : ByteArray), .string (⟨#[65]⟩ : ByteArray)]) (ok := fun _ => True) (okp := fun _ => True) ?hr ?hp (fun _ hk => hk) trivial (Below.refl _ _) (Nat.le_refl _) (by simp) ?_; (case hd => rfl); (case hg => rfl); (case hr => exact z14); (case hp => exact (Reps.one (show Kd.M Kd.string _ _ _ (⟨#[]⟩ : ByteArray) [.string (⟨#[]⟩ : ByteArray)] from rfl) (Reps.one (show Kd.M Kd.string _ _ _ (⟨#[97, 32, 98]⟩ : ByteArray) [.string (⟨#[97, 32, 98]⟩ : ByteArray)] from rfl) (Reps.one (show Kd.M Kd.string _ _ _ (⟨#[65]⟩ : ByteArray) [.string (⟨#[65]⟩ : ByteArray)] from rfl) (Reps.none _ _)))))
                          intro v460 w16 ho17 hb hg_ hnew_
                          clear hg_ hnew_
                          (first | rw [← Ny459.out] at ho17 | (simp only [Int.reduceToNat] at ho17; rw [← Ny459.out] at ho17))
                          replace HO455 := Aside0.mk (Kd.R_below (bR HO455) hb)
                          have HO461 := Aside0.mk (Kd.R_lower ho17 (keep_size (w := w) (g := g) (row := none) z2))
                          replace HK := Aside0.mk (KeepBut.trans z2 (KeepBut.of_below hb g none) (.inl rfl))
                          replace HB := Aside0.mk (below_step (z1 HI0.out) hb)
                          replace HI0 := Aside0.mk (IsS107.below (z0 HI0.out) hb)
                          clear hb ho17
                          obtain ⟨Ao18, co18, eo18⟩ := Kd.R_slice HO461.out
                          subst eo18
                          obtain ⟨ado18, fo18, _⟩ := Kd.at_string (Kd.R_reads' HO461.out).2.2 0 (by decide) (by rw [Ny459.out]; simp)
                          cases fo18
                          refine hK.out _ _ trivial (fun hHeld => ?_)
                          clear hK K
                          refine na_ (N := some 11) (h := ?_)
                          exact norm_ z4 (hJ1 (.slice (some ado18) y459.length co18, ado18) _ ⟨(bR HO455), (bR HO461), ⟨_, rfl⟩, (z0 HI0.out), z2, (z1 HI0.out)⟩)
                         ·skip
                          refine goes_ Try.func91 (by kernel_rfl) rfl #[.pointer (some ⟨g, 0, none⟩), .int .i64 3] (by rfl) rfl rfl bM ?_
                          with_reducible refine (spec_l1Next.calls g s0_0 t458 3 t462 t463 w0 _ ?side1 ?side2 A5.out).mono ?_
                          (case side1 => exact z0 HI0.out)
                          (case side2 => exact z1 HI0.out)
                          rintro e w16 ⟨rfl, hi, hb, hk⟩
                          refine ⟨_, rfl, ?_⟩
                          replace HO455 := Aside0.mk (Kd.R_mono (Kd.R_keep (IsS107.apart (show IsS107 w0 _ g s0_0 t458 from z0 HI0.out) (bR HO455) (by decide)) hk (fun _ h => h.2)) (fun _ h => h.1))
                          replace HK := Aside0.mk (KeepBut.trans z2 hk (.inl rfl))
                          replace HB := Aside0.mk (hb)
                          replace HI0 := Aside0.mk (hi)
                          (try clear hb)
                          (try clear hb2)
                          (try clear hk)
                          (try clear hi)
                          refine hK.out _ _ trivial (fun hHeld => ?_)
                          clear hK K
                          refine na_ (N := some 13) (h := ?_)
                          exact norm_ z4 (hJ3 () _ ⟨(bR HO455), (z0 HI0.out), z2, (z1 HI0.out)⟩)
                         ·skip
                          refine Kd.R_lit_step Kd.string _ 9 ?hg (N := 16) ?hd (xs := ([(⟨#[120]⟩ : ByteArray), (⟨#[10]⟩ : ByteArray), (⟨#[127]⟩ : ByteArray)] : List ByteArray)) (inner := [.string (⟨#[120]⟩ : ByteArray), .string (⟨#[10]⟩ : ByteArray), .string (⟨#[127]⟩ : ByteArray)]) (ok := fun _ => True) (okp := fun _ => True) ?hr ?hp (fun _ hk => hk) trivial (Below.refl _ _) (Nat.le_refl _) (by simp) ?_; (case hd => rfl); (case hg => rfl); (case hr => exact z14); (case hp => exact (Reps.one (show Kd.M Kd.string _ _ _ (⟨#[120]⟩ : ByteArray) [.string (⟨#[120]⟩ : ByteArray)] from rfl) (Reps.one (show Kd.M Kd.string _ _ _ (⟨#[10]⟩ : ByteArray) [.string (⟨#[10]⟩ : ByteArray)] from rfl) (Reps.one (show Kd.M Kd.string _ _ _ (⟨#[127]⟩ : ByteArray) [.string (⟨#[127]⟩ : ByteArray)] from rfl) (Reps.none _ _)))))
                          intro v466 w16 ho17 hb hg_ hnew_
                          clear hg_ hnew_
                          (first | rw [← Ny465.out] at ho17 | (simp only [Int.reduceToNat] at ho17; rw [← Ny465.out] at ho17))
                          replace HO455 := Aside0.mk (Kd.R_below (bR HO455) hb)
                          have HO467 := Aside0.mk (Kd.R_lower ho17 (keep_size (w := w) (g := g) (row := none) z2))
                          replace HK := Aside0.mk (KeepBut.trans z2 (KeepBut.of_below hb g none) (.inl rfl))
                          replace HB := Aside0.mk (below_step (z1 HI0.out) hb)
                          replace HI0 := Aside0.mk (IsS107.below (z0 HI0.out) hb)
                          clear hb ho17
                          obtain ⟨Ao18, co18, eo18⟩ := Kd.R_slice HO467.out
                          subst eo18
                          obtain ⟨ado18, fo18, _⟩ := Kd.at_string (Kd.R_reads' HO467.out).2.2 0 (by decide) (by rw [Ny465.out]; simp)
                          cases fo18
                          refine hK.out _ _ trivial (fun hHeld => ?_)
                          clear hK K
                          refine na_ (N := some 16) (h := ?_)
                          exact norm_ z4 (hJ6 (.slice (some ado18) y465.length co18, ado18) _ ⟨(bR HO455), (bR HO467), ⟨_, rfl⟩, (z0 HI0.out), z2, (z1 HI0.out)⟩)
                        ·skip
                         rintro ⟨v466, adz_v466⟩ w19 ⟨h0_, h1_, h2_, h3_, h4_, h5_⟩
                         have n0_ : Aside0 (Kd.R k69 69 w19 w.heap.size (fun _ => True) (.slice Ao14 t453.length co14) t453) := ⟨h0_⟩
                         have n1_ : Aside0 (Kd.R Kd.string 9 w19 w.heap.size (fun _ => True) v466 y465) := ⟨h1_⟩
                         have n2_ : Aside0 (∃ c_, (v466 : Value) = .slice (some adz_v466) y465.length c_) := ⟨h2_⟩
                         have n3_ : Aside0 (IsS107 w0 w19 g s0_0 t458) := ⟨h3_⟩
                         have n4_ : Aside0 (KeepBut w w19 g none) := ⟨h4_⟩
                         have n5_ : Aside0 (Below w0.heap.size w0 w19) := ⟨h5_⟩
                         clear HO455
                         clear HI0
                         clear HK
                         clear HB
                         clear h0_ h1_ h2_ h3_ h4_ h5_
                         have HO455 := n0_
                         have HO467 := n1_
                         have HA_HO467 := n2_
                         have HI0 := n3_
                         have HK := n4_
                         have HB := n5_
                         clear n0_ n1_ n2_ n3_ n4_ n5_
                         have hHeld := trivial
                         obtain ⟨co20, eo20⟩ := HA_HO467.out
                         clear HA_HO467
                         subst eo20
                         refine norm_ (a' := ?_) ?_ ?_
                         rotate_left
                         ·simp only [putAll, Act.put, List.setIfInBounds_toArray, List.set_cons_zero, List.set_cons_succ]
                          rfl
                         refine two_ (i := 1) (j := 3) (Ni := some 11) (Nj := some 13) (bsA 15 199) (bsA 15 205) rfl rfl rfl rfl (two_of HT_.out (by kernel_rfl)) (by decide) (by decide) (fun K hK => ?_) (fun K hK => ?_)
                         ·skip
                          refine Kd.R_lit_step Kd.string _ 9 ?hg (N := 11) ?hd (xs := ([(⟨#[]⟩ : ByteArray), (⟨#[97, 32, 98]⟩ : ByteArray), (⟨#[65]⟩ : ByteArray)] : List ByteArray)) (inner := [.string (⟨#[]⟩ : ByteArray), .string (⟨#[97, 32, 98]⟩ : ByteArray), .string (⟨#[65]⟩ : ByteArray)]) (ok := fun _ => True) (okp := fun _ => True) ?hr ?hp (fun _ hk => hk) trivial (Below.refl _ _) (Nat.le_refl _) (by simp) ?_; (case hd => rfl); (case hg => rfl); (case hr => exact z14); (case hp => exact (Reps.one (show Kd.M Kd.string _ _ _ (⟨#[]⟩ : ByteArray) [.string (⟨#[]⟩ : ByteArray)] from rfl) (Reps.one (show Kd.M Kd.string _ _ _ (⟨#[97, 32, 98]⟩ : ByteArray) [.string (⟨#[97, 32, 98]⟩ : ByteArray)] from rfl) (Reps.one (show Kd.M Kd.string _ _ _ (⟨#[65]⟩ : ByteArray) [.string (⟨#[65]⟩ : ByteArray)] from rfl) (Reps.none _ _)))))
                          intro v460 w21 ho22 hb hg_ hnew_
                          clear hg_ hnew_
                          (first | rw [← Ny459.out] at ho22 | (simp only [Int.reduceToNat] at ho22; rw [← Ny459.out] at ho22))
                          replace HO455 := Aside0.mk (Kd.R_below (bR HO455) hb)
                          have HO461 := Aside0.mk (Kd.R_lower (Kd.R_new' ho22 (Kd.R_lt (bR HO467))) (keep_size (w := w) (g := g) (row := none) z2))
                          replace HO467 := Aside0.mk (Kd.R_elder' (bR HO467) (Kd.R_base ho22) hb)
                          replace HK := Aside0.mk (KeepBut.trans z2 (KeepBut.of_below hb g none) (.inl rfl))
                          replace HB := Aside0.mk (below_step (z1 HI0.out) hb)
                          replace HI0 := Aside0.mk (IsS107.below (z0 HI0.out) hb)
                          clear hb ho22
                          obtain ⟨Ao23, co23, eo23⟩ := Kd.R_slice HO461.out
                          subst eo23
                          obtain ⟨ado23, fo23, _⟩ := Kd.at_string (Kd.R_reads' HO461.out).2.2 0 (by decide) (by rw [Ny459.out]; simp)
                          cases fo23
                          refine hK.out _ _ trivial (fun hHeld => ?_)
                          clear hK K
                          refine na_ (N := some 11) (h := ?_)
                          exact norm_ z4 (hJ1_6 (.slice (some ado23) y459.length co23, ado23, .slice (some adz_v466) y465.length co20, adz_v466) _ ⟨(bR HO455), (z7 HO461.out), (z7 HO467.out), ⟨_, rfl⟩, ⟨_, rfl⟩, (z0 HI0.out), z2, (z1 HI0.out)⟩)
                         ·skip
                          refine goes_ Try.func91 (by kernel_rfl) rfl #[.pointer (some ⟨g, 0, none⟩), .int .i64 3] (by rfl) rfl rfl bM ?_
                          with_reducible refine (spec_l1Next.calls g s0_0 t458 3 t462 t463 w0 _ ?side1 ?side2 A5.out).mono ?_
                          (case side1 => exact z0 HI0.out)
                          (case side2 => exact z1 HI0.out)
                          rintro e w21 ⟨rfl, hi, hb, hk⟩
                          refine ⟨_, rfl, ?_⟩
                          replace HO455 := Aside0.mk (Kd.R_mono (Kd.R_keep (IsS107.apart (show IsS107 w0 _ g s0_0 t458 from z0 HI0.out) (bR HO455) (by decide)) hk (fun _ h => h.2)) (fun _ h => h.1))
                          replace HO467 := Aside0.mk (Kd.R_mono (Kd.R_keep (IsS107.apart (show IsS107 w0 _ g s0_0 t458 from z0 HI0.out) (bR HO467) (by decide)) hk (fun _ h => h.2)) (fun _ h => h.1))
                          replace HK := Aside0.mk (KeepBut.trans z2 hk (.inl rfl))
                          replace HB := Aside0.mk (hb)
                          replace HI0 := Aside0.mk (hi)
                          (try clear hb)
                          (try clear hb2)
                          (try clear hk)
                          (try clear hi)
                          refine hK.out _ _ trivial (fun hHeld => ?_)
                          clear hK K
                          refine na_ (N := some 13) (h := ?_)
                          exact norm_ z4 (hJ3_6 (.slice (some adz_v466) y465.length co20, adz_v466) _ ⟨(bR HO455), (bR HO467), ⟨_, rfl⟩, (z0 HI0.out), z2, (z1 HI0.out)⟩)
                       ·skip
                        rintro _ w17 ⟨h0_, h1_, h2_, h3_⟩
                        have n0_ : Aside0 (Kd.R k69 69 w17 w.heap.size (fun _ => True) (.slice Ao14 t453.length co14) t453) := ⟨h0_⟩
                        have n1_ : Aside0 (IsS107 w0 w17 g s0_0 t463) := ⟨h1_⟩
                        have n2_ : Aside0 (KeepBut w w17 g none) := ⟨h2_⟩
                        have n3_ : Aside0 (Below w0.heap.size w0 w17) := ⟨h3_⟩
                        clear HO455
                        clear HI0
                        clear HK
                        clear HB
                        clear h0_ h1_ h2_ h3_
                        have HO455 := n0_
                        have HI0 := n1_
                        have HK := n2_
                        have HB := n3_
                        clear n0_ n1_ n2_ n3_
                        have hHeld := trivial
                        refine norm_ (a' := ?_) ?_ ?_
                        rotate_left
                        ·simp only [putAll, Act.put, List.setIfInBounds_toArray, List.set_cons_zero, List.set_cons_succ]
                         rfl
                        refine three_ (i := 1) (j := 6) (k := 8) (Ni := some 11) (Nj := some 16) (Nk := some 18) (bsA 15 143) (bsA 15 205) (bsA 15 397) rfl rfl rfl rfl rfl rfl (three_of HT_.out (by kernel_rfl)) (by decide) (by decide) (by decide) (fun K hK => ?_) (fun K hK => ?_) (fun K hK => ?_)
                        ·skip
                         refine Kd.R_lit_step Kd.string _ 9 ?hg (N := 11) ?hd (xs := ([(⟨#[]⟩ : ByteArray), (⟨#[97, 32, 98]⟩ : ByteArray), (⟨#[65]⟩ : ByteArray)] : List ByteArray)) (inner := [.string (⟨#[]⟩ : ByteArray), .string (⟨#[97, 32, 98]⟩ : ByteArray), .string (⟨#[65]⟩ : ByteArray)]) (ok := fun _ => True) (okp := fun _ => True) ?hr ?hp (fun _ hk => hk) trivial (Below.refl _ _) (Nat.le_refl _) (by simp) ?_; (case hd => rfl); (case hg => rfl); (case hr => exact z14); (case hp => exact (Reps.one (show Kd.M Kd.string _ _ _ (⟨#[]⟩ : ByteArray) [.string (⟨#[]⟩ : ByteArray)] from rfl) (Reps.one (show Kd.M Kd.string _ _ _ (⟨#[97, 32, 98]⟩ : ByteArray) [.string (⟨#[97, 32, 98]⟩ : ByteArray)] from rfl) (Reps.one (show Kd.M Kd.string _ _ _ (⟨#[65]⟩ : ByteArray) [.string (⟨#[65]⟩ : ByteArray)] from rfl) (Reps.none _ _)))))
                         intro v460 w18 ho19 hb hg_ hnew_
                         clear hg_ hnew_
                         (first | rw [← Ny459.out] at ho19 | (simp only [Int.reduceToNat] at ho19; rw [← Ny459.out] at ho19))
                         replace HO455 := Aside0.mk (Kd.R_below (bR HO455) hb)
                         have HO461 := Aside0.mk (Kd.R_lower ho19 (keep_size (w := w) (g := g) (row := none) z2))
                         replace HK := Aside0.mk (KeepBut.trans z2 (KeepBut.of_below hb g none) (.inl rfl))
                         replace HB := Aside0.mk (below_step (z1 HI0.out) hb)
                         replace HI0 := Aside0.mk (IsS107.below (z0 HI0.out) hb)
                         clear hb ho19
                         obtain ⟨Ao20, co20, eo20⟩ := Kd.R_slice HO461.out
                         subst eo20
                         obtain ⟨ado20, fo20, _⟩ := Kd.at_string (Kd.R_reads' HO461.out).2.2 0 (by decide) (by rw [Ny459.out]; simp)
                         cases fo20
                         refine hK.out _ _ trivial (fun hHeld => ?_)
                         clear hK K
                         refine na_ (N := some 11) (h := ?_)
                         refine pa_ (i := 4) (N := some 14) (bsA 15 159) (h := ?_)
                         exact norm_ z4 (hJ1_3 (.slice (some ado20) y459.length co20, ado20) _ ⟨(bR HO455), (bR HO461), ⟨_, rfl⟩, (z0 HI0.out), z2, (z1 HI0.out)⟩)
                        ·skip
                         refine Kd.R_lit_step Kd.string _ 9 ?hg (N := 16) ?hd (xs := ([(⟨#[120]⟩ : ByteArray), (⟨#[10]⟩ : ByteArray), (⟨#[127]⟩ : ByteArray)] : List ByteArray)) (inner := [.string (⟨#[120]⟩ : ByteArray), .string (⟨#[10]⟩ : ByteArray), .string (⟨#[127]⟩ : ByteArray)]) (ok := fun _ => True) (okp := fun _ => True) ?hr ?hp (fun _ hk => hk) trivial (Below.refl _ _) (Nat.le_refl _) (by simp) ?_; (case hd => rfl); (case hg => rfl); (case hr => exact z14); (case hp => exact (Reps.one (show Kd.M Kd.string _ _ _ (⟨#[120]⟩ : ByteArray) [.string (⟨#[120]⟩ : ByteArray)] from rfl) (Reps.one (show Kd.M Kd.string _ _ _ (⟨#[10]⟩ : ByteArray) [.string (⟨#[10]⟩ : ByteArray)] from rfl) (Reps.one (show Kd.M Kd.string _ _ _ (⟨#[127]⟩ : ByteArray) [.string (⟨#[127]⟩ : ByteArray)] from rfl) (Reps.none _ _)))))
                         intro v466 w18 ho19 hb hg_ hnew_
                         clear hg_ hnew_
                         (first | rw [← Ny465.out] at ho19 | (simp only [Int.reduceToNat] at ho19; rw [← Ny465.out] at ho19))
                         replace HO455 := Aside0.mk (Kd.R_below (bR HO455) hb)
                         have HO467 := Aside0.mk (Kd.R_lower ho19 (keep_size (w := w) (g := g) (row := none) z2))
                         replace HK := Aside0.mk (KeepBut.trans z2 (KeepBut.of_below hb g none) (.inl rfl))
                         replace HB := Aside0.mk (below_step (z1 HI0.out) hb)
                         replace HI0 := Aside0.mk (IsS107.below (z0 HI0.out) hb)
                         clear hb ho19
                         obtain ⟨Ao20, co20, eo20⟩ := Kd.R_slice HO467.out
                         subst eo20
                         obtain ⟨ado20, fo20, _⟩ := Kd.at_string (Kd.R_reads' HO467.out).2.2 0 (by decide) (by rw [Ny465.out]; simp)
                         cases fo20
                         refine hK.out _ _ trivial (fun hHeld => ?_)
                         clear hK K
                         refine na_ (N := some 16) (h := ?_)
                         exact norm_ z4 (hJ3_6 (.slice (some ado20) y465.length co20, ado20) _ ⟨(bR HO455), (bR HO467), ⟨_, rfl⟩, (z0 HI0.out), z2, (z1 HI0.out)⟩)
                        ·skip
                         refine goes_ Try.func91 (by kernel_rfl) rfl #[.pointer (some ⟨g, 0, none⟩), .int .i64 3] (by rfl) rfl rfl bM ?_
                         with_reducible refine (spec_l1Next.calls g s0_0 t463 3 t468 t469 w0 _ ?side1 ?side2 A8.out).mono ?_
                         (case side1 => exact z0 HI0.out)
                         (case side2 => exact z1 HI0.out)
                         rintro e w18 ⟨rfl, hi, hb, hk⟩
                         refine ⟨_, rfl, ?_⟩
                         replace HO455 := Aside0.mk (Kd.R_mono (Kd.R_keep (IsS107.apart (show IsS107 w0 _ g s0_0 t463 from z0 HI0.out) (bR HO455) (by decide)) hk (fun _ h => h.2)) (fun _ h => h.1))
                         replace HK := Aside0.mk (KeepBut.trans z2 hk (.inl rfl))
                         replace HB := Aside0.mk (hb)
                         replace HI0 := Aside0.mk (hi)
                         (try clear hb)
                         (try clear hb2)
                         (try clear hk)
                         (try clear hi)
                         refine hK.out _ _ trivial (fun hHeld => ?_)
                         clear hK K
                         refine na_ (N := some 18) (h := ?_)
                         exact norm_ z4 (hJ3_8 () _ ⟨(bR HO455), (z0 HI0.out), z2, (z1 HI0.out)⟩)
                      ·skip
                       rintro ⟨v460, adz_v460⟩ w19 ⟨h0_, h1_, h2_, h3_, h4_, h5_⟩
                       have n0_ : Aside0 (Kd.R k69 69 w19 w.heap.size (fun _ => True) (.slice Ao14 t453.length co14) t453) := ⟨h0_⟩
                       have n1_ : Aside0 (Kd.R Kd.string 9 w19 w.heap.size (fun _ => True) v460 y459) := ⟨h1_⟩
                       have n2_ : Aside0 (∃ c_, (v460 : Value) = .slice (some adz_v460) y459.length c_) := ⟨h2_⟩
                       have n3_ : Aside0 (IsS107 w0 w19 g s0_0 t458) := ⟨h3_⟩
                       have n4_ : Aside0 (KeepBut w w19 g none) := ⟨h4_⟩
                       have n5_ : Aside0 (Below w0.heap.size w0 w19) := ⟨h5_⟩
                       clear HO455
                       clear HI0
                       clear HK
                       clear HB
                       clear h0_ h1_ h2_ h3_ h4_ h5_
                       have HO455 := n0_
                       have HO461 := n1_
                       have HA_HO461 := n2_
                       have HI0 := n3_
                       have HK := n4_
                       have HB := n5_
                       clear n0_ n1_ n2_ n3_ n4_ n5_
                       have hHeld := trivial
                       obtain ⟨co20, eo20⟩ := HA_HO461.out
                       clear HA_HO461
                       subst eo20
                       refine norm_ (a' := ?_) ?_ ?_
                       rotate_left
                       ·simp only [putAll, Act.put, List.setIfInBounds_toArray, List.set_cons_zero, List.set_cons_succ]
                        rfl
                       refine two_ (i := 3) (j := 6) (Ni := some 13) (Nj := some 16) (bsA 15 143) (bsA 15 199) rfl rfl rfl rfl (two_of HT_.out (by kernel_rfl)) (by decide) (by decide) (fun K hK => ?_) (fun K hK => ?_)
                       ·skip
                        refine goes_ Try.func91 (by kernel_rfl) rfl #[.pointer (some ⟨g, 0, none⟩), .int .i64 3] (by rfl) rfl rfl bM ?_
                        with_reducible refine (spec_l1Next.calls g s0_0 t458 3 t462 t463 w0 _ ?side1 ?side2 A5.out).mono ?_
                        (case side1 => exact z0 HI0.out)
                        (case side2 => exact z1 HI0.out)
                        rintro e w21 ⟨rfl, hi, hb, hk⟩
                        refine ⟨_, rfl, ?_⟩
                        replace HO455 := Aside0.mk (Kd.R_mono (Kd.R_keep (IsS107.apart (show IsS107 w0 _ g s0_0 t458 from z0 HI0.out) (bR HO455) (by decide)) hk (fun _ h => h.2)) (fun _ h => h.1))
                        replace HO461 := Aside0.mk (Kd.R_mono (Kd.R_keep (IsS107.apart (show IsS107 w0 _ g s0_0 t458 from z0 HI0.out) (bR HO461) (by decide)) hk (fun _ h => h.2)) (fun _ h => h.1))
                        replace HK := Aside0.mk (KeepBut.trans z2 hk (.inl rfl))
                        replace HB := Aside0.mk (hb)
                        replace HI0 := Aside0.mk (hi)
                        (try clear hb)
                        (try clear hb2)
                        (try clear hk)
                        (try clear hi)
                        refine hK.out _ _ trivial (fun hHeld => ?_)
                        clear hK K
                        refine na_ (N := some 13) (h := ?_)
                        refine pa_ (i := 4) (N := some 14) (bsA 15 159) (h := ?_)
                        exact norm_ z4 (hJ1_3 (.slice (some adz_v460) y459.length co20, adz_v460) _ ⟨(bR HO455), (bR HO461), ⟨_, rfl⟩, (z0 HI0.out), z2, (z1 HI0.out)⟩)
                       ·skip
                        refine Kd.R_lit_step Kd.string _ 9 ?hg (N := 16) ?hd (xs := ([(⟨#[120]⟩ : ByteArray), (⟨#[10]⟩ : ByteArray), (⟨#[127]⟩ : ByteArray)] : List ByteArray)) (inner := [.string (⟨#[120]⟩ : ByteArray), .string (⟨#[10]⟩ : ByteArray), .string (⟨#[127]⟩ : ByteArray)]) (ok := fun _ => True) (okp := fun _ => True) ?hr ?hp (fun _ hk => hk) trivial (Below.refl _ _) (Nat.le_refl _) (by simp) ?_; (case hd => rfl); (case hg => rfl); (case hr => exact z14); (case hp => exact (Reps.one (show Kd.M Kd.string _ _ _ (⟨#[120]⟩ : ByteArray) [.string (⟨#[120]⟩ : ByteArray)] from rfl) (Reps.one (show Kd.M Kd.string _ _ _ (⟨#[10]⟩ : ByteArray) [.string (⟨#[10]⟩ : ByteArray)] from rfl) (Reps.one (show Kd.M Kd.string _ _ _ (⟨#[127]⟩ : ByteArray) [.string (⟨#[127]⟩ : ByteArray)] from rfl) (Reps.none _ _)))))
                        intro v466 w21 ho22 hb hg_ hnew_
                        clear hg_ hnew_
                        (first | rw [← Ny465.out] at ho22 | (simp only [Int.reduceToNat] at ho22; rw [← Ny465.out] at ho22))
                        replace HO455 := Aside0.mk (Kd.R_below (bR HO455) hb)
                        have HO467 := Aside0.mk (Kd.R_lower (Kd.R_new' ho22 (Kd.R_lt (bR HO461))) (keep_size (w := w) (g := g) (row := none) z2))
                        replace HO461 := Aside0.mk (Kd.R_elder' (bR HO461) (Kd.R_base ho22) hb)
                        replace HK := Aside0.mk (KeepBut.trans z2 (KeepBut.of_below hb g none) (.inl rfl))
                        replace HB := Aside0.mk (below_step (z1 HI0.out) hb)
                        replace HI0 := Aside0.mk (IsS107.below (z0 HI0.out) hb)
                        clear hb ho22
                        obtain ⟨Ao23, co23, eo23⟩ := Kd.R_slice HO467.out
                        subst eo23
                        obtain ⟨ado23, fo23, _⟩ := Kd.at_string (Kd.R_reads' HO467.out).2.2 0 (by decide) (by rw [Ny465.out]; simp)
                        cases fo23
                        refine hK.out _ _ trivial (fun hHeld => ?_)
                        clear hK K
                        refine na_ (N := some 16) (h := ?_)
                        exact norm_ z4 (hJ1_6 (.slice (some adz_v460) y459.length co20, adz_v460, .slice (some ado23) y465.length co23, ado23) _ ⟨(bR HO455), (z7 HO461.out), (z7 HO467.out), ⟨_, rfl⟩, ⟨_, rfl⟩, (z0 HI0.out), z2, (z1 HI0.out)⟩)
                     ·skip
                      rintro _ w18 ⟨h0_, h1_, h2_, h3_⟩
                      have n0_ : Aside0 (Kd.R k69 69 w18 w.heap.size (fun _ => True) (.slice Ao14 t453.length co14) t453) := ⟨h0_⟩
                      have n1_ : Aside0 (IsS107 w0 w18 g s0_0 t469) := ⟨h1_⟩
                      have n2_ : Aside0 (KeepBut w w18 g none) := ⟨h2_⟩
                      have n3_ : Aside0 (Below w0.heap.size w0 w18) := ⟨h3_⟩
                      clear HO455
                      clear HI0
                      clear HK
                      clear HB
                      clear h0_ h1_ h2_ h3_
                      have HO455 := n0_
                      have HI0 := n1_
                      have HK := n2_
                      have HB := n3_
                      clear n0_ n1_ n2_ n3_
                      have hHeld := trivial
                      refine norm_ (a' := ?_) ?_ ?_
                      rotate_left
                      ·simp only [putAll, Act.put, List.setIfInBounds_toArray, List.set_cons_zero, List.set_cons_succ]
                       rfl
                      refine two_ (i := 1) (j := 6) (Ni := some 11) (Nj := some 16) (bsA 15 399) (bsA 15 461) rfl rfl rfl rfl (two_of HT_.out (by kernel_rfl)) (by decide) (by decide) (fun K hK => ?_) (fun K hK => ?_)
                      ·skip
                       refine Kd.R_lit_step Kd.string _ 9 ?hg (N := 11) ?hd (xs := ([(⟨#[]⟩ : ByteArray), (⟨#[97, 32, 98]⟩ : ByteArray), (⟨#[65]⟩ : ByteArray)] : List ByteArray)) (inner := [.string (⟨#[]⟩ : ByteArray), .string (⟨#[97, 32, 98]⟩ : ByteArray), .string (⟨#[65]⟩ : ByteArray)]) (ok := fun _ => True) (okp := fun _ => True) ?hr ?hp (fun _ hk => hk) trivial (Below.refl _ _) (Nat.le_refl _) (by simp) ?_; (case hd => rfl); (case hg => rfl); (case hr => exact z14); (case hp => exact (Reps.one (show Kd.M Kd.string _ _ _ (⟨#[]⟩ : ByteArray) [.string (⟨#[]⟩ : ByteArray)] from rfl) (Reps.one (show Kd.M Kd.string _ _ _ (⟨#[97, 32, 98]⟩ : ByteArray) [.string (⟨#[97, 32, 98]⟩ : ByteArray)] from rfl) (Reps.one (show Kd.M Kd.string _ _ _ (⟨#[65]⟩ : ByteArray) [.string (⟨#[65]⟩ : ByteArray)] from rfl) (Reps.none _ _)))))
                       intro v460 w19 ho20 hb hg_ hnew_
                       clear hg_ hnew_
                       (first | rw [← Ny459.out] at ho20 | (simp only [Int.reduceToNat] at ho20; rw [← Ny459.out] at ho20))
                       replace HO455 := Aside0.mk (Kd.R_below (bR HO455) hb)
                       have HO461 := Aside0.mk (Kd.R_lower ho20 (keep_size (w := w) (g := g) (row := none) z2))
                       replace HK := Aside0.mk (KeepBut.trans z2 (KeepBut.of_below hb g none) (.inl rfl))
                       replace HB := Aside0.mk (below_step (z1 HI0.out) hb)
                       replace HI0 := Aside0.mk (IsS107.below (z0 HI0.out) hb)
                       clear hb ho20
                       obtain ⟨Ao21, co21, eo21⟩ := Kd.R_slice HO461.out
                       subst eo21
                       obtain ⟨ado21, fo21, _⟩ := Kd.at_string (Kd.R_reads' HO461.out).2.2 0 (by decide) (by rw [Ny459.out]; simp)
                       cases fo21
                       refine hK.out _ _ trivial (fun hHeld => ?_)
                       clear hK K
                       refine na_ (N := some 11) (h := ?_)
                       refine pa_ (i := 4) (N := some 14) (bsA 15 415) (h := ?_)
                       exact norm_ z4 (hJ1_3_8 (.slice (some ado21) y459.length co21, ado21) _ ⟨(bR HO455), (bR HO461), ⟨_, rfl⟩, (z0 HI0.out), z2, (z1 HI0.out)⟩)
                      ·skip
                       refine Kd.R_lit_step Kd.string _ 9 ?hg (N := 16) ?hd (xs := ([(⟨#[120]⟩ : ByteArray), (⟨#[10]⟩ : ByteArray), (⟨#[127]⟩ : ByteArray)] : List ByteArray)) (inner := [.string (⟨#[120]⟩ : ByteArray), .string (⟨#[10]⟩ : ByteArray), .string (⟨#[127]⟩ : ByteArray)]) (ok := fun _ => True) (okp := fun _ => True) ?hr ?hp (fun _ hk => hk) trivial (Below.refl _ _) (Nat.le_refl _) (by simp) ?_; (case hd => rfl); (case hg => rfl); (case hr => exact z14); (case hp => exact (Reps.one (show Kd.M Kd.string _ _ _ (⟨#[120]⟩ : ByteArray) [.string (⟨#[120]⟩ : ByteArray)] from rfl) (Reps.one (show Kd.M Kd.string _ _ _ (⟨#[10]⟩ : ByteArray) [.string (⟨#[10]⟩ : ByteArray)] from rfl) (Reps.one (show Kd.M Kd.string _ _ _ (⟨#[127]⟩ : ByteArray) [.string (⟨#[127]⟩ : ByteArray)] from rfl) (Reps.none _ _)))))
                       intro v466 w19 ho20 hb hg_ hnew_
                       clear hg_ hnew_
                       (first | rw [← Ny465.out] at ho20 | (simp only [Int.reduceToNat] at ho20; rw [← Ny465.out] at ho20))
                       replace HO455 := Aside0.mk (Kd.R_below (bR HO455) hb)
                       have HO467 := Aside0.mk (Kd.R_lower ho20 (keep_size (w := w) (g := g) (row := none) z2))
                       replace HK := Aside0.mk (KeepBut.trans z2 (KeepBut.of_below hb g none) (.inl rfl))
                       replace HB := Aside0.mk (below_step (z1 HI0.out) hb)
                       replace HI0 := Aside0.mk (IsS107.below (z0 HI0.out) hb)
                       clear hb ho20
                       obtain ⟨Ao21, co21, eo21⟩ := Kd.R_slice HO467.out
                       subst eo21
                       obtain ⟨ado21, fo21, _⟩ := Kd.at_string (Kd.R_reads' HO467.out).2.2 0 (by decide) (by rw [Ny465.out]; simp)
                       cases fo21
                       refine hK.out _ _ trivial (fun hHeld => ?_)
                       clear hK K
                       refine na_ (N := some 16) (h := ?_)
                       refine pa_ (i := 9) (N := some 19) (bsA 15 973) (h := ?_)
                       exact norm_ z4 (hJ3_6_8 (.slice (some ado21) y465.length co21, ado21) _ ⟨(bR HO455), (bR HO467), ⟨_, rfl⟩, (z0 HI0.out), z2, (z1 HI0.out)⟩)
                    ·skip
                     rintro ⟨v466, adz_v466⟩ w20 ⟨h0_, h1_, h2_, h3_, h4_, h5_⟩
                     have n0_ : Aside0 (Kd.R k69 69 w20 w.heap.size (fun _ => True) (.slice Ao14 t453.length co14) t453) := ⟨h0_⟩
                     have n1_ : Aside0 (Kd.R Kd.string 9 w20 w.heap.size (fun _ => True) v466 y465) := ⟨h1_⟩
                     have n2_ : Aside0 (∃ c_, (v466 : Value) = .slice (some adz_v466) y465.length c_) := ⟨h2_⟩
                     have n3_ : Aside0 (IsS107 w0 w20 g s0_0 t463) := ⟨h3_⟩
                     have n4_ : Aside0 (KeepBut w w20 g none) := ⟨h4_⟩
                     have n5_ : Aside0 (Below w0.heap.size w0 w20) := ⟨h5_⟩
                     clear HO455
                     clear HI0
                     clear HK
                     clear HB
                     clear h0_ h1_ h2_ h3_ h4_ h5_
                     have HO455 := n0_
                     have HO467 := n1_
                     have HA_HO467 := n2_
                     have HI0 := n3_
                     have HK := n4_
                     have HB := n5_
                     clear n0_ n1_ n2_ n3_ n4_ n5_
                     have hHeld := trivial
                     obtain ⟨co21, eo21⟩ := HA_HO467.out
                     clear HA_HO467
                     subst eo21
                     refine norm_ (a' := ?_) ?_ ?_
                     rotate_left
                     ·simp only [putAll, Act.put, List.setIfInBounds_toArray, List.set_cons_zero, List.set_cons_succ]
                      rfl
                     refine two_ (i := 1) (j := 8) (Ni := some 11) (Nj := some 18) (bsA 15 207) (bsA 15 461) rfl rfl rfl rfl (two_of HT_.out (by kernel_rfl)) (by decide) (by decide) (fun K hK => ?_) (fun K hK => ?_)
                     ·skip
                      refine Kd.R_lit_step Kd.string _ 9 ?hg (N := 11) ?hd (xs := ([(⟨#[]⟩ : ByteArray), (⟨#[97, 32, 98]⟩ : ByteArray), (⟨#[65]⟩ : ByteArray)] : List ByteArray)) (inner := [.string (⟨#[]⟩ : ByteArray), .string (⟨#[97, 32, 98]⟩ : ByteArray), .string (⟨#[65]⟩ : ByteArray)]) (ok := fun _ => True) (okp := fun _ => True) ?hr ?hp (fun _ hk => hk) trivial (Below.refl _ _) (Nat.le_refl _) (by simp) ?_; (case hd => rfl); (case hg => rfl); (case hr => exact z14); (case hp => exact (Reps.one (show Kd.M Kd.string _ _ _ (⟨#[]⟩ : ByteArray) [.string (⟨#[]⟩ : ByteArray)] from rfl) (Reps.one (show Kd.M Kd.string _ _ _ (⟨#[97, 32, 98]⟩ : ByteArray) [.string (⟨#[97, 32, 98]⟩ : ByteArray)] from rfl) (Reps.one (show Kd.M Kd.string _ _ _ (⟨#[65]⟩ : ByteArray) [.string (⟨#[65]⟩ : ByteArray)] from rfl) (Reps.none _ _)))))
                      intro v460 w22 ho23 hb hg_ hnew_
                      clear hg_ hnew_
                      (first | rw [← Ny459.out] at ho23 | (simp only [Int.reduceToNat] at ho23; rw [← Ny459.out] at ho23))
                      replace HO455 := Aside0.mk (Kd.R_below (bR HO455) hb)
                      have HO461 := Aside0.mk (Kd.R_lower (Kd.R_new' ho23 (Kd.R_lt (bR HO467))) (keep_size (w := w) (g := g) (row := none) z2))
                      replace HO467 := Aside0.mk (Kd.R_elder' (bR HO467) (Kd.R_base ho23) hb)
                      replace HK := Aside0.mk (KeepBut.trans z2 (KeepBut.of_below hb g none) (.inl rfl))
                      replace HB := Aside0.mk (below_step (z1 HI0.out) hb)
                      replace HI0 := Aside0.mk (IsS107.below (z0 HI0.out) hb)
                      clear hb ho23
                      obtain ⟨Ao24, co24, eo24⟩ := Kd.R_slice HO461.out
                      subst eo24
                      obtain ⟨ado24, fo24, _⟩ := Kd.at_string (Kd.R_reads' HO461.out).2.2 0 (by decide) (by rw [Ny459.out]; simp)
                      cases fo24
                      refine hK.out _ _ trivial (fun hHeld => ?_)
                      clear hK K
                      refine na_ (N := some 11) (h := ?_)
                      refine pa_ (i := 4) (N := some 14) (bsA 15 223) (h := ?_)
                      exact norm_ z4 (hJ1_3_6 (.slice (some ado24) y459.length co24, ado24, .slice (some adz_v466) y465.length co21, adz_v466) _ ⟨(bR HO455), (z7 HO461.out), (z7 HO467.out), ⟨_, rfl⟩, ⟨_, rfl⟩, (z0 HI0.out), z2, (z1 HI0.out)⟩)
                     ·skip
                      refine goes_ Try.func91 (by kernel_rfl) rfl #[.pointer (some ⟨g, 0, none⟩), .int .i64 3] (by rfl) rfl rfl bM ?_
                      with_reducible refine (spec_l1Next.calls g s0_0 t463 3 t468 t469 w0 _ ?side1 ?side2 A8.out).mono ?_
                      (case side1 => exact z0 HI0.out)
                      (case side2 => exact z1 HI0.out)
                      rintro e w22 ⟨rfl, hi, hb, hk⟩
                      refine ⟨_, rfl, ?_⟩
                      replace HO455 := Aside0.mk (Kd.R_mono (Kd.R_keep (IsS107.apart (show IsS107 w0 _ g s0_0 t463 from z0 HI0.out) (bR HO455) (by decide)) hk (fun _ h => h.2)) (fun _ h => h.1))
                      replace HO467 := Aside0.mk (Kd.R_mono (Kd.R_keep (IsS107.apart (show IsS107 w0 _ g s0_0 t463 from z0 HI0.out) (bR HO467) (by decide)) hk (fun _ h => h.2)) (fun _ h => h.1))
                      replace HK := Aside0.mk (KeepBut.trans z2 hk (.inl rfl))
                      replace HB := Aside0.mk (hb)
                      replace HI0 := Aside0.mk (hi)
                      (try clear hb)
                      (try clear hb2)
                      (try clear hk)
                      (try clear hi)
                      refine hK.out _ _ trivial (fun hHeld => ?_)
                      clear hK K
                      refine na_ (N := some 18) (h := ?_)
                      refine pa_ (i := 9) (N := some 19) (bsA 15 973) (h := ?_)
                      exact norm_ z4 (hJ3_6_8 (.slice (some adz_v466) y465.length co21, adz_v466) _ ⟨(bR HO455), (bR HO467), ⟨_, rfl⟩, (z0 HI0.out), z2, (z1 HI0.out)⟩)
                   ·skip
                    rintro ⟨v460, adz_v460, v466, adz_v466⟩ w22 ⟨h0_, h1_, h2_, h3_, h4_, h5_, h6_, h7_⟩
                    have n0_ : Aside0 (Kd.R k69 69 w22 w.heap.size (fun _ => True) (.slice Ao14 t453.length co14) t453) := ⟨h0_⟩
                    have n1_ : Aside0 (Kd.R Kd.string 9 w22 w.heap.size (fun k_ => some k_ ≠ (v466 : Value).ownBlock) v460 y459) := ⟨h1_⟩
                    have n2_ : Aside0 (Kd.R Kd.string 9 w22 w.heap.size (fun k_ => some k_ ≠ (v460 : Value).ownBlock) v466 y465) := ⟨h2_⟩
                    have n3_ : Aside0 (∃ c_, (v460 : Value) = .slice (some adz_v460) y459.length c_) := ⟨h3_⟩
                    have n4_ : Aside0 (∃ c_, (v466 : Value) = .slice (some adz_v466) y465.length c_) := ⟨h4_⟩
                    have n5_ : Aside0 (IsS107 w0 w22 g s0_0 t458) := ⟨h5_⟩
                    have n6_ : Aside0 (KeepBut w w22 g none) := ⟨h6_⟩
                    have n7_ : Aside0 (Below w0.heap.size w0 w22) := ⟨h7_⟩
                    clear HO455
                    clear HI0
                    clear HK
                    clear HB
                    clear h0_ h1_ h2_ h3_ h4_ h5_ h6_ h7_
                    have HO455 := n0_
                    have HO461 := n1_
                    have HO467 := n2_
                    have HA_HO461 := n3_
                    have HA_HO467 := n4_
                    have HI0 := n5_
                    have HK := n6_
                    have HB := n7_
                    clear n0_ n1_ n2_ n3_ n4_ n5_ n6_ n7_
                    have hHeld := trivial
                    obtain ⟨co23, eo23⟩ := HA_HO461.out
                    clear HA_HO461
                    subst eo23
                    obtain ⟨co24, eo24⟩ := HA_HO467.out
                    clear HA_HO467
                    subst eo24
                    refine norm_ (a' := ?_) ?_ ?_
                    rotate_left
                    ·simp only [putAll, Act.put, List.setIfInBounds_toArray, List.set_cons_zero, List.set_cons_succ]
                     rfl
                    refine one_ (i := 3) (N := some 13) (bsA 15 207) rfl rfl (one_of HT_.out (by kernel_rfl)) (by decide) (fun K hK => ?_)
                    refine goes_ Try.func91 (by kernel_rfl) rfl #[.pointer (some ⟨g, 0, none⟩), .int .i64 3] (by rfl) rfl rfl bM ?_
                    with_reducible refine (spec_l1Next.calls g s0_0 t458 3 t462 t463 w0 _ ?side1 ?side2 A5.out).mono ?_
                    (case side1 => exact z0 HI0.out)
                    (case side2 => exact z1 HI0.out)
                    rintro e w25 ⟨rfl, hi, hb, hk⟩
                    refine ⟨_, rfl, ?_⟩
                    replace HO455 := Aside0.mk (Kd.R_mono (Kd.R_keep (IsS107.apart (show IsS107 w0 _ g s0_0 t458 from z0 HI0.out) (bR HO455) (by decide)) hk (fun _ h => h.2)) (fun _ h => h.1))
                    replace HO461 := Aside0.mk (Kd.R_mono (Kd.R_keep (IsS107.apart (show IsS107 w0 _ g s0_0 t458 from z0 HI0.out) (bR HO461) (by decide)) hk (fun _ h => h.2)) (fun _ h => h.1))
                    replace HO467 := Aside0.mk (Kd.R_mono (Kd.R_keep (IsS107.apart (show IsS107 w0 _ g s0_0 t458 from z0 HI0.out) (bR HO467) (by decide)) hk (fun _ h => h.2)) (fun _ h => h.1))
                    replace HK := Aside0.mk (KeepBut.trans z2 hk (.inl rfl))
                    replace HB := Aside0.mk (hb)
                    replace HI0 := Aside0.mk (hi)
                    (try clear hb)
                    (try clear hb2)
                    (try clear hk)
                    (try clear hi)
                    refine hK.out _ _ trivial (fun hHeld => ?_)
                    clear hK K
                    refine na_ (N := some 13) (h := ?_)
                    refine pa_ (i := 4) (N := some 14) (bsA 15 223) (h := ?_)
                    exact norm_ z4 (hJ1_3_6 (.slice (some adz_v460) y459.length co23, adz_v460, .slice (some adz_v466) y465.length co24, adz_v466) _ ⟨(bR HO455), (bR HO461), (bR HO467), ⟨_, rfl⟩, ⟨_, rfl⟩, (z0 HI0.out), z2, (z1 HI0.out)⟩)
                  ·skip
                   rintro ⟨v460, adz_v460⟩ w20 ⟨h0_, h1_, h2_, h3_, h4_, h5_⟩
                   have n0_ : Aside0 (Kd.R k69 69 w20 w.heap.size (fun _ => True) (.slice Ao14 t453.length co14) t453) := ⟨h0_⟩
                   have n1_ : Aside0 (Kd.R Kd.string 9 w20 w.heap.size (fun _ => True) v460 y459) := ⟨h1_⟩
                   have n2_ : Aside0 (∃ c_, (v460 : Value) = .slice (some adz_v460) y459.length c_) := ⟨h2_⟩
                   have n3_ : Aside0 (IsS107 w0 w20 g s0_0 t463) := ⟨h3_⟩
                   have n4_ : Aside0 (KeepBut w w20 g none) := ⟨h4_⟩
                   have n5_ : Aside0 (Below w0.heap.size w0 w20) := ⟨h5_⟩
                   clear HO455
                   clear HI0
                   clear HK
                   clear HB
                   clear h0_ h1_ h2_ h3_ h4_ h5_
                   have HO455 := n0_
                   have HO461 := n1_
                   have HA_HO461 := n2_
                   have HI0 := n3_
                   have HK := n4_
                   have HB := n5_
                   clear n0_ n1_ n2_ n3_ n4_ n5_
                   have hHeld := trivial
                   obtain ⟨co21, eo21⟩ := HA_HO461.out
                   clear HA_HO461
                   subst eo21
                   refine norm_ (a' := ?_) ?_ ?_
                   rotate_left
                   ·simp only [putAll, Act.put, List.setIfInBounds_toArray, List.set_cons_zero, List.set_cons_succ]
                    rfl
                   refine three_ (i := 5) (j := 6) (k := 8) (Ni := some 15) (Nj := some 16) (Nk := some 18) (bsA 15 191) (bsA 15 223) (bsA 15 415) rfl rfl rfl rfl rfl rfl (three_of HT_.out (by kernel_rfl)) (by decide) (by decide) (by decide) (fun K hK => ?_) (fun K hK => ?_) (fun K hK => ?_)
                   ·skip
                    (have p464 : 0 ≤ (t462 : Int) := pI; have q464 : t462 < (y459.length : Int) := pI; obtain ⟨ad464, e464, hx464_0⟩ := Kd.at_string (Kd.R_reads' HO461.out).2.2 t462 p464 q464; obtain rfl : adz_v460 = ad464 := (by injection e464))
                    refine value_ (w1 := ?_) (v := ?_) (by rfl) rfl ?_ ?_
                    rotate_left 2
                    ·go_simp
                     constructor
                     ·rfl
                     ·rfl
                    clear hx464_0
                    refine hK.out _ _ trivial (fun hHeld => ?_)
                    clear hK K
                    refine na_ (N := some 15) (h := ?_)
                    exact norm_ z4 (hJ1_3_5 (.slice (some adz_v460) y459.length co21, adz_v460) _ ⟨(bR HO455), (bR HO461), ⟨_, rfl⟩, (z0 HI0.out), z2, (z1 HI0.out)⟩)
                   ·skip
                    refine Kd.R_lit_step Kd.string _ 9 ?hg (N := 16) ?hd (xs := ([(⟨#[120]⟩ : ByteArray), (⟨#[10]⟩ : ByteArray), (⟨#[127]⟩ : ByteArray)] : List ByteArray)) (inner := [.string (⟨#[120]⟩ : ByteArray), .string (⟨#[10]⟩ : ByteArray), .string (⟨#[127]⟩ : ByteArray)]) (ok := fun _ => True) (okp := fun _ => True) ?hr ?hp (fun _ hk => hk) trivial (Below.refl _ _) (Nat.le_refl _) (by simp) ?_; (case hd => rfl); (case hg => rfl); (case hr => exact z14); (case hp => exact (Reps.one (show Kd.M Kd.string _ _ _ (⟨#[120]⟩ : ByteArray) [.string (⟨#[120]⟩ : ByteArray)] from rfl) (Reps.one (show Kd.M Kd.string _ _ _ (⟨#[10]⟩ : ByteArray) [.string (⟨#[10]⟩ : ByteArray)] from rfl) (Reps.one (show Kd.M Kd.string _ _ _ (⟨#[127]⟩ : ByteArray) [.string (⟨#[127]⟩ : ByteArray)] from rfl) (Reps.none _ _)))))
                    intro v466 w22 ho23 hb hg_ hnew_
                    clear hg_ hnew_
                    (first | rw [← Ny465.out] at ho23 | (simp only [Int.reduceToNat] at ho23; rw [← Ny465.out] at ho23))
                    replace HO455 := Aside0.mk (Kd.R_below (bR HO455) hb)
                    have HO467 := Aside0.mk (Kd.R_lower (Kd.R_new' ho23 (Kd.R_lt (bR HO461))) (keep_size (w := w) (g := g) (row := none) z2))
                    replace HO461 := Aside0.mk (Kd.R_elder' (bR HO461) (Kd.R_base ho23) hb)
                    replace HK := Aside0.mk (KeepBut.trans z2 (KeepBut.of_below hb g none) (.inl rfl))
                    replace HB := Aside0.mk (below_step (z1 HI0.out) hb)
                    replace HI0 := Aside0.mk (IsS107.below (z0 HI0.out) hb)
                    clear hb ho23
                    obtain ⟨Ao24, co24, eo24⟩ := Kd.R_slice HO467.out
                    subst eo24
                    obtain ⟨ado24, fo24, _⟩ := Kd.at_string (Kd.R_reads' HO467.out).2.2 0 (by decide) (by rw [Ny465.out]; simp)
                    cases fo24
                    refine hK.out _ _ trivial (fun hHeld => ?_)
                    clear hK K
                    refine na_ (N := some 16) (h := ?_)
                    exact norm_ z4 (hJ1_3_6 (.slice (some adz_v460) y459.length co21, adz_v460, .slice (some ado24) y465.length co24, ado24) _ ⟨(bR HO455), (z7 HO461.out), (z7 HO467.out), ⟨_, rfl⟩, ⟨_, rfl⟩, (z0 HI0.out), z2, (z1 HI0.out)⟩)
                   ·skip
                    refine goes_ Try.func91 (by kernel_rfl) rfl #[.pointer (some ⟨g, 0, none⟩), .int .i64 3] (by rfl) rfl rfl bM ?_
                    with_reducible refine (spec_l1Next.calls g s0_0 t463 3 t468 t469 w0 _ ?side1 ?side2 A8.out).mono ?_
                    (case side1 => exact z0 HI0.out)
                    (case side2 => exact z1 HI0.out)
                    rintro e w22 ⟨rfl, hi, hb, hk⟩
                    refine ⟨_, rfl, ?_⟩
                    replace HO455 := Aside0.mk (Kd.R_mono (Kd.R_keep (IsS107.apart (show IsS107 w0 _ g s0_0 t463 from z0 HI0.out) (bR HO455) (by decide)) hk (fun _ h => h.2)) (fun _ h => h.1))
                    replace HO461 := Aside0.mk (Kd.R_mono (Kd.R_keep (IsS107.apart (show IsS107 w0 _ g s0_0 t463 from z0 HI0.out) (bR HO461) (by decide)) hk (fun _ h => h.2)) (fun _ h => h.1))
                    replace HK := Aside0.mk (KeepBut.trans z2 hk (.inl rfl))
                    replace HB := Aside0.mk (hb)
                    replace HI0 := Aside0.mk (hi)
                    (try clear hb)
                    (try clear hb2)
                    (try clear hk)
                    (try clear hi)
                    refine hK.out _ _ trivial (fun hHeld => ?_)
                    clear hK K
                    refine na_ (N := some 18) (h := ?_)
                    exact norm_ z4 (hJ1_3_8 (.slice (some adz_v460) y459.length co21, adz_v460) _ ⟨(bR HO455), (bR HO461), ⟨_, rfl⟩, (z0 HI0.out), z2, (z1 HI0.out)⟩)
                 ·skip
                  rintro ⟨v466, adz_v466⟩ w21 ⟨h0_, h1_, h2_, h3_, h4_, h5_⟩
                  have n0_ : Aside0 (Kd.R k69 69 w21 w.heap.size (fun _ => True) (.slice Ao14 t453.length co14) t453) := ⟨h0_⟩
                  have n1_ : Aside0 (Kd.R Kd.string 9 w21 w.heap.size (fun _ => True) v466 y465) := ⟨h1_⟩
                  have n2_ : Aside0 (∃ c_, (v466 : Value) = .slice (some adz_v466) y465.length c_) := ⟨h2_⟩
                  have n3_ : Aside0 (IsS107 w0 w21 g s0_0 t469) := ⟨h3_⟩
                  have n4_ : Aside0 (KeepBut w w21 g none) := ⟨h4_⟩
                  have n5_ : Aside0 (Below w0.heap.size w0 w21) := ⟨h5_⟩
                  clear HO455
                  clear HI0
                  clear HK
                  clear HB
                  clear h0_ h1_ h2_ h3_ h4_ h5_
                  have HO455 := n0_
                  have HO467 := n1_
                  have HA_HO467 := n2_
                  have HI0 := n3_
                  have HK := n4_
                  have HB := n5_
                  clear n0_ n1_ n2_ n3_ n4_ n5_
                  have hHeld := trivial
                  obtain ⟨co22, eo22⟩ := HA_HO467.out
                  clear HA_HO467
                  subst eo22
                  refine norm_ (a' := ?_) ?_ ?_
                  rotate_left
                  ·simp only [putAll, Act.put, List.setIfInBounds_toArray, List.set_cons_zero, List.set_cons_succ]
                   rfl
                  refine two_ (i := 1) (j := 10) (Ni := some 11) (Nj := some 20) (bsA 15 975) (bsA 15 1997) rfl rfl rfl rfl (two_of HT_.out (by kernel_rfl)) (by decide) (by decide) (fun K hK => ?_) (fun K hK => ?_)
                  ·skip
                   refine Kd.R_lit_step Kd.string _ 9 ?hg (N := 11) ?hd (xs := ([(⟨#[]⟩ : ByteArray), (⟨#[97, 32, 98]⟩ : ByteArray), (⟨#[65]⟩ : ByteArray)] : List ByteArray)) (inner := [.string (⟨#[]⟩ : ByteArray), .string (⟨#[97, 32, 98]⟩ : ByteArray), .string (⟨#[65]⟩ : ByteArray)]) (ok := fun _ => True) (okp := fun _ => True) ?hr ?hp (fun _ hk => hk) trivial (Below.refl _ _) (Nat.le_refl _) (by simp) ?_; (case hd => rfl); (case hg => rfl); (case hr => exact z14); (case hp => exact (Reps.one (show Kd.M Kd.string _ _ _ (⟨#[]⟩ : ByteArray) [.string (⟨#[]⟩ : ByteArray)] from rfl) (Reps.one (show Kd.M Kd.string _ _ _ (⟨#[97, 32, 98]⟩ : ByteArray) [.string (⟨#[97, 32, 98]⟩ : ByteArray)] from rfl) (Reps.one (show Kd.M Kd.string _ _ _ (⟨#[65]⟩ : ByteArray) [.string (⟨#[65]⟩ : ByteArray)] from rfl) (Reps.none _ _)))))
                   intro v460 w23 ho24 hb hg_ hnew_
                   clear hg_ hnew_
                   (first | rw [← Ny459.out] at ho24 | (simp only [Int.reduceToNat] at ho24; rw [← Ny459.out] at ho24))
                   replace HO455 := Aside0.mk (Kd.R_below (bR HO455) hb)
                   have HO461 := Aside0.mk (Kd.R_lower (Kd.R_new' ho24 (Kd.R_lt (bR HO467))) (keep_size (w := w) (g := g) (row := none) z2))
                   replace HO467 := Aside0.mk (Kd.R_elder' (bR HO467) (Kd.R_base ho24) hb)
                   replace HK := Aside0.mk (KeepBut.trans z2 (KeepBut.of_below hb g none) (.inl rfl))
                   replace HB := Aside0.mk (below_step (z1 HI0.out) hb)
                   replace HI0 := Aside0.mk (IsS107.below (z0 HI0.out) hb)
                   clear hb ho24
                   obtain ⟨Ao25, co25, eo25⟩ := Kd.R_slice HO461.out
                   subst eo25
                   obtain ⟨ado25, fo25, _⟩ := Kd.at_string (Kd.R_reads' HO461.out).2.2 0 (by decide) (by rw [Ny459.out]; simp)
                   cases fo25
                   refine hK.out _ _ trivial (fun hHeld => ?_)
                   clear hK K
                   refine na_ (N := some 11) (h := ?_)
                   refine pa_ (i := 4) (N := some 14) (bsA 15 991) (h := ?_)
                   exact norm_ z4 (hJ1_3_6_8 (.slice (some ado25) y459.length co25, ado25, .slice (some adz_v466) y465.length co22, adz_v466) _ ⟨(bR HO455), (z7 HO461.out), (z7 HO467.out), ⟨_, rfl⟩, ⟨_, rfl⟩, (z0 HI0.out), z2, (z1 HI0.out)⟩)
                  ·skip
                   (have p470 : 0 ≤ (t468 : Int) := pI; have q470 : t468 < (y465.length : Int) := pI; obtain ⟨ad470, e470, hx470_0⟩ := Kd.at_string (Kd.R_reads' HO467.out).2.2 t468 p470 q470; obtain rfl : adz_v466 = ad470 := (by injection e470))
                   refine value_ (w1 := ?_) (v := ?_) (by rfl) rfl ?_ ?_
                   rotate_left 2
                   ·go_simp
                    constructor
                    ·rfl
                    ·rfl
                   clear hx470_0
                   refine hK.out _ _ trivial (fun hHeld => ?_)
                   clear hK K
                   refine na_ (N := some 20) (h := ?_)
                   exact norm_ z4 (hJ3_6_8_10 (.slice (some adz_v466) y465.length co22, adz_v466) _ ⟨(bR HO455), (bR HO467), ⟨_, rfl⟩, (z0 HI0.out), z2, (z1 HI0.out)⟩)
                ·skip
                 rintro ⟨v460, adz_v460⟩ w21 ⟨h0_, h1_, h2_, h3_, h4_, h5_⟩
                 have n0_ : Aside0 (Kd.R k69 69 w21 w.heap.size (fun _ => True) (.slice Ao14 t453.length co14) t453) := ⟨h0_⟩
                 have n1_ : Aside0 (Kd.R Kd.string 9 w21 w.heap.size (fun _ => True) v460 y459) := ⟨h1_⟩
                 have n2_ : Aside0 (∃ c_, (v460 : Value) = .slice (some adz_v460) y459.length c_) := ⟨h2_⟩
                 have n3_ : Aside0 (IsS107 w0 w21 g s0_0 t469) := ⟨h3_⟩
                 have n4_ : Aside0 (KeepBut w w21 g none) := ⟨h4_⟩
                 have n5_ : Aside0 (Below w0.heap.size w0 w21) := ⟨h5_⟩
                 clear HO455
                 clear HI0
                 clear HK
                 clear HB
                 clear h0_ h1_ h2_ h3_ h4_ h5_
                 have HO455 := n0_
                 have HO461 := n1_
                 have HA_HO461 := n2_
                 have HI0 := n3_
                 have HK := n4_
                 have HB := n5_
                 clear n0_ n1_ n2_ n3_ n4_ n5_
                 have hHeld := trivial
                 obtain ⟨co22, eo22⟩ := HA_HO461.out
                 clear HA_HO461
                 subst eo22
                 refine norm_ (a' := ?_) ?_ ?_
                 rotate_left
                 ·simp only [putAll, Act.put, List.setIfInBounds_toArray, List.set_cons_zero, List.set_cons_succ]
                  rfl
                 refine two_ (i := 5) (j := 6) (Ni := some 15) (Nj := some 16) (bsA 15 447) (bsA 15 479) rfl rfl rfl rfl (two_of HT_.out (by kernel_rfl)) (by decide) (by decide) (fun K hK => ?_) (fun K hK => ?_)
                 ·skip
                  (have p464 : 0 ≤ (t462 : Int) := pI; have q464 : t462 < (y459.length : Int) := pI; obtain ⟨ad464, e464, hx464_0⟩ := Kd.at_string (Kd.R_reads' HO461.out).2.2 t462 p464 q464; obtain rfl : adz_v460 = ad464 := (by injection e464))
                  refine value_ (w1 := ?_) (v := ?_) (by rfl) rfl ?_ ?_
                  rotate_left 2
                  ·go_simp
                   constructor
                   ·rfl
                   ·rfl
                  clear hx464_0
                  refine hK.out _ _ trivial (fun hHeld => ?_)
                  clear hK K
                  refine na_ (N := some 15) (h := ?_)
                  exact norm_ z4 (hJ1_3_5_8 (.slice (some adz_v460) y459.length co22, adz_v460) _ ⟨(bR HO455), (bR HO461), ⟨_, rfl⟩, (z0 HI0.out), z2, (z1 HI0.out)⟩)
                 ·skip
                  refine Kd.R_lit_step Kd.string _ 9 ?hg (N := 16) ?hd (xs := ([(⟨#[120]⟩ : ByteArray), (⟨#[10]⟩ : ByteArray), (⟨#[127]⟩ : ByteArray)] : List ByteArray)) (inner := [.string (⟨#[120]⟩ : ByteArray), .string (⟨#[10]⟩ : ByteArray), .string (⟨#[127]⟩ : ByteArray)]) (ok := fun _ => True) (okp := fun _ => True) ?hr ?hp (fun _ hk => hk) trivial (Below.refl _ _) (Nat.le_refl _) (by simp) ?_; (case hd => rfl); (case hg => rfl); (case hr => exact z14); (case hp => exact (Reps.one (show Kd.M Kd.string _ _ _ (⟨#[120]⟩ : ByteArray) [.string (⟨#[120]⟩ : ByteArray)] from rfl) (Reps.one (show Kd.M Kd.string _ _ _ (⟨#[10]⟩ : ByteArray) [.string (⟨#[10]⟩ : ByteArray)] from rfl) (Reps.one (show Kd.M Kd.string _ _ _ (⟨#[127]⟩ : ByteArray) [.string (⟨#[127]⟩ : ByteArray)] from rfl) (Reps.none _ _)))))
                  intro v466 w23 ho24 hb hg_ hnew_
                  clear hg_ hnew_
                  (first | rw [← Ny465.out] at ho24 | (simp only [Int.reduceToNat] at ho24; rw [← Ny465.out] at ho24))
                  replace HO455 := Aside0.mk (Kd.R_below (bR HO455) hb)
                  have HO467 := Aside0.mk (Kd.R_lower (Kd.R_new' ho24 (Kd.R_lt (bR HO461))) (keep_size (w := w) (g := g) (row := none) z2))
                  replace HO461 := Aside0.mk (Kd.R_elder' (bR HO461) (Kd.R_base ho24) hb)
                  replace HK := Aside0.mk (KeepBut.trans z2 (KeepBut.of_below hb g none) (.inl rfl))
                  replace HB := Aside0.mk (below_step (z1 HI0.out) hb)
                  replace HI0 := Aside0.mk (IsS107.below (z0 HI0.out) hb)
                  clear hb ho24
                  obtain ⟨Ao25, co25, eo25⟩ := Kd.R_slice HO467.out
                  subst eo25
                  obtain ⟨ado25, fo25, _⟩ := Kd.at_string (Kd.R_reads' HO467.out).2.2 0 (by decide) (by rw [Ny465.out]; simp)
                  cases fo25
                  refine hK.out _ _ trivial (fun hHeld => ?_)
                  clear hK K
                  refine na_ (N := some 16) (h := ?_)
                  refine pa_ (i := 9) (N := some 19) (bsA 15 991) (h := ?_)
                  exact norm_ z4 (hJ1_3_6_8 (.slice (some adz_v460) y459.length co22, adz_v460, .slice (some ado25) y465.length co25, ado25) _ ⟨(bR HO455), (z7 HO461.out), (z7 HO467.out), ⟨_, rfl⟩, ⟨_, rfl⟩, (z0 HI0.out), z2, (z1 HI0.out)⟩)
               ·skip
                rintro ⟨v460, adz_v460, v466, adz_v466⟩ w23 ⟨h0_, h1_, h2_, h3_, h4_, h5_, h6_, h7_⟩
                have n0_ : Aside0 (Kd.R k69 69 w23 w.heap.size (fun _ => True) (.slice Ao14 t453.length co14) t453) := ⟨h0_⟩
                have n1_ : Aside0 (Kd.R Kd.string 9 w23 w.heap.size (fun k_ => some k_ ≠ (v466 : Value).ownBlock) v460 y459) := ⟨h1_⟩
                have n2_ : Aside0 (Kd.R Kd.string 9 w23 w.heap.size (fun k_ => some k_ ≠ (v460 : Value).ownBlock) v466 y465) := ⟨h2_⟩
                have n3_ : Aside0 (∃ c_, (v460 : Value) = .slice (some adz_v460) y459.length c_) := ⟨h3_⟩
                have n4_ : Aside0 (∃ c_, (v466 : Value) = .slice (some adz_v466) y465.length c_) := ⟨h4_⟩
                have n5_ : Aside0 (IsS107 w0 w23 g s0_0 t463) := ⟨h5_⟩
                have n6_ : Aside0 (KeepBut w w23 g none) := ⟨h6_⟩
                have n7_ : Aside0 (Below w0.heap.size w0 w23) := ⟨h7_⟩
                clear HO455
                clear HI0
                clear HK
                clear HB
                clear h0_ h1_ h2_ h3_ h4_ h5_ h6_ h7_
                have HO455 := n0_
                have HO461 := n1_
                have HO467 := n2_
                have HA_HO461 := n3_
                have HA_HO467 := n4_
                have HI0 := n5_
                have HK := n6_
                have HB := n7_
                clear n0_ n1_ n2_ n3_ n4_ n5_ n6_ n7_
                have hHeld := trivial
                obtain ⟨co24, eo24⟩ := HA_HO461.out
                clear HA_HO461
                subst eo24
                obtain ⟨co25, eo25⟩ := HA_HO467.out
                clear HA_HO467
                subst eo25
                refine norm_ (a' := ?_) ?_ ?_
                rotate_left
                ·simp only [putAll, Act.put, List.setIfInBounds_toArray, List.set_cons_zero, List.set_cons_succ]
                 rfl
                refine two_ (i := 5) (j := 8) (Ni := some 15) (Nj := some 18) (bsA 15 255) (bsA 15 479) rfl rfl rfl rfl (two_of HT_.out (by kernel_rfl)) (by decide) (by decide) (fun K hK => ?_) (fun K hK => ?_)
                ·skip
                 (have p464 : 0 ≤ (t462 : Int) := pI; have q464 : t462 < (y459.length : Int) := pI; obtain ⟨ad464, e464, hx464_0⟩ := Kd.at_string (Kd.R_reads' HO461.out).2.2 t462 p464 q464; obtain rfl : adz_v460 = ad464 := (by injection e464))
                 refine value_ (w1 := ?_) (v := ?_) (by rfl) rfl ?_ ?_
                 rotate_left 2
                 ·go_simp
                  constructor
                  ·rfl
                  ·rfl
                 clear hx464_0
                 refine hK.out _ _ trivial (fun hHeld => ?_)
                 clear hK K
                 refine na_ (N := some 15) (h := ?_)
                 exact norm_ z4 (hJ1_3_5_6 (.slice (some adz_v460) y459.length co24, adz_v460, .slice (some adz_v466) y465.length co25, adz_v466) _ ⟨(bR HO455), (bR HO461), (bR HO467), ⟨_, rfl⟩, ⟨_, rfl⟩, (z0 HI0.out), z2, (z1 HI0.out)⟩)
                ·skip
                 refine goes_ Try.func91 (by kernel_rfl) rfl #[.pointer (some ⟨g, 0, none⟩), .int .i64 3] (by rfl) rfl rfl bM ?_
                 with_reducible refine (spec_l1Next.calls g s0_0 t463 3 t468 t469 w0 _ ?side1 ?side2 A8.out).mono ?_
                 (case side1 => exact z0 HI0.out)
                 (case side2 => exact z1 HI0.out)
                 rintro e w26 ⟨rfl, hi, hb, hk⟩
                 refine ⟨_, rfl, ?_⟩
                 replace HO455 := Aside0.mk (Kd.R_mono (Kd.R_keep (IsS107.apart (show IsS107 w0 _ g s0_0 t463 from z0 HI0.out) (bR HO455) (by decide)) hk (fun _ h => h.2)) (fun _ h => h.1))
                 replace HO461 := Aside0.mk (Kd.R_mono (Kd.R_keep (IsS107.apart (show IsS107 w0 _ g s0_0 t463 from z0 HI0.out) (bR HO461) (by decide)) hk (fun _ h => h.2)) (fun _ h => h.1))
                 replace HO467 := Aside0.mk (Kd.R_mono (Kd.R_keep (IsS107.apart (show IsS107 w0 _ g s0_0 t463 from z0 HI0.out) (bR HO467) (by decide)) hk (fun _ h => h.2)) (fun _ h => h.1))
                 replace HK := Aside0.mk (KeepBut.trans z2 hk (.inl rfl))
                 replace HB := Aside0.mk (hb)
                 replace HI0 := Aside0.mk (hi)
                 (try clear hb)
                 (try clear hb2)
                 (try clear hk)
                 (try clear hi)
                 refine hK.out _ _ trivial (fun hHeld => ?_)
                 clear hK K
                 refine na_ (N := some 18) (h := ?_)
                 refine pa_ (i := 9) (N := some 19) (bsA 15 991) (h := ?_)
                 exact norm_ z4 (hJ1_3_6_8 (.slice (some adz_v460) y459.length co24, adz_v460, .slice (some adz_v466) y465.length co25, adz_v466) _ ⟨(bR HO455), (bR HO461), (bR HO467), ⟨_, rfl⟩, ⟨_, rfl⟩, (z0 HI0.out), z2, (z1 HI0.out)⟩)
              ·skip
               rintro ⟨v460, adz_v460⟩ w20 ⟨h0_, h1_, h2_, h3_, h4_, h5_⟩
               have n0_ : Aside0 (Kd.R k69 69 w20 w.heap.size (fun _ => True) (.slice Ao14 t453.length co14) t453) := ⟨h0_⟩
               have n1_ : Aside0 (Kd.R Kd.string 9 w20 w.heap.size (fun _ => True) v460 y459) := ⟨h1_⟩
               have n2_ : Aside0 (∃ c_, (v460 : Value) = .slice (some adz_v460) y459.length c_) := ⟨h2_⟩
               have n3_ : Aside0 (IsS107 w0 w20 g s0_0 t463) := ⟨h3_⟩
               have n4_ : Aside0 (KeepBut w w20 g none) := ⟨h4_⟩
               have n5_ : Aside0 (Below w0.heap.size w0 w20) := ⟨h5_⟩
               clear HO455
               clear HI0
               clear HK
               clear HB
               clear h0_ h1_ h2_ h3_ h4_ h5_
               have HO455 := n0_
               have HO461 := n1_
               have HA_HO461 := n2_
               have HI0 := n3_
               have HK := n4_
               have HB := n5_
               clear n0_ n1_ n2_ n3_ n4_ n5_
               have hHeld := trivial
               obtain ⟨co21, eo21⟩ := HA_HO461.out
               clear HA_HO461
               subst eo21
               refine norm_ (a' := ?_) ?_ ?_
               rotate_left
               ·simp only [putAll, Act.put, List.setIfInBounds_toArray, List.set_cons_zero, List.set_cons_succ]
                rfl
               refine two_ (i := 6) (j := 8) (Ni := some 16) (Nj := some 18) (bsA 15 255) (bsA 15 447) rfl rfl rfl rfl (two_of HT_.out (by kernel_rfl)) (by decide) (by decide) (fun K hK => ?_) (fun K hK => ?_)
               ·skip
                refine Kd.R_lit_step Kd.string _ 9 ?hg (N := 16) ?hd (xs := ([(⟨#[120]⟩ : ByteArray), (⟨#[10]⟩ : ByteArray), (⟨#[127]⟩ : ByteArray)] : List ByteArray)) (inner := [.string (⟨#[120]⟩ : ByteArray), .string (⟨#[10]⟩ : ByteArray), .string (⟨#[127]⟩ : ByteArray)]) (ok := fun _ => True) (okp := fun _ => True) ?hr ?hp (fun _ hk => hk) trivial (Below.refl _ _) (Nat.le_refl _) (by simp) ?_; (case hd => rfl); (case hg => rfl); (case hr => exact z14); (case hp => exact (Reps.one (show Kd.M Kd.string _ _ _ (⟨#[120]⟩ : ByteArray) [.string (⟨#[120]⟩ : ByteArray)] from rfl) (Reps.one (show Kd.M Kd.string _ _ _ (⟨#[10]⟩ : ByteArray) [.string (⟨#[10]⟩ : ByteArray)] from rfl) (Reps.one (show Kd.M Kd.string _ _ _ (⟨#[127]⟩ : ByteArray) [.string (⟨#[127]⟩ : ByteArray)] from rfl) (Reps.none _ _)))))
                intro v466 w22 ho23 hb hg_ hnew_
                clear hg_ hnew_
                (first | rw [← Ny465.out] at ho23 | (simp only [Int.reduceToNat] at ho23; rw [← Ny465.out] at ho23))
                replace HO455 := Aside0.mk (Kd.R_below (bR HO455) hb)
                have HO467 := Aside0.mk (Kd.R_lower (Kd.R_new' ho23 (Kd.R_lt (bR HO461))) (keep_size (w := w) (g := g) (row := none) z2))
                replace HO461 := Aside0.mk (Kd.R_elder' (bR HO461) (Kd.R_base ho23) hb)
                replace HK := Aside0.mk (KeepBut.trans z2 (KeepBut.of_below hb g none) (.inl rfl))
                replace HB := Aside0.mk (below_step (z1 HI0.out) hb)
                replace HI0 := Aside0.mk (IsS107.below (z0 HI0.out) hb)
                clear hb ho23
                obtain ⟨Ao24, co24, eo24⟩ := Kd.R_slice HO467.out
                subst eo24
                obtain ⟨ado24, fo24, _⟩ := Kd.at_string (Kd.R_reads' HO467.out).2.2 0 (by decide) (by rw [Ny465.out]; simp)
                cases fo24
                refine hK.out _ _ trivial (fun hHeld => ?_)
                clear hK K
                refine na_ (N := some 16) (h := ?_)
                exact norm_ z4 (hJ1_3_5_6 (.slice (some adz_v460) y459.length co21, adz_v460, .slice (some ado24) y465.length co24, ado24) _ ⟨(bR HO455), (z7 HO461.out), (z7 HO467.out), ⟨_, rfl⟩, ⟨_, rfl⟩, (z0 HI0.out), z2, (z1 HI0.out)⟩)
               ·skip
                refine goes_ Try.func91 (by kernel_rfl) rfl #[.pointer (some ⟨g, 0, none⟩), .int .i64 3] (by rfl) rfl rfl bM ?_
                with_reducible refine (spec_l1Next.calls g s0_0 t463 3 t468 t469 w0 _ ?side1 ?side2 A8.out).mono ?_
                (case side1 => exact z0 HI0.out)
                (case side2 => exact z1 HI0.out)
                rintro e w22 ⟨rfl, hi, hb, hk⟩
                refine ⟨_, rfl, ?_⟩
                replace HO455 := Aside0.mk (Kd.R_mono (Kd.R_keep (IsS107.apart (show IsS107 w0 _ g s0_0 t463 from z0 HI0.out) (bR HO455) (by decide)) hk (fun _ h => h.2)) (fun _ h => h.1))
                replace HO461 := Aside0.mk (Kd.R_mono (Kd.R_keep (IsS107.apart (show IsS107 w0 _ g s0_0 t463 from z0 HI0.out) (bR HO461) (by decide)) hk (fun _ h => h.2)) (fun _ h => h.1))
                replace HK := Aside0.mk (KeepBut.trans z2 hk (.inl rfl))
                replace HB := Aside0.mk (hb)
                replace HI0 := Aside0.mk (hi)
                (try clear hb)
                (try clear hb2)
                (try clear hk)
                (try clear hi)
                refine hK.out _ _ trivial (fun hHeld => ?_)
                clear hK K
                refine na_ (N := some 18) (h := ?_)
                exact norm_ z4 (hJ1_3_5_8 (.slice (some adz_v460) y459.length co21, adz_v460) _ ⟨(bR HO455), (bR HO461), ⟨_, rfl⟩, (z0 HI0.out), z2, (z1 HI0.out)⟩)
             ·skip
              rintro ⟨v466, adz_v466⟩ w21 ⟨h0_, h1_, h2_, h3_, h4_, h5_⟩
              have n0_ : Aside0 (Kd.R k69 69 w21 w.heap.size (fun _ => True) (.slice Ao14 t453.length co14) t453) := ⟨h0_⟩
              have n1_ : Aside0 (Kd.R Kd.string 9 w21 w.heap.size (fun _ => True) v466 y465) := ⟨h1_⟩
              have n2_ : Aside0 (∃ c_, (v466 : Value) = .slice (some adz_v466) y465.length c_) := ⟨h2_⟩
              have n3_ : Aside0 (IsS107 w0 w21 g s0_0 t469) := ⟨h3_⟩
              have n4_ : Aside0 (KeepBut w w21 g none) := ⟨h4_⟩
              have n5_ : Aside0 (Below w0.heap.size w0 w21) := ⟨h5_⟩
              clear HO455
              clear HI0
              clear HK
              clear HB
              clear h0_ h1_ h2_ h3_ h4_ h5_
              have HO455 := n0_
              have HO467 := n1_
              have HA_HO467 := n2_
              have HI0 := n3_
              have HK := n4_
              have HB := n5_
              clear n0_ n1_ n2_ n3_ n4_ n5_
              have hHeld := trivial
              obtain ⟨co22, eo22⟩ := HA_HO467.out
              clear HA_HO467
              subst eo22
              refine norm_ (a' := ?_) ?_ ?_
              rotate_left
              ·simp only [putAll, Act.put, List.setIfInBounds_toArray, List.set_cons_zero, List.set_cons_succ]
               rfl
              refine one_ (i := 1) (N := some 11) (bsA 15 1999) rfl rfl (one_of HT_.out (by kernel_rfl)) (by decide) (fun K hK => ?_)
              refine Kd.R_lit_step Kd.string _ 9 ?hg (N := 11) ?hd (xs := ([(⟨#[]⟩ : ByteArray), (⟨#[97, 32, 98]⟩ : ByteArray), (⟨#[65]⟩ : ByteArray)] : List ByteArray)) (inner := [.string (⟨#[]⟩ : ByteArray), .string (⟨#[97, 32, 98]⟩ : ByteArray), .string (⟨#[65]⟩ : ByteArray)]) (ok := fun _ => True) (okp := fun _ => True) ?hr ?hp (fun _ hk => hk) trivial (Below.refl _ _) (Nat.le_refl _) (by simp) ?_; (case hd => rfl); (case hg => rfl); (case hr => exact z14); (case hp => exact (Reps.one (show Kd.M Kd.string _ _ _ (⟨#[]⟩ : ByteArray) [.string (⟨#[]⟩ : ByteArray)] from rfl) (Reps.one (show Kd.M Kd.string _ _ _ (⟨#[97, 32, 98]⟩ : ByteArray) [.string (⟨#[97, 32, 98]⟩ : ByteArray)] from rfl) (Reps.one (show Kd.M Kd.string _ _ _ (⟨#[65]⟩ : ByteArray) [.string (⟨#[65]⟩ : ByteArray)] from rfl) (Reps.none _ _)))))
              intro v460 w23 ho24 hb hg_ hnew_
              clear hg_ hnew_
              (first | rw [← Ny459.out] at ho24 | (simp only [Int.reduceToNat] at ho24; rw [← Ny459.out] at ho24))
              replace HO455 := Aside0.mk (Kd.R_below (bR HO455) hb)
              have HO461 := Aside0.mk (Kd.R_lower (Kd.R_new' ho24 (Kd.R_lt (bR HO467))) (keep_size (w := w) (g := g) (row := none) z2))
              replace HO467 := Aside0.mk (Kd.R_elder' (bR HO467) (Kd.R_base ho24) hb)
              replace HK := Aside0.mk (KeepBut.trans z2 (KeepBut.of_below hb g none) (.inl rfl))
              replace HB := Aside0.mk (below_step (z1 HI0.out) hb)
              replace HI0 := Aside0.mk (IsS107.below (z0 HI0.out) hb)
              clear hb ho24
              obtain ⟨Ao25, co25, eo25⟩ := Kd.R_slice HO461.out
              subst eo25
              obtain ⟨ado25, fo25, _⟩ := Kd.at_string (Kd.R_reads' HO461.out).2.2 0 (by decide) (by rw [Ny459.out]; simp)
              cases fo25
              refine hK.out _ _ trivial (fun hHeld => ?_)
              clear hK K
              refine na_ (N := some 11) (h := ?_)
              refine pa_ (i := 4) (N := some 14) (bsA 15 2015) (h := ?_)
              exact norm_ z4 (hJ1_3_6_8_10 (.slice (some ado25) y459.length co25, ado25, .slice (some adz_v466) y465.length co22, adz_v466) _ ⟨(bR HO455), (z7 HO461.out), (z7 HO467.out), ⟨_, rfl⟩, ⟨_, rfl⟩, (z0 HI0.out), z2, (z1 HI0.out)⟩)
            ·skip
             rintro ⟨v460, adz_v460, v466, adz_v466⟩ w24 ⟨h0_, h1_, h2_, h3_, h4_, h5_, h6_, h7_⟩
             have n0_ : Aside0 (Kd.R k69 69 w24 w.heap.size (fun _ => True) (.slice Ao14 t453.length co14) t453) := ⟨h0_⟩
             have n1_ : Aside0 (Kd.R Kd.string 9 w24 w.heap.size (fun k_ => some k_ ≠ (v466 : Value).ownBlock) v460 y459) := ⟨h1_⟩
             have n2_ : Aside0 (Kd.R Kd.string 9 w24 w.heap.size (fun k_ => some k_ ≠ (v460 : Value).ownBlock) v466 y465) := ⟨h2_⟩
             have n3_ : Aside0 (∃ c_, (v460 : Value) = .slice (some adz_v460) y459.length c_) := ⟨h3_⟩
             have n4_ : Aside0 (∃ c_, (v466 : Value) = .slice (some adz_v466) y465.length c_) := ⟨h4_⟩
             have n5_ : Aside0 (IsS107 w0 w24 g s0_0 t469) := ⟨h5_⟩
             have n6_ : Aside0 (KeepBut w w24 g none) := ⟨h6_⟩
             have n7_ : Aside0 (Below w0.heap.size w0 w24) := ⟨h7_⟩
             clear HO455
             clear HI0
             clear HK
             clear HB
             clear h0_ h1_ h2_ h3_ h4_ h5_ h6_ h7_
             have HO455 := n0_
             have HO461 := n1_
             have HO467 := n2_
             have HA_HO461 := n3_
             have HA_HO467 := n4_
             have HI0 := n5_
             have HK := n6_
             have HB := n7_
             clear n0_ n1_ n2_ n3_ n4_ n5_ n6_ n7_
             have hHeld := trivial
             obtain ⟨co25, eo25⟩ := HA_HO461.out
             clear HA_HO461
             subst eo25
             obtain ⟨co26, eo26⟩ := HA_HO467.out
             clear HA_HO467
             subst eo26
             refine norm_ (a' := ?_) ?_ ?_
             rotate_left
             ·simp only [putAll, Act.put, List.setIfInBounds_toArray, List.set_cons_zero, List.set_cons_succ]
              rfl
             refine two_ (i := 5) (j := 10) (Ni := some 15) (Nj := some 20) (bsA 15 1023) (bsA 15 2015) rfl rfl rfl rfl (two_of HT_.out (by kernel_rfl)) (by decide) (by decide) (fun K hK => ?_) (fun K hK => ?_)
             ·skip
              (have p464 : 0 ≤ (t462 : Int) := pI; have q464 : t462 < (y459.length : Int) := pI; obtain ⟨ad464, e464, hx464_0⟩ := Kd.at_string (Kd.R_reads' HO461.out).2.2 t462 p464 q464; obtain rfl : adz_v460 = ad464 := (by injection e464))
              refine value_ (w1 := ?_) (v := ?_) (by rfl) rfl ?_ ?_
              rotate_left 2
              ·go_simp
               constructor
               ·rfl
               ·rfl
              clear hx464_0
              refine hK.out _ _ trivial (fun hHeld => ?_)
              clear hK K
              refine na_ (N := some 15) (h := ?_)
              exact norm_ z4 (hJ1_3_5_6_8 (.slice (some adz_v460) y459.length co25, adz_v460, .slice (some adz_v466) y465.length co26, adz_v466) _ ⟨(bR HO455), (bR HO461), (bR HO467), ⟨_, rfl⟩, ⟨_, rfl⟩, (z0 HI0.out), z2, (z1 HI0.out)⟩)
             ·skip
              (have p470 : 0 ≤ (t468 : Int) := pI; have q470 : t468 < (y465.length : Int) := pI; obtain ⟨ad470, e470, hx470_0⟩ := Kd.at_string (Kd.R_reads' HO467.out).2.2 t468 p470 q470; obtain rfl : adz_v466 = ad470 := (by injection e470))
              refine value_ (w1 := ?_) (v := ?_) (by rfl) rfl ?_ ?_
              rotate_left 2
              ·go_simp
               constructor
               ·rfl
               ·rfl
              clear hx470_0
              refine hK.out _ _ trivial (fun hHeld => ?_)
              clear hK K
              refine na_ (N := some 20) (h := ?_)
              exact norm_ z4 (hJ1_3_6_8_10 (.slice (some adz_v460) y459.length co25, adz_v460, .slice (some adz_v466) y465.length co26, adz_v466) _ ⟨(bR HO455), (bR HO461), (bR HO467), ⟨_, rfl⟩, ⟨_, rfl⟩, (z0 HI0.out), z2, (z1 HI0.out)⟩)
           ·skip
            rintro ⟨v460, adz_v460⟩ w21 ⟨h0_, h1_, h2_, h3_, h4_, h5_⟩
            have n0_ : Aside0 (Kd.R k69 69 w21 w.heap.size (fun _ => True) (.slice Ao14 t453.length co14) t453) := ⟨h0_⟩
            have n1_ : Aside0 (Kd.R Kd.string 9 w21 w.heap.size (fun _ => True) v460 y459) := ⟨h1_⟩
            have n2_ : Aside0 (∃ c_, (v460 : Value) = .slice (some adz_v460) y459.length c_) := ⟨h2_⟩
            have n3_ : Aside0 (IsS107 w0 w21 g s0_0 t469) := ⟨h3_⟩
            have n4_ : Aside0 (KeepBut w w21 g none) := ⟨h4_⟩
            have n5_ : Aside0 (Below w0.heap.size w0 w21) := ⟨h5_⟩
            clear HO455
            clear HI0
            clear HK
            clear HB
            clear h0_ h1_ h2_ h3_ h4_ h5_
            have HO455 := n0_
            have HO461 := n1_
            have HA_HO461 := n2_
            have HI0 := n3_
            have HK := n4_
            have HB := n5_
            clear n0_ n1_ n2_ n3_ n4_ n5_
            have hHeld := trivial
            obtain ⟨co22, eo22⟩ := HA_HO461.out
            clear HA_HO461
            subst eo22
            refine norm_ (a' := ?_) ?_ ?_
            rotate_left
            ·simp only [putAll, Act.put, List.setIfInBounds_toArray, List.set_cons_zero, List.set_cons_succ]
             rfl
            refine one_ (i := 6) (N := some 16) (bsA 15 511) rfl rfl (one_of HT_.out (by kernel_rfl)) (by decide) (fun K hK => ?_)
            refine Kd.R_lit_step Kd.string _ 9 ?hg (N := 16) ?hd (xs := ([(⟨#[120]⟩ : ByteArray), (⟨#[10]⟩ : ByteArray), (⟨#[127]⟩ : ByteArray)] : List ByteArray)) (inner := [.string (⟨#[120]⟩ : ByteArray), .string (⟨#[10]⟩ : ByteArray), .string (⟨#[127]⟩ : ByteArray)]) (ok := fun _ => True) (okp := fun _ => True) ?hr ?hp (fun _ hk => hk) trivial (Below.refl _ _) (Nat.le_refl _) (by simp) ?_; (case hd => rfl); (case hg => rfl); (case hr => exact z14); (case hp => exact (Reps.one (show Kd.M Kd.string _ _ _ (⟨#[120]⟩ : ByteArray) [.string (⟨#[120]⟩ : ByteArray)] from rfl) (Reps.one (show Kd.M Kd.string _ _ _ (⟨#[10]⟩ : ByteArray) [.string (⟨#[10]⟩ : ByteArray)] from rfl) (Reps.one (show Kd.M Kd.string _ _ _ (⟨#[127]⟩ : ByteArray) [.string (⟨#[127]⟩ : ByteArray)] from rfl) (Reps.none _ _)))))
            intro v466 w23 ho24 hb hg_ hnew_
            clear hg_ hnew_
            (first | rw [← Ny465.out] at ho24 | (simp only [Int.reduceToNat] at ho24; rw [← Ny465.out] at ho24))
            replace HO455 := Aside0.mk (Kd.R_below (bR HO455) hb)
            have HO467 := Aside0.mk (Kd.R_lower (Kd.R_new' ho24 (Kd.R_lt (bR HO461))) (keep_size (w := w) (g := g) (row := none) z2))
            replace HO461 := Aside0.mk (Kd.R_elder' (bR HO461) (Kd.R_base ho24) hb)
            replace HK := Aside0.mk (KeepBut.trans z2 (KeepBut.of_below hb g none) (.inl rfl))
            replace HB := Aside0.mk (below_step (z1 HI0.out) hb)
            replace HI0 := Aside0.mk (IsS107.below (z0 HI0.out) hb)
            clear hb ho24
            obtain ⟨Ao25, co25, eo25⟩ := Kd.R_slice HO467.out
            subst eo25
            obtain ⟨ado25, fo25, _⟩ := Kd.at_string (Kd.R_reads' HO467.out).2.2 0 (by decide) (by rw [Ny465.out]; simp)
            cases fo25
            refine hK.out _ _ trivial (fun hHeld => ?_)
            clear hK K
            refine na_ (N := some 16) (h := ?_)
            refine pa_ (i := 9) (N := some 19) (bsA 15 1023) (h := ?_)
            exact norm_ z4 (hJ1_3_5_6_8 (.slice (some adz_v460) y459.length co22, adz_v460, .slice (some ado25) y465.length co25, ado25) _ ⟨(bR HO455), (z7 HO461.out), (z7 HO467.out), ⟨_, rfl⟩, ⟨_, rfl⟩, (z0 HI0.out), z2, (z1 HI0.out)⟩)
          ·skip
           rintro ⟨v460, adz_v460, v466, adz_v466⟩ w23 ⟨h0_, h1_, h2_, h3_, h4_, h5_, h6_, h7_⟩
           have n0_ : Aside0 (Kd.R k69 69 w23 w.heap.size (fun _ => True) (.slice Ao14 t453.length co14) t453) := ⟨h0_⟩
           have n1_ : Aside0 (Kd.R Kd.string 9 w23 w.heap.size (fun k_ => some k_ ≠ (v466 : Value).ownBlock) v460 y459) := ⟨h1_⟩
           have n2_ : Aside0 (Kd.R Kd.string 9 w23 w.heap.size (fun k_ => some k_ ≠ (v460 : Value).ownBlock) v466 y465) := ⟨h2_⟩
           have n3_ : Aside0 (∃ c_, (v460 : Value) = .slice (some adz_v460) y459.length c_) := ⟨h3_⟩
           have n4_ : Aside0 (∃ c_, (v466 : Value) = .slice (some adz_v466) y465.length c_) := ⟨h4_⟩
           have n5_ : Aside0 (IsS107 w0 w23 g s0_0 t463) := ⟨h5_⟩
           have n6_ : Aside0 (KeepBut w w23 g none) := ⟨h6_⟩
           have n7_ : Aside0 (Below w0.heap.size w0 w23) := ⟨h7_⟩
           clear HO455
           clear HI0
           clear HK
           clear HB
           clear h0_ h1_ h2_ h3_ h4_ h5_ h6_ h7_
           have HO455 := n0_
           have HO461 := n1_
           have HO467 := n2_
           have HA_HO461 := n3_
           have HA_HO467 := n4_
           have HI0 := n5_
           have HK := n6_
           have HB := n7_
           clear n0_ n1_ n2_ n3_ n4_ n5_ n6_ n7_
           have hHeld := trivial
           obtain ⟨co24, eo24⟩ := HA_HO461.out
           clear HA_HO461
           subst eo24
           obtain ⟨co25, eo25⟩ := HA_HO467.out
           clear HA_HO467
           subst eo25
           refine norm_ (a' := ?_) ?_ ?_
           rotate_left
           ·simp only [putAll, Act.put, List.setIfInBounds_toArray, List.set_cons_zero, List.set_cons_succ]
            rfl
           refine one_ (i := 8) (N := some 18) (bsA 15 511) rfl rfl (one_of HT_.out (by kernel_rfl)) (by decide) (fun K hK => ?_)
           refine goes_ Try.func91 (by kernel_rfl) rfl #[.pointer (some ⟨g, 0, none⟩), .int .i64 3] (by rfl) rfl rfl bM ?_
           with_reducible refine (spec_l1Next.calls g s0_0 t463 3 t468 t469 w0 _ ?side1 ?side2 A8.out).mono ?_
           (case side1 => exact z0 HI0.out)
           (case side2 => exact z1 HI0.out)
           rintro e w26 ⟨rfl, hi, hb, hk⟩
           refine ⟨_, rfl, ?_⟩
           replace HO455 := Aside0.mk (Kd.R_mono (Kd.R_keep (IsS107.apart (show IsS107 w0 _ g s0_0 t463 from z0 HI0.out) (bR HO455) (by decide)) hk (fun _ h => h.2)) (fun _ h => h.1))
           replace HO461 := Aside0.mk (Kd.R_mono (Kd.R_keep (IsS107.apart (show IsS107 w0 _ g s0_0 t463 from z0 HI0.out) (bR HO461) (by decide)) hk (fun _ h => h.2)) (fun _ h => h.1))
           replace HO467 := Aside0.mk (Kd.R_mono (Kd.R_keep (IsS107.apart (show IsS107 w0 _ g s0_0 t463 from z0 HI0.out) (bR HO467) (by decide)) hk (fun _ h => h.2)) (fun _ h => h.1))
           replace HK := Aside0.mk (KeepBut.trans z2 hk (.inl rfl))
           replace HB := Aside0.mk (hb)
           replace HI0 := Aside0.mk (hi)
           (try clear hb)
           (try clear hb2)
           (try clear hk)
           (try clear hi)
           refine hK.out _ _ trivial (fun hHeld => ?_)
           clear hK K
           refine na_ (N := some 18) (h := ?_)
           refine pa_ (i := 9) (N := some 19) (bsA 15 1023) (h := ?_)
           exact norm_ z4 (hJ1_3_5_6_8 (.slice (some adz_v460) y459.length co24, adz_v460, .slice (some adz_v466) y465.length co25, adz_v466) _ ⟨(bR HO455), (bR HO461), (bR HO467), ⟨_, rfl⟩, ⟨_, rfl⟩, (z0 HI0.out), z2, (z1 HI0.out)⟩)
         ·skip
          rintro ⟨v460, adz_v460, v466, adz_v466⟩ w24 ⟨h0_, h1_, h2_, h3_, h4_, h5_, h6_, h7_⟩
          have n0_ : Aside0 (Kd.R k69 69 w24 w.heap.size (fun _ => True) (.slice Ao14 t453.length co14) t453) := ⟨h0_⟩
          have n1_ : Aside0 (Kd.R Kd.string 9 w24 w.heap.size (fun k_ => some k_ ≠ (v466 : Value).ownBlock) v460 y459) := ⟨h1_⟩
          have n2_ : Aside0 (Kd.R Kd.string 9 w24 w.heap.size (fun k_ => some k_ ≠ (v460 : Value).ownBlock) v466 y465) := ⟨h2_⟩
          have n3_ : Aside0 (∃ c_, (v460 : Value) = .slice (some adz_v460) y459.length c_) := ⟨h3_⟩
          have n4_ : Aside0 (∃ c_, (v466 : Value) = .slice (some adz_v466) y465.length c_) := ⟨h4_⟩
          have n5_ : Aside0 (IsS107 w0 w24 g s0_0 t469) := ⟨h5_⟩
          have n6_ : Aside0 (KeepBut w w24 g none) := ⟨h6_⟩
          have n7_ : Aside0 (Below w0.heap.size w0 w24) := ⟨h7_⟩
          clear HO455
          clear HI0
          clear HK
          clear HB
          clear h0_ h1_ h2_ h3_ h4_ h5_ h6_ h7_
          have HO455 := n0_
          have HO461 := n1_
          have HO467 := n2_
          have HA_HO461 := n3_
          have HA_HO467 := n4_
          have HI0 := n5_
          have HK := n6_
          have HB := n7_
          clear n0_ n1_ n2_ n3_ n4_ n5_ n6_ n7_
          have hHeld := trivial
          obtain ⟨co25, eo25⟩ := HA_HO461.out
          clear HA_HO461
          subst eo25
          obtain ⟨co26, eo26⟩ := HA_HO467.out
          clear HA_HO467
          subst eo26
          refine norm_ (a' := ?_) ?_ ?_
          rotate_left
          ·simp only [putAll, Act.put, List.setIfInBounds_toArray, List.set_cons_zero, List.set_cons_succ]
           rfl
          refine one_ (i := 5) (N := some 15) (bsA 15 2047) rfl rfl (one_of HT_.out (by kernel_rfl)) (by decide) (fun K hK => ?_)
          (have p464 : 0 ≤ (t462 : Int) := pI; have q464 : t462 < (y459.length : Int) := pI; obtain ⟨ad464, e464, hx464_0⟩ := Kd.at_string (Kd.R_reads' HO461.out).2.2 t462 p464 q464; obtain rfl : adz_v460 = ad464 := (by injection e464))
          refine value_ (w1 := ?_) (v := ?_) (by rfl) rfl ?_ ?_
          rotate_left 2
          ·go_simp
           constructor
           ·rfl
           ·rfl
          clear hx464_0
          refine hK.out _ _ trivial (fun hHeld => ?_)
          clear hK K
          refine na_ (N := some 15) (h := ?_)
          exact norm_ z4 (hJ1_3_5_6_8_10 (.slice (some adz_v460) y459.length co25, adz_v460, .slice (some adz_v466) y465.length co26, adz_v466) _ ⟨(bR HO455), (bR HO461), (bR HO467), ⟨_, rfl⟩, ⟨_, rfl⟩, (z0 HI0.out), z2, (z1 HI0.out)⟩)
        ·skip
         rintro ⟨v460, adz_v460, v466, adz_v466⟩ w24 ⟨h0_, h1_, h2_, h3_, h4_, h5_, h6_, h7_⟩
         have n0_ : Aside0 (Kd.R k69 69 w24 w.heap.size (fun _ => True) (.slice Ao14 t453.length co14) t453) := ⟨h0_⟩
         have n1_ : Aside0 (Kd.R Kd.string 9 w24 w.heap.size (fun k_ => some k_ ≠ (v466 : Value).ownBlock) v460 y459) := ⟨h1_⟩
         have n2_ : Aside0 (Kd.R Kd.string 9 w24 w.heap.size (fun k_ => some k_ ≠ (v460 : Value).ownBlock) v466 y465) := ⟨h2_⟩
         have n3_ : Aside0 (∃ c_, (v460 : Value) = .slice (some adz_v460) y459.length c_) := ⟨h3_⟩
         have n4_ : Aside0 (∃ c_, (v466 : Value) = .slice (some adz_v466) y465.length c_) := ⟨h4_⟩
         have n5_ : Aside0 (IsS107 w0 w24 g s0_0 t469) := ⟨h5_⟩
         have n6_ : Aside0 (KeepBut w w24 g none) := ⟨h6_⟩
         have n7_ : Aside0 (Below w0.heap.size w0 w24) := ⟨h7_⟩
         clear HO455
         clear HI0
         clear HK
         clear HB
         clear h0_ h1_ h2_ h3_ h4_ h5_ h6_ h7_
         have HO455 := n0_
         have HO461 := n1_
         have HO467 := n2_
         have HA_HO461 := n3_
         have HA_HO467 := n4_
         have HI0 := n5_
         have HK := n6_
         have HB := n7_
         clear n0_ n1_ n2_ n3_ n4_ n5_ n6_ n7_
         have hHeld := trivial
         obtain ⟨co25, eo25⟩ := HA_HO461.out
         clear HA_HO461
         subst eo25
         obtain ⟨co26, eo26⟩ := HA_HO467.out
         clear HA_HO467
         subst eo26
         refine norm_ (a' := ?_) ?_ ?_
         rotate_left
         ·simp only [putAll, Act.put, List.setIfInBounds_toArray, List.set_cons_zero, List.set_cons_succ]
          rfl
         refine one_ (i := 10) (N := some 20) (bsA 15 2047) rfl rfl (one_of HT_.out (by kernel_rfl)) (by decide) (fun K hK => ?_)
         (have p470 : 0 ≤ (t468 : Int) := pI; have q470 : t468 < (y465.length : Int) := pI; obtain ⟨ad470, e470, hx470_0⟩ := Kd.at_string (Kd.R_reads' HO467.out).2.2 t468 p470 q470; obtain rfl : adz_v466 = ad470 := (by injection e470))
         refine value_ (w1 := ?_) (v := ?_) (by rfl) rfl ?_ ?_
         rotate_left 2
         ·go_simp
          constructor
          ·rfl
          ·rfl
         clear hx470_0
         refine hK.out _ _ trivial (fun hHeld => ?_)
         clear hK K
         refine na_ (N := some 20) (h := ?_)
         exact norm_ z4 (hJ1_3_5_6_8_10 (.slice (some adz_v460) y459.length co25, adz_v460, .slice (some adz_v466) y465.length co26, adz_v466) _ ⟨(bR HO455), (bR HO461), (bR HO467), ⟨_, rfl⟩, ⟨_, rfl⟩, (z0 HI0.out), z2, (z1 HI0.out)⟩)
       rintro ⟨v460, adz_v460, v466, adz_v466⟩ w24 ⟨h0_, h1_, h2_, h3_, h4_, h5_, h6_, h7_⟩
       have n0_ : Aside0 (Kd.R k69 69 w24 w.heap.size (fun _ => True) (.slice Ao14 t453.length co14) t453) := ⟨h0_⟩
       have n1_ : Aside0 (Kd.R Kd.string 9 w24 w.heap.size (fun k_ => some k_ ≠ (v466 : Value).ownBlock) v460 y459) := ⟨h1_⟩
       have n2_ : Aside0 (Kd.R Kd.string 9 w24 w.heap.size (fun k_ => some k_ ≠ (v460 : Value).ownBlock) v466 y465) := ⟨h2_⟩
       have n3_ : Aside0 (∃ c_, (v460 : Value) = .slice (some adz_v460) y459.length c_) := ⟨h3_⟩
       have n4_ : Aside0 (∃ c_, (v466 : Value) = .slice (some adz_v466) y465.length c_) := ⟨h4_⟩
       have n5_ : Aside0 (IsS107 w0 w24 g s0_0 t469) := ⟨h5_⟩
       have n6_ : Aside0 (KeepBut w w24 g none) := ⟨h6_⟩
       have n7_ : Aside0 (Below w0.heap.size w0 w24) := ⟨h7_⟩
       clear HO455
       clear HI0
       clear HK
       clear HB
       clear h0_ h1_ h2_ h3_ h4_ h5_ h6_ h7_
       have HO455 := n0_
       have HO461 := n1_
       have HO467 := n2_
       have HA_HO461 := n3_
       have HA_HO467 := n4_
       have HI0 := n5_
       have HK := n6_
       have HB := n7_
       clear n0_ n1_ n2_ n3_ n4_ n5_ n6_ n7_
       have hHeld := trivial
       obtain ⟨co25, eo25⟩ := HA_HO461.out
       clear HA_HO461
       subst eo25
       obtain ⟨co26, eo26⟩ := HA_HO467.out
       clear HA_HO467
       subst eo26
       refine norm_ (a' := ?_) ?_ ?_
       rotate_left
       ·simp only [putAll, Act.put, List.setIfInBounds_toArray, List.set_cons_zero, List.set_cons_succ]
        rfl
       refine pa_ (i := 11) (N := some 21) (bsA 15 4095) (h := ?_)
       refine one_ (i := 12) (N := some 22) (bsA 15 8191) rfl rfl (one_of HT_.out (by kernel_rfl)) (by decide) (fun K hK => ?_)
       refine value_ (w1 := ?_) (v := ?_) (by rfl) rfl ?_ ?_
       rotate_left 2
       ·go_simp
        constructor
        ·rfl
        ·rfl
       refine hK.out _ _ trivial (fun hHeld => ?_)
       clear hK K
       refine na_ (N := some 22) (h := ?_)
       refine one_ (i := 13) (N := some 23) (bsA 15 16383) rfl rfl (one_of HT_.out (by kernel_rfl)) (by decide) (fun K hK => ?_)
       refine Kd.R_append_step k69 w.heap.size (by rfl) (.tmp 10) (.tmp 22) 44 69 (.agg #[(.string ⟨#[]⟩), (.string ⟨#[]⟩)]) 32 rfl Try.underlying44 info69 rfl (by decide) (by omega) (.slice Ao14 t453.length co14) t453 (⟨rdOf ByteArray.empty y459 t462, rdOf ByteArray.empty y465 t468⟩ : S69) [.string (rdOf ByteArray.empty y459 t462), .string (rdOf ByteArray.empty y465 t468)] (fun _ => True) (fun _ => False) rfl rfl ?aP (fun _ hk => hk.elim) ?aF ?aO (Below.refl _ _) ?aS ?aL ?_
       (case aP => exact k69_mkM _ _ _ (⟨rdOf ByteArray.empty y459 t462, rdOf ByteArray.empty y465 t468⟩ : S69))
       (case aF => exact (fun _ _ => trivial))
       (case aO => exact (bR HO455))
       (case aS => exact z34)
       (case aL => have := LMc11.out; omega)
       intro v472 w27 ho hb hg hat
       rw [← Ny471.out] at ho
       have n0_ := Aside0.mk (IsS107.grown (z0 HI0.out) hg (IsS107.own_ne HI0.out HO455.out (by decide)))
       have n1_ := Aside0.mk (Kd.R_over' (bR HO461) (Kd.R_typed (bR HO455)) (by decide) hg)
       have n2_ := Aside0.mk (Kd.R_over' (bR HO467) (Kd.R_typed (bR HO455)) (by decide) hg)
       have n3_ := Aside0.mk (below_weaken (z1 HI0.out) HL.out hb)
       have n4_ := Aside0.mk (KeepBut.trans z2 (KeepBut.of_grown hg g) (Kd.R_base2 HO455.out))
       have n5_ := Aside0.mk (ho)
       clear HI0
       clear HO461
       clear HO467
       clear HB
       clear HK
       clear HO455
       have HI0 := n0_
       have HO461 := n1_
       have HO467 := n2_
       have HB := n3_
       have HK := n4_
       have HO473 := n5_
       clear n0_ n1_ n2_ n3_ n4_ n5_
       clear ho hb hg hat
       refine hK.out _ _ trivial (fun hHeld => ?_)
       clear hK K
       refine na_ (N := some 23) (h := ?_)
       refine pa_ (i := 14) (N := some 3) (bsA 15 32767) (h := ?_)
       refine done_ (done_of HT_.out (by kernel_rfl)) ?_
       try go_wp2
       go_ret
       exact ⟨_, bE, bR HO473, z0 HI0.out, z1 HI0.out, z2⟩
      ·rw [if_neg c11] at H
       exact absurd H (by simp)
     ·rw [if_neg c10] at H
      exact absurd H (by simp)
    ·rw [if_neg c9] at H
     exact absurd H (by simp)
   ·rw [if_neg c7] at H
    exact absurd H (by simp)
  ·rw [if_neg c6] at H
   exact absurd H (by simp)
 ·rw [if_neg c4] at H
  have c4b0 : (t457 == 0) = false := beq_eq_false_iff_ne.mpr c4
  have c4b1 : (t457 != 0) = true := bne_iff_ne.mpr c4
  (try simp only [c4b0, c4b1])
  by_cases c28 : t457 = 1
  ·rw [if_pos c28] at H
   have c28b0 : (t457 == 1) = true := beq_iff_eq.mpr c28
   have c28b1 : (t457 != 1) = false := bne_eq_false_iff_eq.mpr c28
   clear c28
   (try simp only [c28b0, c28b1])
   by_cases c29 : 9 ≤ 8796093022208
   ·rw [if_pos c29] at H
    have c29b0 := eq_true c29
    have c29b1 : decide (9 ≤ 8796093022208) = true := decide_eq_true c29
    clear c29
    obtain ⟨y474, hy474⟩ : ∃ y_ : List (S69), y_ = (List.replicate 9 z69) := ⟨_, rfl⟩
    replace H : (some (y474, t458)) = some (r1, r2) := z3 hy474
    have Ny474 := Aside0.mk hy474
    clear hy474
    simp only [Option.some.injEq, Prod.mk.injEq] at H
    obtain ⟨rfl, rfl⟩ := H
    go_wp2_with (first | ((with_reducible refine gate_callee (f := 89) rfl ?_); refine goesL_ (some 5) rfl rfl Try.func89 (by kernel_rfl) rfl #[.pointer (some ⟨g, 0, none⟩)] rfl bM ?_; (with_reducible refine (spec_l4Right.calls k g s0_0 s0_1 t453 t456 w0 _ ?side1 ?side2 A2.out).mono ?_); (case side1 => exact z0 HI0.out); (case side2 => exact z1 HI0.out); rintro e w30 ⟨v454, rfl, ho0, hi, hb, hk⟩; refine ⟨_, rfl, ?_⟩; have HO455 := Aside0.mk (Kd.R_lower ho0 (keep_size (w := w) (g := g) (row := none) z2)); replace HK := Aside0.mk (KeepBut.trans z2 hk (.inl rfl)); replace HB := Aside0.mk (hb); replace HI0 := Aside0.mk (hi); (try clear ho0)) | ((with_reducible refine gate_callee (f := 91) rfl ?_); refine goesL_ (some 7) rfl rfl Try.func91 (by kernel_rfl) rfl #[.pointer (some ⟨g, 0, none⟩), .int .i64 12] rfl bM ?_; (with_reducible refine (spec_l1Next.calls g s0_0 t456 12 t457 t458 w0 _ ?side1 ?side2 A3.out).mono ?_); (case side1 => exact z0 HI0.out); (case side2 => exact z1 HI0.out); rintro e w31 ⟨rfl, hi, hb, hk⟩; refine ⟨_, rfl, ?_⟩; replace HO455 := Aside0.mk (Kd.R_mono (Kd.R_keep (IsS107.apart (show IsS107 w0 _ g s0_0 t456 from z0 HI0.out) (bR HO455) (by decide)) hk (fun _ h => h.2)) (fun _ h => h.1)); replace HK := Aside0.mk (KeepBut.trans z2 hk (.inl rfl)); replace HB := Aside0.mk (hb); replace HI0 := Aside0.mk (hi); (try clear hi)) | ((with_reducible refine gate_dst (N := 26) rfl ?_); refine Kd.R_make k69 _ 69 rfl (N := 26) rfl 44 _ _ rfl 9 rfl rfl Try.underlying44 (.agg #[(.string ⟨#[]⟩), (.string ⟨#[]⟩)]) 32 info69 rfl (by decide) (by omega) z69 (ok := fun _ => True) (okp := fun _ => True) (k69_mkM _ _ _ z69 ) (fun _ hk => hk) trivial (by omega) (by omega) (Below.refl _ _) (Nat.le_refl _) ?_; intro v475 w32 ho33 hb hg_ hnew_; clear hg_ hnew_; (first | rw [← Ny474.out] at ho33 | (simp only [Int.reduceToNat] at ho33; rw [← Ny474.out] at ho33)); have HO476 := Aside0.mk (Kd.R_lower (Kd.R_new' ho33 (Kd.R_lt (bR HO455))) (keep_size (w := w) (g := g) (row := none) z2)); replace HO455 := Aside0.mk (Kd.R_elder' (bR HO455) (Kd.R_base ho33) hb); replace HK := Aside0.mk (KeepBut.trans z2 (KeepBut.of_below hb g none) (.inl rfl)); replace HB := Aside0.mk (below_step (z1 HI0.out) hb); replace HI0 := Aside0.mk (IsS107.below (z0 HI0.out) hb); clear hb ho33))
    go_ret
    exact ⟨_, bE, z15 HO476.out, z0 HI0.out, z1 HI0.out, z2⟩
   ·rw [if_neg c29] at H
    exact absurd H (by simp)
  ·rw [if_neg c28] at H
   have c28b0 : (t457 == 1) = false := beq_eq_false_iff_ne.mpr c28
   have c28b1 : (t457 != 1) = true := bne_iff_ne.mpr c28
   simp only [Option.some.injEq, Prod.mk.injEq] at H
   obtain ⟨rfl, rfl⟩ := H
   (try simp only [c28b0, c28b1])
   go_wp2_with (first | ((with_reducible refine gate_callee (f := 89) rfl ?_); refine goesL_ (some 5) rfl rfl Try.func89 (by kernel_rfl) rfl #[.pointer (some ⟨g, 0, none⟩)] rfl bM ?_; (with_reducible refine (spec_l4Right.calls k g s0_0 s0_1 t453 t456 w0 _ ?side1 ?side2 A2.out).mono ?_); (case side1 => exact z0 HI0.out); (case side2 => exact z1 HI0.out); rintro e w34 ⟨v454, rfl, ho0, hi, hb, hk⟩; refine ⟨_, rfl, ?_⟩; have HO455 := Aside0.mk (Kd.R_lower ho0 (keep_size (w := w) (g := g) (row := none) z2)); replace HK := Aside0.mk (KeepBut.trans z2 hk (.inl rfl)); replace HB := Aside0.mk (hb); replace HI0 := Aside0.mk (hi); (try clear ho0)) | ((with_reducible refine gate_callee (f := 91) rfl ?_); refine goesL_ (some 7) rfl rfl Try.func91 (by kernel_rfl) rfl #[.pointer (some ⟨g, 0, none⟩), .int .i64 12] rfl bM ?_; (with_reducible refine (spec_l1Next.calls g s0_0 t456 12 t457 t458 w0 _ ?side1 ?side2 A3.out).mono ?_); (case side1 => exact z0 HI0.out); (case side2 => exact z1 HI0.out); rintro e w35 ⟨rfl, hi, hb, hk⟩; refine ⟨_, rfl, ?_⟩; replace HO455 := Aside0.mk (Kd.R_mono (Kd.R_keep (IsS107.apart (show IsS107 w0 _ g s0_0 t456 from z0 HI0.out) (bR HO455) (by decide)) hk (fun _ h => h.2)) (fun _ h => h.1)); replace HK := Aside0.mk (KeepBut.trans z2 hk (.inl rfl)); replace HB := Aside0.mk (hb); replace HI0 := Aside0.mk (hi); (try clear hi)))
   go_ret
   exact ⟨_, bE, bR HO455, z0 HI0.out, z1 HI0.out, z2⟩
end Go.Proofs.Ytjopgmjmjnfcjaa.PHeaders
