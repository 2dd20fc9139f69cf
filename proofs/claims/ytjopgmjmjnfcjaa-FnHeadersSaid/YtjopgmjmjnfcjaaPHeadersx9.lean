/- Part of the proof: what its walks use. -/
import Derived.Test.YtjopgmjmjnfcjaaPHeadersx0
import Derived.Test.YtjopgmjmjnfcjaaPHeadersx5
import Derived.Test.YtjopgmjmjnfcjaaPHeadersx8
namespace Go.Proofs.Ytjopgmjmjnfcjaa.PHeaders
open Go.RowKit Go.Proofs.YtjopgmjmjnfcjaaW.PrintWords Go.Proofs.YtjopgmjmjnfcjaaW.PrintLast Go.Proofs.YtjopgmjmjnfcjaaW.PrintMore
set_option linter.unusedVariables false
set_option linter.unusedSimpArgs false
def spec_DrawPackHeader.f (k : Nat) (l0 : List Int) : Option ((List (S69))) := (spec_l1Source.f l0).bind fun bt477 => ((spec_l4Bent.f k bt477.1 bt477.2).bind fun bt480 => (some bt480.1))
set_option maxHeartbeats 8000000 in
set_option maxRecDepth 100000 in
theorem spec_DrawPackHeader.calls (k : Nat) (A0 : Option Addr) (c0 : Nat) (l0 : List Int) (r : List (S69)) (w : World) (hr0 : Kd.C (Kd.int .u8) w A0 l0.length l0) (hc0 : l0.length ≤ c0) (h : spec_DrawPackHeader.f k l0 = some r) :
  Calls Try.prog 50 #[.slice A0 l0.length c0] w fun e w' => ∃ v0_ : Value, e = .returned (v0_) ∧ Kd.R k69 69 w' w.heap.size (fun _ => True) v0_ r ∧ Below w.heap.size w w' := by
 have HR0 := Aside0.mk hr0
 have HC0 := Aside0.mk hc0
 clear hr0 hc0
 have HB := Aside0.mk (Below.refl w.heap.size w)
 have H : ((spec_l1Source.f l0).bind fun bt477 => ((spec_l4Bent.f k bt477.1 bt477.2).bind fun bt480 => (some bt480.1))) = some r := h
 clear h
 replace H := Option.bind_eq_some_iff.mp H
 obtain ⟨⟨t477, t478⟩, A20, H⟩ := H
 replace H : ((spec_l4Bent.f k t477 t478).bind fun bt480 => (some bt480.1)) = some r := H
 have A2 := Aside0.mk A20
 clear A20
 replace H := Option.bind_eq_some_iff.mp H
 obtain ⟨⟨t480, t483⟩, A30, H⟩ := H
 replace H : (some t480) = some r := H
 have A3 := Aside0.mk A30
 clear A30
 obtain rfl := Option.some.inj H
 go_enter Try.func50, Try.ntmps50
 go_wp2_with (first | ((with_reducible refine gate_callee (f := 52) rfl ?_); refine goesL_ (some 4) rfl rfl Try.func52 (by kernel_rfl) rfl #[.slice A0 l0.length c0] rfl bM ?_; (with_reducible refine (spec_l1Source.calls _ _ l0 t477 t478 w _ ?side1 ?side2 ?side3 A2.out).mono ?_); (case side1 => exact z36); (case side2 => exact HR0.out); (case side3 => exact HC0.out); rintro e w4 ⟨g479, rfl, hi, hb, hb2⟩; refine ⟨_, rfl, ?_⟩; replace HB := Aside0.mk (hb); have HI479 := Aside0.mk (hi); (try clear hi)) | ((with_reducible refine gate_callee (f := 92) rfl ?_); refine goesL_ (some 5) rfl rfl Try.func92 (by kernel_rfl) rfl #[.pointer (some ⟨g479, 0, none⟩)] rfl bM ?_; (with_reducible refine (spec_l4Bent.calls k g479 t477 t478 t480 t483 w _ ?side1 ?side2 A3.out).mono ?_); (case side1 => exact z0 HI479.out); (case side2 => exact z1 HI479.out); rintro e w5 ⟨v481, rfl, ho0, hi, hb, hk⟩; refine ⟨_, rfl, ?_⟩; have HO482 := Aside0.mk (Kd.R_lower ho0 (below_size (z1 HI479.out))); replace HB := Aside0.mk (hb); replace HI479 := Aside0.mk (hi); (try clear ho0)))
 go_ret
 exact ⟨_, bE, bR HO482, z1 HI479.out⟩
def spec_DrawFieldOf.f (k : Nat) (l0 : List Int) : Option ((List (S69)) × ByteArray) := (spec_l1Source.f l0).bind fun bt484 => ((spec_l4Bent.f k bt484.1 bt484.2).bind fun bt487 => ((some (([(⟨#[115, 117, 98, 106, 101, 99, 116]⟩ : ByteArray), (⟨#[84, 79]⟩ : ByteArray), (⟨#[67, 111, 110, 116, 101, 110, 116, 45, 84, 121, 112, 101]⟩ : ByteArray), (⟨#[110, 111, 110, 101]⟩ : ByteArray), (⟨#[]⟩ : ByteArray)] : List ByteArray) : List ByteArray)).bind fun y491 => ((spec_l1Next.f bt484.1 bt487.2 5).bind fun bt494 => (if 0 ≤ bt494.1 then (if bt494.1 < (y491.length : Int) then (some (bt487.1, rdOf ByteArray.empty y491 bt494.1)) else (none)) else (none)))))
def spec_DrawFieldOf.T2 : Bool × List (List Nat × List Nat) := (true, [([], []), ([0], [0]), ([], []), ([], []), ([3, 1], [3]), ([2, 4], [2, 4]), ([5], [5]), ([1, 4, 0, 1], [1]), ([6, 7, 0, 1, 2, 3, 4, 5, 6, 7], [6])])
def spec_DrawFieldOf.B2 : List Nat := [0, 1, 0, 0, 11, 31, 63, 27, 255]
theorem spec_DrawFieldOf.tab2 : rtab .any (opsOf Try.f51 2) = spec_DrawFieldOf.T2 := by kernel_rfl
theorem spec_DrawFieldOf.bits2 : waitsOk spec_DrawFieldOf.T2.2 spec_DrawFieldOf.B2 = true := by kernel_rfl
set_option maxHeartbeats 8000000 in
set_option maxRecDepth 100000 in
theorem spec_DrawFieldOf.calls (k : Nat) (A0 : Option Addr) (c0 : Nat) (l0 : List Int) (r1 : List (S69)) (r2 : ByteArray) (w : World) (hr0 : Kd.C (Kd.int .u8) w A0 l0.length l0) (hc0 : l0.length ≤ c0) (h : spec_DrawFieldOf.f k l0 = some (r1, r2)) :
  Calls Try.prog 51 #[.slice A0 l0.length c0] w fun e w' => ∃ v0_ : Value, e = .returned (.tuple #[v0_, .string r2]) ∧ Kd.R k69 69 w' w.heap.size (fun _ => True) v0_ r1 ∧ Below w.heap.size w w' := by
 have HR0 := Aside0.mk hr0
 have HC0 := Aside0.mk hc0
 clear hr0 hc0
 have HB := Aside0.mk (Below.refl w.heap.size w)
 have H : ((spec_l1Source.f l0).bind fun bt484 => ((spec_l4Bent.f k bt484.1 bt484.2).bind fun bt487 => ((some (([(⟨#[115, 117, 98, 106, 101, 99, 116]⟩ : ByteArray), (⟨#[84, 79]⟩ : ByteArray), (⟨#[67, 111, 110, 116, 101, 110, 116, 45, 84, 121, 112, 101]⟩ : ByteArray), (⟨#[110, 111, 110, 101]⟩ : ByteArray), (⟨#[]⟩ : ByteArray)] : List ByteArray) : List ByteArray)).bind fun y491 => ((spec_l1Next.f bt484.1 bt487.2 5).bind fun bt494 => (if 0 ≤ bt494.1 then (if bt494.1 < (y491.length : Int) then (some (bt487.1, rdOf ByteArray.empty y491 bt494.1)) else (none)) else (none)))))) = some (r1, r2) := h
 clear h
 replace H := Option.bind_eq_some_iff.mp H
 obtain ⟨⟨t484, t485⟩, A20, H⟩ := H
 replace H : ((spec_l4Bent.f k t484 t485).bind fun bt487 => ((some (([(⟨#[115, 117, 98, 106, 101, 99, 116]⟩ : ByteArray), (⟨#[84, 79]⟩ : ByteArray), (⟨#[67, 111, 110, 116, 101, 110, 116, 45, 84, 121, 112, 101]⟩ : ByteArray), (⟨#[110, 111, 110, 101]⟩ : ByteArray), (⟨#[]⟩ : ByteArray)] : List ByteArray) : List ByteArray)).bind fun y491 => ((spec_l1Next.f t484 bt487.2 5).bind fun bt494 => (if 0 ≤ bt494.1 then (if bt494.1 < (y491.length : Int) then (some (bt487.1, rdOf ByteArray.empty y491 bt494.1)) else (none)) else (none))))) = some (r1, r2) := H
 have A2 := Aside0.mk A20
 clear A20
 replace H := Option.bind_eq_some_iff.mp H
 obtain ⟨⟨t487, t490⟩, A30, H⟩ := H
 replace H : ((some (([(⟨#[115, 117, 98, 106, 101, 99, 116]⟩ : ByteArray), (⟨#[84, 79]⟩ : ByteArray), (⟨#[67, 111, 110, 116, 101, 110, 116, 45, 84, 121, 112, 101]⟩ : ByteArray), (⟨#[110, 111, 110, 101]⟩ : ByteArray), (⟨#[]⟩ : ByteArray)] : List ByteArray) : List ByteArray)).bind fun y491 => ((spec_l1Next.f t484 t490 5).bind fun bt494 => (if 0 ≤ bt494.1 then (if bt494.1 < (y491.length : Int) then (some (t487, rdOf ByteArray.empty y491 bt494.1)) else (none)) else (none)))) = some (r1, r2) := H
 have A3 := Aside0.mk A30
 clear A30
 obtain ⟨y491, hy491⟩ : ∃ y_ : List ByteArray, y_ = (([(⟨#[115, 117, 98, 106, 101, 99, 116]⟩ : ByteArray), (⟨#[84, 79]⟩ : ByteArray), (⟨#[67, 111, 110, 116, 101, 110, 116, 45, 84, 121, 112, 101]⟩ : ByteArray), (⟨#[110, 111, 110, 101]⟩ : ByteArray), (⟨#[]⟩ : ByteArray)] : List ByteArray)) := ⟨_, rfl⟩
 replace H : ((spec_l1Next.f t484 t490 5).bind fun bt494 => (if 0 ≤ bt494.1 then (if bt494.1 < (y491.length : Int) then (some (t487, rdOf ByteArray.empty y491 bt494.1)) else (none)) else (none))) = some (r1, r2) := z3 hy491
 have Ny491 := Aside0.mk hy491
 clear hy491
 replace H := Option.bind_eq_some_iff.mp H
 obtain ⟨⟨t494, t495⟩, A40, H⟩ := H
 replace H : (if 0 ≤ t494 then (if t494 < (y491.length : Int) then (some (t487, rdOf ByteArray.empty y491 t494)) else (none)) else (none)) = some (r1, r2) := H
 have A4 := Aside0.mk A40
 clear A40
 by_cases c5 : 0 ≤ t494
 ·rw [if_pos c5] at H
  have c5b0 : decide (0 ≤ t494) = true := decide_eq_true c5
  clear c5
  by_cases c6 : t494 < (y491.length : Int)
  ·rw [if_pos c6] at H
   have c6b0 : decide (t494 < (y491.length : Int)) = true := decide_eq_true c6
   clear c6
   simp only [Option.some.injEq, Prod.mk.injEq] at H
   obtain ⟨rfl, rfl⟩ := H
   go_enter Try.func51, Try.ntmps51
   try go_wp2_with (first | ((with_reducible refine gate_callee (f := 52) rfl ?_); refine goesL_ (some 6) rfl rfl Try.func52 (by kernel_rfl) rfl #[.slice A0 l0.length c0] rfl bM ?_; (with_reducible refine (spec_l1Source.calls _ _ l0 t484 t485 w _ ?side1 ?side2 ?side3 A2.out).mono ?_); (case side1 => exact z36); (case side2 => exact HR0.out); (case side3 => exact HC0.out); rintro e w7 ⟨g486, rfl, hi, hb, hb2⟩; refine ⟨_, rfl, ?_⟩; replace HB := Aside0.mk (hb); have HI486 := Aside0.mk (hi); (try clear hi)))
   have pi496 : (0 ≤ (t494 : Int)) = True := eq_true (pI)
   have qi496 : (t494 < (y491.length : Int)) = True := eq_true (pI)
   replace HI486 := Aside0.mk (IsS107.drew HI486.out)
   replace HB := Aside0.mk (below_drew1 HB.out)
   refine start_ (n := 9) (S := fun w' => True) (ds := []) (bsA 9 0) (by kernel_rfl) rfl rfl trivial (fun hHeld => ?_); refine with_tabW spec_DrawFieldOf.tab2 spec_DrawFieldOf.bits2 (fun HT_ HW_ => ?_)
   generalize w7.drew = w8 at HI486 HB hHeld ⊢
   refine pa_ (i := 0) (N := some 7) (bsA 9 1) (h := ?_)
   refine pa_ (i := 3) (N := some 10) (bsA 9 9) (h := ?_)
   refine inv_at [1, 2, 4, 5, 6, 7, 8] (fun a0_ b a w' => ∃ (v488 : Value) (v492 : Value) (adz_v492 : Addr) (m5_ : Value) (m7_ : Value), a = putSel a0_ b [(1, 8, v488), (2, 9, v492), (4, 11, .int .i64 t494), (5, 12, m5_), (6, 13, .string (rdOf ByteArray.empty y491 t494)), (7, 2, m7_), (8, 3, .string (rdOf ByteArray.empty y491 t494))] ∧ (b 1 = false → IsS107 w w' g486 t484 t485) ∧ (Below w.heap.size w w') ∧ (b 1 = true → Kd.R k69 69 w' w.heap.size (fun _ => True) v488 t487) ∧ (b 1 = true → b 4 = false → IsS107 w w' g486 t484 t490) ∧ (b 2 = true → Kd.R Kd.string 9 w' w.heap.size (fun _ => True) v492 y491) ∧ (b 2 = true → ∃ c_, (v492 : Value) = .slice (some adz_v492) y491.length c_) ∧ (b 4 = true → IsS107 w w' g486 t484 t495) ∧ (b 5 = true → (m5_ : Value) = .pointer (some (adz_v492.add (t494).toNat))) ∧ (b 7 = true → (m7_ : Value) = v488)) HT_.out HW_.out (by kernel_rfl) (by kernel_rfl) ?_ ?_ ?_
   ·exact ⟨.bool false, .bool false, ⟨0, 0, none⟩, .bool false, .bool false, by simp only [putSel, Bool.false_eq_true, if_false], fun _ => HI486.out, HB.out, fun h_ => absurd h_ (by decide), fun h_ => absurd h_ (by decide), fun h_ => absurd h_ (by decide), fun h_ => absurd h_ (by decide), fun h_ => absurd h_ (by decide), fun h_ => absurd h_ (by decide), fun h_ => absurd h_ (by decide)⟩
   ·skip
    clear HB HI486
    refine steps_cons ?_ ?_
    ·rintro b a w' ⟨v488, v492, adz_v492, m5_, m7_, ha, Q_HI486, Q_HB, Q_HO489, Q_HI486_e1, Q_HO493, Q_HA_HO493, Q_HI486_e4, Q_X5_, Q_X7_⟩ hb_ hon hoff
     refine ⟨_, rfl, fun K hK => ?_⟩
     have e7 : a.tmps[7]? = some (.pointer (some ⟨g486, 0, none⟩)) := by rw [ha]; exact (putSel_off rfl).trans rfl
     replace ha := Aside0.mk ha
     have HI486 := Aside0.mk (Q_HI486 hb_)
     have HB := Aside0.mk Q_HB
     refine goes_ Try.func92 (by kernel_rfl) rfl #[.pointer (some ⟨g486, 0, none⟩)] (by rfl) rfl rfl (by first | (simp only [List.map_toArray, List.map_cons, List.map_nil, Act.eval, Array.getD_eq_getD_getElem?, Option.getD_some, e7]; done) | (simp only [List.map_toArray, List.map_cons, List.map_nil, Act.eval, Array.getD_eq_getD_getElem?, Option.getD_some, e7]; rfl)) ?_
     with_reducible refine (spec_l4Bent.calls k g486 t484 t485 t487 t490 w _ ?side1 ?side2 A3.out).mono ?_
     (case side1 => exact z0 HI486.out)
     (case side2 => exact z1 HI486.out)
     rintro e w9 ⟨v488, rfl, ho0, hi, hb, hk⟩
     refine ⟨_, rfl, ?_⟩
     have n0_ := Aside0.mk (Kd.R_lower ho0 (below_size (z1 HI486.out)))
     have n1_ := Aside0.mk (hb)
     have n2_ := Aside0.mk (hi)
     have z_HO493 := fun (h0_ : b 2 = true) => (show Kd.R Kd.string 9 w9 w.heap.size (fun _ => True) v492 y491 from by first | exact (Kd.R_mono (Kd.R_keep (IsS107.apart (show IsS107 w _ g486 t484 t485 from z0 HI486.out) z41 (by decide)) hk (fun _ h => h.2)) (fun _ h => h.1)) | exact Kd.R_mono (Kd.R_mono (Kd.R_keep (IsS107.apart (show IsS107 w _ g486 t484 t485 from z0 HI486.out) z41 (by decide)) hk (fun _ h => h.2)) (fun _ h => h.1)) (fun _ h_ => by first | trivial | exact h_ | exact h_.1))
     clear HB
     clear HI486
     have HO489 := n0_
     have HB := n1_
     have HI486 := n2_
     clear n0_ n1_ n2_
     (try clear hb)
     (try clear hb2)
     (try clear hk)
     (try clear hi)
     (try clear ho0)
     refine hK.out _ _ ⟨v488, v492, adz_v492, m5_, m7_, (by rw [ha.out]; exact putSel_upk 0 hb_ rfl rfl rfl), fun h0_ => absurd ((up_self b 1).symm.trans h0_) (by decide), (z1 HI486.out), fun _ => (bR HO489), fun _ _ => (z0 HI486.out), z_HO493, Q_HA_HO493, fun h0_ => absurd ((hoff 4 (by kernel_rfl)).symm.trans h0_) (by decide), fun h0_ => absurd ((hoff 5 (by kernel_rfl)).symm.trans h0_) (by decide), fun h0_ => absurd ((hoff 7 (by kernel_rfl)).symm.trans h0_) (by decide)⟩
    refine steps_cons ?_ ?_
    ·rintro b a w' ⟨v488, v492, adz_v492, m5_, m7_, ha, Q_HI486, Q_HB, Q_HO489, Q_HI486_e1, Q_HO493, Q_HA_HO493, Q_HI486_e4, Q_X5_, Q_X7_⟩ hb_ hon hoff
     refine ⟨_, rfl, fun K hK => ?_⟩
     replace ha := Aside0.mk ha
     have HB := Aside0.mk Q_HB
     refine Kd.R_lit_step Kd.string _ 9 ?hg (N := 9) ?hd (xs := ([(⟨#[115, 117, 98, 106, 101, 99, 116]⟩ : ByteArray), (⟨#[84, 79]⟩ : ByteArray), (⟨#[67, 111, 110, 116, 101, 110, 116, 45, 84, 121, 112, 101]⟩ : ByteArray), (⟨#[110, 111, 110, 101]⟩ : ByteArray), (⟨#[]⟩ : ByteArray)] : List ByteArray)) (inner := [.string (⟨#[115, 117, 98, 106, 101, 99, 116]⟩ : ByteArray), .string (⟨#[84, 79]⟩ : ByteArray), .string (⟨#[67, 111, 110, 116, 101, 110, 116, 45, 84, 121, 112, 101]⟩ : ByteArray), .string (⟨#[110, 111, 110, 101]⟩ : ByteArray), .string (⟨#[]⟩ : ByteArray)]) (ok := fun _ => True) (okp := fun _ => True) ?hr ?hp (fun _ hk => hk) trivial (Below.refl _ _) (Nat.le_refl _) (by simp) ?_; (case hd => rfl); (case hg => rfl); (case hr => exact z14); (case hp => exact (Reps.one (show Kd.M Kd.string _ _ _ (⟨#[115, 117, 98, 106, 101, 99, 116]⟩ : ByteArray) [.string (⟨#[115, 117, 98, 106, 101, 99, 116]⟩ : ByteArray)] from rfl) (Reps.one (show Kd.M Kd.string _ _ _ (⟨#[84, 79]⟩ : ByteArray) [.string (⟨#[84, 79]⟩ : ByteArray)] from rfl) (Reps.one (show Kd.M Kd.string _ _ _ (⟨#[67, 111, 110, 116, 101, 110, 116, 45, 84, 121, 112, 101]⟩ : ByteArray) [.string (⟨#[67, 111, 110, 116, 101, 110, 116, 45, 84, 121, 112, 101]⟩ : ByteArray)] from rfl) (Reps.one (show Kd.M Kd.string _ _ _ (⟨#[110, 111, 110, 101]⟩ : ByteArray) [.string (⟨#[110, 111, 110, 101]⟩ : ByteArray)] from rfl) (Reps.one (show Kd.M Kd.string _ _ _ (⟨#[]⟩ : ByteArray) [.string (⟨#[]⟩ : ByteArray)] from rfl) (Reps.none _ _)))))))
     intro v492 w9 ho10 hb hg_ hnew_
     clear hg_ hnew_
     (first | rw [← Ny491.out] at ho10 | (simp only [Int.reduceToNat] at ho10; rw [← Ny491.out] at ho10))
     have n0_ := Aside0.mk (Kd.R_lower ho10 (below_size bB))
     have n2_ := Aside0.mk (below_step bB hb)
     have z_HI486 := fun (h0_ : b 1 = false) => (show IsS107 w w9 g486 t484 t485 from by first | exact (IsS107.below (by repeat (first | (with_reducible first | exact (Q_HI486 h0_) | apply IsS107.alloc | apply IsS107.drewN | apply IsS107.drew | apply IsS107.set_1) | exact (Q_HI486 h0_))) hb))
     have z_HO489 := fun (h0_ : b 1 = true) => (show Kd.R k69 69 w9 w.heap.size (fun _ => True) v488 t487 from by first | exact (Kd.R_below (by (with_reducible repeat (first | apply Kd.R_alloc | apply Kd.R_drewN | apply Kd.R_drew)); exact (Q_HO489 h0_)) hb) | exact Kd.R_mono (Kd.R_below (by (with_reducible repeat (first | apply Kd.R_alloc | apply Kd.R_drewN | apply Kd.R_drew)); exact (Q_HO489 h0_)) hb) (fun _ h_ => by first | trivial | exact h_ | exact h_.1))
     have z_HI486_e1 := fun (h0_ : b 1 = true) (h1_ : b 4 = false) => (show IsS107 w w9 g486 t484 t490 from by first | exact (IsS107.below (by repeat (first | (with_reducible first | exact (Q_HI486_e1 h0_ h1_) | apply IsS107.alloc | apply IsS107.drewN | apply IsS107.drew | apply IsS107.set_1) | exact (Q_HI486_e1 h0_ h1_))) hb))
     have z_HI486_e4 := fun (h0_ : b 4 = true) => (show IsS107 w w9 g486 t484 t495 from by first | exact (IsS107.below (by repeat (first | (with_reducible first | exact (Q_HI486_e4 h0_) | apply IsS107.alloc | apply IsS107.drewN | apply IsS107.drew | apply IsS107.set_1) | exact (Q_HI486_e4 h0_))) hb))
     clear HB
     have HO493 := n0_
     have HB := n2_
     clear n0_ n2_
     clear hb ho10
     obtain ⟨Ao11, co11, eo11⟩ := Kd.R_slice HO493.out
     subst eo11
     obtain ⟨ado11, fo11, _⟩ := Kd.at_string (Kd.R_reads' HO493.out).2.2 0 (by decide) (by rw [Ny491.out]; simp)
     cases fo11
     refine hK.out _ _ ⟨v488, .slice (some ado11) y491.length co11, ado11, m5_, m7_, (by rw [ha.out]; exact putSel_upk 1 hb_ rfl rfl rfl), z_HI486, bB, z_HO489, z_HI486_e1, fun _ => (bR HO493), fun _ => ⟨_, rfl⟩, z_HI486_e4, fun h0_ => absurd ((hoff 5 (by kernel_rfl)).symm.trans h0_) (by decide), Q_X7_⟩
    refine steps_cons ?_ ?_
    ·rintro b a w' ⟨v488, v492, adz_v492, m5_, m7_, ha, Q_HI486, Q_HB, Q_HO489, Q_HI486_e1, Q_HO493, Q_HA_HO493, Q_HI486_e4, Q_X5_, Q_X7_⟩ hb_ hon hoff
     refine ⟨_, rfl, fun K hK => ?_⟩
     have e10 : a.tmps[10]? = some (.pointer (some ⟨g486, 0, none⟩)) := by rw [ha]; exact (putSel_off rfl).trans rfl
     replace ha := Aside0.mk ha
     have HB := Aside0.mk Q_HB
     have HO489 := Aside0.mk (Q_HO489 (hon 1 (by kernel_rfl)))
     have HI486 := Aside0.mk (Q_HI486_e1 (hon 1 (by kernel_rfl)) hb_)
     refine goes_ Try.func91 (by kernel_rfl) rfl #[.pointer (some ⟨g486, 0, none⟩), .int .i64 5] (by rfl) rfl rfl (by first | (simp only [List.map_toArray, List.map_cons, List.map_nil, Act.eval, Array.getD_eq_getD_getElem?, Option.getD_some, e10]; done) | (simp only [List.map_toArray, List.map_cons, List.map_nil, Act.eval, Array.getD_eq_getD_getElem?, Option.getD_some, e10]; rfl)) ?_
     with_reducible refine (spec_l1Next.calls g486 t484 t490 5 t494 t495 w _ ?side1 ?side2 A4.out).mono ?_
     (case side1 => exact z0 HI486.out)
     (case side2 => exact z1 HI486.out)
     rintro e w11 ⟨rfl, hi, hb, hk⟩
     refine ⟨_, rfl, ?_⟩
     have n0_ := Aside0.mk (Kd.R_mono (Kd.R_keep (IsS107.apart (show IsS107 w _ g486 t484 t490 from z0 HI486.out) (bR HO489) (by decide)) hk (fun _ h => h.2)) (fun _ h => h.1))
     have n1_ := Aside0.mk (hb)
     have n2_ := Aside0.mk (hi)
     have z_HO493 := fun (h0_ : b 2 = true) => (show Kd.R Kd.string 9 w11 w.heap.size (fun _ => True) v492 y491 from by first | exact (Kd.R_mono (Kd.R_keep (IsS107.apart (show IsS107 w _ g486 t484 t490 from z0 HI486.out) z41 (by decide)) hk (fun _ h => h.2)) (fun _ h => h.1)) | exact Kd.R_mono (Kd.R_mono (Kd.R_keep (IsS107.apart (show IsS107 w _ g486 t484 t490 from z0 HI486.out) z41 (by decide)) hk (fun _ h => h.2)) (fun _ h => h.1)) (fun _ h_ => by first | trivial | exact h_ | exact h_.1))
     clear HO489
     clear HB
     clear HI486
     have HO489 := n0_
     have HB := n1_
     have HI486 := n2_
     clear n0_ n1_ n2_
     (try clear hb)
     (try clear hb2)
     (try clear hk)
     (try clear hi)
     refine hK.out _ _ ⟨v488, v492, adz_v492, m5_, m7_, (by rw [ha.out]; exact putSel_upk 2 hb_ rfl rfl rfl), fun h0_ => absurd ((hon 1 (by kernel_rfl)).symm.trans h0_) (by decide), (z1 HI486.out), fun _ => (bR HO489), fun _ h1_ => absurd ((up_self b 4).symm.trans h1_) (by decide), z_HO493, Q_HA_HO493, fun _ => (z0 HI486.out), fun h0_ => absurd ((hoff 5 (by kernel_rfl)).symm.trans h0_) (by decide), fun h0_ => absurd ((hoff 7 (by kernel_rfl)).symm.trans h0_) (by decide)⟩
    refine steps_cons ?_ ?_
    ·rintro b a w' ⟨v488, v492, adz_v492, m5_, m7_, ha, Q_HI486, Q_HB, Q_HO489, Q_HI486_e1, Q_HO493, Q_HA_HO493, Q_HI486_e4, Q_X5_, Q_X7_⟩ hb_ hon hoff
     refine ⟨_, rfl, fun K hK => ?_⟩
     have e9 : a.tmps[9]? = some (v492) := by rw [ha]; exact putSel_on (e := (2, 9, v492)) 1 rfl rfl (hon 2 (by kernel_rfl)) rfl
     have e11 : a.tmps[11]? = some (.int .i64 t494) := by rw [ha]; exact putSel_on (e := (4, 11, .int .i64 t494)) 2 rfl rfl (hon 4 (by kernel_rfl)) rfl
     replace ha := Aside0.mk ha
     have HB := Aside0.mk Q_HB
     have HO489 := Aside0.mk (Q_HO489 (hon 1 (by kernel_rfl)))
     have HO493 := Aside0.mk (Q_HO493 (hon 2 (by kernel_rfl)))
     have HA_HO493 := Aside0.mk (Q_HA_HO493 (hon 2 (by kernel_rfl)))
     have HI486 := Aside0.mk (Q_HI486_e4 (hon 4 (by kernel_rfl)))
     obtain ⟨c_, hv_⟩ := HA_HO493.out
     rw [hv_] at e9
     refine value_ (w1 := w') (v := .pointer (some (adz_v492.add (t494).toNat))) (by rfl) rfl ?_ ?_
     ·go_simp
      (try simp only [i64_w])
      try rfl
     refine hK.out _ _ ⟨v488, v492, adz_v492, (.pointer (some (adz_v492.add (t494).toNat))), m7_, (by rw [ha.out]; exact putSel_upk 3 hb_ rfl rfl rfl), fun h0_ => absurd ((hon 1 (by kernel_rfl)).symm.trans h0_) (by decide), Q_HB, Q_HO489, fun _ h1_ => absurd ((hon 4 (by kernel_rfl)).symm.trans h1_) (by decide), Q_HO493, Q_HA_HO493, Q_HI486_e4, fun _ => rfl, Q_X7_⟩
    refine steps_cons ?_ ?_
    ·rintro b a w' ⟨v488, v492, adz_v492, m5_, m7_, ha, Q_HI486, Q_HB, Q_HO489, Q_HI486_e1, Q_HO493, Q_HA_HO493, Q_HI486_e4, Q_X5_, Q_X7_⟩ hb_ hon hoff
     refine ⟨_, rfl, fun K hK => ?_⟩
     have e12 : a.tmps[12]? = some (m5_) := by rw [ha]; exact putSel_on (e := (5, 12, m5_)) 3 rfl rfl (hon 5 (by kernel_rfl)) rfl
     rw [Q_X5_ (hon 5 (by kernel_rfl))] at e12
     replace ha := Aside0.mk ha
     have HB := Aside0.mk Q_HB
     have HO489 := Aside0.mk (Q_HO489 (hon 1 (by kernel_rfl)))
     have HO493 := Aside0.mk (Q_HO493 (hon 2 (by kernel_rfl)))
     have HA_HO493 := Aside0.mk (Q_HA_HO493 (hon 2 (by kernel_rfl)))
     have HI486 := Aside0.mk (Q_HI486_e4 (hon 4 (by kernel_rfl)))
     obtain ⟨c_, hv_⟩ := HA_HO493.out
     have hF_ := HO493.out
     rw [hv_] at hF_
     obtain ⟨ad_, ea_, hx_⟩ := Kd.at_string (Kd.R_reads' hF_).2.2 t494 (of_eq_true pi496) (of_eq_true qi496)
     cases ea_
     refine value_ (w1 := w') (v := .string (rdOf ByteArray.empty y491 t494)) (by rfl) rfl ?_ ?_
     ·go_simp
      (try simp only [i64_w])
      try rfl
     refine hK.out _ _ ⟨v488, v492, adz_v492, m5_, m7_, (by rw [ha.out]; exact putSel_upk 4 hb_ rfl rfl rfl), fun h0_ => absurd ((hon 1 (by kernel_rfl)).symm.trans h0_) (by decide), Q_HB, Q_HO489, fun _ h1_ => absurd ((hon 4 (by kernel_rfl)).symm.trans h1_) (by decide), Q_HO493, Q_HA_HO493, Q_HI486_e4, Q_X5_, Q_X7_⟩
    refine steps_cons ?_ ?_
    ·rintro b a w' ⟨v488, v492, adz_v492, m5_, m7_, ha, Q_HI486, Q_HB, Q_HO489, Q_HI486_e1, Q_HO493, Q_HA_HO493, Q_HI486_e4, Q_X5_, Q_X7_⟩ hb_ hon hoff
     refine ⟨_, rfl, fun K hK => ?_⟩
     have e8 : a.tmps[8]? = some (v488) := by rw [ha]; exact putSel_on (e := (1, 8, v488)) 0 rfl rfl (hon 1 (by kernel_rfl)) rfl
     replace ha := Aside0.mk ha
     have HB := Aside0.mk Q_HB
     have HO489 := Aside0.mk (Q_HO489 (hon 1 (by kernel_rfl)))
     have HI486 := Aside0.mk (Q_HI486_e4 (hon 4 (by kernel_rfl)))
     refine value_ (w1 := w') (v := v488) (by rfl) rfl ?_ ?_
     ·go_simp
      (try simp only [i64_w])
      try rfl
     refine hK.out _ _ ⟨v488, v492, adz_v492, m5_, (v488), (by rw [ha.out]; exact putSel_upk 5 hb_ rfl rfl rfl), fun h0_ => absurd ((hon 1 (by kernel_rfl)).symm.trans h0_) (by decide), Q_HB, Q_HO489, fun _ h1_ => absurd ((hon 4 (by kernel_rfl)).symm.trans h1_) (by decide), Q_HO493, Q_HA_HO493, Q_HI486_e4, Q_X5_, fun _ => rfl⟩
    refine steps_cons ?_ ?_
    ·rintro b a w' ⟨v488, v492, adz_v492, m5_, m7_, ha, Q_HI486, Q_HB, Q_HO489, Q_HI486_e1, Q_HO493, Q_HA_HO493, Q_HI486_e4, Q_X5_, Q_X7_⟩ hb_ hon hoff
     refine ⟨_, rfl, fun K hK => ?_⟩
     have e13 : a.tmps[13]? = some (.string (rdOf ByteArray.empty y491 t494)) := by rw [ha]; exact putSel_on (e := (6, 13, .string (rdOf ByteArray.empty y491 t494))) 4 rfl rfl (hon 6 (by kernel_rfl)) rfl
     replace ha := Aside0.mk ha
     have HB := Aside0.mk Q_HB
     have HO489 := Aside0.mk (Q_HO489 (hon 1 (by kernel_rfl)))
     have HO493 := Aside0.mk (Q_HO493 (hon 2 (by kernel_rfl)))
     have HA_HO493 := Aside0.mk (Q_HA_HO493 (hon 2 (by kernel_rfl)))
     have HI486 := Aside0.mk (Q_HI486_e4 (hon 4 (by kernel_rfl)))
     refine value_ (w1 := w') (v := .string (rdOf ByteArray.empty y491 t494)) (by rfl) rfl ?_ ?_
     ·go_simp
      (try simp only [i64_w])
      try rfl
     refine hK.out _ _ ⟨v488, v492, adz_v492, m5_, m7_, (by rw [ha.out]; exact putSel_upk 6 hb_ rfl rfl rfl), fun h0_ => absurd ((hon 1 (by kernel_rfl)).symm.trans h0_) (by decide), Q_HB, Q_HO489, fun _ h1_ => absurd ((hon 4 (by kernel_rfl)).symm.trans h1_) (by decide), Q_HO493, Q_HA_HO493, Q_HI486_e4, Q_X5_, Q_X7_⟩
    exact steps_nil
   rintro b a w14 hall ⟨v488, v492, adz_v492, m5_, m7_, ha, Q_HI486, Q_HB, Q_HO489, Q_HI486_e1, Q_HO493, Q_HA_HO493, Q_HI486_e4, Q_X5_, Q_X7_⟩
   clear HB HI486
   have hb1_ := hall 1 (by kernel_rfl)
   have hb2_ := hall 2 (by kernel_rfl)
   have hb4_ := hall 4 (by kernel_rfl)
   have hb5_ := hall 5 (by kernel_rfl)
   have hb6_ := hall 6 (by kernel_rfl)
   have hb7_ := hall 7 (by kernel_rfl)
   have hb8_ := hall 8 (by kernel_rfl)
   subst ha
   obtain rfl := Q_X5_ hb5_
   obtain rfl := Q_X7_ hb7_
   simp only [putSel, hb1_, hb2_, hb4_, hb5_, hb6_, hb7_, hb8_, if_true, Act.put, List.setIfInBounds_toArray, List.set_cons_zero, List.set_cons_succ]
   clear Q_HI486
   have HB := Aside0.mk Q_HB
   clear Q_HB
   have HO489 := Aside0.mk (Q_HO489 hb1_)
   clear Q_HO489
   clear Q_HI486_e1
   have HO493 := Aside0.mk (Q_HO493 hb2_)
   clear Q_HO493
   have HA_HO493 := Aside0.mk (Q_HA_HO493 hb2_)
   clear Q_HA_HO493
   have HI486 := Aside0.mk (Q_HI486_e4 hb4_)
   clear Q_HI486_e4
   clear hall hb1_ hb2_ hb4_ hb5_ hb6_ hb7_ hb8_
   obtain ⟨co15, eo15⟩ := HA_HO493.out
   clear HA_HO493
   subst eo15
   try go_wp2
   go_ret2
   exact ⟨_, bE, bR HO489, z1 HI486.out⟩
  ·rw [if_neg c6] at H
   exact absurd H (by simp)
 ·rw [if_neg c5] at H
  exact absurd H (by simp)
end Go.Proofs.Ytjopgmjmjnfcjaa.PHeaders
