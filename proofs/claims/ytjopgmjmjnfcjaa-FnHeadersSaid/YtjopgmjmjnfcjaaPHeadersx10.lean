/- Part of the proof: what its walks use. -/
import Derived.Test.YtjopgmjmjnfcjaaPHeadersx0
import Derived.Test.YtjopgmjmjnfcjaaPHeadersx1
import Derived.Test.YtjopgmjmjnfcjaaPHeadersx2
import Derived.Test.YtjopgmjmjnfcjaaPHeadersx3
import Derived.Test.YtjopgmjmjnfcjaaPHeadersx4
import Derived.Test.YtjopgmjmjnfcjaaPHeadersx5
import Derived.Test.YtjopgmjmjnfcjaaPHeadersx7
import Derived.Test.YtjopgmjmjnfcjaaPHeadersx9
namespace Go.Proofs.Ytjopgmjmjnfcjaa.PHeaders
open Go.RowKit Go.Proofs.YtjopgmjmjnfcjaaW.PrintWords Go.Proofs.YtjopgmjmjnfcjaaW.PrintLast Go.Proofs.YtjopgmjmjnfcjaaW.PrintMore
set_option linter.unusedVariables false
set_option linter.unusedSimpArgs false
attribute [local go_sem high] eqA69
mutual
def laws_FnHeaders.j0 : Nat → List Int → Bool → Option (Bool)
 | 0, _, _ => none
 | k + 1, x0, x54 => if x54 = true then (some false) else ((spec_DrawPackHeader.f k x0).bind fun t518 => ((impl_PackHeader.f k t518).bind fun bt521 => (if bt521.1 = 0 then ((some (([] : List Int) : List Int)).bind fun y530 => (if y530.length + bt521.2.length < 140737488355328 then ((some (y530 ++ bt521.2 : List Int)).bind fun y533 => (if y533.length < 140737488355328 then ((impl_ParseHeader.f k (y533 ++ [97])).bind fun bt539 => (if (bt521.2.length : Int) < 400 then (if bt539.1 = 0 then (if bt539.2.1 = (bt521.2.length : Int) then (laws_FnHeaders.j1 k x0 t518 ((bt539.2.2.length : Int) != (t518.length : Int)) bt521.1 bt521.2 bt539.1 bt539.2.1 bt539.2.2) else (laws_FnHeaders.j1 k x0 t518 true bt521.1 bt521.2 bt539.1 bt539.2.1 bt539.2.2)) else (laws_FnHeaders.j1 k x0 t518 true bt521.1 bt521.2 bt539.1 bt539.2.1 bt539.2.2)) else (laws_FnHeaders.j1 k x0 t518 false bt521.1 bt521.2 bt539.1 bt539.2.1 bt539.2.2))) else (none))) else (none))) else ((spec_PackHeader.f k t518).bind fun bt526 => (some (bt526.1 == bt521.1))))))
def laws_FnHeaders.j1 : Nat → List Int → List (S69) → Bool → Int → List Int → Int → Int → List (S69) → Option (Bool)
 | 0, _, _, _, _, _, _, _, _ => none
 | k + 1, x0, x5, x99, x526000, x526001, x545000, x545001, x545002 => if x99 = true then (some false) else (laws_FnHeaders.l0 k x0 x5 0 x526000 x526001 x545000 x545001 x545002)
def laws_FnHeaders.l0 : Nat → List Int → List (S69) → Int → Int → List Int → Int → Int → List (S69) → Option (Bool)
 | 0, _, _, _, _, _, _, _, _ => none
 | k + 1, x0, x5, x8, x526000, x526001, x545000, x545001, x545002 => if x8 < (x5.length : Int) then (laws_FnHeaders.j3 k x0 x5 x8 (decide ((x526001.length : Int) < 400)) x526000 x526001 x545000 x545001 x545002) else (laws_FnHeaders.j3 k x0 x5 x8 false x526000 x526001 x545000 x545001 x545002)
def laws_FnHeaders.j3 : Nat → List Int → List (S69) → Int → Bool → Int → List Int → Int → Int → List (S69) → Option (Bool)
 | 0, _, _, _, _, _, _, _, _, _ => none
 | k + 1, x0, x5, x8, x109, x526000, x526001, x545000, x545001, x545002 => if x109 = true then (if 0 ≤ x8 then (if x8 < (x545002.length : Int) then (if x8 < (x5.length : Int) then (if (!((((rd_T69 x545002 x8).f0).toList) == (((rd_T69 x5 x8).f0).toList)) || (!((((rd_T69 x545002 x8).f1).toList) == (((rd_T69 x5 x8).f1).toList)))) = true then (some false) else ((impl_FieldOf.f k x5 ((rd_T69 x5 x8).f0)).bind fun bt548 => (if bt548.1 = 0 then (laws_FnHeaders.l0 k x0 x5 (wrap64 (x8 + 1)) x526000 x526001 x545000 x545001 x545002) else (some false)))) else (none)) else (none)) else (none)) else ((spec_DrawFieldOf.f k x0).bind fun bt550 => ((impl_FieldOf.f k bt550.1 bt550.2).bind fun bt554 => ((spec_FieldOf.f k bt550.1 bt550.2).bind fun bt557 => (if bt554.1 = bt557.1 then ((spec_FieldOf.f k bt550.1 bt550.2).bind fun bt559 => (if bt554.2.toList = bt559.2.toList then (some (decide ((x526001.length : Int) > 0))) else (some false))) else (some false)))))
end
def laws_FnHeaders.f (k : Nat) (l0 : List Int) : Option (Bool) := (laws_lwBig.f l0).bind fun t497 => (if t497 = true then (some true) else ((spec_DrawParseHeader.f k l0).bind fun t498 => ((impl_ParseHeader.f k t498).bind fun bt501 => ((spec_ParseHeader.f k t498).bind fun bt507 => (if bt501.1 = bt507.1 then ((spec_ParseHeader.f k t498).bind fun bt512 => (if bt501.2.1 = bt512.2.1 then (if bt501.2.1 < 0 then (laws_FnHeaders.j0 k l0 true) else (if bt501.2.1 > (t498.length : Int) then (laws_FnHeaders.j0 k l0 true) else (if bt501.1 = 0 then ((impl_FieldsFault.f k bt501.2.2).bind fun t517 => (laws_FnHeaders.j0 k l0 (t517 != 0))) else (laws_FnHeaders.j0 k l0 false)))) else (laws_FnHeaders.j0 k l0 true))) else (laws_FnHeaders.j0 k l0 true))))))
def laws_FnHeaders.T5 : Bool × List (List Nat × List Nat) := (true, [([], []), ([0], [0]), ([], []), ([2], [2]), ([3], [3]), ([1, 4], [1, 4]), ([5, 3], [5]), ([6], [6]), ([7, 6], [6, 7]), ([6], [6]), ([9, 6, 6], [6, 9]), ([10, 6], [6, 10]), ([8, 11, 6], [6, 8, 11]), ([6, 12], [6, 12]), ([13, 10], [13]), ([14], [14]), ([15, 14], [14, 15]), ([16, 14], [14, 16]), ([14, 17], [14, 17]), ([18, 14], [18]), ([19], [19]), ([20, 19], [19, 20]), ([19], [19]), ([22, 19], [19, 22]), ([21, 23, 19], [19, 21, 23]), ([19, 24], [19, 24]), ([25, 19], [25]), ([26], [26]), ([27, 26], [26, 27]), ([28, 26], [26, 28]), ([29, 26, 26], [26, 29]), ([30], [30]), ([31, 30], [30, 31]), ([32, 30, 30], [30, 32]), ([33, 30], [30, 33]), ([30, 34, 26], [26, 30, 34]), ([26, 35], [26, 35])])
def laws_FnHeaders.B5 : List Nat := [0, 1, 0, 4, 12, 31, 63, 127, 255, 127, 639, 1663, 4095, 8191, 16383, 32767, 65535, 131071, 262143, 524287, 1048575, 2097151, 1048575, 5242879, 16777215, 33554431, 67108863, 134217727, 268435455, 536870911, 1073741823, 2147483647, 4294967295, 8589934591, 17179869183, 34359738367, 68719476735]
theorem laws_FnHeaders.tab5 : rtab .any (opsOf Try.f9 5) = laws_FnHeaders.T5 := by kernel_rfl
theorem laws_FnHeaders.bits5 : waitsOk laws_FnHeaders.T5.2 laws_FnHeaders.B5 = true := by kernel_rfl
def laws_FnHeaders.T17 : Bool × List (List Nat × List Nat) := (true, [([], []), ([0], [0]), ([], []), ([1, 2], [1, 2]), ([3], [3]), ([], []), ([], []), ([5, 6], [5, 6]), ([7], [7]), ([4, 8], [4, 8]), ([9], [9]), ([10], [10]), ([10], [10]), ([10], [10]), ([12, 13, 10], [10, 12, 13]), ([14, 10], [10, 14]), ([15, 10], [10, 15]), ([11, 16, 10, 10], [10, 11, 16]), ([17, 10], [10, 17]), ([18, 10], [10, 18]), ([10, 19], [10, 19])])
def laws_FnHeaders.B17 : List Nat := [0, 1, 0, 7, 15, 0, 0, 96, 224, 511, 1023, 2047, 2047, 2047, 14335, 30719, 63487, 131071, 262143, 524287, 1048575]
theorem laws_FnHeaders.tab17 : rtab .any (opsOf Try.f9 17) = laws_FnHeaders.T17 := by kernel_rfl
theorem laws_FnHeaders.bits17 : waitsOk laws_FnHeaders.T17.2 laws_FnHeaders.B17 = true := by kernel_rfl
def laws_FnHeaders.T21 : Bool × List (List Nat × List Nat) := (true, [([], []), ([0], [0]), ([], []), ([], []), ([2, 3], [2, 3]), ([4], [4]), ([1, 5], [1, 5]), ([6, 4], [6]), ([7], [7]), ([8, 7], [7, 8]), ([7], [7]), ([7], [7]), ([10, 11, 7, 7], [7, 10, 11]), ([12, 7], [7, 12]), ([9, 13, 7], [7, 9, 13]), ([7, 14], [7, 14]), ([15, 12], [15]), ([16], [16]), ([17, 16], [16, 17]), ([18, 16], [16, 18]), ([19, 16], [16, 19]), ([16, 20], [16, 20]), ([21, 16, 0, 1, 2, 3, 4, 5, 6, 7, 8, 9, 10, 11, 12, 13, 14, 15, 16, 17, 18, 19, 20, 21], [21])])
def laws_FnHeaders.B21 : List Nat := [0, 1, 0, 0, 12, 28, 63, 127, 255, 511, 255, 255, 3327, 7423, 16383, 32767, 65535, 131071, 262143, 524287, 1048575, 2097151, 4194303]
theorem laws_FnHeaders.tab21 : rtab .any (opsOf Try.f9 21) = laws_FnHeaders.T21 := by kernel_rfl
theorem laws_FnHeaders.bits21 : waitsOk laws_FnHeaders.T21.2 laws_FnHeaders.B21 = true := by kernel_rfl
set_option maxHeartbeats 8000000 in
set_option maxRecDepth 100000 in
theorem laws_FnHeaders.calls (k : Nat) (A0 : Option Addr) (c0 : Nat) (l0 : List Int) (r : Bool) (w : World) (hr0 : Kd.C (Kd.int .u8) w A0 l0.length l0) (hc0 : l0.length ≤ c0) (h : laws_FnHeaders.f k l0 = some r) :
  Calls Try.prog 9 #[.slice A0 l0.length c0] w fun e w' => e = .returned (.bool r) ∧ Below w.heap.size w w' := by
 have hu61 := Try.underlying61
 have hu32 := Try.underlying32
 have hu69 := Try.underlying69
 have hu49 := Try.underlying49
 have HR0 := Aside0.mk hr0
 have HC0 := Aside0.mk hc0
 clear hr0 hc0
 have HB := Aside0.mk (Below.refl w.heap.size w)
 have H : ((laws_lwBig.f l0).bind fun t497 => (if t497 = true then (some true) else ((spec_DrawParseHeader.f k l0).bind fun t498 => ((impl_ParseHeader.f k t498).bind fun bt501 => ((spec_ParseHeader.f k t498).bind fun bt507 => (if bt501.1 = bt507.1 then ((spec_ParseHeader.f k t498).bind fun bt512 => (if bt501.2.1 = bt512.2.1 then (if bt501.2.1 < 0 then (laws_FnHeaders.j0 k l0 true) else (if bt501.2.1 > (t498.length : Int) then (laws_FnHeaders.j0 k l0 true) else (if bt501.1 = 0 then ((impl_FieldsFault.f k bt501.2.2).bind fun t517 => (laws_FnHeaders.j0 k l0 (t517 != 0))) else (laws_FnHeaders.j0 k l0 false)))) else (laws_FnHeaders.j0 k l0 true))) else (laws_FnHeaders.j0 k l0 true))))))) = some r := h
 clear h
 replace H := Option.bind_eq_some_iff.mp H
 obtain ⟨t497, A20, H⟩ := H
 replace H : (if t497 = true then (some true) else ((spec_DrawParseHeader.f k l0).bind fun t498 => ((impl_ParseHeader.f k t498).bind fun bt501 => ((spec_ParseHeader.f k t498).bind fun bt507 => (if bt501.1 = bt507.1 then ((spec_ParseHeader.f k t498).bind fun bt512 => (if bt501.2.1 = bt512.2.1 then (if bt501.2.1 < 0 then (laws_FnHeaders.j0 k l0 true) else (if bt501.2.1 > (t498.length : Int) then (laws_FnHeaders.j0 k l0 true) else (if bt501.1 = 0 then ((impl_FieldsFault.f k bt501.2.2).bind fun t517 => (laws_FnHeaders.j0 k l0 (t517 != 0))) else (laws_FnHeaders.j0 k l0 false)))) else (laws_FnHeaders.j0 k l0 true))) else (laws_FnHeaders.j0 k l0 true)))))) = some r := H
 have A2 := Aside0.mk A20
 clear A20
 have HQ_ := Aside0.mk H
 clear H
 go_enter Try.func9, Try.ntmps9
 have H := HQ_.out
 clear HQ_
 by_cases c3 : t497 = true
 ·subst c3
  have H1 : (some true) = some r := z35
  clear H
  have H := H1
  clear H1
  obtain rfl := Option.some.inj H
  go_wp2_with (first | ((with_reducible refine gate_callee (f := 10) rfl ?_); refine goesL_ (some 13) rfl rfl Try.func10 (by kernel_rfl) rfl #[.slice A0 l0.length c0] rfl bM ?_; (with_reducible refine (laws_lwBig.calls _ _ l0 true _ ?side1 ?side2 A2.out).mono ?_); (case side1 => exact z28 HR0.out); (case side2 => exact HC0.out); rintro e w' ⟨rfl, ⟨nd, rfl⟩⟩; refine ⟨_, rfl, ?_⟩))
  go_ret
  exact ⟨bE, bB⟩
 ·replace c3 := Bool.eq_false_iff.mpr c3
  subst c3
  have H1 : ((spec_DrawParseHeader.f k l0).bind fun t498 => ((impl_ParseHeader.f k t498).bind fun bt501 => ((spec_ParseHeader.f k t498).bind fun bt507 => (if bt501.1 = bt507.1 then ((spec_ParseHeader.f k t498).bind fun bt512 => (if bt501.2.1 = bt512.2.1 then (if bt501.2.1 < 0 then (laws_FnHeaders.j0 k l0 true) else (if bt501.2.1 > (t498.length : Int) then (laws_FnHeaders.j0 k l0 true) else (if bt501.1 = 0 then ((impl_FieldsFault.f k bt501.2.2).bind fun t517 => (laws_FnHeaders.j0 k l0 (t517 != 0))) else (laws_FnHeaders.j0 k l0 false)))) else (laws_FnHeaders.j0 k l0 true))) else (laws_FnHeaders.j0 k l0 true))))) = some r := z23
  clear H
  have H := H1
  clear H1
  replace H := Option.bind_eq_some_iff.mp H
  obtain ⟨t498, A40, H⟩ := H
  replace H : ((impl_ParseHeader.f k t498).bind fun bt501 => ((spec_ParseHeader.f k t498).bind fun bt507 => (if bt501.1 = bt507.1 then ((spec_ParseHeader.f k t498).bind fun bt512 => (if bt501.2.1 = bt512.2.1 then (if bt501.2.1 < 0 then (laws_FnHeaders.j0 k l0 true) else (if bt501.2.1 > (t498.length : Int) then (laws_FnHeaders.j0 k l0 true) else (if bt501.1 = 0 then ((impl_FieldsFault.f k bt501.2.2).bind fun t517 => (laws_FnHeaders.j0 k l0 (t517 != 0))) else (laws_FnHeaders.j0 k l0 false)))) else (laws_FnHeaders.j0 k l0 true))) else (laws_FnHeaders.j0 k l0 true)))) = some r := H
  have A4 := Aside0.mk A40
  clear A40
  replace H := Option.bind_eq_some_iff.mp H
  obtain ⟨⟨t501, t502, t503⟩, A50, H⟩ := H
  replace H : ((spec_ParseHeader.f k t498).bind fun bt507 => (if t501 = bt507.1 then ((spec_ParseHeader.f k t498).bind fun bt512 => (if t502 = bt512.2.1 then (if t502 < 0 then (laws_FnHeaders.j0 k l0 true) else (if t502 > (t498.length : Int) then (laws_FnHeaders.j0 k l0 true) else (if t501 = 0 then ((impl_FieldsFault.f k t503).bind fun t517 => (laws_FnHeaders.j0 k l0 (t517 != 0))) else (laws_FnHeaders.j0 k l0 false)))) else (laws_FnHeaders.j0 k l0 true))) else (laws_FnHeaders.j0 k l0 true))) = some r := H
  have A5 := Aside0.mk A50
  clear A50
  have HC6 := Aside0.mk H
  clear H
  go_upto_region 5 with (first | ((with_reducible refine gate_callee (f := 10) rfl ?_); refine goesL_ (some 13) rfl rfl Try.func10 (by kernel_rfl) rfl #[.slice A0 l0.length c0] rfl bM ?_; (with_reducible refine (laws_lwBig.calls _ _ l0 false _ ?side1 ?side2 A2.out).mono ?_); (case side1 => exact z28 HR0.out); (case side2 => exact HC0.out); rintro e w' ⟨rfl, ⟨nd, rfl⟩⟩; refine ⟨_, rfl, ?_⟩) | ((with_reducible refine gate_callee (f := 49) rfl ?_); refine goesL_ (some 15) rfl rfl Try.func49 (by kernel_rfl) rfl #[.slice A0 l0.length c0] rfl bM ?_; (with_reducible refine (spec_DrawParseHeader.calls k _ _ l0 t498 _ ?side1 ?side2 A4.out).mono ?_); (case side1 => exact z28 HR0.out); (case side2 => exact HC0.out); rintro e w7 ⟨v499, rfl, ho0, hb⟩; refine ⟨_, rfl, ?_⟩; have HO500 := Aside0.mk (Kd.R_lower ho0 (below_size bB)); replace HB := Aside0.mk (below_step bB hb); (try clear ho0); obtain ⟨Ao8, co8, eo8⟩ := Kd.R_slice HO500.out; subst eo8) | ((with_reducible refine gate_callee (f := 43) rfl ?_); refine goesL_ (some 17) rfl rfl Try.func43 (by kernel_rfl) rfl #[.slice Ao8 t498.length co8] rfl bM ?_; (with_reducible refine (impl_ParseHeader.calls k _ _ t498 t501 t502 t503 _ ?side1 ?side2 A5.out).mono ?_); (case side1 => exact z5 HO500.out); (case side2 => exact (Kd.R_reads' HO500.out).2.1); rintro e w9 ⟨v504, rfl, ho0, hb⟩; refine ⟨_, rfl, ?_⟩; replace HO500 := Aside0.mk (Kd.R_below (bR HO500) hb); have HO505 := Aside0.mk (Kd.R_lower ho0 (below_size bB)); replace HB := Aside0.mk (below_step bB hb); (try clear ho0)) | ((with_reducible refine gate_dst (N := 4) rfl ?_); (try (refine gate_guard (by rfl) ?_; dsimp only)); refine box_event ?hg (N := 4) ?hd (cs := #[.int .i64 0, .int .i64 0, .slice none 0 0]) (t := 61) ?hr ?_; (case hd => rfl); (case hg => rfl); (case hr => exact z14); intro gb506 hg w10 hbox hb; replace HO500 := Aside0.mk (Kd.R_below (bR HO500) hb); replace HO505 := Aside0.mk (Kd.R_below (bR HO505) hb); have BK506 := Aside0.mk (hbox); have GW506 := Aside0.mk ((z25 : w.heap.size ≤ gb506)); have GE506 := Aside0.mk ((z25 : w.heap.size ≤ gb506)); replace HB := Aside0.mk (below_step bB hb); clear hb hbox hg; have hcz11_0 : w10.cell? ⟨gb506, 0, none⟩ = some (.int .i64 0) := (blk_cell BK506.out 0).trans rfl; have hcz11_1 : w10.cell? ⟨gb506, 1, none⟩ = some (.int .i64 0) := (blk_cell BK506.out 1).trans rfl; have hcz11_2 : w10.cell? ⟨gb506, 2, none⟩ = some (.slice none 0 0) := (blk_cell BK506.out 2).trans rfl; have hfz11_0 := blk_frozen BK506.out 0; have hfz11_1 := blk_frozen BK506.out 1; have hfz11_2 := blk_frozen BK506.out 2; obtain ⟨Ao12, co12, eo12⟩ := Kd.R_slice HO505.out; subst eo12))
  (try simp only [Act.put, List.setIfInBounds_toArray, List.set_cons_zero, List.set_cons_succ])
  go_cut [54] (fun v54 wc => ∃ (kq : Nat) (x54_5 : Bool), v54 = .bool x54_5 ∧ Aside0 (laws_FnHeaders.j0 kq l0 x54_5 = some r) ∧ Aside0 (kq ≤ k) ∧ Aside0 (Kd.R k69 69 wc w.heap.size (fun _ => True) (.slice Ao12 t503.length co12) t503) ∧ Aside0 (wc.heap[gb506]? = some (.cells #[.int .i64 t501, .int .i64 t502, (.slice Ao12 t503.length co12)] 61 (0, 0))) ∧ Aside0 (Below w.heap.size w wc))
  case first =>
   have H := HC6.out
   clear HC6
   replace H := Option.bind_eq_some_iff.mp H
   obtain ⟨⟨t507, t508, t509⟩, A130, H⟩ := H
   replace H : (if t501 = t507 then ((spec_ParseHeader.f k t498).bind fun bt512 => (if t502 = bt512.2.1 then (if t502 < 0 then (laws_FnHeaders.j0 k l0 true) else (if t502 > (t498.length : Int) then (laws_FnHeaders.j0 k l0 true) else (if t501 = 0 then ((impl_FieldsFault.f k t503).bind fun t517 => (laws_FnHeaders.j0 k l0 (t517 != 0))) else (laws_FnHeaders.j0 k l0 false)))) else (laws_FnHeaders.j0 k l0 true))) else (laws_FnHeaders.j0 k l0 true)) = some r := H
   have A13 := Aside0.mk A130
   clear A130
   by_cases c14 : t501 = t507
   ·rw [if_pos c14] at H
    have c14b0 : (t501 == t507) = true := beq_iff_eq.mpr c14
    have c14b1 : (t501 != t507) = false := bne_eq_false_iff_eq.mpr c14
    clear c14
    (first | rw [c14b0] | (simp only [i64_w, i32_w]; rw [c14b0]) | skip)
    replace H := Option.bind_eq_some_iff.mp H
    obtain ⟨⟨t512, t513, t514⟩, A150, H⟩ := H
    replace H : (if t502 = t513 then (if t502 < 0 then (laws_FnHeaders.j0 k l0 true) else (if t502 > (t498.length : Int) then (laws_FnHeaders.j0 k l0 true) else (if t501 = 0 then ((impl_FieldsFault.f k t503).bind fun t517 => (laws_FnHeaders.j0 k l0 (t517 != 0))) else (laws_FnHeaders.j0 k l0 false)))) else (laws_FnHeaders.j0 k l0 true)) = some r := H
    have A15 := Aside0.mk A150
    clear A150
    by_cases c16 : t502 = t513
    ·rw [if_pos c16] at H
     have c16b0 : (t502 == t513) = true := beq_iff_eq.mpr c16
     have c16b1 : (t502 != t513) = false := bne_eq_false_iff_eq.mpr c16
     clear c16
     by_cases c17 : t502 < 0
     ·rw [if_pos c17] at H
      have c17b0 : decide (t502 < 0) = true := decide_eq_true c17
      clear c17
      have H' := Aside0.mk H
      clear H
      try go_wp2
      have n0_ : Aside0 (Kd.R (Kd.int .u8) 5 (((w10.setCell ⟨gb506, 0, none⟩ (.int .i64 t501)).setCell ⟨gb506, 1, none⟩ (.int .i64 t502)).setCell ⟨gb506, 2, none⟩ (.slice Ao12 t503.length co12)) w.heap.size (fun _ => True) (.slice Ao8 t498.length co8) t498) := ⟨z8 HO500.out BK506.out⟩
      have n1_ : Aside0 (Kd.R k69 69 (((w10.setCell ⟨gb506, 0, none⟩ (.int .i64 t501)).setCell ⟨gb506, 1, none⟩ (.int .i64 t502)).setCell ⟨gb506, 2, none⟩ (.slice Ao12 t503.length co12)) w.heap.size (fun _ => True) (.slice Ao12 t503.length co12) t503) := ⟨z8 HO505.out BK506.out⟩
      have n2_ : Aside0 ((((w10.setCell ⟨gb506, 0, none⟩ (.int .i64 t501)).setCell ⟨gb506, 1, none⟩ (.int .i64 t502)).setCell ⟨gb506, 2, none⟩ (.slice Ao12 t503.length co12)).heap[gb506]? = some (.cells #[.int .i64 t501, .int .i64 t502, .slice Ao12 t503.length co12] 61 (0, 0))) := ⟨z11 BK506.out⟩
      have n3_ : Aside0 (Below w.heap.size w (((w10.setCell ⟨gb506, 0, none⟩ (.int .i64 t501)).setCell ⟨gb506, 1, none⟩ (.int .i64 t502)).setCell ⟨gb506, 2, none⟩ (.slice Ao12 t503.length co12))) := ⟨bG GE506⟩
      (try clear HO500)
      (try clear HO505)
      (try clear BK506)
      (try clear HB)
      generalize (((w10.setCell ⟨gb506, 0, none⟩ (.int .i64 t501)).setCell ⟨gb506, 1, none⟩ (.int .i64 t502)).setCell ⟨gb506, 2, none⟩ (.slice Ao12 t503.length co12)) = w18 at n0_ n1_ n2_ n3_ ⊢
      have HO500 := n0_
      have HO505 := n1_
      have BK506 := n2_
      have HB := n3_
      clear n0_ n1_ n2_ n3_
      replace HO500 := Aside0.mk (Kd.R_drew HO500.out)
      replace HO505 := Aside0.mk (Kd.R_drew HO505.out)
      replace BK506 := Aside0.mk (blk_drew BK506.out)
      replace HB := Aside0.mk (below_drew1 HB.out)
      refine start_ (n := 37) (S := fun w' => w'.cell? ⟨gb506, 0, none⟩ = some (.int .i64 t501) ∧ w'.cell? ⟨gb506, 1, none⟩ = some (.int .i64 t502) ∧ w'.cell? ⟨gb506, 2, none⟩ = some (.slice Ao12 t503.length co12)) (ds := []) (bsA 37 0) (by kernel_rfl) rfl rfl ⟨(blk_cell BK506.out 0).trans rfl, (blk_cell BK506.out 1).trans rfl, (blk_cell BK506.out 2).trans rfl⟩ (fun hHeld => ?_); refine with_tabW laws_FnHeaders.tab5 laws_FnHeaders.bits5 (fun HT_ HW_ => ?_)
      generalize w18.drew = w19 at HO500 HO505 BK506 HB hHeld ⊢
      refine pa_ (i := 0) (N := some 18) (bsA 37 1) (h := ?_)
      refine pa_ (i := 2) (N := some 20) (bsA 37 5) (h := ?_)
      refine take_ (i := 1) (N := some 19) (v := ?_) (a' := ?_) (bsA 37 7) rfl rfl (take_ofW HT_.out HW_.out (by kernel_rfl)) (fun _ _ _ h => h) (Or.inl ⟨by rfl, ?_⟩) hHeld ?_ ?_
      rotate_left
      ·rintro w' ⟨s0, s1, s2⟩
       go_simp
       with_reducible rfl
      rotate_left
      ·simp only [Act.put, List.setIfInBounds_toArray, List.set_cons_zero, List.set_cons_succ, i64_w, i32_w]
       rfl
      refine one_ (i := 3) (N := some 21) (bsA 37 15) rfl rfl (one_of HT_.out (by kernel_rfl)) (by decide) (fun K hK => ?_)
      refine goes_ Try.func41 (by kernel_rfl) rfl #[.slice Ao8 t498.length co8] (by rfl) rfl rfl bM ?_
      with_reducible refine (spec_ParseHeader.calls k _ _ t498 t507 t508 t509 _ ?side1 ?side2 A13.out).mono ?_
      (case side1 => exact z5 HO500.out)
      (case side2 => exact (Kd.R_reads' HO500.out).2.1)
      rintro e w20 ⟨v510, rfl, ho0, hb⟩
      refine ⟨_, rfl, ?_⟩
      replace HO500 := Aside0.mk (Kd.R_below (bR HO500) hb)
      have HO511 := Aside0.mk (Kd.R_lower (Kd.R_new' ho0 (Kd.R_lt (bR HO505))) (below_size (bG GE506)))
      replace HO505 := Aside0.mk (Kd.R_elder' (bR HO505) (Kd.R_base ho0) hb)
      replace BK506 := Aside0.mk (blk_below (g := gb506) (o := .cells #[.int .i64 t501, .int .i64 t502, .slice Ao12 t503.length co12] 61 (0, 0)) (bL BK506) hb)
      replace HB := Aside0.mk (below_step (bG GE506) hb)
      (try clear hb)
      (try clear hb2)
      (try clear hk)
      (try clear hi)
      (try clear ho0)
      refine hK.out _ _ ⟨(blk_cell BK506.out 0).trans rfl, (blk_cell BK506.out 1).trans rfl, (blk_cell BK506.out 2).trans rfl⟩ (fun hHeld => ?_)
      clear hK K
      refine na_ (N := some 21) (h := ?_)
      refine pa_ (i := 4) (N := some 22) (bsA 37 31) (h := ?_)
      refine pa_ (i := 5) (N := some 23) (bsA 37 63) (h := ?_)
      refine pa_ (i := 6) (N := some 24) (bsA 37 127) (h := ?_)
      refine pa_ (i := 7) (N := some 25) (bsA 37 255) (h := ?_)
      refine pa_ (i := 9) (N := some 27) (bsA 37 767) (h := ?_)
      refine take_ (i := 8) (N := some 26) (v := ?_) (a' := ?_) (bsA 37 1023) rfl rfl (take_ofW HT_.out HW_.out (by kernel_rfl)) (fun _ _ _ h => h) (Or.inl ⟨by rfl, ?_⟩) hHeld ?_ ?_
      rotate_left
      ·rintro w' ⟨s0, s1, s2⟩
       go_simp
       with_reducible rfl
      rotate_left
      ·simp only [Act.put, List.setIfInBounds_toArray, List.set_cons_zero, List.set_cons_succ, i64_w, i32_w]
       rfl
      refine one_ (i := 10) (N := some 28) (bsA 37 2047) rfl rfl (one_of HT_.out (by kernel_rfl)) (by decide) (fun K hK => ?_)
      refine goes_ Try.func41 (by kernel_rfl) rfl #[.slice Ao8 t498.length co8] (by rfl) rfl rfl bM ?_
      with_reducible refine (spec_ParseHeader.calls k _ _ t498 t512 t513 t514 _ ?side1 ?side2 A15.out).mono ?_
      (case side1 => exact z5 HO500.out)
      (case side2 => exact (Kd.R_reads' HO500.out).2.1)
      rintro e w21 ⟨v515, rfl, ho0, hb⟩
      refine ⟨_, rfl, ?_⟩
      replace HO500 := Aside0.mk (Kd.R_below (bR HO500) hb)
      have HO516 := Aside0.mk (Kd.R_lower (Kd.R_new' (Kd.R_new' ho0 (Kd.R_lt (bR HO505))) (Kd.R_lt (bR HO511))) (below_size (bG GE506)))
      replace HO505 := Aside0.mk (Kd.R_elder' (bR HO505) (Kd.R_base ho0) hb)
      replace HO511 := Aside0.mk (Kd.R_elder' (bR HO511) (Kd.R_base ho0) hb)
      replace BK506 := Aside0.mk (blk_below (g := gb506) (o := .cells #[.int .i64 t501, .int .i64 t502, .slice Ao12 t503.length co12] 61 (0, 0)) (bL BK506) hb)
      replace HB := Aside0.mk (below_step (bG GE506) hb)
      (try clear hb)
      (try clear hb2)
      (try clear hk)
      (try clear hi)
      (try clear ho0)
      refine hK.out _ _ ⟨(blk_cell BK506.out 0).trans rfl, (blk_cell BK506.out 1).trans rfl, (blk_cell BK506.out 2).trans rfl⟩ (fun hHeld => ?_)
      clear hK K
      refine na_ (N := some 28) (h := ?_)
      refine pa_ (i := 11) (N := some 29) (bsA 37 4095) (h := ?_)
      refine pa_ (i := 12) (N := some 30) (bsA 37 8191) (h := ?_)
      refine pa_ (i := 13) (N := some 31) (bsA 37 16383) (h := ?_)
      refine pa_ (i := 14) (N := some 32) (bsA 37 32767) (h := ?_)
      refine pa_ (i := 15) (N := some 33) (bsA 37 65535) (h := ?_)
      refine take_ (i := 16) (N := some 34) (v := ?_) (a' := ?_) (bsA 37 131071) rfl rfl (take_ofW HT_.out HW_.out (by kernel_rfl)) (fun _ _ _ h => h) (Or.inl ⟨by rfl, ?_⟩) hHeld ?_ ?_
      rotate_left
      ·rintro w' ⟨s0, s1, s2⟩
       go_simp
       with_reducible rfl
      rotate_left
      ·simp only [Act.put, List.setIfInBounds_toArray, List.set_cons_zero, List.set_cons_succ, i64_w, i32_w]
       rfl
      refine pa_ (i := 17) (N := some 35) (bsA 37 262143) (h := ?_)
      refine pa_ (i := 18) (N := some 36) (bsA 37 524287) (h := ?_)
      refine pa_ (i := 19) (N := some 37) (bsA 37 1048575) (h := ?_)
      refine pu_ (i := 20) (N := some 38) (bsA 37 2097151) (h := ?_)
      refine pu_ (i := 21) (N := some 39) (bsA 37 4194303) (h := ?_)
      refine pu_ (i := 22) (N := some 40) (bsA 37 8388607) (h := ?_)
      refine pu_ (i := 23) (N := some 41) (bsA 37 16777215) (h := ?_)
      refine pu_ (i := 24) (N := some 42) (bsA 37 33554431) (h := ?_)
      refine pa_ (i := 25) (N := some 43) (bsA 37 67108863) (h := ?_)
      refine pa_ (i := 26) (N := some 44) (bsA 37 134217727) (h := ?_)
      refine pu_ (i := 27) (N := some 45) (bsA 37 268435455) (h := ?_)
      refine pu_ (i := 28) (N := some 46) (bsA 37 536870911) (h := ?_)
      refine pu_ (i := 29) (N := some 47) (bsA 37 1073741823) (h := ?_)
      refine pu_ (i := 30) (N := some 48) (bsA 37 2147483647) (h := ?_)
      refine pu_ (i := 31) (N := some 49) (bsA 37 4294967295) (h := ?_)
      refine pu_ (i := 32) (N := some 50) (bsA 37 8589934591) (h := ?_)
      refine pu_ (i := 33) (N := some 51) (bsA 37 17179869183) (h := ?_)
      refine pu_ (i := 34) (N := some 52) (bsA 37 34359738367) (h := ?_)
      refine pu_ (i := 35) (N := some 53) (bsA 37 68719476735) (h := ?_)
      refine pa_ (i := 36) (N := some 54) (bsA 37 137438953471) (h := ?_)
      refine done_ (done_of HT_.out (by kernel_rfl)) ?_
      try go_wp2
      go_meet
      case rel => exact ⟨_, (true), bS, H', ⟨z42⟩, ⟨z15 HO505.out⟩, ⟨bL BK506⟩, ⟨bG GE506⟩⟩
     ·rw [if_neg c17] at H
      have c17b0 : decide (t502 < 0) = false := decide_eq_false c17
      clear c17
      by_cases c22 : t502 > (t498.length : Int)
      ·rw [if_pos c22] at H
       have c22b0 : decide ((t498.length : Int) < t502) = true := decide_eq_true c22
       clear c22
       have H' := Aside0.mk H
       clear H
       try go_wp2
       have n0_ : Aside0 (Kd.R (Kd.int .u8) 5 (((w10.setCell ⟨gb506, 0, none⟩ (.int .i64 t501)).setCell ⟨gb506, 1, none⟩ (.int .i64 t502)).setCell ⟨gb506, 2, none⟩ (.slice Ao12 t503.length co12)) w.heap.size (fun _ => True) (.slice Ao8 t498.length co8) t498) := ⟨z8 HO500.out BK506.out⟩
       have n1_ : Aside0 (Kd.R k69 69 (((w10.setCell ⟨gb506, 0, none⟩ (.int .i64 t501)).setCell ⟨gb506, 1, none⟩ (.int .i64 t502)).setCell ⟨gb506, 2, none⟩ (.slice Ao12 t503.length co12)) w.heap.size (fun _ => True) (.slice Ao12 t503.length co12) t503) := ⟨z8 HO505.out BK506.out⟩
       have n2_ : Aside0 ((((w10.setCell ⟨gb506, 0, none⟩ (.int .i64 t501)).setCell ⟨gb506, 1, none⟩ (.int .i64 t502)).setCell ⟨gb506, 2, none⟩ (.slice Ao12 t503.length co12)).heap[gb506]? = some (.cells #[.int .i64 t501, .int .i64 t502, .slice Ao12 t503.length co12] 61 (0, 0))) := ⟨z11 BK506.out⟩
       have n3_ : Aside0 (Below w.heap.size w (((w10.setCell ⟨gb506, 0, none⟩ (.int .i64 t501)).setCell ⟨gb506, 1, none⟩ (.int .i64 t502)).setCell ⟨gb506, 2, none⟩ (.slice Ao12 t503.length co12))) := ⟨bG GE506⟩
       (try clear HO500)
       (try clear HO505)
       (try clear BK506)
       (try clear HB)
       generalize (((w10.setCell ⟨gb506, 0, none⟩ (.int .i64 t501)).setCell ⟨gb506, 1, none⟩ (.int .i64 t502)).setCell ⟨gb506, 2, none⟩ (.slice Ao12 t503.length co12)) = w23 at n0_ n1_ n2_ n3_ ⊢
       have HO500 := n0_
       have HO505 := n1_
       have BK506 := n2_
       have HB := n3_
       clear n0_ n1_ n2_ n3_
       replace HO500 := Aside0.mk (Kd.R_drew HO500.out)
       replace HO505 := Aside0.mk (Kd.R_drew HO505.out)
       replace BK506 := Aside0.mk (blk_drew BK506.out)
       replace HB := Aside0.mk (below_drew1 HB.out)
       refine start_ (n := 37) (S := fun w' => w'.cell? ⟨gb506, 0, none⟩ = some (.int .i64 t501) ∧ w'.cell? ⟨gb506, 1, none⟩ = some (.int .i64 t502) ∧ w'.cell? ⟨gb506, 2, none⟩ = some (.slice Ao12 t503.length co12)) (ds := []) (bsA 37 0) (by kernel_rfl) rfl rfl ⟨(blk_cell BK506.out 0).trans rfl, (blk_cell BK506.out 1).trans rfl, (blk_cell BK506.out 2).trans rfl⟩ (fun hHeld => ?_); refine with_tabW laws_FnHeaders.tab5 laws_FnHeaders.bits5 (fun HT_ HW_ => ?_)
       generalize w23.drew = w24 at HO500 HO505 BK506 HB hHeld ⊢
       refine pa_ (i := 0) (N := some 18) (bsA 37 1) (h := ?_)
       refine pa_ (i := 2) (N := some 20) (bsA 37 5) (h := ?_)
       refine take_ (i := 1) (N := some 19) (v := ?_) (a' := ?_) (bsA 37 7) rfl rfl (take_ofW HT_.out HW_.out (by kernel_rfl)) (fun _ _ _ h => h) (Or.inl ⟨by rfl, ?_⟩) hHeld ?_ ?_
       rotate_left
       ·rintro w' ⟨s0, s1, s2⟩
        go_simp
        with_reducible rfl
       rotate_left
       ·simp only [Act.put, List.setIfInBounds_toArray, List.set_cons_zero, List.set_cons_succ, i64_w, i32_w]
        rfl
       refine one_ (i := 3) (N := some 21) (bsA 37 15) rfl rfl (one_of HT_.out (by kernel_rfl)) (by decide) (fun K hK => ?_)
       refine goes_ Try.func41 (by kernel_rfl) rfl #[.slice Ao8 t498.length co8] (by rfl) rfl rfl bM ?_
       with_reducible refine (spec_ParseHeader.calls k _ _ t498 t507 t508 t509 _ ?side1 ?side2 A13.out).mono ?_
       (case side1 => exact z5 HO500.out)
       (case side2 => exact (Kd.R_reads' HO500.out).2.1)
       rintro e w25 ⟨v510, rfl, ho0, hb⟩
       refine ⟨_, rfl, ?_⟩
       replace HO500 := Aside0.mk (Kd.R_below (bR HO500) hb)
       have HO511 := Aside0.mk (Kd.R_lower (Kd.R_new' ho0 (Kd.R_lt (bR HO505))) (below_size (bG GE506)))
       replace HO505 := Aside0.mk (Kd.R_elder' (bR HO505) (Kd.R_base ho0) hb)
       replace BK506 := Aside0.mk (blk_below (g := gb506) (o := .cells #[.int .i64 t501, .int .i64 t502, .slice Ao12 t503.length co12] 61 (0, 0)) (bL BK506) hb)
       replace HB := Aside0.mk (below_step (bG GE506) hb)
       (try clear hb)
       (try clear hb2)
       (try clear hk)
       (try clear hi)
       (try clear ho0)
       refine hK.out _ _ ⟨(blk_cell BK506.out 0).trans rfl, (blk_cell BK506.out 1).trans rfl, (blk_cell BK506.out 2).trans rfl⟩ (fun hHeld => ?_)
       clear hK K
       refine na_ (N := some 21) (h := ?_)
       refine pa_ (i := 4) (N := some 22) (bsA 37 31) (h := ?_)
       refine pa_ (i := 5) (N := some 23) (bsA 37 63) (h := ?_)
       refine pa_ (i := 6) (N := some 24) (bsA 37 127) (h := ?_)
       refine pa_ (i := 7) (N := some 25) (bsA 37 255) (h := ?_)
       refine pa_ (i := 9) (N := some 27) (bsA 37 767) (h := ?_)
       refine take_ (i := 8) (N := some 26) (v := ?_) (a' := ?_) (bsA 37 1023) rfl rfl (take_ofW HT_.out HW_.out (by kernel_rfl)) (fun _ _ _ h => h) (Or.inl ⟨by rfl, ?_⟩) hHeld ?_ ?_
       rotate_left
       ·rintro w' ⟨s0, s1, s2⟩
        go_simp
        with_reducible rfl
       rotate_left
       ·simp only [Act.put, List.setIfInBounds_toArray, List.set_cons_zero, List.set_cons_succ, i64_w, i32_w]
        rfl
       refine one_ (i := 10) (N := some 28) (bsA 37 2047) rfl rfl (one_of HT_.out (by kernel_rfl)) (by decide) (fun K hK => ?_)
       refine goes_ Try.func41 (by kernel_rfl) rfl #[.slice Ao8 t498.length co8] (by rfl) rfl rfl bM ?_
       with_reducible refine (spec_ParseHeader.calls k _ _ t498 t512 t513 t514 _ ?side1 ?side2 A15.out).mono ?_
       (case side1 => exact z5 HO500.out)
       (case side2 => exact (Kd.R_reads' HO500.out).2.1)
       rintro e w26 ⟨v515, rfl, ho0, hb⟩
       refine ⟨_, rfl, ?_⟩
       replace HO500 := Aside0.mk (Kd.R_below (bR HO500) hb)
       have HO516 := Aside0.mk (Kd.R_lower (Kd.R_new' (Kd.R_new' ho0 (Kd.R_lt (bR HO505))) (Kd.R_lt (bR HO511))) (below_size (bG GE506)))
       replace HO505 := Aside0.mk (Kd.R_elder' (bR HO505) (Kd.R_base ho0) hb)
       replace HO511 := Aside0.mk (Kd.R_elder' (bR HO511) (Kd.R_base ho0) hb)
       replace BK506 := Aside0.mk (blk_below (g := gb506) (o := .cells #[.int .i64 t501, .int .i64 t502, .slice Ao12 t503.length co12] 61 (0, 0)) (bL BK506) hb)
       replace HB := Aside0.mk (below_step (bG GE506) hb)
       (try clear hb)
       (try clear hb2)
       (try clear hk)
       (try clear hi)
       (try clear ho0)
       refine hK.out _ _ ⟨(blk_cell BK506.out 0).trans rfl, (blk_cell BK506.out 1).trans rfl, (blk_cell BK506.out 2).trans rfl⟩ (fun hHeld => ?_)
       clear hK K
       refine na_ (N := some 28) (h := ?_)
       refine pa_ (i := 11) (N := some 29) (bsA 37 4095) (h := ?_)
       refine pa_ (i := 12) (N := some 30) (bsA 37 8191) (h := ?_)
       refine pa_ (i := 13) (N := some 31) (bsA 37 16383) (h := ?_)
       refine pa_ (i := 14) (N := some 32) (bsA 37 32767) (h := ?_)
       refine pa_ (i := 15) (N := some 33) (bsA 37 65535) (h := ?_)
       refine take_ (i := 16) (N := some 34) (v := ?_) (a' := ?_) (bsA 37 131071) rfl rfl (take_ofW HT_.out HW_.out (by kernel_rfl)) (fun _ _ _ h => h) (Or.inl ⟨by rfl, ?_⟩) hHeld ?_ ?_
       rotate_left
       ·rintro w' ⟨s0, s1, s2⟩
        go_simp
        with_reducible rfl
       rotate_left
       ·simp only [Act.put, List.setIfInBounds_toArray, List.set_cons_zero, List.set_cons_succ, i64_w, i32_w]
        rfl
       refine pa_ (i := 17) (N := some 35) (bsA 37 262143) (h := ?_)
       refine pa_ (i := 18) (N := some 36) (bsA 37 524287) (h := ?_)
       refine pa_ (i := 19) (N := some 37) (bsA 37 1048575) (h := ?_)
       refine pa_ (i := 20) (N := some 38) (bsA 37 2097151) (h := ?_)
       refine pa_ (i := 22) (N := some 40) (bsA 37 6291455) (h := ?_)
       refine pa_ (i := 23) (N := some 41) (bsA 37 14680063) (h := ?_)
       refine take_ (i := 21) (N := some 39) (v := ?_) (a' := ?_) (bsA 37 16777215) rfl rfl (take_ofW HT_.out HW_.out (by kernel_rfl)) (fun _ _ _ h => h) (Or.inl ⟨by rfl, ?_⟩) hHeld ?_ ?_
       rotate_left
       ·rintro w' ⟨s0, s1, s2⟩
        go_simp
        with_reducible rfl
       rotate_left
       ·simp only [Act.put, List.setIfInBounds_toArray, List.set_cons_zero, List.set_cons_succ, i64_w, i32_w]
        rfl
       refine pa_ (i := 24) (N := some 42) (bsA 37 33554431) (h := ?_)
       refine pa_ (i := 25) (N := some 43) (bsA 37 67108863) (h := ?_)
       refine pa_ (i := 26) (N := some 44) (bsA 37 134217727) (h := ?_)
       refine pu_ (i := 27) (N := some 45) (bsA 37 268435455) (h := ?_)
       refine pu_ (i := 28) (N := some 46) (bsA 37 536870911) (h := ?_)
       refine pu_ (i := 29) (N := some 47) (bsA 37 1073741823) (h := ?_)
       refine pu_ (i := 30) (N := some 48) (bsA 37 2147483647) (h := ?_)
       refine pu_ (i := 31) (N := some 49) (bsA 37 4294967295) (h := ?_)
       refine pu_ (i := 32) (N := some 50) (bsA 37 8589934591) (h := ?_)
       refine pu_ (i := 33) (N := some 51) (bsA 37 17179869183) (h := ?_)
       refine pu_ (i := 34) (N := some 52) (bsA 37 34359738367) (h := ?_)
       refine pu_ (i := 35) (N := some 53) (bsA 37 68719476735) (h := ?_)
       refine pa_ (i := 36) (N := some 54) (bsA 37 137438953471) (h := ?_)
       refine done_ (done_of HT_.out (by kernel_rfl)) ?_
       try go_wp2
       go_meet
       case rel => exact ⟨_, (true), bS, H', ⟨z42⟩, ⟨z15 HO505.out⟩, ⟨bL BK506⟩, ⟨bG GE506⟩⟩
      ·rw [if_neg c22] at H
       have c22b0 : decide ((t498.length : Int) < t502) = false := decide_eq_false c22
       clear c22
       by_cases c27 : t501 = 0
       ·rw [if_pos c27] at H
        have c27b0 : (t501 == 0) = true := beq_iff_eq.mpr c27
        have c27b1 : (t501 != 0) = false := bne_eq_false_iff_eq.mpr c27
        clear c27
        replace H := Option.bind_eq_some_iff.mp H
        obtain ⟨t517, A280, H⟩ := H
        replace H : (laws_FnHeaders.j0 k l0 (t517 != 0)) = some r := H
        have A28 := Aside0.mk A280
        clear A280
        have H' := Aside0.mk H
        clear H
        try go_wp2
        have n0_ : Aside0 (Kd.R (Kd.int .u8) 5 (((w10.setCell ⟨gb506, 0, none⟩ (.int .i64 t501)).setCell ⟨gb506, 1, none⟩ (.int .i64 t502)).setCell ⟨gb506, 2, none⟩ (.slice Ao12 t503.length co12)) w.heap.size (fun _ => True) (.slice Ao8 t498.length co8) t498) := ⟨z8 HO500.out BK506.out⟩
        have n1_ : Aside0 (Kd.R k69 69 (((w10.setCell ⟨gb506, 0, none⟩ (.int .i64 t501)).setCell ⟨gb506, 1, none⟩ (.int .i64 t502)).setCell ⟨gb506, 2, none⟩ (.slice Ao12 t503.length co12)) w.heap.size (fun _ => True) (.slice Ao12 t503.length co12) t503) := ⟨z8 HO505.out BK506.out⟩
        have n2_ : Aside0 ((((w10.setCell ⟨gb506, 0, none⟩ (.int .i64 t501)).setCell ⟨gb506, 1, none⟩ (.int .i64 t502)).setCell ⟨gb506, 2, none⟩ (.slice Ao12 t503.length co12)).heap[gb506]? = some (.cells #[.int .i64 t501, .int .i64 t502, .slice Ao12 t503.length co12] 61 (0, 0))) := ⟨z11 BK506.out⟩
        have n3_ : Aside0 (Below w.heap.size w (((w10.setCell ⟨gb506, 0, none⟩ (.int .i64 t501)).setCell ⟨gb506, 1, none⟩ (.int .i64 t502)).setCell ⟨gb506, 2, none⟩ (.slice Ao12 t503.length co12))) := ⟨bG GE506⟩
        (try clear HO500)
        (try clear HO505)
        (try clear BK506)
        (try clear HB)
        generalize (((w10.setCell ⟨gb506, 0, none⟩ (.int .i64 t501)).setCell ⟨gb506, 1, none⟩ (.int .i64 t502)).setCell ⟨gb506, 2, none⟩ (.slice Ao12 t503.length co12)) = w29 at n0_ n1_ n2_ n3_ ⊢
        have HO500 := n0_
        have HO505 := n1_
        have BK506 := n2_
        have HB := n3_
        clear n0_ n1_ n2_ n3_
        replace HO500 := Aside0.mk (Kd.R_drew HO500.out)
        replace HO505 := Aside0.mk (Kd.R_drew HO505.out)
        replace BK506 := Aside0.mk (blk_drew BK506.out)
        replace HB := Aside0.mk (below_drew1 HB.out)
        refine start_ (n := 37) (S := fun w' => w'.cell? ⟨gb506, 0, none⟩ = some (.int .i64 t501) ∧ w'.cell? ⟨gb506, 1, none⟩ = some (.int .i64 t502) ∧ w'.cell? ⟨gb506, 2, none⟩ = some (.slice Ao12 t503.length co12)) (ds := []) (bsA 37 0) (by kernel_rfl) rfl rfl ⟨(blk_cell BK506.out 0).trans rfl, (blk_cell BK506.out 1).trans rfl, (blk_cell BK506.out 2).trans rfl⟩ (fun hHeld => ?_); refine with_tabW laws_FnHeaders.tab5 laws_FnHeaders.bits5 (fun HT_ HW_ => ?_)
        generalize w29.drew = w30 at HO500 HO505 BK506 HB hHeld ⊢
        refine pa_ (i := 0) (N := some 18) (bsA 37 1) (h := ?_)
        refine pa_ (i := 2) (N := some 20) (bsA 37 5) (h := ?_)
        refine take_ (i := 1) (N := some 19) (v := ?_) (a' := ?_) (bsA 37 7) rfl rfl (take_ofW HT_.out HW_.out (by kernel_rfl)) (fun _ _ _ h => h) (Or.inl ⟨by rfl, ?_⟩) hHeld ?_ ?_
        rotate_left
        ·rintro w' ⟨s0, s1, s2⟩
         go_simp
         with_reducible rfl
        rotate_left
        ·simp only [Act.put, List.setIfInBounds_toArray, List.set_cons_zero, List.set_cons_succ, i64_w, i32_w]
         rfl
        refine one_ (i := 3) (N := some 21) (bsA 37 15) rfl rfl (one_of HT_.out (by kernel_rfl)) (by decide) (fun K hK => ?_)
        refine goes_ Try.func41 (by kernel_rfl) rfl #[.slice Ao8 t498.length co8] (by rfl) rfl rfl bM ?_
        with_reducible refine (spec_ParseHeader.calls k _ _ t498 t507 t508 t509 _ ?side1 ?side2 A13.out).mono ?_
        (case side1 => exact z5 HO500.out)
        (case side2 => exact (Kd.R_reads' HO500.out).2.1)
        rintro e w31 ⟨v510, rfl, ho0, hb⟩
        refine ⟨_, rfl, ?_⟩
        replace HO500 := Aside0.mk (Kd.R_below (bR HO500) hb)
        have HO511 := Aside0.mk (Kd.R_lower (Kd.R_new' ho0 (Kd.R_lt (bR HO505))) (below_size (bG GE506)))
        replace HO505 := Aside0.mk (Kd.R_elder' (bR HO505) (Kd.R_base ho0) hb)
        replace BK506 := Aside0.mk (blk_below (g := gb506) (o := .cells #[.int .i64 t501, .int .i64 t502, .slice Ao12 t503.length co12] 61 (0, 0)) (bL BK506) hb)
        replace HB := Aside0.mk (below_step (bG GE506) hb)
        (try clear hb)
        (try clear hb2)
        (try clear hk)
        (try clear hi)
        (try clear ho0)
        refine hK.out _ _ ⟨(blk_cell BK506.out 0).trans rfl, (blk_cell BK506.out 1).trans rfl, (blk_cell BK506.out 2).trans rfl⟩ (fun hHeld => ?_)
        clear hK K
        refine na_ (N := some 21) (h := ?_)
        refine pa_ (i := 4) (N := some 22) (bsA 37 31) (h := ?_)
        refine pa_ (i := 5) (N := some 23) (bsA 37 63) (h := ?_)
        refine pa_ (i := 6) (N := some 24) (bsA 37 127) (h := ?_)
        refine pa_ (i := 7) (N := some 25) (bsA 37 255) (h := ?_)
        refine pa_ (i := 9) (N := some 27) (bsA 37 767) (h := ?_)
        refine take_ (i := 8) (N := some 26) (v := ?_) (a' := ?_) (bsA 37 1023) rfl rfl (take_ofW HT_.out HW_.out (by kernel_rfl)) (fun _ _ _ h => h) (Or.inl ⟨by rfl, ?_⟩) hHeld ?_ ?_
        rotate_left
        ·rintro w' ⟨s0, s1, s2⟩
         go_simp
         with_reducible rfl
        rotate_left
        ·simp only [Act.put, List.setIfInBounds_toArray, List.set_cons_zero, List.set_cons_succ, i64_w, i32_w]
         rfl
        refine one_ (i := 10) (N := some 28) (bsA 37 2047) rfl rfl (one_of HT_.out (by kernel_rfl)) (by decide) (fun K hK => ?_)
        refine goes_ Try.func41 (by kernel_rfl) rfl #[.slice Ao8 t498.length co8] (by rfl) rfl rfl bM ?_
        with_reducible refine (spec_ParseHeader.calls k _ _ t498 t512 t513 t514 _ ?side1 ?side2 A15.out).mono ?_
        (case side1 => exact z5 HO500.out)
        (case side2 => exact (Kd.R_reads' HO500.out).2.1)
        rintro e w32 ⟨v515, rfl, ho0, hb⟩
        refine ⟨_, rfl, ?_⟩
        replace HO500 := Aside0.mk (Kd.R_below (bR HO500) hb)
        have HO516 := Aside0.mk (Kd.R_lower (Kd.R_new' (Kd.R_new' ho0 (Kd.R_lt (bR HO505))) (Kd.R_lt (bR HO511))) (below_size (bG GE506)))
        replace HO505 := Aside0.mk (Kd.R_elder' (bR HO505) (Kd.R_base ho0) hb)
        replace HO511 := Aside0.mk (Kd.R_elder' (bR HO511) (Kd.R_base ho0) hb)
        replace BK506 := Aside0.mk (blk_below (g := gb506) (o := .cells #[.int .i64 t501, .int .i64 t502, .slice Ao12 t503.length co12] 61 (0, 0)) (bL BK506) hb)
        replace HB := Aside0.mk (below_step (bG GE506) hb)
        (try clear hb)
        (try clear hb2)
        (try clear hk)
        (try clear hi)
        (try clear ho0)
        refine hK.out _ _ ⟨(blk_cell BK506.out 0).trans rfl, (blk_cell BK506.out 1).trans rfl, (blk_cell BK506.out 2).trans rfl⟩ (fun hHeld => ?_)
        clear hK K
        refine na_ (N := some 28) (h := ?_)
        refine pa_ (i := 11) (N := some 29) (bsA 37 4095) (h := ?_)
        refine pa_ (i := 12) (N := some 30) (bsA 37 8191) (h := ?_)
        refine pa_ (i := 13) (N := some 31) (bsA 37 16383) (h := ?_)
        refine pa_ (i := 14) (N := some 32) (bsA 37 32767) (h := ?_)
        refine pa_ (i := 15) (N := some 33) (bsA 37 65535) (h := ?_)
        refine take_ (i := 16) (N := some 34) (v := ?_) (a' := ?_) (bsA 37 131071) rfl rfl (take_ofW HT_.out HW_.out (by kernel_rfl)) (fun _ _ _ h => h) (Or.inl ⟨by rfl, ?_⟩) hHeld ?_ ?_
        rotate_left
        ·rintro w' ⟨s0, s1, s2⟩
         go_simp
         with_reducible rfl
        rotate_left
        ·simp only [Act.put, List.setIfInBounds_toArray, List.set_cons_zero, List.set_cons_succ, i64_w, i32_w]
         rfl
        refine pa_ (i := 17) (N := some 35) (bsA 37 262143) (h := ?_)
        refine pa_ (i := 18) (N := some 36) (bsA 37 524287) (h := ?_)
        refine pa_ (i := 19) (N := some 37) (bsA 37 1048575) (h := ?_)
        refine pa_ (i := 20) (N := some 38) (bsA 37 2097151) (h := ?_)
        refine pa_ (i := 22) (N := some 40) (bsA 37 6291455) (h := ?_)
        refine pa_ (i := 23) (N := some 41) (bsA 37 14680063) (h := ?_)
        refine take_ (i := 21) (N := some 39) (v := ?_) (a' := ?_) (bsA 37 16777215) rfl rfl (take_ofW HT_.out HW_.out (by kernel_rfl)) (fun _ _ _ h => h) (Or.inl ⟨by rfl, ?_⟩) hHeld ?_ ?_
        rotate_left
        ·rintro w' ⟨s0, s1, s2⟩
         go_simp
         with_reducible rfl
        rotate_left
        ·simp only [Act.put, List.setIfInBounds_toArray, List.set_cons_zero, List.set_cons_succ, i64_w, i32_w]
         rfl
        refine pa_ (i := 24) (N := some 42) (bsA 37 33554431) (h := ?_)
        refine pa_ (i := 25) (N := some 43) (bsA 37 67108863) (h := ?_)
        refine pa_ (i := 26) (N := some 44) (bsA 37 134217727) (h := ?_)
        refine pa_ (i := 27) (N := some 45) (bsA 37 268435455) (h := ?_)
        refine take_ (i := 28) (N := some 46) (v := ?_) (a' := ?_) (bsA 37 536870911) rfl rfl (take_ofW HT_.out HW_.out (by kernel_rfl)) (fun _ _ _ h => h) (Or.inl ⟨by rfl, ?_⟩) hHeld ?_ ?_
        rotate_left
        ·rintro w' ⟨s0, s1, s2⟩
         go_simp
         with_reducible rfl
        rotate_left
        ·simp only [Act.put, List.setIfInBounds_toArray, List.set_cons_zero, List.set_cons_succ, i64_w, i32_w]
         rfl
        refine pa_ (i := 29) (N := some 47) (bsA 37 1073741823) (h := ?_)
        refine pa_ (i := 30) (N := some 48) (bsA 37 2147483647) (h := ?_)
        refine pa_ (i := 31) (N := some 49) (bsA 37 4294967295) (h := ?_)
        refine take_ (i := 32) (N := some 50) (v := ?_) (a' := ?_) (bsA 37 8589934591) rfl rfl (take_ofW HT_.out HW_.out (by kernel_rfl)) (fun _ _ _ h => h) (Or.inl ⟨by rfl, ?_⟩) hHeld ?_ ?_
        rotate_left
        ·rintro w' ⟨s0, s1, s2⟩
         go_simp
         with_reducible rfl
        rotate_left
        ·simp only [Act.put, List.setIfInBounds_toArray, List.set_cons_zero, List.set_cons_succ, i64_w, i32_w]
         rfl
        refine one_ (i := 33) (N := some 51) (bsA 37 17179869183) rfl rfl (one_of HT_.out (by kernel_rfl)) (by decide) (fun K hK => ?_)
        refine goes_ Try.func26 (by kernel_rfl) rfl #[.slice Ao12 t503.length co12] (by rfl) rfl rfl bM ?_
        with_reducible refine (impl_FieldsFault.calls k _ _ t503 t517 _ ?side1 ?side2 A28.out).mono ?_
        (case side1 => exact z5 HO505.out)
        (case side2 => exact (Kd.R_reads' HO505.out).2.1)
        rintro e w33 ⟨rfl, hb⟩
        refine ⟨_, rfl, ?_⟩
        replace HO500 := Aside0.mk (Kd.R_below (bR HO500) hb)
        replace HO505 := Aside0.mk (Kd.R_below (bR HO505) hb)
        replace HO511 := Aside0.mk (Kd.R_below (bR HO511) hb)
        replace HO516 := Aside0.mk (Kd.R_below (bR HO516) hb)
        replace BK506 := Aside0.mk (blk_below (g := gb506) (o := .cells #[.int .i64 t501, .int .i64 t502, .slice Ao12 t503.length co12] 61 (0, 0)) (bL BK506) hb)
        replace HB := Aside0.mk (below_step (bG GE506) hb)
        (try clear hb)
        (try clear hb2)
        (try clear hk)
        (try clear hi)
        refine hK.out _ _ ⟨(blk_cell BK506.out 0).trans rfl, (blk_cell BK506.out 1).trans rfl, (blk_cell BK506.out 2).trans rfl⟩ (fun hHeld => ?_)
        clear hK K
        refine na_ (N := some 51) (h := ?_)
        refine pa_ (i := 34) (N := some 52) (bsA 37 34359738367) (h := ?_)
        refine pa_ (i := 35) (N := some 53) (bsA 37 68719476735) (h := ?_)
        refine pa_ (i := 36) (N := some 54) (bsA 37 137438953471) (h := ?_)
        refine done_ (done_of HT_.out (by kernel_rfl)) ?_
        try go_wp2
        go_meet
        case rel => exact ⟨_, ((t517 != 0)), bS, H', ⟨z42⟩, ⟨z15 HO505.out⟩, ⟨bL BK506⟩, ⟨bG GE506⟩⟩
       ·rw [if_neg c27] at H
        have c27b0 : (t501 == 0) = false := beq_eq_false_iff_ne.mpr c27
        have c27b1 : (t501 != 0) = true := bne_iff_ne.mpr c27
        have H' := Aside0.mk H
        clear H
        try go_wp2
        have n0_ : Aside0 (Kd.R (Kd.int .u8) 5 (((w10.setCell ⟨gb506, 0, none⟩ (.int .i64 t501)).setCell ⟨gb506, 1, none⟩ (.int .i64 t502)).setCell ⟨gb506, 2, none⟩ (.slice Ao12 t503.length co12)) w.heap.size (fun _ => True) (.slice Ao8 t498.length co8) t498) := ⟨z8 HO500.out BK506.out⟩
        have n1_ : Aside0 (Kd.R k69 69 (((w10.setCell ⟨gb506, 0, none⟩ (.int .i64 t501)).setCell ⟨gb506, 1, none⟩ (.int .i64 t502)).setCell ⟨gb506, 2, none⟩ (.slice Ao12 t503.length co12)) w.heap.size (fun _ => True) (.slice Ao12 t503.length co12) t503) := ⟨z8 HO505.out BK506.out⟩
        have n2_ : Aside0 ((((w10.setCell ⟨gb506, 0, none⟩ (.int .i64 t501)).setCell ⟨gb506, 1, none⟩ (.int .i64 t502)).setCell ⟨gb506, 2, none⟩ (.slice Ao12 t503.length co12)).heap[gb506]? = some (.cells #[.int .i64 t501, .int .i64 t502, .slice Ao12 t503.length co12] 61 (0, 0))) := ⟨z11 BK506.out⟩
        have n3_ : Aside0 (Below w.heap.size w (((w10.setCell ⟨gb506, 0, none⟩ (.int .i64 t501)).setCell ⟨gb506, 1, none⟩ (.int .i64 t502)).setCell ⟨gb506, 2, none⟩ (.slice Ao12 t503.length co12))) := ⟨bG GE506⟩
        (try clear HO500)
        (try clear HO505)
        (try clear BK506)
        (try clear HB)
        generalize (((w10.setCell ⟨gb506, 0, none⟩ (.int .i64 t501)).setCell ⟨gb506, 1, none⟩ (.int .i64 t502)).setCell ⟨gb506, 2, none⟩ (.slice Ao12 t503.length co12)) = w34 at n0_ n1_ n2_ n3_ ⊢
        have HO500 := n0_
        have HO505 := n1_
        have BK506 := n2_
        have HB := n3_
        clear n0_ n1_ n2_ n3_
        replace HO500 := Aside0.mk (Kd.R_drew HO500.out)
        replace HO505 := Aside0.mk (Kd.R_drew HO505.out)
        replace BK506 := Aside0.mk (blk_drew BK506.out)
        replace HB := Aside0.mk (below_drew1 HB.out)
        refine start_ (n := 37) (S := fun w' => w'.cell? ⟨gb506, 0, none⟩ = some (.int .i64 t501) ∧ w'.cell? ⟨gb506, 1, none⟩ = some (.int .i64 t502) ∧ w'.cell? ⟨gb506, 2, none⟩ = some (.slice Ao12 t503.length co12)) (ds := []) (bsA 37 0) (by kernel_rfl) rfl rfl ⟨(blk_cell BK506.out 0).trans rfl, (blk_cell BK506.out 1).trans rfl, (blk_cell BK506.out 2).trans rfl⟩ (fun hHeld => ?_); refine with_tabW laws_FnHeaders.tab5 laws_FnHeaders.bits5 (fun HT_ HW_ => ?_)
        generalize w34.drew = w35 at HO500 HO505 BK506 HB hHeld ⊢
        refine pa_ (i := 0) (N := some 18) (bsA 37 1) (h := ?_)
        refine pa_ (i := 2) (N := some 20) (bsA 37 5) (h := ?_)
        refine take_ (i := 1) (N := some 19) (v := ?_) (a' := ?_) (bsA 37 7) rfl rfl (take_ofW HT_.out HW_.out (by kernel_rfl)) (fun _ _ _ h => h) (Or.inl ⟨by rfl, ?_⟩) hHeld ?_ ?_
        rotate_left
        ·rintro w' ⟨s0, s1, s2⟩
         go_simp
         with_reducible rfl
        rotate_left
        ·simp only [Act.put, List.setIfInBounds_toArray, List.set_cons_zero, List.set_cons_succ, i64_w, i32_w]
         rfl
        refine one_ (i := 3) (N := some 21) (bsA 37 15) rfl rfl (one_of HT_.out (by kernel_rfl)) (by decide) (fun K hK => ?_)
        refine goes_ Try.func41 (by kernel_rfl) rfl #[.slice Ao8 t498.length co8] (by rfl) rfl rfl bM ?_
        with_reducible refine (spec_ParseHeader.calls k _ _ t498 t507 t508 t509 _ ?side1 ?side2 A13.out).mono ?_
        (case side1 => exact z5 HO500.out)
        (case side2 => exact (Kd.R_reads' HO500.out).2.1)
        rintro e w36 ⟨v510, rfl, ho0, hb⟩
        refine ⟨_, rfl, ?_⟩
        replace HO500 := Aside0.mk (Kd.R_below (bR HO500) hb)
        have HO511 := Aside0.mk (Kd.R_lower (Kd.R_new' ho0 (Kd.R_lt (bR HO505))) (below_size (bG GE506)))
        replace HO505 := Aside0.mk (Kd.R_elder' (bR HO505) (Kd.R_base ho0) hb)
        replace BK506 := Aside0.mk (blk_below (g := gb506) (o := .cells #[.int .i64 t501, .int .i64 t502, .slice Ao12 t503.length co12] 61 (0, 0)) (bL BK506) hb)
        replace HB := Aside0.mk (below_step (bG GE506) hb)
        (try clear hb)
        (try clear hb2)
        (try clear hk)
        (try clear hi)
        (try clear ho0)
        refine hK.out _ _ ⟨(blk_cell BK506.out 0).trans rfl, (blk_cell BK506.out 1).trans rfl, (blk_cell BK506.out 2).trans rfl⟩ (fun hHeld => ?_)
        clear hK K
        refine na_ (N := some 21) (h := ?_)
        refine pa_ (i := 4) (N := some 22) (bsA 37 31) (h := ?_)
        refine pa_ (i := 5) (N := some 23) (bsA 37 63) (h := ?_)
        refine pa_ (i := 6) (N := some 24) (bsA 37 127) (h := ?_)
        refine pa_ (i := 7) (N := some 25) (bsA 37 255) (h := ?_)
        refine pa_ (i := 9) (N := some 27) (bsA 37 767) (h := ?_)
        refine take_ (i := 8) (N := some 26) (v := ?_) (a' := ?_) (bsA 37 1023) rfl rfl (take_ofW HT_.out HW_.out (by kernel_rfl)) (fun _ _ _ h => h) (Or.inl ⟨by rfl, ?_⟩) hHeld ?_ ?_
        rotate_left
        ·rintro w' ⟨s0, s1, s2⟩
         go_simp
         with_reducible rfl
        rotate_left
        ·simp only [Act.put, List.setIfInBounds_toArray, List.set_cons_zero, List.set_cons_succ, i64_w, i32_w]
         rfl
        refine one_ (i := 10) (N := some 28) (bsA 37 2047) rfl rfl (one_of HT_.out (by kernel_rfl)) (by decide) (fun K hK => ?_)
        refine goes_ Try.func41 (by kernel_rfl) rfl #[.slice Ao8 t498.length co8] (by rfl) rfl rfl bM ?_
        with_reducible refine (spec_ParseHeader.calls k _ _ t498 t512 t513 t514 _ ?side1 ?side2 A15.out).mono ?_
        (case side1 => exact z5 HO500.out)
        (case side2 => exact (Kd.R_reads' HO500.out).2.1)
        rintro e w37 ⟨v515, rfl, ho0, hb⟩
        refine ⟨_, rfl, ?_⟩
        replace HO500 := Aside0.mk (Kd.R_below (bR HO500) hb)
        have HO516 := Aside0.mk (Kd.R_lower (Kd.R_new' (Kd.R_new' ho0 (Kd.R_lt (bR HO505))) (Kd.R_lt (bR HO511))) (below_size (bG GE506)))
        replace HO505 := Aside0.mk (Kd.R_elder' (bR HO505) (Kd.R_base ho0) hb)
        replace HO511 := Aside0.mk (Kd.R_elder' (bR HO511) (Kd.R_base ho0) hb)
        replace BK506 := Aside0.mk (blk_below (g := gb506) (o := .cells #[.int .i64 t501, .int .i64 t502, .slice Ao12 t503.length co12] 61 (0, 0)) (bL BK506) hb)
        replace HB := Aside0.mk (below_step (bG GE506) hb)
        (try clear hb)
        (try clear hb2)
        (try clear hk)
        (try clear hi)
        (try clear ho0)
        refine hK.out _ _ ⟨(blk_cell BK506.out 0).trans rfl, (blk_cell BK506.out 1).trans rfl, (blk_cell BK506.out 2).trans rfl⟩ (fun hHeld => ?_)
        clear hK K
        refine na_ (N := some 28) (h := ?_)
        refine pa_ (i := 11) (N := some 29) (bsA 37 4095) (h := ?_)
        refine pa_ (i := 12) (N := some 30) (bsA 37 8191) (h := ?_)
        refine pa_ (i := 13) (N := some 31) (bsA 37 16383) (h := ?_)
        refine pa_ (i := 14) (N := some 32) (bsA 37 32767) (h := ?_)
        refine pa_ (i := 15) (N := some 33) (bsA 37 65535) (h := ?_)
        refine take_ (i := 16) (N := some 34) (v := ?_) (a' := ?_) (bsA 37 131071) rfl rfl (take_ofW HT_.out HW_.out (by kernel_rfl)) (fun _ _ _ h => h) (Or.inl ⟨by rfl, ?_⟩) hHeld ?_ ?_
        rotate_left
        ·rintro w' ⟨s0, s1, s2⟩
         go_simp
         with_reducible rfl
        rotate_left
        ·simp only [Act.put, List.setIfInBounds_toArray, List.set_cons_zero, List.set_cons_succ, i64_w, i32_w]
         rfl
        refine pa_ (i := 17) (N := some 35) (bsA 37 262143) (h := ?_)
        refine pa_ (i := 18) (N := some 36) (bsA 37 524287) (h := ?_)
        refine pa_ (i := 19) (N := some 37) (bsA 37 1048575) (h := ?_)
        refine pa_ (i := 20) (N := some 38) (bsA 37 2097151) (h := ?_)
        refine pa_ (i := 22) (N := some 40) (bsA 37 6291455) (h := ?_)
        refine pa_ (i := 23) (N := some 41) (bsA 37 14680063) (h := ?_)
        refine take_ (i := 21) (N := some 39) (v := ?_) (a' := ?_) (bsA 37 16777215) rfl rfl (take_ofW HT_.out HW_.out (by kernel_rfl)) (fun _ _ _ h => h) (Or.inl ⟨by rfl, ?_⟩) hHeld ?_ ?_
        rotate_left
        ·rintro w' ⟨s0, s1, s2⟩
         go_simp
         with_reducible rfl
        rotate_left
        ·simp only [Act.put, List.setIfInBounds_toArray, List.set_cons_zero, List.set_cons_succ, i64_w, i32_w]
         rfl
        refine pa_ (i := 24) (N := some 42) (bsA 37 33554431) (h := ?_)
        refine pa_ (i := 25) (N := some 43) (bsA 37 67108863) (h := ?_)
        refine pa_ (i := 26) (N := some 44) (bsA 37 134217727) (h := ?_)
        refine pa_ (i := 27) (N := some 45) (bsA 37 268435455) (h := ?_)
        refine take_ (i := 28) (N := some 46) (v := ?_) (a' := ?_) (bsA 37 536870911) rfl rfl (take_ofW HT_.out HW_.out (by kernel_rfl)) (fun _ _ _ h => h) (Or.inl ⟨by rfl, ?_⟩) hHeld ?_ ?_
        rotate_left
        ·rintro w' ⟨s0, s1, s2⟩
         go_simp
         with_reducible rfl
        rotate_left
        ·simp only [Act.put, List.setIfInBounds_toArray, List.set_cons_zero, List.set_cons_succ, i64_w, i32_w]
         rfl
        refine pa_ (i := 29) (N := some 47) (bsA 37 1073741823) (h := ?_)
        refine pa_ (i := 30) (N := some 48) (bsA 37 2147483647) (h := ?_)
        refine pu_ (i := 31) (N := some 49) (bsA 37 4294967295) (h := ?_)
        refine pu_ (i := 32) (N := some 50) (bsA 37 8589934591) (h := ?_)
        refine pu_ (i := 33) (N := some 51) (bsA 37 17179869183) (h := ?_)
        refine pu_ (i := 34) (N := some 52) (bsA 37 34359738367) (h := ?_)
        refine pa_ (i := 35) (N := some 53) (bsA 37 68719476735) (h := ?_)
        refine pa_ (i := 36) (N := some 54) (bsA 37 137438953471) (h := ?_)
        refine done_ (done_of HT_.out (by kernel_rfl)) ?_
        try go_wp2
        go_meet
        case rel => exact ⟨_, (false), bS, H', ⟨z42⟩, ⟨z15 HO505.out⟩, ⟨bL BK506⟩, ⟨bG GE506⟩⟩
    ·rw [if_neg c16] at H
     have c16b0 : (t502 == t513) = false := beq_eq_false_iff_ne.mpr c16
     have c16b1 : (t502 != t513) = true := bne_iff_ne.mpr c16
     have H' := Aside0.mk H
     clear H
     try go_wp2
     have n0_ : Aside0 (Kd.R (Kd.int .u8) 5 (((w10.setCell ⟨gb506, 0, none⟩ (.int .i64 t501)).setCell ⟨gb506, 1, none⟩ (.int .i64 t502)).setCell ⟨gb506, 2, none⟩ (.slice Ao12 t503.length co12)) w.heap.size (fun _ => True) (.slice Ao8 t498.length co8) t498) := ⟨z8 HO500.out BK506.out⟩
     have n1_ : Aside0 (Kd.R k69 69 (((w10.setCell ⟨gb506, 0, none⟩ (.int .i64 t501)).setCell ⟨gb506, 1, none⟩ (.int .i64 t502)).setCell ⟨gb506, 2, none⟩ (.slice Ao12 t503.length co12)) w.heap.size (fun _ => True) (.slice Ao12 t503.length co12) t503) := ⟨z8 HO505.out BK506.out⟩
     have n2_ : Aside0 ((((w10.setCell ⟨gb506, 0, none⟩ (.int .i64 t501)).setCell ⟨gb506, 1, none⟩ (.int .i64 t502)).setCell ⟨gb506, 2, none⟩ (.slice Ao12 t503.length co12)).heap[gb506]? = some (.cells #[.int .i64 t501, .int .i64 t502, .slice Ao12 t503.length co12] 61 (0, 0))) := ⟨z11 BK506.out⟩
     have n3_ : Aside0 (Below w.heap.size w (((w10.setCell ⟨gb506, 0, none⟩ (.int .i64 t501)).setCell ⟨gb506, 1, none⟩ (.int .i64 t502)).setCell ⟨gb506, 2, none⟩ (.slice Ao12 t503.length co12))) := ⟨bG GE506⟩
     (try clear HO500)
     (try clear HO505)
     (try clear BK506)
     (try clear HB)
     generalize (((w10.setCell ⟨gb506, 0, none⟩ (.int .i64 t501)).setCell ⟨gb506, 1, none⟩ (.int .i64 t502)).setCell ⟨gb506, 2, none⟩ (.slice Ao12 t503.length co12)) = w38 at n0_ n1_ n2_ n3_ ⊢
     have HO500 := n0_
     have HO505 := n1_
     have BK506 := n2_
     have HB := n3_
     clear n0_ n1_ n2_ n3_
     replace HO500 := Aside0.mk (Kd.R_drew HO500.out)
     replace HO505 := Aside0.mk (Kd.R_drew HO505.out)
     replace BK506 := Aside0.mk (blk_drew BK506.out)
     replace HB := Aside0.mk (below_drew1 HB.out)
     refine start_ (n := 37) (S := fun w' => w'.cell? ⟨gb506, 0, none⟩ = some (.int .i64 t501) ∧ w'.cell? ⟨gb506, 1, none⟩ = some (.int .i64 t502) ∧ w'.cell? ⟨gb506, 2, none⟩ = some (.slice Ao12 t503.length co12)) (ds := []) (bsA 37 0) (by kernel_rfl) rfl rfl ⟨(blk_cell BK506.out 0).trans rfl, (blk_cell BK506.out 1).trans rfl, (blk_cell BK506.out 2).trans rfl⟩ (fun hHeld => ?_); refine with_tabW laws_FnHeaders.tab5 laws_FnHeaders.bits5 (fun HT_ HW_ => ?_)
     generalize w38.drew = w39 at HO500 HO505 BK506 HB hHeld ⊢
     refine pa_ (i := 0) (N := some 18) (bsA 37 1) (h := ?_)
     refine pa_ (i := 2) (N := some 20) (bsA 37 5) (h := ?_)
     refine take_ (i := 1) (N := some 19) (v := ?_) (a' := ?_) (bsA 37 7) rfl rfl (take_ofW HT_.out HW_.out (by kernel_rfl)) (fun _ _ _ h => h) (Or.inl ⟨by rfl, ?_⟩) hHeld ?_ ?_
     rotate_left
     ·rintro w' ⟨s0, s1, s2⟩
      go_simp
      with_reducible rfl
     rotate_left
     ·simp only [Act.put, List.setIfInBounds_toArray, List.set_cons_zero, List.set_cons_succ, i64_w, i32_w]
      rfl
     refine one_ (i := 3) (N := some 21) (bsA 37 15) rfl rfl (one_of HT_.out (by kernel_rfl)) (by decide) (fun K hK => ?_)
     refine goes_ Try.func41 (by kernel_rfl) rfl #[.slice Ao8 t498.length co8] (by rfl) rfl rfl bM ?_
     with_reducible refine (spec_ParseHeader.calls k _ _ t498 t507 t508 t509 _ ?side1 ?side2 A13.out).mono ?_
     (case side1 => exact z5 HO500.out)
     (case side2 => exact (Kd.R_reads' HO500.out).2.1)
     rintro e w40 ⟨v510, rfl, ho0, hb⟩
     refine ⟨_, rfl, ?_⟩
     replace HO500 := Aside0.mk (Kd.R_below (bR HO500) hb)
     have HO511 := Aside0.mk (Kd.R_lower (Kd.R_new' ho0 (Kd.R_lt (bR HO505))) (below_size (bG GE506)))
     replace HO505 := Aside0.mk (Kd.R_elder' (bR HO505) (Kd.R_base ho0) hb)
     replace BK506 := Aside0.mk (blk_below (g := gb506) (o := .cells #[.int .i64 t501, .int .i64 t502, .slice Ao12 t503.length co12] 61 (0, 0)) (bL BK506) hb)
     replace HB := Aside0.mk (below_step (bG GE506) hb)
     (try clear hb)
     (try clear hb2)
     (try clear hk)
     (try clear hi)
     (try clear ho0)
     refine hK.out _ _ ⟨(blk_cell BK506.out 0).trans rfl, (blk_cell BK506.out 1).trans rfl, (blk_cell BK506.out 2).trans rfl⟩ (fun hHeld => ?_)
     clear hK K
     refine na_ (N := some 21) (h := ?_)
     refine pa_ (i := 4) (N := some 22) (bsA 37 31) (h := ?_)
     refine pa_ (i := 5) (N := some 23) (bsA 37 63) (h := ?_)
     refine pa_ (i := 6) (N := some 24) (bsA 37 127) (h := ?_)
     refine pa_ (i := 7) (N := some 25) (bsA 37 255) (h := ?_)
     refine pa_ (i := 9) (N := some 27) (bsA 37 767) (h := ?_)
     refine take_ (i := 8) (N := some 26) (v := ?_) (a' := ?_) (bsA 37 1023) rfl rfl (take_ofW HT_.out HW_.out (by kernel_rfl)) (fun _ _ _ h => h) (Or.inl ⟨by rfl, ?_⟩) hHeld ?_ ?_
     rotate_left
     ·rintro w' ⟨s0, s1, s2⟩
      go_simp
      with_reducible rfl
     rotate_left
     ·simp only [Act.put, List.setIfInBounds_toArray, List.set_cons_zero, List.set_cons_succ, i64_w, i32_w]
      rfl
     refine one_ (i := 10) (N := some 28) (bsA 37 2047) rfl rfl (one_of HT_.out (by kernel_rfl)) (by decide) (fun K hK => ?_)
     refine goes_ Try.func41 (by kernel_rfl) rfl #[.slice Ao8 t498.length co8] (by rfl) rfl rfl bM ?_
     with_reducible refine (spec_ParseHeader.calls k _ _ t498 t512 t513 t514 _ ?side1 ?side2 A15.out).mono ?_
     (case side1 => exact z5 HO500.out)
     (case side2 => exact (Kd.R_reads' HO500.out).2.1)
     rintro e w41 ⟨v515, rfl, ho0, hb⟩
     refine ⟨_, rfl, ?_⟩
     replace HO500 := Aside0.mk (Kd.R_below (bR HO500) hb)
     have HO516 := Aside0.mk (Kd.R_lower (Kd.R_new' (Kd.R_new' ho0 (Kd.R_lt (bR HO505))) (Kd.R_lt (bR HO511))) (below_size (bG GE506)))
     replace HO505 := Aside0.mk (Kd.R_elder' (bR HO505) (Kd.R_base ho0) hb)
     replace HO511 := Aside0.mk (Kd.R_elder' (bR HO511) (Kd.R_base ho0) hb)
     replace BK506 := Aside0.mk (blk_below (g := gb506) (o := .cells #[.int .i64 t501, .int .i64 t502, .slice Ao12 t503.length co12] 61 (0, 0)) (bL BK506) hb)
     replace HB := Aside0.mk (below_step (bG GE506) hb)
     (try clear hb)
     (try clear hb2)
     (try clear hk)
     (try clear hi)
     (try clear ho0)
     refine hK.out _ _ ⟨(blk_cell BK506.out 0).trans rfl, (blk_cell BK506.out 1).trans rfl, (blk_cell BK506.out 2).trans rfl⟩ (fun hHeld => ?_)
     clear hK K
     refine na_ (N := some 28) (h := ?_)
     refine pa_ (i := 11) (N := some 29) (bsA 37 4095) (h := ?_)
     refine pa_ (i := 12) (N := some 30) (bsA 37 8191) (h := ?_)
     refine pa_ (i := 13) (N := some 31) (bsA 37 16383) (h := ?_)
     refine pa_ (i := 14) (N := some 32) (bsA 37 32767) (h := ?_)
     refine pu_ (i := 15) (N := some 33) (bsA 37 65535) (h := ?_)
     refine pu_ (i := 16) (N := some 34) (bsA 37 131071) (h := ?_)
     refine pu_ (i := 17) (N := some 35) (bsA 37 262143) (h := ?_)
     refine pa_ (i := 18) (N := some 36) (bsA 37 524287) (h := ?_)
     refine pa_ (i := 19) (N := some 37) (bsA 37 1048575) (h := ?_)
     refine pu_ (i := 20) (N := some 38) (bsA 37 2097151) (h := ?_)
     refine pu_ (i := 21) (N := some 39) (bsA 37 4194303) (h := ?_)
     refine pu_ (i := 22) (N := some 40) (bsA 37 8388607) (h := ?_)
     refine pu_ (i := 23) (N := some 41) (bsA 37 16777215) (h := ?_)
     refine pu_ (i := 24) (N := some 42) (bsA 37 33554431) (h := ?_)
     refine pa_ (i := 25) (N := some 43) (bsA 37 67108863) (h := ?_)
     refine pa_ (i := 26) (N := some 44) (bsA 37 134217727) (h := ?_)
     refine pu_ (i := 27) (N := some 45) (bsA 37 268435455) (h := ?_)
     refine pu_ (i := 28) (N := some 46) (bsA 37 536870911) (h := ?_)
     refine pu_ (i := 29) (N := some 47) (bsA 37 1073741823) (h := ?_)
     refine pu_ (i := 30) (N := some 48) (bsA 37 2147483647) (h := ?_)
     refine pu_ (i := 31) (N := some 49) (bsA 37 4294967295) (h := ?_)
     refine pu_ (i := 32) (N := some 50) (bsA 37 8589934591) (h := ?_)
     refine pu_ (i := 33) (N := some 51) (bsA 37 17179869183) (h := ?_)
     refine pu_ (i := 34) (N := some 52) (bsA 37 34359738367) (h := ?_)
     refine pu_ (i := 35) (N := some 53) (bsA 37 68719476735) (h := ?_)
     refine pa_ (i := 36) (N := some 54) (bsA 37 137438953471) (h := ?_)
     refine done_ (done_of HT_.out (by kernel_rfl)) ?_
     try go_wp2
     go_meet
     case rel => exact ⟨_, (true), bS, H', ⟨z42⟩, ⟨z15 HO505.out⟩, ⟨bL BK506⟩, ⟨bG GE506⟩⟩
   ·rw [if_neg c14] at H
    have c14b0 : (t501 == t507) = false := beq_eq_false_iff_ne.mpr c14
    have c14b1 : (t501 != t507) = true := bne_iff_ne.mpr c14
    (first | rw [c14b0] | (simp only [i64_w, i32_w]; rw [c14b0]) | skip)
    have H' := Aside0.mk H
    clear H
    try go_wp2
    have n0_ : Aside0 (Kd.R (Kd.int .u8) 5 (((w10.setCell ⟨gb506, 0, none⟩ (.int .i64 t501)).setCell ⟨gb506, 1, none⟩ (.int .i64 t502)).setCell ⟨gb506, 2, none⟩ (.slice Ao12 t503.length co12)) w.heap.size (fun _ => True) (.slice Ao8 t498.length co8) t498) := ⟨z8 HO500.out BK506.out⟩
    have n1_ : Aside0 (Kd.R k69 69 (((w10.setCell ⟨gb506, 0, none⟩ (.int .i64 t501)).setCell ⟨gb506, 1, none⟩ (.int .i64 t502)).setCell ⟨gb506, 2, none⟩ (.slice Ao12 t503.length co12)) w.heap.size (fun _ => True) (.slice Ao12 t503.length co12) t503) := ⟨z8 HO505.out BK506.out⟩
    have n2_ : Aside0 ((((w10.setCell ⟨gb506, 0, none⟩ (.int .i64 t501)).setCell ⟨gb506, 1, none⟩ (.int .i64 t502)).setCell ⟨gb506, 2, none⟩ (.slice Ao12 t503.length co12)).heap[gb506]? = some (.cells #[.int .i64 t501, .int .i64 t502, .slice Ao12 t503.length co12] 61 (0, 0))) := ⟨z11 BK506.out⟩
    have n3_ : Aside0 (Below w.heap.size w (((w10.setCell ⟨gb506, 0, none⟩ (.int .i64 t501)).setCell ⟨gb506, 1, none⟩ (.int .i64 t502)).setCell ⟨gb506, 2, none⟩ (.slice Ao12 t503.length co12))) := ⟨bG GE506⟩
    (try clear HO500)
    (try clear HO505)
    (try clear BK506)
    (try clear HB)
    generalize (((w10.setCell ⟨gb506, 0, none⟩ (.int .i64 t501)).setCell ⟨gb506, 1, none⟩ (.int .i64 t502)).setCell ⟨gb506, 2, none⟩ (.slice Ao12 t503.length co12)) = w42 at n0_ n1_ n2_ n3_ ⊢
    have HO500 := n0_
    have HO505 := n1_
    have BK506 := n2_
    have HB := n3_
    clear n0_ n1_ n2_ n3_
    replace HO500 := Aside0.mk (Kd.R_drew HO500.out)
    replace HO505 := Aside0.mk (Kd.R_drew HO505.out)
    replace BK506 := Aside0.mk (blk_drew BK506.out)
    replace HB := Aside0.mk (below_drew1 HB.out)
    refine start_ (n := 37) (S := fun w' => w'.cell? ⟨gb506, 0, none⟩ = some (.int .i64 t501) ∧ w'.cell? ⟨gb506, 1, none⟩ = some (.int .i64 t502) ∧ w'.cell? ⟨gb506, 2, none⟩ = some (.slice Ao12 t503.length co12)) (ds := []) (bsA 37 0) (by kernel_rfl) rfl rfl ⟨(blk_cell BK506.out 0).trans rfl, (blk_cell BK506.out 1).trans rfl, (blk_cell BK506.out 2).trans rfl⟩ (fun hHeld => ?_); refine with_tabW laws_FnHeaders.tab5 laws_FnHeaders.bits5 (fun HT_ HW_ => ?_)
    generalize w42.drew = w43 at HO500 HO505 BK506 HB hHeld ⊢
    refine pa_ (i := 0) (N := some 18) (bsA 37 1) (h := ?_)
    refine pa_ (i := 2) (N := some 20) (bsA 37 5) (h := ?_)
    refine take_ (i := 1) (N := some 19) (v := ?_) (a' := ?_) (bsA 37 7) rfl rfl (take_ofW HT_.out HW_.out (by kernel_rfl)) (fun _ _ _ h => h) (Or.inl ⟨by rfl, ?_⟩) hHeld ?_ ?_
    rotate_left
    ·rintro w' ⟨s0, s1, s2⟩
     go_simp
     with_reducible rfl
    rotate_left
    ·simp only [Act.put, List.setIfInBounds_toArray, List.set_cons_zero, List.set_cons_succ, i64_w, i32_w]
     rfl
    refine one_ (i := 3) (N := some 21) (bsA 37 15) rfl rfl (one_of HT_.out (by kernel_rfl)) (by decide) (fun K hK => ?_)
    refine goes_ Try.func41 (by kernel_rfl) rfl #[.slice Ao8 t498.length co8] (by rfl) rfl rfl bM ?_
    with_reducible refine (spec_ParseHeader.calls k _ _ t498 t507 t508 t509 _ ?side1 ?side2 A13.out).mono ?_
    (case side1 => exact z5 HO500.out)
    (case side2 => exact (Kd.R_reads' HO500.out).2.1)
    rintro e w44 ⟨v510, rfl, ho0, hb⟩
    refine ⟨_, rfl, ?_⟩
    replace HO500 := Aside0.mk (Kd.R_below (bR HO500) hb)
    have HO511 := Aside0.mk (Kd.R_lower (Kd.R_new' ho0 (Kd.R_lt (bR HO505))) (below_size (bG GE506)))
    replace HO505 := Aside0.mk (Kd.R_elder' (bR HO505) (Kd.R_base ho0) hb)
    replace BK506 := Aside0.mk (blk_below (g := gb506) (o := .cells #[.int .i64 t501, .int .i64 t502, .slice Ao12 t503.length co12] 61 (0, 0)) (bL BK506) hb)
    replace HB := Aside0.mk (below_step (bG GE506) hb)
    (try clear hb)
    (try clear hb2)
    (try clear hk)
    (try clear hi)
    (try clear ho0)
    refine hK.out _ _ ⟨(blk_cell BK506.out 0).trans rfl, (blk_cell BK506.out 1).trans rfl, (blk_cell BK506.out 2).trans rfl⟩ (fun hHeld => ?_)
    clear hK K
    refine na_ (N := some 21) (h := ?_)
    refine pa_ (i := 4) (N := some 22) (bsA 37 31) (h := ?_)
    refine pa_ (i := 5) (N := some 23) (bsA 37 63) (h := ?_)
    refine pa_ (i := 6) (N := some 24) (bsA 37 127) (h := ?_)
    refine pu_ (i := 7) (N := some 25) (bsA 37 255) (h := ?_)
    refine pu_ (i := 8) (N := some 26) (bsA 37 511) (h := ?_)
    refine pu_ (i := 9) (N := some 27) (bsA 37 1023) (h := ?_)
    refine pu_ (i := 10) (N := some 28) (bsA 37 2047) (h := ?_)
    refine pu_ (i := 11) (N := some 29) (bsA 37 4095) (h := ?_)
    refine pu_ (i := 12) (N := some 30) (bsA 37 8191) (h := ?_)
    refine pa_ (i := 13) (N := some 31) (bsA 37 16383) (h := ?_)
    refine pa_ (i := 14) (N := some 32) (bsA 37 32767) (h := ?_)
    refine pu_ (i := 15) (N := some 33) (bsA 37 65535) (h := ?_)
    refine pu_ (i := 16) (N := some 34) (bsA 37 131071) (h := ?_)
    refine pu_ (i := 17) (N := some 35) (bsA 37 262143) (h := ?_)
    refine pa_ (i := 18) (N := some 36) (bsA 37 524287) (h := ?_)
    refine pa_ (i := 19) (N := some 37) (bsA 37 1048575) (h := ?_)
    refine pu_ (i := 20) (N := some 38) (bsA 37 2097151) (h := ?_)
    refine pu_ (i := 21) (N := some 39) (bsA 37 4194303) (h := ?_)
    refine pu_ (i := 22) (N := some 40) (bsA 37 8388607) (h := ?_)
    refine pu_ (i := 23) (N := some 41) (bsA 37 16777215) (h := ?_)
    refine pu_ (i := 24) (N := some 42) (bsA 37 33554431) (h := ?_)
    refine pa_ (i := 25) (N := some 43) (bsA 37 67108863) (h := ?_)
    refine pa_ (i := 26) (N := some 44) (bsA 37 134217727) (h := ?_)
    refine pu_ (i := 27) (N := some 45) (bsA 37 268435455) (h := ?_)
    refine pu_ (i := 28) (N := some 46) (bsA 37 536870911) (h := ?_)
    refine pu_ (i := 29) (N := some 47) (bsA 37 1073741823) (h := ?_)
    refine pu_ (i := 30) (N := some 48) (bsA 37 2147483647) (h := ?_)
    refine pu_ (i := 31) (N := some 49) (bsA 37 4294967295) (h := ?_)
    refine pu_ (i := 32) (N := some 50) (bsA 37 8589934591) (h := ?_)
    refine pu_ (i := 33) (N := some 51) (bsA 37 17179869183) (h := ?_)
    refine pu_ (i := 34) (N := some 52) (bsA 37 34359738367) (h := ?_)
    refine pu_ (i := 35) (N := some 53) (bsA 37 68719476735) (h := ?_)
    refine pa_ (i := 36) (N := some 54) (bsA 37 137438953471) (h := ?_)
    refine done_ (done_of HT_.out (by kernel_rfl)) ?_
    try go_wp2
    go_meet
    case rel => exact ⟨_, (true), bS, H', ⟨z42⟩, ⟨z15 HO505.out⟩, ⟨bL BK506⟩, ⟨bG GE506⟩⟩
  case rest =>
   clear HC6
   try clear c1
   try clear p2
   try clear c4
   try clear c14
   try clear c14b0
   try clear c14b1
   try clear c16
   try clear c16b0
   try clear c16b1
   try clear c41
   obtain ⟨kq, x54_5, rfl, HA, HJ5, HO_507002, BK506, HB⟩ := hcut
   cases kq with
   | zero => exact absurd HA.out (by simp [laws_FnHeaders.j0])
   | succ kj5 =>
    have H := HA.out
    clear HA
    simp only [laws_FnHeaders.j0] at H
    by_cases c45 : x54_5 = true
    ·subst c45
     have H1 : (some false) = some r := z35
     clear H
     have H := H1
     clear H1
     obtain rfl := Option.some.inj H
     go_wp2
     go_ret
     exact ⟨bE, bG GE506⟩
    ·replace c45 := Bool.eq_false_iff.mpr c45
     subst c45
     have H1 : ((spec_DrawPackHeader.f kj5 l0).bind fun t518 => ((impl_PackHeader.f kj5 t518).bind fun bt521 => (if bt521.1 = 0 then ((some (([] : List Int) : List Int)).bind fun y530 => (if y530.length + bt521.2.length < 140737488355328 then ((some (y530 ++ bt521.2 : List Int)).bind fun y533 => (if y533.length < 140737488355328 then ((impl_ParseHeader.f kj5 (y533 ++ [97])).bind fun bt539 => (if (bt521.2.length : Int) < 400 then (if bt539.1 = 0 then (if bt539.2.1 = (bt521.2.length : Int) then (laws_FnHeaders.j1 kj5 l0 t518 ((bt539.2.2.length : Int) != (t518.length : Int)) bt521.1 bt521.2 bt539.1 bt539.2.1 bt539.2.2) else (laws_FnHeaders.j1 kj5 l0 t518 true bt521.1 bt521.2 bt539.1 bt539.2.1 bt539.2.2)) else (laws_FnHeaders.j1 kj5 l0 t518 true bt521.1 bt521.2 bt539.1 bt539.2.1 bt539.2.2)) else (laws_FnHeaders.j1 kj5 l0 t518 false bt521.1 bt521.2 bt539.1 bt539.2.1 bt539.2.2))) else (none))) else (none))) else ((spec_PackHeader.f kj5 t518).bind fun bt526 => (some (bt526.1 == bt521.1)))))) = some r := z23
     clear H
     have H := H1
     clear H1
     replace H := Option.bind_eq_some_iff.mp H
     obtain ⟨t518, A460, H⟩ := H
     replace H : ((impl_PackHeader.f kj5 t518).bind fun bt521 => (if bt521.1 = 0 then ((some (([] : List Int) : List Int)).bind fun y530 => (if y530.length + bt521.2.length < 140737488355328 then ((some (y530 ++ bt521.2 : List Int)).bind fun y533 => (if y533.length < 140737488355328 then ((impl_ParseHeader.f kj5 (y533 ++ [97])).bind fun bt539 => (if (bt521.2.length : Int) < 400 then (if bt539.1 = 0 then (if bt539.2.1 = (bt521.2.length : Int) then (laws_FnHeaders.j1 kj5 l0 t518 ((bt539.2.2.length : Int) != (t518.length : Int)) bt521.1 bt521.2 bt539.1 bt539.2.1 bt539.2.2) else (laws_FnHeaders.j1 kj5 l0 t518 true bt521.1 bt521.2 bt539.1 bt539.2.1 bt539.2.2)) else (laws_FnHeaders.j1 kj5 l0 t518 true bt521.1 bt521.2 bt539.1 bt539.2.1 bt539.2.2)) else (laws_FnHeaders.j1 kj5 l0 t518 false bt521.1 bt521.2 bt539.1 bt539.2.1 bt539.2.2))) else (none))) else (none))) else ((spec_PackHeader.f kj5 t518).bind fun bt526 => (some (bt526.1 == bt521.1))))) = some r := H
     have A46 := Aside0.mk A460
     clear A460
     replace H := Option.bind_eq_some_iff.mp H
     obtain ⟨⟨t521, t522⟩, A470, H⟩ := H
     replace H : (if t521 = 0 then ((some (([] : List Int) : List Int)).bind fun y530 => (if y530.length + t522.length < 140737488355328 then ((some (y530 ++ t522 : List Int)).bind fun y533 => (if y533.length < 140737488355328 then ((impl_ParseHeader.f kj5 (y533 ++ [97])).bind fun bt539 => (if (t522.length : Int) < 400 then (if bt539.1 = 0 then (if bt539.2.1 = (t522.length : Int) then (laws_FnHeaders.j1 kj5 l0 t518 ((bt539.2.2.length : Int) != (t518.length : Int)) t521 t522 bt539.1 bt539.2.1 bt539.2.2) else (laws_FnHeaders.j1 kj5 l0 t518 true t521 t522 bt539.1 bt539.2.1 bt539.2.2)) else (laws_FnHeaders.j1 kj5 l0 t518 true t521 t522 bt539.1 bt539.2.1 bt539.2.2)) else (laws_FnHeaders.j1 kj5 l0 t518 false t521 t522 bt539.1 bt539.2.1 bt539.2.2))) else (none))) else (none))) else ((spec_PackHeader.f kj5 t518).bind fun bt526 => (some (bt526.1 == t521)))) = some r := H
     have A47 := Aside0.mk A470
     clear A470
     by_cases c48 : t521 = 0
     ·rw [if_pos c48] at H
      have c48b0 : (t521 == 0) = true := beq_iff_eq.mpr c48
      have c48b1 : (t521 != 0) = false := bne_eq_false_iff_eq.mpr c48
      clear c48
      obtain ⟨y530, hy530⟩ : ∃ y_ : List Int, y_ = (([] : List Int)) := ⟨_, rfl⟩
      replace H : (if y530.length + t522.length < 140737488355328 then ((some (y530 ++ t522 : List Int)).bind fun y533 => (if y533.length < 140737488355328 then ((impl_ParseHeader.f kj5 (y533 ++ [97])).bind fun bt539 => (if (t522.length : Int) < 400 then (if bt539.1 = 0 then (if bt539.2.1 = (t522.length : Int) then (laws_FnHeaders.j1 kj5 l0 t518 ((bt539.2.2.length : Int) != (t518.length : Int)) t521 t522 bt539.1 bt539.2.1 bt539.2.2) else (laws_FnHeaders.j1 kj5 l0 t518 true t521 t522 bt539.1 bt539.2.1 bt539.2.2)) else (laws_FnHeaders.j1 kj5 l0 t518 true t521 t522 bt539.1 bt539.2.1 bt539.2.2)) else (laws_FnHeaders.j1 kj5 l0 t518 false t521 t522 bt539.1 bt539.2.1 bt539.2.2))) else (none))) else (none)) = some r := z3 hy530
      have Ny530 := Aside0.mk hy530
      clear hy530
      by_cases c49 : y530.length + t522.length < 140737488355328
      ·rw [if_pos c49] at H
       have LMc49 := Aside0.mk c49
       clear c49
       obtain ⟨y533, hy533⟩ : ∃ y_ : List Int, y_ = (y530 ++ t522) := ⟨_, rfl⟩
       replace H : (if y533.length < 140737488355328 then ((impl_ParseHeader.f kj5 (y533 ++ [97])).bind fun bt539 => (if (t522.length : Int) < 400 then (if bt539.1 = 0 then (if bt539.2.1 = (t522.length : Int) then (laws_FnHeaders.j1 kj5 l0 t518 ((bt539.2.2.length : Int) != (t518.length : Int)) t521 t522 bt539.1 bt539.2.1 bt539.2.2) else (laws_FnHeaders.j1 kj5 l0 t518 true t521 t522 bt539.1 bt539.2.1 bt539.2.2)) else (laws_FnHeaders.j1 kj5 l0 t518 true t521 t522 bt539.1 bt539.2.1 bt539.2.2)) else (laws_FnHeaders.j1 kj5 l0 t518 false t521 t522 bt539.1 bt539.2.1 bt539.2.2))) else (none)) = some r := z3 hy533
       have Ny533 := Aside0.mk hy533
       clear hy533
       by_cases c50 : y533.length < 140737488355328
       ·rw [if_pos c50] at H
        have LMc50 := Aside0.mk c50
        clear c50
        obtain ⟨y536, hy536⟩ : ∃ y_ : List Int, y_ = (y533 ++ [97]) := ⟨_, rfl⟩
        replace H : ((impl_ParseHeader.f kj5 y536).bind fun bt539 => (if (t522.length : Int) < 400 then (if bt539.1 = 0 then (if bt539.2.1 = (t522.length : Int) then (laws_FnHeaders.j1 kj5 l0 t518 ((bt539.2.2.length : Int) != (t518.length : Int)) t521 t522 bt539.1 bt539.2.1 bt539.2.2) else (laws_FnHeaders.j1 kj5 l0 t518 true t521 t522 bt539.1 bt539.2.1 bt539.2.2)) else (laws_FnHeaders.j1 kj5 l0 t518 true t521 t522 bt539.1 bt539.2.1 bt539.2.2)) else (laws_FnHeaders.j1 kj5 l0 t518 false t521 t522 bt539.1 bt539.2.1 bt539.2.2))) = some r := z3 hy536
        have Ny536 := Aside0.mk hy536
        clear hy536
        replace H := Option.bind_eq_some_iff.mp H
        obtain ⟨⟨t539, t540, t541⟩, A510, H⟩ := H
        replace H : (if (t522.length : Int) < 400 then (if t539 = 0 then (if t540 = (t522.length : Int) then (laws_FnHeaders.j1 kj5 l0 t518 ((t541.length : Int) != (t518.length : Int)) t521 t522 t539 t540 t541) else (laws_FnHeaders.j1 kj5 l0 t518 true t521 t522 t539 t540 t541)) else (laws_FnHeaders.j1 kj5 l0 t518 true t521 t522 t539 t540 t541)) else (laws_FnHeaders.j1 kj5 l0 t518 false t521 t522 t539 t540 t541)) = some r := H
        have A51 := Aside0.mk A510
        clear A510
        have HC52 := Aside0.mk H
        clear H
        go_upto_region 12 with (first | ((with_reducible refine gate_callee (f := 50) rfl ?_); refine goesL_ (some 56) rfl rfl Try.func50 (by kernel_rfl) rfl #[.slice A0 l0.length c0] rfl bM ?_; (with_reducible refine (spec_DrawPackHeader.calls kj5 _ _ l0 t518 _ ?side1 ?side2 A46.out).mono ?_); (case side1 => exact z6 HR0.out); (case side2 => exact HC0.out); rintro e w53 ⟨v519, rfl, ho0, hb⟩; refine ⟨_, rfl, ?_⟩; have HO520 := Aside0.mk (Kd.R_lower (Kd.R_new' ho0 (Kd.R_lt (bR HO_507002))) (below_size (bG GE506))); replace HO_507002 := Aside0.mk (Kd.R_elder' (bR HO_507002) (Kd.R_base ho0) hb); replace BK506 := Aside0.mk (blk_below (g := gb506) (o := .cells #[.int .i64 t501, .int .i64 t502, .slice Ao12 t503.length co12] 61 (0, 0)) (bL BK506) hb); replace HB := Aside0.mk (below_step (bG GE506) hb); (try clear ho0); obtain ⟨Ao54, co54, eo54⟩ := Kd.R_slice HO520.out; subst eo54) | ((with_reducible refine gate_callee (f := 32) rfl ?_); refine goesL_ (some 58) rfl rfl Try.func32 (by kernel_rfl) rfl #[.slice Ao54 t518.length co54] rfl bM ?_; (with_reducible refine (impl_PackHeader.calls kj5 _ _ t518 t521 t522 _ ?side1 ?side2 A47.out).mono ?_); (case side1 => exact z5 HO520.out); (case side2 => exact (Kd.R_reads' HO520.out).2.1); rintro e w55 ⟨v523, rfl, ho0, hb⟩; refine ⟨_, rfl, ?_⟩; replace HO_507002 := Aside0.mk (Kd.R_below (bR HO_507002) hb); replace HO520 := Aside0.mk (Kd.R_below (bR HO520) hb); have HO524 := Aside0.mk (Kd.R_lower ho0 (below_size (bG GE506))); replace BK506 := Aside0.mk (blk_below (g := gb506) (o := .cells #[.int .i64 t501, .int .i64 t502, .slice Ao12 t503.length co12] 61 (0, 0)) (bL BK506) hb); replace HB := Aside0.mk (below_step (bG GE506) hb); (try clear ho0)) | ((with_reducible refine gate_dst (N := 6) rfl ?_); (try (refine gate_guard (by rfl) ?_; dsimp only)); refine box_event ?hg (N := 6) ?hd (cs := #[.int .i64 0, .slice none 0 0]) (t := 32) ?hr ?_; (case hd => rfl); (case hg => rfl); (case hr => exact z14); intro gb525 hg w56 hbox hb; replace HO_507002 := Aside0.mk (Kd.R_below (bR HO_507002) hb); replace HO520 := Aside0.mk (Kd.R_below (bR HO520) hb); replace HO524 := Aside0.mk (Kd.R_below (bR HO524) hb); have BK525 := Aside0.mk (hbox); have GW525 := Aside0.mk ((by rw [hg]; exact (below_size (bG GE506)) : w.heap.size ≤ gb525)); have GE525 := Aside0.mk ((by rw [hg]; exact (below_size (bG GE506)) : w.heap.size ≤ gb525)); replace HB := Aside0.mk (below_step (bG GE506) hb); have NB506_525 := Aside0.mk ((z38 : gb506 ≠ gb525)); have NB525_506 := Aside0.mk ((z37 : gb525 ≠ gb506)); replace BK506 := Aside0.mk (blk_below (g := gb506) (o := .cells #[.int .i64 t501, .int .i64 t502, .slice Ao12 t503.length co12] 61 (0, 0)) (bL BK506) hb); clear hb hbox hg; have hnb57 := NB525_506.out; have hnc57 := NB506_525.out; have hcz58_0 : w56.cell? ⟨gb525, 0, none⟩ = some (.int .i64 0) := (blk_cell BK525.out 0).trans rfl; have hcz58_1 : w56.cell? ⟨gb525, 1, none⟩ = some (.slice none 0 0) := (blk_cell BK525.out 1).trans rfl; have hfz58_0 := blk_frozen BK525.out 0; have hfz58_1 := blk_frozen BK525.out 1; obtain ⟨Ao59, co59, eo59⟩ := Kd.R_slice HO524.out; subst eo59) | ((with_reducible refine gate_dst (N := 68) rfl ?_); (try (refine gate_guard (by rfl) ?_; dsimp only)); refine Kd.R_lit (Kd.int .u8) _ 5 ?hg (N := 68) ?hd (xs := ([] : List Int)) (inner := []) (ok := fun _ => True) (okp := fun _ => True) ?hr ?hp (fun _ hk => hk) trivial (Below.refl _ _) (Nat.le_refl _) (by simp) ?_; (case hd => rfl); (case hg => rfl); (case hr => exact z14); (case hp => exact (Reps.none _ _)); intro v531 w60 ho61 hb hg_ hnew_; clear hg_ hnew_; (first | rw [← Ny530.out] at ho61 | (simp only [Int.reduceToNat] at ho61; rw [← Ny530.out] at ho61)); replace HO_507002 := Aside0.mk (Kd.R_below (z26 HO_507002.out BK525.out) hb); replace HO520 := Aside0.mk (Kd.R_below (z26 HO520.out BK525.out) hb); have HO532 := Aside0.mk (Kd.R_lower (Kd.R_new' ho61 (Kd.R_lt (z26 HO524.out BK525.out))) (below_size (bG2 GE506 GE525))); replace HO524 := Aside0.mk (Kd.R_elder' (z26 HO524.out BK525.out) (Kd.R_base ho61) hb); replace BK506 := Aside0.mk (blk_below (g := gb506) (o := .cells #[.int .i64 t501, .int .i64 t502, .slice Ao12 t503.length co12] 61 (0, 0)) (z18 NB506_525.out BK506.out) hb); replace BK525 := Aside0.mk (blk_below (g := gb525) (o := .cells #[.int .i64 t521, .slice Ao59 t522.length co59] 32 (0, 0)) (by (with_reducible repeat (first | refine blk_drewN ?_ _ | refine blk_drew ?_ | refine blk_alloc ?_ _)); refine blk_put (cs := #[.int .i64 t521, .slice none 0 0]) ?_ 1 _ rfl; (with_reducible repeat (first | refine blk_drewN ?_ _ | refine blk_drew ?_ | refine blk_alloc ?_ _)); refine blk_put (cs := #[.int .i64 0, .slice none 0 0]) ?_ 0 _ rfl; (with_reducible repeat (first | refine blk_drewN ?_ _ | refine blk_drew ?_ | refine blk_alloc ?_ _)); exact BK525.out) hb); replace HB := Aside0.mk (below_step (bG2 GE506 GE525) hb); clear hb ho61; have hcz62_0 : w60.cell? ⟨gb525, 0, none⟩ = some (.int .i64 t521) := (blk_cell BK525.out 0).trans rfl; have hcz62_1 : w60.cell? ⟨gb525, 1, none⟩ = some (.slice Ao59 t522.length co59) := (blk_cell BK525.out 1).trans rfl; have hfz62_0 := blk_frozen BK525.out 0; have hfz62_1 := blk_frozen BK525.out 1) | ((with_reducible refine gate_builtin (b := .append) (xs := #[.tmp 68, .tmp 70]) rfl ?_); (try (refine gate_guard (by rfl) ?_; dsimp only)); at_builtin; refine Kd.R_append_rows (Kd.int .u8) (w0 := w) w.heap.size rfl (.tmp 68) (.tmp 70) 22 5 (.int .u8 0) 1 rfl Try.underlying22 info5 rfl (by decide) (by omega) v531 y530 t522 _ _ _ (fun k_ => some k_ ≠ (.slice Ao59 t522.length co59 : Value).ownBlock) (fun _ => False) rfl rfl ?aO ?aR (fun _ _ h => h) (fun _ h => h.elim) ?aF ?aB ?aS ?aL ?_; (case aR => exact z5 HO524.out); (case aB => exact (bG2 GE506 GE525)); (case aF => exact (fun k_ hk => Kd.fresh' (Kd.R_lt (bR HO524)) k_ hk)); (case aO => exact z17 HO532.out); (case aS => exact (below_size (bG2 GE506 GE525))); (case aL => have := LMc49.out; omega); intro v534 w63 ho hb hg hat; rw [← Ny533.out] at ho; have n0_ := Aside0.mk (Kd.R_over' (bR HO_507002) (Kd.R_typed (bR HO532)) (by decide) hg); have n1_ := Aside0.mk (blk_grown (g := gb506) (o := .cells #[.int .i64 t501, .int .i64 t502, .slice Ao12 t503.length co12] 61 (0, 0)) (bL BK506) hg (Kd.R_ne HO532.out BK506.out (by decide))); have n2_ := Aside0.mk (Kd.R_over' (bR HO520) (Kd.R_typed (bR HO532)) (by decide) hg); have n3_ := Aside0.mk (Kd.R_after (ok := (fun _ => True)) (bR HO524) hg hat); have n4_ := Aside0.mk (blk_grown (g := gb525) (o := .cells #[.int .i64 t521, .slice Ao59 t522.length co59] 32 (0, 0)) (bL BK525) hg (Kd.R_ne HO532.out BK525.out (by decide))); have n5_ := Aside0.mk (hb); have n6_ := Aside0.mk (ho); clear HO_507002; clear BK506; clear HO520; clear HO524; clear BK525; clear HB; clear HO532; have HO_507002 := n0_; have BK506 := n1_; have HO520 := n2_; have HO524 := n3_; have BK525 := n4_; have HB := n5_; have HO535 := n6_; clear n0_ n1_ n2_ n3_ n4_ n5_ n6_; clear ho hb hg hat) | ((with_reducible refine gate_builtin (b := .append) (xs := #[.tmp 71, .tmp 72]) rfl ?_); (try (refine gate_guard (by rfl) ?_; dsimp only)); at_builtin; refine Kd.R_append (Kd.int .u8) (w0 := w) w.heap.size rfl (.tmp 71) (.tmp 72) 22 5 (.int .u8 0) 1 rfl Try.underlying22 info5 rfl (by decide) (by omega) v534 y533 97 [.int .u8 97] (fun k_ => some k_ ≠ (.slice Ao59 t522.length co59 : Value).ownBlock) (fun _ => False) rfl rfl ?aP (fun _ hk => hk.elim) ?aF ?aO ?aB ?aS ?aL ?_; (case aP => exact rfl); (case aB => exact (bG2 GE506 GE525)); (case aF => exact (fun k_ hk => Kd.fresh' (Kd.R_lt (bR HO524)) k_ hk)); (case aO => exact (bR HO535)); (case aS => exact (below_size (bG2 GE506 GE525))); (case aL => have := LMc50.out; omega); intro v537 w64 ho hb hg hat; rw [← Ny536.out] at ho; have n0_ := Aside0.mk (Kd.R_over' (bR HO_507002) (Kd.R_typed (bR HO535)) (by decide) hg); have n1_ := Aside0.mk (blk_grown (g := gb506) (o := .cells #[.int .i64 t501, .int .i64 t502, .slice Ao12 t503.length co12] 61 (0, 0)) (bL BK506) hg (Kd.R_ne HO535.out BK506.out (by decide))); have n2_ := Aside0.mk (Kd.R_over' (bR HO520) (Kd.R_typed (bR HO535)) (by decide) hg); have n3_ := Aside0.mk (Kd.R_after (ok := (fun _ => True)) (bR HO524) hg hat); have n4_ := Aside0.mk (blk_grown (g := gb525) (o := .cells #[.int .i64 t521, .slice Ao59 t522.length co59] 32 (0, 0)) (bL BK525) hg (Kd.R_ne HO535.out BK525.out (by decide))); have n5_ := Aside0.mk (hb); have n6_ := Aside0.mk (ho); clear HO_507002; clear BK506; clear HO520; clear HO524; clear BK525; clear HB; clear HO535; have HO_507002 := n0_; have BK506 := n1_; have HO520 := n2_; have HO524 := n3_; have BK525 := n4_; have HB := n5_; have HO538 := n6_; clear n0_ n1_ n2_ n3_ n4_ n5_ n6_; clear ho hb hg hat; obtain ⟨Ao65, co65, eo65⟩ := Kd.R_slice HO538.out; subst eo65) | ((with_reducible refine gate_callee (f := 43) rfl ?_); refine goesL_ (some 74) rfl rfl Try.func43 (by kernel_rfl) rfl #[.slice Ao65 y536.length co65] rfl bM ?_; (with_reducible refine (impl_ParseHeader.calls kj5 _ _ y536 t539 t540 t541 _ ?side1 ?side2 A51.out).mono ?_); (case side1 => exact z5 HO538.out); (case side2 => exact (Kd.R_reads' HO538.out).2.1); rintro e w66 ⟨v542, rfl, ho0, hb⟩; refine ⟨_, rfl, ?_⟩; replace HO524 := Aside0.mk (Kd.R_below (bR HO524) hb); replace HO538 := Aside0.mk (Kd.R_below (bR HO538) hb); have HO543 := Aside0.mk (Kd.R_lower (Kd.R_new' (Kd.R_new' ho0 (Kd.R_lt (bR HO_507002))) (Kd.R_lt (bR HO520))) (below_size (bG2 GE506 GE525))); replace HO_507002 := Aside0.mk (Kd.R_elder' (bR HO_507002) (Kd.R_base ho0) hb); replace HO520 := Aside0.mk (Kd.R_elder' (bR HO520) (Kd.R_base ho0) hb); replace BK506 := Aside0.mk (blk_below (g := gb506) (o := .cells #[.int .i64 t501, .int .i64 t502, .slice Ao12 t503.length co12] 61 (0, 0)) (bL BK506) hb); replace BK525 := Aside0.mk (blk_below (g := gb525) (o := .cells #[.int .i64 t521, .slice Ao59 t522.length co59] 32 (0, 0)) (bL BK525) hb); replace HB := Aside0.mk (below_step (bG2 GE506 GE525) hb); (try clear ho0)) | ((with_reducible refine gate_dst (N := 7) rfl ?_); (try (refine gate_guard (by rfl) ?_; dsimp only)); refine box_event ?hg (N := 7) ?hd (cs := #[.int .i64 0, .int .i64 0, .slice none 0 0]) (t := 61) ?hr ?_; (case hd => rfl); (case hg => rfl); (case hr => exact z14); intro gb544 hg w67 hbox hb; replace HO_507002 := Aside0.mk (Kd.R_below (bR HO_507002) hb); replace HO520 := Aside0.mk (Kd.R_below (bR HO520) hb); replace HO524 := Aside0.mk (Kd.R_below (bR HO524) hb); replace HO538 := Aside0.mk (Kd.R_below (bR HO538) hb); replace HO543 := Aside0.mk (Kd.R_below (bR HO543) hb); have BK544 := Aside0.mk (hbox); have GW544 := Aside0.mk ((by rw [hg]; exact (below_size (bG2 GE506 GE525)) : w.heap.size ≤ gb544)); have GE544 := Aside0.mk ((by rw [hg]; exact (below_size (bG2 GE506 GE525)) : w.heap.size ≤ gb544)); replace HB := Aside0.mk (below_step (bG2 GE506 GE525) hb); have NB506_544 := Aside0.mk ((z38 : gb506 ≠ gb544)); have NB544_506 := Aside0.mk ((z37 : gb544 ≠ gb506)); replace BK506 := Aside0.mk (blk_below (g := gb506) (o := .cells #[.int .i64 t501, .int .i64 t502, .slice Ao12 t503.length co12] 61 (0, 0)) (bL BK506) hb); have NB525_544 := Aside0.mk ((by rw [hg]; exact Nat.ne_of_lt (blk_lt (g := gb525) (o := .cells #[.int .i64 t521, .slice Ao59 t522.length co59] 32 (0, 0)) (bL BK525)) : gb525 ≠ gb544)); have NB544_525 := Aside0.mk ((by rw [hg]; exact Nat.ne_of_gt (blk_lt (g := gb525) (o := .cells #[.int .i64 t521, .slice Ao59 t522.length co59] 32 (0, 0)) (bL BK525)) : gb544 ≠ gb525)); replace BK525 := Aside0.mk (blk_below (g := gb525) (o := .cells #[.int .i64 t521, .slice Ao59 t522.length co59] 32 (0, 0)) (bL BK525) hb); clear hb hbox hg; have hnb68 := NB544_506.out; have hnc68 := NB506_544.out; have hnb69 := NB544_525.out; have hnc69 := NB525_544.out; have hcz70_0 : w67.cell? ⟨gb544, 0, none⟩ = some (.int .i64 0) := (blk_cell BK544.out 0).trans rfl; have hcz70_1 : w67.cell? ⟨gb544, 1, none⟩ = some (.int .i64 0) := (blk_cell BK544.out 1).trans rfl; have hcz70_2 : w67.cell? ⟨gb544, 2, none⟩ = some (.slice none 0 0) := (blk_cell BK544.out 2).trans rfl; have hfz70_0 := blk_frozen BK544.out 0; have hfz70_1 := blk_frozen BK544.out 1; have hfz70_2 := blk_frozen BK544.out 2; obtain ⟨Ao71, co71, eo71⟩ := Kd.R_slice HO543.out; subst eo71))
        (try simp only [Act.put, List.setIfInBounds_toArray, List.set_cons_zero, List.set_cons_succ])
        go_cut [99] (fun v99 wc => ∃ (kq : Nat) (x99_51 : Bool), v99 = .bool x99_51 ∧ Aside0 (laws_FnHeaders.j1 kq l0 t518 x99_51 t521 t522 t539 t540 t541 = some r) ∧ Aside0 (kq ≤ kj5) ∧ Aside0 (Kd.R k69 69 wc w.heap.size (fun k_ => some k_ ≠ ((.slice Ao12 t503.length co12) : Value).ownBlock ∧ some k_ ≠ ((.slice Ao71 t541.length co71) : Value).ownBlock) (.slice Ao54 t518.length co54) t518) ∧ Aside0 (Kd.R k69 69 wc w.heap.size (fun k_ => some k_ ≠ ((.slice Ao54 t518.length co54) : Value).ownBlock ∧ some k_ ≠ ((.slice Ao71 t541.length co71) : Value).ownBlock) (.slice Ao12 t503.length co12) t503) ∧ Aside0 (Kd.R (Kd.int .u8) 5 wc w.heap.size (fun _ => True) (.slice Ao59 t522.length co59) t522) ∧ Aside0 (Kd.R k69 69 wc w.heap.size (fun k_ => some k_ ≠ ((.slice Ao54 t518.length co54) : Value).ownBlock ∧ some k_ ≠ ((.slice Ao12 t503.length co12) : Value).ownBlock) (.slice Ao71 t541.length co71) t541) ∧ Aside0 (wc.heap[gb506]? = some (.cells #[.int .i64 t501, .int .i64 t502, (.slice Ao12 t503.length co12)] 61 (0, 0))) ∧ Aside0 (wc.heap[gb525]? = some (.cells #[.int .i64 t521, (.slice Ao59 t522.length co59)] 32 (0, 0))) ∧ Aside0 (wc.heap[gb544]? = some (.cells #[.int .i64 t539, .int .i64 t540, (.slice Ao71 t541.length co71)] 61 (0, 0))) ∧ Aside0 (Below w.heap.size w wc))
        case first =>
         have H := HC52.out
         clear HC52
         by_cases c72 : (t522.length : Int) < 400
         ·rw [if_pos c72] at H
          have c72b0 : decide ((t522.length : Int) < 400) = true := decide_eq_true c72
          have c72b1 : decide (t522.length < 400) = true := decide_eq_true (by omega)
          clear c72
          have HQ_ := Aside0.mk H
          clear H
          (first | rw [c72b0] | (simp only [i64_w, i32_w]; rw [c72b0]) | skip)
          have hnb75 := NB525_506.out
          have hnc75 := NB506_525.out
          have hnb76 := NB525_544.out
          have hnc76 := NB544_525.out
          have hcz77_0 : w67.cell? ⟨gb525, 0, none⟩ = some (.int .i64 t521) := (blk_cell BK525.out 0).trans rfl
          have hcz77_1 : w67.cell? ⟨gb525, 1, none⟩ = some (.slice Ao59 t522.length co59) := (blk_cell BK525.out 1).trans rfl
          have hfz77_0 := blk_frozen BK525.out 0
          have hfz77_1 := blk_frozen BK525.out 1
          have hnb78 := NB544_506.out
          have hnc78 := NB506_544.out
          have hcz79_0 : w67.cell? ⟨gb544, 0, none⟩ = some (.int .i64 0) := (blk_cell BK544.out 0).trans rfl
          have hcz79_1 : w67.cell? ⟨gb544, 1, none⟩ = some (.int .i64 0) := (blk_cell BK544.out 1).trans rfl
          have hcz79_2 : w67.cell? ⟨gb544, 2, none⟩ = some (.slice none 0 0) := (blk_cell BK544.out 2).trans rfl
          have hfz79_0 := blk_frozen BK544.out 0
          have hfz79_1 := blk_frozen BK544.out 1
          have hfz79_2 := blk_frozen BK544.out 2
          have H := HQ_.out
          clear HQ_
          by_cases c73 : t539 = 0
          ·rw [if_pos c73] at H
           have c73b0 : (t539 == 0) = true := beq_iff_eq.mpr c73
           have c73b1 : (t539 != 0) = false := bne_eq_false_iff_eq.mpr c73
           clear c73
           (try simp only [c73b0, c73b1])
           by_cases c74 : t540 = (t522.length : Int)
           ·rw [if_pos c74] at H
            have c74b0 : (t540 == (t522.length : Int)) = true := beq_iff_eq.mpr c74
            have c74b1 : (t540 != (t522.length : Int)) = false := bne_eq_false_iff_eq.mpr c74
            clear c74
            have H' := Aside0.mk H
            clear H
            (try simp only [c74b0, c74b1])
            go_wp2
            go_meet
            case rel => exact ⟨_, (((t541.length : Int) != (t518.length : Int))), bS, H', ⟨z46 HJ5.out⟩, ⟨z13 HO520.out BK544.out⟩, ⟨z13 HO_507002.out BK544.out⟩, ⟨z24 HO524.out BK544.out⟩, ⟨z22 HO543.out BK544.out⟩, ⟨z10 NB506_544.out BK506.out⟩, ⟨z10 NB525_544.out BK525.out⟩, ⟨z16 BK544.out⟩, ⟨z12 GE506.out GE525.out GE544.out⟩⟩
           ·rw [if_neg c74] at H
            have c74b0 : (t540 == (t522.length : Int)) = false := beq_eq_false_iff_ne.mpr c74
            have c74b1 : (t540 != (t522.length : Int)) = true := bne_iff_ne.mpr c74
            have H' := Aside0.mk H
            clear H
            (try simp only [c74b0, c74b1])
            go_wp2
            go_meet
            case rel => exact ⟨_, (true), bS, H', ⟨z46 HJ5.out⟩, ⟨z13 HO520.out BK544.out⟩, ⟨z13 HO_507002.out BK544.out⟩, ⟨z24 HO524.out BK544.out⟩, ⟨z22 HO543.out BK544.out⟩, ⟨z10 NB506_544.out BK506.out⟩, ⟨z10 NB525_544.out BK525.out⟩, ⟨z16 BK544.out⟩, ⟨z12 GE506.out GE525.out GE544.out⟩⟩
          ·rw [if_neg c73] at H
           have c73b0 : (t539 == 0) = false := beq_eq_false_iff_ne.mpr c73
           have c73b1 : (t539 != 0) = true := bne_iff_ne.mpr c73
           have H' := Aside0.mk H
           clear H
           (try simp only [c73b0, c73b1])
           go_wp2
           go_meet
           case rel => exact ⟨_, (true), bS, H', ⟨z46 HJ5.out⟩, ⟨z13 HO520.out BK544.out⟩, ⟨z13 HO_507002.out BK544.out⟩, ⟨z24 HO524.out BK544.out⟩, ⟨z22 HO543.out BK544.out⟩, ⟨z10 NB506_544.out BK506.out⟩, ⟨z10 NB525_544.out BK525.out⟩, ⟨z16 BK544.out⟩, ⟨z12 GE506.out GE525.out GE544.out⟩⟩
         ·rw [if_neg c72] at H
          have c72b0 : decide ((t522.length : Int) < 400) = false := decide_eq_false c72
          have c72b1 : decide (t522.length < 400) = false := decide_eq_false (by omega)
          clear c72
          (first | rw [c72b0] | (simp only [i64_w, i32_w]; rw [c72b0]) | skip)
          have H' := Aside0.mk H
          clear H
          have hnb90 := NB525_506.out
          have hnc90 := NB506_525.out
          have hnb91 := NB525_544.out
          have hnc91 := NB544_525.out
          have hcz92_0 : w67.cell? ⟨gb525, 0, none⟩ = some (.int .i64 t521) := (blk_cell BK525.out 0).trans rfl
          have hcz92_1 : w67.cell? ⟨gb525, 1, none⟩ = some (.slice Ao59 t522.length co59) := (blk_cell BK525.out 1).trans rfl
          have hfz92_0 := blk_frozen BK525.out 0
          have hfz92_1 := blk_frozen BK525.out 1
          go_wp2
          go_meet
          case rel => exact ⟨_, (false), bS, H', ⟨z46 HJ5.out⟩, ⟨z13 HO520.out BK544.out⟩, ⟨z13 HO_507002.out BK544.out⟩, ⟨z24 HO524.out BK544.out⟩, ⟨z22 HO543.out BK544.out⟩, ⟨z10 NB506_544.out BK506.out⟩, ⟨z10 NB525_544.out BK525.out⟩, ⟨z16 BK544.out⟩, ⟨z12 GE506.out GE525.out GE544.out⟩⟩
        case rest =>
         clear HC52
         try clear c1
         try clear p2
         try clear c3
         try clear c4
         try clear c5
         try clear c6
         try clear c7
         try clear c8
         try clear c9
         try clear c14
         try clear c14b0
         try clear c14b1
         try clear c16
         try clear c16b0
         try clear c16b1
         try clear c32
         try clear c41
         try clear c43
         try clear c45
         try clear c48
         try clear c48b0
         try clear c48b1
         try clear c49
         try clear c50
         try clear c57
         try clear c68
         try clear c69
         try clear c72
         try clear c72b0
         try clear c72b1
         try clear c73
         try clear c73b0
         try clear c73b1
         try clear c74
         try clear c74b0
         try clear c74b1
         try clear c75
         try clear c76
         try clear c78
         try clear c80
         try clear c81
         try clear c83
         try clear c85
         try clear c86
         try clear c88
         try clear c90
         try clear c91
         try clear hcz58_0
         try clear hcz58_1
         try clear hcz62_0
         try clear hcz62_1
         try clear hcz70_0
         try clear hcz70_1
         try clear hcz70_2
         try clear hcz77_0
         try clear hcz77_1
         try clear hcz79_0
         try clear hcz79_1
         try clear hcz79_2
         try clear hcz82_0
         try clear hcz82_1
         try clear hcz84_0
         try clear hcz84_1
         try clear hcz84_2
         try clear hcz87_0
         try clear hcz87_1
         try clear hcz89_0
         try clear hcz89_1
         try clear hcz89_2
         try clear hcz92_0
         try clear hcz92_1
         try clear hfz58_0
         try clear hfz58_1
         try clear hfz62_0
         try clear hfz62_1
         try clear hfz70_0
         try clear hfz70_1
         try clear hfz70_2
         try clear hfz77_0
         try clear hfz77_1
         try clear hfz79_0
         try clear hfz79_1
         try clear hfz79_2
         try clear hfz82_0
         try clear hfz82_1
         try clear hfz84_0
         try clear hfz84_1
         try clear hfz84_2
         try clear hfz87_0
         try clear hfz87_1
         try clear hfz89_0
         try clear hfz89_1
         try clear hfz89_2
         try clear hfz92_0
         try clear hfz92_1
         try clear p2
         obtain ⟨kq, x99_51, rfl, HA, HJ51, HO_5, HO_507002, HO_526001, HO_545002, BK506, BK525, BK544, HB⟩ := hcut
         cases kq with
         | zero => exact absurd HA.out (by simp [laws_FnHeaders.j1])
         | succ kj51 =>
          have H := HA.out
          clear HA
          simp only [laws_FnHeaders.j1] at H
          by_cases c93 : x99_51 = true
          ·subst c93
           have H1 : (some false) = some r := z35
           clear H
           have H := H1
           clear H1
           obtain rfl := Option.some.inj H
           go_wp2
           go_ret
           exact ⟨bE, z12 GE506.out GE525.out GE544.out⟩
          ·replace c93 := Bool.eq_false_iff.mpr c93
           subst c93
           have H1 : (laws_FnHeaders.l0 kj51 l0 t518 0 t521 t522 t539 t540 t541) = some r := z23
           clear H
           have H := H1
           clear H1
           have H' := Aside0.mk H
           clear H
           go_wp2
           go_loopg [8] kj51 (fun kq v8 w' => ∃ (x8_3 : Int), v8 = .int .i64 x8_3 ∧ Aside0 (laws_FnHeaders.l0 kq l0 t518 x8_3 t521 t522 t539 t540 t541 = some r) ∧ Aside0 (kq ≤ kj51) ∧ Aside0 (Kd.R k69 69 w' w.heap.size (fun k_ => some k_ ≠ ((.slice Ao12 t503.length co12) : Value).ownBlock ∧ some k_ ≠ ((.slice Ao71 t541.length co71) : Value).ownBlock) (.slice Ao54 t518.length co54) t518) ∧ Aside0 (Kd.R k69 69 w' w.heap.size (fun k_ => some k_ ≠ ((.slice Ao54 t518.length co54) : Value).ownBlock ∧ some k_ ≠ ((.slice Ao71 t541.length co71) : Value).ownBlock) (.slice Ao12 t503.length co12) t503) ∧ Aside0 (Kd.R (Kd.int .u8) 5 w' w.heap.size (fun _ => True) (.slice Ao59 t522.length co59) t522) ∧ Aside0 (Kd.R k69 69 w' w.heap.size (fun k_ => some k_ ≠ ((.slice Ao54 t518.length co54) : Value).ownBlock ∧ some k_ ≠ ((.slice Ao12 t503.length co12) : Value).ownBlock) (.slice Ao71 t541.length co71) t541) ∧ Aside0 (w'.heap[gb506]? = some (.cells #[.int .i64 t501, .int .i64 t502, (.slice Ao12 t503.length co12)] 61 (0, 0))) ∧ Aside0 (w'.heap[gb525]? = some (.cells #[.int .i64 t521, (.slice Ao59 t522.length co59)] 32 (0, 0))) ∧ Aside0 (w'.heap[gb544]? = some (.cells #[.int .i64 t539, .int .i64 t540, (.slice Ao71 t541.length co71)] 61 (0, 0))) ∧ Aside0 (Below w.heap.size w w'))
           case atStart => exact ⟨(0), bS, H', ⟨Nat.le_refl _⟩, ⟨bR HO_5⟩, ⟨bR HO_507002⟩, ⟨bR HO_526001⟩, ⟨bR HO_545002⟩, ⟨bL BK506⟩, ⟨bL BK525⟩, ⟨bL BK544⟩, ⟨z12 GE506.out GE525.out GE544.out⟩⟩
           case round =>
            clear H'
            try clear c1
            try clear p2
            try clear c3
            try clear c4
            try clear c5
            try clear c6
            try clear c7
            try clear c8
            try clear c9
            try clear c14
            try clear c14b0
            try clear c14b1
            try clear c16
            try clear c16b0
            try clear c16b1
            try clear c32
            try clear c41
            try clear c43
            try clear c45
            try clear c48
            try clear c48b0
            try clear c48b1
            try clear c49
            try clear c50
            try clear c57
            try clear c68
            try clear c69
            try clear c72
            try clear c72b0
            try clear c72b1
            try clear c73
            try clear c73b0
            try clear c73b1
            try clear c74
            try clear c74b0
            try clear c74b1
            try clear c75
            try clear c76
            try clear c78
            try clear c80
            try clear c81
            try clear c83
            try clear c85
            try clear c86
            try clear c88
            try clear c90
            try clear c91
            try clear c93
            try clear hcz58_0
            try clear hcz58_1
            try clear hcz62_0
            try clear hcz62_1
            try clear hcz70_0
            try clear hcz70_1
            try clear hcz70_2
            try clear hcz77_0
            try clear hcz77_1
            try clear hcz79_0
            try clear hcz79_1
            try clear hcz79_2
            try clear hcz82_0
            try clear hcz82_1
            try clear hcz84_0
            try clear hcz84_1
            try clear hcz84_2
            try clear hcz87_0
            try clear hcz87_1
            try clear hcz89_0
            try clear hcz89_1
            try clear hcz89_2
            try clear hcz92_0
            try clear hcz92_1
            try clear hfz58_0
            try clear hfz58_1
            try clear hfz62_0
            try clear hfz62_1
            try clear hfz70_0
            try clear hfz70_1
            try clear hfz70_2
            try clear hfz77_0
            try clear hfz77_1
            try clear hfz79_0
            try clear hfz79_1
            try clear hfz79_2
            try clear hfz82_0
            try clear hfz82_1
            try clear hfz84_0
            try clear hfz84_1
            try clear hfz84_2
            try clear hfz87_0
            try clear hfz87_1
            try clear hfz89_0
            try clear hfz89_1
            try clear hfz89_2
            try clear hfz92_0
            try clear hfz92_1
            try clear p2
            obtain ⟨x8_3, rfl, HA, HK3, HO_5, HO_507002, HO_526001, HO_545002, BK506, BK525, BK544, HB⟩ := hrel
            cases gk with
            | zero => exact absurd HA.out (by simp [laws_FnHeaders.l0])
            | succ k3 =>
             have H := HA.out
             clear HA
             simp only [laws_FnHeaders.l0] at H
             have HC94 := Aside0.mk H
             clear H
             go_upto_region 15 with (fail)
             go_cut [109] (fun v109 wc => ∃ (kq : Nat) (x109_93 : Bool), v109 = .bool x109_93 ∧ Aside0 (laws_FnHeaders.j3 kq l0 t518 x8_3 x109_93 t521 t522 t539 t540 t541 = some r) ∧ Aside0 (kq ≤ k3) ∧ Aside0 (Kd.R k69 69 wc w.heap.size (fun k_ => some k_ ≠ ((.slice Ao12 t503.length co12) : Value).ownBlock ∧ some k_ ≠ ((.slice Ao71 t541.length co71) : Value).ownBlock) (.slice Ao54 t518.length co54) t518) ∧ Aside0 (Kd.R k69 69 wc w.heap.size (fun k_ => some k_ ≠ ((.slice Ao54 t518.length co54) : Value).ownBlock ∧ some k_ ≠ ((.slice Ao71 t541.length co71) : Value).ownBlock) (.slice Ao12 t503.length co12) t503) ∧ Aside0 (Kd.R (Kd.int .u8) 5 wc w.heap.size (fun _ => True) (.slice Ao59 t522.length co59) t522) ∧ Aside0 (Kd.R k69 69 wc w.heap.size (fun k_ => some k_ ≠ ((.slice Ao54 t518.length co54) : Value).ownBlock ∧ some k_ ≠ ((.slice Ao12 t503.length co12) : Value).ownBlock) (.slice Ao71 t541.length co71) t541) ∧ Aside0 (wc.heap[gb506]? = some (.cells #[.int .i64 t501, .int .i64 t502, (.slice Ao12 t503.length co12)] 61 (0, 0))) ∧ Aside0 (wc.heap[gb525]? = some (.cells #[.int .i64 t521, (.slice Ao59 t522.length co59)] 32 (0, 0))) ∧ Aside0 (wc.heap[gb544]? = some (.cells #[.int .i64 t539, .int .i64 t540, (.slice Ao71 t541.length co71)] 61 (0, 0))) ∧ Aside0 (Below w.heap.size w wc))
             case first =>
              have H := HC94.out
              clear HC94
              by_cases c95 : x8_3 < (t518.length : Int)
              ·rw [if_pos c95] at H
               have c95b0 : decide (x8_3 < (t518.length : Int)) = true := decide_eq_true c95
               clear c95
               (first | rw [c95b0] | (simp only [i64_w, i32_w]; rw [c95b0]) | skip)
               have H' := Aside0.mk H
               clear H
               have hnb96 := NB525_506.out
               have hnc96 := NB506_525.out
               have hnb97 := NB525_544.out
               have hnc97 := NB544_525.out
               have hcz98_0 : wr.cell? ⟨gb525, 0, none⟩ = some (.int .i64 t521) := (blk_cell BK525.out 0).trans rfl
               have hcz98_1 : wr.cell? ⟨gb525, 1, none⟩ = some (.slice Ao59 t522.length co59) := (blk_cell BK525.out 1).trans rfl
               have hfz98_0 := blk_frozen BK525.out 0
               have hfz98_1 := blk_frozen BK525.out 1
               go_wp2
               go_meet
               case rel => exact ⟨_, (decide ((t522.length : Int) < 400)), bS, H', ⟨by have := HJ5.out; have := HJ51.out; have := HK3.out; first | omega | exact Nat.le_refl _⟩, ⟨bR HO_5⟩, ⟨bR HO_507002⟩, ⟨bR HO_526001⟩, ⟨bR HO_545002⟩, ⟨bL BK506⟩, ⟨bL BK525⟩, ⟨bL BK544⟩, ⟨z12 GE506.out GE525.out GE544.out⟩⟩
              ·rw [if_neg c95] at H
               have c95b0 : decide (x8_3 < (t518.length : Int)) = false := decide_eq_false c95
               clear c95
               (first | rw [c95b0] | (simp only [i64_w, i32_w]; rw [c95b0]) | skip)
               have H' := Aside0.mk H
               clear H
               go_wp2
               go_meet
               case rel => exact ⟨_, (false), bS, H', ⟨by have := HJ5.out; have := HJ51.out; have := HK3.out; first | omega | exact Nat.le_refl _⟩, ⟨bR HO_5⟩, ⟨bR HO_507002⟩, ⟨bR HO_526001⟩, ⟨bR HO_545002⟩, ⟨bL BK506⟩, ⟨bL BK525⟩, ⟨bL BK544⟩, ⟨z12 GE506.out GE525.out GE544.out⟩⟩
             case rest =>
              clear HC94
              try clear c1
              try clear p2
              try clear c3
              try clear c4
              try clear c5
              try clear c6
              try clear c7
              try clear c8
              try clear c9
              try clear c14
              try clear c14b0
              try clear c14b1
              try clear c16
              try clear c16b0
              try clear c16b1
              try clear c32
              try clear c41
              try clear c43
              try clear c45
              try clear c48
              try clear c48b0
              try clear c48b1
              try clear c49
              try clear c50
              try clear c57
              try clear c68
              try clear c69
              try clear c72
              try clear c72b0
              try clear c72b1
              try clear c73
              try clear c73b0
              try clear c73b1
              try clear c74
              try clear c74b0
              try clear c74b1
              try clear c75
              try clear c76
              try clear c78
              try clear c80
              try clear c81
              try clear c83
              try clear c85
              try clear c86
              try clear c88
              try clear c90
              try clear c91
              try clear c93
              try clear c95
              try clear c95b0
              try clear c96
              try clear c97
              try clear hcz58_0
              try clear hcz58_1
              try clear hcz62_0
              try clear hcz62_1
              try clear hcz70_0
              try clear hcz70_1
              try clear hcz70_2
              try clear hcz77_0
              try clear hcz77_1
              try clear hcz79_0
              try clear hcz79_1
              try clear hcz79_2
              try clear hcz82_0
              try clear hcz82_1
              try clear hcz84_0
              try clear hcz84_1
              try clear hcz84_2
              try clear hcz87_0
              try clear hcz87_1
              try clear hcz89_0
              try clear hcz89_1
              try clear hcz89_2
              try clear hcz92_0
              try clear hcz92_1
              try clear hcz98_0
              try clear hcz98_1
              try clear hfz58_0
              try clear hfz58_1
              try clear hfz62_0
              try clear hfz62_1
              try clear hfz70_0
              try clear hfz70_1
              try clear hfz70_2
              try clear hfz77_0
              try clear hfz77_1
              try clear hfz79_0
              try clear hfz79_1
              try clear hfz79_2
              try clear hfz82_0
              try clear hfz82_1
              try clear hfz84_0
              try clear hfz84_1
              try clear hfz84_2
              try clear hfz87_0
              try clear hfz87_1
              try clear hfz89_0
              try clear hfz89_1
              try clear hfz89_2
              try clear hfz92_0
              try clear hfz92_1
              try clear hfz98_0
              try clear hfz98_1
              try clear p2
              obtain ⟨kq, x109_93, rfl, HA, HJ93, HO_5, HO_507002, HO_526001, HO_545002, BK506, BK525, BK544, HB⟩ := hcut
              cases kq with
              | zero => exact absurd HA.out (by simp [laws_FnHeaders.j3])
              | succ kj93 =>
               have H := HA.out
               clear HA
               simp only [laws_FnHeaders.j3] at H
               by_cases c99 : x109_93 = true
               ·subst c99
                have H1 : (if 0 ≤ x8_3 then (if x8_3 < (t541.length : Int) then (if x8_3 < (t518.length : Int) then (if (!((((rd_T69 t541 x8_3).f0).toList) == (((rd_T69 t518 x8_3).f0).toList)) || (!((((rd_T69 t541 x8_3).f1).toList) == (((rd_T69 t518 x8_3).f1).toList)))) = true then (some false) else ((impl_FieldOf.f kj93 t518 ((rd_T69 t518 x8_3).f0)).bind fun bt548 => (if bt548.1 = 0 then (laws_FnHeaders.l0 kj93 l0 t518 (wrap64 (x8_3 + 1)) t521 t522 t539 t540 t541) else (some false)))) else (none)) else (none)) else (none)) = some r := z35
                clear H
                have H := H1
                clear H1
                by_cases c100 : 0 ≤ x8_3
                ·rw [if_pos c100] at H
                 have c100b0 : decide (0 ≤ x8_3) = true := decide_eq_true c100
                 clear c100
                 by_cases c101 : x8_3 < (t541.length : Int)
                 ·rw [if_pos c101] at H
                  have c101b0 : decide (x8_3 < (t541.length : Int)) = true := decide_eq_true c101
                  clear c101
                  by_cases c102 : x8_3 < (t518.length : Int)
                  ·rw [if_pos c102] at H
                   have c102b0 : decide (x8_3 < (t518.length : Int)) = true := decide_eq_true c102
                   clear c102
                   by_cases c103 : (!((((rd_T69 t541 x8_3).f0).toList) == (((rd_T69 t518 x8_3).f0).toList)) || (!((((rd_T69 t541 x8_3).f1).toList) == (((rd_T69 t518 x8_3).f1).toList)))) = true
                   ·rw [if_pos c103] at H
                    have c103b0 : (!((((rd_T69 t541 x8_3).f0).toList) == (((rd_T69 t518 x8_3).f0).toList)) || (!((((rd_T69 t541 x8_3).f1).toList) == (((rd_T69 t518 x8_3).f1).toList)))) = true := c103
                    clear c103
                    obtain rfl := Option.some.inj H
                    try go_wp2
                    replace HO_5 := Aside0.mk (Kd.R_drew HO_5.out)
                    replace HO_507002 := Aside0.mk (Kd.R_drew HO_507002.out)
                    replace HO_526001 := Aside0.mk (Kd.R_drew HO_526001.out)
                    replace HO_545002 := Aside0.mk (Kd.R_drew HO_545002.out)
                    replace BK506 := Aside0.mk (blk_drew BK506.out)
                    replace BK525 := Aside0.mk (blk_drew BK525.out)
                    replace BK544 := Aside0.mk (blk_drew BK544.out)
                    replace HB := Aside0.mk (below_drew1 HB.out)
                    have p545 : 0 ≤ (x8_3 : Int) := pI
                    have q545 : x8_3 < (t541.length : Int) := pI
                    obtain ⟨ad545, e545, hx545_0, hx545_1⟩ := at_T69 (Kd.R_reads' HO_545002.out).2.2 x8_3 p545 q545
                    cases e545
                    replace p545 := eq_true p545
                    replace q545 := eq_true q545
                    have p546 : 0 ≤ (x8_3 : Int) := pI
                    have q546 : x8_3 < (t518.length : Int) := pI
                    obtain ⟨ad546, e546, hx546_0, hx546_1⟩ := at_T69 (Kd.R_reads' HO_5.out).2.2 x8_3 p546 q546
                    cases e546
                    replace p546 := eq_true p546
                    replace q546 := eq_true q546
                    refine start_ (n := 21) (S := fun w' => w'.cell? ⟨gb544, 0, none⟩ = some (.int .i64 t539) ∧ w'.cell? ⟨gb544, 1, none⟩ = some (.int .i64 t540) ∧ w'.cell? ⟨gb544, 2, none⟩ = some (.slice (some ad545) t541.length co71) ∧ w'.cell? (ad545.add ((x8_3).toNat * 2)) = some (.string ((rd_T69 t541 x8_3).f0)) ∧ w'.cell? ⟨(ad545.add ((x8_3).toNat * 2)).block, (ad545.add ((x8_3).toNat * 2)).off + 1, none⟩ = some (.string ((rd_T69 t541 x8_3).f1)) ∧ w'.cell? (ad546.add ((x8_3).toNat * 2)) = some (.string ((rd_T69 t518 x8_3).f0)) ∧ w'.cell? ⟨(ad546.add ((x8_3).toNat * 2)).block, (ad546.add ((x8_3).toNat * 2)).off + 1, none⟩ = some (.string ((rd_T69 t518 x8_3).f1))) (ds := []) (bsA 21 0) (by kernel_rfl) rfl rfl ⟨(blk_cell BK544.out 0).trans rfl, (blk_cell BK544.out 1).trans rfl, (blk_cell BK544.out 2).trans rfl, hx545_0, hx545_1, hx546_0, hx546_1⟩ (fun hHeld => ?_); refine with_tabW laws_FnHeaders.tab17 laws_FnHeaders.bits17 (fun HT_ HW_ => ?_)
                    generalize wc.drew = w104 at HO_5 HO_507002 HO_526001 HO_545002 BK506 BK525 BK544 HB hx545_0 hx545_1 hx546_0 hx546_1 hHeld ⊢
                    refine pa_ (i := 0) (N := some 112) (bsA 21 1) (h := ?_)
                    refine pa_ (i := 2) (N := some 114) (bsA 21 5) (h := ?_)
                    refine pa_ (i := 5) (N := some 117) (bsA 21 37) (h := ?_)
                    refine pa_ (i := 6) (N := some 118) (bsA 21 101) (h := ?_)
                    refine pa_ (i := 7) (N := some 119) (bsA 21 229) (h := ?_)
                    refine take_ (i := 1) (N := some 113) (v := ?_) (a' := ?_) (bsA 21 231) rfl rfl (take_ofW HT_.out HW_.out (by kernel_rfl)) (fun _ _ _ h => h) (Or.inl ⟨by rfl, ?_⟩) hHeld ?_ ?_
                    rotate_left
                    ·rintro w' ⟨s0, s1, s2, s3, s4, s5, s6⟩
                     go_simp
                     with_reducible rfl
                    rotate_left
                    ·simp only [Act.put, List.setIfInBounds_toArray, List.set_cons_zero, List.set_cons_succ, i64_w, i32_w]
                     rfl
                    refine pa_ (i := 3) (N := some 115) (bsA 21 239) (h := ?_)
                    refine take_ (i := 4) (N := some 116) (v := ?_) (a' := ?_) (bsA 21 255) rfl rfl (take_ofW HT_.out HW_.out (by kernel_rfl)) (fun _ _ _ h => h) (Or.inl ⟨by rfl, ?_⟩) hHeld ?_ ?_
                    rotate_left
                    ·rintro w' ⟨s0, s1, s2, s3, s4, s5, s6⟩
                     go_simp
                     with_reducible rfl
                    rotate_left
                    ·simp only [Act.put, List.setIfInBounds_toArray, List.set_cons_zero, List.set_cons_succ, i64_w, i32_w]
                     rfl
                    refine take_ (i := 8) (N := some 120) (v := ?_) (a' := ?_) (bsA 21 511) rfl rfl (take_ofW HT_.out HW_.out (by kernel_rfl)) (fun _ _ _ h => h) (Or.inl ⟨by rfl, ?_⟩) hHeld ?_ ?_
                    rotate_left
                    ·rintro w' ⟨s0, s1, s2, s3, s4, s5, s6⟩
                     go_simp
                     with_reducible rfl
                    rotate_left
                    ·simp only [Act.put, List.setIfInBounds_toArray, List.set_cons_zero, List.set_cons_succ, i64_w, i32_w]
                     rfl
                    refine pa_ (i := 9) (N := some 121) (bsA 21 1023) (h := ?_)
                    refine pa_ (i := 10) (N := some 122) (bsA 21 2047) (h := ?_)
                    refine pu_ (i := 11) (N := some 123) (bsA 21 4095) (h := ?_)
                    refine pu_ (i := 12) (N := some 124) (bsA 21 8191) (h := ?_)
                    refine pu_ (i := 13) (N := some 125) (bsA 21 16383) (h := ?_)
                    refine pu_ (i := 14) (N := some 126) (bsA 21 32767) (h := ?_)
                    refine pu_ (i := 15) (N := some 127) (bsA 21 65535) (h := ?_)
                    refine pu_ (i := 16) (N := some 128) (bsA 21 131071) (h := ?_)
                    refine pu_ (i := 17) (N := some 129) (bsA 21 262143) (h := ?_)
                    refine pu_ (i := 18) (N := some 130) (bsA 21 524287) (h := ?_)
                    refine pu_ (i := 19) (N := some 131) (bsA 21 1048575) (h := ?_)
                    refine pa_ (i := 20) (N := some 132) (bsA 21 2097151) (h := ?_)
                    refine done_ (done_of HT_.out (by kernel_rfl)) ?_
                    try go_wp2
                    go_ret
                    exact ⟨bE, z12 GE506.out GE525.out GE544.out⟩
                   ·rw [if_neg c103] at H
                    have c103b0 : (!((((rd_T69 t541 x8_3).f0).toList) == (((rd_T69 t518 x8_3).f0).toList)) || (!((((rd_T69 t541 x8_3).f1).toList) == (((rd_T69 t518 x8_3).f1).toList)))) = false := by simpa using c103
                    clear c103
                    replace H := Option.bind_eq_some_iff.mp H
                    obtain ⟨⟨t548, t549⟩, A1050, H⟩ := H
                    replace H : (if t548 = 0 then (laws_FnHeaders.l0 kj93 l0 t518 (wrap64 (x8_3 + 1)) t521 t522 t539 t540 t541) else (some false)) = some r := H
                    have A105 := Aside0.mk A1050
                    clear A1050
                    by_cases c106 : t548 = 0
                    ·rw [if_pos c106] at H
                     have c106b0 : (t548 == 0) = true := beq_iff_eq.mpr c106
                     have c106b1 : (t548 != 0) = false := bne_eq_false_iff_eq.mpr c106
                     clear c106
                     have H' := Aside0.mk H
                     clear H
                     try go_wp2
                     replace HO_5 := Aside0.mk (Kd.R_drew HO_5.out)
                     replace HO_507002 := Aside0.mk (Kd.R_drew HO_507002.out)
                     replace HO_526001 := Aside0.mk (Kd.R_drew HO_526001.out)
                     replace HO_545002 := Aside0.mk (Kd.R_drew HO_545002.out)
                     replace BK506 := Aside0.mk (blk_drew BK506.out)
                     replace BK525 := Aside0.mk (blk_drew BK525.out)
                     replace BK544 := Aside0.mk (blk_drew BK544.out)
                     replace HB := Aside0.mk (below_drew1 HB.out)
                     have p545 : 0 ≤ (x8_3 : Int) := pI
                     have q545 : x8_3 < (t541.length : Int) := pI
                     obtain ⟨ad545, e545, hx545_0, hx545_1⟩ := at_T69 (Kd.R_reads' HO_545002.out).2.2 x8_3 p545 q545
                     cases e545
                     replace p545 := eq_true p545
                     replace q545 := eq_true q545
                     have p546 : 0 ≤ (x8_3 : Int) := pI
                     have q546 : x8_3 < (t518.length : Int) := pI
                     obtain ⟨ad546, e546, hx546_0, hx546_1⟩ := at_T69 (Kd.R_reads' HO_5.out).2.2 x8_3 p546 q546
                     cases e546
                     replace p546 := eq_true p546
                     replace q546 := eq_true q546
                     have p547 : 0 ≤ (x8_3 : Int) := pI
                     have q547 : x8_3 < (t518.length : Int) := pI
                     obtain ⟨ad547, e547, hx547_0, hx547_1⟩ := at_T69 (Kd.R_reads' HO_5.out).2.2 x8_3 p547 q547
                     obtain rfl : ad546 = ad547 := (by injection e547)
                     replace p547 := eq_true p547
                     replace q547 := eq_true q547
                     refine start_ (n := 21) (S := fun w' => w'.cell? ⟨gb544, 0, none⟩ = some (.int .i64 t539) ∧ w'.cell? ⟨gb544, 1, none⟩ = some (.int .i64 t540) ∧ w'.cell? ⟨gb544, 2, none⟩ = some (.slice (some ad545) t541.length co71) ∧ w'.cell? (ad545.add ((x8_3).toNat * 2)) = some (.string ((rd_T69 t541 x8_3).f0)) ∧ w'.cell? ⟨(ad545.add ((x8_3).toNat * 2)).block, (ad545.add ((x8_3).toNat * 2)).off + 1, none⟩ = some (.string ((rd_T69 t541 x8_3).f1)) ∧ w'.cell? (ad546.add ((x8_3).toNat * 2)) = some (.string ((rd_T69 t518 x8_3).f0)) ∧ w'.cell? ⟨(ad546.add ((x8_3).toNat * 2)).block, (ad546.add ((x8_3).toNat * 2)).off + 1, none⟩ = some (.string ((rd_T69 t518 x8_3).f1)) ∧ w'.cell? (ad546.add ((x8_3).toNat * 2)) = some (.string ((rd_T69 t518 x8_3).f0)) ∧ w'.cell? ⟨(ad546.add ((x8_3).toNat * 2)).block, (ad546.add ((x8_3).toNat * 2)).off + 1, none⟩ = some (.string ((rd_T69 t518 x8_3).f1))) (ds := []) (bsA 21 0) (by kernel_rfl) rfl rfl ⟨(blk_cell BK544.out 0).trans rfl, (blk_cell BK544.out 1).trans rfl, (blk_cell BK544.out 2).trans rfl, hx545_0, hx545_1, hx546_0, hx546_1, hx547_0, hx547_1⟩ (fun hHeld => ?_); refine with_tabW laws_FnHeaders.tab17 laws_FnHeaders.bits17 (fun HT_ HW_ => ?_)
                     generalize wc.drew = w107 at HO_5 HO_507002 HO_526001 HO_545002 BK506 BK525 BK544 HB hx545_0 hx545_1 hx546_0 hx546_1 hx547_0 hx547_1 hHeld ⊢
                     refine pa_ (i := 0) (N := some 112) (bsA 21 1) (h := ?_)
                     refine pa_ (i := 2) (N := some 114) (bsA 21 5) (h := ?_)
                     refine pa_ (i := 5) (N := some 117) (bsA 21 37) (h := ?_)
                     refine pa_ (i := 6) (N := some 118) (bsA 21 101) (h := ?_)
                     refine pa_ (i := 7) (N := some 119) (bsA 21 229) (h := ?_)
                     refine take_ (i := 1) (N := some 113) (v := ?_) (a' := ?_) (bsA 21 231) rfl rfl (take_ofW HT_.out HW_.out (by kernel_rfl)) (fun _ _ _ h => h) (Or.inl ⟨by rfl, ?_⟩) hHeld ?_ ?_
                     rotate_left
                     ·rintro w' ⟨s0, s1, s2, s3, s4, s5, s6, s7, s8⟩
                      go_simp
                      with_reducible rfl
                     rotate_left
                     ·simp only [Act.put, List.setIfInBounds_toArray, List.set_cons_zero, List.set_cons_succ, i64_w, i32_w]
                      rfl
                     refine pa_ (i := 3) (N := some 115) (bsA 21 239) (h := ?_)
                     refine take_ (i := 4) (N := some 116) (v := ?_) (a' := ?_) (bsA 21 255) rfl rfl (take_ofW HT_.out HW_.out (by kernel_rfl)) (fun _ _ _ h => h) (Or.inl ⟨by rfl, ?_⟩) hHeld ?_ ?_
                     rotate_left
                     ·rintro w' ⟨s0, s1, s2, s3, s4, s5, s6, s7, s8⟩
                      go_simp
                      with_reducible rfl
                     rotate_left
                     ·simp only [Act.put, List.setIfInBounds_toArray, List.set_cons_zero, List.set_cons_succ, i64_w, i32_w]
                      rfl
                     refine take_ (i := 8) (N := some 120) (v := ?_) (a' := ?_) (bsA 21 511) rfl rfl (take_ofW HT_.out HW_.out (by kernel_rfl)) (fun _ _ _ h => h) (Or.inl ⟨by rfl, ?_⟩) hHeld ?_ ?_
                     rotate_left
                     ·rintro w' ⟨s0, s1, s2, s3, s4, s5, s6, s7, s8⟩
                      go_simp
                      with_reducible rfl
                     rotate_left
                     ·simp only [Act.put, List.setIfInBounds_toArray, List.set_cons_zero, List.set_cons_succ, i64_w, i32_w]
                      rfl
                     refine pa_ (i := 9) (N := some 121) (bsA 21 1023) (h := ?_)
                     refine pa_ (i := 10) (N := some 122) (bsA 21 2047) (h := ?_)
                     refine pa_ (i := 11) (N := some 123) (bsA 21 4095) (h := ?_)
                     refine pa_ (i := 12) (N := some 124) (bsA 21 8191) (h := ?_)
                     refine pa_ (i := 13) (N := some 125) (bsA 21 16383) (h := ?_)
                     refine pa_ (i := 14) (N := some 126) (bsA 21 32767) (h := ?_)
                     refine pa_ (i := 15) (N := some 127) (bsA 21 65535) (h := ?_)
                     refine take_ (i := 16) (N := some 128) (v := ?_) (a' := ?_) (bsA 21 131071) rfl rfl (take_ofW HT_.out HW_.out (by kernel_rfl)) (fun _ _ _ h => h) (Or.inl ⟨by rfl, ?_⟩) hHeld ?_ ?_
                     rotate_left
                     ·rintro w' ⟨s0, s1, s2, s3, s4, s5, s6, s7, s8⟩
                      go_simp
                      with_reducible rfl
                     rotate_left
                     ·simp only [Act.put, List.setIfInBounds_toArray, List.set_cons_zero, List.set_cons_succ, i64_w, i32_w]
                      rfl
                     refine one_ (i := 17) (N := some 129) (bsA 21 262143) rfl rfl (one_of HT_.out (by kernel_rfl)) (by decide) (fun K hK => ?_)
                     refine goes_ Try.func29 (by kernel_rfl) rfl #[.slice (some ad546) t518.length co54, .string ((rd_T69 t518 x8_3).f0)] (by rfl) rfl rfl bM ?_
                     with_reducible refine (impl_FieldOf.calls kj93 _ _ t518 ((rd_T69 t518 x8_3).f0) t548 t549 _ ?side1 ?side2 A105.out).mono ?_
                     (case side1 => exact z5 HO_5.out)
                     (case side2 => exact (Kd.R_reads' HO_5.out).2.1)
                     rintro e w108 ⟨rfl, hb⟩
                     have HS3_ := (hb.cell (World.block_lt_of_cell? _ _ (hHeld.2.2.2.1))).trans (hHeld.2.2.2.1)
                     have HS4_ := (hb.cell (World.block_lt_of_cell? _ _ (hHeld.2.2.2.2.1))).trans (hHeld.2.2.2.2.1)
                     have HS5_ := (hb.cell (World.block_lt_of_cell? _ _ (hHeld.2.2.2.2.2.1))).trans (hHeld.2.2.2.2.2.1)
                     have HS6_ := (hb.cell (World.block_lt_of_cell? _ _ (hHeld.2.2.2.2.2.2.1))).trans (hHeld.2.2.2.2.2.2.1)
                     have HS7_ := (hb.cell (World.block_lt_of_cell? _ _ (hHeld.2.2.2.2.2.2.2.1))).trans (hHeld.2.2.2.2.2.2.2.1)
                     have HS8_ := (hb.cell (World.block_lt_of_cell? _ _ (hHeld.2.2.2.2.2.2.2.2))).trans (hHeld.2.2.2.2.2.2.2.2)
                     refine ⟨_, rfl, ?_⟩
                     replace HO_5 := Aside0.mk (Kd.R_below (bR HO_5) hb)
                     replace HO_507002 := Aside0.mk (Kd.R_below (bR HO_507002) hb)
                     replace HO_526001 := Aside0.mk (Kd.R_below (bR HO_526001) hb)
                     replace HO_545002 := Aside0.mk (Kd.R_below (bR HO_545002) hb)
                     replace BK506 := Aside0.mk (blk_below (g := gb506) (o := .cells #[.int .i64 t501, .int .i64 t502, .slice Ao12 t503.length co12] 61 (0, 0)) (bL BK506) hb)
                     replace BK525 := Aside0.mk (blk_below (g := gb525) (o := .cells #[.int .i64 t521, .slice Ao59 t522.length co59] 32 (0, 0)) (bL BK525) hb)
                     replace BK544 := Aside0.mk (blk_below (g := gb544) (o := .cells #[.int .i64 t539, .int .i64 t540, .slice (some ad545) t541.length co71] 61 (0, 0)) (bL BK544) hb)
                     replace HB := Aside0.mk (below_step (z12 GE506.out GE525.out GE544.out) hb)
                     (try clear hb)
                     (try clear hb2)
                     (try clear hk)
                     (try clear hi)
                     refine hK.out _ _ ⟨(blk_cell BK544.out 0).trans rfl, (blk_cell BK544.out 1).trans rfl, (blk_cell BK544.out 2).trans rfl, HS3_, HS4_, HS5_, HS6_, HS7_, HS8_⟩ (fun hHeld => ?_)
                     clear hK K
                     refine na_ (N := some 129) (h := ?_)
                     refine pa_ (i := 18) (N := some 130) (bsA 21 524287) (h := ?_)
                     refine pa_ (i := 19) (N := some 131) (bsA 21 1048575) (h := ?_)
                     refine pa_ (i := 20) (N := some 132) (bsA 21 2097151) (h := ?_)
                     refine done_ (done_of HT_.out (by kernel_rfl)) ?_
                     try go_wp2
                     go_roundg kj93
                     case measure => have := HJ5.out; have := HJ51.out; have := HK3.out; have := HJ93.out; omega
                     case rel => exact ⟨(wrap64 (x8_3 + 1)), bS, H', ⟨by have := HJ5.out; have := HJ51.out; have := HK3.out; have := HJ93.out; omega⟩, ⟨bR HO_5⟩, ⟨bR HO_507002⟩, ⟨bR HO_526001⟩, ⟨bR HO_545002⟩, ⟨bL BK506⟩, ⟨bL BK525⟩, ⟨bL BK544⟩, ⟨z12 GE506.out GE525.out GE544.out⟩⟩
                    ·rw [if_neg c106] at H
                     have c106b0 : (t548 == 0) = false := beq_eq_false_iff_ne.mpr c106
                     have c106b1 : (t548 != 0) = true := bne_iff_ne.mpr c106
                     obtain rfl := Option.some.inj H
                     try go_wp2
                     replace HO_5 := Aside0.mk (Kd.R_drew HO_5.out)
                     replace HO_507002 := Aside0.mk (Kd.R_drew HO_507002.out)
                     replace HO_526001 := Aside0.mk (Kd.R_drew HO_526001.out)
                     replace HO_545002 := Aside0.mk (Kd.R_drew HO_545002.out)
                     replace BK506 := Aside0.mk (blk_drew BK506.out)
                     replace BK525 := Aside0.mk (blk_drew BK525.out)
                     replace BK544 := Aside0.mk (blk_drew BK544.out)
                     replace HB := Aside0.mk (below_drew1 HB.out)
                     have p545 : 0 ≤ (x8_3 : Int) := pI
                     have q545 : x8_3 < (t541.length : Int) := pI
                     obtain ⟨ad545, e545, hx545_0, hx545_1⟩ := at_T69 (Kd.R_reads' HO_545002.out).2.2 x8_3 p545 q545
                     cases e545
                     replace p545 := eq_true p545
                     replace q545 := eq_true q545
                     have p546 : 0 ≤ (x8_3 : Int) := pI
                     have q546 : x8_3 < (t518.length : Int) := pI
                     obtain ⟨ad546, e546, hx546_0, hx546_1⟩ := at_T69 (Kd.R_reads' HO_5.out).2.2 x8_3 p546 q546
                     cases e546
                     replace p546 := eq_true p546
                     replace q546 := eq_true q546
                     have p547 : 0 ≤ (x8_3 : Int) := pI
                     have q547 : x8_3 < (t518.length : Int) := pI
                     obtain ⟨ad547, e547, hx547_0, hx547_1⟩ := at_T69 (Kd.R_reads' HO_5.out).2.2 x8_3 p547 q547
                     obtain rfl : ad546 = ad547 := (by injection e547)
                     replace p547 := eq_true p547
                     replace q547 := eq_true q547
                     refine start_ (n := 21) (S := fun w' => w'.cell? ⟨gb544, 0, none⟩ = some (.int .i64 t539) ∧ w'.cell? ⟨gb544, 1, none⟩ = some (.int .i64 t540) ∧ w'.cell? ⟨gb544, 2, none⟩ = some (.slice (some ad545) t541.length co71) ∧ w'.cell? (ad545.add ((x8_3).toNat * 2)) = some (.string ((rd_T69 t541 x8_3).f0)) ∧ w'.cell? ⟨(ad545.add ((x8_3).toNat * 2)).block, (ad545.add ((x8_3).toNat * 2)).off + 1, none⟩ = some (.string ((rd_T69 t541 x8_3).f1)) ∧ w'.cell? (ad546.add ((x8_3).toNat * 2)) = some (.string ((rd_T69 t518 x8_3).f0)) ∧ w'.cell? ⟨(ad546.add ((x8_3).toNat * 2)).block, (ad546.add ((x8_3).toNat * 2)).off + 1, none⟩ = some (.string ((rd_T69 t518 x8_3).f1)) ∧ w'.cell? (ad546.add ((x8_3).toNat * 2)) = some (.string ((rd_T69 t518 x8_3).f0)) ∧ w'.cell? ⟨(ad546.add ((x8_3).toNat * 2)).block, (ad546.add ((x8_3).toNat * 2)).off + 1, none⟩ = some (.string ((rd_T69 t518 x8_3).f1))) (ds := []) (bsA 21 0) (by kernel_rfl) rfl rfl ⟨(blk_cell BK544.out 0).trans rfl, (blk_cell BK544.out 1).trans rfl, (blk_cell BK544.out 2).trans rfl, hx545_0, hx545_1, hx546_0, hx546_1, hx547_0, hx547_1⟩ (fun hHeld => ?_); refine with_tabW laws_FnHeaders.tab17 laws_FnHeaders.bits17 (fun HT_ HW_ => ?_)
                     generalize wc.drew = w109 at HO_5 HO_507002 HO_526001 HO_545002 BK506 BK525 BK544 HB hx545_0 hx545_1 hx546_0 hx546_1 hx547_0 hx547_1 hHeld ⊢
                     refine pa_ (i := 0) (N := some 112) (bsA 21 1) (h := ?_)
                     refine pa_ (i := 2) (N := some 114) (bsA 21 5) (h := ?_)
                     refine pa_ (i := 5) (N := some 117) (bsA 21 37) (h := ?_)
                     refine pa_ (i := 6) (N := some 118) (bsA 21 101) (h := ?_)
                     refine pa_ (i := 7) (N := some 119) (bsA 21 229) (h := ?_)
                     refine take_ (i := 1) (N := some 113) (v := ?_) (a' := ?_) (bsA 21 231) rfl rfl (take_ofW HT_.out HW_.out (by kernel_rfl)) (fun _ _ _ h => h) (Or.inl ⟨by rfl, ?_⟩) hHeld ?_ ?_
                     rotate_left
                     ·rintro w' ⟨s0, s1, s2, s3, s4, s5, s6, s7, s8⟩
                      go_simp
                      with_reducible rfl
                     rotate_left
                     ·simp only [Act.put, List.setIfInBounds_toArray, List.set_cons_zero, List.set_cons_succ, i64_w, i32_w]
                      rfl
                     refine pa_ (i := 3) (N := some 115) (bsA 21 239) (h := ?_)
                     refine take_ (i := 4) (N := some 116) (v := ?_) (a' := ?_) (bsA 21 255) rfl rfl (take_ofW HT_.out HW_.out (by kernel_rfl)) (fun _ _ _ h => h) (Or.inl ⟨by rfl, ?_⟩) hHeld ?_ ?_
                     rotate_left
                     ·rintro w' ⟨s0, s1, s2, s3, s4, s5, s6, s7, s8⟩
                      go_simp
                      with_reducible rfl
                     rotate_left
                     ·simp only [Act.put, List.setIfInBounds_toArray, List.set_cons_zero, List.set_cons_succ, i64_w, i32_w]
                      rfl
                     refine take_ (i := 8) (N := some 120) (v := ?_) (a' := ?_) (bsA 21 511) rfl rfl (take_ofW HT_.out HW_.out (by kernel_rfl)) (fun _ _ _ h => h) (Or.inl ⟨by rfl, ?_⟩) hHeld ?_ ?_
                     rotate_left
                     ·rintro w' ⟨s0, s1, s2, s3, s4, s5, s6, s7, s8⟩
                      go_simp
                      with_reducible rfl
                     rotate_left
                     ·simp only [Act.put, List.setIfInBounds_toArray, List.set_cons_zero, List.set_cons_succ, i64_w, i32_w]
                      rfl
                     refine pa_ (i := 9) (N := some 121) (bsA 21 1023) (h := ?_)
                     refine pa_ (i := 10) (N := some 122) (bsA 21 2047) (h := ?_)
                     refine pa_ (i := 11) (N := some 123) (bsA 21 4095) (h := ?_)
                     refine pa_ (i := 12) (N := some 124) (bsA 21 8191) (h := ?_)
                     refine pa_ (i := 13) (N := some 125) (bsA 21 16383) (h := ?_)
                     refine pa_ (i := 14) (N := some 126) (bsA 21 32767) (h := ?_)
                     refine pa_ (i := 15) (N := some 127) (bsA 21 65535) (h := ?_)
                     refine take_ (i := 16) (N := some 128) (v := ?_) (a' := ?_) (bsA 21 131071) rfl rfl (take_ofW HT_.out HW_.out (by kernel_rfl)) (fun _ _ _ h => h) (Or.inl ⟨by rfl, ?_⟩) hHeld ?_ ?_
                     rotate_left
                     ·rintro w' ⟨s0, s1, s2, s3, s4, s5, s6, s7, s8⟩
                      go_simp
                      with_reducible rfl
                     rotate_left
                     ·simp only [Act.put, List.setIfInBounds_toArray, List.set_cons_zero, List.set_cons_succ, i64_w, i32_w]
                      rfl
                     refine one_ (i := 17) (N := some 129) (bsA 21 262143) rfl rfl (one_of HT_.out (by kernel_rfl)) (by decide) (fun K hK => ?_)
                     refine goes_ Try.func29 (by kernel_rfl) rfl #[.slice (some ad546) t518.length co54, .string ((rd_T69 t518 x8_3).f0)] (by rfl) rfl rfl bM ?_
                     with_reducible refine (impl_FieldOf.calls kj93 _ _ t518 ((rd_T69 t518 x8_3).f0) t548 t549 _ ?side1 ?side2 A105.out).mono ?_
                     (case side1 => exact z5 HO_5.out)
                     (case side2 => exact (Kd.R_reads' HO_5.out).2.1)
                     rintro e w110 ⟨rfl, hb⟩
                     have HS3_ := (hb.cell (World.block_lt_of_cell? _ _ (hHeld.2.2.2.1))).trans (hHeld.2.2.2.1)
                     have HS4_ := (hb.cell (World.block_lt_of_cell? _ _ (hHeld.2.2.2.2.1))).trans (hHeld.2.2.2.2.1)
                     have HS5_ := (hb.cell (World.block_lt_of_cell? _ _ (hHeld.2.2.2.2.2.1))).trans (hHeld.2.2.2.2.2.1)
                     have HS6_ := (hb.cell (World.block_lt_of_cell? _ _ (hHeld.2.2.2.2.2.2.1))).trans (hHeld.2.2.2.2.2.2.1)
                     have HS7_ := (hb.cell (World.block_lt_of_cell? _ _ (hHeld.2.2.2.2.2.2.2.1))).trans (hHeld.2.2.2.2.2.2.2.1)
                     have HS8_ := (hb.cell (World.block_lt_of_cell? _ _ (hHeld.2.2.2.2.2.2.2.2))).trans (hHeld.2.2.2.2.2.2.2.2)
                     refine ⟨_, rfl, ?_⟩
                     replace HO_5 := Aside0.mk (Kd.R_below (bR HO_5) hb)
                     replace HO_507002 := Aside0.mk (Kd.R_below (bR HO_507002) hb)
                     replace HO_526001 := Aside0.mk (Kd.R_below (bR HO_526001) hb)
                     replace HO_545002 := Aside0.mk (Kd.R_below (bR HO_545002) hb)
                     replace BK506 := Aside0.mk (blk_below (g := gb506) (o := .cells #[.int .i64 t501, .int .i64 t502, .slice Ao12 t503.length co12] 61 (0, 0)) (bL BK506) hb)
                     replace BK525 := Aside0.mk (blk_below (g := gb525) (o := .cells #[.int .i64 t521, .slice Ao59 t522.length co59] 32 (0, 0)) (bL BK525) hb)
                     replace BK544 := Aside0.mk (blk_below (g := gb544) (o := .cells #[.int .i64 t539, .int .i64 t540, .slice (some ad545) t541.length co71] 61 (0, 0)) (bL BK544) hb)
                     replace HB := Aside0.mk (below_step (z12 GE506.out GE525.out GE544.out) hb)
                     (try clear hb)
                     (try clear hb2)
                     (try clear hk)
                     (try clear hi)
                     refine hK.out _ _ ⟨(blk_cell BK544.out 0).trans rfl, (blk_cell BK544.out 1).trans rfl, (blk_cell BK544.out 2).trans rfl, HS3_, HS4_, HS5_, HS6_, HS7_, HS8_⟩ (fun hHeld => ?_)
                     clear hK K
                     refine na_ (N := some 129) (h := ?_)
                     refine pa_ (i := 18) (N := some 130) (bsA 21 524287) (h := ?_)
                     refine pa_ (i := 19) (N := some 131) (bsA 21 1048575) (h := ?_)
                     refine pa_ (i := 20) (N := some 132) (bsA 21 2097151) (h := ?_)
                     refine done_ (done_of HT_.out (by kernel_rfl)) ?_
                     try go_wp2
                     go_ret
                     exact ⟨bE, z12 GE506.out GE525.out GE544.out⟩
                  ·rw [if_neg c102] at H
                   exact absurd H (by simp)
                 ·rw [if_neg c101] at H
                  exact absurd H (by simp)
                ·rw [if_neg c100] at H
                 exact absurd H (by simp)
               ·replace c99 := Bool.eq_false_iff.mpr c99
                subst c99
                have H1 : ((spec_DrawFieldOf.f kj93 l0).bind fun bt550 => ((impl_FieldOf.f kj93 bt550.1 bt550.2).bind fun bt554 => ((spec_FieldOf.f kj93 bt550.1 bt550.2).bind fun bt557 => (if bt554.1 = bt557.1 then ((spec_FieldOf.f kj93 bt550.1 bt550.2).bind fun bt559 => (if bt554.2.toList = bt559.2.toList then (some (decide ((t522.length : Int) > 0))) else (some false))) else (some false))))) = some r := z23
                clear H
                have H := H1
                clear H1
                replace H := Option.bind_eq_some_iff.mp H
                obtain ⟨⟨t550, t551⟩, A1110, H⟩ := H
                replace H : ((impl_FieldOf.f kj93 t550 t551).bind fun bt554 => ((spec_FieldOf.f kj93 t550 t551).bind fun bt557 => (if bt554.1 = bt557.1 then ((spec_FieldOf.f kj93 t550 t551).bind fun bt559 => (if bt554.2.toList = bt559.2.toList then (some (decide ((t522.length : Int) > 0))) else (some false))) else (some false)))) = some r := H
                have A111 := Aside0.mk A1110
                clear A1110
                replace H := Option.bind_eq_some_iff.mp H
                obtain ⟨⟨t554, t555⟩, A1120, H⟩ := H
                replace H : ((spec_FieldOf.f kj93 t550 t551).bind fun bt557 => (if t554 = bt557.1 then ((spec_FieldOf.f kj93 t550 t551).bind fun bt559 => (if t555.toList = bt559.2.toList then (some (decide ((t522.length : Int) > 0))) else (some false))) else (some false))) = some r := H
                have A112 := Aside0.mk A1120
                clear A1120
                replace H := Option.bind_eq_some_iff.mp H
                obtain ⟨⟨t557, t558⟩, A1130, H⟩ := H
                replace H : (if t554 = t557 then ((spec_FieldOf.f kj93 t550 t551).bind fun bt559 => (if t555.toList = bt559.2.toList then (some (decide ((t522.length : Int) > 0))) else (some false))) else (some false)) = some r := H
                have A113 := Aside0.mk A1130
                clear A1130
                have HQ_ := Aside0.mk H
                clear H
                try go_wp2_with (first | ((with_reducible refine gate_callee (f := 51) rfl ?_); refine goesL_ (some 135) rfl rfl Try.func51 (by kernel_rfl) rfl #[.slice A0 l0.length c0] rfl bM ?_; (with_reducible refine (spec_DrawFieldOf.calls kj93 _ _ l0 t550 t551 _ ?side1 ?side2 A111.out).mono ?_); (case side1 => exact z6 HR0.out); (case side2 => exact HC0.out); rintro e w117 ⟨v552, rfl, ho0, hb⟩; refine ⟨_, rfl, ?_⟩; replace HO_526001 := Aside0.mk (Kd.R_below (bR HO_526001) hb); have HO553 := Aside0.mk (Kd.R_lower (Kd.R_new' (Kd.R_new' (Kd.R_new' ho0 (Kd.R_lt (bR HO_5))) (Kd.R_lt (bR HO_507002))) (Kd.R_lt (bR HO_545002))) (below_size (z12 GE506.out GE525.out GE544.out))); replace HO_5 := Aside0.mk (Kd.R_elder' (bR HO_5) (Kd.R_base ho0) hb); replace HO_507002 := Aside0.mk (Kd.R_elder' (bR HO_507002) (Kd.R_base ho0) hb); replace HO_545002 := Aside0.mk (Kd.R_elder' (bR HO_545002) (Kd.R_base ho0) hb); replace BK506 := Aside0.mk (blk_below (g := gb506) (o := .cells #[.int .i64 t501, .int .i64 t502, .slice Ao12 t503.length co12] 61 (0, 0)) (bL BK506) hb); replace BK525 := Aside0.mk (blk_below (g := gb525) (o := .cells #[.int .i64 t521, .slice Ao59 t522.length co59] 32 (0, 0)) (bL BK525) hb); replace BK544 := Aside0.mk (blk_below (g := gb544) (o := .cells #[.int .i64 t539, .int .i64 t540, .slice Ao71 t541.length co71] 61 (0, 0)) (bL BK544) hb); replace HB := Aside0.mk (below_step (z12 GE506.out GE525.out GE544.out) hb); (try clear ho0); obtain ⟨Ao118, co118, eo118⟩ := Kd.R_slice HO553.out; subst eo118) | ((with_reducible refine gate_callee (f := 29) rfl ?_); refine goesL_ (some 140) rfl rfl Try.func29 (by kernel_rfl) rfl #[.slice Ao118 t550.length co118, .string t551] rfl bM ?_; (with_reducible refine (impl_FieldOf.calls kj93 _ _ t550 t551 t554 t555 _ ?side1 ?side2 A112.out).mono ?_); (case side1 => exact z5 HO553.out); (case side2 => exact (Kd.R_reads' HO553.out).2.1); rintro e w119 ⟨rfl, hb⟩; refine ⟨_, rfl, ?_⟩; replace HO_5 := Aside0.mk (Kd.R_below (bR HO_5) hb); replace HO_507002 := Aside0.mk (Kd.R_below (bR HO_507002) hb); replace HO_526001 := Aside0.mk (Kd.R_below (bR HO_526001) hb); replace HO_545002 := Aside0.mk (Kd.R_below (bR HO_545002) hb); replace HO553 := Aside0.mk (Kd.R_below (bR HO553) hb); replace BK506 := Aside0.mk (blk_below (g := gb506) (o := .cells #[.int .i64 t501, .int .i64 t502, .slice Ao12 t503.length co12] 61 (0, 0)) (bL BK506) hb); replace BK525 := Aside0.mk (blk_below (g := gb525) (o := .cells #[.int .i64 t521, .slice Ao59 t522.length co59] 32 (0, 0)) (bL BK525) hb); replace BK544 := Aside0.mk (blk_below (g := gb544) (o := .cells #[.int .i64 t539, .int .i64 t540, .slice Ao71 t541.length co71] 61 (0, 0)) (bL BK544) hb); replace HB := Aside0.mk (below_step (z12 GE506.out GE525.out GE544.out) hb); (try clear hi)) | ((with_reducible refine gate_dst (N := 11) rfl ?_); (try (refine gate_guard (by rfl) ?_; dsimp only)); refine box_event ?hg (N := 11) ?hd (cs := #[.int .i64 0, .string (⟨#[]⟩ : ByteArray)]) (t := 49) ?hr ?_; (case hd => rfl); (case hg => rfl); (case hr => exact z14); intro gb556 hg w120 hbox hb; replace HO_5 := Aside0.mk (Kd.R_below (bR HO_5) hb); replace HO_507002 := Aside0.mk (Kd.R_below (bR HO_507002) hb); replace HO_526001 := Aside0.mk (Kd.R_below (bR HO_526001) hb); replace HO_545002 := Aside0.mk (Kd.R_below (bR HO_545002) hb); replace HO553 := Aside0.mk (Kd.R_below (bR HO553) hb); have BK556 := Aside0.mk (hbox); have GW556 := Aside0.mk ((by rw [hg]; exact (below_size (z12 GE506.out GE525.out GE544.out)) : w.heap.size ≤ gb556)); have GE556 := Aside0.mk ((by rw [hg]; exact (below_size (z12 GE506.out GE525.out GE544.out)) : w.heap.size ≤ gb556)); replace HB := Aside0.mk (below_step (z12 GE506.out GE525.out GE544.out) hb); have NB506_556 := Aside0.mk ((z38 : gb506 ≠ gb556)); have NB556_506 := Aside0.mk ((z37 : gb556 ≠ gb506)); replace BK506 := Aside0.mk (blk_below (g := gb506) (o := .cells #[.int .i64 t501, .int .i64 t502, .slice Ao12 t503.length co12] 61 (0, 0)) (bL BK506) hb); have NB525_556 := Aside0.mk ((by rw [hg]; exact Nat.ne_of_lt (blk_lt (g := gb525) (o := .cells #[.int .i64 t521, .slice Ao59 t522.length co59] 32 (0, 0)) (bL BK525)) : gb525 ≠ gb556)); have NB556_525 := Aside0.mk ((by rw [hg]; exact Nat.ne_of_gt (blk_lt (g := gb525) (o := .cells #[.int .i64 t521, .slice Ao59 t522.length co59] 32 (0, 0)) (bL BK525)) : gb556 ≠ gb525)); replace BK525 := Aside0.mk (blk_below (g := gb525) (o := .cells #[.int .i64 t521, .slice Ao59 t522.length co59] 32 (0, 0)) (bL BK525) hb); have NB544_556 := Aside0.mk ((by rw [hg]; exact Nat.ne_of_lt (blk_lt (g := gb544) (o := .cells #[.int .i64 t539, .int .i64 t540, .slice Ao71 t541.length co71] 61 (0, 0)) (bL BK544)) : gb544 ≠ gb556)); have NB556_544 := Aside0.mk ((by rw [hg]; exact Nat.ne_of_gt (blk_lt (g := gb544) (o := .cells #[.int .i64 t539, .int .i64 t540, .slice Ao71 t541.length co71] 61 (0, 0)) (bL BK544)) : gb556 ≠ gb544)); replace BK544 := Aside0.mk (blk_below (g := gb544) (o := .cells #[.int .i64 t539, .int .i64 t540, .slice Ao71 t541.length co71] 61 (0, 0)) (bL BK544) hb); clear hb hbox hg; have hnb121 := NB556_506.out; have hnc121 := NB506_556.out; have hnb122 := NB556_525.out; have hnc122 := NB525_556.out; have hnb123 := NB556_544.out; have hnc123 := NB544_556.out; have hcz124_0 : w120.cell? ⟨gb556, 0, none⟩ = some (.int .i64 0) := (blk_cell BK556.out 0).trans rfl; have hcz124_1 : w120.cell? ⟨gb556, 1, none⟩ = some (.string (⟨#[]⟩ : ByteArray)) := (blk_cell BK556.out 1).trans rfl; have hfz124_0 := blk_frozen BK556.out 0; have hfz124_1 := blk_frozen BK556.out 1))
                have n0_ : Aside0 (Kd.R k69 69 ((w120.setCell ⟨gb556, 0, none⟩ (.int .i64 t554)).setCell ⟨gb556, 1, none⟩ (.string t555)) w.heap.size (fun k_ => some k_ ≠ (.slice Ao12 t503.length co12 : Value).ownBlock ∧ some k_ ≠ (.slice Ao71 t541.length co71 : Value).ownBlock ∧ some k_ ≠ (.slice Ao118 t550.length co118 : Value).ownBlock) (.slice Ao54 t518.length co54) t518) := ⟨z27 HO_5.out BK556.out⟩
                have n1_ : Aside0 (Kd.R k69 69 ((w120.setCell ⟨gb556, 0, none⟩ (.int .i64 t554)).setCell ⟨gb556, 1, none⟩ (.string t555)) w.heap.size (fun k_ => some k_ ≠ (.slice Ao54 t518.length co54 : Value).ownBlock ∧ some k_ ≠ (.slice Ao71 t541.length co71 : Value).ownBlock ∧ some k_ ≠ (.slice Ao118 t550.length co118 : Value).ownBlock) (.slice Ao12 t503.length co12) t503) := ⟨z27 HO_507002.out BK556.out⟩
                have n2_ : Aside0 (Kd.R (Kd.int .u8) 5 ((w120.setCell ⟨gb556, 0, none⟩ (.int .i64 t554)).setCell ⟨gb556, 1, none⟩ (.string t555)) w.heap.size (fun _ => True) (.slice Ao59 t522.length co59) t522) := ⟨by (with_reducible repeat (first | apply Kd.R_alloc | apply Kd.R_drewN | apply Kd.R_drew)); exact Kd.R_mono (Kd.R_far (p := ⟨gb556, 1, none⟩) (Kd.R_far (p := ⟨gb556, 0, none⟩) (Kd.R_types HO_526001.out BK556.out (by decide)) (fun _ hk => hk.2) (.int .i64 t554)) (fun _ hk => hk.2) (.string t555)) (fun _ hk => trivial)⟩
                have n3_ : Aside0 (Kd.R k69 69 ((w120.setCell ⟨gb556, 0, none⟩ (.int .i64 t554)).setCell ⟨gb556, 1, none⟩ (.string t555)) w.heap.size (fun k_ => some k_ ≠ (.slice Ao54 t518.length co54 : Value).ownBlock ∧ some k_ ≠ (.slice Ao12 t503.length co12 : Value).ownBlock ∧ some k_ ≠ (.slice Ao118 t550.length co118 : Value).ownBlock) (.slice Ao71 t541.length co71) t541) := ⟨z27 HO_545002.out BK556.out⟩
                have n4_ : Aside0 (Kd.R k69 69 ((w120.setCell ⟨gb556, 0, none⟩ (.int .i64 t554)).setCell ⟨gb556, 1, none⟩ (.string t555)) w.heap.size (fun k_ => some k_ ≠ (.slice Ao54 t518.length co54 : Value).ownBlock ∧ some k_ ≠ (.slice Ao12 t503.length co12 : Value).ownBlock ∧ some k_ ≠ (.slice Ao71 t541.length co71 : Value).ownBlock) (.slice Ao118 t550.length co118) t550) := ⟨by (with_reducible repeat (first | apply Kd.R_alloc | apply Kd.R_drewN | apply Kd.R_drew)); exact Kd.R_mono (Kd.R_far (p := ⟨gb556, 1, none⟩) (Kd.R_far (p := ⟨gb556, 0, none⟩) (Kd.R_types HO553.out BK556.out (by decide)) (fun _ hk => hk.2) (.int .i64 t554)) (fun _ hk => hk.2) (.string t555)) (fun _ hk => ⟨hk.1.1.1.2, ⟨hk.1.1.2, hk.1.2⟩⟩)⟩
                have n5_ : Aside0 (((w120.setCell ⟨gb556, 0, none⟩ (.int .i64 t554)).setCell ⟨gb556, 1, none⟩ (.string t555)).heap[gb506]? = some (.cells #[.int .i64 t501, .int .i64 t502, .slice Ao12 t503.length co12] 61 (0, 0))) := ⟨z18 NB506_556.out BK506.out⟩
                have n6_ : Aside0 (((w120.setCell ⟨gb556, 0, none⟩ (.int .i64 t554)).setCell ⟨gb556, 1, none⟩ (.string t555)).heap[gb525]? = some (.cells #[.int .i64 t521, .slice Ao59 t522.length co59] 32 (0, 0))) := ⟨z18 NB525_556.out BK525.out⟩
                have n7_ : Aside0 (((w120.setCell ⟨gb556, 0, none⟩ (.int .i64 t554)).setCell ⟨gb556, 1, none⟩ (.string t555)).heap[gb544]? = some (.cells #[.int .i64 t539, .int .i64 t540, .slice Ao71 t541.length co71] 61 (0, 0))) := ⟨z18 NB544_556.out BK544.out⟩
                have n8_ : Aside0 (((w120.setCell ⟨gb556, 0, none⟩ (.int .i64 t554)).setCell ⟨gb556, 1, none⟩ (.string t555)).heap[gb556]? = some (.cells #[.int .i64 t554, .string t555] 49 (0, 0))) := ⟨by (with_reducible repeat (first | refine blk_drewN ?_ _ | refine blk_drew ?_ | refine blk_alloc ?_ _)); refine blk_put (cs := #[.int .i64 t554, .string (⟨#[]⟩ : ByteArray)]) ?_ 1 _ rfl; (with_reducible repeat (first | refine blk_drewN ?_ _ | refine blk_drew ?_ | refine blk_alloc ?_ _)); refine blk_put (cs := #[.int .i64 0, .string (⟨#[]⟩ : ByteArray)]) ?_ 0 _ rfl; (with_reducible repeat (first | refine blk_drewN ?_ _ | refine blk_drew ?_ | refine blk_alloc ?_ _)); exact BK556.out⟩
                have n9_ : Aside0 (Below w.heap.size w ((w120.setCell ⟨gb556, 0, none⟩ (.int .i64 t554)).setCell ⟨gb556, 1, none⟩ (.string t555))) := ⟨z21 GE506.out GE525.out GE544.out GE556.out⟩
                (try clear HO_5)
                (try clear HO_507002)
                (try clear HO_526001)
                (try clear HO_545002)
                (try clear HO553)
                (try clear BK506)
                (try clear BK525)
                (try clear BK544)
                (try clear BK556)
                (try clear HB)
                generalize ((w120.setCell ⟨gb556, 0, none⟩ (.int .i64 t554)).setCell ⟨gb556, 1, none⟩ (.string t555)) = w125 at n0_ n1_ n2_ n3_ n4_ n5_ n6_ n7_ n8_ n9_ ⊢
                have HO_5 := n0_
                have HO_507002 := n1_
                have HO_526001 := n2_
                have HO_545002 := n3_
                have HO553 := n4_
                have BK506 := n5_
                have BK525 := n6_
                have BK544 := n7_
                have BK556 := n8_
                have HB := n9_
                clear n0_ n1_ n2_ n3_ n4_ n5_ n6_ n7_ n8_ n9_
                replace HO_5 := Aside0.mk (Kd.R_drew HO_5.out)
                replace HO_507002 := Aside0.mk (Kd.R_drew HO_507002.out)
                replace HO_526001 := Aside0.mk (Kd.R_drew HO_526001.out)
                replace HO_545002 := Aside0.mk (Kd.R_drew HO_545002.out)
                replace HO553 := Aside0.mk (Kd.R_drew HO553.out)
                replace BK506 := Aside0.mk (blk_drew BK506.out)
                replace BK525 := Aside0.mk (blk_drew BK525.out)
                replace BK544 := Aside0.mk (blk_drew BK544.out)
                replace BK556 := Aside0.mk (blk_drew BK556.out)
                replace HB := Aside0.mk (below_drew1 HB.out)
                have H := HQ_.out
                clear HQ_
                by_cases c114 : t554 = t557
                ·rw [if_pos c114] at H
                 have c114b0 : (t554 == t557) = true := beq_iff_eq.mpr c114
                 have c114b1 : (t554 != t557) = false := bne_eq_false_iff_eq.mpr c114
                 clear c114
                 replace H := Option.bind_eq_some_iff.mp H
                 obtain ⟨⟨t559, t560⟩, A1150, H⟩ := H
                 replace H : (if t555.toList = t560.toList then (some (decide ((t522.length : Int) > 0))) else (some false)) = some r := H
                 have A115 := Aside0.mk A1150
                 clear A1150
                 (try simp only [c114b0, c114b1])
                 by_cases c116 : t555.toList = t560.toList
                 ·rw [if_pos c116] at H
                  have c116b0 : (t555.toList == t560.toList) = true := beq_iff_eq.mpr c116
                  have c116b1 : (t555.toList != t560.toList) = false := bne_eq_false_iff_eq.mpr c116
                  clear c116
                  obtain rfl := Option.some.inj H
                  (try simp only [c116b0, c116b1])
                  refine start_ (n := 23) (S := fun w' => w'.cell? ⟨gb556, 0, none⟩ = some (.int .i64 t554) ∧ w'.cell? ⟨gb556, 1, none⟩ = some (.string t555) ∧ w'.cell? ⟨gb525, 0, none⟩ = some (.int .i64 t521) ∧ w'.cell? ⟨gb525, 1, none⟩ = some (.slice Ao59 t522.length co59)) (ds := []) (bsA 23 0) (by kernel_rfl) rfl rfl ⟨(blk_cell BK556.out 0).trans rfl, (blk_cell BK556.out 1).trans rfl, (blk_cell BK525.out 0).trans rfl, (blk_cell BK525.out 1).trans rfl⟩ (fun hHeld => ?_); refine with_tabW laws_FnHeaders.tab21 laws_FnHeaders.bits21 (fun HT_ HW_ => ?_)
                  generalize w125.drew = w126 at HO_5 HO_507002 HO_526001 HO_545002 HO553 BK506 BK525 BK544 BK556 HB hHeld ⊢
                  refine pa_ (i := 0) (N := some 141) (bsA 23 1) (h := ?_)
                  refine pa_ (i := 2) (N := some 143) (bsA 23 5) (h := ?_)
                  refine pa_ (i := 3) (N := some 144) (bsA 23 13) (h := ?_)
                  refine take_ (i := 1) (N := some 142) (v := ?_) (a' := ?_) (bsA 23 15) rfl rfl (take_ofW HT_.out HW_.out (by kernel_rfl)) (fun _ _ _ h => h) (Or.inl ⟨by rfl, ?_⟩) hHeld ?_ ?_
                  rotate_left
                  ·rintro w' ⟨s0, s1, s2, s3⟩
                   go_simp
                   with_reducible rfl
                  rotate_left
                  ·simp only [Act.put, List.setIfInBounds_toArray, List.set_cons_zero, List.set_cons_succ, i64_w, i32_w]
                   rfl
                  refine one_ (i := 4) (N := some 145) (bsA 23 31) rfl rfl (one_of HT_.out (by kernel_rfl)) (by decide) (fun K hK => ?_)
                  refine goes_ Try.func28 (by kernel_rfl) rfl #[.slice Ao118 t550.length co118, .string t551] (by rfl) rfl rfl bM ?_
                  with_reducible refine (spec_FieldOf.calls kj93 _ _ t550 t551 t557 t558 _ ?side1 ?side2 A113.out).mono ?_
                  (case side1 => exact z5 HO553.out)
                  (case side2 => exact (Kd.R_reads' HO553.out).2.1)
                  rintro e w127 ⟨rfl, hb⟩
                  refine ⟨_, rfl, ?_⟩
                  replace HO_5 := Aside0.mk (Kd.R_below (bR HO_5) hb)
                  replace HO_507002 := Aside0.mk (Kd.R_below (bR HO_507002) hb)
                  replace HO_526001 := Aside0.mk (Kd.R_below (bR HO_526001) hb)
                  replace HO_545002 := Aside0.mk (Kd.R_below (bR HO_545002) hb)
                  replace HO553 := Aside0.mk (Kd.R_below (bR HO553) hb)
                  replace BK506 := Aside0.mk (blk_below (g := gb506) (o := .cells #[.int .i64 t501, .int .i64 t502, .slice Ao12 t503.length co12] 61 (0, 0)) (bL BK506) hb)
                  replace BK525 := Aside0.mk (blk_below (g := gb525) (o := .cells #[.int .i64 t521, .slice Ao59 t522.length co59] 32 (0, 0)) (bL BK525) hb)
                  replace BK544 := Aside0.mk (blk_below (g := gb544) (o := .cells #[.int .i64 t539, .int .i64 t540, .slice Ao71 t541.length co71] 61 (0, 0)) (bL BK544) hb)
                  replace BK556 := Aside0.mk (blk_below (g := gb556) (o := .cells #[.int .i64 t554, .string t555] 49 (0, 0)) (bL BK556) hb)
                  replace HB := Aside0.mk (below_step (z21 GE506.out GE525.out GE544.out GE556.out) hb)
                  (try clear hb)
                  (try clear hb2)
                  (try clear hk)
                  (try clear hi)
                  refine hK.out _ _ ⟨(blk_cell BK556.out 0).trans rfl, (blk_cell BK556.out 1).trans rfl, (blk_cell BK525.out 0).trans rfl, (blk_cell BK525.out 1).trans rfl⟩ (fun hHeld => ?_)
                  clear hK K
                  refine na_ (N := some 145) (h := ?_)
                  refine pa_ (i := 5) (N := some 146) (bsA 23 63) (h := ?_)
                  refine pa_ (i := 6) (N := some 147) (bsA 23 127) (h := ?_)
                  refine pa_ (i := 7) (N := some 148) (bsA 23 255) (h := ?_)
                  refine pa_ (i := 8) (N := some 149) (bsA 23 511) (h := ?_)
                  refine pa_ (i := 10) (N := some 151) (bsA 23 1535) (h := ?_)
                  refine pa_ (i := 11) (N := some 152) (bsA 23 3583) (h := ?_)
                  refine take_ (i := 9) (N := some 150) (v := ?_) (a' := ?_) (bsA 23 4095) rfl rfl (take_ofW HT_.out HW_.out (by kernel_rfl)) (fun _ _ _ h => h) (Or.inl ⟨by rfl, ?_⟩) hHeld ?_ ?_
                  rotate_left
                  ·rintro w' ⟨s0, s1, s2, s3⟩
                   go_simp
                   with_reducible rfl
                  rotate_left
                  ·simp only [Act.put, List.setIfInBounds_toArray, List.set_cons_zero, List.set_cons_succ, i64_w, i32_w]
                   rfl
                  refine one_ (i := 12) (N := some 153) (bsA 23 8191) rfl rfl (one_of HT_.out (by kernel_rfl)) (by decide) (fun K hK => ?_)
                  refine goes_ Try.func28 (by kernel_rfl) rfl #[.slice Ao118 t550.length co118, .string t551] (by rfl) rfl rfl bM ?_
                  with_reducible refine (spec_FieldOf.calls kj93 _ _ t550 t551 t559 t560 _ ?side1 ?side2 A115.out).mono ?_
                  (case side1 => exact z5 HO553.out)
                  (case side2 => exact (Kd.R_reads' HO553.out).2.1)
                  rintro e w128 ⟨rfl, hb⟩
                  refine ⟨_, rfl, ?_⟩
                  replace HO_5 := Aside0.mk (Kd.R_below (bR HO_5) hb)
                  replace HO_507002 := Aside0.mk (Kd.R_below (bR HO_507002) hb)
                  replace HO_526001 := Aside0.mk (Kd.R_below (bR HO_526001) hb)
                  replace HO_545002 := Aside0.mk (Kd.R_below (bR HO_545002) hb)
                  replace HO553 := Aside0.mk (Kd.R_below (bR HO553) hb)
                  replace BK506 := Aside0.mk (blk_below (g := gb506) (o := .cells #[.int .i64 t501, .int .i64 t502, .slice Ao12 t503.length co12] 61 (0, 0)) (bL BK506) hb)
                  replace BK525 := Aside0.mk (blk_below (g := gb525) (o := .cells #[.int .i64 t521, .slice Ao59 t522.length co59] 32 (0, 0)) (bL BK525) hb)
                  replace BK544 := Aside0.mk (blk_below (g := gb544) (o := .cells #[.int .i64 t539, .int .i64 t540, .slice Ao71 t541.length co71] 61 (0, 0)) (bL BK544) hb)
                  replace BK556 := Aside0.mk (blk_below (g := gb556) (o := .cells #[.int .i64 t554, .string t555] 49 (0, 0)) (bL BK556) hb)
                  replace HB := Aside0.mk (below_step (z21 GE506.out GE525.out GE544.out GE556.out) hb)
                  (try clear hb)
                  (try clear hb2)
                  (try clear hk)
                  (try clear hi)
                  refine hK.out _ _ ⟨(blk_cell BK556.out 0).trans rfl, (blk_cell BK556.out 1).trans rfl, (blk_cell BK525.out 0).trans rfl, (blk_cell BK525.out 1).trans rfl⟩ (fun hHeld => ?_)
                  clear hK K
                  refine na_ (N := some 153) (h := ?_)
                  refine pa_ (i := 13) (N := some 154) (bsA 23 16383) (h := ?_)
                  refine pa_ (i := 14) (N := some 155) (bsA 23 32767) (h := ?_)
                  refine pa_ (i := 15) (N := some 156) (bsA 23 65535) (h := ?_)
                  refine pa_ (i := 16) (N := some 157) (bsA 23 131071) (h := ?_)
                  refine pa_ (i := 17) (N := some 158) (bsA 23 262143) (h := ?_)
                  refine take_ (i := 18) (N := some 159) (v := ?_) (a' := ?_) (bsA 23 524287) rfl rfl (take_ofW HT_.out HW_.out (by kernel_rfl)) (fun _ _ _ h => h) (Or.inl ⟨by rfl, ?_⟩) hHeld ?_ ?_
                  rotate_left
                  ·rintro w' ⟨s0, s1, s2, s3⟩
                   go_simp
                   with_reducible rfl
                  rotate_left
                  ·simp only [Act.put, List.setIfInBounds_toArray, List.set_cons_zero, List.set_cons_succ, i64_w, i32_w]
                   rfl
                  refine pa_ (i := 19) (N := some 160) (bsA 23 1048575) (h := ?_)
                  refine pa_ (i := 20) (N := some 161) (bsA 23 2097151) (h := ?_)
                  refine pa_ (i := 21) (N := some 162) (bsA 23 4194303) (h := ?_)
                  refine pa_ (i := 22) (N := some 2) (bsA 23 8388607) (h := ?_)
                  refine done_ (done_of HT_.out (by kernel_rfl)) ?_
                  try go_wp2
                  go_ret
                  exact ⟨bE, z21 GE506.out GE525.out GE544.out GE556.out⟩
                 ·rw [if_neg c116] at H
                  have c116b0 : (t555.toList == t560.toList) = false := beq_eq_false_iff_ne.mpr c116
                  have c116b1 : (t555.toList != t560.toList) = true := bne_iff_ne.mpr c116
                  obtain rfl := Option.some.inj H
                  (try simp only [c116b0, c116b1])
                  refine start_ (n := 23) (S := fun w' => w'.cell? ⟨gb556, 0, none⟩ = some (.int .i64 t554) ∧ w'.cell? ⟨gb556, 1, none⟩ = some (.string t555)) (ds := []) (bsA 23 0) (by kernel_rfl) rfl rfl ⟨(blk_cell BK556.out 0).trans rfl, (blk_cell BK556.out 1).trans rfl⟩ (fun hHeld => ?_); refine with_tabW laws_FnHeaders.tab21 laws_FnHeaders.bits21 (fun HT_ HW_ => ?_)
                  generalize w125.drew = w138 at HO_5 HO_507002 HO_526001 HO_545002 HO553 BK506 BK525 BK544 BK556 HB hHeld ⊢
                  refine pa_ (i := 0) (N := some 141) (bsA 23 1) (h := ?_)
                  refine pa_ (i := 2) (N := some 143) (bsA 23 5) (h := ?_)
                  refine pa_ (i := 3) (N := some 144) (bsA 23 13) (h := ?_)
                  refine take_ (i := 1) (N := some 142) (v := ?_) (a' := ?_) (bsA 23 15) rfl rfl (take_ofW HT_.out HW_.out (by kernel_rfl)) (fun _ _ _ h => h) (Or.inl ⟨by rfl, ?_⟩) hHeld ?_ ?_
                  rotate_left
                  ·rintro w' ⟨s0, s1⟩
                   go_simp
                   with_reducible rfl
                  rotate_left
                  ·simp only [Act.put, List.setIfInBounds_toArray, List.set_cons_zero, List.set_cons_succ, i64_w, i32_w]
                   rfl
                  refine one_ (i := 4) (N := some 145) (bsA 23 31) rfl rfl (one_of HT_.out (by kernel_rfl)) (by decide) (fun K hK => ?_)
                  refine goes_ Try.func28 (by kernel_rfl) rfl #[.slice Ao118 t550.length co118, .string t551] (by rfl) rfl rfl bM ?_
                  with_reducible refine (spec_FieldOf.calls kj93 _ _ t550 t551 t557 t558 _ ?side1 ?side2 A113.out).mono ?_
                  (case side1 => exact z5 HO553.out)
                  (case side2 => exact (Kd.R_reads' HO553.out).2.1)
                  rintro e w139 ⟨rfl, hb⟩
                  refine ⟨_, rfl, ?_⟩
                  replace HO_5 := Aside0.mk (Kd.R_below (bR HO_5) hb)
                  replace HO_507002 := Aside0.mk (Kd.R_below (bR HO_507002) hb)
                  replace HO_526001 := Aside0.mk (Kd.R_below (bR HO_526001) hb)
                  replace HO_545002 := Aside0.mk (Kd.R_below (bR HO_545002) hb)
                  replace HO553 := Aside0.mk (Kd.R_below (bR HO553) hb)
                  replace BK506 := Aside0.mk (blk_below (g := gb506) (o := .cells #[.int .i64 t501, .int .i64 t502, .slice Ao12 t503.length co12] 61 (0, 0)) (bL BK506) hb)
                  replace BK525 := Aside0.mk (blk_below (g := gb525) (o := .cells #[.int .i64 t521, .slice Ao59 t522.length co59] 32 (0, 0)) (bL BK525) hb)
                  replace BK544 := Aside0.mk (blk_below (g := gb544) (o := .cells #[.int .i64 t539, .int .i64 t540, .slice Ao71 t541.length co71] 61 (0, 0)) (bL BK544) hb)
                  replace BK556 := Aside0.mk (blk_below (g := gb556) (o := .cells #[.int .i64 t554, .string t555] 49 (0, 0)) (bL BK556) hb)
                  replace HB := Aside0.mk (below_step (z21 GE506.out GE525.out GE544.out GE556.out) hb)
                  (try clear hb)
                  (try clear hb2)
                  (try clear hk)
                  (try clear hi)
                  refine hK.out _ _ ⟨(blk_cell BK556.out 0).trans rfl, (blk_cell BK556.out 1).trans rfl⟩ (fun hHeld => ?_)
                  clear hK K
                  refine na_ (N := some 145) (h := ?_)
                  refine pa_ (i := 5) (N := some 146) (bsA 23 63) (h := ?_)
                  refine pa_ (i := 6) (N := some 147) (bsA 23 127) (h := ?_)
                  refine pa_ (i := 7) (N := some 148) (bsA 23 255) (h := ?_)
                  refine pa_ (i := 8) (N := some 149) (bsA 23 511) (h := ?_)
                  refine pa_ (i := 10) (N := some 151) (bsA 23 1535) (h := ?_)
                  refine pa_ (i := 11) (N := some 152) (bsA 23 3583) (h := ?_)
                  refine take_ (i := 9) (N := some 150) (v := ?_) (a' := ?_) (bsA 23 4095) rfl rfl (take_ofW HT_.out HW_.out (by kernel_rfl)) (fun _ _ _ h => h) (Or.inl ⟨by rfl, ?_⟩) hHeld ?_ ?_
                  rotate_left
                  ·rintro w' ⟨s0, s1⟩
                   go_simp
                   with_reducible rfl
                  rotate_left
                  ·simp only [Act.put, List.setIfInBounds_toArray, List.set_cons_zero, List.set_cons_succ, i64_w, i32_w]
                   rfl
                  refine one_ (i := 12) (N := some 153) (bsA 23 8191) rfl rfl (one_of HT_.out (by kernel_rfl)) (by decide) (fun K hK => ?_)
                  refine goes_ Try.func28 (by kernel_rfl) rfl #[.slice Ao118 t550.length co118, .string t551] (by rfl) rfl rfl bM ?_
                  with_reducible refine (spec_FieldOf.calls kj93 _ _ t550 t551 t559 t560 _ ?side1 ?side2 A115.out).mono ?_
                  (case side1 => exact z5 HO553.out)
                  (case side2 => exact (Kd.R_reads' HO553.out).2.1)
                  rintro e w140 ⟨rfl, hb⟩
                  refine ⟨_, rfl, ?_⟩
                  replace HO_5 := Aside0.mk (Kd.R_below (bR HO_5) hb)
                  replace HO_507002 := Aside0.mk (Kd.R_below (bR HO_507002) hb)
                  replace HO_526001 := Aside0.mk (Kd.R_below (bR HO_526001) hb)
                  replace HO_545002 := Aside0.mk (Kd.R_below (bR HO_545002) hb)
                  replace HO553 := Aside0.mk (Kd.R_below (bR HO553) hb)
                  replace BK506 := Aside0.mk (blk_below (g := gb506) (o := .cells #[.int .i64 t501, .int .i64 t502, .slice Ao12 t503.length co12] 61 (0, 0)) (bL BK506) hb)
                  replace BK525 := Aside0.mk (blk_below (g := gb525) (o := .cells #[.int .i64 t521, .slice Ao59 t522.length co59] 32 (0, 0)) (bL BK525) hb)
                  replace BK544 := Aside0.mk (blk_below (g := gb544) (o := .cells #[.int .i64 t539, .int .i64 t540, .slice Ao71 t541.length co71] 61 (0, 0)) (bL BK544) hb)
                  replace BK556 := Aside0.mk (blk_below (g := gb556) (o := .cells #[.int .i64 t554, .string t555] 49 (0, 0)) (bL BK556) hb)
                  replace HB := Aside0.mk (below_step (z21 GE506.out GE525.out GE544.out GE556.out) hb)
                  (try clear hb)
                  (try clear hb2)
                  (try clear hk)
                  (try clear hi)
                  refine hK.out _ _ ⟨(blk_cell BK556.out 0).trans rfl, (blk_cell BK556.out 1).trans rfl⟩ (fun hHeld => ?_)
                  clear hK K
                  refine na_ (N := some 153) (h := ?_)
                  refine pa_ (i := 13) (N := some 154) (bsA 23 16383) (h := ?_)
                  refine pa_ (i := 14) (N := some 155) (bsA 23 32767) (h := ?_)
                  refine pa_ (i := 15) (N := some 156) (bsA 23 65535) (h := ?_)
                  refine pa_ (i := 16) (N := some 157) (bsA 23 131071) (h := ?_)
                  refine pu_ (i := 17) (N := some 158) (bsA 23 262143) (h := ?_)
                  refine pu_ (i := 18) (N := some 159) (bsA 23 524287) (h := ?_)
                  refine pu_ (i := 19) (N := some 160) (bsA 23 1048575) (h := ?_)
                  refine pu_ (i := 20) (N := some 161) (bsA 23 2097151) (h := ?_)
                  refine pa_ (i := 21) (N := some 162) (bsA 23 4194303) (h := ?_)
                  refine pa_ (i := 22) (N := some 2) (bsA 23 8388607) (h := ?_)
                  refine done_ (done_of HT_.out (by kernel_rfl)) ?_
                  try go_wp2
                  go_ret
                  exact ⟨bE, z21 GE506.out GE525.out GE544.out GE556.out⟩
                ·rw [if_neg c114] at H
                 have c114b0 : (t554 == t557) = false := beq_eq_false_iff_ne.mpr c114
                 have c114b1 : (t554 != t557) = true := bne_iff_ne.mpr c114
                 obtain rfl := Option.some.inj H
                 (try simp only [c114b0, c114b1])
                 refine start_ (n := 23) (S := fun w' => w'.cell? ⟨gb556, 0, none⟩ = some (.int .i64 t554) ∧ w'.cell? ⟨gb556, 1, none⟩ = some (.string t555)) (ds := []) (bsA 23 0) (by kernel_rfl) rfl rfl ⟨(blk_cell BK556.out 0).trans rfl, (blk_cell BK556.out 1).trans rfl⟩ (fun hHeld => ?_); refine with_tabW laws_FnHeaders.tab21 laws_FnHeaders.bits21 (fun HT_ HW_ => ?_)
                 generalize w125.drew = w150 at HO_5 HO_507002 HO_526001 HO_545002 HO553 BK506 BK525 BK544 BK556 HB hHeld ⊢
                 refine pa_ (i := 0) (N := some 141) (bsA 23 1) (h := ?_)
                 refine pa_ (i := 2) (N := some 143) (bsA 23 5) (h := ?_)
                 refine pa_ (i := 3) (N := some 144) (bsA 23 13) (h := ?_)
                 refine take_ (i := 1) (N := some 142) (v := ?_) (a' := ?_) (bsA 23 15) rfl rfl (take_ofW HT_.out HW_.out (by kernel_rfl)) (fun _ _ _ h => h) (Or.inl ⟨by rfl, ?_⟩) hHeld ?_ ?_
                 rotate_left
                 ·rintro w' ⟨s0, s1⟩
                  go_simp
                  with_reducible rfl
                 rotate_left
                 ·simp only [Act.put, List.setIfInBounds_toArray, List.set_cons_zero, List.set_cons_succ, i64_w, i32_w]
                  rfl
                 refine one_ (i := 4) (N := some 145) (bsA 23 31) rfl rfl (one_of HT_.out (by kernel_rfl)) (by decide) (fun K hK => ?_)
                 refine goes_ Try.func28 (by kernel_rfl) rfl #[.slice Ao118 t550.length co118, .string t551] (by rfl) rfl rfl bM ?_
                 with_reducible refine (spec_FieldOf.calls kj93 _ _ t550 t551 t557 t558 _ ?side1 ?side2 A113.out).mono ?_
                 (case side1 => exact z5 HO553.out)
                 (case side2 => exact (Kd.R_reads' HO553.out).2.1)
                 rintro e w151 ⟨rfl, hb⟩
                 refine ⟨_, rfl, ?_⟩
                 replace HO_5 := Aside0.mk (Kd.R_below (bR HO_5) hb)
                 replace HO_507002 := Aside0.mk (Kd.R_below (bR HO_507002) hb)
                 replace HO_526001 := Aside0.mk (Kd.R_below (bR HO_526001) hb)
                 replace HO_545002 := Aside0.mk (Kd.R_below (bR HO_545002) hb)
                 replace HO553 := Aside0.mk (Kd.R_below (bR HO553) hb)
                 replace BK506 := Aside0.mk (blk_below (g := gb506) (o := .cells #[.int .i64 t501, .int .i64 t502, .slice Ao12 t503.length co12] 61 (0, 0)) (bL BK506) hb)
                 replace BK525 := Aside0.mk (blk_below (g := gb525) (o := .cells #[.int .i64 t521, .slice Ao59 t522.length co59] 32 (0, 0)) (bL BK525) hb)
                 replace BK544 := Aside0.mk (blk_below (g := gb544) (o := .cells #[.int .i64 t539, .int .i64 t540, .slice Ao71 t541.length co71] 61 (0, 0)) (bL BK544) hb)
                 replace BK556 := Aside0.mk (blk_below (g := gb556) (o := .cells #[.int .i64 t554, .string t555] 49 (0, 0)) (bL BK556) hb)
                 replace HB := Aside0.mk (below_step (z21 GE506.out GE525.out GE544.out GE556.out) hb)
                 (try clear hb)
                 (try clear hb2)
                 (try clear hk)
                 (try clear hi)
                 refine hK.out _ _ ⟨(blk_cell BK556.out 0).trans rfl, (blk_cell BK556.out 1).trans rfl⟩ (fun hHeld => ?_)
                 clear hK K
                 refine na_ (N := some 145) (h := ?_)
                 refine pa_ (i := 5) (N := some 146) (bsA 23 63) (h := ?_)
                 refine pa_ (i := 6) (N := some 147) (bsA 23 127) (h := ?_)
                 refine pa_ (i := 7) (N := some 148) (bsA 23 255) (h := ?_)
                 refine pu_ (i := 8) (N := some 149) (bsA 23 511) (h := ?_)
                 refine pu_ (i := 9) (N := some 150) (bsA 23 1023) (h := ?_)
                 refine pu_ (i := 10) (N := some 151) (bsA 23 2047) (h := ?_)
                 refine pu_ (i := 11) (N := some 152) (bsA 23 4095) (h := ?_)
                 refine pu_ (i := 12) (N := some 153) (bsA 23 8191) (h := ?_)
                 refine pu_ (i := 13) (N := some 154) (bsA 23 16383) (h := ?_)
                 refine pu_ (i := 14) (N := some 155) (bsA 23 32767) (h := ?_)
                 refine pa_ (i := 15) (N := some 156) (bsA 23 65535) (h := ?_)
                 refine pa_ (i := 16) (N := some 157) (bsA 23 131071) (h := ?_)
                 refine pu_ (i := 17) (N := some 158) (bsA 23 262143) (h := ?_)
                 refine pu_ (i := 18) (N := some 159) (bsA 23 524287) (h := ?_)
                 refine pu_ (i := 19) (N := some 160) (bsA 23 1048575) (h := ?_)
                 refine pu_ (i := 20) (N := some 161) (bsA 23 2097151) (h := ?_)
                 refine pa_ (i := 21) (N := some 162) (bsA 23 4194303) (h := ?_)
                 refine pa_ (i := 22) (N := some 2) (bsA 23 8388607) (h := ?_)
                 refine done_ (done_of HT_.out (by kernel_rfl)) ?_
                 try go_wp2
                 go_ret
                 exact ⟨bE, z21 GE506.out GE525.out GE544.out GE556.out⟩
       ·rw [if_neg c50] at H
        exact absurd H (by simp)
      ·rw [if_neg c49] at H
       exact absurd H (by simp)
     ·rw [if_neg c48] at H
      have c48b0 : (t521 == 0) = false := beq_eq_false_iff_ne.mpr c48
      have c48b1 : (t521 != 0) = true := bne_iff_ne.mpr c48
      replace H := Option.bind_eq_some_iff.mp H
      obtain ⟨⟨t526, t527⟩, A1520, H⟩ := H
      replace H : (some (t526 == t521)) = some r := H
      have A152 := Aside0.mk A1520
      clear A1520
      obtain rfl := Option.some.inj H
      try go_wp2_with (first | ((with_reducible refine gate_callee (f := 50) rfl ?_); refine goesL_ (some 56) rfl rfl Try.func50 (by kernel_rfl) rfl #[.slice A0 l0.length c0] rfl bM ?_; (with_reducible refine (spec_DrawPackHeader.calls kj5 _ _ l0 t518 _ ?side1 ?side2 A46.out).mono ?_); (case side1 => exact z6 HR0.out); (case side2 => exact HC0.out); rintro e w153 ⟨v519, rfl, ho0, hb⟩; refine ⟨_, rfl, ?_⟩; have HO520 := Aside0.mk (Kd.R_lower (Kd.R_new' ho0 (Kd.R_lt (bR HO_507002))) (below_size (bG GE506))); replace HO_507002 := Aside0.mk (Kd.R_elder' (bR HO_507002) (Kd.R_base ho0) hb); replace BK506 := Aside0.mk (blk_below (g := gb506) (o := .cells #[.int .i64 t501, .int .i64 t502, .slice Ao12 t503.length co12] 61 (0, 0)) (bL BK506) hb); replace HB := Aside0.mk (below_step (bG GE506) hb); (try clear ho0); obtain ⟨Ao154, co154, eo154⟩ := Kd.R_slice HO520.out; subst eo154) | ((with_reducible refine gate_callee (f := 32) rfl ?_); refine goesL_ (some 58) rfl rfl Try.func32 (by kernel_rfl) rfl #[.slice Ao154 t518.length co154] rfl bM ?_; (with_reducible refine (impl_PackHeader.calls kj5 _ _ t518 t521 t522 _ ?side1 ?side2 A47.out).mono ?_); (case side1 => exact z5 HO520.out); (case side2 => exact (Kd.R_reads' HO520.out).2.1); rintro e w155 ⟨v523, rfl, ho0, hb⟩; refine ⟨_, rfl, ?_⟩; replace HO_507002 := Aside0.mk (Kd.R_below (bR HO_507002) hb); replace HO520 := Aside0.mk (Kd.R_below (bR HO520) hb); have HO524 := Aside0.mk (Kd.R_lower ho0 (below_size (bG GE506))); replace BK506 := Aside0.mk (blk_below (g := gb506) (o := .cells #[.int .i64 t501, .int .i64 t502, .slice Ao12 t503.length co12] 61 (0, 0)) (bL BK506) hb); replace HB := Aside0.mk (below_step (bG GE506) hb); (try clear ho0)) | ((with_reducible refine gate_dst (N := 6) rfl ?_); (try (refine gate_guard (by rfl) ?_; dsimp only)); refine box_event ?hg (N := 6) ?hd (cs := #[.int .i64 0, .slice none 0 0]) (t := 32) ?hr ?_; (case hd => rfl); (case hg => rfl); (case hr => exact z14); intro gb525 hg w156 hbox hb; replace HO_507002 := Aside0.mk (Kd.R_below (bR HO_507002) hb); replace HO520 := Aside0.mk (Kd.R_below (bR HO520) hb); replace HO524 := Aside0.mk (Kd.R_below (bR HO524) hb); have BK525 := Aside0.mk (hbox); have GW525 := Aside0.mk ((by rw [hg]; exact (below_size (bG GE506)) : w.heap.size ≤ gb525)); have GE525 := Aside0.mk ((by rw [hg]; exact (below_size (bG GE506)) : w.heap.size ≤ gb525)); replace HB := Aside0.mk (below_step (bG GE506) hb); have NB506_525 := Aside0.mk ((z38 : gb506 ≠ gb525)); have NB525_506 := Aside0.mk ((z37 : gb525 ≠ gb506)); replace BK506 := Aside0.mk (blk_below (g := gb506) (o := .cells #[.int .i64 t501, .int .i64 t502, .slice Ao12 t503.length co12] 61 (0, 0)) (bL BK506) hb); clear hb hbox hg; have hnb157 := NB525_506.out; have hnc157 := NB506_525.out; have hcz158_0 : w156.cell? ⟨gb525, 0, none⟩ = some (.int .i64 0) := (blk_cell BK525.out 0).trans rfl; have hcz158_1 : w156.cell? ⟨gb525, 1, none⟩ = some (.slice none 0 0) := (blk_cell BK525.out 1).trans rfl; have hfz158_0 := blk_frozen BK525.out 0; have hfz158_1 := blk_frozen BK525.out 1; obtain ⟨Ao159, co159, eo159⟩ := Kd.R_slice HO524.out; subst eo159))
      have n0_ : Aside0 (Kd.R k69 69 ((w156.setCell ⟨gb525, 0, none⟩ (.int .i64 t521)).setCell ⟨gb525, 1, none⟩ (.slice Ao159 t522.length co159)) w.heap.size (fun k_ => some k_ ≠ (.slice Ao154 t518.length co154 : Value).ownBlock) (.slice Ao12 t503.length co12) t503) := ⟨by (with_reducible repeat (first | apply Kd.R_alloc | apply Kd.R_drewN | apply Kd.R_drew)); exact Kd.R_mono (Kd.R_far (p := ⟨gb525, 1, none⟩) (Kd.R_far (p := ⟨gb525, 0, none⟩) (Kd.R_types HO_507002.out BK525.out (by decide)) (fun _ hk => hk.2) (.int .i64 t521)) (fun _ hk => hk.2) (.slice Ao159 t522.length co159)) (fun _ hk => hk.1.2)⟩
      have n1_ : Aside0 (Kd.R k69 69 ((w156.setCell ⟨gb525, 0, none⟩ (.int .i64 t521)).setCell ⟨gb525, 1, none⟩ (.slice Ao159 t522.length co159)) w.heap.size (fun k_ => some k_ ≠ (.slice Ao12 t503.length co12 : Value).ownBlock) (.slice Ao154 t518.length co154) t518) := ⟨by (with_reducible repeat (first | apply Kd.R_alloc | apply Kd.R_drewN | apply Kd.R_drew)); exact Kd.R_mono (Kd.R_far (p := ⟨gb525, 1, none⟩) (Kd.R_far (p := ⟨gb525, 0, none⟩) (Kd.R_types HO520.out BK525.out (by decide)) (fun _ hk => hk.2) (.int .i64 t521)) (fun _ hk => hk.2) (.slice Ao159 t522.length co159)) (fun _ hk => hk.1.2)⟩
      have n2_ : Aside0 (Kd.R (Kd.int .u8) 5 ((w156.setCell ⟨gb525, 0, none⟩ (.int .i64 t521)).setCell ⟨gb525, 1, none⟩ (.slice Ao159 t522.length co159)) w.heap.size (fun _ => True) (.slice Ao159 t522.length co159) t522) := ⟨by (with_reducible repeat (first | apply Kd.R_alloc | apply Kd.R_drewN | apply Kd.R_drew)); exact Kd.R_mono (Kd.R_far (p := ⟨gb525, 1, none⟩) (Kd.R_far (p := ⟨gb525, 0, none⟩) (Kd.R_types HO524.out BK525.out (by decide)) (fun _ hk => hk.2) (.int .i64 t521)) (fun _ hk => hk.2) (.slice Ao159 t522.length co159)) (fun _ hk => trivial)⟩
      have n3_ : Aside0 (((w156.setCell ⟨gb525, 0, none⟩ (.int .i64 t521)).setCell ⟨gb525, 1, none⟩ (.slice Ao159 t522.length co159)).heap[gb506]? = some (.cells #[.int .i64 t501, .int .i64 t502, .slice Ao12 t503.length co12] 61 (0, 0))) := ⟨z18 NB506_525.out BK506.out⟩
      have n4_ : Aside0 (((w156.setCell ⟨gb525, 0, none⟩ (.int .i64 t521)).setCell ⟨gb525, 1, none⟩ (.slice Ao159 t522.length co159)).heap[gb525]? = some (.cells #[.int .i64 t521, .slice Ao159 t522.length co159] 32 (0, 0))) := ⟨by (with_reducible repeat (first | refine blk_drewN ?_ _ | refine blk_drew ?_ | refine blk_alloc ?_ _)); refine blk_put (cs := #[.int .i64 t521, .slice none 0 0]) ?_ 1 _ rfl; (with_reducible repeat (first | refine blk_drewN ?_ _ | refine blk_drew ?_ | refine blk_alloc ?_ _)); refine blk_put (cs := #[.int .i64 0, .slice none 0 0]) ?_ 0 _ rfl; (with_reducible repeat (first | refine blk_drewN ?_ _ | refine blk_drew ?_ | refine blk_alloc ?_ _)); exact BK525.out⟩
      have n5_ : Aside0 (Below w.heap.size w ((w156.setCell ⟨gb525, 0, none⟩ (.int .i64 t521)).setCell ⟨gb525, 1, none⟩ (.slice Ao159 t522.length co159))) := ⟨bG2 GE506 GE525⟩
      (try clear HO_507002)
      (try clear HO520)
      (try clear HO524)
      (try clear BK506)
      (try clear BK525)
      (try clear HB)
      generalize ((w156.setCell ⟨gb525, 0, none⟩ (.int .i64 t521)).setCell ⟨gb525, 1, none⟩ (.slice Ao159 t522.length co159)) = w160 at n0_ n1_ n2_ n3_ n4_ n5_ ⊢
      have HO_507002 := n0_
      have HO520 := n1_
      have HO524 := n2_
      have BK506 := n3_
      have BK525 := n4_
      have HB := n5_
      clear n0_ n1_ n2_ n3_ n4_ n5_
      replace HO_507002 := Aside0.mk (Kd.R_drew HO_507002.out)
      replace HO520 := Aside0.mk (Kd.R_drew HO520.out)
      replace HO524 := Aside0.mk (Kd.R_drew HO524.out)
      replace BK506 := Aside0.mk (blk_drew BK506.out)
      replace BK525 := Aside0.mk (blk_drew BK525.out)
      replace HB := Aside0.mk (below_drew1 HB.out)
      refine start_ (n := 7) (S := fun w' => w'.cell? ⟨gb525, 0, none⟩ = some (.int .i64 t521) ∧ w'.cell? ⟨gb525, 1, none⟩ = some (.slice Ao159 t522.length co159)) (ds := []) #[false, false, false, false, false, false, false] (by kernel_rfl) rfl rfl ⟨(blk_cell BK525.out 0).trans rfl, (blk_cell BK525.out 1).trans rfl⟩ (fun hHeld => ?_)
      generalize w160.drew = w161 at HO_507002 HO520 HO524 BK506 BK525 HB hHeld ⊢
      refine pure_ (i := 0) (N := some 62) (v := ?_) (a' := ?_) #[true, false, false, false, false, false, false] rfl rfl (by kernel_rfl) (fun _ _ _ h => h) (Or.inl ⟨by rfl, ?_⟩) ?_ ?_
      rotate_left
      ·intro w'
       go_simp
       with_reducible rfl
      rotate_left
      ·simp only [Act.put, List.setIfInBounds_toArray, List.set_cons_zero, List.set_cons_succ, i64_w, i32_w]
       rfl
      refine pure_ (i := 3) (N := some 65) (v := ?_) (a' := ?_) #[true, false, false, true, false, false, false] rfl rfl (by kernel_rfl) (fun _ _ _ h => h) (Or.inl ⟨by rfl, ?_⟩) ?_ ?_
      rotate_left
      ·intro w'
       go_simp
       with_reducible rfl
      rotate_left
      ·simp only [Act.put, List.setIfInBounds_toArray, List.set_cons_zero, List.set_cons_succ, i64_w, i32_w]
       rfl
      refine take_ (i := 4) (N := some 66) (v := ?_) (a' := ?_) #[true, false, false, true, true, false, false] rfl rfl (by kernel_rfl) (fun _ _ _ h => h) (Or.inl ⟨by rfl, ?_⟩) hHeld ?_ ?_
      rotate_left
      ·rintro w' ⟨s0, s1⟩
       go_simp
       with_reducible rfl
      rotate_left
      ·simp only [Act.put, List.setIfInBounds_toArray, List.set_cons_zero, List.set_cons_succ, i64_w, i32_w]
       rfl
      refine one_ (i := 1) (N := some 63) #[true, true, false, true, true, false, false] rfl rfl (by kernel_rfl) (by decide) (fun K hK => ?_)
      refine goes_ Try.func31 (by kernel_rfl) rfl #[.slice Ao154 t518.length co154] (by rfl) rfl rfl bM ?_
      with_reducible refine (spec_PackHeader.calls kj5 _ _ t518 t526 t527 _ ?side1 ?side2 A152.out).mono ?_
      (case side1 => exact z5 HO520.out)
      (case side2 => exact (Kd.R_reads' HO520.out).2.1)
      rintro e w162 ⟨v528, rfl, ho0, hb⟩
      refine ⟨_, rfl, ?_⟩
      replace HO_507002 := Aside0.mk (Kd.R_below (bR HO_507002) hb)
      replace HO520 := Aside0.mk (Kd.R_below (bR HO520) hb)
      have HO529 := Aside0.mk (Kd.R_lower (Kd.R_new' ho0 (Kd.R_lt (bR HO524))) (below_size (bG2 GE506 GE525)))
      replace HO524 := Aside0.mk (Kd.R_elder' (bR HO524) (Kd.R_base ho0) hb)
      replace BK506 := Aside0.mk (blk_below (g := gb506) (o := .cells #[.int .i64 t501, .int .i64 t502, .slice Ao12 t503.length co12] 61 (0, 0)) (bL BK506) hb)
      replace BK525 := Aside0.mk (blk_below (g := gb525) (o := .cells #[.int .i64 t521, .slice Ao159 t522.length co159] 32 (0, 0)) (bL BK525) hb)
      replace HB := Aside0.mk (below_step (bG2 GE506 GE525) hb)
      (try clear hb)
      (try clear hb2)
      (try clear hk)
      (try clear hi)
      (try clear ho0)
      refine hK.out _ _ ⟨(blk_cell BK525.out 0).trans rfl, (blk_cell BK525.out 1).trans rfl⟩ (fun hHeld => ?_)
      clear hK K
      refine na_ (N := some 63) (h := ?_)
      refine pure_ (i := 2) (N := some 64) (v := ?_) (a' := ?_) #[true, true, true, true, true, false, false] rfl rfl (by kernel_rfl) (fun _ _ _ h => h) (Or.inl ⟨by rfl, ?_⟩) ?_ ?_
      rotate_left
      ·intro w'
       go_simp
       with_reducible rfl
      rotate_left
      ·simp only [Act.put, List.setIfInBounds_toArray, List.set_cons_zero, List.set_cons_succ, i64_w, i32_w]
       rfl
      refine pure_ (i := 5) (N := some 67) (v := ?_) (a' := ?_) #[true, true, true, true, true, true, false] rfl rfl (by kernel_rfl) (fun _ _ _ h => h) (Or.inl ⟨by rfl, ?_⟩) ?_ ?_
      rotate_left
      ·intro w'
       go_simp
       with_reducible rfl
      rotate_left
      ·simp only [Act.put, List.setIfInBounds_toArray, List.set_cons_zero, List.set_cons_succ, i64_w, i32_w]
       rfl
      refine pure_ (i := 6) (N := some 2) (v := ?_) (a' := ?_) #[true, true, true, true, true, true, true] rfl rfl (by kernel_rfl) (fun _ _ _ h => h) (Or.inl ⟨by rfl, ?_⟩) ?_ ?_
      rotate_left
      ·intro w'
       go_simp
       with_reducible rfl
      rotate_left
      ·simp only [Act.put, List.setIfInBounds_toArray, List.set_cons_zero, List.set_cons_succ, i64_w, i32_w]
       rfl
      refine done_ (by kernel_rfl) ?_
      try go_wp2
      go_ret
      exact ⟨bE, bG2 GE506 GE525⟩
def laws_FnHeaders.Pure : Prop := ∀ (l0 : List Int), l0.length ≤ maxLen → l0.length * 1 ≤ 140737488351232 → (∀ x ∈ l0, (Lit.int .u8 x).wf = true) → ∃ k, laws_FnHeaders.f k l0 = some true
theorem laws_FnHeaders.walk (P : laws_FnHeaders.Pure) (a0 : Option Addr) (len0 cap0 : Nat) (z0 : List Int) (w : World) (w0 : (a0 = none ∧ len0 = 0 ∧ cap0 = 0 ∧ z0 = []) ∨ ∃ x, a0 = some x ∧ len0 ≤ cap0 ∧ cap0 ≤ maxLen ∧ z0.length = cap0 ∧ (∀ i, i < z0.length → w.cell? (x.add i) = some (.int .u8 (z0.getD i 0))) ∧ ∀ n ∈ z0, (Lit.int .u8 n).wf = true) (y0 : len0 * 1 ≤ 140737488351232) :
  Calls Try.prog 9 #[.slice a0 len0 cap0] w fun e w' => e = .returned (.bool true) ∧ Below w.heap.size w w' := by
 obtain ⟨l0, rfl, hr0, hm0, hw0, hc0⟩ := ReadsInt.ofRowC w0
 obtain ⟨k, h⟩ := P l0 hm0 y0 hw0
 refine (laws_FnHeaders.calls k _ _ l0 true w (Kd.C_of_reads (d := (0 : Int)) (h1 := fun _ => rfl) hr0) hc0 h).mono ?_
 rintro e w' ⟨rfl, hd⟩
 exact ⟨rfl, hd⟩
end Go.Proofs.Ytjopgmjmjnfcjaa.PHeaders
