/- Part of the proof; words that it uses. -/
import Derived.Test.YtjopgmjmjnfcjaaDoorPDecodeWordsx0
namespace Go.Proofs.YtjopgmjmjnfcjaaDoor.PDecodeWords
open Go.RowKit Go.Proofs.YtjopgmjmjnfcjaaDoorW.PrintWords Go.Proofs.YtjopgmjmjnfcjaaDoorW.PrintLast
set_option linter.unusedVariables false
set_option linter.unusedSimpArgs false
def spec_l2More.f (l0 : List Int) (a1 : Int) : Option (Int) := if a1 ≥ (l0.length : Int) then (some (-1)) else (if 0 ≤ a1 then (if a1 < (l0.length : Int) then (if (rd l0 a1) < 128 then (some (-1)) else (if (rd l0 a1) > 191 then (some (-1)) else (some (wrap64 ((wrap64 (rd l0 a1)) - 128))))) else (none)) else (none))
set_option maxHeartbeats 8000000 in
set_option maxRecDepth 100000 in
theorem spec_l2More.calls (A0 : Option Addr) (c0 : Nat) (l0 : List Int) (a1 : Int) (r : Int) (w : World) (hr0 : Kd.C (Kd.int .u8) w A0 l0.length l0) (hc0 : l0.length ≤ c0) (h : spec_l2More.f l0 a1 = some r) :
  Calls Tryd.prog 62 #[.slice A0 l0.length c0, .int .i64 a1] w fun e w' => e = .returned (.int .i64 r) ∧ Drawn0 w w' := by
 have HR0 := Aside0.mk hr0
 have HC0 := Aside0.mk hc0
 clear hr0 hc0
 have H : (if a1 ≥ (l0.length : Int) then (some (-1)) else (if 0 ≤ a1 then (if a1 < (l0.length : Int) then (if (rd l0 a1) < 128 then (some (-1)) else (if (rd l0 a1) > 191 then (some (-1)) else (some (wrap64 ((wrap64 (rd l0 a1)) - 128))))) else (none)) else (none))) = some r := h
 clear h
 by_cases c3 : a1 ≥ (l0.length : Int)
 ·rw [if_pos c3] at H
  have c3b0 : decide ((l0.length : Int) ≤ a1) = true := decide_eq_true c3
  clear c3
  obtain rfl := Option.some.inj H
  go_enter Tryd.func62, Tryd.ntmps62
  go_wp2
  go_ret
  exact ⟨bS, z2⟩
 ·rw [if_neg c3] at H
  have c3b0 : decide ((l0.length : Int) ≤ a1) = false := decide_eq_false c3
  clear c3
  by_cases c4 : 0 ≤ a1
  ·rw [if_pos c4] at H
   have c4b0 : decide (0 ≤ a1) = true := decide_eq_true c4
   clear c4
   by_cases c5 : a1 < (l0.length : Int)
   ·rw [if_pos c5] at H
    have c5b0 : decide (a1 < (l0.length : Int)) = true := decide_eq_true c5
    clear c5
    by_cases c6 : (rd l0 a1) < 128
    ·rw [if_pos c6] at H
     have c6b0 : decide ((rd l0 a1) < 128) = true := decide_eq_true c6
     clear c6
     obtain rfl := Option.some.inj H
     have p186 : 0 ≤ (a1 : Int) := pI
     have q186 : a1 < (l0.length : Int) := pI
     obtain ⟨ad186, e186, hx186_0⟩ := Kd.at_int HR0.out a1 p186 q186
     cases e186
     replace p186 := eq_true p186
     replace q186 := eq_true q186
     go_enter Tryd.func62, Tryd.ntmps62
     go_wp2
     go_ret
     exact ⟨bS, z2⟩
    ·rw [if_neg c6] at H
     have c6b0 : decide ((rd l0 a1) < 128) = false := decide_eq_false c6
     clear c6
     by_cases c7 : (rd l0 a1) > 191
     ·rw [if_pos c7] at H
      have c7b0 : decide (191 < (rd l0 a1)) = true := decide_eq_true c7
      clear c7
      obtain rfl := Option.some.inj H
      have p186 : 0 ≤ (a1 : Int) := pI
      have q186 : a1 < (l0.length : Int) := pI
      obtain ⟨ad186, e186, hx186_0⟩ := Kd.at_int HR0.out a1 p186 q186
      cases e186
      replace p186 := eq_true p186
      replace q186 := eq_true q186
      have p187 : 0 ≤ (a1 : Int) := pI
      have q187 : a1 < (l0.length : Int) := pI
      obtain ⟨ad187, e187, hx187_0⟩ := Kd.at_int HR0.out a1 p187 q187
      obtain rfl : ad186 = ad187 := (by injection e187)
      replace p187 := eq_true p187
      replace q187 := eq_true q187
      go_enter Tryd.func62, Tryd.ntmps62
      go_wp2
      go_ret
      exact ⟨bS, z2⟩
     ·rw [if_neg c7] at H
      have c7b0 : decide (191 < (rd l0 a1)) = false := decide_eq_false c7
      clear c7
      obtain rfl := Option.some.inj H
      have p186 : 0 ≤ (a1 : Int) := pI
      have q186 : a1 < (l0.length : Int) := pI
      obtain ⟨ad186, e186, hx186_0⟩ := Kd.at_int HR0.out a1 p186 q186
      cases e186
      replace p186 := eq_true p186
      replace q186 := eq_true q186
      have p187 : 0 ≤ (a1 : Int) := pI
      have q187 : a1 < (l0.length : Int) := pI
      obtain ⟨ad187, e187, hx187_0⟩ := Kd.at_int HR0.out a1 p187 q187
      obtain rfl : ad186 = ad187 := (by injection e187)
      replace p187 := eq_true p187
      replace q187 := eq_true q187
      have p188 : 0 ≤ (a1 : Int) := pI
      have q188 : a1 < (l0.length : Int) := pI
      obtain ⟨ad188, e188, hx188_0⟩ := Kd.at_int HR0.out a1 p188 q188
      obtain rfl : ad186 = ad188 := (by injection e188)
      replace p188 := eq_true p188
      replace q188 := eq_true q188
      go_enter Tryd.func62, Tryd.ntmps62
      go_wp2
      go_ret
      exact ⟨bS, z2⟩
   ·rw [if_neg c5] at H
    exact absurd H (by simp)
  ·rw [if_neg c4] at H
   exact absurd H (by simp)
def spec_l1In.f (a0 : Int) (a1 : Int) (a2 : Int) : Option (Bool) := if a0 ≥ a1 then (some (decide (a0 ≤ a2))) else (some false)
set_option maxHeartbeats 8000000 in
set_option maxRecDepth 100000 in
theorem spec_l1In.calls (a0 : Int) (a1 : Int) (a2 : Int) (r : Bool) (w : World) (h : spec_l1In.f a0 a1 a2 = some r) :
  Calls Tryd.prog 32 #[.int .i64 a0, .int .i64 a1, .int .i64 a2] w fun e w' => e = .returned (.bool r) ∧ Drawn0 w w' := by
 have H : (if a0 ≥ a1 then (some (decide (a0 ≤ a2))) else (some false)) = some r := h
 clear h
 by_cases c4 : a0 ≥ a1
 ·rw [if_pos c4] at H
  have c4b0 : decide (a1 ≤ a0) = true := decide_eq_true c4
  clear c4
  obtain rfl := Option.some.inj H
  go_enter Tryd.func32, Tryd.ntmps32
  go_wp2
  go_ret
  exact ⟨bS, z2⟩
 ·rw [if_neg c4] at H
  have c4b0 : decide (a1 ≤ a0) = false := decide_eq_false c4
  clear c4
  obtain rfl := Option.some.inj H
  go_enter Tryd.func32, Tryd.ntmps32
  go_wp2
  go_ret
  exact ⟨bS, z2⟩
def spec_l2Char.f (a0 : Int) : Option (Bool) := (spec_l1In.f a0 0 55295).bind fun t189 => (if t189 = true then (some true) else ((spec_l1In.f a0 57344 65535).bind fun t190 => (some t190)))
set_option maxHeartbeats 8000000 in
set_option maxRecDepth 100000 in
theorem spec_l2Char.calls (a0 : Int) (r : Bool) (w : World) (h : spec_l2Char.f a0 = some r) :
  Calls Tryd.prog 63 #[.int .i64 a0] w fun e w' => e = .returned (.bool r) ∧ Drawn0 w w' := by
 have H : ((spec_l1In.f a0 0 55295).bind fun t189 => (if t189 = true then (some true) else ((spec_l1In.f a0 57344 65535).bind fun t190 => (some t190)))) = some r := h
 clear h
 replace H := Option.bind_eq_some_iff.mp H
 obtain ⟨t189, A20, H⟩ := H
 replace H : (if t189 = true then (some true) else ((spec_l1In.f a0 57344 65535).bind fun t190 => (some t190))) = some r := H
 have A2 := Aside0.mk A20
 clear A20
 by_cases c3 : t189 = true
 ·subst c3
  have H1 : (some true) = some r := z31
  clear H
  have H := H1
  clear H1
  obtain rfl := Option.some.inj H
  go_enter Tryd.func63, Tryd.ntmps63
  go_wp2_with (first | ((with_reducible refine gate_callee (f := 32) rfl ?_); refine goesL_ (some 4) rfl rfl Tryd.func32 (by kernel_rfl) rfl #[.int .i64 a0, .int .i64 0, .int .i64 55295] rfl bM ?_; (with_reducible refine (spec_l1In.calls a0 0 55295 true _ A2.out).mono ?_); rintro e w' ⟨rfl, ⟨nd, rfl⟩⟩; refine ⟨_, rfl, ?_⟩))
  go_ret
  exact ⟨bS, z2⟩
 ·replace c3 := Bool.eq_false_iff.mpr c3
  subst c3
  have H1 : ((spec_l1In.f a0 57344 65535).bind fun t190 => (some t190)) = some r := z14
  clear H
  have H := H1
  clear H1
  replace H := Option.bind_eq_some_iff.mp H
  obtain ⟨t190, A40, H⟩ := H
  replace H : (some t190) = some r := H
  have A4 := Aside0.mk A40
  clear A40
  obtain rfl := Option.some.inj H
  go_enter Tryd.func63, Tryd.ntmps63
  go_wp2_with (first | ((with_reducible refine gate_callee (f := 32) rfl ?_); refine goesL_ (some 4) rfl rfl Tryd.func32 (by kernel_rfl) rfl #[.int .i64 a0, .int .i64 0, .int .i64 55295] rfl bM ?_; (with_reducible refine (spec_l1In.calls a0 0 55295 false _ A2.out).mono ?_); rintro e w' ⟨rfl, ⟨nd, rfl⟩⟩; refine ⟨_, rfl, ?_⟩) | (go_at_call 32; (with_reducible refine (spec_l1In.calls a0 57344 65535 t190 _ A4.out).mono ?_); rintro e w' ⟨rfl, ⟨nd, rfl⟩⟩))
  go_ret
  exact ⟨bS, z2⟩
mutual
def spec_l2Utf8.j0 : Nat → List Int → Int → Int → Int → Bool → Option (Int × Int)
 | 0, _, _, _, _, _ => none
 | k + 1, x0, x1, x6, x7, x31 => if x31 = true then (some (wrap64 ((wrap64 ((wrap64 (x6 - 192)) * 64)) + x7), 2)) else ((spec_l2More.f x0 (wrap64 (x1 + 2))).bind fun t193 => (if x6 ≥ 224 then (if x6 < 240 then (if x7 ≥ 0 then (spec_l2Utf8.j1 k x6 x7 t193 (decide (t193 ≥ 0))) else (spec_l2Utf8.j1 k x6 x7 t193 false)) else (spec_l2Utf8.j1 k x6 x7 t193 false)) else (spec_l2Utf8.j1 k x6 x7 t193 false)))
def spec_l2Utf8.j1 : Nat → Int → Int → Int → Bool → Option (Int × Int)
 | 0, _, _, _, _ => none
 | k + 1, x6, x7, x8, x54 => if x54 = true then (if (wrap64 ((wrap64 ((wrap64 ((wrap64 (x6 - 224)) * 4096)) + (wrap64 (x7 * 64)))) + x8)) ≥ 2048 then ((spec_l2Char.f (wrap64 ((wrap64 ((wrap64 ((wrap64 (x6 - 224)) * 4096)) + (wrap64 (x7 * 64)))) + x8))).bind fun t194 => (if t194 = true then (some (wrap64 ((wrap64 ((wrap64 ((wrap64 (x6 - 224)) * 4096)) + (wrap64 (x7 * 64)))) + x8), 3)) else (some (0, 0)))) else (some (0, 0))) else (some (0, 0))
end
def spec_l2Utf8.f (k : Nat) (l0 : List Int) (a1 : Int) : Option (Int × Int) := if 0 ≤ a1 then (if a1 < (l0.length : Int) then (if (wrap64 (rd l0 a1)) < 128 then (some (wrap64 (rd l0 a1), 1)) else ((spec_l2More.f l0 (wrap64 (a1 + 1))).bind fun t192 => (if (wrap64 (rd l0 a1)) ≥ 194 then (if (wrap64 (rd l0 a1)) < 224 then (spec_l2Utf8.j0 k l0 a1 (wrap64 (rd l0 a1)) t192 (decide (t192 ≥ 0))) else (spec_l2Utf8.j0 k l0 a1 (wrap64 (rd l0 a1)) t192 false)) else (spec_l2Utf8.j0 k l0 a1 (wrap64 (rd l0 a1)) t192 false)))) else (none)) else (none)
theorem spec_l2Utf8.mono_l : ∀ k, (∀ y0 y1 y2 y3 y4, LeO (spec_l2Utf8.j0 k y0 y1 y2 y3 y4) (spec_l2Utf8.j0 (k + 1) y0 y1 y2 y3 y4)) ∧ (∀ y0 y1 y2 y3, LeO (spec_l2Utf8.j1 k y0 y1 y2 y3) (spec_l2Utf8.j1 (k + 1) y0 y1 y2 y3))
 | 0 => ⟨fun _ _ _ _ _ r h => by simp [spec_l2Utf8.j0] at h, fun _ _ _ _ r h => by simp [spec_l2Utf8.j1] at h⟩
 | k + 1 => by
  obtain ⟨ih0, ih1⟩ := spec_l2Utf8.mono_l k
  refine ⟨?_, ?_⟩
  ·intro y0 y1 y2 y3 y4
   unfold spec_l2Utf8.j0
   repeat' first
   | (with_reducible exact ih0 _ _ _ _ _)
   | (with_reducible exact ih1 _ _ _ _)
   | (with_reducible exact LeO.refl _)
   | (with_reducible exact LeO.none _)
   | (with_reducible refine LeO.ite ?_ ?_)
   | (with_reducible refine LeO.bind ?_ (fun _ => ?_))
   | exact ih0 _ _ _ _ _
   | exact ih1 _ _ _ _
   | exact LeO.none _
   | refine LeO.ite ?_ ?_
   | refine LeO.bind ?_ (fun _ => ?_)
  ·intro y0 y1 y2 y3
   unfold spec_l2Utf8.j1
   repeat' first
   | (with_reducible exact ih0 _ _ _ _ _)
   | (with_reducible exact ih1 _ _ _ _)
   | (with_reducible exact LeO.refl _)
   | (with_reducible exact LeO.none _)
   | (with_reducible refine LeO.ite ?_ ?_)
   | (with_reducible refine LeO.bind ?_ (fun _ => ?_))
   | exact ih0 _ _ _ _ _
   | exact ih1 _ _ _ _
   | exact LeO.none _
   | refine LeO.ite ?_ ?_
   | refine LeO.bind ?_ (fun _ => ?_)
theorem spec_l2Utf8.mono : ∀ a0 a1 k, LeO (spec_l2Utf8.f k a0 a1) (spec_l2Utf8.f (k + 1) a0 a1) := by
 intro a0 a1 k
 obtain ⟨ih0, ih1⟩ := spec_l2Utf8.mono_l k
 unfold spec_l2Utf8.f
 repeat' first
   | (with_reducible exact ih0 _ _ _ _ _)
   | (with_reducible exact ih1 _ _ _ _)
   | (with_reducible exact LeO.refl _)
   | (with_reducible exact LeO.none _)
   | (with_reducible refine LeO.ite ?_ ?_)
   | (with_reducible refine LeO.bind ?_ (fun _ => ?_))
   | exact ih0 _ _ _ _ _
   | exact ih1 _ _ _ _
   | exact LeO.none _
   | refine LeO.ite ?_ ?_
   | refine LeO.bind ?_ (fun _ => ?_)
set_option maxHeartbeats 8000000 in
set_option maxRecDepth 100000 in
theorem spec_l2Utf8.calls (k : Nat) (A0 : Option Addr) (c0 : Nat) (l0 : List Int) (a1 : Int) (r1 : Int) (r2 : Int) (w : World) (hr0 : Kd.C (Kd.int .u8) w A0 l0.length l0) (hc0 : l0.length ≤ c0) (h : spec_l2Utf8.f k l0 a1 = some (r1, r2)) :
  Calls Tryd.prog 49 #[.slice A0 l0.length c0, .int .i64 a1] w fun e w' => e = .returned (.tuple #[.int .i64 r1, .int .i64 r2]) ∧ Drawn0 w w' := by
 have HR0 := Aside0.mk hr0
 have HC0 := Aside0.mk hc0
 clear hr0 hc0
 have H : (if 0 ≤ a1 then (if a1 < (l0.length : Int) then (if (wrap64 (rd l0 a1)) < 128 then (some (wrap64 (rd l0 a1), 1)) else ((spec_l2More.f l0 (wrap64 (a1 + 1))).bind fun t192 => (if (wrap64 (rd l0 a1)) ≥ 194 then (if (wrap64 (rd l0 a1)) < 224 then (spec_l2Utf8.j0 k l0 a1 (wrap64 (rd l0 a1)) t192 (decide (t192 ≥ 0))) else (spec_l2Utf8.j0 k l0 a1 (wrap64 (rd l0 a1)) t192 false)) else (spec_l2Utf8.j0 k l0 a1 (wrap64 (rd l0 a1)) t192 false)))) else (none)) else (none)) = some (r1, r2) := h
 clear h
 by_cases c3 : 0 ≤ a1
 ·rw [if_pos c3] at H
  have c3b0 : decide (0 ≤ a1) = true := decide_eq_true c3
  clear c3
  by_cases c4 : a1 < (l0.length : Int)
  ·rw [if_pos c4] at H
   have c4b0 : decide (a1 < (l0.length : Int)) = true := decide_eq_true c4
   clear c4
   have HQ_ := Aside0.mk H
   clear H
   have p191 : 0 ≤ (a1 : Int) := pI
   have q191 : a1 < (l0.length : Int) := pI
   obtain ⟨ad191, e191, hx191_0⟩ := Kd.at_int HR0.out a1 p191 q191
   cases e191
   replace p191 := eq_true p191
   replace q191 := eq_true q191
   go_enter Tryd.func49, Tryd.ntmps49
   have H := HQ_.out
   clear HQ_
   by_cases c5 : (wrap64 (rd l0 a1)) < 128
   ·rw [if_pos c5] at H
    have c5b0 : decide ((wrap64 (rd l0 a1)) < 128) = true := decide_eq_true c5
    clear c5
    simp only [Option.some.injEq, Prod.mk.injEq] at H
    obtain ⟨rfl, rfl⟩ := H
    (try simp only [c5b0])
    go_wp2
    go_ret2
    exact ⟨bS, z2⟩
   ·rw [if_neg c5] at H
    have c5b0 : decide ((wrap64 (rd l0 a1)) < 128) = false := decide_eq_false c5
    clear c5
    replace H := Option.bind_eq_some_iff.mp H
    obtain ⟨t192, A60, H⟩ := H
    replace H : (if (wrap64 (rd l0 a1)) ≥ 194 then (if (wrap64 (rd l0 a1)) < 224 then (spec_l2Utf8.j0 k l0 a1 (wrap64 (rd l0 a1)) t192 (decide (t192 ≥ 0))) else (spec_l2Utf8.j0 k l0 a1 (wrap64 (rd l0 a1)) t192 false)) else (spec_l2Utf8.j0 k l0 a1 (wrap64 (rd l0 a1)) t192 false)) = some (r1, r2) := H
    have A6 := Aside0.mk A60
    clear A60
    have HC7 := Aside0.mk H
    clear H
    (try simp only [c5b0])
    go_upto_region 5 with (first | ((with_reducible refine gate_callee (f := 62) rfl ?_); refine goesL_ (some 21) rfl rfl Tryd.func62 (by kernel_rfl) rfl #[.slice (some ad191) l0.length c0, .int .i64 (wrap64 (a1 + 1))] rfl bM ?_; (with_reducible refine (spec_l2More.calls _ _ l0 (wrap64 (a1 + 1)) t192 _ ?side1 ?side2 A6.out).mono ?_); (case side1 => exact z52 HR0.out); (case side2 => exact HC0.out); rintro e w' ⟨rfl, ⟨nd, rfl⟩⟩; refine ⟨_, rfl, ?_⟩))
    (try simp only [Act.put, List.setIfInBounds_toArray, List.set_cons_zero, List.set_cons_succ])
    go_cut [31] (fun v31 wc => ∃ (kq : Nat) (x31_6 : Bool), v31 = .bool x31_6 ∧ Aside0 (spec_l2Utf8.j0 kq l0 a1 (wrap64 (rd l0 a1)) t192 x31_6 = some (r1, r2)) ∧ Aside0 (kq ≤ k) ∧ Drawn0 w wc)
    case first =>
     have H := HC7.out
     clear HC7
     by_cases c8 : (wrap64 (rd l0 a1)) ≥ 194
     ·rw [if_pos c8] at H
      have c8b0 : decide (194 ≤ (wrap64 (rd l0 a1))) = true := decide_eq_true c8
      clear c8
      (first | rw [c8b0] | (simp only [i64_w, i32_w]; rw [c8b0]) | skip)
      by_cases c9 : (wrap64 (rd l0 a1)) < 224
      ·rw [if_pos c9] at H
       have c9b0 : decide ((wrap64 (rd l0 a1)) < 224) = true := decide_eq_true c9
       clear c9
       have H' := Aside0.mk H
       clear H
       go_wp2
       go_meet
       case rel => exact ⟨_, (decide (t192 ≥ 0)), bS, H', ⟨z49⟩, z2⟩
      ·rw [if_neg c9] at H
       have c9b0 : decide ((wrap64 (rd l0 a1)) < 224) = false := decide_eq_false c9
       clear c9
       have H' := Aside0.mk H
       clear H
       go_wp2
       go_meet
       case rel => exact ⟨_, (false), bS, H', ⟨z49⟩, z2⟩
     ·rw [if_neg c8] at H
      have c8b0 : decide (194 ≤ (wrap64 (rd l0 a1))) = false := decide_eq_false c8
      clear c8
      (first | rw [c8b0] | (simp only [i64_w, i32_w]; rw [c8b0]) | skip)
      have H' := Aside0.mk H
      clear H
      go_wp2
      go_meet
      case rel => exact ⟨_, (false), bS, H', ⟨z49⟩, z2⟩
    case rest =>
     clear HC7
     try clear p1
     try clear q1
     try clear hx1
     try clear p2
     try clear c3
     try clear c3b0
     try clear c4
     try clear c4b0
     try clear c5
     try clear c5b0
     try clear c6
     try clear p6
     try clear c8
     try clear c8b0
     try clear c9
     try clear c9b0
     try clear hx191_0
     try clear p191
     try clear q191
     obtain ⟨kq, x31_6, rfl, HA, HJ6, ⟨mc6, rfl⟩⟩ := hcut
     cases kq with
     | zero => exact absurd HA.out (by simp [spec_l2Utf8.j0])
     | succ kj6 =>
      have H := HA.out
      clear HA
      simp only [spec_l2Utf8.j0] at H
      by_cases c10 : x31_6 = true
      ·subst c10
       have H1 : (some (wrap64 ((wrap64 ((wrap64 ((wrap64 (rd l0 a1)) - 192)) * 64)) + t192), 2)) = some (r1, r2) := z31
       clear H
       have H := H1
       clear H1
       simp only [Option.some.injEq, Prod.mk.injEq] at H
       obtain ⟨rfl, rfl⟩ := H
       go_wp2
       go_ret2
       exact ⟨bS, z2⟩
      ·replace c10 := Bool.eq_false_iff.mpr c10
       subst c10
       have H1 : ((spec_l2More.f l0 (wrap64 (a1 + 2))).bind fun t193 => (if (wrap64 (rd l0 a1)) ≥ 224 then (if (wrap64 (rd l0 a1)) < 240 then (if t192 ≥ 0 then (spec_l2Utf8.j1 kj6 (wrap64 (rd l0 a1)) t192 t193 (decide (t193 ≥ 0))) else (spec_l2Utf8.j1 kj6 (wrap64 (rd l0 a1)) t192 t193 false)) else (spec_l2Utf8.j1 kj6 (wrap64 (rd l0 a1)) t192 t193 false)) else (spec_l2Utf8.j1 kj6 (wrap64 (rd l0 a1)) t192 t193 false))) = some (r1, r2) := z14
       clear H
       have H := H1
       clear H1
       replace H := Option.bind_eq_some_iff.mp H
       obtain ⟨t193, A110, H⟩ := H
       replace H : (if (wrap64 (rd l0 a1)) ≥ 224 then (if (wrap64 (rd l0 a1)) < 240 then (if t192 ≥ 0 then (spec_l2Utf8.j1 kj6 (wrap64 (rd l0 a1)) t192 t193 (decide (t193 ≥ 0))) else (spec_l2Utf8.j1 kj6 (wrap64 (rd l0 a1)) t192 t193 false)) else (spec_l2Utf8.j1 kj6 (wrap64 (rd l0 a1)) t192 t193 false)) else (spec_l2Utf8.j1 kj6 (wrap64 (rd l0 a1)) t192 t193 false)) = some (r1, r2) := H
       have A11 := Aside0.mk A110
       clear A110
       have HC12 := Aside0.mk H
       clear H
       go_upto_region 8 with (first | ((with_reducible refine gate_callee (f := 62) rfl ?_); refine goesL_ (some 40) rfl rfl Tryd.func62 (by kernel_rfl) rfl #[.slice (some ad191) l0.length c0, .int .i64 (wrap64 (a1 + 2))] rfl bM ?_; (with_reducible refine (spec_l2More.calls _ _ l0 (wrap64 (a1 + 2)) t193 _ ?side1 ?side2 A11.out).mono ?_); (case side1 => exact z52 HR0.out); (case side2 => exact HC0.out); rintro e w' ⟨rfl, ⟨nd, rfl⟩⟩; refine ⟨_, rfl, ?_⟩))
       (try simp only [Act.put, List.setIfInBounds_toArray, List.set_cons_zero, List.set_cons_succ])
       go_cut [54] (fun v54 wc => ∃ (kq : Nat) (x54_11 : Bool), v54 = .bool x54_11 ∧ Aside0 (spec_l2Utf8.j1 kq (wrap64 (rd l0 a1)) t192 t193 x54_11 = some (r1, r2)) ∧ Aside0 (kq ≤ kj6) ∧ Drawn0 w wc)
       case first =>
        have H := HC12.out
        clear HC12
        by_cases c13 : (wrap64 (rd l0 a1)) ≥ 224
        ·rw [if_pos c13] at H
         have c13b0 : decide (224 ≤ (wrap64 (rd l0 a1))) = true := decide_eq_true c13
         clear c13
         (first | rw [c13b0] | (simp only [i64_w, i32_w]; rw [c13b0]) | skip)
         by_cases c14 : (wrap64 (rd l0 a1)) < 240
         ·rw [if_pos c14] at H
          have c14b0 : decide ((wrap64 (rd l0 a1)) < 240) = true := decide_eq_true c14
          clear c14
          by_cases c15 : t192 ≥ 0
          ·rw [if_pos c15] at H
           have c15b0 : decide (0 ≤ t192) = true := decide_eq_true c15
           clear c15
           have H' := Aside0.mk H
           clear H
           go_wp2
           go_meet
           case rel => exact ⟨_, (decide (t193 ≥ 0)), bS, H', ⟨z45 HJ6.out⟩, z2⟩
          ·rw [if_neg c15] at H
           have c15b0 : decide (0 ≤ t192) = false := decide_eq_false c15
           clear c15
           have H' := Aside0.mk H
           clear H
           go_wp2
           go_meet
           case rel => exact ⟨_, (false), bS, H', ⟨z45 HJ6.out⟩, z2⟩
         ·rw [if_neg c14] at H
          have c14b0 : decide ((wrap64 (rd l0 a1)) < 240) = false := decide_eq_false c14
          clear c14
          have H' := Aside0.mk H
          clear H
          go_wp2
          go_meet
          case rel => exact ⟨_, (false), bS, H', ⟨z45 HJ6.out⟩, z2⟩
        ·rw [if_neg c13] at H
         have c13b0 : decide (224 ≤ (wrap64 (rd l0 a1))) = false := decide_eq_false c13
         clear c13
         (first | rw [c13b0] | (simp only [i64_w, i32_w]; rw [c13b0]) | skip)
         have H' := Aside0.mk H
         clear H
         go_wp2
         go_meet
         case rel => exact ⟨_, (false), bS, H', ⟨z45 HJ6.out⟩, z2⟩
       case rest =>
        clear HC12
        try clear c1
        try clear p1
        try clear q1
        try clear hx1
        try clear p2
        try clear c3
        try clear c3b0
        try clear c4
        try clear c4b0
        try clear c5
        try clear c5b0
        try clear c6
        try clear p6
        try clear c8
        try clear c8b0
        try clear c9
        try clear c9b0
        try clear c10
        try clear c13
        try clear c13b0
        try clear c14
        try clear c14b0
        try clear c15
        try clear c15b0
        try clear hx191_0
        try clear p1
        try clear p191
        try clear p2
        try clear p6
        try clear q1
        try clear q191
        obtain ⟨kq, x54_11, rfl, HA, HJ11, ⟨mc11, rfl⟩⟩ := hcut
        cases kq with
        | zero => exact absurd HA.out (by simp [spec_l2Utf8.j1])
        | succ kj11 =>
         have H := HA.out
         clear HA
         simp only [spec_l2Utf8.j1] at H
         by_cases c16 : x54_11 = true
         ·subst c16
          have H1 : (if (wrap64 ((wrap64 ((wrap64 ((wrap64 ((wrap64 (rd l0 a1)) - 224)) * 4096)) + (wrap64 (t192 * 64)))) + t193)) ≥ 2048 then ((spec_l2Char.f (wrap64 ((wrap64 ((wrap64 ((wrap64 ((wrap64 (rd l0 a1)) - 224)) * 4096)) + (wrap64 (t192 * 64)))) + t193))).bind fun t194 => (if t194 = true then (some (wrap64 ((wrap64 ((wrap64 ((wrap64 ((wrap64 (rd l0 a1)) - 224)) * 4096)) + (wrap64 (t192 * 64)))) + t193), 3)) else (some (0, 0)))) else (some (0, 0))) = some (r1, r2) := z31
          clear H
          have H := H1
          clear H1
          by_cases c17 : (wrap64 ((wrap64 ((wrap64 ((wrap64 ((wrap64 (rd l0 a1)) - 224)) * 4096)) + (wrap64 (t192 * 64)))) + t193)) ≥ 2048
          ·rw [if_pos c17] at H
           have c17b0 : decide (2048 ≤ (wrap64 ((wrap64 ((wrap64 ((wrap64 ((wrap64 (rd l0 a1)) - 224)) * 4096)) + (wrap64 (t192 * 64)))) + t193))) = true := decide_eq_true c17
           clear c17
           replace H := Option.bind_eq_some_iff.mp H
           obtain ⟨t194, A180, H⟩ := H
           replace H : (if t194 = true then (some (wrap64 ((wrap64 ((wrap64 ((wrap64 ((wrap64 (rd l0 a1)) - 224)) * 4096)) + (wrap64 (t192 * 64)))) + t193), 3)) else (some (0, 0))) = some (r1, r2) := H
           have A18 := Aside0.mk A180
           clear A180
           by_cases c19 : t194 = true
           ·subst c19
            have H1 : (some (wrap64 ((wrap64 ((wrap64 ((wrap64 ((wrap64 (rd l0 a1)) - 224)) * 4096)) + (wrap64 (t192 * 64)))) + t193), 3)) = some (r1, r2) := z31
            clear H
            have H := H1
            clear H1
            simp only [Option.some.injEq, Prod.mk.injEq] at H
            obtain ⟨rfl, rfl⟩ := H
            go_wp2_with (first | (go_at_call 63; (with_reducible refine (spec_l2Char.calls (wrap64 ((wrap64 ((wrap64 ((wrap64 ((wrap64 (rd l0 a1)) - 224)) * 4096)) + (wrap64 (t192 * 64)))) + t193)) true _ A18.out).mono ?_); rintro e w' ⟨rfl, ⟨nd, rfl⟩⟩))
            go_ret2
            exact ⟨bS, z2⟩
           ·replace c19 := Bool.eq_false_iff.mpr c19
            subst c19
            have H1 : (some (0, 0)) = some (r1, r2) := z14
            clear H
            have H := H1
            clear H1
            simp only [Option.some.injEq, Prod.mk.injEq] at H
            obtain ⟨rfl, rfl⟩ := H
            go_wp2_with (first | (go_at_call 63; (with_reducible refine (spec_l2Char.calls (wrap64 ((wrap64 ((wrap64 ((wrap64 ((wrap64 (rd l0 a1)) - 224)) * 4096)) + (wrap64 (t192 * 64)))) + t193)) false _ A18.out).mono ?_); rintro e w' ⟨rfl, ⟨nd, rfl⟩⟩))
            go_ret2
            exact ⟨bS, z2⟩
          ·rw [if_neg c17] at H
           have c17b0 : decide (2048 ≤ (wrap64 ((wrap64 ((wrap64 ((wrap64 ((wrap64 (rd l0 a1)) - 224)) * 4096)) + (wrap64 (t192 * 64)))) + t193))) = false := decide_eq_false c17
           clear c17
           simp only [Option.some.injEq, Prod.mk.injEq] at H
           obtain ⟨rfl, rfl⟩ := H
           go_wp2
           go_ret2
           exact ⟨bS, z2⟩
         ·replace c16 := Bool.eq_false_iff.mpr c16
          subst c16
          have H1 : (some (0, 0)) = some (r1, r2) := z14
          clear H
          have H := H1
          clear H1
          simp only [Option.some.injEq, Prod.mk.injEq] at H
          obtain ⟨rfl, rfl⟩ := H
          go_wp2
          go_ret2
          exact ⟨bS, z2⟩
  ·rw [if_neg c4] at H
   exact absurd H (by simp)
 ·rw [if_neg c3] at H
  exact absurd H (by simp)
def spec_l2Cyrillic.j0 : Nat → Int → Bool → Option (Int)
 | 0, _, _ => none
 | k + 1, x0, x3 => if x3 = true then (some x0) else (if x0 = 167 then (some 253) else (if x0 = 8470 then (some 240) else ((spec_l1In.f x0 1025 1119).bind fun t196 => (if t196 = true then (if x0 = 1037 then (some (-1)) else (if x0 = 1104 then (some (-1)) else (if x0 = 1117 then (some (-1)) else (some (wrap64 (x0 - 864)))))) else (some (-1))))))
def spec_l2Cyrillic.f (k : Nat) (a0 : Int) : Option (Int) := (spec_l1In.f a0 0 160).bind fun t195 => (if t195 = true then (spec_l2Cyrillic.j0 k a0 true) else (spec_l2Cyrillic.j0 k a0 (a0 == 173)))
theorem spec_l2Cyrillic.mono_l : ∀ k, (∀ y0 y1, LeO (spec_l2Cyrillic.j0 k y0 y1) (spec_l2Cyrillic.j0 (k + 1) y0 y1))
 | 0 => fun _ _ r h => by simp [spec_l2Cyrillic.j0] at h
 | k + 1 => by
  have ih0 := spec_l2Cyrillic.mono_l k
  ·intro y0 y1
   unfold spec_l2Cyrillic.j0
   repeat' first
   | (with_reducible exact ih0 _ _)
   | (with_reducible exact LeO.refl _)
   | (with_reducible exact LeO.none _)
   | (with_reducible refine LeO.ite ?_ ?_)
   | (with_reducible refine LeO.bind ?_ (fun _ => ?_))
   | exact ih0 _ _
   | exact LeO.none _
   | refine LeO.ite ?_ ?_
   | refine LeO.bind ?_ (fun _ => ?_)
theorem spec_l2Cyrillic.mono : ∀ a0 k, LeO (spec_l2Cyrillic.f k a0) (spec_l2Cyrillic.f (k + 1) a0) := by
 intro a0 k
 have ih0 := spec_l2Cyrillic.mono_l k
 unfold spec_l2Cyrillic.f
 repeat' first
   | (with_reducible exact ih0 _ _)
   | (with_reducible exact LeO.refl _)
   | (with_reducible exact LeO.none _)
   | (with_reducible refine LeO.ite ?_ ?_)
   | (with_reducible refine LeO.bind ?_ (fun _ => ?_))
   | exact ih0 _ _
   | exact LeO.none _
   | refine LeO.ite ?_ ?_
   | refine LeO.bind ?_ (fun _ => ?_)
set_option maxHeartbeats 8000000 in
set_option maxRecDepth 100000 in
theorem spec_l2Cyrillic.calls (k : Nat) (a0 : Int) (r : Int) (w : World) (h : spec_l2Cyrillic.f k a0 = some r) :
  Calls Tryd.prog 112 #[.int .i64 a0] w fun e w' => e = .returned (.int .i64 r) ∧ Drawn0 w w' := by
 have H : ((spec_l1In.f a0 0 160).bind fun t195 => (if t195 = true then (spec_l2Cyrillic.j0 k a0 true) else (spec_l2Cyrillic.j0 k a0 (a0 == 173)))) = some r := h
 clear h
 have HC2 := Aside0.mk H
 clear H
 go_enter Tryd.func112, Tryd.ntmps112
 go_upto_region 1 with (fail)
 go_cut [3] (fun v3 wc => ∃ (kq : Nat) (x3_1 : Bool), v3 = .bool x3_1 ∧ Aside0 (spec_l2Cyrillic.j0 kq a0 x3_1 = some r) ∧ Aside0 (kq ≤ k) ∧ Drawn0 w wc)
 case first =>
  have H := HC2.out
  clear HC2
  replace H := Option.bind_eq_some_iff.mp H
  obtain ⟨t195, A30, H⟩ := H
  replace H : (if t195 = true then (spec_l2Cyrillic.j0 k a0 true) else (spec_l2Cyrillic.j0 k a0 (a0 == 173))) = some r := H
  have A3 := Aside0.mk A30
  clear A30
  by_cases c4 : t195 = true
  ·subst c4
   have H1 : (spec_l2Cyrillic.j0 k a0 true) = some r := z31
   clear H
   have H := H1
   clear H1
   have H' := Aside0.mk H
   clear H
   go_wp2_with (first | ((with_reducible refine gate_callee (f := 32) rfl ?_); refine goesL_ (some 5) rfl rfl Tryd.func32 (by kernel_rfl) rfl #[.int .i64 a0, .int .i64 0, .int .i64 160] rfl bM ?_; (with_reducible refine (spec_l1In.calls a0 0 160 true _ A3.out).mono ?_); rintro e w' ⟨rfl, ⟨nd, rfl⟩⟩; refine ⟨_, rfl, ?_⟩))
   go_meet
   case rel => exact ⟨_, (true), bS, H', ⟨z49⟩, z2⟩
  ·replace c4 := Bool.eq_false_iff.mpr c4
   subst c4
   have H1 : (spec_l2Cyrillic.j0 k a0 (a0 == 173)) = some r := z14
   clear H
   have H := H1
   clear H1
   have H' := Aside0.mk H
   clear H
   go_wp2_with (first | ((with_reducible refine gate_callee (f := 32) rfl ?_); refine goesL_ (some 5) rfl rfl Tryd.func32 (by kernel_rfl) rfl #[.int .i64 a0, .int .i64 0, .int .i64 160] rfl bM ?_; (with_reducible refine (spec_l1In.calls a0 0 160 false _ A3.out).mono ?_); rintro e w' ⟨rfl, ⟨nd, rfl⟩⟩; refine ⟨_, rfl, ?_⟩))
   go_meet
   case rel => exact ⟨_, ((a0 == 173)), bS, H', ⟨z49⟩, z2⟩
 case rest =>
  clear HC2
  try clear c1
  try clear p2
  try clear c3
  try clear c4
  obtain ⟨kq, x3_1, rfl, HA, HJ1, ⟨mc1, rfl⟩⟩ := hcut
  cases kq with
  | zero => exact absurd HA.out (by simp [spec_l2Cyrillic.j0])
  | succ kj1 =>
   have H := HA.out
   clear HA
   simp only [spec_l2Cyrillic.j0] at H
   by_cases c5 : x3_1 = true
   ·subst c5
    have H1 : (some a0) = some r := z31
    clear H
    have H := H1
    clear H1
    obtain rfl := Option.some.inj H
    go_wp2
    go_ret
    exact ⟨bS, z2⟩
   ·replace c5 := Bool.eq_false_iff.mpr c5
    subst c5
    have H1 : (if a0 = 167 then (some 253) else (if a0 = 8470 then (some 240) else ((spec_l1In.f a0 1025 1119).bind fun t196 => (if t196 = true then (if a0 = 1037 then (some (-1)) else (if a0 = 1104 then (some (-1)) else (if a0 = 1117 then (some (-1)) else (some (wrap64 (a0 - 864)))))) else (some (-1)))))) = some r := z14
    clear H
    have H := H1
    clear H1
    by_cases c6 : a0 = 167
    ·rw [if_pos c6] at H
     have c6b0 : (a0 == 167) = true := beq_iff_eq.mpr c6
     have c6b1 : (a0 != 167) = false := bne_eq_false_iff_eq.mpr c6
     clear c6
     obtain rfl := Option.some.inj H
     go_wp2
     go_ret
     exact ⟨bS, z2⟩
    ·rw [if_neg c6] at H
     have c6b0 : (a0 == 167) = false := beq_eq_false_iff_ne.mpr c6
     have c6b1 : (a0 != 167) = true := bne_iff_ne.mpr c6
     by_cases c7 : a0 = 8470
     ·rw [if_pos c7] at H
      have c7b0 : (a0 == 8470) = true := beq_iff_eq.mpr c7
      have c7b1 : (a0 != 8470) = false := bne_eq_false_iff_eq.mpr c7
      clear c7
      obtain rfl := Option.some.inj H
      go_wp2
      go_ret
      exact ⟨bS, z2⟩
     ·rw [if_neg c7] at H
      have c7b0 : (a0 == 8470) = false := beq_eq_false_iff_ne.mpr c7
      have c7b1 : (a0 != 8470) = true := bne_iff_ne.mpr c7
      replace H := Option.bind_eq_some_iff.mp H
      obtain ⟨t196, A80, H⟩ := H
      replace H : (if t196 = true then (if a0 = 1037 then (some (-1)) else (if a0 = 1104 then (some (-1)) else (if a0 = 1117 then (some (-1)) else (some (wrap64 (a0 - 864)))))) else (some (-1))) = some r := H
      have A8 := Aside0.mk A80
      clear A80
      by_cases c9 : t196 = true
      ·subst c9
       have H1 : (if a0 = 1037 then (some (-1)) else (if a0 = 1104 then (some (-1)) else (if a0 = 1117 then (some (-1)) else (some (wrap64 (a0 - 864)))))) = some r := z31
       clear H
       have H := H1
       clear H1
       by_cases c10 : a0 = 1037
       ·rw [if_pos c10] at H
        have c10b0 : (a0 == 1037) = true := beq_iff_eq.mpr c10
        have c10b1 : (a0 != 1037) = false := bne_eq_false_iff_eq.mpr c10
        clear c10
        obtain rfl := Option.some.inj H
        go_wp2_with (first | ((with_reducible refine gate_callee (f := 32) rfl ?_); refine goesL_ (some 19) rfl rfl Tryd.func32 (by kernel_rfl) rfl #[.int .i64 a0, .int .i64 1025, .int .i64 1119] rfl bM ?_; (with_reducible refine (spec_l1In.calls a0 1025 1119 true _ A8.out).mono ?_); rintro e w' ⟨rfl, ⟨nd, rfl⟩⟩; refine ⟨_, rfl, ?_⟩))
        go_ret
        exact ⟨bS, z2⟩
       ·rw [if_neg c10] at H
        have c10b0 : (a0 == 1037) = false := beq_eq_false_iff_ne.mpr c10
        have c10b1 : (a0 != 1037) = true := bne_iff_ne.mpr c10
        by_cases c11 : a0 = 1104
        ·rw [if_pos c11] at H
         have c11b0 : (a0 == 1104) = true := beq_iff_eq.mpr c11
         have c11b1 : (a0 != 1104) = false := bne_eq_false_iff_eq.mpr c11
         clear c11
         obtain rfl := Option.some.inj H
         go_wp2_with (first | ((with_reducible refine gate_callee (f := 32) rfl ?_); refine goesL_ (some 19) rfl rfl Tryd.func32 (by kernel_rfl) rfl #[.int .i64 a0, .int .i64 1025, .int .i64 1119] rfl bM ?_; (with_reducible refine (spec_l1In.calls a0 1025 1119 true _ A8.out).mono ?_); rintro e w' ⟨rfl, ⟨nd, rfl⟩⟩; refine ⟨_, rfl, ?_⟩))
         go_ret
         exact ⟨bS, z2⟩
        ·rw [if_neg c11] at H
         have c11b0 : (a0 == 1104) = false := beq_eq_false_iff_ne.mpr c11
         have c11b1 : (a0 != 1104) = true := bne_iff_ne.mpr c11
         by_cases c12 : a0 = 1117
         ·rw [if_pos c12] at H
          have c12b0 : (a0 == 1117) = true := beq_iff_eq.mpr c12
          have c12b1 : (a0 != 1117) = false := bne_eq_false_iff_eq.mpr c12
          clear c12
          obtain rfl := Option.some.inj H
          go_wp2_with (first | ((with_reducible refine gate_callee (f := 32) rfl ?_); refine goesL_ (some 19) rfl rfl Tryd.func32 (by kernel_rfl) rfl #[.int .i64 a0, .int .i64 1025, .int .i64 1119] rfl bM ?_; (with_reducible refine (spec_l1In.calls a0 1025 1119 true _ A8.out).mono ?_); rintro e w' ⟨rfl, ⟨nd, rfl⟩⟩; refine ⟨_, rfl, ?_⟩))
          go_ret
          exact ⟨bS, z2⟩
         ·rw [if_neg c12] at H
          have c12b0 : (a0 == 1117) = false := beq_eq_false_iff_ne.mpr c12
          have c12b1 : (a0 != 1117) = true := bne_iff_ne.mpr c12
          obtain rfl := Option.some.inj H
          go_wp2_with (first | ((with_reducible refine gate_callee (f := 32) rfl ?_); refine goesL_ (some 19) rfl rfl Tryd.func32 (by kernel_rfl) rfl #[.int .i64 a0, .int .i64 1025, .int .i64 1119] rfl bM ?_; (with_reducible refine (spec_l1In.calls a0 1025 1119 true _ A8.out).mono ?_); rintro e w' ⟨rfl, ⟨nd, rfl⟩⟩; refine ⟨_, rfl, ?_⟩))
          go_ret
          exact ⟨bS, z2⟩
      ·replace c9 := Bool.eq_false_iff.mpr c9
       subst c9
       have H1 : (some (-1)) = some r := z14
       clear H
       have H := H1
       clear H1
       obtain rfl := Option.some.inj H
       go_wp2_with (first | ((with_reducible refine gate_callee (f := 32) rfl ?_); refine goesL_ (some 19) rfl rfl Tryd.func32 (by kernel_rfl) rfl #[.int .i64 a0, .int .i64 1025, .int .i64 1119] rfl bM ?_; (with_reducible refine (spec_l1In.calls a0 1025 1119 false _ A8.out).mono ?_); rintro e w' ⟨rfl, ⟨nd, rfl⟩⟩; refine ⟨_, rfl, ?_⟩))
       go_ret
       exact ⟨bS, z2⟩
def spec_l2Has.f (k : Nat) (a0 : Int) (a1 : Int) : Option (Bool) := if a0 = 1 then ((spec_l1In.f a1 0 127).bind fun t197 => (some t197)) else (if a0 = 2 then ((spec_l1In.f a1 0 255).bind fun t198 => (some t198)) else (if a0 = 3 then ((spec_l2Cyrillic.f k a1).bind fun t199 => (some (decide (t199 ≥ 0)))) else (some true)))
theorem spec_l2Has.mono : ∀ a0 a1 k, LeO (spec_l2Has.f k a0 a1) (spec_l2Has.f (k + 1) a0 a1) := by
 intro a0 a1 k
 unfold spec_l2Has.f
 repeat' first
   | (with_reducible exact spec_l2Cyrillic.mono _ _)
   | (with_reducible exact LeO.refl _)
   | (with_reducible exact LeO.none _)
   | (with_reducible refine LeO.ite ?_ ?_)
   | (with_reducible refine LeO.bind ?_ (fun _ => ?_))
   | exact spec_l2Cyrillic.mono _ _
   | exact LeO.none _
   | refine LeO.ite ?_ ?_
   | refine LeO.bind ?_ (fun _ => ?_)
set_option maxHeartbeats 8000000 in
set_option maxRecDepth 100000 in
theorem spec_l2Has.calls (k : Nat) (a0 : Int) (a1 : Int) (r : Bool) (w : World) (h : spec_l2Has.f k a0 a1 = some r) :
  Calls Tryd.prog 108 #[.int .i64 a0, .int .i64 a1] w fun e w' => e = .returned (.bool r) ∧ Drawn0 w w' := by
 have H : (if a0 = 1 then ((spec_l1In.f a1 0 127).bind fun t197 => (some t197)) else (if a0 = 2 then ((spec_l1In.f a1 0 255).bind fun t198 => (some t198)) else (if a0 = 3 then ((spec_l2Cyrillic.f k a1).bind fun t199 => (some (decide (t199 ≥ 0)))) else (some true)))) = some r := h
 clear h
 by_cases c3 : a0 = 1
 ·rw [if_pos c3] at H
  have c3b0 : (a0 == 1) = true := beq_iff_eq.mpr c3
  have c3b1 : (a0 != 1) = false := bne_eq_false_iff_eq.mpr c3
  clear c3
  replace H := Option.bind_eq_some_iff.mp H
  obtain ⟨t197, A40, H⟩ := H
  replace H : (some t197) = some r := H
  have A4 := Aside0.mk A40
  clear A40
  obtain rfl := Option.some.inj H
  go_enter Tryd.func108, Tryd.ntmps108
  go_wp2_with (first | ((with_reducible refine gate_callee (f := 32) rfl ?_); refine goesL_ (some 9) rfl rfl Tryd.func32 (by kernel_rfl) rfl #[.int .i64 a1, .int .i64 0, .int .i64 127] rfl bM ?_; (with_reducible refine (spec_l1In.calls a1 0 127 t197 _ A4.out).mono ?_); rintro e w' ⟨rfl, ⟨nd, rfl⟩⟩; refine ⟨_, rfl, ?_⟩))
  go_ret
  exact ⟨bS, z2⟩
 ·rw [if_neg c3] at H
  have c3b0 : (a0 == 1) = false := beq_eq_false_iff_ne.mpr c3
  have c3b1 : (a0 != 1) = true := bne_iff_ne.mpr c3
  by_cases c5 : a0 = 2
  ·rw [if_pos c5] at H
   have c5b0 : (a0 == 2) = true := beq_iff_eq.mpr c5
   have c5b1 : (a0 != 2) = false := bne_eq_false_iff_eq.mpr c5
   clear c5
   replace H := Option.bind_eq_some_iff.mp H
   obtain ⟨t198, A60, H⟩ := H
   replace H : (some t198) = some r := H
   have A6 := Aside0.mk A60
   clear A60
   obtain rfl := Option.some.inj H
   go_enter Tryd.func108, Tryd.ntmps108
   go_wp2_with (first | ((with_reducible refine gate_callee (f := 32) rfl ?_); refine goesL_ (some 13) rfl rfl Tryd.func32 (by kernel_rfl) rfl #[.int .i64 a1, .int .i64 0, .int .i64 255] rfl bM ?_; (with_reducible refine (spec_l1In.calls a1 0 255 t198 _ A6.out).mono ?_); rintro e w' ⟨rfl, ⟨nd, rfl⟩⟩; refine ⟨_, rfl, ?_⟩))
   go_ret
   exact ⟨bS, z2⟩
  ·rw [if_neg c5] at H
   have c5b0 : (a0 == 2) = false := beq_eq_false_iff_ne.mpr c5
   have c5b1 : (a0 != 2) = true := bne_iff_ne.mpr c5
   by_cases c7 : a0 = 3
   ·rw [if_pos c7] at H
    have c7b0 : (a0 == 3) = true := beq_iff_eq.mpr c7
    have c7b1 : (a0 != 3) = false := bne_eq_false_iff_eq.mpr c7
    clear c7
    replace H := Option.bind_eq_some_iff.mp H
    obtain ⟨t199, A80, H⟩ := H
    replace H : (some (decide (t199 ≥ 0))) = some r := H
    have A8 := Aside0.mk A80
    clear A80
    obtain rfl := Option.some.inj H
    go_enter Tryd.func108, Tryd.ntmps108
    go_wp2_with (first | ((with_reducible refine gate_callee (f := 112) rfl ?_); refine goesL_ (some 17) rfl rfl Tryd.func112 (by kernel_rfl) rfl #[.int .i64 a1] rfl bM ?_; (with_reducible refine (spec_l2Cyrillic.calls k a1 t199 _ A8.out).mono ?_); rintro e w' ⟨rfl, ⟨nd, rfl⟩⟩; refine ⟨_, rfl, ?_⟩))
    go_ret
    exact ⟨bS, z2⟩
   ·rw [if_neg c7] at H
    have c7b0 : (a0 == 3) = false := beq_eq_false_iff_ne.mpr c7
    have c7b1 : (a0 != 3) = true := bne_iff_ne.mpr c7
    obtain rfl := Option.some.inj H
    go_enter Tryd.func108, Tryd.ntmps108
    go_wp2
    go_ret
    exact ⟨bS, z2⟩
mutual
def spec_l2Single.j0 : Nat → Int → Int → Bool → Option (Int)
 | 0, _, _, _ => none
 | k + 1, x0, x1, x10 => if x10 = true then (some 167) else (if x0 = 3 then (spec_l2Single.j1 k x0 x1 (x1 == 240)) else (spec_l2Single.j1 k x0 x1 false))
def spec_l2Single.j1 : Nat → Int → Int → Bool → Option (Int)
 | 0, _, _, _ => none
 | k + 1, x0, x1, x16 => if x16 = true then (some 8470) else (if x0 = 3 then (if x1 > 160 then (spec_l2Single.j2 k x0 x1 (x1 != 173)) else (spec_l2Single.j2 k x0 x1 false)) else (spec_l2Single.j2 k x0 x1 false))
def spec_l2Single.j2 : Nat → Int → Int → Bool → Option (Int)
 | 0, _, _, _ => none
 | k + 1, x0, x1, x26 => if x26 = true then ((spec_l2Has.f k x0 (wrap64 (x1 + 864))).bind fun t200 => (if t200 = true then (some (wrap64 (x1 + 864))) else (some (-1)))) else ((spec_l2Has.f k x0 x1).bind fun t201 => (if t201 = true then (some x1) else (some (-1))))
end
def spec_l2Single.f (k : Nat) (a0 : Int) (a1 : Int) : Option (Int) := if a0 = 3 then (spec_l2Single.j0 k a0 a1 (a1 == 253)) else (spec_l2Single.j0 k a0 a1 false)
theorem spec_l2Single.mono_l : ∀ k, (∀ y0 y1 y2, LeO (spec_l2Single.j0 k y0 y1 y2) (spec_l2Single.j0 (k + 1) y0 y1 y2)) ∧ (∀ y0 y1 y2, LeO (spec_l2Single.j1 k y0 y1 y2) (spec_l2Single.j1 (k + 1) y0 y1 y2)) ∧ (∀ y0 y1 y2, LeO (spec_l2Single.j2 k y0 y1 y2) (spec_l2Single.j2 (k + 1) y0 y1 y2))
 | 0 => ⟨fun _ _ _ r h => by simp [spec_l2Single.j0] at h, fun _ _ _ r h => by simp [spec_l2Single.j1] at h, fun _ _ _ r h => by simp [spec_l2Single.j2] at h⟩
 | k + 1 => by
  obtain ⟨ih0, ih1, ih2⟩ := spec_l2Single.mono_l k
  refine ⟨?_, ?_, ?_⟩
  ·intro y0 y1 y2
   unfold spec_l2Single.j0
   repeat' first
   | (with_reducible exact ih0 _ _ _)
   | (with_reducible exact ih1 _ _ _)
   | (with_reducible exact ih2 _ _ _)
   | (with_reducible exact spec_l2Has.mono _ _ _)
   | (with_reducible exact LeO.refl _)
   | (with_reducible exact LeO.none _)
   | (with_reducible refine LeO.ite ?_ ?_)
   | (with_reducible refine LeO.bind ?_ (fun _ => ?_))
   | exact ih0 _ _ _
   | exact ih1 _ _ _
   | exact ih2 _ _ _
   | exact spec_l2Has.mono _ _ _
   | exact LeO.none _
   | refine LeO.ite ?_ ?_
   | refine LeO.bind ?_ (fun _ => ?_)
  ·intro y0 y1 y2
   unfold spec_l2Single.j1
   repeat' first
   | (with_reducible exact ih0 _ _ _)
   | (with_reducible exact ih1 _ _ _)
   | (with_reducible exact ih2 _ _ _)
   | (with_reducible exact spec_l2Has.mono _ _ _)
   | (with_reducible exact LeO.refl _)
   | (with_reducible exact LeO.none _)
   | (with_reducible refine LeO.ite ?_ ?_)
   | (with_reducible refine LeO.bind ?_ (fun _ => ?_))
   | exact ih0 _ _ _
   | exact ih1 _ _ _
   | exact ih2 _ _ _
   | exact spec_l2Has.mono _ _ _
   | exact LeO.none _
   | refine LeO.ite ?_ ?_
   | refine LeO.bind ?_ (fun _ => ?_)
  ·intro y0 y1 y2
   unfold spec_l2Single.j2
   repeat' first
   | (with_reducible exact ih0 _ _ _)
   | (with_reducible exact ih1 _ _ _)
   | (with_reducible exact ih2 _ _ _)
   | (with_reducible exact spec_l2Has.mono _ _ _)
   | (with_reducible exact LeO.refl _)
   | (with_reducible exact LeO.none _)
   | (with_reducible refine LeO.ite ?_ ?_)
   | (with_reducible refine LeO.bind ?_ (fun _ => ?_))
   | exact ih0 _ _ _
   | exact ih1 _ _ _
   | exact ih2 _ _ _
   | exact spec_l2Has.mono _ _ _
   | exact LeO.none _
   | refine LeO.ite ?_ ?_
   | refine LeO.bind ?_ (fun _ => ?_)
theorem spec_l2Single.mono : ∀ a0 a1 k, LeO (spec_l2Single.f k a0 a1) (spec_l2Single.f (k + 1) a0 a1) := by
 intro a0 a1 k
 obtain ⟨ih0, ih1, ih2⟩ := spec_l2Single.mono_l k
 unfold spec_l2Single.f
 repeat' first
   | (with_reducible exact ih0 _ _ _)
   | (with_reducible exact ih1 _ _ _)
   | (with_reducible exact ih2 _ _ _)
   | (with_reducible exact spec_l2Has.mono _ _ _)
   | (with_reducible exact LeO.refl _)
   | (with_reducible exact LeO.none _)
   | (with_reducible refine LeO.ite ?_ ?_)
   | (with_reducible refine LeO.bind ?_ (fun _ => ?_))
   | exact ih0 _ _ _
   | exact ih1 _ _ _
   | exact ih2 _ _ _
   | exact spec_l2Has.mono _ _ _
   | exact LeO.none _
   | refine LeO.ite ?_ ?_
   | refine LeO.bind ?_ (fun _ => ?_)
set_option maxHeartbeats 8000000 in
set_option maxRecDepth 100000 in
theorem spec_l2Single.calls (k : Nat) (a0 : Int) (a1 : Int) (r : Int) (w : World) (h : spec_l2Single.f k a0 a1 = some r) :
  Calls Tryd.prog 100 #[.int .i64 a0, .int .i64 a1] w fun e w' => e = .returned (.int .i64 r) ∧ Drawn0 w w' := by
 have H : (if a0 = 3 then (spec_l2Single.j0 k a0 a1 (a1 == 253)) else (spec_l2Single.j0 k a0 a1 false)) = some r := h
 clear h
 have HC3 := Aside0.mk H
 clear H
 go_enter Tryd.func100, Tryd.ntmps100
 go_upto_region 1 with (fail)
 go_cut [10] (fun v10 wc => ∃ (kq : Nat) (x10_2 : Bool), v10 = .bool x10_2 ∧ Aside0 (spec_l2Single.j0 kq a0 a1 x10_2 = some r) ∧ Aside0 (kq ≤ k) ∧ Drawn0 w wc)
 case first =>
  have H := HC3.out
  clear HC3
  by_cases c4 : a0 = 3
  ·rw [if_pos c4] at H
   have c4b0 : (a0 == 3) = true := beq_iff_eq.mpr c4
   have c4b1 : (a0 != 3) = false := bne_eq_false_iff_eq.mpr c4
   clear c4
   (first | rw [c4b0] | (simp only [i64_w, i32_w]; rw [c4b0]) | skip)
   have H' := Aside0.mk H
   clear H
   go_wp2
   go_meet
   case rel => exact ⟨_, ((a1 == 253)), bS, H', ⟨z49⟩, z2⟩
  ·rw [if_neg c4] at H
   have c4b0 : (a0 == 3) = false := beq_eq_false_iff_ne.mpr c4
   have c4b1 : (a0 != 3) = true := bne_iff_ne.mpr c4
   (first | rw [c4b0] | (simp only [i64_w, i32_w]; rw [c4b0]) | skip)
   have H' := Aside0.mk H
   clear H
   go_wp2
   go_meet
   case rel => exact ⟨_, (false), bS, H', ⟨z49⟩, z2⟩
 case rest =>
  clear HC3
  try clear c1
  try clear p2
  try clear c4
  try clear c4b0
  try clear c4b1
  obtain ⟨kq, x10_2, rfl, HA, HJ2, ⟨mc2, rfl⟩⟩ := hcut
  cases kq with
  | zero => exact absurd HA.out (by simp [spec_l2Single.j0])
  | succ kj2 =>
   have H := HA.out
   clear HA
   simp only [spec_l2Single.j0] at H
   by_cases c5 : x10_2 = true
   ·subst c5
    have H1 : (some 167) = some r := z31
    clear H
    have H := H1
    clear H1
    obtain rfl := Option.some.inj H
    go_wp2
    go_ret
    exact ⟨bS, z2⟩
   ·replace c5 := Bool.eq_false_iff.mpr c5
    subst c5
    have H1 : (if a0 = 3 then (spec_l2Single.j1 kj2 a0 a1 (a1 == 240)) else (spec_l2Single.j1 kj2 a0 a1 false)) = some r := z14
    clear H
    have H := H1
    clear H1
    have HC6 := Aside0.mk H
    clear H
    go_upto_region 3 with (fail)
    go_cut [16] (fun v16 wc => ∃ (kq : Nat) (x16_5 : Bool), v16 = .bool x16_5 ∧ Aside0 (spec_l2Single.j1 kq a0 a1 x16_5 = some r) ∧ Aside0 (kq ≤ kj2) ∧ Drawn0 w wc)
    case first =>
     have H := HC6.out
     clear HC6
     by_cases c7 : a0 = 3
     ·rw [if_pos c7] at H
      have c7b0 : (a0 == 3) = true := beq_iff_eq.mpr c7
      have c7b1 : (a0 != 3) = false := bne_eq_false_iff_eq.mpr c7
      clear c7
      (first | rw [c7b0] | (simp only [i64_w, i32_w]; rw [c7b0]) | skip)
      have H' := Aside0.mk H
      clear H
      go_wp2
      go_meet
      case rel => exact ⟨_, ((a1 == 240)), bS, H', ⟨z45 HJ2.out⟩, z2⟩
     ·rw [if_neg c7] at H
      have c7b0 : (a0 == 3) = false := beq_eq_false_iff_ne.mpr c7
      have c7b1 : (a0 != 3) = true := bne_iff_ne.mpr c7
      (first | rw [c7b0] | (simp only [i64_w, i32_w]; rw [c7b0]) | skip)
      have H' := Aside0.mk H
      clear H
      go_wp2
      go_meet
      case rel => exact ⟨_, (false), bS, H', ⟨z45 HJ2.out⟩, z2⟩
    case rest =>
     clear HC6
     try clear c1
     try clear c2
     try clear p2
     try clear c4
     try clear c4b0
     try clear c4b1
     try clear c5
     try clear c7
     try clear c7b0
     try clear c7b1
     try clear p2
     obtain ⟨kq, x16_5, rfl, HA, HJ5, ⟨mc5, rfl⟩⟩ := hcut
     cases kq with
     | zero => exact absurd HA.out (by simp [spec_l2Single.j1])
     | succ kj5 =>
      have H := HA.out
      clear HA
      simp only [spec_l2Single.j1] at H
      by_cases c8 : x16_5 = true
      ·subst c8
       have H1 : (some 8470) = some r := z31
       clear H
       have H := H1
       clear H1
       obtain rfl := Option.some.inj H
       go_wp2
       go_ret
       exact ⟨bS, z2⟩
      ·replace c8 := Bool.eq_false_iff.mpr c8
       subst c8
       have H1 : (if a0 = 3 then (if a1 > 160 then (spec_l2Single.j2 kj5 a0 a1 (a1 != 173)) else (spec_l2Single.j2 kj5 a0 a1 false)) else (spec_l2Single.j2 kj5 a0 a1 false)) = some r := z14
       clear H
       have H := H1
       clear H1
       have HC9 := Aside0.mk H
       clear H
       go_upto_region 5 with (fail)
       go_cut [26] (fun v26 wc => ∃ (kq : Nat) (x26_8 : Bool), v26 = .bool x26_8 ∧ Aside0 (spec_l2Single.j2 kq a0 a1 x26_8 = some r) ∧ Aside0 (kq ≤ kj5) ∧ Drawn0 w wc)
       case first =>
        have H := HC9.out
        clear HC9
        by_cases c10 : a0 = 3
        ·rw [if_pos c10] at H
         have c10b0 : (a0 == 3) = true := beq_iff_eq.mpr c10
         have c10b1 : (a0 != 3) = false := bne_eq_false_iff_eq.mpr c10
         clear c10
         (first | rw [c10b0] | (simp only [i64_w, i32_w]; rw [c10b0]) | skip)
         by_cases c11 : a1 > 160
         ·rw [if_pos c11] at H
          have c11b0 : decide (160 < a1) = true := decide_eq_true c11
          clear c11
          have H' := Aside0.mk H
          clear H
          go_wp2
          go_meet
          case rel => exact ⟨_, ((a1 != 173)), bS, H', ⟨z37 HJ2.out HJ5.out⟩, z2⟩
         ·rw [if_neg c11] at H
          have c11b0 : decide (160 < a1) = false := decide_eq_false c11
          clear c11
          have H' := Aside0.mk H
          clear H
          go_wp2
          go_meet
          case rel => exact ⟨_, (false), bS, H', ⟨z37 HJ2.out HJ5.out⟩, z2⟩
        ·rw [if_neg c10] at H
         have c10b0 : (a0 == 3) = false := beq_eq_false_iff_ne.mpr c10
         have c10b1 : (a0 != 3) = true := bne_iff_ne.mpr c10
         (first | rw [c10b0] | (simp only [i64_w, i32_w]; rw [c10b0]) | skip)
         have H' := Aside0.mk H
         clear H
         go_wp2
         go_meet
         case rel => exact ⟨_, (false), bS, H', ⟨z37 HJ2.out HJ5.out⟩, z2⟩
       case rest =>
        clear HC9
        try clear c1
        try clear c2
        try clear p2
        try clear c4
        try clear c4b0
        try clear c4b1
        try clear c5
        try clear c7
        try clear c7b0
        try clear c7b1
        try clear c8
        try clear c10
        try clear c10b0
        try clear c10b1
        try clear c11
        try clear c11b0
        try clear p2
        obtain ⟨kq, x26_8, rfl, HA, HJ8, ⟨mc8, rfl⟩⟩ := hcut
        cases kq with
        | zero => exact absurd HA.out (by simp [spec_l2Single.j2])
        | succ kj8 =>
         have H := HA.out
         clear HA
         simp only [spec_l2Single.j2] at H
         by_cases c12 : x26_8 = true
         ·subst c12
          have H1 : ((spec_l2Has.f kj8 a0 (wrap64 (a1 + 864))).bind fun t200 => (if t200 = true then (some (wrap64 (a1 + 864))) else (some (-1)))) = some r := z31
          clear H
          have H := H1
          clear H1
          replace H := Option.bind_eq_some_iff.mp H
          obtain ⟨t200, A130, H⟩ := H
          replace H : (if t200 = true then (some (wrap64 (a1 + 864))) else (some (-1))) = some r := H
          have A13 := Aside0.mk A130
          clear A130
          by_cases c14 : t200 = true
          ·subst c14
           have H1 : (some (wrap64 (a1 + 864))) = some r := z31
           clear H
           have H := H1
           clear H1
           obtain rfl := Option.some.inj H
           go_wp2_with (first | ((with_reducible refine gate_callee (f := 108) rfl ?_); refine goesL_ (some 31) rfl rfl Tryd.func108 (by kernel_rfl) rfl #[.int .i64 a0, .int .i64 (wrap64 (a1 + 864))] rfl bM ?_; (with_reducible refine (spec_l2Has.calls kj8 a0 (wrap64 (a1 + 864)) true _ A13.out).mono ?_); rintro e w' ⟨rfl, ⟨nd, rfl⟩⟩; refine ⟨_, rfl, ?_⟩))
           go_ret
           exact ⟨bS, z2⟩
          ·replace c14 := Bool.eq_false_iff.mpr c14
           subst c14
           have H1 : (some (-1)) = some r := z14
           clear H
           have H := H1
           clear H1
           obtain rfl := Option.some.inj H
           go_wp2_with (first | ((with_reducible refine gate_callee (f := 108) rfl ?_); refine goesL_ (some 31) rfl rfl Tryd.func108 (by kernel_rfl) rfl #[.int .i64 a0, .int .i64 (wrap64 (a1 + 864))] rfl bM ?_; (with_reducible refine (spec_l2Has.calls kj8 a0 (wrap64 (a1 + 864)) false _ A13.out).mono ?_); rintro e w' ⟨rfl, ⟨nd, rfl⟩⟩; refine ⟨_, rfl, ?_⟩))
           go_ret
           exact ⟨bS, z2⟩
         ·replace c12 := Bool.eq_false_iff.mpr c12
          subst c12
          have H1 : ((spec_l2Has.f kj8 a0 a1).bind fun t201 => (if t201 = true then (some a1) else (some (-1)))) = some r := z14
          clear H
          have H := H1
          clear H1
          replace H := Option.bind_eq_some_iff.mp H
          obtain ⟨t201, A150, H⟩ := H
          replace H : (if t201 = true then (some a1) else (some (-1))) = some r := H
          have A15 := Aside0.mk A150
          clear A150
          by_cases c16 : t201 = true
          ·subst c16
           have H1 : (some a1) = some r := z31
           clear H
           have H := H1
           clear H1
           obtain rfl := Option.some.inj H
           go_wp2_with (first | ((with_reducible refine gate_callee (f := 108) rfl ?_); refine goesL_ (some 31) rfl rfl Tryd.func108 (by kernel_rfl) rfl #[.int .i64 a0, .int .i64 a1] rfl bM ?_; (with_reducible refine (spec_l2Has.calls kj8 a0 a1 true _ A15.out).mono ?_); rintro e w' ⟨rfl, ⟨nd, rfl⟩⟩; refine ⟨_, rfl, ?_⟩))
           go_ret
           exact ⟨bS, z2⟩
          ·replace c16 := Bool.eq_false_iff.mpr c16
           subst c16
           have H1 : (some (-1)) = some r := z14
           clear H
           have H := H1
           clear H1
           obtain rfl := Option.some.inj H
           go_wp2_with (first | ((with_reducible refine gate_callee (f := 108) rfl ?_); refine goesL_ (some 31) rfl rfl Tryd.func108 (by kernel_rfl) rfl #[.int .i64 a0, .int .i64 a1] rfl bM ?_; (with_reducible refine (spec_l2Has.calls kj8 a0 a1 false _ A15.out).mono ?_); rintro e w' ⟨rfl, ⟨nd, rfl⟩⟩; refine ⟨_, rfl, ?_⟩))
           go_ret
           exact ⟨bS, z2⟩
def spec_l2One.f (k : Nat) (a0 : Int) (l1 : List Int) (a2 : Int) : Option (Int × Int) := if a0 = 4 then ((spec_l2Utf8.f k l1 a2).bind fun bt202 => (some (bt202.1, bt202.2))) else (if a0 = 5 then (if (wrap64 (a2 + 1)) ≥ (l1.length : Int) then (some (0, 0)) else (if 0 ≤ a2 then (if a2 < (l1.length : Int) then (if 0 ≤ (wrap64 (a2 + 1)) then (if (wrap64 (a2 + 1)) < (l1.length : Int) then ((spec_l2Char.f (wrap64 ((wrap64 ((wrap64 (rd l1 a2)) * 256)) + (wrap64 (rd l1 (wrap64 (a2 + 1))))))).bind fun t206 => (if t206 = true then (some (wrap64 ((wrap64 ((wrap64 (rd l1 a2)) * 256)) + (wrap64 (rd l1 (wrap64 (a2 + 1))))), 2)) else (some (0, 0)))) else (none)) else (none)) else (none)) else (none))) else (if 0 ≤ a2 then (if a2 < (l1.length : Int) then ((spec_l2Single.f k a0 (wrap64 (rd l1 a2))).bind fun t208 => (if t208 < 0 then (some (0, 0)) else (some (t208, 1)))) else (none)) else (none)))
theorem spec_l2One.mono : ∀ a0 a1 a2 k, LeO (spec_l2One.f k a0 a1 a2) (spec_l2One.f (k + 1) a0 a1 a2) := by
 intro a0 a1 a2 k
 unfold spec_l2One.f
 repeat' first
   | (with_reducible exact spec_l2Single.mono _ _ _)
   | (with_reducible exact spec_l2Utf8.mono _ _ _)
   | (with_reducible exact LeO.refl _)
   | (with_reducible exact LeO.none _)
   | (with_reducible refine LeO.ite ?_ ?_)
   | (with_reducible refine LeO.bind ?_ (fun _ => ?_))
   | exact spec_l2Single.mono _ _ _
   | exact spec_l2Utf8.mono _ _ _
   | exact LeO.none _
   | refine LeO.ite ?_ ?_
   | refine LeO.bind ?_ (fun _ => ?_)
set_option maxHeartbeats 8000000 in
set_option maxRecDepth 100000 in
theorem spec_l2One.calls (k : Nat) (a0 : Int) (A1 : Option Addr) (c1 : Nat) (l1 : List Int) (a2 : Int) (r1 : Int) (r2 : Int) (w : World) (hr1 : Kd.C (Kd.int .u8) w A1 l1.length l1) (hc1 : l1.length ≤ c1) (h : spec_l2One.f k a0 l1 a2 = some (r1, r2)) :
  Calls Tryd.prog 83 #[.int .i64 a0, .slice A1 l1.length c1, .int .i64 a2] w fun e w' => e = .returned (.tuple #[.int .i64 r1, .int .i64 r2]) ∧ Drawn0 w w' := by
 have HR1 := Aside0.mk hr1
 have HC1 := Aside0.mk hc1
 clear hr1 hc1
 have H : (if a0 = 4 then ((spec_l2Utf8.f k l1 a2).bind fun bt202 => (some (bt202.1, bt202.2))) else (if a0 = 5 then (if (wrap64 (a2 + 1)) ≥ (l1.length : Int) then (some (0, 0)) else (if 0 ≤ a2 then (if a2 < (l1.length : Int) then (if 0 ≤ (wrap64 (a2 + 1)) then (if (wrap64 (a2 + 1)) < (l1.length : Int) then ((spec_l2Char.f (wrap64 ((wrap64 ((wrap64 (rd l1 a2)) * 256)) + (wrap64 (rd l1 (wrap64 (a2 + 1))))))).bind fun t206 => (if t206 = true then (some (wrap64 ((wrap64 ((wrap64 (rd l1 a2)) * 256)) + (wrap64 (rd l1 (wrap64 (a2 + 1))))), 2)) else (some (0, 0)))) else (none)) else (none)) else (none)) else (none))) else (if 0 ≤ a2 then (if a2 < (l1.length : Int) then ((spec_l2Single.f k a0 (wrap64 (rd l1 a2))).bind fun t208 => (if t208 < 0 then (some (0, 0)) else (some (t208, 1)))) else (none)) else (none)))) = some (r1, r2) := h
 clear h
 by_cases c4 : a0 = 4
 ·rw [if_pos c4] at H
  have c4b0 : (a0 == 4) = true := beq_iff_eq.mpr c4
  have c4b1 : (a0 != 4) = false := bne_eq_false_iff_eq.mpr c4
  clear c4
  replace H := Option.bind_eq_some_iff.mp H
  obtain ⟨⟨t202, t203⟩, A50, H⟩ := H
  replace H : (some (t202, t203)) = some (r1, r2) := H
  have A5 := Aside0.mk A50
  clear A50
  simp only [Option.some.injEq, Prod.mk.injEq] at H
  obtain ⟨rfl, rfl⟩ := H
  go_enter Tryd.func83, Tryd.ntmps83
  go_wp2_with (first | (go_at_call 49; (with_reducible refine (spec_l2Utf8.calls k _ _ l1 a2 t202 t203 _ ?side1 ?side2 A5.out).mono ?_); (case side1 => exact z52 HR1.out); (case side2 => exact HC1.out); rintro e w' ⟨rfl, ⟨nd, rfl⟩⟩; (try first | exact ⟨rfl, _, World.drewN_drewN _ _ _⟩ | exact ⟨rfl, _, Eq.trans (World.drewN_drewN _ _ _) (congrArg (World.drewN _) (Nat.add_assoc _ _ _))⟩)))
  repeat (go_quiet (first | (go_at_call 49; (with_reducible refine (spec_l2Utf8.calls k _ _ l1 a2 t202 t203 _ ?side1 ?side2 A5.out).mono ?_); (case side1 => exact z52 HR1.out); (case side2 => exact HC1.out); rintro e w' ⟨rfl, ⟨nd, rfl⟩⟩; (try first | exact ⟨rfl, _, World.drewN_drewN _ _ _⟩ | exact ⟨rfl, _, Eq.trans (World.drewN_drewN _ _ _) (congrArg (World.drewN _) (Nat.add_assoc _ _ _))⟩))); try go_wp2_with (first | (go_at_call 49; (with_reducible refine (spec_l2Utf8.calls k _ _ l1 a2 t202 t203 _ ?side1 ?side2 A5.out).mono ?_); (case side1 => exact z52 HR1.out); (case side2 => exact HC1.out); rintro e w' ⟨rfl, ⟨nd, rfl⟩⟩; (try first | exact ⟨rfl, _, World.drewN_drewN _ _ _⟩ | exact ⟨rfl, _, Eq.trans (World.drewN_drewN _ _ _) (congrArg (World.drewN _) (Nat.add_assoc _ _ _))⟩))))
  go_ret2
  exact ⟨bS, z2⟩
 ·rw [if_neg c4] at H
  have c4b0 : (a0 == 4) = false := beq_eq_false_iff_ne.mpr c4
  have c4b1 : (a0 != 4) = true := bne_iff_ne.mpr c4
  by_cases c6 : a0 = 5
  ·rw [if_pos c6] at H
   have c6b0 : (a0 == 5) = true := beq_iff_eq.mpr c6
   have c6b1 : (a0 != 5) = false := bne_eq_false_iff_eq.mpr c6
   clear c6
   by_cases c7 : (wrap64 (a2 + 1)) ≥ (l1.length : Int)
   ·rw [if_pos c7] at H
    have c7b0 : decide ((l1.length : Int) ≤ (wrap64 (a2 + 1))) = true := decide_eq_true c7
    clear c7
    simp only [Option.some.injEq, Prod.mk.injEq] at H
    obtain ⟨rfl, rfl⟩ := H
    go_enter Tryd.func83, Tryd.ntmps83
    go_wp2
    repeat (go_quiet (fail); try go_wp2)
    go_ret2
    exact ⟨bS, z2⟩
   ·rw [if_neg c7] at H
    have c7b0 : decide ((l1.length : Int) ≤ (wrap64 (a2 + 1))) = false := decide_eq_false c7
    clear c7
    by_cases c8 : 0 ≤ a2
    ·rw [if_pos c8] at H
     have c8b0 : decide (0 ≤ a2) = true := decide_eq_true c8
     clear c8
     by_cases c9 : a2 < (l1.length : Int)
     ·rw [if_pos c9] at H
      have c9b0 : decide (a2 < (l1.length : Int)) = true := decide_eq_true c9
      clear c9
      obtain ⟨ji10, hji10⟩ : ∃ j_ : Int, (wrap64 (a2 + 1)) = j_ := ⟨_, rfl⟩
      replace H : (if 0 ≤ (ji10) then (if (ji10) < (l1.length : Int) then ((spec_l2Char.f (wrap64 ((wrap64 ((wrap64 (rd l1 a2)) * 256)) + (wrap64 (rd l1 (ji10)))))).bind fun t206 => (if t206 = true then (some (wrap64 ((wrap64 ((wrap64 (rd l1 a2)) * 256)) + (wrap64 (rd l1 (ji10)))), 2)) else (some (0, 0)))) else (none)) else (none)) = some (r1, r2) := by first | (rw [hji10] at H; exact H) | (simp only [hji10] at H ⊢; exact H)
      (try rw [hji10] at c7b0)
      have hji10w : (IntKind.i64.wrap (a2 + 1)) = ji10 := (i64_w _).trans hji10
      by_cases c11 : 0 ≤ (ji10)
      ·rw [if_pos c11] at H
       have c11b0 : decide (0 ≤ (ji10)) = true := decide_eq_true c11
       clear c11
       by_cases c12 : (ji10) < (l1.length : Int)
       ·rw [if_pos c12] at H
        have c12b0 : decide ((ji10) < (l1.length : Int)) = true := decide_eq_true c12
        clear c12
        replace H := Option.bind_eq_some_iff.mp H
        obtain ⟨t206, A130, H⟩ := H
        replace H : (if t206 = true then (some (wrap64 ((wrap64 ((wrap64 (rd l1 a2)) * 256)) + (wrap64 (rd l1 (ji10)))), 2)) else (some (0, 0))) = some (r1, r2) := H
        have A13 := Aside0.mk A130
        clear A130
        have HQ_ := Aside0.mk H
        clear H
        have p204 : 0 ≤ (a2 : Int) := pI
        have q204 : a2 < (l1.length : Int) := pI
        obtain ⟨ad204, e204, hx204_0⟩ := Kd.at_int HR1.out a2 p204 q204
        cases e204
        replace p204 := eq_true p204
        replace q204 := eq_true q204
        have p205 : 0 ≤ ((ji10) : Int) := pI
        have q205 : (ji10) < (l1.length : Int) := pI
        obtain ⟨ad205, e205, hx205_0⟩ := Kd.at_int HR1.out (ji10) p205 q205
        obtain rfl : ad204 = ad205 := (by injection e205)
        replace p205 := eq_true p205
        replace q205 := eq_true q205
        go_enter Tryd.func83, Tryd.ntmps83
        have H := HQ_.out
        clear HQ_
        by_cases c14 : t206 = true
        ·subst c14
         have H1 : (some (wrap64 ((wrap64 ((wrap64 (rd l1 a2)) * 256)) + (wrap64 (rd l1 (ji10)))), 2)) = some (r1, r2) := z31
         clear H
         have H := H1
         clear H1
         simp only [Option.some.injEq, Prod.mk.injEq] at H
         obtain ⟨rfl, rfl⟩ := H
         go_wp2_with (first | (go_at_call 63; (with_reducible refine (spec_l2Char.calls (wrap64 ((wrap64 ((wrap64 (rd l1 a2)) * 256)) + (wrap64 (rd l1 (ji10))))) true _ A13.out).mono ?_); rintro e w' ⟨rfl, ⟨nd, rfl⟩⟩; (try first | exact ⟨rfl, _, World.drewN_drewN _ _ _⟩ | exact ⟨rfl, _, Eq.trans (World.drewN_drewN _ _ _) (congrArg (World.drewN _) (Nat.add_assoc _ _ _))⟩)))
         repeat (go_quiet (first | (go_at_call 63; (with_reducible refine (spec_l2Char.calls (wrap64 ((wrap64 ((wrap64 (rd l1 a2)) * 256)) + (wrap64 (rd l1 (ji10))))) true _ A13.out).mono ?_); rintro e w' ⟨rfl, ⟨nd, rfl⟩⟩; (try first | exact ⟨rfl, _, World.drewN_drewN _ _ _⟩ | exact ⟨rfl, _, Eq.trans (World.drewN_drewN _ _ _) (congrArg (World.drewN _) (Nat.add_assoc _ _ _))⟩))); try go_wp2_with (first | (go_at_call 63; (with_reducible refine (spec_l2Char.calls (wrap64 ((wrap64 ((wrap64 (rd l1 a2)) * 256)) + (wrap64 (rd l1 (ji10))))) true _ A13.out).mono ?_); rintro e w' ⟨rfl, ⟨nd, rfl⟩⟩; (try first | exact ⟨rfl, _, World.drewN_drewN _ _ _⟩ | exact ⟨rfl, _, Eq.trans (World.drewN_drewN _ _ _) (congrArg (World.drewN _) (Nat.add_assoc _ _ _))⟩))))
         go_ret2
         exact ⟨by first | rfl | (simp; done) | (simp only [← hji10] <;> (first | rfl | simp)) | (simp [*]; done), z2⟩
        ·replace c14 := Bool.eq_false_iff.mpr c14
         subst c14
         have H1 : (some (0, 0)) = some (r1, r2) := z14
         clear H
         have H := H1
         clear H1
         simp only [Option.some.injEq, Prod.mk.injEq] at H
         obtain ⟨rfl, rfl⟩ := H
         go_wp2_with (first | (go_at_call 63; (with_reducible refine (spec_l2Char.calls (wrap64 ((wrap64 ((wrap64 (rd l1 a2)) * 256)) + (wrap64 (rd l1 (ji10))))) false _ A13.out).mono ?_); rintro e w' ⟨rfl, ⟨nd, rfl⟩⟩; (try first | exact ⟨rfl, _, World.drewN_drewN _ _ _⟩ | exact ⟨rfl, _, Eq.trans (World.drewN_drewN _ _ _) (congrArg (World.drewN _) (Nat.add_assoc _ _ _))⟩)))
         repeat (go_quiet (first | (go_at_call 63; (with_reducible refine (spec_l2Char.calls (wrap64 ((wrap64 ((wrap64 (rd l1 a2)) * 256)) + (wrap64 (rd l1 (ji10))))) false _ A13.out).mono ?_); rintro e w' ⟨rfl, ⟨nd, rfl⟩⟩; (try first | exact ⟨rfl, _, World.drewN_drewN _ _ _⟩ | exact ⟨rfl, _, Eq.trans (World.drewN_drewN _ _ _) (congrArg (World.drewN _) (Nat.add_assoc _ _ _))⟩))); try go_wp2_with (first | (go_at_call 63; (with_reducible refine (spec_l2Char.calls (wrap64 ((wrap64 ((wrap64 (rd l1 a2)) * 256)) + (wrap64 (rd l1 (ji10))))) false _ A13.out).mono ?_); rintro e w' ⟨rfl, ⟨nd, rfl⟩⟩; (try first | exact ⟨rfl, _, World.drewN_drewN _ _ _⟩ | exact ⟨rfl, _, Eq.trans (World.drewN_drewN _ _ _) (congrArg (World.drewN _) (Nat.add_assoc _ _ _))⟩))))
         go_ret2
         exact ⟨by first | rfl | (simp; done) | (simp only [← hji10] <;> (first | rfl | simp)) | (simp [*]; done), z2⟩
       ·rw [if_neg c12] at H
        exact absurd H (by simp)
      ·rw [if_neg c11] at H
       exact absurd H (by simp)
     ·rw [if_neg c9] at H
      exact absurd H (by simp)
    ·rw [if_neg c8] at H
     exact absurd H (by simp)
  ·rw [if_neg c6] at H
   have c6b0 : (a0 == 5) = false := beq_eq_false_iff_ne.mpr c6
   have c6b1 : (a0 != 5) = true := bne_iff_ne.mpr c6
   by_cases c15 : 0 ≤ a2
   ·rw [if_pos c15] at H
    have c15b0 : decide (0 ≤ a2) = true := decide_eq_true c15
    clear c15
    by_cases c16 : a2 < (l1.length : Int)
    ·rw [if_pos c16] at H
     have c16b0 : decide (a2 < (l1.length : Int)) = true := decide_eq_true c16
     clear c16
     replace H := Option.bind_eq_some_iff.mp H
     obtain ⟨t208, A170, H⟩ := H
     replace H : (if t208 < 0 then (some (0, 0)) else (some (t208, 1))) = some (r1, r2) := H
     have A17 := Aside0.mk A170
     clear A170
     have HQ_ := Aside0.mk H
     clear H
     have p207 : 0 ≤ (a2 : Int) := pI
     have q207 : a2 < (l1.length : Int) := pI
     obtain ⟨ad207, e207, hx207_0⟩ := Kd.at_int HR1.out a2 p207 q207
     cases e207
     replace p207 := eq_true p207
     replace q207 := eq_true q207
     go_enter Tryd.func83, Tryd.ntmps83
     have H := HQ_.out
     clear HQ_
     by_cases c18 : t208 < 0
     ·rw [if_pos c18] at H
      have c18b0 : decide (t208 < 0) = true := decide_eq_true c18
      clear c18
      simp only [Option.some.injEq, Prod.mk.injEq] at H
      obtain ⟨rfl, rfl⟩ := H
      (try simp only [c18b0])
      go_wp2_with (first | (go_at_call 100; (with_reducible refine (spec_l2Single.calls k a0 (wrap64 (rd l1 a2)) t208 _ A17.out).mono ?_); rintro e w' ⟨rfl, ⟨nd, rfl⟩⟩; (try first | exact ⟨rfl, _, World.drewN_drewN _ _ _⟩ | exact ⟨rfl, _, Eq.trans (World.drewN_drewN _ _ _) (congrArg (World.drewN _) (Nat.add_assoc _ _ _))⟩)))
      repeat (go_quiet (first | (go_at_call 100; (with_reducible refine (spec_l2Single.calls k a0 (wrap64 (rd l1 a2)) t208 _ A17.out).mono ?_); rintro e w' ⟨rfl, ⟨nd, rfl⟩⟩; (try first | exact ⟨rfl, _, World.drewN_drewN _ _ _⟩ | exact ⟨rfl, _, Eq.trans (World.drewN_drewN _ _ _) (congrArg (World.drewN _) (Nat.add_assoc _ _ _))⟩))); try go_wp2_with (first | (go_at_call 100; (with_reducible refine (spec_l2Single.calls k a0 (wrap64 (rd l1 a2)) t208 _ A17.out).mono ?_); rintro e w' ⟨rfl, ⟨nd, rfl⟩⟩; (try first | exact ⟨rfl, _, World.drewN_drewN _ _ _⟩ | exact ⟨rfl, _, Eq.trans (World.drewN_drewN _ _ _) (congrArg (World.drewN _) (Nat.add_assoc _ _ _))⟩))))
      go_ret2
      exact ⟨bS, z2⟩
     ·rw [if_neg c18] at H
      have c18b0 : decide (t208 < 0) = false := decide_eq_false c18
      clear c18
      simp only [Option.some.injEq, Prod.mk.injEq] at H
      obtain ⟨rfl, rfl⟩ := H
      (try simp only [c18b0])
      go_wp2_with (first | (go_at_call 100; (with_reducible refine (spec_l2Single.calls k a0 (wrap64 (rd l1 a2)) t208 _ A17.out).mono ?_); rintro e w' ⟨rfl, ⟨nd, rfl⟩⟩; (try first | exact ⟨rfl, _, World.drewN_drewN _ _ _⟩ | exact ⟨rfl, _, Eq.trans (World.drewN_drewN _ _ _) (congrArg (World.drewN _) (Nat.add_assoc _ _ _))⟩)))
      repeat (go_quiet (first | (go_at_call 100; (with_reducible refine (spec_l2Single.calls k a0 (wrap64 (rd l1 a2)) t208 _ A17.out).mono ?_); rintro e w' ⟨rfl, ⟨nd, rfl⟩⟩; (try first | exact ⟨rfl, _, World.drewN_drewN _ _ _⟩ | exact ⟨rfl, _, Eq.trans (World.drewN_drewN _ _ _) (congrArg (World.drewN _) (Nat.add_assoc _ _ _))⟩))); try go_wp2_with (first | (go_at_call 100; (with_reducible refine (spec_l2Single.calls k a0 (wrap64 (rd l1 a2)) t208 _ A17.out).mono ?_); rintro e w' ⟨rfl, ⟨nd, rfl⟩⟩; (try first | exact ⟨rfl, _, World.drewN_drewN _ _ _⟩ | exact ⟨rfl, _, Eq.trans (World.drewN_drewN _ _ _) (congrArg (World.drewN _) (Nat.add_assoc _ _ _))⟩))))
      go_ret2
      exact ⟨bS, z2⟩
    ·rw [if_neg c16] at H
     exact absurd H (by simp)
   ·rw [if_neg c15] at H
    exact absurd H (by simp)
end Go.Proofs.YtjopgmjmjnfcjaaDoor.PDecodeWords
