/- Part of the proof; words that it uses. -/
import Derived.Test.YtecpanfndodjgaaDoorPPathOfx0
import Derived.Test.YtecpanfndodjgaaDoorPPathOfx1
import Derived.Test.YtecpanfndodjgaaDoorPPathOfx2
import Derived.Test.YtecpanfndodjgaaDoorPPathOfx4
namespace Go.Proofs.YtecpanfndodjgaaDoor.PPathOf
open Go.RowKit Go.Proofs.YtecpanfndodjgaaDoorW.PrintWords Go.Proofs.YtecpanfndodjgaaDoorW.PrintLast Go.Proofs.YtecpanfndodjgaaDoorW.PrintMore
attribute [local go_sem] max2_int max_two
set_option linter.unusedVariables false
set_option linter.unusedSimpArgs false
mutual
def spec_l5Spans.l0 : Nat → List Int → Int → ByteArray → List (S127) → Int → Int → Option ((List (S127)))
 | 0, _, _, _, _, _, _ => none
 | k + 1, x0, x2, x3, x9, x10, x11 => if x11 < x2 then (if 0 ≤ x2 then (if x2 ≤ (x0.length : Int) then ((spec_l4End.f k (x0.take (x2 : Int).toNat) x11).bind fun t247 => ((spec_l5Line.f x0 x11 t247 x3).bind fun t248 => (if t248 > 0 then (spec_l5Spans.j1 k x0 x2 x3 x9 x10 x11 t247 t248 (decide (x10 ≥ 0))) else (spec_l5Spans.j1 k x0 x2 x3 x9 x10 x11 t247 t248 false)))) else (none)) else (none)) else (if x10 ≥ 0 then (if x9.length < 8796093022208 then (some (x9 ++ [(⟨x10, x2⟩ : S127)])) else (none)) else (some x9))
def spec_l5Spans.j1 : Nat → List Int → Int → ByteArray → List (S127) → Int → Int → Int → Int → Bool → Option ((List (S127)))
 | 0, _, _, _, _, _, _, _, _, _ => none
 | k + 1, x0, x2, x3, x9, x10, x11, x12, x13, x34 => if x34 = true then ((spec_l1Max.f x10 (wrap64 (x11 - 1))).bind fun t249 => (if x9.length < 8796093022208 then (spec_l5Spans.j2 k x0 x2 x3 (x9 ++ [(⟨x10, t249⟩ : S127)]) x10 x12 x13) else (none))) else (spec_l5Spans.j2 k x0 x2 x3 x9 x10 x12 x13)
def spec_l5Spans.j2 : Nat → List Int → Int → ByteArray → List (S127) → Int → Int → Int → Option ((List (S127)))
 | 0, _, _, _, _, _, _, _ => none
 | k + 1, x0, x2, x3, x9, x10, x12, x13 => if x13 = 2 then (some x9) else (if x13 = 1 then ((spec_l1Min.f (wrap64 (x12 + 1)) x2).bind fun t253 => (spec_l5Spans.l0 k x0 x2 x3 x9 t253 (wrap64 (x12 + 1)))) else (spec_l5Spans.l0 k x0 x2 x3 x9 x10 (wrap64 (x12 + 1))))
end
def spec_l5Spans.f (k : Nat) (l0 : List Int) (a1 : Int) (a2 : Int) (a3 : ByteArray) : Option ((List (S127))) := spec_l5Spans.l0 k l0 a2 a3 (([] : List (S127))) (-1) a1
set_option maxHeartbeats 8000000 in
set_option maxRecDepth 100000 in
theorem spec_l5Spans.calls (k : Nat) (A0 : Option Addr) (c0 : Nat) (l0 : List Int) (a1 : Int) (a2 : Int) (a3 : ByteArray) (r : List (S127)) (w : World) (hr0 : Kd.C (Kd.int .u8) w A0 l0.length l0) (hc0 : l0.length ≤ c0) (h : spec_l5Spans.f k l0 a1 a2 a3 = some r) :
  Calls Tryd.prog 107 #[.slice A0 l0.length c0, .int .i64 a1, .int .i64 a2, .string a3] w fun e w' => ∃ v0_ : Value, e = .returned (v0_) ∧ Kd.R k127 127 w' w.heap.size (fun _ => True) v0_ r ∧ Below w.heap.size w w' := by
 have hu127 := Tryd.underlying127
 have HR0 := aM hr0
 have HC0 := aM hc0
 clear hr0 hc0
 have HB := aM (Below.refl w.heap.size w)
 have H : (spec_l5Spans.l0 k l0 a2 a3 (([] : List (S127))) (-1) a1) = some r := h
 clear h
 obtain ⟨y240, hy240⟩ : ∃ y_ : List (S127), y_ = (([] : List (S127))) := ⟨_, rfl⟩
 replace H : (spec_l5Spans.l0 k l0 a2 a3 y240 (-1) a1) = some r := zz0 hy240
 have Ny240 := aM hy240
 clear hy240
 have H' := aM H
 clear H
 go_enter Tryd.func107, Tryd.ntmps107
 go_wp2_with (first | ((with_reducible refine gate_dst (N := 14) rfl ?_); refine Kd.R_lit k127 _ 127 ?hg (N := 14) ?hd (xs := ([] : List (S127))) (inner := []) (ok := fun _ => True) (okp := fun _ => True) ?hr ?hp (fun _ hk => hk) trivial (Below.refl _ _) (Nat.le_refl _) (by simp) ?_; (case hd => rfl); (case hg => rfl); (case hr => exact zz12); (case hp => exact (Reps.none _ _)); intro v241 w5 ho6 hb hg_ hnew_; clear hg_ hnew_; (first | rw [← Ny240.out] at ho6 | (simp only [Int.reduceToNat] at ho6; rw [← Ny240.out] at ho6)); have HO242 := aM (Kd.R_lower ho6 (below_size bB)); replace HB := aM (below_step bB hb); clear hb ho6))
 go_loopg [9, 10, 11] k (fun kq v9 v10 v11 w' => ∃ (x9_1 : List (S127)) (x10_1 : Int) (x11_1 : Int), v10 = .int .i64 x10_1 ∧ v11 = .int .i64 x11_1 ∧ Aside0 (spec_l5Spans.l0 kq l0 a2 a3 x9_1 x10_1 x11_1 = some r) ∧ Aside0 (kq ≤ k) ∧ Aside0 (Kd.R k127 127 w' w.heap.size (fun _ => True) v9 x9_1) ∧ Aside0 (Below w.heap.size w w'))
 case atStart => exact ⟨(y240), ((-1)), (a1), bS, bS, H', ⟨Nat.le_refl _⟩, ⟨bR HO242⟩, ⟨bB⟩⟩
 case round =>
  clear H'
  try clear c1
  try clear p2
  obtain ⟨x9_1, x10_1, x11_1, rfl, rfl, HA, HK1, HO_9, HB⟩ := hrel
  cases gk with
  | zero => exact absurd HA.out (by simp [spec_l5Spans.l0])
  | succ k1 =>
   have H := HA.out
   clear HA
   simp only [spec_l5Spans.l0] at H
   by_cases c7 : x11_1 < a2
   ·rw [if_pos c7] at H
    have c7b0 : decide (x11_1 < a2) = true := decide_eq_true c7
    clear c7
    by_cases c8 : 0 ≤ a2
    ·rw [if_pos c8] at H
     have c8b0 := eq_true c8
     have c8b1 : decide (0 ≤ a2) = true := decide_eq_true c8
     clear c8
     by_cases c9 : a2 ≤ (l0.length : Int)
     ·rw [if_pos c9] at H
      have c9b0 := eq_true c9
      have c9b1 : decide (a2 ≤ (l0.length : Int)) = true := decide_eq_true c9
      (try have c9z := eq_true (show (a2 : Int) ≤ (c0 : Int) from (by have h_ := HC0.out; omega)))
      clear c9
      replace H := Option.bind_eq_some_iff.mp H
      obtain ⟨t247, A100, H⟩ := H
      replace H : ((spec_l5Line.f l0 x11_1 t247 a3).bind fun t248 => (if t248 > 0 then (spec_l5Spans.j1 k1 l0 a2 a3 x9_1 x10_1 x11_1 t247 t248 (decide (x10_1 ≥ 0))) else (spec_l5Spans.j1 k1 l0 a2 a3 x9_1 x10_1 x11_1 t247 t248 false))) = some r := H
      have A10 := aM A100
      clear A100
      replace H := Option.bind_eq_some_iff.mp H
      obtain ⟨t248, A110, H⟩ := H
      replace H : (if t248 > 0 then (spec_l5Spans.j1 k1 l0 a2 a3 x9_1 x10_1 x11_1 t247 t248 (decide (x10_1 ≥ 0))) else (spec_l5Spans.j1 k1 l0 a2 a3 x9_1 x10_1 x11_1 t247 t248 false)) = some r := H
      have A11 := aM A110
      clear A110
      have HC12 := aM H
      clear H
      obtain ⟨i013, hi013, _, hsz13, _⟩ := info_parts info5
      obtain ⟨hcut13, hA13, hC13⟩ := print_take_of (P := Tryd.prog) (Value.int .u8) 0 27 5 .i64 Tryd.underlying27 hi013 hsz13 A0 c0 l0 a2 (pI) (pI) HC0.out
      have HR246 := aM (Kd.C_of_reads (h1 := fun _ => rfl) (hA13 _ (Kd.reads_of_C HR0.out)))
      have HC246 := aM hC13
      clear hA13 hC13 hi013 hsz13
      go_upto_region 7 with (first | ((with_reducible refine gate_callee (f := 128) rfl ?_); refine goesL_ (some 23) rfl rfl Tryd.func128 (by kernel_rfl) rfl #[.slice A0 (l0.take (a2 : Int).toNat).length c0, .int .i64 x11_1] rfl (by (try simp only [List.map_toArray, List.map_cons, List.map_nil]); first | done | (rw [show (l0.take (a2 : Int).toNat).length = a2.toNat from (by rw [List.length_take]; have h_ : (a2 : Int) ≤ (l0.length : Int) := pI; omega)] <;> rfl) | rfl | (simp only [List.length_drop, List.length_take]; rfl)) ?_; (with_reducible refine (spec_l4End.calls k1 _ _ (l0.take (a2 : Int).toNat) x11_1 t247 _ ?side1 ?side2 A10.out).mono ?_); (case side1 => exact zz5 HR246.out); (case side2 => exact HC246.out); rintro e w' ⟨rfl, ⟨nd, rfl⟩⟩; refine ⟨_, rfl, ?_⟩) | ((with_reducible refine gate_callee (f := 129) rfl ?_); refine gL_ (some 28) Tryd.func129 #[.slice A0 l0.length c0, .int .i64 x11_1, .int .i64 t247, .string a3] ?_; (with_reducible refine (spec_l5Line.calls _ _ l0 x11_1 t247 a3 t248 _ ?side1 ?side2 A11.out).mono ?_); (case side1 => repeat (first | exact (Kd.C_below HR0.out bB) | (with_reducible refine Kd.C_alloc ?_ _) | (with_reducible refine Kd.C_drewN ?_ _) | (with_reducible refine Kd.C_drew ?_))); (case side2 => exact HC0.out); rintro e w' ⟨rfl, ⟨nd, rfl⟩⟩; refine ⟨_, rfl, ?_⟩))
      (try simp only [Act.put, List.setIfInBounds_toArray, List.set_cons_zero, List.set_cons_succ])
      go_cut [34] (fun v34 wc => ∃ (kq : Nat) (x34_11 : Bool), v34 = .bool x34_11 ∧ Aside0 (spec_l5Spans.j1 kq l0 a2 a3 x9_1 x10_1 x11_1 t247 t248 x34_11 = some r) ∧ Aside0 (kq ≤ k1) ∧ Aside0 (Kd.R k127 127 wc w.heap.size (fun _ => True) u9 x9_1) ∧ Aside0 (Below w.heap.size w wc))
      case first =>
       have H := HC12.out
       clear HC12
       by_cases c14 : t248 > 0
       ·rw [if_pos c14] at H
        have c14b0 : decide (0 < t248) = true := decide_eq_true c14
        clear c14
        (first | rw [c14b0] | (simp only [i64_w, i32_w]; rw [c14b0]) | skip)
        have H' := aM H
        clear H
        go_wp2
        go_meet
        case rel => exact ⟨_, (decide (x10_1 ≥ 0)), bS, H', ⟨zz43 HK1.out⟩, ⟨bR HO_9⟩, ⟨bB⟩⟩
       rw [if_neg c14] at H
       have c14b0 : decide (0 < t248) = false := decide_eq_false c14
       clear c14
       (first | rw [c14b0] | (simp only [i64_w, i32_w]; rw [c14b0]) | skip)
       have H' := aM H
       clear H
       go_wp2
       go_meet
       case rel => exact ⟨_, (false), bS, H', ⟨zz43 HK1.out⟩, ⟨bR HO_9⟩, ⟨bB⟩⟩
      case rest =>
       clear HC12
       try clear c1
       try clear p2
       try clear c7
       try clear c7b0
       try clear c8
       try clear c8b0
       try clear c8b1
       try clear c9
       try clear c9b0
       try clear c9b1
       try clear c10
       try clear c12
       try clear c14
       try clear c14b0
       try clear p2
       obtain ⟨kq, x34_11, rfl, HA, HJ11, HO_9, HB⟩ := hcut
       cases kq with
       | zero => exact absurd HA.out (by simp [spec_l5Spans.j1])
       | succ kj11 =>
        have H := HA.out
        clear HA
        simp only [spec_l5Spans.j1] at H
        have HC15 := aM H
        clear H
        go_upto_if 34 with (fail)
        go_cut [9] (fun v9 wc => ∃ (kq : Nat) (x9_14 : List (S127)), Aside0 (spec_l5Spans.j2 kq l0 a2 a3 x9_14 x10_1 t247 t248 = some r) ∧ Aside0 (kq ≤ kj11) ∧ Aside0 (Kd.R k127 127 wc w.heap.size (fun _ => True) v9 x9_14) ∧ Aside0 (Below w.heap.size w wc))
        case first =>
         have H := HC15.out
         clear HC15
         by_cases c16 : x34_11 = true
         ·subst c16
          have H1 : ((spec_l1Max.f x10_1 (wrap64 (x11_1 - 1))).bind fun t249 => (if x9_1.length < 8796093022208 then (spec_l5Spans.j2 kj11 l0 a2 a3 (x9_1 ++ [(⟨x10_1, t249⟩ : S127)]) x10_1 t247 t248) else (none))) = some r := zz25
          clear H
          have H := H1
          clear H1
          replace H := Option.bind_eq_some_iff.mp H
          obtain ⟨t249, A170, H⟩ := H
          replace H : (if x9_1.length < 8796093022208 then (spec_l5Spans.j2 kj11 l0 a2 a3 (x9_1 ++ [(⟨x10_1, t249⟩ : S127)]) x10_1 t247 t248) else (none)) = some r := H
          have A17 := aM A170
          clear A170
          by_cases c18 : x9_1.length < 8796093022208
          ·rw [if_pos c18] at H
           have LMc18 := aM c18
           clear c18
           obtain ⟨y250, hy250⟩ : ∃ y_ : List (S127), y_ = (x9_1 ++ [(⟨x10_1, t249⟩ : S127)]) := ⟨_, rfl⟩
           replace H : (spec_l5Spans.j2 kj11 l0 a2 a3 y250 x10_1 t247 t248) = some r := zz0 hy250
           have Ny250 := aM hy250
           clear hy250
           have H' := aM H
           clear H
           go_wp2_with (first | ((with_reducible refine gate_callee (f := 130) rfl ?_); refine gL_ (some 40) Tryd.func130 #[.int .i64 x10_1, .int .i64 (wrap64 (x11_1 - 1))] ?_; (with_reducible refine (spec_l1Max.calls x10_1 (wrap64 (x11_1 - 1)) t249 _ A17.out).mono ?_); rintro e w' ⟨rfl, ⟨nd, rfl⟩⟩; refine ⟨_, rfl, ?_⟩) | ((with_reducible refine gate_builtin (b := .append) (xs := #[.tmp 35, .tmp 42]) rfl ?_); at_builtin; refine Kd.R_append k127 (w0 := w) w.heap.size rfl (.tmp 35) (.tmp 42) 124 127 (.agg #[(.int .i64 0), (.int .i64 0)]) 16 rfl Tryd.underlying124 info127 rfl (by decide) (by omega) u9 x9_1 (⟨x10_1, t249⟩ : S127) [.int .i64 x10_1, .int .i64 t249] (fun _ => True) (fun _ => False) rfl rfl ?aP (fun _ hk => hk.elim) ?aF ?aO ?aB ?aS ?aL ?_; (case aP => exact k127_mkM _ _ _ (⟨x10_1, t249⟩ : S127)); (case aB => exact bB); (case aF => exact (fun _ _ => trivial)); (case aO => exact (bR HO_9)); (case aS => exact (below_size bB)); (case aL => have := LMc18.out; omega); intro v251 w19 ho hb hg hat; rw [← Ny250.out] at ho; have n0_ := aM (hb); have n1_ := aM (ho); clear HB; clear HO_9; have HB := n0_; have HO252 := n1_; clear n0_ n1_; clear ho hb hg hat))
           go_meet
           case rel => exact ⟨_, (y250), H', ⟨zz51 HK1.out HJ11.out⟩, ⟨bR HO252⟩, ⟨bB⟩⟩
          rw [if_neg c18] at H
          exact absurd H (by simp)
         replace c16 := Bool.eq_false_iff.mpr c16
         subst c16
         have H1 : (spec_l5Spans.j2 kj11 l0 a2 a3 x9_1 x10_1 t247 t248) = some r := zz14
         clear H
         have H := H1
         clear H1
         have H' := aM H
         clear H
         go_wp2
         go_meet
         case rel => exact ⟨_, (x9_1), H', ⟨zz51 HK1.out HJ11.out⟩, ⟨bR HO_9⟩, ⟨bB⟩⟩
        case rest =>
         clear HC15
         try clear c1
         try clear p2
         try clear p6
         try clear c7
         try clear c7b0
         try clear c8
         try clear c8b0
         try clear c8b1
         try clear c9
         try clear c9b0
         try clear c9b1
         try clear c10
         try clear c12
         try clear c13
         try clear c14
         try clear c14b0
         try clear c16
         try clear c18
         try clear p2
         obtain ⟨kq, x9_14, HA, HJ14, HO_9, HB⟩ := hcut
         cases kq with
         | zero => exact absurd HA.out (by simp [spec_l5Spans.j2])
         | succ kj14 =>
          have H := HA.out
          clear HA
          simp only [spec_l5Spans.j2] at H
          by_cases c20 : t248 = 2
          ·rw [if_pos c20] at H
           have c20b0 : (t248 == 2) = true := beq_iff_eq.mpr c20
           have c20b1 : (t248 != 2) = false := bne_eq_false_iff_eq.mpr c20
           clear c20
           obtain rfl := Option.some.inj H
           go_wp2
           go_ret
           exact ⟨_, bE, bR HO_9, bB⟩
          rw [if_neg c20] at H
          have c20b0 : (t248 == 2) = false := beq_eq_false_iff_ne.mpr c20
          have c20b1 : (t248 != 2) = true := bne_iff_ne.mpr c20
          by_cases c21 : t248 = 1
          ·rw [if_pos c21] at H
           have c21b0 : (t248 == 1) = true := beq_iff_eq.mpr c21
           have c21b1 : (t248 != 1) = false := bne_eq_false_iff_eq.mpr c21
           clear c21
           replace H := Option.bind_eq_some_iff.mp H
           obtain ⟨t253, A220, H⟩ := H
           replace H : (spec_l5Spans.l0 kj14 l0 a2 a3 x9_14 t253 (wrap64 (t247 + 1))) = some r := H
           have A22 := aM A220
           clear A220
           have H' := aM H
           clear H
           go_wp2_with (first | ((with_reducible refine gate_callee (f := 131) rfl ?_); refine gL_ (some 52) Tryd.func131 #[.int .i64 (wrap64 (t247 + 1)), .int .i64 a2] ?_; (with_reducible refine (spec_l1Min.calls (wrap64 (t247 + 1)) a2 t253 _ A22.out).mono ?_); rintro e w' ⟨rfl, ⟨nd, rfl⟩⟩; refine ⟨_, rfl, ?_⟩))
           go_roundg kj14
           case measure => have := HK1.out; have := HJ11.out; have := HJ14.out; omega
           case rel => exact ⟨(x9_14), (t253), (wrap64 (t247 + 1)), bS, bS, H', ⟨by have := HK1.out; have := HJ11.out; have := HJ14.out; omega⟩, ⟨bR HO_9⟩, ⟨bB⟩⟩
          rw [if_neg c21] at H
          have c21b0 : (t248 == 1) = false := beq_eq_false_iff_ne.mpr c21
          have c21b1 : (t248 != 1) = true := bne_iff_ne.mpr c21
          have H' := aM H
          clear H
          go_wp2
          go_roundg kj14
          case measure => have := HK1.out; have := HJ11.out; have := HJ14.out; omega
          case rel => exact ⟨(x9_14), (x10_1), (wrap64 (t247 + 1)), bS, bS, H', ⟨by have := HK1.out; have := HJ11.out; have := HJ14.out; omega⟩, ⟨bR HO_9⟩, ⟨bB⟩⟩
     rw [if_neg c9] at H
     exact absurd H (by simp)
    rw [if_neg c8] at H
    exact absurd H (by simp)
   rw [if_neg c7] at H
   have c7b0 : decide (x11_1 < a2) = false := decide_eq_false c7
   clear c7
   by_cases c23 : x10_1 ≥ 0
   ·rw [if_pos c23] at H
    have c23b0 : decide (0 ≤ x10_1) = true := decide_eq_true c23
    clear c23
    by_cases c24 : x9_1.length < 8796093022208
    ·rw [if_pos c24] at H
     have LMc24 := aM c24
     clear c24
     obtain ⟨y243, hy243⟩ : ∃ y_ : List (S127), y_ = (x9_1 ++ [(⟨x10_1, a2⟩ : S127)]) := ⟨_, rfl⟩
     replace H : (some y243) = some r := zz0 hy243
     have Ny243 := aM hy243
     clear hy243
     obtain rfl := Option.some.inj H
     go_wp2_with (first | ((with_reducible refine gate_builtin (b := .append) (xs := #[.tmp 57, .tmp 61]) rfl ?_); at_builtin; refine Kd.R_append k127 (w0 := w) w.heap.size rfl (.tmp 57) (.tmp 61) 124 127 (.agg #[(.int .i64 0), (.int .i64 0)]) 16 rfl Tryd.underlying124 info127 rfl (by decide) (by omega) u9 x9_1 (⟨x10_1, a2⟩ : S127) [.int .i64 x10_1, .int .i64 a2] (fun _ => True) (fun _ => False) rfl rfl ?aP (fun _ hk => hk.elim) ?aF ?aO ?aB ?aS ?aL ?_; (case aP => exact k127_mkM _ _ _ (⟨x10_1, a2⟩ : S127)); (case aB => exact bB); (case aF => exact (fun _ _ => trivial)); (case aO => exact (bR HO_9)); (case aS => exact (below_size bB)); (case aL => have := LMc24.out; omega); intro v244 w25 ho hb hg hat; rw [← Ny243.out] at ho; have n0_ := aM (hb); have n1_ := aM (ho); clear HB; clear HO_9; have HB := n0_; have HO245 := n1_; clear n0_ n1_; clear ho hb hg hat))
     go_ret
     exact ⟨_, bE, bR HO245, bB⟩
    rw [if_neg c24] at H
    exact absurd H (by simp)
   rw [if_neg c23] at H
   have c23b0 : decide (0 ≤ x10_1) = false := decide_eq_false c23
   clear c23
   obtain rfl := Option.some.inj H
   go_wp2
   go_ret
   exact ⟨_, bE, bR HO_9, bB⟩
mutual
def spec_l5Add.j0 : Nat → List (S23) → List Int → Int → ByteArray → Int → Bool → Int → Int → Int → Int → Int → Int → Int → Option ((List (S23)))
 | 0, _, _, _, _, _, _, _, _, _, _, _, _, _ => none
 | k + 1, x0, x1, x6, x16, x17, x49, x263000, x263001, x263002, x263003, x263004, x263005, x263006 => if x49 = true then (some x0) else ((spec_l5Spans.f k x1 x263003 x263004 x16).bind fun t267 => (spec_l5Add.l0 k x0 x1 x6 x17 t267 0))
def spec_l5Add.l0 : Nat → List (S23) → List Int → Int → Int → List (S127) → Int → Option ((List (S23)))
 | 0, _, _, _, _, _, _ => none
 | k + 1, x0, x1, x6, x17, x18, x19 => if x19 < (x18.length : Int) then (if (x0.length : Int) < 8 then (if 0 ≤ x19 then ((spec_l5Add.f k x0 x1 ((rd_T127 x18 x19).f0) ((rd_T127 x18 x19).f1) x17 (wrap64 (x19 + 1)) (wrap64 (x6 + 1))).bind fun t272 => (spec_l5Add.l0 k t272 x1 x6 x17 x18 (wrap64 (x19 + 1)))) else (none)) else (some x0)) else (some x0)
def spec_l5Add.f : Nat → List (S23) → List Int → Int → Int → Int → Int → Int → Option ((List (S23)))
 | 0, _, _, _, _, _, _, _ => none
 | k + 1, l0, l1, a2, a3, a4, a5, a6 => (spec_l5One.f k l1 a2 a3).bind fun bt254 => (if l0.length < 2513169434916 then ((some (l0 ++ [(⟨bt254.1, bt254.2.1, bt254.2.2.1, bt254.2.2.2.1, bt254.2.2.2.2.1, a4, a5⟩ : S23)] : List (S23))).bind fun y263 => (if bt254.1 = 2 then (if a6 ≥ 3 then (spec_l5Add.j0 k y263 l1 a6 bt254.2.2.2.2.2.2.2 (l0.length : Int) true bt254.1 bt254.2.1 bt254.2.2.1 bt254.2.2.2.1 bt254.2.2.2.2.1 a4 a5) else ((spec_l1In.f (bt254.2.2.2.2.2.2.2.size : Int) 1 20).bind fun t266 => (spec_l5Add.j0 k y263 l1 a6 bt254.2.2.2.2.2.2.2 (l0.length : Int) (!t266) bt254.1 bt254.2.1 bt254.2.2.1 bt254.2.2.2.1 bt254.2.2.2.2.1 a4 a5))) else (spec_l5Add.j0 k y263 l1 a6 bt254.2.2.2.2.2.2.2 (l0.length : Int) true bt254.1 bt254.2.1 bt254.2.2.1 bt254.2.2.2.1 bt254.2.2.2.2.1 a4 a5))) else (none))
end
def spec_l5Add.T12 : Bool × List (List Nat × List Nat) := (true, [([], []), ([], []), ([], []), ([], []), ([2, 3], [2, 3]), ([4], [4]), ([5], [5]), ([], []), ([], []), ([7, 8], [7, 8]), ([9], [9]), ([10], [10]), ([], []), ([], []), ([13], [13]), ([], []), ([15], [15]), ([0, 1, 6, 11, 12, 14, 16], [0, 1, 6, 11, 12, 14, 16]), ([17, 17, 0, 1, 2, 3, 4, 5, 6, 7, 8, 9, 10, 11, 12, 13, 14, 15, 16, 17], [0, 17])])
def spec_l5Add.B12 : List Nat := [0, 0, 0, 0, 12, 28, 60, 0, 0, 384, 896, 1920, 0, 0, 8192, 0, 32768, 131071, 262143]
theorem spec_l5Add.tab12 : rtab .any (opsOf Tryd.f83 12) = spec_l5Add.T12 := by kernel_rfl
theorem spec_l5Add.bits12 : waitsOk spec_l5Add.T12.2 spec_l5Add.B12 = true := by kernel_rfl
set_option maxHeartbeats 8000000 in
set_option maxRecDepth 100000 in
theorem spec_l5Add.calls (k : Nat) : ∀ (P0_ : Nat → Prop) (u9000_ : Value) (l0 : List (S23)) (A1 : Option Addr) (c1 : Nat) (l1 : List Int) (a2 : Int) (a3 : Int) (a4 : Int) (a5 : Int) (a6 : Int) (r : List (S23)) (w0 w : World) (hB : Below w0.heap.size w0 w) (ho0 : Kd.R k23 23 w w0.heap.size P0_ u9000_ l0) (hr1 : ∀ W_, Kept w W_ (fun k_ => P0_ k_) → Kd.C (Kd.int .u8) W_ A1 l1.length l1) (hc1 : l1.length ≤ c1) (h : spec_l5Add.f k l0 l1 a2 a3 a4 a5 a6 = some r),
  Calls Tryd.prog 83 #[u9000_, .slice A1 l1.length c1, .int .i64 a2, .int .i64 a3, .int .i64 a4, .int .i64 a5, .int .i64 a6] w fun e w' => ∃ v0_ : Value, e = .returned (v0_) ∧ Kd.R k23 23 w' w0.heap.size (fun k_ => (P0_ k_ ∨ w.heap.size ≤ k_)) v0_ r ∧ Below w0.heap.size w0 w' ∧ Kept w w' (fun k_ => P0_ k_) := by
 induction k using Nat.strongRecOn with
 | _ k ih =>
 intro P0_ u9000_ l0 A1 c1 l1 a2 a3 a4 a5 a6 r w0 w hB ho0 hr1 hc1 h
 cases k with
 | zero => exact absurd h (by simp [spec_l5Add.f])
 | succ k =>
 simp only [spec_l5Add.f] at h
 have hu23 := Tryd.underlying23
 have HO0 := aM (show Kd.R k23 23 w w0.heap.size (fun k_ => (P0_ k_ ∨ w.heap.size ≤ k_)) u9000_ l0 from Kd.R_mono ho0 (fun k_ hk => (.inl hk)))
 have HR1 := aM hr1
 have HC1 := aM hc1
 clear hr1 hc1
 have HK := aM (Kept.refl w (fun k_ => P0_ k_))
 have HW0 := aM hB.size
 have HB := aM hB
 clear hB
 have H : ((spec_l5One.f k l1 a2 a3).bind fun bt254 => (if l0.length < 2513169434916 then ((some (l0 ++ [(⟨bt254.1, bt254.2.1, bt254.2.2.1, bt254.2.2.2.1, bt254.2.2.2.2.1, a4, a5⟩ : S23)] : List (S23))).bind fun y263 => (if bt254.1 = 2 then (if a6 ≥ 3 then (spec_l5Add.j0 k y263 l1 a6 bt254.2.2.2.2.2.2.2 (l0.length : Int) true bt254.1 bt254.2.1 bt254.2.2.1 bt254.2.2.2.1 bt254.2.2.2.2.1 a4 a5) else ((spec_l1In.f (bt254.2.2.2.2.2.2.2.size : Int) 1 20).bind fun t266 => (spec_l5Add.j0 k y263 l1 a6 bt254.2.2.2.2.2.2.2 (l0.length : Int) (!t266) bt254.1 bt254.2.1 bt254.2.2.1 bt254.2.2.2.1 bt254.2.2.2.2.1 a4 a5))) else (spec_l5Add.j0 k y263 l1 a6 bt254.2.2.2.2.2.2.2 (l0.length : Int) true bt254.1 bt254.2.1 bt254.2.2.1 bt254.2.2.2.1 bt254.2.2.2.2.1 a4 a5))) else (none))) = some r := h
 clear h
 replace H := Option.bind_eq_some_iff.mp H
 obtain ⟨⟨t254, t255, t256, t257, t258, t259, t260, t261⟩, A80, H⟩ := H
 replace H : (if l0.length < 2513169434916 then ((some (l0 ++ [(⟨t254, t255, t256, t257, t258, a4, a5⟩ : S23)] : List (S23))).bind fun y263 => (if t254 = 2 then (if a6 ≥ 3 then (spec_l5Add.j0 k y263 l1 a6 t261 (l0.length : Int) true t254 t255 t256 t257 t258 a4 a5) else ((spec_l1In.f (t261.size : Int) 1 20).bind fun t266 => (spec_l5Add.j0 k y263 l1 a6 t261 (l0.length : Int) (!t266) t254 t255 t256 t257 t258 a4 a5))) else (spec_l5Add.j0 k y263 l1 a6 t261 (l0.length : Int) true t254 t255 t256 t257 t258 a4 a5))) else (none)) = some r := H
 have A8 := aM A80
 clear A80
 by_cases c9 : l0.length < 2513169434916
 ·rw [if_pos c9] at H
  have LMc9 := aM c9
  clear c9
  obtain ⟨y263, hy263⟩ : ∃ y_ : List (S23), y_ = (l0 ++ [(⟨t254, t255, t256, t257, t258, a4, a5⟩ : S23)]) := ⟨_, rfl⟩
  replace H : (if t254 = 2 then (if a6 ≥ 3 then (spec_l5Add.j0 k y263 l1 a6 t261 (l0.length : Int) true t254 t255 t256 t257 t258 a4 a5) else ((spec_l1In.f (t261.size : Int) 1 20).bind fun t266 => (spec_l5Add.j0 k y263 l1 a6 t261 (l0.length : Int) (!t266) t254 t255 t256 t257 t258 a4 a5))) else (spec_l5Add.j0 k y263 l1 a6 t261 (l0.length : Int) true t254 t255 t256 t257 t258 a4 a5)) = some r := zz0 hy263
  have Ny263 := aM hy263
  clear hy263
  have HC10 := aM H
  clear H
  go_enter Tryd.func83, Tryd.ntmps83
  go_upto_region 6 with (first | ((with_reducible refine gate_callee (f := 106) rfl ?_); refine gL_ (some 24) Tryd.func106 #[.slice A1 l1.length c1, .int .i64 a2, .int .i64 a3] ?_; (with_reducible refine (spec_l5One.calls k _ _ l1 a2 a3 t254 t255 t256 t257 t258 t259 t260 t261 _ ?side1 ?side2 A8.out).mono ?_); (case side1 => exact Kd.C_kept_now HR1.out bK); (case side2 => exact HC1.out); rintro e w11 ⟨rfl, hb⟩; refine ⟨_, rfl, ?_⟩; replace HO0 := aM (Kd.R_below (bR HO0) hb); replace HK := aM (Kept.below (S := (fun k_ => P0_ k_)) bK hb); replace HB := aM (below_step bB hb); (try clear hi)) | ((with_reducible refine gate_dst (N := 15) rfl ?_); (try (refine gate_guard (by rfl) ?_; dsimp only)); refine box_event ?hg (N := 15) ?hd (cs := #[.int .i64 0, .int .i64 0, .int .i64 0, .int .i64 0, .int .i64 0, .int .i64 0, .int .i64 0]) (t := 23) ?hr ?_; (case hd => rfl); (case hg => rfl); (case hr => exact zz12); intro gb262 hg w12 hbox hb; replace HO0 := aM (Kd.R_below (Kd.R_elderB (bR HO0) gb262 (Nat.le_of_eq hg.symm)) hb); have BK262 := aM (hbox); have GW262 := aM ((by rw [hg]; exact (by first | exact HK.out.1 | exact (show Kept w _ (fun k_ => P0_ k_) from bK).1) : w.heap.size ≤ gb262)); replace HK := aM (Kept.below (S := (fun k_ => P0_ k_)) bK hb); have GE262 := aM ((zz20 : w0.heap.size ≤ gb262)); replace HB := aM (below_step bB hb); clear hb hbox hg; have hcz13_0 : w12.cell? ⟨gb262, 0, none⟩ = some (.int .i64 0) := (blk_cell BK262.out 0).trans rfl; have hcz13_1 : w12.cell? ⟨gb262, 1, none⟩ = some (.int .i64 0) := (blk_cell BK262.out 1).trans rfl; have hcz13_2 : w12.cell? ⟨gb262, 2, none⟩ = some (.int .i64 0) := (blk_cell BK262.out 2).trans rfl; have hcz13_3 : w12.cell? ⟨gb262, 3, none⟩ = some (.int .i64 0) := (blk_cell BK262.out 3).trans rfl; have hcz13_4 : w12.cell? ⟨gb262, 4, none⟩ = some (.int .i64 0) := (blk_cell BK262.out 4).trans rfl; have hcz13_5 : w12.cell? ⟨gb262, 5, none⟩ = some (.int .i64 0) := (blk_cell BK262.out 5).trans rfl; have hcz13_6 : w12.cell? ⟨gb262, 6, none⟩ = some (.int .i64 0) := (blk_cell BK262.out 6).trans rfl; have hfz13_0 := blk_frozen BK262.out 0; have hfz13_1 := blk_frozen BK262.out 1; have hfz13_2 := blk_frozen BK262.out 2; have hfz13_3 := blk_frozen BK262.out 3; have hfz13_4 := blk_frozen BK262.out 4; have hfz13_5 := blk_frozen BK262.out 5; have hfz13_6 := blk_frozen BK262.out 6) | ((with_reducible refine gate_store (t := 23) (p := 15) rfl ?_); refine store_event (t := 23) (p := 15) (v := ?vo_w14) (w1 := (((((((w12.setCell ⟨gb262, 0, none⟩ (.int .i64 t254)).setCell ⟨gb262, 1, none⟩ (.int .i64 t255)).setCell ⟨gb262, 2, none⟩ (.int .i64 t256)).setCell ⟨gb262, 3, none⟩ (.int .i64 t257)).setCell ⟨gb262, 4, none⟩ (.int .i64 t258)).setCell ⟨gb262, 5, none⟩ (.int .i64 t259)).setCell ⟨gb262, 6, none⟩ (.int .i64 t260))) ?hg ?ho ?hn ?hr ?_; (case ho => rfl); (case hg => rfl); (case hn => rfl); (case hr => exact zz12); intro w14 hw; have n0_ : Aside0 (Kd.R k23 23 w14 w0.heap.size (fun k_ => (P0_ k_ ∨ w.heap.size ≤ k_) ∧ k_ ≠ gb262) u9000_ l0) := ⟨(by rw [hw]; exact (by (with_reducible repeat (first | apply Kd.R_alloc | apply Kd.R_drewN | apply Kd.R_drew)); exact Kd.R_mono (Kd.R_far (p := ⟨gb262, 6, none⟩) (Kd.R_far (p := ⟨gb262, 5, none⟩) (Kd.R_far (p := ⟨gb262, 4, none⟩) (Kd.R_far (p := ⟨gb262, 3, none⟩) (Kd.R_far (p := ⟨gb262, 2, none⟩) (Kd.R_far (p := ⟨gb262, 1, none⟩) (Kd.R_far (p := ⟨gb262, 0, none⟩) (Kd.R_mono HO0.out (fun k_ hk => (⟨hk, hk.2⟩ : _ ∧ k_ ≠ gb262))) (fun _ hk => hk.2) (.int .i64 t254)) (fun _ hk => hk.2) (.int .i64 t255)) (fun _ hk => hk.2) (.int .i64 t256)) (fun _ hk => hk.2) (.int .i64 t257)) (fun _ hk => hk.2) (.int .i64 t258)) (fun _ hk => hk.2) (.int .i64 t259)) (fun _ hk => hk.2) (.int .i64 t260)) (fun _ hk => ⟨hk.1.1, hk.1.2⟩)))⟩; have n1_ : Aside0 (w14.heap[gb262]? = some (.cells #[.int .i64 t254, .int .i64 t255, .int .i64 t256, .int .i64 t257, .int .i64 t258, .int .i64 t259, .int .i64 t260] 23 (0, 0))) := ⟨(by rw [hw]; exact (by (with_reducible repeat (first | refine blk_drewN ?_ _ | refine blk_drew ?_ | refine blk_alloc ?_ _)); refine blk_put (cs := #[.int .i64 t254, .int .i64 t255, .int .i64 t256, .int .i64 t257, .int .i64 t258, .int .i64 t259, .int .i64 0]) ?_ 6 _ rfl; (with_reducible repeat (first | refine blk_drewN ?_ _ | refine blk_drew ?_ | refine blk_alloc ?_ _)); refine blk_put (cs := #[.int .i64 t254, .int .i64 t255, .int .i64 t256, .int .i64 t257, .int .i64 t258, .int .i64 0, .int .i64 0]) ?_ 5 _ rfl; (with_reducible repeat (first | refine blk_drewN ?_ _ | refine blk_drew ?_ | refine blk_alloc ?_ _)); refine blk_put (cs := #[.int .i64 t254, .int .i64 t255, .int .i64 t256, .int .i64 t257, .int .i64 0, .int .i64 0, .int .i64 0]) ?_ 4 _ rfl; (with_reducible repeat (first | refine blk_drewN ?_ _ | refine blk_drew ?_ | refine blk_alloc ?_ _)); refine blk_put (cs := #[.int .i64 t254, .int .i64 t255, .int .i64 t256, .int .i64 0, .int .i64 0, .int .i64 0, .int .i64 0]) ?_ 3 _ rfl; (with_reducible repeat (first | refine blk_drewN ?_ _ | refine blk_drew ?_ | refine blk_alloc ?_ _)); refine blk_put (cs := #[.int .i64 t254, .int .i64 t255, .int .i64 0, .int .i64 0, .int .i64 0, .int .i64 0, .int .i64 0]) ?_ 2 _ rfl; (with_reducible repeat (first | refine blk_drewN ?_ _ | refine blk_drew ?_ | refine blk_alloc ?_ _)); refine blk_put (cs := #[.int .i64 t254, .int .i64 0, .int .i64 0, .int .i64 0, .int .i64 0, .int .i64 0, .int .i64 0]) ?_ 1 _ rfl; (with_reducible repeat (first | refine blk_drewN ?_ _ | refine blk_drew ?_ | refine blk_alloc ?_ _)); refine blk_put (cs := #[.int .i64 0, .int .i64 0, .int .i64 0, .int .i64 0, .int .i64 0, .int .i64 0, .int .i64 0]) ?_ 0 _ rfl; (with_reducible repeat (first | refine blk_drewN ?_ _ | refine blk_drew ?_ | refine blk_alloc ?_ _)); exact BK262.out))⟩; have n2_ : Aside0 (Kept w w14 (fun k_ => P0_ k_)) := ⟨(by rw [hw]; exact (zz11 GW262.out))⟩; have n3_ : Aside0 (Below w0.heap.size w0 w14) := ⟨(by rw [hw]; exact (bG GE262))⟩; clear hw; clear HO0; clear BK262; clear HK; clear HB; have HO0 := n0_; have BK262 := n1_; have HK := n2_; have HB := n3_; clear n0_ n1_ n2_ n3_; have hcz15_0 : w14.cell? ⟨gb262, 0, none⟩ = some (.int .i64 t254) := (blk_cell BK262.out 0).trans rfl; have hcz15_1 : w14.cell? ⟨gb262, 1, none⟩ = some (.int .i64 t255) := (blk_cell BK262.out 1).trans rfl; have hcz15_2 : w14.cell? ⟨gb262, 2, none⟩ = some (.int .i64 t256) := (blk_cell BK262.out 2).trans rfl; have hcz15_3 : w14.cell? ⟨gb262, 3, none⟩ = some (.int .i64 t257) := (blk_cell BK262.out 3).trans rfl; have hcz15_4 : w14.cell? ⟨gb262, 4, none⟩ = some (.int .i64 t258) := (blk_cell BK262.out 4).trans rfl; have hcz15_5 : w14.cell? ⟨gb262, 5, none⟩ = some (.int .i64 t259) := (blk_cell BK262.out 5).trans rfl; have hcz15_6 : w14.cell? ⟨gb262, 6, none⟩ = some (.int .i64 t260) := (blk_cell BK262.out 6).trans rfl; have hfz15_0 := blk_frozen BK262.out 0; have hfz15_1 := blk_frozen BK262.out 1; have hfz15_2 := blk_frozen BK262.out 2; have hfz15_3 := blk_frozen BK262.out 3; have hfz15_4 := blk_frozen BK262.out 4; have hfz15_5 := blk_frozen BK262.out 5; have hfz15_6 := blk_frozen BK262.out 6; obtain ⟨Ao16, co16, eo16⟩ := Kd.R_slice HO0.out; subst eo16) | ((with_reducible refine gate_builtin (b := .append) (xs := #[.tmp 33, .tmp 35]) rfl ?_); (try (refine gate_guard (by rfl) ?_; dsimp only)); at_builtin; refine Kd.R_append k23 (w0 := w0) w0.heap.size rfl (.tmp 33) (.tmp 35) 50 23 (.agg #[(.int .i64 0), (.int .i64 0), (.int .i64 0), (.int .i64 0), (.int .i64 0), (.int .i64 0), (.int .i64 0)]) 56 rfl Tryd.underlying50 info23 rfl (by decide) (by omega) (.slice Ao16 l0.length co16) l0 (⟨t254, t255, t256, t257, t258, a4, a5⟩ : S23) [.int .i64 t254, .int .i64 t255, .int .i64 t256, .int .i64 t257, .int .i64 t258, .int .i64 a4, .int .i64 a5] (fun k_ => (P0_ k_ ∨ w.heap.size ≤ k_) ∧ k_ ≠ gb262) (fun _ => False) rfl zz12 ?aP (fun _ hk => hk.elim) ?aF ?aO ?aB ?aS ?aL ?_; (case aP => exact k23_mkM _ _ _ (⟨t254, t255, t256, t257, t258, a4, a5⟩ : S23)); (case aB => exact (bG GE262)); (case aF => exact (fun k_ hk => ⟨(.inr (Nat.le_trans (show Kept w _ (fun k_ => P0_ k_) from zz11 GW262.out).1 hk)), Kd.freshB (g := gb262) (o := .cells #[.int .i64 t254, .int .i64 t255, .int .i64 t256, .int .i64 t257, .int .i64 t258, .int .i64 a4, .int .i64 a5] 23 (0, 0)) (by (with_reducible repeat (first | refine blk_drewN ?_ _ | refine blk_drew ?_ | refine blk_alloc ?_ _)); refine blk_put (cs := #[.int .i64 t254, .int .i64 t255, .int .i64 t256, .int .i64 t257, .int .i64 t258, .int .i64 a4, .int .i64 t260]) ?_ 6 _ rfl; (with_reducible repeat (first | refine blk_drewN ?_ _ | refine blk_drew ?_ | refine blk_alloc ?_ _)); refine blk_put (cs := #[.int .i64 t254, .int .i64 t255, .int .i64 t256, .int .i64 t257, .int .i64 t258, .int .i64 t259, .int .i64 t260]) ?_ 5 _ rfl; (with_reducible repeat (first | refine blk_drewN ?_ _ | refine blk_drew ?_ | refine blk_alloc ?_ _)); exact BK262.out) k_ hk⟩)); (case aO => exact (by (with_reducible repeat (first | apply Kd.R_alloc | apply Kd.R_drewN | apply Kd.R_drew)); exact Kd.R_mono (Kd.R_far (p := ⟨gb262, 6, none⟩) (Kd.R_far (p := ⟨gb262, 5, none⟩) (Kd.R_mono HO0.out (fun k_ hk => (⟨hk, hk.2⟩ : _ ∧ k_ ≠ gb262))) (fun _ hk => hk.2) (.int .i64 a4)) (fun _ hk => hk.2) (.int .i64 a5)) (fun _ hk => ⟨hk.1.1, hk.1.2⟩))); (case aS => exact (below_size (bG GE262))); (case aL => have := LMc9.out; omega); intro v264 w17 ho hb hg hat; rw [← Ny263.out] at ho; have n0_ := aM (blk_grown (g := gb262) (o := .cells #[.int .i64 t254, .int .i64 t255, .int .i64 t256, .int .i64 t257, .int .i64 t258, .int .i64 a4, .int .i64 a5] 23 (0, 0)) (by (with_reducible repeat (first | refine blk_drewN ?_ _ | refine blk_drew ?_ | refine blk_alloc ?_ _)); refine blk_put (cs := #[.int .i64 t254, .int .i64 t255, .int .i64 t256, .int .i64 t257, .int .i64 t258, .int .i64 a4, .int .i64 t260]) ?_ 6 _ rfl; (with_reducible repeat (first | refine blk_drewN ?_ _ | refine blk_drew ?_ | refine blk_alloc ?_ _)); refine blk_put (cs := #[.int .i64 t254, .int .i64 t255, .int .i64 t256, .int .i64 t257, .int .i64 t258, .int .i64 t259, .int .i64 t260]) ?_ 5 _ rfl; (with_reducible repeat (first | refine blk_drewN ?_ _ | refine blk_drew ?_ | refine blk_alloc ?_ _)); exact BK262.out) hg (Kd.R_away HO0.out (fun _ hk => hk.2))); have n1_ := aM (hb); have n2_ := aM (Kept.of_grown (S := (fun k_ => P0_ k_)) hg (zz11 GW262.out) (fun k_ e_ => (HO0.out.1 k_ e_).1)); have n3_ := aM (ho); clear BK262; clear HB; clear HK; clear HO0; have BK262 := n0_; have HB := n1_; have HK := n2_; have HO265 := n3_; clear n0_ n1_ n2_ n3_; clear ho hb hg hat))
  (try simp only [Act.put, List.setIfInBounds_toArray, List.set_cons_zero, List.set_cons_succ])
  go_cut [49] (fun v49 wc => ∃ (kq : Nat) (x49_9 : Bool), v49 = .bool x49_9 ∧ Aside0 (spec_l5Add.j0 kq y263 l1 a6 t261 (l0.length : Int) x49_9 t254 t255 t256 t257 t258 a4 a5 = some r) ∧ Aside0 (kq ≤ k) ∧ Aside0 (Kd.R k23 23 wc w0.heap.size (fun k_ => (P0_ k_ ∨ w.heap.size ≤ k_) ∧ k_ ≠ gb262) v264 y263) ∧ Aside0 (wc.heap[gb262]? = some (.cells #[.int .i64 t254, .int .i64 t255, .int .i64 t256, .int .i64 t257, .int .i64 t258, .int .i64 a4, .int .i64 a5] 23 (0, 0))) ∧ Aside0 (Kept w wc (fun k_ => P0_ k_)) ∧ Aside0 (Below w0.heap.size w0 wc))
  case first =>
   have H := HC10.out
   clear HC10
   by_cases c18 : t254 = 2
   ·rw [if_pos c18] at H
    have c18b0 : (t254 == 2) = true := beq_iff_eq.mpr c18
    have c18b1 : (t254 != 2) = false := bne_eq_false_iff_eq.mpr c18
    clear c18
    have HQ_ := aM H
    clear H
    (first | rw [c18b0] | (simp only [i64_w, i32_w]; rw [c18b0]) | skip)
    have hcz20_0 : w17.cell? ⟨gb262, 0, none⟩ = some (.int .i64 t254) := (blk_cell BK262.out 0).trans rfl
    have hcz20_1 : w17.cell? ⟨gb262, 1, none⟩ = some (.int .i64 t255) := (blk_cell BK262.out 1).trans rfl
    have hcz20_2 : w17.cell? ⟨gb262, 2, none⟩ = some (.int .i64 t256) := (blk_cell BK262.out 2).trans rfl
    have hcz20_3 : w17.cell? ⟨gb262, 3, none⟩ = some (.int .i64 t257) := (blk_cell BK262.out 3).trans rfl
    have hcz20_4 : w17.cell? ⟨gb262, 4, none⟩ = some (.int .i64 t258) := (blk_cell BK262.out 4).trans rfl
    have hcz20_5 : w17.cell? ⟨gb262, 5, none⟩ = some (.int .i64 a4) := (blk_cell BK262.out 5).trans rfl
    have hcz20_6 : w17.cell? ⟨gb262, 6, none⟩ = some (.int .i64 a5) := (blk_cell BK262.out 6).trans rfl
    have hfz20_0 := blk_frozen BK262.out 0
    have hfz20_1 := blk_frozen BK262.out 1
    have hfz20_2 := blk_frozen BK262.out 2
    have hfz20_3 := blk_frozen BK262.out 3
    have hfz20_4 := blk_frozen BK262.out 4
    have hfz20_5 := blk_frozen BK262.out 5
    have hfz20_6 := blk_frozen BK262.out 6
    have H := HQ_.out
    clear HQ_
    by_cases c19 : a6 ≥ 3
    ·rw [if_pos c19] at H
     have c19b0 : decide (3 ≤ a6) = true := decide_eq_true c19
     clear c19
     have H' := aM H
     clear H
     (try simp only [c19b0])
     go_wp2
     go_meet
     case rel => exact ⟨_, (true), bS, H', ⟨zz45⟩, ⟨bR HO265⟩, ⟨bL BK262⟩, ⟨zz11 GW262.out⟩, ⟨bG GE262⟩⟩
    rw [if_neg c19] at H
    have c19b0 : decide (3 ≤ a6) = false := decide_eq_false c19
    clear c19
    replace H := Option.bind_eq_some_iff.mp H
    obtain ⟨t266, A210, H⟩ := H
    replace H : (spec_l5Add.j0 k y263 l1 a6 t261 (l0.length : Int) (!t266) t254 t255 t256 t257 t258 a4 a5) = some r := H
    have A21 := aM A210
    clear A210
    have H' := aM H
    clear H
    (try simp only [c19b0])
    go_wp2_with (first | (go_at_call 47; (with_reducible refine (spec_l1In.calls (t261.size : Int) 1 20 t266 _ A21.out).mono ?_); rintro e w' ⟨rfl, ⟨nd, rfl⟩⟩))
    go_meet
    case rel => exact ⟨_, (!t266), bS, H', ⟨zz45⟩, ⟨bR HO265⟩, ⟨bL BK262⟩, ⟨zz11 GW262.out⟩, ⟨bG GE262⟩⟩
   rw [if_neg c18] at H
   have c18b0 : (t254 == 2) = false := beq_eq_false_iff_ne.mpr c18
   have c18b1 : (t254 != 2) = true := bne_iff_ne.mpr c18
   (first | rw [c18b0] | (simp only [i64_w, i32_w]; rw [c18b0]) | skip)
   have H' := aM H
   clear H
   have hcz23_0 : w17.cell? ⟨gb262, 0, none⟩ = some (.int .i64 t254) := (blk_cell BK262.out 0).trans rfl
   have hcz23_1 : w17.cell? ⟨gb262, 1, none⟩ = some (.int .i64 t255) := (blk_cell BK262.out 1).trans rfl
   have hcz23_2 : w17.cell? ⟨gb262, 2, none⟩ = some (.int .i64 t256) := (blk_cell BK262.out 2).trans rfl
   have hcz23_3 : w17.cell? ⟨gb262, 3, none⟩ = some (.int .i64 t257) := (blk_cell BK262.out 3).trans rfl
   have hcz23_4 : w17.cell? ⟨gb262, 4, none⟩ = some (.int .i64 t258) := (blk_cell BK262.out 4).trans rfl
   have hcz23_5 : w17.cell? ⟨gb262, 5, none⟩ = some (.int .i64 a4) := (blk_cell BK262.out 5).trans rfl
   have hcz23_6 : w17.cell? ⟨gb262, 6, none⟩ = some (.int .i64 a5) := (blk_cell BK262.out 6).trans rfl
   have hfz23_0 := blk_frozen BK262.out 0
   have hfz23_1 := blk_frozen BK262.out 1
   have hfz23_2 := blk_frozen BK262.out 2
   have hfz23_3 := blk_frozen BK262.out 3
   have hfz23_4 := blk_frozen BK262.out 4
   have hfz23_5 := blk_frozen BK262.out 5
   have hfz23_6 := blk_frozen BK262.out 6
   go_wp2
   go_meet
   case rel => exact ⟨_, (true), bS, H', ⟨zz45⟩, ⟨bR HO265⟩, ⟨bL BK262⟩, ⟨zz11 GW262.out⟩, ⟨bG GE262⟩⟩
  case rest =>
   clear HC10
   try clear c1
   try clear p2
   try clear c8
   try clear c9
   try clear c10
   try clear c18
   try clear c18b0
   try clear c18b1
   try clear c19
   try clear c19b0
   try clear hcz13_0
   try clear hcz13_1
   try clear hcz13_2
   try clear hcz13_3
   try clear hcz13_4
   try clear hcz13_5
   try clear hcz13_6
   try clear hcz15_0
   try clear hcz15_1
   try clear hcz15_2
   try clear hcz15_3
   try clear hcz15_4
   try clear hcz15_5
   try clear hcz15_6
   try clear hcz20_0
   try clear hcz20_1
   try clear hcz20_2
   try clear hcz20_3
   try clear hcz20_4
   try clear hcz20_5
   try clear hcz20_6
   try clear hcz22_0
   try clear hcz22_1
   try clear hcz22_2
   try clear hcz22_3
   try clear hcz22_4
   try clear hcz22_5
   try clear hcz22_6
   try clear hcz23_0
   try clear hcz23_1
   try clear hcz23_2
   try clear hcz23_3
   try clear hcz23_4
   try clear hcz23_5
   try clear hcz23_6
   try clear hfz13_0
   try clear hfz13_1
   try clear hfz13_2
   try clear hfz13_3
   try clear hfz13_4
   try clear hfz13_5
   try clear hfz13_6
   try clear hfz15_0
   try clear hfz15_1
   try clear hfz15_2
   try clear hfz15_3
   try clear hfz15_4
   try clear hfz15_5
   try clear hfz15_6
   try clear hfz20_0
   try clear hfz20_1
   try clear hfz20_2
   try clear hfz20_3
   try clear hfz20_4
   try clear hfz20_5
   try clear hfz20_6
   try clear hfz22_0
   try clear hfz22_1
   try clear hfz22_2
   try clear hfz22_3
   try clear hfz22_4
   try clear hfz22_5
   try clear hfz22_6
   try clear hfz23_0
   try clear hfz23_1
   try clear hfz23_2
   try clear hfz23_3
   try clear hfz23_4
   try clear hfz23_5
   try clear hfz23_6
   obtain ⟨kq, x49_9, rfl, HA, HJ9, HO_0, BK262, HK, HB⟩ := hcut
   cases kq with
   | zero => exact absurd HA.out (by simp [spec_l5Add.j0])
   | succ kj9 =>
    have H := HA.out
    clear HA
    simp only [spec_l5Add.j0] at H
    by_cases c24 : x49_9 = true
    ·subst c24
     have H1 : (some y263) = some r := zz25
     clear H
     have H := H1
     clear H1
     obtain rfl := Option.some.inj H
     go_wp2
     go_ret
     exact ⟨_, bE, zz27 HO_0.out, bG GE262, zz11 GW262.out⟩
    replace c24 := Bool.eq_false_iff.mpr c24
    subst c24
    have H1 : ((spec_l5Spans.f kj9 l1 t257 t258 t261).bind fun t267 => (spec_l5Add.l0 kj9 y263 l1 a6 (l0.length : Int) t267 0)) = some r := zz14
    clear H
    have H := H1
    clear H1
    replace H := Option.bind_eq_some_iff.mp H
    obtain ⟨t267, A250, H⟩ := H
    replace H : (spec_l5Add.l0 kj9 y263 l1 a6 (l0.length : Int) t267 0) = some r := H
    have A25 := aM A250
    clear A250
    have H' := aM H
    clear H
    have hcz26_0 : wc.cell? ⟨gb262, 0, none⟩ = some (.int .i64 t254) := (blk_cell BK262.out 0).trans rfl
    have hcz26_1 : wc.cell? ⟨gb262, 1, none⟩ = some (.int .i64 t255) := (blk_cell BK262.out 1).trans rfl
    have hcz26_2 : wc.cell? ⟨gb262, 2, none⟩ = some (.int .i64 t256) := (blk_cell BK262.out 2).trans rfl
    have hcz26_3 : wc.cell? ⟨gb262, 3, none⟩ = some (.int .i64 t257) := (blk_cell BK262.out 3).trans rfl
    have hcz26_4 : wc.cell? ⟨gb262, 4, none⟩ = some (.int .i64 t258) := (blk_cell BK262.out 4).trans rfl
    have hcz26_5 : wc.cell? ⟨gb262, 5, none⟩ = some (.int .i64 a4) := (blk_cell BK262.out 5).trans rfl
    have hcz26_6 : wc.cell? ⟨gb262, 6, none⟩ = some (.int .i64 a5) := (blk_cell BK262.out 6).trans rfl
    have hfz26_0 := blk_frozen BK262.out 0
    have hfz26_1 := blk_frozen BK262.out 1
    have hfz26_2 := blk_frozen BK262.out 2
    have hfz26_3 := blk_frozen BK262.out 3
    have hfz26_4 := blk_frozen BK262.out 4
    have hfz26_5 := blk_frozen BK262.out 5
    have hfz26_6 := blk_frozen BK262.out 6
    go_wp2_with (first | ((with_reducible refine gate_callee (f := 107) rfl ?_); refine gL_ (some 57) Tryd.func107 #[.slice A1 l1.length c1, .int .i64 t257, .int .i64 t258, .string t261] ?_; (with_reducible refine (spec_l5Spans.calls kj9 _ _ l1 t257 t258 t261 t267 _ ?side1 ?side2 A25.out).mono ?_); (case side1 => exact Kd.C_kept_now HR1.out (zz11 GW262.out)); (case side2 => exact HC1.out); rintro e w27 ⟨v268, rfl, ho0, hb⟩; refine ⟨_, rfl, ?_⟩; replace HO_0 := aM (Kd.R_below (bR HO_0) hb); have HO269 := aM (Kd.R_lower (Kd.R_newM (M := fun k_ => (P0_ k_ ∨ w.heap.size ≤ k_)) ho0 (by first | exact HK.out.1 | exact (show Kept w _ (fun k_ => P0_ k_) from zz11 GW262.out).1) (fun k_ h_ => .inr h_)) (below_size (bG GE262))); replace BK262 := aM (blk_below (g := gb262) (o := .cells #[.int .i64 t254, .int .i64 t255, .int .i64 t256, .int .i64 t257, .int .i64 t258, .int .i64 a4, .int .i64 a5] 23 (0, 0)) (bL BK262) hb); replace HK := aM (Kept.below (S := (fun k_ => P0_ k_)) (zz11 GW262.out) hb); replace HB := aM (below_step (bG GE262) hb); (try clear ho0)))
    go_loopg [0, 19] kj9 (fun kq v0 v19 w' => ∃ (x0_2 : List (S23)) (x19_2 : Int), v19 = .int .i64 x19_2 ∧ Aside0 (spec_l5Add.l0 kq x0_2 l1 a6 (l0.length : Int) t267 x19_2 = some r) ∧ Aside0 (kq ≤ kj9) ∧ Aside0 (Kd.R k23 23 w' w0.heap.size (fun k_ => (P0_ k_ ∨ w.heap.size ≤ k_) ∧ k_ ≠ gb262) v0 x0_2) ∧ Aside0 (Kd.R k127 127 w' w0.heap.size (fun k_ => (P0_ k_ ∨ w.heap.size ≤ k_)) v268 t267) ∧ Aside0 (w'.heap[gb262]? = some (.cells #[.int .i64 t254, .int .i64 t255, .int .i64 t256, .int .i64 t257, .int .i64 t258, .int .i64 a4, .int .i64 a5] 23 (0, 0))) ∧ Aside0 (Kept w w' (fun k_ => P0_ k_)) ∧ Aside0 (Below w0.heap.size w0 w'))
    case atStart => exact ⟨(y263), (0), bS, H', ⟨Nat.le_refl _⟩, ⟨bR HO_0⟩, ⟨zz27 HO269.out⟩, ⟨bL BK262⟩, ⟨zz11 GW262.out⟩, ⟨bG GE262⟩⟩
    case round =>
     clear H'
     try clear c1
     try clear c2
     try clear p2
     try clear c8
     try clear c9
     try clear c10
     try clear c18
     try clear c18b0
     try clear c18b1
     try clear c19
     try clear c19b0
     try clear c24
     try clear hcz13_0
     try clear hcz13_1
     try clear hcz13_2
     try clear hcz13_3
     try clear hcz13_4
     try clear hcz13_5
     try clear hcz13_6
     try clear hcz15_0
     try clear hcz15_1
     try clear hcz15_2
     try clear hcz15_3
     try clear hcz15_4
     try clear hcz15_5
     try clear hcz15_6
     try clear hcz20_0
     try clear hcz20_1
     try clear hcz20_2
     try clear hcz20_3
     try clear hcz20_4
     try clear hcz20_5
     try clear hcz20_6
     try clear hcz22_0
     try clear hcz22_1
     try clear hcz22_2
     try clear hcz22_3
     try clear hcz22_4
     try clear hcz22_5
     try clear hcz22_6
     try clear hcz23_0
     try clear hcz23_1
     try clear hcz23_2
     try clear hcz23_3
     try clear hcz23_4
     try clear hcz23_5
     try clear hcz23_6
     try clear hcz26_0
     try clear hcz26_1
     try clear hcz26_2
     try clear hcz26_3
     try clear hcz26_4
     try clear hcz26_5
     try clear hcz26_6
     try clear hfz13_0
     try clear hfz13_1
     try clear hfz13_2
     try clear hfz13_3
     try clear hfz13_4
     try clear hfz13_5
     try clear hfz13_6
     try clear hfz15_0
     try clear hfz15_1
     try clear hfz15_2
     try clear hfz15_3
     try clear hfz15_4
     try clear hfz15_5
     try clear hfz15_6
     try clear hfz20_0
     try clear hfz20_1
     try clear hfz20_2
     try clear hfz20_3
     try clear hfz20_4
     try clear hfz20_5
     try clear hfz20_6
     try clear hfz22_0
     try clear hfz22_1
     try clear hfz22_2
     try clear hfz22_3
     try clear hfz22_4
     try clear hfz22_5
     try clear hfz22_6
     try clear hfz23_0
     try clear hfz23_1
     try clear hfz23_2
     try clear hfz23_3
     try clear hfz23_4
     try clear hfz23_5
     try clear hfz23_6
     try clear hfz26_0
     try clear hfz26_1
     try clear hfz26_2
     try clear hfz26_3
     try clear hfz26_4
     try clear hfz26_5
     try clear hfz26_6
     try clear p2
     obtain ⟨x0_2, x19_2, rfl, HA, HK2, HO_0, HO_18, BK262, HK, HB⟩ := hrel
     cases gk with
     | zero => exact absurd HA.out (by simp [spec_l5Add.l0])
     | succ k2 =>
      have H := HA.out
      clear HA
      simp only [spec_l5Add.l0] at H
      have HQ_ := aM H
      clear H
      obtain ⟨Ao32, co32, eo32⟩ := Kd.R_slice HO_18.out
      subst eo32
      have H := HQ_.out
      clear HQ_
      by_cases c28 : x19_2 < (t267.length : Int)
      ·rw [if_pos c28] at H
       have c28b0 : decide (x19_2 < (t267.length : Int)) = true := decide_eq_true c28
       clear c28
       (try simp only [c28b0])
       have HQ_ := aM H
       clear H
       obtain ⟨Ao33, co33, eo33⟩ := Kd.R_slice HO_0.out
       subst eo33
       have H := HQ_.out
       clear HQ_
       by_cases c29 : (x0_2.length : Int) < 8
       ·rw [if_pos c29] at H
        have c29b0 : decide ((x0_2.length : Int) < 8) = true := decide_eq_true c29
        have c29b1 : decide (x0_2.length < 8) = true := decide_eq_true (by omega)
        clear c29
        (try simp only [c29b0, c29b1])
        by_cases c30 : 0 ≤ x19_2
        ·rw [if_pos c30] at H
         have c30b0 : decide (0 ≤ x19_2) = true := decide_eq_true c30
         clear c30
         replace H := Option.bind_eq_some_iff.mp H
         obtain ⟨t272, A310, H⟩ := H
         replace H : (spec_l5Add.l0 k2 t272 l1 a6 (l0.length : Int) t267 (wrap64 (x19_2 + 1))) = some r := H
         have A31 := aM A310
         clear A310
         have H' := aM H
         clear H
         try go_wp2
         replace HO_0 := aM (Kd.R_drew HO_0.out)
         replace HO_18 := aM (Kd.R_drew HO_18.out)
         replace BK262 := aM (blk_drew BK262.out)
         replace HK := aM (Kept.drew HK.out)
         replace HB := aM (below_drew1 HB.out)
         have p270 : 0 ≤ (x19_2 : Int) := pI
         have q270 : x19_2 < (t267.length : Int) := pI
         obtain ⟨ad270, e270, hx270_0, hx270_1⟩ := at_T127 (Kd.R_reads' HO_18.out).2.2 x19_2 p270 q270
         cases e270
         replace p270 := eq_true p270
         replace q270 := eq_true q270
         have p271 : 0 ≤ (x19_2 : Int) := pI
         have q271 : x19_2 < (t267.length : Int) := pI
         obtain ⟨ad271, e271, hx271_0, hx271_1⟩ := at_T127 (Kd.R_reads' HO_18.out).2.2 x19_2 p271 q271
         obtain rfl : ad270 = ad271 := (by injection e271)
         replace p271 := eq_true p271
         replace q271 := eq_true q271
         refine start_ (n := 19) (S := fun w' => w'.cell? (ad270.add ((x19_2).toNat * 2)) = some (.int .i64 ((rd_T127 t267 x19_2).f0)) ∧ w'.cell? ⟨(ad270.add ((x19_2).toNat * 2)).block, (ad270.add ((x19_2).toNat * 2)).off + 1, none⟩ = some (.int .i64 ((rd_T127 t267 x19_2).f1)) ∧ w'.cell? (ad270.add ((x19_2).toNat * 2)) = some (.int .i64 ((rd_T127 t267 x19_2).f0)) ∧ w'.cell? ⟨(ad270.add ((x19_2).toNat * 2)).block, (ad270.add ((x19_2).toNat * 2)).off + 1, none⟩ = some (.int .i64 ((rd_T127 t267 x19_2).f1))) (ds := []) (bsA 19 0) (by kernel_rfl) rfl rfl ⟨hx270_0, hx270_1, hx271_0, hx271_1⟩ (fun hHeld => ?_); refine with_tabW spec_l5Add.tab12 spec_l5Add.bits12 (fun HT_ HW_ => ?_)
         generalize wr.drew = w34 at HO_0 HO_18 BK262 HK HB hx270_0 hx270_1 hx271_0 hx271_1 hHeld ⊢
         refine pa_ (i := 0) (N := some 69) (bsA 19 1) (h := ?_)
         refine pa_ (i := 1) (N := some 70) (bsA 19 3) (h := ?_)
         refine pa_ (i := 2) (N := some 71) (bsA 19 7) (h := ?_)
         refine pa_ (i := 3) (N := some 72) (bsA 19 15) (h := ?_)
         refine pa_ (i := 4) (N := some 73) (bsA 19 31) (h := ?_)
         refine pa_ (i := 5) (N := some 74) (bsA 19 63) (h := ?_)
         refine pa_ (i := 7) (N := some 76) (bsA 19 191) (h := ?_)
         refine pa_ (i := 8) (N := some 77) (bsA 19 447) (h := ?_)
         refine pa_ (i := 9) (N := some 78) (bsA 19 959) (h := ?_)
         refine pa_ (i := 10) (N := some 79) (bsA 19 1983) (h := ?_)
         refine pa_ (i := 12) (N := some 81) (bsA 19 6079) (h := ?_)
         refine pa_ (i := 13) (N := some 82) (bsA 19 14271) (h := ?_)
         refine pa_ (i := 14) (N := some 83) (bsA 19 30655) (h := ?_)
         refine pa_ (i := 15) (N := some 84) (bsA 19 63423) (h := ?_)
         refine pa_ (i := 16) (N := some 85) (bsA 19 128959) (h := ?_)
         refine take_ (i := 6) (N := some 75) (v := ?_) (a' := ?_) (bsA 19 129023) rfl rfl (take_ofW HT_.out HW_.out (by kernel_rfl)) (fun _ _ _ h => h) (Or.inl ⟨by rfl, ?_⟩) hHeld ?_ ?_
         rotate_left
         ·rintro w' ⟨s0, s1, s2, s3⟩
          go_simp
          with_reducible rfl
         rotate_left
         ·simp only [Act.put, List.setIfInBounds_toArray, List.set_cons_zero, List.set_cons_succ, i64_w, i32_w]
          rfl
         refine take_ (i := 11) (N := some 80) (v := ?_) (a' := ?_) (bsA 19 131071) rfl rfl (take_ofW HT_.out HW_.out (by kernel_rfl)) (fun _ _ _ h => h) (Or.inl ⟨by rfl, ?_⟩) hHeld ?_ ?_
         rotate_left
         ·rintro w' ⟨s0, s1, s2, s3⟩
          go_simp
          with_reducible rfl
         rotate_left
         ·simp only [Act.put, List.setIfInBounds_toArray, List.set_cons_zero, List.set_cons_succ, i64_w, i32_w]
          rfl
         refine one_ (i := 17) (N := some 86) (bsA 19 262143) rfl rfl (one_of HT_.out (by kernel_rfl)) (by decide) (fun K hK => ?_)
         refine goes_ Tryd.func83 (by kernel_rfl) rfl #[.slice Ao33 x0_2.length co33, .slice A1 l1.length c1, .int .i64 ((rd_T127 t267 x19_2).f0), .int .i64 ((rd_T127 t267 x19_2).f1), .int .i64 (l0.length : Int), .int .i64 (wrap64 (x19_2 + 1)), .int .i64 (wrap64 (a6 + 1))] (by rfl) rfl rfl bM ?_
         with_reducible refine (ih k2 (zz53 HJ9.out HK2.out) (fun k_ => some k_ = (.slice Ao33 x0_2.length co33 : Value).ownBlock) (.slice Ao33 x0_2.length co33) x0_2 _ _ l1 ((rd_T127 t267 x19_2).f0) ((rd_T127 t267 x19_2).f1) (l0.length : Int) (wrap64 (x19_2 + 1)) (wrap64 (a6 + 1)) t272 w0 _ ?side1 ?side2 ?side3 ?side4 A31.out).mono ?_
         (case side1 => exact zz38 GE262.out)
         (case side2 => exact Kd.R_tight rfl HO_0.out)
         (case side3 => exact Kd.C_kept_call HR1.out (zz11 GW262.out) (fun k_ hs_ => (fun e_ => (HO_0.out.1 k_ e_.symm).1) hs_))
         (case side4 => exact HC1.out)
         rintro e w35 ⟨v273, rfl, ho0, hb, hkp⟩
         have HS0_ := cell_kept (hHeld.1) hkp (zz23 HO_18.out HO_0.out)
         have HS1_ := cell_kept (hHeld.2.1) hkp (zz23 HO_18.out HO_0.out)
         have HS2_ := cell_kept (hHeld.2.2.1) hkp (zz23 HO_18.out HO_0.out)
         have HS3_ := cell_kept (hHeld.2.2.2) hkp (zz23 HO_18.out HO_0.out)
         refine ⟨_, rfl, ?_⟩
         have n0_ := aM (Kd.R_mono (ok' := fun k_ => (P0_ k_ ∨ w.heap.size ≤ k_)) (Kd.R_keptB ((Kd.R_apart' HO_18.out (Kd.R_typed HO_0.out) (by decide))) hkp (fun k_ hk_ hs_ => (hk_.2) hs_)) (fun k_ hk_ => hk_.1.1))
         have n1_ := aM (blk_kept (bL BK262) hkp (fun hs_ => (fun e_ => (Kd.R_away HO_0.out (fun _ hk => hk.2)) e_) hs_))
         have n2_ := aM (Kd.R_mono (ok' := fun k_ => (P0_ k_ ∨ w.heap.size ≤ k_) ∧ k_ ≠ gb262) ho0 (fun k_ hk_ => ⟨Or.elim hk_ (fun hs_ => (HO_0.out.1 k_ (hs_).symm).1) (fun hn_ => (.inr (Nat.le_trans (by first | exact HK.out.1 | exact (show Kept w _ (fun k_ => P0_ k_) from zz11 GW262.out).1) hn_))), Or.elim hk_ (fun hs_ => fun e_ => (Kd.R_away HO_0.out (fun _ hk => hk.2)) (by rw [← e_]; exact hs_)) (fun hn_ => (Kd.freshB (g := gb262) (o := .cells #[.int .i64 t254, .int .i64 t255, .int .i64 t256, .int .i64 t257, .int .i64 t258, .int .i64 a4, .int .i64 a5] 23 (0, 0)) (bL BK262) k_ hn_))⟩))
         have n3_ := aM (Kept.then_ (S := (fun k_ => P0_ k_)) (zz11 GW262.out) hkp (fun k_ hs_ => (fun e_ => (HO_0.out.1 k_ e_.symm).1) hs_))
         have n4_ := aM (hb)
         clear HO_18
         clear BK262
         clear HK
         clear HB
         clear HO_0
         have HO_18 := n0_
         have BK262 := n1_
         have HO274 := n2_
         have HK := n3_
         have HB := n4_
         clear n0_ n1_ n2_ n3_ n4_
         (try clear hb)
         (try clear hkp)
         (try clear ho0)
         refine hK.out _ _ ⟨HS0_, HS1_, HS2_, HS3_⟩ (fun hHeld => ?_)
         clear hK K
         refine na_ (N := some 86) (h := ?_)
         refine pa_ (i := 18) (N := some 0) (bsA 19 524287) (h := ?_)
         refine done_ (done_of HT_.out (by kernel_rfl)) ?_
         try go_wp2
         go_roundg k2
         case measure => have := HJ9.out; have := HK2.out; omega
         case rel => exact ⟨(t272), (wrap64 (x19_2 + 1)), bS, H', ⟨zz53 HJ9.out HK2.out⟩, ⟨bR HO274⟩, ⟨bR HO_18⟩, ⟨bL BK262⟩, ⟨zz11 GW262.out⟩, ⟨bG GE262⟩⟩
        rw [if_neg c30] at H
        exact absurd H (by simp)
       rw [if_neg c29] at H
       have c29b0 : decide ((x0_2.length : Int) < 8) = false := decide_eq_false c29
       have c29b1 : decide (x0_2.length < 8) = false := decide_eq_false (by omega)
       clear c29
       obtain rfl := Option.some.inj H
       (try simp only [c29b0, c29b1])
       go_wp2
       go_ret
       exact ⟨_, bE, zz27 HO_0.out, bG GE262, zz11 GW262.out⟩
      rw [if_neg c28] at H
      have c28b0 : decide (x19_2 < (t267.length : Int)) = false := decide_eq_false c28
      clear c28
      obtain rfl := Option.some.inj H
      (try simp only [c28b0])
      go_wp2
      go_ret
      exact ⟨_, bE, zz27 HO_0.out, bG GE262, zz11 GW262.out⟩
 rw [if_neg c9] at H
 exact absurd H (by simp)
def spec_l5Parse.f (k : Nat) (l0 : List Int) : Option ((List (S23))) := (spec_l5Add.f k ([] : List (S23)) l0 0 (l0.length : Int) (-1) 0 1).bind fun t275 => (some t275)
set_option maxHeartbeats 8000000 in
set_option maxRecDepth 100000 in
theorem spec_l5Parse.calls (k : Nat) (A0 : Option Addr) (c0 : Nat) (l0 : List Int) (r : List (S23)) (w : World) (hr0 : Kd.C (Kd.int .u8) w A0 l0.length l0) (hc0 : l0.length ≤ c0) (h : spec_l5Parse.f k l0 = some r) :
  Calls Tryd.prog 46 #[.slice A0 l0.length c0] w fun e w' => ∃ v0_ : Value, e = .returned (v0_) ∧ Kd.R k23 23 w' w.heap.size (fun _ => True) v0_ r ∧ Below w.heap.size w w' := by
 have HR0 := aM hr0
 have HC0 := aM hc0
 clear hr0 hc0
 have HB := aM (Below.refl w.heap.size w)
 have H : ((spec_l5Add.f k ([] : List (S23)) l0 0 (l0.length : Int) (-1) 0 1).bind fun t275 => (some t275)) = some r := h
 clear h
 replace H := Option.bind_eq_some_iff.mp H
 obtain ⟨t275, A20, H⟩ := H
 replace H : (some t275) = some r := H
 have A2 := aM A20
 clear A20
 obtain rfl := Option.some.inj H
 go_enter Tryd.func46, Tryd.ntmps46
 go_wp2_with (first | ((with_reducible refine gate_callee (f := 83) rfl ?_); refine gL_ (some 6) Tryd.func83 #[.slice none 0 0, .slice A0 l0.length c0, .int .i64 0, .int .i64 (l0.length : Int), .int .i64 (-1), .int .i64 0, .int .i64 1] ?_; (refine (spec_l5Add.calls k (fun k_ => some k_ = (.slice none 0 0 : Value).ownBlock) (.slice none 0 0) ([] : List (S23)) _ _ l0 0 (l0.length : Int) (-1) 0 1 t275 w _ ?side1 ?side2 ?side3 ?side4 A2.out).mono ?_); (case side1 => repeat (first | (with_reducible first | exact HB.out | apply below_alloc | apply pw_below_drewN | apply below_drew1) | exact HB.out)); (case side2 => exact Kd.R_nil _ _ _ _ _); (case side3 => exact Kd.C_kept_came (Kd.heap_int .u8) HR0.out bB (fun k_ hs_ => (fun e_ => by simp [Value.ownBlock] at e_) hs_)); (case side4 => exact HC0.out); rintro e w3 ⟨v276, rfl, ho0, hb, hkp⟩; refine ⟨_, rfl, ?_⟩; have HO277 := aM (Kd.R_mono (ok' := fun k_ => True) ho0 (fun k_ hk_ => trivial)); replace HB := aM (hb); (try clear hkp); (try clear ho0)))
 go_ret
 exact ⟨_, bE, bR HO277, bB⟩
def spec_l5Path.f : Nat → List (S23) → Int → Option (List Int)
 | 0, _, _ => none
 | k + 1, l0, a1 => if 0 ≤ a1 then (if a1 < (l0.length : Int) then (if ((rd_T23 l0 a1).f5) < 0 then (some (([] : List Int))) else ((spec_l5Path.f k l0 ((rd_T23 l0 a1).f5)).bind fun t283 => ((some (([(rd_T23 l0 a1).f6] : List Int) : List Int)).bind fun y287 => (if t283.length + y287.length < 17592186044416 then (some (t283 ++ y287)) else (none))))) else (none)) else (none)
def spec_l5Path.T3 : Bool × List (List Nat × List Nat) := (true, [([], []), ([], []), ([], []), ([1, 2], [1, 2]), ([3], [3]), ([4], [4]), ([0, 5], [0, 5]), ([], []), ([], []), ([7, 8], [7, 8]), ([9], [9]), ([10], [10]), ([11], [11]), ([6, 12, 6], [6, 12]), ([13, 13, 0, 1, 2, 3, 4, 5, 6, 7, 8, 9, 10, 11, 12, 13], [13])])
def spec_l5Path.B3 : List Nat := [0, 0, 0, 6, 14, 30, 63, 0, 0, 384, 896, 1920, 3968, 8191, 16383]
theorem spec_l5Path.tab3 : rtab .any (opsOf Tryd.f56 3) = spec_l5Path.T3 := by kernel_rfl
theorem spec_l5Path.bits3 : waitsOk spec_l5Path.T3.2 spec_l5Path.B3 = true := by kernel_rfl
set_option maxHeartbeats 8000000 in
set_option maxRecDepth 100000 in
theorem spec_l5Path.calls (k : Nat) : ∀ (A0 : Option Addr) (c0 : Nat) (l0 : List (S23)) (a1 : Int) (r : List Int) (w : World) (hr0 : Kd.C k23 w A0 l0.length l0) (hc0 : l0.length ≤ c0) (h : spec_l5Path.f k l0 a1 = some r),
  Calls Tryd.prog 56 #[.slice A0 l0.length c0, .int .i64 a1] w fun e w' => ∃ v0_ : Value, e = .returned (v0_) ∧ Kd.R (Kd.int .i64) 2 w' w.heap.size (fun _ => True) v0_ r ∧ Below w.heap.size w w' := by
 induction k using Nat.strongRecOn with
 | _ k ih =>
 intro A0 c0 l0 a1 r w hr0 hc0 h
 cases k with
 | zero => exact absurd h (by simp [spec_l5Path.f])
 | succ k =>
 simp only [spec_l5Path.f] at h
 have HR0 := aM hr0
 have HC0 := aM hc0
 clear hr0 hc0
 have HB := aM (Below.refl w.heap.size w)
 have H : (if 0 ≤ a1 then (if a1 < (l0.length : Int) then (if ((rd_T23 l0 a1).f5) < 0 then (some (([] : List Int))) else ((spec_l5Path.f k l0 ((rd_T23 l0 a1).f5)).bind fun t283 => ((some (([(rd_T23 l0 a1).f6] : List Int) : List Int)).bind fun y287 => (if t283.length + y287.length < 17592186044416 then (some (t283 ++ y287)) else (none))))) else (none)) else (none)) = some r := h
 clear h
 by_cases c3 : 0 ≤ a1
 ·rw [if_pos c3] at H
  have c3b0 : decide (0 ≤ a1) = true := decide_eq_true c3
  clear c3
  by_cases c4 : a1 < (l0.length : Int)
  ·rw [if_pos c4] at H
   have c4b0 : decide (a1 < (l0.length : Int)) = true := decide_eq_true c4
   clear c4
   have HQ_ := aM H
   clear H
   have p278 : 0 ≤ (a1 : Int) := pI
   have q278 : a1 < (l0.length : Int) := pI
   obtain ⟨ad278, e278, hx278_0, hx278_1, hx278_2, hx278_3, hx278_4, hx278_5, hx278_6⟩ := at_T23 HR0.out a1 p278 q278
   cases e278
   replace p278 := eq_true p278
   replace q278 := eq_true q278
   go_enter Tryd.func56, Tryd.ntmps56
   have H := HQ_.out
   clear HQ_
   by_cases c5 : ((rd_T23 l0 a1).f5) < 0
   ·rw [if_pos c5] at H
    have c5b0 : decide (((rd_T23 l0 a1).f5) < 0) = true := decide_eq_true c5
    clear c5
    obtain ⟨y279, hy279⟩ : ∃ y_ : List Int, y_ = (([] : List Int)) := ⟨_, rfl⟩
    replace H : (some y279) = some r := zz0 hy279
    have Ny279 := aM hy279
    clear hy279
    obtain rfl := Option.some.inj H
    (try simp only [c5b0])
    go_wp2_with (first | ((with_reducible refine gate_dst (N := 11) rfl ?_); refine Kd.R_lit (Kd.int .i64) _ 2 ?hg (N := 11) ?hd (xs := ([] : List Int)) (inner := []) (ok := fun _ => True) (okp := fun _ => True) ?hr ?hp (fun _ hk => hk) trivial (Below.refl _ _) (Nat.le_refl _) (by simp) ?_; (case hd => rfl); (case hg => rfl); (case hr => exact zz12); (case hp => exact (Reps.none _ _)); intro v280 w6 ho7 hb hg_ hnew_; clear hg_ hnew_; (first | rw [← Ny279.out] at ho7 | (simp only [Int.reduceToNat] at ho7; rw [← Ny279.out] at ho7)); have HO281 := aM (Kd.R_lower ho7 (below_size bB)); replace HB := aM (below_step bB hb); clear hb ho7))
    go_ret
    exact ⟨_, bE, bR HO281, bB⟩
   rw [if_neg c5] at H
   have c5b0 : decide (((rd_T23 l0 a1).f5) < 0) = false := decide_eq_false c5
   clear c5
   replace H := Option.bind_eq_some_iff.mp H
   obtain ⟨t283, A80, H⟩ := H
   replace H : ((some (([(rd_T23 l0 a1).f6] : List Int) : List Int)).bind fun y287 => (if t283.length + y287.length < 17592186044416 then (some (t283 ++ y287)) else (none))) = some r := H
   have A8 := aM A80
   clear A80
   obtain ⟨y287, hy287⟩ : ∃ y_ : List Int, y_ = (([(rd_T23 l0 a1).f6] : List Int)) := ⟨_, rfl⟩
   replace H : (if t283.length + y287.length < 17592186044416 then (some (t283 ++ y287)) else (none)) = some r := zz0 hy287
   have Ny287 := aM hy287
   clear hy287
   (try simp only [c5b0])
   by_cases c9 : t283.length + y287.length < 17592186044416
   ·rw [if_pos c9] at H
    have LMc9 := aM c9
    clear c9
    obtain ⟨y290, hy290⟩ : ∃ y_ : List Int, y_ = (t283 ++ y287) := ⟨_, rfl⟩
    replace H : (some y290) = some r := zz0 hy290
    have Ny290 := aM hy290
    clear hy290
    obtain rfl := Option.some.inj H
    try go_wp2
    replace HB := aM (below_drew1 HB.out)
    have p282 : 0 ≤ (a1 : Int) := pI
    have q282 : a1 < (l0.length : Int) := pI
    obtain ⟨ad282, e282, hx282_0, hx282_1, hx282_2, hx282_3, hx282_4, hx282_5, hx282_6⟩ := at_T23 HR0.out a1 p282 q282
    have hw282_6 := hx282_6
    have hw282_5 := hx282_5
    have hw282_4 := hx282_4
    have hw282_3 := hx282_3
    have hw282_2 := hx282_2
    have hw282_1 := hx282_1
    have hw282_0 := hx282_0
    obtain rfl : ad278 = ad282 := (by injection e282)
    replace hx282_0 := (HB.out.cell (World.block_lt_of_cell? w _ hx282_0)).trans hx282_0
    replace hx282_1 := (HB.out.cell (World.block_lt_of_cell? w _ hx282_1)).trans hx282_1
    replace hx282_2 := (HB.out.cell (World.block_lt_of_cell? w _ hx282_2)).trans hx282_2
    replace hx282_3 := (HB.out.cell (World.block_lt_of_cell? w _ hx282_3)).trans hx282_3
    replace hx282_4 := (HB.out.cell (World.block_lt_of_cell? w _ hx282_4)).trans hx282_4
    replace hx282_5 := (HB.out.cell (World.block_lt_of_cell? w _ hx282_5)).trans hx282_5
    replace hx282_6 := (HB.out.cell (World.block_lt_of_cell? w _ hx282_6)).trans hx282_6
    replace p282 := eq_true p282
    replace q282 := eq_true q282
    have p286 : 0 ≤ (a1 : Int) := pI
    have q286 : a1 < (l0.length : Int) := pI
    obtain ⟨ad286, e286, hx286_0, hx286_1, hx286_2, hx286_3, hx286_4, hx286_5, hx286_6⟩ := at_T23 HR0.out a1 p286 q286
    have hw286_6 := hx286_6
    have hw286_5 := hx286_5
    have hw286_4 := hx286_4
    have hw286_3 := hx286_3
    have hw286_2 := hx286_2
    have hw286_1 := hx286_1
    have hw286_0 := hx286_0
    obtain rfl : ad278 = ad286 := (by injection e286)
    replace hx286_0 := (HB.out.cell (World.block_lt_of_cell? w _ hx286_0)).trans hx286_0
    replace hx286_1 := (HB.out.cell (World.block_lt_of_cell? w _ hx286_1)).trans hx286_1
    replace hx286_2 := (HB.out.cell (World.block_lt_of_cell? w _ hx286_2)).trans hx286_2
    replace hx286_3 := (HB.out.cell (World.block_lt_of_cell? w _ hx286_3)).trans hx286_3
    replace hx286_4 := (HB.out.cell (World.block_lt_of_cell? w _ hx286_4)).trans hx286_4
    replace hx286_5 := (HB.out.cell (World.block_lt_of_cell? w _ hx286_5)).trans hx286_5
    replace hx286_6 := (HB.out.cell (World.block_lt_of_cell? w _ hx286_6)).trans hx286_6
    replace p286 := eq_true p286
    replace q286 := eq_true q286
    refine start_ (n := 15) (S := fun w' => w'.cell? (ad278.add ((a1).toNat * 7)) = some (.int .i64 ((rd_T23 l0 a1).f0)) ∧ w'.cell? ⟨(ad278.add ((a1).toNat * 7)).block, (ad278.add ((a1).toNat * 7)).off + 1, none⟩ = some (.int .i64 ((rd_T23 l0 a1).f1)) ∧ w'.cell? ⟨(ad278.add ((a1).toNat * 7)).block, (ad278.add ((a1).toNat * 7)).off + 2, none⟩ = some (.int .i64 ((rd_T23 l0 a1).f2)) ∧ w'.cell? ⟨(ad278.add ((a1).toNat * 7)).block, (ad278.add ((a1).toNat * 7)).off + 3, none⟩ = some (.int .i64 ((rd_T23 l0 a1).f3)) ∧ w'.cell? ⟨(ad278.add ((a1).toNat * 7)).block, (ad278.add ((a1).toNat * 7)).off + 4, none⟩ = some (.int .i64 ((rd_T23 l0 a1).f4)) ∧ w'.cell? ⟨(ad278.add ((a1).toNat * 7)).block, (ad278.add ((a1).toNat * 7)).off + 5, none⟩ = some (.int .i64 ((rd_T23 l0 a1).f5)) ∧ w'.cell? ⟨(ad278.add ((a1).toNat * 7)).block, (ad278.add ((a1).toNat * 7)).off + 6, none⟩ = some (.int .i64 ((rd_T23 l0 a1).f6)) ∧ w'.cell? (ad278.add ((a1).toNat * 7)) = some (.int .i64 ((rd_T23 l0 a1).f0)) ∧ w'.cell? ⟨(ad278.add ((a1).toNat * 7)).block, (ad278.add ((a1).toNat * 7)).off + 1, none⟩ = some (.int .i64 ((rd_T23 l0 a1).f1)) ∧ w'.cell? ⟨(ad278.add ((a1).toNat * 7)).block, (ad278.add ((a1).toNat * 7)).off + 2, none⟩ = some (.int .i64 ((rd_T23 l0 a1).f2)) ∧ w'.cell? ⟨(ad278.add ((a1).toNat * 7)).block, (ad278.add ((a1).toNat * 7)).off + 3, none⟩ = some (.int .i64 ((rd_T23 l0 a1).f3)) ∧ w'.cell? ⟨(ad278.add ((a1).toNat * 7)).block, (ad278.add ((a1).toNat * 7)).off + 4, none⟩ = some (.int .i64 ((rd_T23 l0 a1).f4)) ∧ w'.cell? ⟨(ad278.add ((a1).toNat * 7)).block, (ad278.add ((a1).toNat * 7)).off + 5, none⟩ = some (.int .i64 ((rd_T23 l0 a1).f5)) ∧ w'.cell? ⟨(ad278.add ((a1).toNat * 7)).block, (ad278.add ((a1).toNat * 7)).off + 6, none⟩ = some (.int .i64 ((rd_T23 l0 a1).f6))) (ds := []) (bsA 15 0) (by kernel_rfl) rfl rfl ⟨((HB.out.cell (World.block_lt_of_cell? w _ hw282_0)).trans hw282_0), ((HB.out.cell (World.block_lt_of_cell? w _ hw282_1)).trans hw282_1), ((HB.out.cell (World.block_lt_of_cell? w _ hw282_2)).trans hw282_2), ((HB.out.cell (World.block_lt_of_cell? w _ hw282_3)).trans hw282_3), ((HB.out.cell (World.block_lt_of_cell? w _ hw282_4)).trans hw282_4), ((HB.out.cell (World.block_lt_of_cell? w _ hw282_5)).trans hw282_5), ((HB.out.cell (World.block_lt_of_cell? w _ hw282_6)).trans hw282_6), ((HB.out.cell (World.block_lt_of_cell? w _ hw286_0)).trans hw286_0), ((HB.out.cell (World.block_lt_of_cell? w _ hw286_1)).trans hw286_1), ((HB.out.cell (World.block_lt_of_cell? w _ hw286_2)).trans hw286_2), ((HB.out.cell (World.block_lt_of_cell? w _ hw286_3)).trans hw286_3), ((HB.out.cell (World.block_lt_of_cell? w _ hw286_4)).trans hw286_4), ((HB.out.cell (World.block_lt_of_cell? w _ hw286_5)).trans hw286_5), ((HB.out.cell (World.block_lt_of_cell? w _ hw286_6)).trans hw286_6)⟩ (fun hHeld => ?_); refine with_tabW spec_l5Path.tab3 spec_l5Path.bits3 (fun HT_ HW_ => ?_)
    generalize w.drew = w10 at HB hx282_0 hx282_1 hx282_2 hx282_3 hx282_4 hx282_5 hx282_6 hx286_0 hx286_1 hx286_2 hx286_3 hx286_4 hx286_5 hx286_6 hHeld ⊢
    refine pa_ (i := 0) (N := some 12) (bsA 15 1) (h := ?_)
    refine pa_ (i := 1) (N := some 13) (bsA 15 3) (h := ?_)
    refine pa_ (i := 2) (N := some 14) (bsA 15 7) (h := ?_)
    refine pa_ (i := 3) (N := some 15) (bsA 15 15) (h := ?_)
    refine pa_ (i := 4) (N := some 16) (bsA 15 31) (h := ?_)
    refine pa_ (i := 7) (N := some 19) (bsA 15 159) (h := ?_)
    refine pa_ (i := 8) (N := some 20) (bsA 15 415) (h := ?_)
    refine pa_ (i := 9) (N := some 21) (bsA 15 927) (h := ?_)
    refine pa_ (i := 10) (N := some 22) (bsA 15 1951) (h := ?_)
    refine take_ (i := 5) (N := some 17) (v := ?_) (a' := ?_) (bsA 15 1983) rfl rfl (take_ofW HT_.out HW_.out (by kernel_rfl)) (fun _ _ _ h => h) (Or.inl ⟨by rfl, ?_⟩) hHeld ?_ ?_
    rotate_left
    ·rintro w' ⟨s0, s1, s2, s3, s4, s5, s6, s7, s8, s9, s10, s11, s12, s13⟩
     go_simp
     with_reducible rfl
    rotate_left
    ·simp only [Act.put, List.setIfInBounds_toArray, List.set_cons_zero, List.set_cons_succ, i64_w, i32_w]
     rfl
    refine take_ (i := 11) (N := some 23) (v := ?_) (a' := ?_) (bsA 15 4031) rfl rfl (take_ofW HT_.out HW_.out (by kernel_rfl)) (fun _ _ _ h => h) (Or.inl ⟨by rfl, ?_⟩) hHeld ?_ ?_
    rotate_left
    ·rintro w' ⟨s0, s1, s2, s3, s4, s5, s6, s7, s8, s9, s10, s11, s12, s13⟩
     go_simp
     with_reducible rfl
    rotate_left
    ·simp only [Act.put, List.setIfInBounds_toArray, List.set_cons_zero, List.set_cons_succ, i64_w, i32_w]
     rfl
    refine join_ (σ := Value × Value) 2 (bsA 15 8191) (fun s_ => [(18, s_.1), (24, s_.2)]) (fun s_ w' => (w'.cell? (ad278.add ((a1).toNat * 7)) = some (.int .i64 ((rd_T23 l0 a1).f0)) ∧ w'.cell? ⟨(ad278.add ((a1).toNat * 7)).block, (ad278.add ((a1).toNat * 7)).off + 1, none⟩ = some (.int .i64 ((rd_T23 l0 a1).f1)) ∧ w'.cell? ⟨(ad278.add ((a1).toNat * 7)).block, (ad278.add ((a1).toNat * 7)).off + 2, none⟩ = some (.int .i64 ((rd_T23 l0 a1).f2)) ∧ w'.cell? ⟨(ad278.add ((a1).toNat * 7)).block, (ad278.add ((a1).toNat * 7)).off + 3, none⟩ = some (.int .i64 ((rd_T23 l0 a1).f3)) ∧ w'.cell? ⟨(ad278.add ((a1).toNat * 7)).block, (ad278.add ((a1).toNat * 7)).off + 4, none⟩ = some (.int .i64 ((rd_T23 l0 a1).f4)) ∧ w'.cell? ⟨(ad278.add ((a1).toNat * 7)).block, (ad278.add ((a1).toNat * 7)).off + 5, none⟩ = some (.int .i64 ((rd_T23 l0 a1).f5)) ∧ w'.cell? ⟨(ad278.add ((a1).toNat * 7)).block, (ad278.add ((a1).toNat * 7)).off + 6, none⟩ = some (.int .i64 ((rd_T23 l0 a1).f6)) ∧ w'.cell? (ad278.add ((a1).toNat * 7)) = some (.int .i64 ((rd_T23 l0 a1).f0)) ∧ w'.cell? ⟨(ad278.add ((a1).toNat * 7)).block, (ad278.add ((a1).toNat * 7)).off + 1, none⟩ = some (.int .i64 ((rd_T23 l0 a1).f1)) ∧ w'.cell? ⟨(ad278.add ((a1).toNat * 7)).block, (ad278.add ((a1).toNat * 7)).off + 2, none⟩ = some (.int .i64 ((rd_T23 l0 a1).f2)) ∧ w'.cell? ⟨(ad278.add ((a1).toNat * 7)).block, (ad278.add ((a1).toNat * 7)).off + 3, none⟩ = some (.int .i64 ((rd_T23 l0 a1).f3)) ∧ w'.cell? ⟨(ad278.add ((a1).toNat * 7)).block, (ad278.add ((a1).toNat * 7)).off + 4, none⟩ = some (.int .i64 ((rd_T23 l0 a1).f4)) ∧ w'.cell? ⟨(ad278.add ((a1).toNat * 7)).block, (ad278.add ((a1).toNat * 7)).off + 5, none⟩ = some (.int .i64 ((rd_T23 l0 a1).f5)) ∧ w'.cell? ⟨(ad278.add ((a1).toNat * 7)).block, (ad278.add ((a1).toNat * 7)).off + 6, none⟩ = some (.int .i64 ((rd_T23 l0 a1).f6))) ∧ (Kd.R (Kd.int .i64) 2 w' w.heap.size (fun k_ => some k_ ≠ (s_.2 : Value).ownBlock) s_.1 t283) ∧ (Kd.R (Kd.int .i64) 2 w' w.heap.size (fun k_ => some k_ ≠ (s_.1 : Value).ownBlock) s_.2 y287) ∧ (Below w.heap.size w w')) ?_ ?_
    rotate_left
    ·intro hCont
     refine two_ (i := 6) (j := 12) (Ni := some 18) (Nj := some 24) (bsA 15 4095) (bsA 15 8127) rfl rfl rfl rfl (two_of HT_.out (by kernel_rfl)) (by decide) (by decide) (fun K hK => ?_) (fun K hK => ?_)
     ·skip
      refine goes_ Tryd.func56 (by kernel_rfl) rfl #[.slice (some ad278) l0.length c0, .int .i64 ((rd_T23 l0 a1).f5)] (by rfl) rfl rfl bM ?_
      with_reducible refine (ih k (by omega) _ _ l0 ((rd_T23 l0 a1).f5) t283 _ ?side1 ?side2 A8.out).mono ?_
      (case side1 => exact zz5 HR0.out)
      (case side2 => exact HC0.out)
      rintro e w11 ⟨v284, rfl, ho0, hb⟩
      refine ⟨_, rfl, ?_⟩
      have HO285 := aM (Kd.R_lower ho0 (below_size bB))
      replace HB := aM (below_step bB hb)
      (try clear hb)
      (try clear hb2)
      (try clear hk)
      (try clear hi)
      (try clear ho0)
      refine hK.out _ _ ⟨((HB.out.cell (World.block_lt_of_cell? w _ hw282_0)).trans hw282_0), ((HB.out.cell (World.block_lt_of_cell? w _ hw282_1)).trans hw282_1), ((HB.out.cell (World.block_lt_of_cell? w _ hw282_2)).trans hw282_2), ((HB.out.cell (World.block_lt_of_cell? w _ hw282_3)).trans hw282_3), ((HB.out.cell (World.block_lt_of_cell? w _ hw282_4)).trans hw282_4), ((HB.out.cell (World.block_lt_of_cell? w _ hw282_5)).trans hw282_5), ((HB.out.cell (World.block_lt_of_cell? w _ hw282_6)).trans hw282_6), ((HB.out.cell (World.block_lt_of_cell? w _ hw286_0)).trans hw286_0), ((HB.out.cell (World.block_lt_of_cell? w _ hw286_1)).trans hw286_1), ((HB.out.cell (World.block_lt_of_cell? w _ hw286_2)).trans hw286_2), ((HB.out.cell (World.block_lt_of_cell? w _ hw286_3)).trans hw286_3), ((HB.out.cell (World.block_lt_of_cell? w _ hw286_4)).trans hw286_4), ((HB.out.cell (World.block_lt_of_cell? w _ hw286_5)).trans hw286_5), ((HB.out.cell (World.block_lt_of_cell? w _ hw286_6)).trans hw286_6)⟩ (fun hHeld => ?_)
      clear hK K
      refine na_ (N := some 18) (h := ?_)
      refine one_ (i := 12) (N := some 24) (bsA 15 8191) rfl rfl (one_of HT_.out (by kernel_rfl)) (by decide) (fun K hK => ?_)
      refine Kd.R_lit_step (Kd.int .i64) _ 2 ?hg (N := 24) ?hd (xs := ([(rd_T23 l0 a1).f6] : List Int)) (inner := [.int .i64 ((rd_T23 l0 a1).f6)]) (ok := fun _ => True) (okp := fun _ => True) ?hr ?hp (fun _ hk => hk) trivial (Below.refl _ _) (Nat.le_refl _) (by simp) ?_; (case hd => rfl); (case hg => rfl); (case hr => exact zz12); (case hp => exact (Reps.one (show Kd.M (Kd.int .i64) _ _ _ ((rd_T23 l0 a1).f6) [.int .i64 ((rd_T23 l0 a1).f6)] from rfl) (Reps.none _ _)))
      intro v288 w12 ho13 hb hg_ hnew_
      clear hg_ hnew_
      (first | rw [← Ny287.out] at ho13 | (simp only [Int.reduceToNat] at ho13; rw [← Ny287.out] at ho13))
      have HO289 := aM (Kd.R_lower (Kd.R_new' ho13 (Kd.R_lt (bR HO285))) (below_size bB))
      replace HO285 := aM (Kd.R_elder' (bR HO285) (Kd.R_base ho13) hb)
      replace HB := aM (below_step bB hb)
      clear hb ho13
      refine hK.out _ _ ⟨((HB.out.cell (World.block_lt_of_cell? w _ hw282_0)).trans hw282_0), ((HB.out.cell (World.block_lt_of_cell? w _ hw282_1)).trans hw282_1), ((HB.out.cell (World.block_lt_of_cell? w _ hw282_2)).trans hw282_2), ((HB.out.cell (World.block_lt_of_cell? w _ hw282_3)).trans hw282_3), ((HB.out.cell (World.block_lt_of_cell? w _ hw282_4)).trans hw282_4), ((HB.out.cell (World.block_lt_of_cell? w _ hw282_5)).trans hw282_5), ((HB.out.cell (World.block_lt_of_cell? w _ hw282_6)).trans hw282_6), ((HB.out.cell (World.block_lt_of_cell? w _ hw286_0)).trans hw286_0), ((HB.out.cell (World.block_lt_of_cell? w _ hw286_1)).trans hw286_1), ((HB.out.cell (World.block_lt_of_cell? w _ hw286_2)).trans hw286_2), ((HB.out.cell (World.block_lt_of_cell? w _ hw286_3)).trans hw286_3), ((HB.out.cell (World.block_lt_of_cell? w _ hw286_4)).trans hw286_4), ((HB.out.cell (World.block_lt_of_cell? w _ hw286_5)).trans hw286_5), ((HB.out.cell (World.block_lt_of_cell? w _ hw286_6)).trans hw286_6)⟩ (fun hHeld => ?_)
      clear hK K
      refine na_ (N := some 24) (h := ?_)
      exact norm_ zz28 (hCont (v284, v288) _ ⟨hHeld, (zz10 HO285.out), (zz10 HO289.out), bB⟩)
     skip
     refine Kd.R_lit_step (Kd.int .i64) _ 2 ?hg (N := 24) ?hd (xs := ([(rd_T23 l0 a1).f6] : List Int)) (inner := [.int .i64 ((rd_T23 l0 a1).f6)]) (ok := fun _ => True) (okp := fun _ => True) ?hr ?hp (fun _ hk => hk) trivial (Below.refl _ _) (Nat.le_refl _) (by simp) ?_; (case hd => rfl); (case hg => rfl); (case hr => exact zz12); (case hp => exact (Reps.one (show Kd.M (Kd.int .i64) _ _ _ ((rd_T23 l0 a1).f6) [.int .i64 ((rd_T23 l0 a1).f6)] from rfl) (Reps.none _ _)))
     intro v288 w11 ho12 hb hg_ hnew_
     clear hg_ hnew_
     (first | rw [← Ny287.out] at ho12 | (simp only [Int.reduceToNat] at ho12; rw [← Ny287.out] at ho12))
     have HO289 := aM (Kd.R_lower ho12 (below_size bB))
     replace HB := aM (below_step bB hb)
     clear hb ho12
     refine hK.out _ _ ⟨((HB.out.cell (World.block_lt_of_cell? w _ hw282_0)).trans hw282_0), ((HB.out.cell (World.block_lt_of_cell? w _ hw282_1)).trans hw282_1), ((HB.out.cell (World.block_lt_of_cell? w _ hw282_2)).trans hw282_2), ((HB.out.cell (World.block_lt_of_cell? w _ hw282_3)).trans hw282_3), ((HB.out.cell (World.block_lt_of_cell? w _ hw282_4)).trans hw282_4), ((HB.out.cell (World.block_lt_of_cell? w _ hw282_5)).trans hw282_5), ((HB.out.cell (World.block_lt_of_cell? w _ hw282_6)).trans hw282_6), ((HB.out.cell (World.block_lt_of_cell? w _ hw286_0)).trans hw286_0), ((HB.out.cell (World.block_lt_of_cell? w _ hw286_1)).trans hw286_1), ((HB.out.cell (World.block_lt_of_cell? w _ hw286_2)).trans hw286_2), ((HB.out.cell (World.block_lt_of_cell? w _ hw286_3)).trans hw286_3), ((HB.out.cell (World.block_lt_of_cell? w _ hw286_4)).trans hw286_4), ((HB.out.cell (World.block_lt_of_cell? w _ hw286_5)).trans hw286_5), ((HB.out.cell (World.block_lt_of_cell? w _ hw286_6)).trans hw286_6)⟩ (fun hHeld => ?_)
     clear hK K
     refine na_ (N := some 24) (h := ?_)
     refine one_ (i := 6) (N := some 18) (bsA 15 8191) rfl rfl (one_of HT_.out (by kernel_rfl)) (by decide) (fun K hK => ?_)
     refine goes_ Tryd.func56 (by kernel_rfl) rfl #[.slice (some ad278) l0.length c0, .int .i64 ((rd_T23 l0 a1).f5)] (by rfl) rfl rfl bM ?_
     with_reducible refine (ih k (by omega) _ _ l0 ((rd_T23 l0 a1).f5) t283 _ ?side1 ?side2 A8.out).mono ?_
     (case side1 => exact zz5 HR0.out)
     (case side2 => exact HC0.out)
     rintro e w13 ⟨v284, rfl, ho0, hb⟩
     refine ⟨_, rfl, ?_⟩
     have HO285 := aM (Kd.R_lower (Kd.R_new' ho0 (Kd.R_lt (bR HO289))) (below_size bB))
     replace HO289 := aM (Kd.R_elder' (bR HO289) (Kd.R_base ho0) hb)
     replace HB := aM (below_step bB hb)
     (try clear hb)
     (try clear hb2)
     (try clear hk)
     (try clear hi)
     (try clear ho0)
     refine hK.out _ _ ⟨((HB.out.cell (World.block_lt_of_cell? w _ hw282_0)).trans hw282_0), ((HB.out.cell (World.block_lt_of_cell? w _ hw282_1)).trans hw282_1), ((HB.out.cell (World.block_lt_of_cell? w _ hw282_2)).trans hw282_2), ((HB.out.cell (World.block_lt_of_cell? w _ hw282_3)).trans hw282_3), ((HB.out.cell (World.block_lt_of_cell? w _ hw282_4)).trans hw282_4), ((HB.out.cell (World.block_lt_of_cell? w _ hw282_5)).trans hw282_5), ((HB.out.cell (World.block_lt_of_cell? w _ hw282_6)).trans hw282_6), ((HB.out.cell (World.block_lt_of_cell? w _ hw286_0)).trans hw286_0), ((HB.out.cell (World.block_lt_of_cell? w _ hw286_1)).trans hw286_1), ((HB.out.cell (World.block_lt_of_cell? w _ hw286_2)).trans hw286_2), ((HB.out.cell (World.block_lt_of_cell? w _ hw286_3)).trans hw286_3), ((HB.out.cell (World.block_lt_of_cell? w _ hw286_4)).trans hw286_4), ((HB.out.cell (World.block_lt_of_cell? w _ hw286_5)).trans hw286_5), ((HB.out.cell (World.block_lt_of_cell? w _ hw286_6)).trans hw286_6)⟩ (fun hHeld => ?_)
     clear hK K
     refine na_ (N := some 18) (h := ?_)
     exact norm_ zz28 (hCont (v284, v288) _ ⟨hHeld, (zz10 HO285.out), (zz10 HO289.out), bB⟩)
    rintro ⟨v284, v288⟩ w14 ⟨hS_, h0_, h1_, h2_⟩
    have n0_ : Aside0 (Kd.R (Kd.int .i64) 2 w14 w.heap.size (fun k_ => some k_ ≠ (v288 : Value).ownBlock) v284 t283) := ⟨h0_⟩
    have n1_ : Aside0 (Kd.R (Kd.int .i64) 2 w14 w.heap.size (fun k_ => some k_ ≠ (v284 : Value).ownBlock) v288 y287) := ⟨h1_⟩
    have n2_ : Aside0 (Below w.heap.size w w14) := ⟨h2_⟩
    clear HB
    clear h0_ h1_ h2_
    have HO285 := n0_
    have HO289 := n1_
    have HB := n2_
    clear n0_ n1_ n2_
    have hHeld : w14.cell? (ad278.add ((a1).toNat * 7)) = some (.int .i64 ((rd_T23 l0 a1).f0)) ∧ w14.cell? ⟨(ad278.add ((a1).toNat * 7)).block, (ad278.add ((a1).toNat * 7)).off + 1, none⟩ = some (.int .i64 ((rd_T23 l0 a1).f1)) ∧ w14.cell? ⟨(ad278.add ((a1).toNat * 7)).block, (ad278.add ((a1).toNat * 7)).off + 2, none⟩ = some (.int .i64 ((rd_T23 l0 a1).f2)) ∧ w14.cell? ⟨(ad278.add ((a1).toNat * 7)).block, (ad278.add ((a1).toNat * 7)).off + 3, none⟩ = some (.int .i64 ((rd_T23 l0 a1).f3)) ∧ w14.cell? ⟨(ad278.add ((a1).toNat * 7)).block, (ad278.add ((a1).toNat * 7)).off + 4, none⟩ = some (.int .i64 ((rd_T23 l0 a1).f4)) ∧ w14.cell? ⟨(ad278.add ((a1).toNat * 7)).block, (ad278.add ((a1).toNat * 7)).off + 5, none⟩ = some (.int .i64 ((rd_T23 l0 a1).f5)) ∧ w14.cell? ⟨(ad278.add ((a1).toNat * 7)).block, (ad278.add ((a1).toNat * 7)).off + 6, none⟩ = some (.int .i64 ((rd_T23 l0 a1).f6)) ∧ w14.cell? (ad278.add ((a1).toNat * 7)) = some (.int .i64 ((rd_T23 l0 a1).f0)) ∧ w14.cell? ⟨(ad278.add ((a1).toNat * 7)).block, (ad278.add ((a1).toNat * 7)).off + 1, none⟩ = some (.int .i64 ((rd_T23 l0 a1).f1)) ∧ w14.cell? ⟨(ad278.add ((a1).toNat * 7)).block, (ad278.add ((a1).toNat * 7)).off + 2, none⟩ = some (.int .i64 ((rd_T23 l0 a1).f2)) ∧ w14.cell? ⟨(ad278.add ((a1).toNat * 7)).block, (ad278.add ((a1).toNat * 7)).off + 3, none⟩ = some (.int .i64 ((rd_T23 l0 a1).f3)) ∧ w14.cell? ⟨(ad278.add ((a1).toNat * 7)).block, (ad278.add ((a1).toNat * 7)).off + 4, none⟩ = some (.int .i64 ((rd_T23 l0 a1).f4)) ∧ w14.cell? ⟨(ad278.add ((a1).toNat * 7)).block, (ad278.add ((a1).toNat * 7)).off + 5, none⟩ = some (.int .i64 ((rd_T23 l0 a1).f5)) ∧ w14.cell? ⟨(ad278.add ((a1).toNat * 7)).block, (ad278.add ((a1).toNat * 7)).off + 6, none⟩ = some (.int .i64 ((rd_T23 l0 a1).f6)) := hS_
    obtain ⟨Ao16, co16, eo16⟩ := Kd.R_slice HO289.out
    (first | subst eo16 | (injection eo16 with f1_ f2_ f3_; have f4_ := f1_.symm; have f5_ := f3_.symm; clear f1_ f2_ f3_; subst f4_; subst f5_))
    refine norm_ (a' := ?_) ?_ ?_
    rotate_left
    ·simp only [putAll, Act.put, List.setIfInBounds_toArray, List.set_cons_zero, List.set_cons_succ]
     rfl
    refine one_ (i := 13) (N := some 25) (bsA 15 16383) rfl rfl (one_of HT_.out (by kernel_rfl)) (by decide) (fun K hK => ?_)
    refine Kd.R_append_rows_step (Kd.int .i64) (w0 := w) w.heap.size (by rfl) (.tmp 18) (.tmp 24) 37 2 (.int .i64 0) 8 rfl Tryd.underlying37 info2 rfl (by decide) (by omega) v284 t283 y287 _ _ _ (fun k_ => some k_ ≠ (.slice Ao16 y287.length co16 : Value).ownBlock) (fun _ => False) rfl rfl ?aO ?aR (fun _ _ h => h) (fun _ h => h.elim) ?aF ?aB ?aS ?aL ?_
    (case aR => exact zz7 HO289.out)
    (case aB => exact bB)
    (case aF => exact (fun k_ hk => Kd.fresh' (Kd.R_lt (bR HO289)) k_ hk))
    (case aO => exact (bR HO285))
    (case aS => exact (below_size bB))
    (case aL => have := LMc9.out; omega)
    intro v291 w15 ho hb hg hat
    rw [← Ny290.out] at ho
    have n0_ := aM (Kd.R_after (ok := (fun _ => True)) (zz37 HO289.out) hg hat)
    have n1_ := aM (hb)
    have n2_ := aM (ho)
    clear HO289
    clear HB
    clear HO285
    have HO289 := n0_
    have HB := n1_
    have HO292 := n2_
    clear n0_ n1_ n2_
    clear ho hb hg hat
    refine hK.out _ _ ⟨((HB.out.cell (World.block_lt_of_cell? w _ hw282_0)).trans hw282_0), ((HB.out.cell (World.block_lt_of_cell? w _ hw282_1)).trans hw282_1), ((HB.out.cell (World.block_lt_of_cell? w _ hw282_2)).trans hw282_2), ((HB.out.cell (World.block_lt_of_cell? w _ hw282_3)).trans hw282_3), ((HB.out.cell (World.block_lt_of_cell? w _ hw282_4)).trans hw282_4), ((HB.out.cell (World.block_lt_of_cell? w _ hw282_5)).trans hw282_5), ((HB.out.cell (World.block_lt_of_cell? w _ hw282_6)).trans hw282_6), ((HB.out.cell (World.block_lt_of_cell? w _ hw286_0)).trans hw286_0), ((HB.out.cell (World.block_lt_of_cell? w _ hw286_1)).trans hw286_1), ((HB.out.cell (World.block_lt_of_cell? w _ hw286_2)).trans hw286_2), ((HB.out.cell (World.block_lt_of_cell? w _ hw286_3)).trans hw286_3), ((HB.out.cell (World.block_lt_of_cell? w _ hw286_4)).trans hw286_4), ((HB.out.cell (World.block_lt_of_cell? w _ hw286_5)).trans hw286_5), ((HB.out.cell (World.block_lt_of_cell? w _ hw286_6)).trans hw286_6)⟩ (fun hHeld => ?_)
    clear hK K
    refine na_ (N := some 25) (h := ?_)
    refine pa_ (i := 14) (N := some 4) (bsA 15 32767) (h := ?_)
    refine done_ (done_of HT_.out (by kernel_rfl)) ?_
    try go_wp2
    go_ret
    exact ⟨_, bE, zz31 HO292.out, bB⟩
   rw [if_neg c9] at H
   exact absurd H (by simp)
  rw [if_neg c4] at H
  exact absurd H (by simp)
 rw [if_neg c3] at H
 exact absurd H (by simp)
def spec_PathOf.f (k : Nat) (l0 : List Int) (a1 : Int) : Option (Int × List Int) := if (l0.length : Int) > 400 then (some (2, ([] : List Int))) else ((spec_l5Parse.f k l0).bind fun t294 => ((spec_l1In.f a1 0 (wrap64 ((t294.length : Int) - 1))).bind fun t297 => (if t297 = true then ((spec_l5Path.f k t294 a1).bind fun t298 => (some (0, t298))) else (some (3, ([] : List Int))))))
set_option maxHeartbeats 8000000 in
set_option maxRecDepth 100000 in
theorem spec_PathOf.calls (k : Nat) (A0 : Option Addr) (c0 : Nat) (l0 : List Int) (a1 : Int) (r1 : Int) (r2 : List Int) (w : World) (hr0 : Kd.C (Kd.int .u8) w A0 l0.length l0) (hc0 : l0.length ≤ c0) (h : spec_PathOf.f k l0 a1 = some (r1, r2)) :
  Calls Tryd.prog 25 #[.slice A0 l0.length c0, .int .i64 a1] w fun e w' => ∃ v1_ : Value, e = .returned (.agg #[.int .i64 r1, v1_]) ∧ Kd.R (Kd.int .i64) 2 w' w.heap.size (fun _ => True) v1_ r2 ∧ Below w.heap.size w w' := by
 have hu46 := Tryd.underlying46
 have HR0 := aM hr0
 have HC0 := aM hc0
 clear hr0 hc0
 have HB := aM (Below.refl w.heap.size w)
 have H : (if (l0.length : Int) > 400 then (some (2, ([] : List Int))) else ((spec_l5Parse.f k l0).bind fun t294 => ((spec_l1In.f a1 0 (wrap64 ((t294.length : Int) - 1))).bind fun t297 => (if t297 = true then ((spec_l5Path.f k t294 a1).bind fun t298 => (some (0, t298))) else (some (3, ([] : List Int))))))) = some (r1, r2) := h
 clear h
 have HQ_ := aM H
 clear H
 go_enter Tryd.func25, Tryd.ntmps25
 have H := HQ_.out
 clear HQ_
 by_cases c3 : (l0.length : Int) > 400
 ·rw [if_pos c3] at H
  have c3b0 : decide (400 < (l0.length : Int)) = true := decide_eq_true c3
  have c3b1 : decide (400 < l0.length) = true := decide_eq_true (by omega)
  clear c3
  simp only [Option.some.injEq, Prod.mk.injEq] at H
  obtain ⟨rfl, rfl⟩ := H
  (try simp only [c3b0, c3b1])
  go_wp2_with (first | ((with_reducible refine gate_dst (N := 4) rfl ?_); refine box_event ?hg (N := 4) ?hd (cs := #[.int .i64 0, .slice none 0 0]) (t := 46) ?hr ?_; (case hd => rfl); (case hg => rfl); (case hr => exact zz12); intro gb293 hg w4 hbox hb; have BK293 := aM (hbox); have GW293 := aM ((zz20 : w.heap.size ≤ gb293)); have GE293 := aM ((zz20 : w.heap.size ≤ gb293)); replace HB := aM (below_step bB hb); clear hb hbox hg; have hcz5_0 : w4.cell? ⟨gb293, 0, none⟩ = some (.int .i64 0) := (blk_cell BK293.out 0).trans rfl; have hcz5_1 : w4.cell? ⟨gb293, 1, none⟩ = some (.slice none 0 0) := (blk_cell BK293.out 1).trans rfl; have hfz5_0 := blk_frozen BK293.out 0; have hfz5_1 := blk_frozen BK293.out 1))
  refine bodyPost_ret (results_cell_row rfl _ _ gb293 46 #[.int .i64 2, .slice none 0 0] (0, 0) _ rfl (by (with_reducible repeat (first | refine blk_drewN ?_ _ | refine blk_drew ?_ | refine blk_alloc ?_ _)); refine blk_put (cs := #[.int .i64 2, .slice none 0 0]) ?_ 1 _ rfl; (with_reducible repeat (first | refine blk_drewN ?_ _ | refine blk_drew ?_ | refine blk_alloc ?_ _)); refine blk_put (cs := #[.int .i64 0, .slice none 0 0]) ?_ 0 _ rfl; (with_reducible repeat (first | refine blk_drewN ?_ _ | refine blk_drew ?_ | refine blk_alloc ?_ _)); exact BK293.out) Tryd.underlying46 rfl (by kernel_rfl)) rfl ?_
  exact ⟨_, bE, zz22, bG GE293⟩
 rw [if_neg c3] at H
 have c3b0 : decide (400 < (l0.length : Int)) = false := decide_eq_false c3
 have c3b1 : decide (400 < l0.length) = false := decide_eq_false (by omega)
 clear c3
 replace H := Option.bind_eq_some_iff.mp H
 obtain ⟨t294, A60, H⟩ := H
 replace H : ((spec_l1In.f a1 0 (wrap64 ((t294.length : Int) - 1))).bind fun t297 => (if t297 = true then ((spec_l5Path.f k t294 a1).bind fun t298 => (some (0, t298))) else (some (3, ([] : List Int))))) = some (r1, r2) := H
 have A6 := aM A60
 clear A60
 replace H := Option.bind_eq_some_iff.mp H
 obtain ⟨t297, A70, H⟩ := H
 replace H : (if t297 = true then ((spec_l5Path.f k t294 a1).bind fun t298 => (some (0, t298))) else (some (3, ([] : List Int)))) = some (r1, r2) := H
 have A7 := aM A70
 clear A70
 (try simp only [c3b0, c3b1])
 by_cases c8 : t297 = true
 ·subst c8
  have H1 : ((spec_l5Path.f k t294 a1).bind fun t298 => (some (0, t298))) = some (r1, r2) := zz25
  clear H
  have H := H1
  clear H1
  replace H := Option.bind_eq_some_iff.mp H
  obtain ⟨t298, A90, H⟩ := H
  replace H : (some (0, t298)) = some (r1, r2) := H
  have A9 := aM A90
  clear A90
  simp only [Option.some.injEq, Prod.mk.injEq] at H
  obtain ⟨rfl, rfl⟩ := H
  go_wp2_with (first | ((with_reducible refine gate_dst (N := 4) rfl ?_); refine box_event ?hg (N := 4) ?hd (cs := #[.int .i64 0, .slice none 0 0]) (t := 46) ?hr ?_; (case hd => rfl); (case hg => rfl); (case hr => exact zz12); intro gb293 hg w10 hbox hb; have BK293 := aM (hbox); have GW293 := aM ((zz20 : w.heap.size ≤ gb293)); have GE293 := aM ((zz20 : w.heap.size ≤ gb293)); replace HB := aM (below_step bB hb); clear hb hbox hg) | ((with_reducible refine gate_callee (f := 46) rfl ?_); refine gL_ (some 11) Tryd.func46 #[.slice A0 l0.length c0] ?_; (with_reducible refine (spec_l5Parse.calls k _ _ l0 t294 _ ?side1 ?side2 A6.out).mono ?_); (case side1 => exact zz5 HR0.out); (case side2 => exact HC0.out); rintro e w11 ⟨v295, rfl, ho0, hb⟩; refine ⟨_, rfl, ?_⟩; have HO296 := aM (Kd.R_lower ho0 (below_size (bG GE293))); replace BK293 := aM (blk_below (g := gb293) (o := .cells #[.int .i64 0, .slice none 0 0] 46 (0, 0)) (bL BK293) hb); replace HB := aM (below_step (bG GE293) hb); (try clear ho0); obtain ⟨Ao12, co12, eo12⟩ := Kd.R_slice HO296.out; subst eo12) | ((with_reducible refine gate_callee (f := 47) rfl ?_); refine gL_ (some 16) Tryd.func47 #[.int .i64 a1, .int .i64 0, .int .i64 (wrap64 ((t294.length : Int) - 1))] ?_; (with_reducible refine (spec_l1In.calls a1 0 (wrap64 ((t294.length : Int) - 1)) true _ A7.out).mono ?_); rintro e w' ⟨rfl, ⟨nd, rfl⟩⟩; refine ⟨_, rfl, ?_⟩; (try (rw [drewN_self w11]; generalize hq_ : World.drewN w11 _ = w11; have n0_ : Aside0 (Kd.R k23 23 w11 w.heap.size (fun _ => True) (.slice Ao12 t294.length co12) t294) := ⟨by rw [← hq_]; exact (bR HO296)⟩; have n1_ : Aside0 (w11.heap[gb293]? = some (.cells #[.int .i64 0, .slice none 0 0] 46 (0, 0))) := ⟨by rw [← hq_]; exact (bL BK293)⟩; have n2_ : Aside0 (Below w.heap.size w w11) := ⟨by rw [← hq_]; exact (bG GE293)⟩; clear HO296 BK293 HB hq_; have HO296 := n0_; have BK293 := n1_; have HB := n2_; clear n0_ n1_ n2_))) | ((with_reducible refine gate_callee (f := 56) rfl ?_); refine gL_ (some 21) Tryd.func56 #[.slice Ao12 t294.length co12, .int .i64 a1] ?_; (with_reducible refine (spec_l5Path.calls k _ _ t294 a1 t298 _ ?side1 ?side2 A9.out).mono ?_); (case side1 => exact zz7 HO296.out); (case side2 => exact (Kd.R_reads' HO296.out).2.1); rintro e w13 ⟨v299, rfl, ho0, hb⟩; refine ⟨_, rfl, ?_⟩; replace HO296 := aM (Kd.R_below (bR HO296) hb); have HO300 := aM (Kd.R_lower ho0 (below_size (bG GE293))); replace BK293 := aM (blk_below (g := gb293) (o := .cells #[.int .i64 0, .slice none 0 0] 46 (0, 0)) (bL BK293) hb); replace HB := aM (below_step (bG GE293) hb); (try clear ho0); obtain ⟨Ao14, co14, eo14⟩ := Kd.R_slice HO300.out; subst eo14; have hcz15_0 : w13.cell? ⟨gb293, 0, none⟩ = some (.int .i64 0) := (blk_cell BK293.out 0).trans rfl; have hcz15_1 : w13.cell? ⟨gb293, 1, none⟩ = some (.slice none 0 0) := (blk_cell BK293.out 1).trans rfl; have hfz15_0 := blk_frozen BK293.out 0; have hfz15_1 := blk_frozen BK293.out 1))
  refine bodyPost_ret (results_cell_row rfl _ _ gb293 46 #[.int .i64 0, .slice Ao14 t298.length co14] (0, 0) _ rfl (by (with_reducible repeat (first | refine blk_drewN ?_ _ | refine blk_drew ?_ | refine blk_alloc ?_ _)); refine blk_put (cs := #[.int .i64 0, .slice none 0 0]) ?_ 1 _ rfl; (with_reducible repeat (first | refine blk_drewN ?_ _ | refine blk_drew ?_ | refine blk_alloc ?_ _)); refine blk_put (cs := #[.int .i64 0, .slice none 0 0]) ?_ 0 _ rfl; (with_reducible repeat (first | refine blk_drewN ?_ _ | refine blk_drew ?_ | refine blk_alloc ?_ _)); exact BK293.out) Tryd.underlying46 rfl (by kernel_rfl)) rfl ?_
  exact ⟨_, bE, by (with_reducible repeat (first | apply Kd.R_alloc | apply Kd.R_drewN | apply Kd.R_drew)); exact Kd.R_mono (Kd.R_far (p := ⟨gb293, 1, none⟩) (Kd.R_far (p := ⟨gb293, 0, none⟩) (Kd.R_types HO300.out BK293.out (by decide)) (fun _ hk => hk.2) (.int .i64 0)) (fun _ hk => hk.2) (.slice Ao14 t298.length co14)) (fun _ hk => trivial), bG GE293⟩
 replace c8 := Bool.eq_false_iff.mpr c8
 subst c8
 have H1 : (some (3, ([] : List Int))) = some (r1, r2) := zz14
 clear H
 have H := H1
 clear H1
 simp only [Option.some.injEq, Prod.mk.injEq] at H
 obtain ⟨rfl, rfl⟩ := H
 go_wp2_with (first | ((with_reducible refine gate_dst (N := 4) rfl ?_); refine box_event ?hg (N := 4) ?hd (cs := #[.int .i64 0, .slice none 0 0]) (t := 46) ?hr ?_; (case hd => rfl); (case hg => rfl); (case hr => exact zz12); intro gb293 hg w16 hbox hb; have BK293 := aM (hbox); have GW293 := aM ((zz20 : w.heap.size ≤ gb293)); have GE293 := aM ((zz20 : w.heap.size ≤ gb293)); replace HB := aM (below_step bB hb); clear hb hbox hg) | ((with_reducible refine gate_callee (f := 46) rfl ?_); refine gL_ (some 11) Tryd.func46 #[.slice A0 l0.length c0] ?_; (with_reducible refine (spec_l5Parse.calls k _ _ l0 t294 _ ?side1 ?side2 A6.out).mono ?_); (case side1 => exact zz5 HR0.out); (case side2 => exact HC0.out); rintro e w17 ⟨v295, rfl, ho0, hb⟩; refine ⟨_, rfl, ?_⟩; have HO296 := aM (Kd.R_lower ho0 (below_size (bG GE293))); replace BK293 := aM (blk_below (g := gb293) (o := .cells #[.int .i64 0, .slice none 0 0] 46 (0, 0)) (bL BK293) hb); replace HB := aM (below_step (bG GE293) hb); (try clear ho0); obtain ⟨Ao18, co18, eo18⟩ := Kd.R_slice HO296.out; subst eo18) | ((with_reducible refine gate_callee (f := 47) rfl ?_); refine gL_ (some 16) Tryd.func47 #[.int .i64 a1, .int .i64 0, .int .i64 (wrap64 ((t294.length : Int) - 1))] ?_; (with_reducible refine (spec_l1In.calls a1 0 (wrap64 ((t294.length : Int) - 1)) false _ A7.out).mono ?_); rintro e w' ⟨rfl, ⟨nd, rfl⟩⟩; refine ⟨_, rfl, ?_⟩; (try (rw [drewN_self w17]; generalize hq_ : World.drewN w17 _ = w17; have n0_ : Aside0 (Kd.R k23 23 w17 w.heap.size (fun _ => True) (.slice Ao18 t294.length co18) t294) := ⟨by rw [← hq_]; exact (bR HO296)⟩; have n1_ : Aside0 (w17.heap[gb293]? = some (.cells #[.int .i64 0, .slice none 0 0] 46 (0, 0))) := ⟨by rw [← hq_]; exact (bL BK293)⟩; have n2_ : Aside0 (Below w.heap.size w w17) := ⟨by rw [← hq_]; exact (bG GE293)⟩; clear HO296 BK293 HB hq_; have HO296 := n0_; have BK293 := n1_; have HB := n2_; clear n0_ n1_ n2_)); have hcz19_0 : w17.cell? ⟨gb293, 0, none⟩ = some (.int .i64 0) := (blk_cell BK293.out 0).trans rfl; have hcz19_1 : w17.cell? ⟨gb293, 1, none⟩ = some (.slice none 0 0) := (blk_cell BK293.out 1).trans rfl; have hfz19_0 := blk_frozen BK293.out 0; have hfz19_1 := blk_frozen BK293.out 1))
 refine bodyPost_ret (results_cell_row rfl _ _ gb293 46 #[.int .i64 3, .slice none 0 0] (0, 0) _ rfl (by (with_reducible repeat (first | refine blk_drewN ?_ _ | refine blk_drew ?_ | refine blk_alloc ?_ _)); refine blk_put (cs := #[.int .i64 3, .slice none 0 0]) ?_ 1 _ rfl; (with_reducible repeat (first | refine blk_drewN ?_ _ | refine blk_drew ?_ | refine blk_alloc ?_ _)); refine blk_put (cs := #[.int .i64 0, .slice none 0 0]) ?_ 0 _ rfl; (with_reducible repeat (first | refine blk_drewN ?_ _ | refine blk_drew ?_ | refine blk_alloc ?_ _)); exact BK293.out) Tryd.underlying46 rfl (by kernel_rfl)) rfl ?_
 exact ⟨_, bE, zz22, bG GE293⟩
def impl_pieces_1.f (a0 : Int) : Option (Bool) := some (a0 == 59)
set_option maxHeartbeats 8000000 in
set_option maxRecDepth 100000 in
theorem impl_pieces_1.calls (a0 : Int) (r : Bool) (w : World) (h : impl_pieces_1.f a0 = some r) :
  Calls Tryd.prog 78 #[.int .i32 a0] w fun e w' => e = .returned (.bool r) ∧ Drawn0 w w' := by
 have H : (some (a0 == 59)) = some r := h
 clear h
 obtain rfl := Option.some.inj H
 go_enter Tryd.func78, Tryd.ntmps78
 go_wp2
 go_ret
 exact ⟨bS, zz6⟩
end Go.Proofs.YtecpanfndodjgaaDoor.PPathOf
