/- Part of the proof; words that it uses. -/
import Derived.Test.YtecpanfndodjgaaDoorPBodyOfx0
import Derived.Test.YtecpanfndodjgaaDoorPBodyOfx1
import Derived.Test.YtecpanfndodjgaaDoorPBodyOfx2
import Derived.Test.YtecpanfndodjgaaDoorPBodyOfx3
namespace Go.Proofs.YtecpanfndodjgaaDoor.PBodyOf
open Go.RowKit Go.Proofs.YtecpanfndodjgaaDoorW.PrintWords Go.Proofs.YtecpanfndodjgaaDoorW.PrintLast Go.Proofs.YtecpanfndodjgaaDoorW.PrintMore
attribute [local go_sem] max2_int max_two
set_option linter.unusedVariables false
set_option linter.unusedSimpArgs false
mutual
def spec_l5Spans.l0 : Nat → List Int → Int → ByteArray → List (S127) → Int → Int → Option ((List (S127)))
 | 0, _, _, _, _, _, _ => none
 | k + 1, x0, x2, x3, x9, x10, x11 => if x11 < x2 then (if 0 ≤ x2 then (if x2 ≤ (x0.length : Int) then ((spec_l4End.f k (x0.take (x2 : Int).toNat) x11).bind fun t239 => ((spec_l5Line.f x0 x11 t239 x3).bind fun t240 => (if t240 > 0 then (spec_l5Spans.j1 k x0 x2 x3 x9 x10 x11 t239 t240 (decide (x10 ≥ 0))) else (spec_l5Spans.j1 k x0 x2 x3 x9 x10 x11 t239 t240 false)))) else (none)) else (none)) else (if x10 ≥ 0 then (if x9.length < 8796093022208 then (some (x9 ++ [(⟨x10, x2⟩ : S127)])) else (none)) else (some x9))
def spec_l5Spans.j1 : Nat → List Int → Int → ByteArray → List (S127) → Int → Int → Int → Int → Bool → Option ((List (S127)))
 | 0, _, _, _, _, _, _, _, _, _ => none
 | k + 1, x0, x2, x3, x9, x10, x11, x12, x13, x34 => if x34 = true then ((spec_l1Max.f x10 (wrap64 (x11 - 1))).bind fun t241 => (if x9.length < 8796093022208 then (spec_l5Spans.j2 k x0 x2 x3 (x9 ++ [(⟨x10, t241⟩ : S127)]) x10 x12 x13) else (none))) else (spec_l5Spans.j2 k x0 x2 x3 x9 x10 x12 x13)
def spec_l5Spans.j2 : Nat → List Int → Int → ByteArray → List (S127) → Int → Int → Int → Option ((List (S127)))
 | 0, _, _, _, _, _, _, _ => none
 | k + 1, x0, x2, x3, x9, x10, x12, x13 => if x13 = 2 then (some x9) else (if x13 = 1 then ((spec_l1Min.f (wrap64 (x12 + 1)) x2).bind fun t245 => (spec_l5Spans.l0 k x0 x2 x3 x9 t245 (wrap64 (x12 + 1)))) else (spec_l5Spans.l0 k x0 x2 x3 x9 x10 (wrap64 (x12 + 1))))
end
def spec_l5Spans.f (k : Nat) (l0 : List Int) (a1 : Int) (a2 : Int) (a3 : ByteArray) : Option ((List (S127))) := spec_l5Spans.l0 k l0 a2 a3 (([] : List (S127))) (-1) a1
set_option maxHeartbeats 8000000 in
set_option maxRecDepth 100000 in
theorem spec_l5Spans.calls (k : Nat) (A0 : Option Addr) (c0 : Nat) (l0 : List Int) (a1 : Int) (a2 : Int) (a3 : ByteArray) (r : List (S127)) (w : World) (hr0 : Kd.C (Kd.int .u8) w A0 l0.length l0) (hc0 : l0.length ≤ c0) (h : spec_l5Spans.f k l0 a1 a2 a3 = some r) :
  Calls Tryd.prog 107 #[.slice A0 l0.length c0, .int .i64 a1, .int .i64 a2, .string a3] w fun e w' => ∃ v0_ : Value, e = .returned (v0_) ∧ Kd.R k127 127 w' w.heap.size (fun _ => True) v0_ r ∧ Below w.heap.size w w' := by
 have hu127 := Tryd.underlying127
 have HR0 := aM hr0
 have HC0 := aM hc0
 clear hr0 hc0
 have HB := aM (Below.refl w.heap.size w)
 have H : (spec_l5Spans.l0 k l0 a2 a3 (([] : List (S127))) (-1) a1) = some r := h
 clear h
 obtain ⟨y232, hy232⟩ : ∃ y_ : List (S127), y_ = (([] : List (S127))) := ⟨_, rfl⟩
 replace H : (spec_l5Spans.l0 k l0 a2 a3 y232 (-1) a1) = some r := zz3 hy232
 have Ny232 := aM hy232
 clear hy232
 have H' := aM H
 clear H
 go_enter Tryd.func107, Tryd.ntmps107
 go_wp2_with (first | ((with_reducible refine gate_dst (N := 14) rfl ?_); refine Kd.R_lit k127 _ 127 ?hg (N := 14) ?hd (xs := ([] : List (S127))) (inner := []) (ok := fun _ => True) (okp := fun _ => True) ?hr ?hp (fun _ hk => hk) trivial (Below.refl _ _) (Nat.le_refl _) (by simp) ?_; (case hd => rfl); (case hg => rfl); (case hr => exact zz13); (case hp => exact (Reps.none _ _)); intro v233 w5 ho6 hb hg_ hnew_; clear hg_ hnew_; (first | rw [← Ny232.out] at ho6 | (simp only [Int.reduceToNat] at ho6; rw [← Ny232.out] at ho6)); have HO234 := aM (Kd.R_lower ho6 (below_size bB)); replace HB := aM (below_step bB hb); clear hb ho6))
 go_loopg [9, 10, 11] k (fun kq v9 v10 v11 w' => ∃ (x9_1 : List (S127)) (x10_1 : Int) (x11_1 : Int), v10 = .int .i64 x10_1 ∧ v11 = .int .i64 x11_1 ∧ Aside0 (spec_l5Spans.l0 kq l0 a2 a3 x9_1 x10_1 x11_1 = some r) ∧ Aside0 (kq ≤ k) ∧ Aside0 (Kd.R k127 127 w' w.heap.size (fun _ => True) v9 x9_1) ∧ Aside0 (Below w.heap.size w w'))
 case atStart => exact ⟨(y232), ((-1)), (a1), bS, bS, H', ⟨Nat.le_refl _⟩, ⟨bR HO234⟩, ⟨bB⟩⟩
 case round =>
  clear H'
  try clear c1
  try clear p2
  obtain ⟨x9_1, x10_1, x11_1, rfl, rfl, HA, HK1, HO_9, HB⟩ := hrel
  cases gk with
  | zero => exact absurd HA.out (by simp [spec_l5Spans.l0])
  | succ k1 =>
   have H := HA.out
   clear HA
   simp only [spec_l5Spans.l0] at H
   by_cases c7 : x11_1 < a2
   ·rw [if_pos c7] at H
    have c7b0 : decide (x11_1 < a2) = true := decide_eq_true c7
    clear c7
    by_cases c8 : 0 ≤ a2
    ·rw [if_pos c8] at H
     have c8b0 := eq_true c8
     have c8b1 : decide (0 ≤ a2) = true := decide_eq_true c8
     clear c8
     by_cases c9 : a2 ≤ (l0.length : Int)
     ·rw [if_pos c9] at H
      have c9b0 := eq_true c9
      have c9b1 : decide (a2 ≤ (l0.length : Int)) = true := decide_eq_true c9
      (try have c9z := eq_true (show (a2 : Int) ≤ (c0 : Int) from (by have h_ := HC0.out; omega)))
      clear c9
      replace H := Option.bind_eq_some_iff.mp H
      obtain ⟨t239, A100, H⟩ := H
      replace H : ((spec_l5Line.f l0 x11_1 t239 a3).bind fun t240 => (if t240 > 0 then (spec_l5Spans.j1 k1 l0 a2 a3 x9_1 x10_1 x11_1 t239 t240 (decide (x10_1 ≥ 0))) else (spec_l5Spans.j1 k1 l0 a2 a3 x9_1 x10_1 x11_1 t239 t240 false))) = some r := H
      have A10 := aM A100
      clear A100
      replace H := Option.bind_eq_some_iff.mp H
      obtain ⟨t240, A110, H⟩ := H
      replace H : (if t240 > 0 then (spec_l5Spans.j1 k1 l0 a2 a3 x9_1 x10_1 x11_1 t239 t240 (decide (x10_1 ≥ 0))) else (spec_l5Spans.j1 k1 l0 a2 a3 x9_1 x10_1 x11_1 t239 t240 false)) = some r := H
      have A11 := aM A110
      clear A110
      have HC12 := aM H
      clear H
      obtain ⟨i013, hi013, _, hsz13, _⟩ := info_parts info5
      obtain ⟨hcut13, hA13, hC13⟩ := print_take_of (P := Tryd.prog) (Value.int .u8) 0 27 5 .i64 Tryd.underlying27 hi013 hsz13 A0 c0 l0 a2 (pI) (pI) HC0.out
      have HR238 := aM (Kd.C_of_reads (h1 := fun _ => rfl) (hA13 _ (Kd.reads_of_C HR0.out)))
      have HC238 := aM hC13
      clear hA13 hC13 hi013 hsz13
      go_upto_region 7 with (first | ((with_reducible refine gate_callee (f := 128) rfl ?_); refine goesL_ (some 23) rfl rfl Tryd.func128 (by kernel_rfl) rfl #[.slice A0 (l0.take (a2 : Int).toNat).length c0, .int .i64 x11_1] rfl (by (try simp only [List.map_toArray, List.map_cons, List.map_nil]); first | done | (rw [show (l0.take (a2 : Int).toNat).length = a2.toNat from (by rw [List.length_take]; have h_ : (a2 : Int) ≤ (l0.length : Int) := pI; omega)] <;> rfl) | rfl | (simp only [List.length_drop, List.length_take]; rfl)) ?_; (with_reducible refine (spec_l4End.calls k1 _ _ (l0.take (a2 : Int).toNat) x11_1 t239 _ ?side1 ?side2 A10.out).mono ?_); (case side1 => exact zz6 HR238.out); (case side2 => exact HC238.out); rintro e w' ⟨rfl, ⟨nd, rfl⟩⟩; refine ⟨_, rfl, ?_⟩) | ((with_reducible refine gate_callee (f := 129) rfl ?_); refine gL_ (some 28) Tryd.func129 #[.slice A0 l0.length c0, .int .i64 x11_1, .int .i64 t239, .string a3] ?_; (with_reducible refine (spec_l5Line.calls _ _ l0 x11_1 t239 a3 t240 _ ?side1 ?side2 A11.out).mono ?_); (case side1 => repeat (first | exact (Kd.C_below HR0.out bB) | (with_reducible refine Kd.C_alloc ?_ _) | (with_reducible refine Kd.C_drewN ?_ _) | (with_reducible refine Kd.C_drew ?_))); (case side2 => exact HC0.out); rintro e w' ⟨rfl, ⟨nd, rfl⟩⟩; refine ⟨_, rfl, ?_⟩))
      (try simp only [Act.put, List.setIfInBounds_toArray, List.set_cons_zero, List.set_cons_succ])
      go_cut [34] (fun v34 wc => ∃ (kq : Nat) (x34_11 : Bool), v34 = .bool x34_11 ∧ Aside0 (spec_l5Spans.j1 kq l0 a2 a3 x9_1 x10_1 x11_1 t239 t240 x34_11 = some r) ∧ Aside0 (kq ≤ k1) ∧ Aside0 (Kd.R k127 127 wc w.heap.size (fun _ => True) u9 x9_1) ∧ Aside0 (Below w.heap.size w wc))
      case first =>
       have H := HC12.out
       clear HC12
       by_cases c14 : t240 > 0
       ·rw [if_pos c14] at H
        have c14b0 : decide (0 < t240) = true := decide_eq_true c14
        clear c14
        (first | rw [c14b0] | (simp only [i64_w, i32_w]; rw [c14b0]) | skip)
        have H' := aM H
        clear H
        go_wp2
        go_meet
        case rel => exact ⟨_, (decide (x10_1 ≥ 0)), bS, H', ⟨zz44 HK1.out⟩, ⟨bR HO_9⟩, ⟨bB⟩⟩
       rw [if_neg c14] at H
       have c14b0 : decide (0 < t240) = false := decide_eq_false c14
       clear c14
       (first | rw [c14b0] | (simp only [i64_w, i32_w]; rw [c14b0]) | skip)
       have H' := aM H
       clear H
       go_wp2
       go_meet
       case rel => exact ⟨_, (false), bS, H', ⟨zz44 HK1.out⟩, ⟨bR HO_9⟩, ⟨bB⟩⟩
      case rest =>
       clear HC12
       try clear c1
       try clear p2
       try clear c7
       try clear c7b0
       try clear c8
       try clear c8b0
       try clear c8b1
       try clear c9
       try clear c9b0
       try clear c9b1
       try clear c10
       try clear c12
       try clear c14
       try clear c14b0
       try clear p2
       obtain ⟨kq, x34_11, rfl, HA, HJ11, HO_9, HB⟩ := hcut
       cases kq with
       | zero => exact absurd HA.out (by simp [spec_l5Spans.j1])
       | succ kj11 =>
        have H := HA.out
        clear HA
        simp only [spec_l5Spans.j1] at H
        have HC15 := aM H
        clear H
        go_upto_if 34 with (fail)
        go_cut [9] (fun v9 wc => ∃ (kq : Nat) (x9_14 : List (S127)), Aside0 (spec_l5Spans.j2 kq l0 a2 a3 x9_14 x10_1 t239 t240 = some r) ∧ Aside0 (kq ≤ kj11) ∧ Aside0 (Kd.R k127 127 wc w.heap.size (fun _ => True) v9 x9_14) ∧ Aside0 (Below w.heap.size w wc))
        case first =>
         have H := HC15.out
         clear HC15
         by_cases c16 : x34_11 = true
         ·subst c16
          have H1 : ((spec_l1Max.f x10_1 (wrap64 (x11_1 - 1))).bind fun t241 => (if x9_1.length < 8796093022208 then (spec_l5Spans.j2 kj11 l0 a2 a3 (x9_1 ++ [(⟨x10_1, t241⟩ : S127)]) x10_1 t239 t240) else (none))) = some r := zz27
          clear H
          have H := H1
          clear H1
          replace H := Option.bind_eq_some_iff.mp H
          obtain ⟨t241, A170, H⟩ := H
          replace H : (if x9_1.length < 8796093022208 then (spec_l5Spans.j2 kj11 l0 a2 a3 (x9_1 ++ [(⟨x10_1, t241⟩ : S127)]) x10_1 t239 t240) else (none)) = some r := H
          have A17 := aM A170
          clear A170
          by_cases c18 : x9_1.length < 8796093022208
          ·rw [if_pos c18] at H
           have LMc18 := aM c18
           clear c18
           obtain ⟨y242, hy242⟩ : ∃ y_ : List (S127), y_ = (x9_1 ++ [(⟨x10_1, t241⟩ : S127)]) := ⟨_, rfl⟩
           replace H : (spec_l5Spans.j2 kj11 l0 a2 a3 y242 x10_1 t239 t240) = some r := zz3 hy242
           have Ny242 := aM hy242
           clear hy242
           have H' := aM H
           clear H
           go_wp2_with (first | ((with_reducible refine gate_callee (f := 130) rfl ?_); refine gL_ (some 40) Tryd.func130 #[.int .i64 x10_1, .int .i64 (wrap64 (x11_1 - 1))] ?_; (with_reducible refine (spec_l1Max.calls x10_1 (wrap64 (x11_1 - 1)) t241 _ A17.out).mono ?_); rintro e w' ⟨rfl, ⟨nd, rfl⟩⟩; refine ⟨_, rfl, ?_⟩) | ((with_reducible refine gate_builtin (b := .append) (xs := #[.tmp 35, .tmp 42]) rfl ?_); at_builtin; refine Kd.R_append k127 (w0 := w) w.heap.size rfl (.tmp 35) (.tmp 42) 124 127 (.agg #[(.int .i64 0), (.int .i64 0)]) 16 rfl Tryd.underlying124 info127 rfl (by decide) (by omega) u9 x9_1 (⟨x10_1, t241⟩ : S127) [.int .i64 x10_1, .int .i64 t241] (fun _ => True) (fun _ => False) rfl rfl ?aP (fun _ hk => hk.elim) ?aF ?aO ?aB ?aS ?aL ?_; (case aP => exact k127_mkM _ _ _ (⟨x10_1, t241⟩ : S127)); (case aB => exact bB); (case aF => exact (fun _ _ => trivial)); (case aO => exact (bR HO_9)); (case aS => exact (below_size bB)); (case aL => have := LMc18.out; omega); intro v243 w19 ho hb hg hat; rw [← Ny242.out] at ho; have n0_ := aM (hb); have n1_ := aM (ho); clear HB; clear HO_9; have HB := n0_; have HO244 := n1_; clear n0_ n1_; clear ho hb hg hat))
           go_meet
           case rel => exact ⟨_, (y242), H', ⟨zz53 HK1.out HJ11.out⟩, ⟨bR HO244⟩, ⟨bB⟩⟩
          rw [if_neg c18] at H
          exact absurd H (by simp)
         replace c16 := Bool.eq_false_iff.mpr c16
         subst c16
         have H1 : (spec_l5Spans.j2 kj11 l0 a2 a3 x9_1 x10_1 t239 t240) = some r := zz15
         clear H
         have H := H1
         clear H1
         have H' := aM H
         clear H
         go_wp2
         go_meet
         case rel => exact ⟨_, (x9_1), H', ⟨zz53 HK1.out HJ11.out⟩, ⟨bR HO_9⟩, ⟨bB⟩⟩
        case rest =>
         clear HC15
         try clear c1
         try clear p2
         try clear p6
         try clear c7
         try clear c7b0
         try clear c8
         try clear c8b0
         try clear c8b1
         try clear c9
         try clear c9b0
         try clear c9b1
         try clear c10
         try clear c12
         try clear c13
         try clear c14
         try clear c14b0
         try clear c16
         try clear c18
         try clear p2
         obtain ⟨kq, x9_14, HA, HJ14, HO_9, HB⟩ := hcut
         cases kq with
         | zero => exact absurd HA.out (by simp [spec_l5Spans.j2])
         | succ kj14 =>
          have H := HA.out
          clear HA
          simp only [spec_l5Spans.j2] at H
          by_cases c20 : t240 = 2
          ·rw [if_pos c20] at H
           have c20b0 : (t240 == 2) = true := beq_iff_eq.mpr c20
           have c20b1 : (t240 != 2) = false := bne_eq_false_iff_eq.mpr c20
           clear c20
           obtain rfl := Option.some.inj H
           go_wp2
           go_ret
           exact ⟨_, bE, bR HO_9, bB⟩
          rw [if_neg c20] at H
          have c20b0 : (t240 == 2) = false := beq_eq_false_iff_ne.mpr c20
          have c20b1 : (t240 != 2) = true := bne_iff_ne.mpr c20
          by_cases c21 : t240 = 1
          ·rw [if_pos c21] at H
           have c21b0 : (t240 == 1) = true := beq_iff_eq.mpr c21
           have c21b1 : (t240 != 1) = false := bne_eq_false_iff_eq.mpr c21
           clear c21
           replace H := Option.bind_eq_some_iff.mp H
           obtain ⟨t245, A220, H⟩ := H
           replace H : (spec_l5Spans.l0 kj14 l0 a2 a3 x9_14 t245 (wrap64 (t239 + 1))) = some r := H
           have A22 := aM A220
           clear A220
           have H' := aM H
           clear H
           go_wp2_with (first | ((with_reducible refine gate_callee (f := 131) rfl ?_); refine gL_ (some 52) Tryd.func131 #[.int .i64 (wrap64 (t239 + 1)), .int .i64 a2] ?_; (with_reducible refine (spec_l1Min.calls (wrap64 (t239 + 1)) a2 t245 _ A22.out).mono ?_); rintro e w' ⟨rfl, ⟨nd, rfl⟩⟩; refine ⟨_, rfl, ?_⟩))
           go_roundg kj14
           case measure => have := HK1.out; have := HJ11.out; have := HJ14.out; omega
           case rel => exact ⟨(x9_14), (t245), (wrap64 (t239 + 1)), bS, bS, H', ⟨by have := HK1.out; have := HJ11.out; have := HJ14.out; omega⟩, ⟨bR HO_9⟩, ⟨bB⟩⟩
          rw [if_neg c21] at H
          have c21b0 : (t240 == 1) = false := beq_eq_false_iff_ne.mpr c21
          have c21b1 : (t240 != 1) = true := bne_iff_ne.mpr c21
          have H' := aM H
          clear H
          go_wp2
          go_roundg kj14
          case measure => have := HK1.out; have := HJ11.out; have := HJ14.out; omega
          case rel => exact ⟨(x9_14), (x10_1), (wrap64 (t239 + 1)), bS, bS, H', ⟨by have := HK1.out; have := HJ11.out; have := HJ14.out; omega⟩, ⟨bR HO_9⟩, ⟨bB⟩⟩
     rw [if_neg c9] at H
     exact absurd H (by simp)
    rw [if_neg c8] at H
    exact absurd H (by simp)
   rw [if_neg c7] at H
   have c7b0 : decide (x11_1 < a2) = false := decide_eq_false c7
   clear c7
   by_cases c23 : x10_1 ≥ 0
   ·rw [if_pos c23] at H
    have c23b0 : decide (0 ≤ x10_1) = true := decide_eq_true c23
    clear c23
    by_cases c24 : x9_1.length < 8796093022208
    ·rw [if_pos c24] at H
     have LMc24 := aM c24
     clear c24
     obtain ⟨y235, hy235⟩ : ∃ y_ : List (S127), y_ = (x9_1 ++ [(⟨x10_1, a2⟩ : S127)]) := ⟨_, rfl⟩
     replace H : (some y235) = some r := zz3 hy235
     have Ny235 := aM hy235
     clear hy235
     obtain rfl := Option.some.inj H
     go_wp2_with (first | ((with_reducible refine gate_builtin (b := .append) (xs := #[.tmp 57, .tmp 61]) rfl ?_); at_builtin; refine Kd.R_append k127 (w0 := w) w.heap.size rfl (.tmp 57) (.tmp 61) 124 127 (.agg #[(.int .i64 0), (.int .i64 0)]) 16 rfl Tryd.underlying124 info127 rfl (by decide) (by omega) u9 x9_1 (⟨x10_1, a2⟩ : S127) [.int .i64 x10_1, .int .i64 a2] (fun _ => True) (fun _ => False) rfl rfl ?aP (fun _ hk => hk.elim) ?aF ?aO ?aB ?aS ?aL ?_; (case aP => exact k127_mkM _ _ _ (⟨x10_1, a2⟩ : S127)); (case aB => exact bB); (case aF => exact (fun _ _ => trivial)); (case aO => exact (bR HO_9)); (case aS => exact (below_size bB)); (case aL => have := LMc24.out; omega); intro v236 w25 ho hb hg hat; rw [← Ny235.out] at ho; have n0_ := aM (hb); have n1_ := aM (ho); clear HB; clear HO_9; have HB := n0_; have HO237 := n1_; clear n0_ n1_; clear ho hb hg hat))
     go_ret
     exact ⟨_, bE, bR HO237, bB⟩
    rw [if_neg c24] at H
    exact absurd H (by simp)
   rw [if_neg c23] at H
   have c23b0 : decide (0 ≤ x10_1) = false := decide_eq_false c23
   clear c23
   obtain rfl := Option.some.inj H
   go_wp2
   go_ret
   exact ⟨_, bE, bR HO_9, bB⟩
mutual
def spec_l5Add.j0 : Nat → List (S23) → List Int → Int → ByteArray → Int → Bool → Int → Int → Int → Int → Int → Int → Int → Option ((List (S23)))
 | 0, _, _, _, _, _, _, _, _, _, _, _, _, _ => none
 | k + 1, x0, x1, x6, x16, x17, x49, x255000, x255001, x255002, x255003, x255004, x255005, x255006 => if x49 = true then (some x0) else ((spec_l5Spans.f k x1 x255003 x255004 x16).bind fun t259 => (spec_l5Add.l0 k x0 x1 x6 x17 t259 0))
def spec_l5Add.l0 : Nat → List (S23) → List Int → Int → Int → List (S127) → Int → Option ((List (S23)))
 | 0, _, _, _, _, _, _ => none
 | k + 1, x0, x1, x6, x17, x18, x19 => if x19 < (x18.length : Int) then (if (x0.length : Int) < 8 then (if 0 ≤ x19 then ((spec_l5Add.f k x0 x1 ((rd_T127 x18 x19).f0) ((rd_T127 x18 x19).f1) x17 (wrap64 (x19 + 1)) (wrap64 (x6 + 1))).bind fun t264 => (spec_l5Add.l0 k t264 x1 x6 x17 x18 (wrap64 (x19 + 1)))) else (none)) else (some x0)) else (some x0)
def spec_l5Add.f : Nat → List (S23) → List Int → Int → Int → Int → Int → Int → Option ((List (S23)))
 | 0, _, _, _, _, _, _, _ => none
 | k + 1, l0, l1, a2, a3, a4, a5, a6 => (spec_l5One.f k l1 a2 a3).bind fun bt246 => (if l0.length < 2513169434916 then ((some (l0 ++ [(⟨bt246.1, bt246.2.1, bt246.2.2.1, bt246.2.2.2.1, bt246.2.2.2.2.1, a4, a5⟩ : S23)] : List (S23))).bind fun y255 => (if bt246.1 = 2 then (if a6 ≥ 3 then (spec_l5Add.j0 k y255 l1 a6 bt246.2.2.2.2.2.2.2 (l0.length : Int) true bt246.1 bt246.2.1 bt246.2.2.1 bt246.2.2.2.1 bt246.2.2.2.2.1 a4 a5) else ((spec_l1In.f (bt246.2.2.2.2.2.2.2.size : Int) 1 20).bind fun t258 => (spec_l5Add.j0 k y255 l1 a6 bt246.2.2.2.2.2.2.2 (l0.length : Int) (!t258) bt246.1 bt246.2.1 bt246.2.2.1 bt246.2.2.2.1 bt246.2.2.2.2.1 a4 a5))) else (spec_l5Add.j0 k y255 l1 a6 bt246.2.2.2.2.2.2.2 (l0.length : Int) true bt246.1 bt246.2.1 bt246.2.2.1 bt246.2.2.2.1 bt246.2.2.2.2.1 a4 a5))) else (none))
end
def spec_l5Add.T12 : Bool × List (List Nat × List Nat) := (true, [([], []), ([], []), ([], []), ([], []), ([2, 3], [2, 3]), ([4], [4]), ([5], [5]), ([], []), ([], []), ([7, 8], [7, 8]), ([9], [9]), ([10], [10]), ([], []), ([], []), ([13], [13]), ([], []), ([15], [15]), ([0, 1, 6, 11, 12, 14, 16], [0, 1, 6, 11, 12, 14, 16]), ([17, 17, 0, 1, 2, 3, 4, 5, 6, 7, 8, 9, 10, 11, 12, 13, 14, 15, 16, 17], [0, 17])])
def spec_l5Add.B12 : List Nat := [0, 0, 0, 0, 12, 28, 60, 0, 0, 384, 896, 1920, 0, 0, 8192, 0, 32768, 131071, 262143]
theorem spec_l5Add.tab12 : rtab .any (opsOf Tryd.f83 12) = spec_l5Add.T12 := by kernel_rfl
theorem spec_l5Add.bits12 : waitsOk spec_l5Add.T12.2 spec_l5Add.B12 = true := by kernel_rfl
set_option maxHeartbeats 8000000 in
set_option maxRecDepth 100000 in
theorem spec_l5Add.calls (k : Nat) : ∀ (P0_ : Nat → Prop) (u9000_ : Value) (l0 : List (S23)) (A1 : Option Addr) (c1 : Nat) (l1 : List Int) (a2 : Int) (a3 : Int) (a4 : Int) (a5 : Int) (a6 : Int) (r : List (S23)) (w0 w : World) (hB : Below w0.heap.size w0 w) (ho0 : Kd.R k23 23 w w0.heap.size P0_ u9000_ l0) (hr1 : ∀ W_, Kept w W_ (fun k_ => P0_ k_) → Kd.C (Kd.int .u8) W_ A1 l1.length l1) (hc1 : l1.length ≤ c1) (h : spec_l5Add.f k l0 l1 a2 a3 a4 a5 a6 = some r),
  Calls Tryd.prog 83 #[u9000_, .slice A1 l1.length c1, .int .i64 a2, .int .i64 a3, .int .i64 a4, .int .i64 a5, .int .i64 a6] w fun e w' => ∃ v0_ : Value, e = .returned (v0_) ∧ Kd.R k23 23 w' w0.heap.size (fun k_ => (P0_ k_ ∨ w.heap.size ≤ k_)) v0_ r ∧ Below w0.heap.size w0 w' ∧ Kept w w' (fun k_ => P0_ k_) := by
 induction k using Nat.strongRecOn with
 | _ k ih =>
 intro P0_ u9000_ l0 A1 c1 l1 a2 a3 a4 a5 a6 r w0 w hB ho0 hr1 hc1 h
 cases k with
 | zero => exact absurd h (by simp [spec_l5Add.f])
 | succ k =>
 simp only [spec_l5Add.f] at h
 have hu23 := Tryd.underlying23
 have HO0 := aM (show Kd.R k23 23 w w0.heap.size (fun k_ => (P0_ k_ ∨ w.heap.size ≤ k_)) u9000_ l0 from Kd.R_mono ho0 (fun k_ hk => (.inl hk)))
 have HR1 := aM hr1
 have HC1 := aM hc1
 clear hr1 hc1
 have HK := aM (Kept.refl w (fun k_ => P0_ k_))
 have HW0 := aM hB.size
 have HB := aM hB
 clear hB
 have H : ((spec_l5One.f k l1 a2 a3).bind fun bt246 => (if l0.length < 2513169434916 then ((some (l0 ++ [(⟨bt246.1, bt246.2.1, bt246.2.2.1, bt246.2.2.2.1, bt246.2.2.2.2.1, a4, a5⟩ : S23)] : List (S23))).bind fun y255 => (if bt246.1 = 2 then (if a6 ≥ 3 then (spec_l5Add.j0 k y255 l1 a6 bt246.2.2.2.2.2.2.2 (l0.length : Int) true bt246.1 bt246.2.1 bt246.2.2.1 bt246.2.2.2.1 bt246.2.2.2.2.1 a4 a5) else ((spec_l1In.f (bt246.2.2.2.2.2.2.2.size : Int) 1 20).bind fun t258 => (spec_l5Add.j0 k y255 l1 a6 bt246.2.2.2.2.2.2.2 (l0.length : Int) (!t258) bt246.1 bt246.2.1 bt246.2.2.1 bt246.2.2.2.1 bt246.2.2.2.2.1 a4 a5))) else (spec_l5Add.j0 k y255 l1 a6 bt246.2.2.2.2.2.2.2 (l0.length : Int) true bt246.1 bt246.2.1 bt246.2.2.1 bt246.2.2.2.1 bt246.2.2.2.2.1 a4 a5))) else (none))) = some r := h
 clear h
 replace H := Option.bind_eq_some_iff.mp H
 obtain ⟨⟨t246, t247, t248, t249, t250, t251, t252, t253⟩, A80, H⟩ := H
 replace H : (if l0.length < 2513169434916 then ((some (l0 ++ [(⟨t246, t247, t248, t249, t250, a4, a5⟩ : S23)] : List (S23))).bind fun y255 => (if t246 = 2 then (if a6 ≥ 3 then (spec_l5Add.j0 k y255 l1 a6 t253 (l0.length : Int) true t246 t247 t248 t249 t250 a4 a5) else ((spec_l1In.f (t253.size : Int) 1 20).bind fun t258 => (spec_l5Add.j0 k y255 l1 a6 t253 (l0.length : Int) (!t258) t246 t247 t248 t249 t250 a4 a5))) else (spec_l5Add.j0 k y255 l1 a6 t253 (l0.length : Int) true t246 t247 t248 t249 t250 a4 a5))) else (none)) = some r := H
 have A8 := aM A80
 clear A80
 by_cases c9 : l0.length < 2513169434916
 ·rw [if_pos c9] at H
  have LMc9 := aM c9
  clear c9
  obtain ⟨y255, hy255⟩ : ∃ y_ : List (S23), y_ = (l0 ++ [(⟨t246, t247, t248, t249, t250, a4, a5⟩ : S23)]) := ⟨_, rfl⟩
  replace H : (if t246 = 2 then (if a6 ≥ 3 then (spec_l5Add.j0 k y255 l1 a6 t253 (l0.length : Int) true t246 t247 t248 t249 t250 a4 a5) else ((spec_l1In.f (t253.size : Int) 1 20).bind fun t258 => (spec_l5Add.j0 k y255 l1 a6 t253 (l0.length : Int) (!t258) t246 t247 t248 t249 t250 a4 a5))) else (spec_l5Add.j0 k y255 l1 a6 t253 (l0.length : Int) true t246 t247 t248 t249 t250 a4 a5)) = some r := zz3 hy255
  have Ny255 := aM hy255
  clear hy255
  have HC10 := aM H
  clear H
  go_enter Tryd.func83, Tryd.ntmps83
  go_upto_region 6 with (first | ((with_reducible refine gate_callee (f := 106) rfl ?_); refine gL_ (some 24) Tryd.func106 #[.slice A1 l1.length c1, .int .i64 a2, .int .i64 a3] ?_; (with_reducible refine (spec_l5One.calls k _ _ l1 a2 a3 t246 t247 t248 t249 t250 t251 t252 t253 _ ?side1 ?side2 A8.out).mono ?_); (case side1 => exact Kd.C_kept_now HR1.out bK); (case side2 => exact HC1.out); rintro e w11 ⟨rfl, hb⟩; refine ⟨_, rfl, ?_⟩; replace HO0 := aM (Kd.R_below (bR HO0) hb); replace HK := aM (Kept.below (S := (fun k_ => P0_ k_)) bK hb); replace HB := aM (below_step bB hb); (try clear hi)) | ((with_reducible refine gate_dst (N := 15) rfl ?_); (try (refine gate_guard (by rfl) ?_; dsimp only)); refine box_event ?hg (N := 15) ?hd (cs := #[.int .i64 0, .int .i64 0, .int .i64 0, .int .i64 0, .int .i64 0, .int .i64 0, .int .i64 0]) (t := 23) ?hr ?_; (case hd => rfl); (case hg => rfl); (case hr => exact zz13); intro gb254 hg w12 hbox hb; replace HO0 := aM (Kd.R_below (Kd.R_elderB (bR HO0) gb254 (Nat.le_of_eq hg.symm)) hb); have BK254 := aM (hbox); have GW254 := aM ((by rw [hg]; exact (by first | exact HK.out.1 | exact (show Kept w _ (fun k_ => P0_ k_) from bK).1) : w.heap.size ≤ gb254)); replace HK := aM (Kept.below (S := (fun k_ => P0_ k_)) bK hb); have GE254 := aM ((zz21 : w0.heap.size ≤ gb254)); replace HB := aM (below_step bB hb); clear hb hbox hg; have hcz13_0 : w12.cell? ⟨gb254, 0, none⟩ = some (.int .i64 0) := (blk_cell BK254.out 0).trans rfl; have hcz13_1 : w12.cell? ⟨gb254, 1, none⟩ = some (.int .i64 0) := (blk_cell BK254.out 1).trans rfl; have hcz13_2 : w12.cell? ⟨gb254, 2, none⟩ = some (.int .i64 0) := (blk_cell BK254.out 2).trans rfl; have hcz13_3 : w12.cell? ⟨gb254, 3, none⟩ = some (.int .i64 0) := (blk_cell BK254.out 3).trans rfl; have hcz13_4 : w12.cell? ⟨gb254, 4, none⟩ = some (.int .i64 0) := (blk_cell BK254.out 4).trans rfl; have hcz13_5 : w12.cell? ⟨gb254, 5, none⟩ = some (.int .i64 0) := (blk_cell BK254.out 5).trans rfl; have hcz13_6 : w12.cell? ⟨gb254, 6, none⟩ = some (.int .i64 0) := (blk_cell BK254.out 6).trans rfl; have hfz13_0 := blk_frozen BK254.out 0; have hfz13_1 := blk_frozen BK254.out 1; have hfz13_2 := blk_frozen BK254.out 2; have hfz13_3 := blk_frozen BK254.out 3; have hfz13_4 := blk_frozen BK254.out 4; have hfz13_5 := blk_frozen BK254.out 5; have hfz13_6 := blk_frozen BK254.out 6) | ((with_reducible refine gate_store (t := 23) (p := 15) rfl ?_); refine store_event (t := 23) (p := 15) (v := ?vo_w14) (w1 := (((((((w12.setCell ⟨gb254, 0, none⟩ (.int .i64 t246)).setCell ⟨gb254, 1, none⟩ (.int .i64 t247)).setCell ⟨gb254, 2, none⟩ (.int .i64 t248)).setCell ⟨gb254, 3, none⟩ (.int .i64 t249)).setCell ⟨gb254, 4, none⟩ (.int .i64 t250)).setCell ⟨gb254, 5, none⟩ (.int .i64 t251)).setCell ⟨gb254, 6, none⟩ (.int .i64 t252))) ?hg ?ho ?hn ?hr ?_; (case ho => rfl); (case hg => rfl); (case hn => rfl); (case hr => exact zz13); intro w14 hw; have n0_ : Aside0 (Kd.R k23 23 w14 w0.heap.size (fun k_ => (P0_ k_ ∨ w.heap.size ≤ k_) ∧ k_ ≠ gb254) u9000_ l0) := ⟨(by rw [hw]; exact (by (with_reducible repeat (first | apply Kd.R_alloc | apply Kd.R_drewN | apply Kd.R_drew)); exact Kd.R_mono (Kd.R_far (p := ⟨gb254, 6, none⟩) (Kd.R_far (p := ⟨gb254, 5, none⟩) (Kd.R_far (p := ⟨gb254, 4, none⟩) (Kd.R_far (p := ⟨gb254, 3, none⟩) (Kd.R_far (p := ⟨gb254, 2, none⟩) (Kd.R_far (p := ⟨gb254, 1, none⟩) (Kd.R_far (p := ⟨gb254, 0, none⟩) (Kd.R_mono HO0.out (fun k_ hk => (⟨hk, hk.2⟩ : _ ∧ k_ ≠ gb254))) (fun _ hk => hk.2) (.int .i64 t246)) (fun _ hk => hk.2) (.int .i64 t247)) (fun _ hk => hk.2) (.int .i64 t248)) (fun _ hk => hk.2) (.int .i64 t249)) (fun _ hk => hk.2) (.int .i64 t250)) (fun _ hk => hk.2) (.int .i64 t251)) (fun _ hk => hk.2) (.int .i64 t252)) (fun _ hk => ⟨hk.1.1, hk.1.2⟩)))⟩; have n1_ : Aside0 (w14.heap[gb254]? = some (.cells #[.int .i64 t246, .int .i64 t247, .int .i64 t248, .int .i64 t249, .int .i64 t250, .int .i64 t251, .int .i64 t252] 23 (0, 0))) := ⟨(by rw [hw]; exact (by (with_reducible repeat (first | refine blk_drewN ?_ _ | refine blk_drew ?_ | refine blk_alloc ?_ _)); refine blk_put (cs := #[.int .i64 t246, .int .i64 t247, .int .i64 t248, .int .i64 t249, .int .i64 t250, .int .i64 t251, .int .i64 0]) ?_ 6 _ rfl; (with_reducible repeat (first | refine blk_drewN ?_ _ | refine blk_drew ?_ | refine blk_alloc ?_ _)); refine blk_put (cs := #[.int .i64 t246, .int .i64 t247, .int .i64 t248, .int .i64 t249, .int .i64 t250, .int .i64 0, .int .i64 0]) ?_ 5 _ rfl; (with_reducible repeat (first | refine blk_drewN ?_ _ | refine blk_drew ?_ | refine blk_alloc ?_ _)); refine blk_put (cs := #[.int .i64 t246, .int .i64 t247, .int .i64 t248, .int .i64 t249, .int .i64 0, .int .i64 0, .int .i64 0]) ?_ 4 _ rfl; (with_reducible repeat (first | refine blk_drewN ?_ _ | refine blk_drew ?_ | refine blk_alloc ?_ _)); refine blk_put (cs := #[.int .i64 t246, .int .i64 t247, .int .i64 t248, .int .i64 0, .int .i64 0, .int .i64 0, .int .i64 0]) ?_ 3 _ rfl; (with_reducible repeat (first | refine blk_drewN ?_ _ | refine blk_drew ?_ | refine blk_alloc ?_ _)); refine blk_put (cs := #[.int .i64 t246, .int .i64 t247, .int .i64 0, .int .i64 0, .int .i64 0, .int .i64 0, .int .i64 0]) ?_ 2 _ rfl; (with_reducible repeat (first | refine blk_drewN ?_ _ | refine blk_drew ?_ | refine blk_alloc ?_ _)); refine blk_put (cs := #[.int .i64 t246, .int .i64 0, .int .i64 0, .int .i64 0, .int .i64 0, .int .i64 0, .int .i64 0]) ?_ 1 _ rfl; (with_reducible repeat (first | refine blk_drewN ?_ _ | refine blk_drew ?_ | refine blk_alloc ?_ _)); refine blk_put (cs := #[.int .i64 0, .int .i64 0, .int .i64 0, .int .i64 0, .int .i64 0, .int .i64 0, .int .i64 0]) ?_ 0 _ rfl; (with_reducible repeat (first | refine blk_drewN ?_ _ | refine blk_drew ?_ | refine blk_alloc ?_ _)); exact BK254.out))⟩; have n2_ : Aside0 (Kept w w14 (fun k_ => P0_ k_)) := ⟨(by rw [hw]; exact (zz11 GW254.out))⟩; have n3_ : Aside0 (Below w0.heap.size w0 w14) := ⟨(by rw [hw]; exact (bG GE254))⟩; clear hw; clear HO0; clear BK254; clear HK; clear HB; have HO0 := n0_; have BK254 := n1_; have HK := n2_; have HB := n3_; clear n0_ n1_ n2_ n3_; have hcz15_0 : w14.cell? ⟨gb254, 0, none⟩ = some (.int .i64 t246) := (blk_cell BK254.out 0).trans rfl; have hcz15_1 : w14.cell? ⟨gb254, 1, none⟩ = some (.int .i64 t247) := (blk_cell BK254.out 1).trans rfl; have hcz15_2 : w14.cell? ⟨gb254, 2, none⟩ = some (.int .i64 t248) := (blk_cell BK254.out 2).trans rfl; have hcz15_3 : w14.cell? ⟨gb254, 3, none⟩ = some (.int .i64 t249) := (blk_cell BK254.out 3).trans rfl; have hcz15_4 : w14.cell? ⟨gb254, 4, none⟩ = some (.int .i64 t250) := (blk_cell BK254.out 4).trans rfl; have hcz15_5 : w14.cell? ⟨gb254, 5, none⟩ = some (.int .i64 t251) := (blk_cell BK254.out 5).trans rfl; have hcz15_6 : w14.cell? ⟨gb254, 6, none⟩ = some (.int .i64 t252) := (blk_cell BK254.out 6).trans rfl; have hfz15_0 := blk_frozen BK254.out 0; have hfz15_1 := blk_frozen BK254.out 1; have hfz15_2 := blk_frozen BK254.out 2; have hfz15_3 := blk_frozen BK254.out 3; have hfz15_4 := blk_frozen BK254.out 4; have hfz15_5 := blk_frozen BK254.out 5; have hfz15_6 := blk_frozen BK254.out 6; obtain ⟨Ao16, co16, eo16⟩ := Kd.R_slice HO0.out; subst eo16) | ((with_reducible refine gate_builtin (b := .append) (xs := #[.tmp 33, .tmp 35]) rfl ?_); (try (refine gate_guard (by rfl) ?_; dsimp only)); at_builtin; refine Kd.R_append k23 (w0 := w0) w0.heap.size rfl (.tmp 33) (.tmp 35) 50 23 (.agg #[(.int .i64 0), (.int .i64 0), (.int .i64 0), (.int .i64 0), (.int .i64 0), (.int .i64 0), (.int .i64 0)]) 56 rfl Tryd.underlying50 info23 rfl (by decide) (by omega) (.slice Ao16 l0.length co16) l0 (⟨t246, t247, t248, t249, t250, a4, a5⟩ : S23) [.int .i64 t246, .int .i64 t247, .int .i64 t248, .int .i64 t249, .int .i64 t250, .int .i64 a4, .int .i64 a5] (fun k_ => (P0_ k_ ∨ w.heap.size ≤ k_) ∧ k_ ≠ gb254) (fun _ => False) rfl zz13 ?aP (fun _ hk => hk.elim) ?aF ?aO ?aB ?aS ?aL ?_; (case aP => exact k23_mkM _ _ _ (⟨t246, t247, t248, t249, t250, a4, a5⟩ : S23)); (case aB => exact (bG GE254)); (case aF => exact (fun k_ hk => ⟨(.inr (Nat.le_trans (show Kept w _ (fun k_ => P0_ k_) from zz11 GW254.out).1 hk)), Kd.freshB (g := gb254) (o := .cells #[.int .i64 t246, .int .i64 t247, .int .i64 t248, .int .i64 t249, .int .i64 t250, .int .i64 a4, .int .i64 a5] 23 (0, 0)) (by (with_reducible repeat (first | refine blk_drewN ?_ _ | refine blk_drew ?_ | refine blk_alloc ?_ _)); refine blk_put (cs := #[.int .i64 t246, .int .i64 t247, .int .i64 t248, .int .i64 t249, .int .i64 t250, .int .i64 a4, .int .i64 t252]) ?_ 6 _ rfl; (with_reducible repeat (first | refine blk_drewN ?_ _ | refine blk_drew ?_ | refine blk_alloc ?_ _)); refine blk_put (cs := #[.int .i64 t246, .int .i64 t247, .int .i64 t248, .int .i64 t249, .int .i64 t250, .int .i64 t251, .int .i64 t252]) ?_ 5 _ rfl; (with_reducible repeat (first | refine blk_drewN ?_ _ | refine blk_drew ?_ | refine blk_alloc ?_ _)); exact BK254.out) k_ hk⟩)); (case aO => exact (by (with_reducible repeat (first | apply Kd.R_alloc | apply Kd.R_drewN | apply Kd.R_drew)); exact Kd.R_mono (Kd.R_far (p := ⟨gb254, 6, none⟩) (Kd.R_far (p := ⟨gb254, 5, none⟩) (Kd.R_mono HO0.out (fun k_ hk => (⟨hk, hk.2⟩ : _ ∧ k_ ≠ gb254))) (fun _ hk => hk.2) (.int .i64 a4)) (fun _ hk => hk.2) (.int .i64 a5)) (fun _ hk => ⟨hk.1.1, hk.1.2⟩))); (case aS => exact (below_size (bG GE254))); (case aL => have := LMc9.out; omega); intro v256 w17 ho hb hg hat; rw [← Ny255.out] at ho; have n0_ := aM (blk_grown (g := gb254) (o := .cells #[.int .i64 t246, .int .i64 t247, .int .i64 t248, .int .i64 t249, .int .i64 t250, .int .i64 a4, .int .i64 a5] 23 (0, 0)) (by (with_reducible repeat (first | refine blk_drewN ?_ _ | refine blk_drew ?_ | refine blk_alloc ?_ _)); refine blk_put (cs := #[.int .i64 t246, .int .i64 t247, .int .i64 t248, .int .i64 t249, .int .i64 t250, .int .i64 a4, .int .i64 t252]) ?_ 6 _ rfl; (with_reducible repeat (first | refine blk_drewN ?_ _ | refine blk_drew ?_ | refine blk_alloc ?_ _)); refine blk_put (cs := #[.int .i64 t246, .int .i64 t247, .int .i64 t248, .int .i64 t249, .int .i64 t250, .int .i64 t251, .int .i64 t252]) ?_ 5 _ rfl; (with_reducible repeat (first | refine blk_drewN ?_ _ | refine blk_drew ?_ | refine blk_alloc ?_ _)); exact BK254.out) hg (Kd.R_away HO0.out (fun _ hk => hk.2))); have n1_ := aM (hb); have n2_ := aM (Kept.of_grown (S := (fun k_ => P0_ k_)) hg (zz11 GW254.out) (fun k_ e_ => (HO0.out.1 k_ e_).1)); have n3_ := aM (ho); clear BK254; clear HB; clear HK; clear HO0; have BK254 := n0_; have HB := n1_; have HK := n2_; have HO257 := n3_; clear n0_ n1_ n2_ n3_; clear ho hb hg hat))
  (try simp only [Act.put, List.setIfInBounds_toArray, List.set_cons_zero, List.set_cons_succ])
  go_cut [49] (fun v49 wc => ∃ (kq : Nat) (x49_9 : Bool), v49 = .bool x49_9 ∧ Aside0 (spec_l5Add.j0 kq y255 l1 a6 t253 (l0.length : Int) x49_9 t246 t247 t248 t249 t250 a4 a5 = some r) ∧ Aside0 (kq ≤ k) ∧ Aside0 (Kd.R k23 23 wc w0.heap.size (fun k_ => (P0_ k_ ∨ w.heap.size ≤ k_) ∧ k_ ≠ gb254) v256 y255) ∧ Aside0 (wc.heap[gb254]? = some (.cells #[.int .i64 t246, .int .i64 t247, .int .i64 t248, .int .i64 t249, .int .i64 t250, .int .i64 a4, .int .i64 a5] 23 (0, 0))) ∧ Aside0 (Kept w wc (fun k_ => P0_ k_)) ∧ Aside0 (Below w0.heap.size w0 wc))
  case first =>
   have H := HC10.out
   clear HC10
   by_cases c18 : t246 = 2
   ·rw [if_pos c18] at H
    have c18b0 : (t246 == 2) = true := beq_iff_eq.mpr c18
    have c18b1 : (t246 != 2) = false := bne_eq_false_iff_eq.mpr c18
    clear c18
    have HQ_ := aM H
    clear H
    (first | rw [c18b0] | (simp only [i64_w, i32_w]; rw [c18b0]) | skip)
    have hcz20_0 : w17.cell? ⟨gb254, 0, none⟩ = some (.int .i64 t246) := (blk_cell BK254.out 0).trans rfl
    have hcz20_1 : w17.cell? ⟨gb254, 1, none⟩ = some (.int .i64 t247) := (blk_cell BK254.out 1).trans rfl
    have hcz20_2 : w17.cell? ⟨gb254, 2, none⟩ = some (.int .i64 t248) := (blk_cell BK254.out 2).trans rfl
    have hcz20_3 : w17.cell? ⟨gb254, 3, none⟩ = some (.int .i64 t249) := (blk_cell BK254.out 3).trans rfl
    have hcz20_4 : w17.cell? ⟨gb254, 4, none⟩ = some (.int .i64 t250) := (blk_cell BK254.out 4).trans rfl
    have hcz20_5 : w17.cell? ⟨gb254, 5, none⟩ = some (.int .i64 a4) := (blk_cell BK254.out 5).trans rfl
    have hcz20_6 : w17.cell? ⟨gb254, 6, none⟩ = some (.int .i64 a5) := (blk_cell BK254.out 6).trans rfl
    have hfz20_0 := blk_frozen BK254.out 0
    have hfz20_1 := blk_frozen BK254.out 1
    have hfz20_2 := blk_frozen BK254.out 2
    have hfz20_3 := blk_frozen BK254.out 3
    have hfz20_4 := blk_frozen BK254.out 4
    have hfz20_5 := blk_frozen BK254.out 5
    have hfz20_6 := blk_frozen BK254.out 6
    have H := HQ_.out
    clear HQ_
    by_cases c19 : a6 ≥ 3
    ·rw [if_pos c19] at H
     have c19b0 : decide (3 ≤ a6) = true := decide_eq_true c19
     clear c19
     have H' := aM H
     clear H
     (try simp only [c19b0])
     go_wp2
     go_meet
     case rel => exact ⟨_, (true), bS, H', ⟨zz48⟩, ⟨bR HO257⟩, ⟨bL BK254⟩, ⟨zz11 GW254.out⟩, ⟨bG GE254⟩⟩
    rw [if_neg c19] at H
    have c19b0 : decide (3 ≤ a6) = false := decide_eq_false c19
    clear c19
    replace H := Option.bind_eq_some_iff.mp H
    obtain ⟨t258, A210, H⟩ := H
    replace H : (spec_l5Add.j0 k y255 l1 a6 t253 (l0.length : Int) (!t258) t246 t247 t248 t249 t250 a4 a5) = some r := H
    have A21 := aM A210
    clear A210
    have H' := aM H
    clear H
    (try simp only [c19b0])
    go_wp2_with (first | (go_at_call 47; (with_reducible refine (spec_l1In.calls (t253.size : Int) 1 20 t258 _ A21.out).mono ?_); rintro e w' ⟨rfl, ⟨nd, rfl⟩⟩))
    go_meet
    case rel => exact ⟨_, (!t258), bS, H', ⟨zz48⟩, ⟨bR HO257⟩, ⟨bL BK254⟩, ⟨zz11 GW254.out⟩, ⟨bG GE254⟩⟩
   rw [if_neg c18] at H
   have c18b0 : (t246 == 2) = false := beq_eq_false_iff_ne.mpr c18
   have c18b1 : (t246 != 2) = true := bne_iff_ne.mpr c18
   (first | rw [c18b0] | (simp only [i64_w, i32_w]; rw [c18b0]) | skip)
   have H' := aM H
   clear H
   have hcz23_0 : w17.cell? ⟨gb254, 0, none⟩ = some (.int .i64 t246) := (blk_cell BK254.out 0).trans rfl
   have hcz23_1 : w17.cell? ⟨gb254, 1, none⟩ = some (.int .i64 t247) := (blk_cell BK254.out 1).trans rfl
   have hcz23_2 : w17.cell? ⟨gb254, 2, none⟩ = some (.int .i64 t248) := (blk_cell BK254.out 2).trans rfl
   have hcz23_3 : w17.cell? ⟨gb254, 3, none⟩ = some (.int .i64 t249) := (blk_cell BK254.out 3).trans rfl
   have hcz23_4 : w17.cell? ⟨gb254, 4, none⟩ = some (.int .i64 t250) := (blk_cell BK254.out 4).trans rfl
   have hcz23_5 : w17.cell? ⟨gb254, 5, none⟩ = some (.int .i64 a4) := (blk_cell BK254.out 5).trans rfl
   have hcz23_6 : w17.cell? ⟨gb254, 6, none⟩ = some (.int .i64 a5) := (blk_cell BK254.out 6).trans rfl
   have hfz23_0 := blk_frozen BK254.out 0
   have hfz23_1 := blk_frozen BK254.out 1
   have hfz23_2 := blk_frozen BK254.out 2
   have hfz23_3 := blk_frozen BK254.out 3
   have hfz23_4 := blk_frozen BK254.out 4
   have hfz23_5 := blk_frozen BK254.out 5
   have hfz23_6 := blk_frozen BK254.out 6
   go_wp2
   go_meet
   case rel => exact ⟨_, (true), bS, H', ⟨zz48⟩, ⟨bR HO257⟩, ⟨bL BK254⟩, ⟨zz11 GW254.out⟩, ⟨bG GE254⟩⟩
  case rest =>
   clear HC10
   try clear c1
   try clear p2
   try clear c8
   try clear c9
   try clear c10
   try clear c18
   try clear c18b0
   try clear c18b1
   try clear c19
   try clear c19b0
   try clear hcz13_0
   try clear hcz13_1
   try clear hcz13_2
   try clear hcz13_3
   try clear hcz13_4
   try clear hcz13_5
   try clear hcz13_6
   try clear hcz15_0
   try clear hcz15_1
   try clear hcz15_2
   try clear hcz15_3
   try clear hcz15_4
   try clear hcz15_5
   try clear hcz15_6
   try clear hcz20_0
   try clear hcz20_1
   try clear hcz20_2
   try clear hcz20_3
   try clear hcz20_4
   try clear hcz20_5
   try clear hcz20_6
   try clear hcz22_0
   try clear hcz22_1
   try clear hcz22_2
   try clear hcz22_3
   try clear hcz22_4
   try clear hcz22_5
   try clear hcz22_6
   try clear hcz23_0
   try clear hcz23_1
   try clear hcz23_2
   try clear hcz23_3
   try clear hcz23_4
   try clear hcz23_5
   try clear hcz23_6
   try clear hfz13_0
   try clear hfz13_1
   try clear hfz13_2
   try clear hfz13_3
   try clear hfz13_4
   try clear hfz13_5
   try clear hfz13_6
   try clear hfz15_0
   try clear hfz15_1
   try clear hfz15_2
   try clear hfz15_3
   try clear hfz15_4
   try clear hfz15_5
   try clear hfz15_6
   try clear hfz20_0
   try clear hfz20_1
   try clear hfz20_2
   try clear hfz20_3
   try clear hfz20_4
   try clear hfz20_5
   try clear hfz20_6
   try clear hfz22_0
   try clear hfz22_1
   try clear hfz22_2
   try clear hfz22_3
   try clear hfz22_4
   try clear hfz22_5
   try clear hfz22_6
   try clear hfz23_0
   try clear hfz23_1
   try clear hfz23_2
   try clear hfz23_3
   try clear hfz23_4
   try clear hfz23_5
   try clear hfz23_6
   obtain ⟨kq, x49_9, rfl, HA, HJ9, HO_0, BK254, HK, HB⟩ := hcut
   cases kq with
   | zero => exact absurd HA.out (by simp [spec_l5Add.j0])
   | succ kj9 =>
    have H := HA.out
    clear HA
    simp only [spec_l5Add.j0] at H
    by_cases c24 : x49_9 = true
    ·subst c24
     have H1 : (some y255) = some r := zz27
     clear H
     have H := H1
     clear H1
     obtain rfl := Option.some.inj H
     go_wp2
     go_ret
     exact ⟨_, bE, zz29 HO_0.out, bG GE254, zz11 GW254.out⟩
    replace c24 := Bool.eq_false_iff.mpr c24
    subst c24
    have H1 : ((spec_l5Spans.f kj9 l1 t249 t250 t253).bind fun t259 => (spec_l5Add.l0 kj9 y255 l1 a6 (l0.length : Int) t259 0)) = some r := zz15
    clear H
    have H := H1
    clear H1
    replace H := Option.bind_eq_some_iff.mp H
    obtain ⟨t259, A250, H⟩ := H
    replace H : (spec_l5Add.l0 kj9 y255 l1 a6 (l0.length : Int) t259 0) = some r := H
    have A25 := aM A250
    clear A250
    have H' := aM H
    clear H
    have hcz26_0 : wc.cell? ⟨gb254, 0, none⟩ = some (.int .i64 t246) := (blk_cell BK254.out 0).trans rfl
    have hcz26_1 : wc.cell? ⟨gb254, 1, none⟩ = some (.int .i64 t247) := (blk_cell BK254.out 1).trans rfl
    have hcz26_2 : wc.cell? ⟨gb254, 2, none⟩ = some (.int .i64 t248) := (blk_cell BK254.out 2).trans rfl
    have hcz26_3 : wc.cell? ⟨gb254, 3, none⟩ = some (.int .i64 t249) := (blk_cell BK254.out 3).trans rfl
    have hcz26_4 : wc.cell? ⟨gb254, 4, none⟩ = some (.int .i64 t250) := (blk_cell BK254.out 4).trans rfl
    have hcz26_5 : wc.cell? ⟨gb254, 5, none⟩ = some (.int .i64 a4) := (blk_cell BK254.out 5).trans rfl
    have hcz26_6 : wc.cell? ⟨gb254, 6, none⟩ = some (.int .i64 a5) := (blk_cell BK254.out 6).trans rfl
    have hfz26_0 := blk_frozen BK254.out 0
    have hfz26_1 := blk_frozen BK254.out 1
    have hfz26_2 := blk_frozen BK254.out 2
    have hfz26_3 := blk_frozen BK254.out 3
    have hfz26_4 := blk_frozen BK254.out 4
    have hfz26_5 := blk_frozen BK254.out 5
    have hfz26_6 := blk_frozen BK254.out 6
    go_wp2_with (first | ((with_reducible refine gate_callee (f := 107) rfl ?_); refine gL_ (some 57) Tryd.func107 #[.slice A1 l1.length c1, .int .i64 t249, .int .i64 t250, .string t253] ?_; (with_reducible refine (spec_l5Spans.calls kj9 _ _ l1 t249 t250 t253 t259 _ ?side1 ?side2 A25.out).mono ?_); (case side1 => exact Kd.C_kept_now HR1.out (zz11 GW254.out)); (case side2 => exact HC1.out); rintro e w27 ⟨v260, rfl, ho0, hb⟩; refine ⟨_, rfl, ?_⟩; replace HO_0 := aM (Kd.R_below (bR HO_0) hb); have HO261 := aM (Kd.R_lower (Kd.R_newM (M := fun k_ => (P0_ k_ ∨ w.heap.size ≤ k_)) ho0 (by first | exact HK.out.1 | exact (show Kept w _ (fun k_ => P0_ k_) from zz11 GW254.out).1) (fun k_ h_ => .inr h_)) (below_size (bG GE254))); replace BK254 := aM (blk_below (g := gb254) (o := .cells #[.int .i64 t246, .int .i64 t247, .int .i64 t248, .int .i64 t249, .int .i64 t250, .int .i64 a4, .int .i64 a5] 23 (0, 0)) (bL BK254) hb); replace HK := aM (Kept.below (S := (fun k_ => P0_ k_)) (zz11 GW254.out) hb); replace HB := aM (below_step (bG GE254) hb); (try clear ho0)))
    go_loopg [0, 19] kj9 (fun kq v0 v19 w' => ∃ (x0_2 : List (S23)) (x19_2 : Int), v19 = .int .i64 x19_2 ∧ Aside0 (spec_l5Add.l0 kq x0_2 l1 a6 (l0.length : Int) t259 x19_2 = some r) ∧ Aside0 (kq ≤ kj9) ∧ Aside0 (Kd.R k23 23 w' w0.heap.size (fun k_ => (P0_ k_ ∨ w.heap.size ≤ k_) ∧ k_ ≠ gb254) v0 x0_2) ∧ Aside0 (Kd.R k127 127 w' w0.heap.size (fun k_ => (P0_ k_ ∨ w.heap.size ≤ k_)) v260 t259) ∧ Aside0 (w'.heap[gb254]? = some (.cells #[.int .i64 t246, .int .i64 t247, .int .i64 t248, .int .i64 t249, .int .i64 t250, .int .i64 a4, .int .i64 a5] 23 (0, 0))) ∧ Aside0 (Kept w w' (fun k_ => P0_ k_)) ∧ Aside0 (Below w0.heap.size w0 w'))
    case atStart => exact ⟨(y255), (0), bS, H', ⟨Nat.le_refl _⟩, ⟨bR HO_0⟩, ⟨zz29 HO261.out⟩, ⟨bL BK254⟩, ⟨zz11 GW254.out⟩, ⟨bG GE254⟩⟩
    case round =>
     clear H'
     try clear c1
     try clear c2
     try clear p2
     try clear c8
     try clear c9
     try clear c10
     try clear c18
     try clear c18b0
     try clear c18b1
     try clear c19
     try clear c19b0
     try clear c24
     try clear hcz13_0
     try clear hcz13_1
     try clear hcz13_2
     try clear hcz13_3
     try clear hcz13_4
     try clear hcz13_5
     try clear hcz13_6
     try clear hcz15_0
     try clear hcz15_1
     try clear hcz15_2
     try clear hcz15_3
     try clear hcz15_4
     try clear hcz15_5
     try clear hcz15_6
     try clear hcz20_0
     try clear hcz20_1
     try clear hcz20_2
     try clear hcz20_3
     try clear hcz20_4
     try clear hcz20_5
     try clear hcz20_6
     try clear hcz22_0
     try clear hcz22_1
     try clear hcz22_2
     try clear hcz22_3
     try clear hcz22_4
     try clear hcz22_5
     try clear hcz22_6
     try clear hcz23_0
     try clear hcz23_1
     try clear hcz23_2
     try clear hcz23_3
     try clear hcz23_4
     try clear hcz23_5
     try clear hcz23_6
     try clear hcz26_0
     try clear hcz26_1
     try clear hcz26_2
     try clear hcz26_3
     try clear hcz26_4
     try clear hcz26_5
     try clear hcz26_6
     try clear hfz13_0
     try clear hfz13_1
     try clear hfz13_2
     try clear hfz13_3
     try clear hfz13_4
     try clear hfz13_5
     try clear hfz13_6
     try clear hfz15_0
     try clear hfz15_1
     try clear hfz15_2
     try clear hfz15_3
     try clear hfz15_4
     try clear hfz15_5
     try clear hfz15_6
     try clear hfz20_0
     try clear hfz20_1
     try clear hfz20_2
     try clear hfz20_3
     try clear hfz20_4
     try clear hfz20_5
     try clear hfz20_6
     try clear hfz22_0
     try clear hfz22_1
     try clear hfz22_2
     try clear hfz22_3
     try clear hfz22_4
     try clear hfz22_5
     try clear hfz22_6
     try clear hfz23_0
     try clear hfz23_1
     try clear hfz23_2
     try clear hfz23_3
     try clear hfz23_4
     try clear hfz23_5
     try clear hfz23_6
     try clear hfz26_0
     try clear hfz26_1
     try clear hfz26_2
     try clear hfz26_3
     try clear hfz26_4
     try clear hfz26_5
     try clear hfz26_6
     try clear p2
     obtain ⟨x0_2, x19_2, rfl, HA, HK2, HO_0, HO_18, BK254, HK, HB⟩ := hrel
     cases gk with
     | zero => exact absurd HA.out (by simp [spec_l5Add.l0])
     | succ k2 =>
      have H := HA.out
      clear HA
      simp only [spec_l5Add.l0] at H
      have HQ_ := aM H
      clear H
      obtain ⟨Ao32, co32, eo32⟩ := Kd.R_slice HO_18.out
      subst eo32
      have H := HQ_.out
      clear HQ_
      by_cases c28 : x19_2 < (t259.length : Int)
      ·rw [if_pos c28] at H
       have c28b0 : decide (x19_2 < (t259.length : Int)) = true := decide_eq_true c28
       clear c28
       (try simp only [c28b0])
       have HQ_ := aM H
       clear H
       obtain ⟨Ao33, co33, eo33⟩ := Kd.R_slice HO_0.out
       subst eo33
       have H := HQ_.out
       clear HQ_
       by_cases c29 : (x0_2.length : Int) < 8
       ·rw [if_pos c29] at H
        have c29b0 : decide ((x0_2.length : Int) < 8) = true := decide_eq_true c29
        have c29b1 : decide (x0_2.length < 8) = true := decide_eq_true (by omega)
        clear c29
        (try simp only [c29b0, c29b1])
        by_cases c30 : 0 ≤ x19_2
        ·rw [if_pos c30] at H
         have c30b0 : decide (0 ≤ x19_2) = true := decide_eq_true c30
         clear c30
         replace H := Option.bind_eq_some_iff.mp H
         obtain ⟨t264, A310, H⟩ := H
         replace H : (spec_l5Add.l0 k2 t264 l1 a6 (l0.length : Int) t259 (wrap64 (x19_2 + 1))) = some r := H
         have A31 := aM A310
         clear A310
         have H' := aM H
         clear H
         try go_wp2
         replace HO_0 := aM (Kd.R_drew HO_0.out)
         replace HO_18 := aM (Kd.R_drew HO_18.out)
         replace BK254 := aM (blk_drew BK254.out)
         replace HK := aM (Kept.drew HK.out)
         replace HB := aM (below_drew1 HB.out)
         have p262 : 0 ≤ (x19_2 : Int) := pI
         have q262 : x19_2 < (t259.length : Int) := pI
         obtain ⟨ad262, e262, hx262_0, hx262_1⟩ := at_T127 (Kd.R_reads' HO_18.out).2.2 x19_2 p262 q262
         cases e262
         replace p262 := eq_true p262
         replace q262 := eq_true q262
         have p263 : 0 ≤ (x19_2 : Int) := pI
         have q263 : x19_2 < (t259.length : Int) := pI
         obtain ⟨ad263, e263, hx263_0, hx263_1⟩ := at_T127 (Kd.R_reads' HO_18.out).2.2 x19_2 p263 q263
         obtain rfl : ad262 = ad263 := (by injection e263)
         replace p263 := eq_true p263
         replace q263 := eq_true q263
         refine start_ (n := 19) (S := fun w' => w'.cell? (ad262.add ((x19_2).toNat * 2)) = some (.int .i64 ((rd_T127 t259 x19_2).f0)) ∧ w'.cell? ⟨(ad262.add ((x19_2).toNat * 2)).block, (ad262.add ((x19_2).toNat * 2)).off + 1, none⟩ = some (.int .i64 ((rd_T127 t259 x19_2).f1)) ∧ w'.cell? (ad262.add ((x19_2).toNat * 2)) = some (.int .i64 ((rd_T127 t259 x19_2).f0)) ∧ w'.cell? ⟨(ad262.add ((x19_2).toNat * 2)).block, (ad262.add ((x19_2).toNat * 2)).off + 1, none⟩ = some (.int .i64 ((rd_T127 t259 x19_2).f1))) (ds := []) (bsA 19 0) (by kernel_rfl) rfl rfl ⟨hx262_0, hx262_1, hx263_0, hx263_1⟩ (fun hHeld => ?_); refine with_tabW spec_l5Add.tab12 spec_l5Add.bits12 (fun HT_ HW_ => ?_)
         generalize wr.drew = w34 at HO_0 HO_18 BK254 HK HB hx262_0 hx262_1 hx263_0 hx263_1 hHeld ⊢
         refine pa_ (i := 0) (N := some 69) (bsA 19 1) (h := ?_)
         refine pa_ (i := 1) (N := some 70) (bsA 19 3) (h := ?_)
         refine pa_ (i := 2) (N := some 71) (bsA 19 7) (h := ?_)
         refine pa_ (i := 3) (N := some 72) (bsA 19 15) (h := ?_)
         refine pa_ (i := 4) (N := some 73) (bsA 19 31) (h := ?_)
         refine pa_ (i := 5) (N := some 74) (bsA 19 63) (h := ?_)
         refine pa_ (i := 7) (N := some 76) (bsA 19 191) (h := ?_)
         refine pa_ (i := 8) (N := some 77) (bsA 19 447) (h := ?_)
         refine pa_ (i := 9) (N := some 78) (bsA 19 959) (h := ?_)
         refine pa_ (i := 10) (N := some 79) (bsA 19 1983) (h := ?_)
         refine pa_ (i := 12) (N := some 81) (bsA 19 6079) (h := ?_)
         refine pa_ (i := 13) (N := some 82) (bsA 19 14271) (h := ?_)
         refine pa_ (i := 14) (N := some 83) (bsA 19 30655) (h := ?_)
         refine pa_ (i := 15) (N := some 84) (bsA 19 63423) (h := ?_)
         refine pa_ (i := 16) (N := some 85) (bsA 19 128959) (h := ?_)
         refine take_ (i := 6) (N := some 75) (v := ?_) (a' := ?_) (bsA 19 129023) rfl rfl (take_ofW HT_.out HW_.out (by kernel_rfl)) (fun _ _ _ h => h) (Or.inl ⟨by rfl, ?_⟩) hHeld ?_ ?_
         rotate_left
         ·rintro w' ⟨s0, s1, s2, s3⟩
          go_simp
          with_reducible rfl
         rotate_left
         ·simp only [Act.put, List.setIfInBounds_toArray, List.set_cons_zero, List.set_cons_succ, i64_w, i32_w]
          rfl
         refine take_ (i := 11) (N := some 80) (v := ?_) (a' := ?_) (bsA 19 131071) rfl rfl (take_ofW HT_.out HW_.out (by kernel_rfl)) (fun _ _ _ h => h) (Or.inl ⟨by rfl, ?_⟩) hHeld ?_ ?_
         rotate_left
         ·rintro w' ⟨s0, s1, s2, s3⟩
          go_simp
          with_reducible rfl
         rotate_left
         ·simp only [Act.put, List.setIfInBounds_toArray, List.set_cons_zero, List.set_cons_succ, i64_w, i32_w]
          rfl
         refine one_ (i := 17) (N := some 86) (bsA 19 262143) rfl rfl (one_of HT_.out (by kernel_rfl)) (by decide) (fun K hK => ?_)
         refine goes_ Tryd.func83 (by kernel_rfl) rfl #[.slice Ao33 x0_2.length co33, .slice A1 l1.length c1, .int .i64 ((rd_T127 t259 x19_2).f0), .int .i64 ((rd_T127 t259 x19_2).f1), .int .i64 (l0.length : Int), .int .i64 (wrap64 (x19_2 + 1)), .int .i64 (wrap64 (a6 + 1))] (by rfl) rfl rfl bM ?_
         with_reducible refine (ih k2 (zz55 HJ9.out HK2.out) (fun k_ => some k_ = (.slice Ao33 x0_2.length co33 : Value).ownBlock) (.slice Ao33 x0_2.length co33) x0_2 _ _ l1 ((rd_T127 t259 x19_2).f0) ((rd_T127 t259 x19_2).f1) (l0.length : Int) (wrap64 (x19_2 + 1)) (wrap64 (a6 + 1)) t264 w0 _ ?side1 ?side2 ?side3 ?side4 A31.out).mono ?_
         (case side1 => exact zz46 GE254.out)
         (case side2 => exact Kd.R_tight rfl HO_0.out)
         (case side3 => exact Kd.C_kept_call HR1.out (zz11 GW254.out) (fun k_ hs_ => (fun e_ => (HO_0.out.1 k_ e_.symm).1) hs_))
         (case side4 => exact HC1.out)
         rintro e w35 ⟨v265, rfl, ho0, hb, hkp⟩
         have HS0_ := cell_kept (hHeld.1) hkp (zz24 HO_18.out HO_0.out)
         have HS1_ := cell_kept (hHeld.2.1) hkp (zz24 HO_18.out HO_0.out)
         have HS2_ := cell_kept (hHeld.2.2.1) hkp (zz24 HO_18.out HO_0.out)
         have HS3_ := cell_kept (hHeld.2.2.2) hkp (zz24 HO_18.out HO_0.out)
         refine ⟨_, rfl, ?_⟩
         have n0_ := aM (Kd.R_mono (ok' := fun k_ => (P0_ k_ ∨ w.heap.size ≤ k_)) (Kd.R_keptB ((Kd.R_apart' HO_18.out (Kd.R_typed HO_0.out) (by decide))) hkp (fun k_ hk_ hs_ => (hk_.2) hs_)) (fun k_ hk_ => hk_.1.1))
         have n1_ := aM (blk_kept (bL BK254) hkp (fun hs_ => (fun e_ => (Kd.R_away HO_0.out (fun _ hk => hk.2)) e_) hs_))
         have n2_ := aM (Kd.R_mono (ok' := fun k_ => (P0_ k_ ∨ w.heap.size ≤ k_) ∧ k_ ≠ gb254) ho0 (fun k_ hk_ => ⟨Or.elim hk_ (fun hs_ => (HO_0.out.1 k_ (hs_).symm).1) (fun hn_ => (.inr (Nat.le_trans (by first | exact HK.out.1 | exact (show Kept w _ (fun k_ => P0_ k_) from zz11 GW254.out).1) hn_))), Or.elim hk_ (fun hs_ => fun e_ => (Kd.R_away HO_0.out (fun _ hk => hk.2)) (by rw [← e_]; exact hs_)) (fun hn_ => (Kd.freshB (g := gb254) (o := .cells #[.int .i64 t246, .int .i64 t247, .int .i64 t248, .int .i64 t249, .int .i64 t250, .int .i64 a4, .int .i64 a5] 23 (0, 0)) (bL BK254) k_ hn_))⟩))
         have n3_ := aM (Kept.then_ (S := (fun k_ => P0_ k_)) (zz11 GW254.out) hkp (fun k_ hs_ => (fun e_ => (HO_0.out.1 k_ e_.symm).1) hs_))
         have n4_ := aM (hb)
         clear HO_18
         clear BK254
         clear HK
         clear HB
         clear HO_0
         have HO_18 := n0_
         have BK254 := n1_
         have HO266 := n2_
         have HK := n3_
         have HB := n4_
         clear n0_ n1_ n2_ n3_ n4_
         (try clear hb)
         (try clear hkp)
         (try clear ho0)
         refine hK.out _ _ ⟨HS0_, HS1_, HS2_, HS3_⟩ (fun hHeld => ?_)
         clear hK K
         refine na_ (N := some 86) (h := ?_)
         refine pa_ (i := 18) (N := some 0) (bsA 19 524287) (h := ?_)
         refine done_ (done_of HT_.out (by kernel_rfl)) ?_
         try go_wp2
         go_roundg k2
         case measure => have := HJ9.out; have := HK2.out; omega
         case rel => exact ⟨(t264), (wrap64 (x19_2 + 1)), bS, H', ⟨zz55 HJ9.out HK2.out⟩, ⟨bR HO266⟩, ⟨bR HO_18⟩, ⟨bL BK254⟩, ⟨zz11 GW254.out⟩, ⟨bG GE254⟩⟩
        rw [if_neg c30] at H
        exact absurd H (by simp)
       rw [if_neg c29] at H
       have c29b0 : decide ((x0_2.length : Int) < 8) = false := decide_eq_false c29
       have c29b1 : decide (x0_2.length < 8) = false := decide_eq_false (by omega)
       clear c29
       obtain rfl := Option.some.inj H
       (try simp only [c29b0, c29b1])
       go_wp2
       go_ret
       exact ⟨_, bE, zz29 HO_0.out, bG GE254, zz11 GW254.out⟩
      rw [if_neg c28] at H
      have c28b0 : decide (x19_2 < (t259.length : Int)) = false := decide_eq_false c28
      clear c28
      obtain rfl := Option.some.inj H
      (try simp only [c28b0])
      go_wp2
      go_ret
      exact ⟨_, bE, zz29 HO_0.out, bG GE254, zz11 GW254.out⟩
 rw [if_neg c9] at H
 exact absurd H (by simp)
def spec_l5Parse.f (k : Nat) (l0 : List Int) : Option ((List (S23))) := (spec_l5Add.f k ([] : List (S23)) l0 0 (l0.length : Int) (-1) 0 1).bind fun t267 => (some t267)
set_option maxHeartbeats 8000000 in
set_option maxRecDepth 100000 in
theorem spec_l5Parse.calls (k : Nat) (A0 : Option Addr) (c0 : Nat) (l0 : List Int) (r : List (S23)) (w : World) (hr0 : Kd.C (Kd.int .u8) w A0 l0.length l0) (hc0 : l0.length ≤ c0) (h : spec_l5Parse.f k l0 = some r) :
  Calls Tryd.prog 46 #[.slice A0 l0.length c0] w fun e w' => ∃ v0_ : Value, e = .returned (v0_) ∧ Kd.R k23 23 w' w.heap.size (fun _ => True) v0_ r ∧ Below w.heap.size w w' := by
 have HR0 := aM hr0
 have HC0 := aM hc0
 clear hr0 hc0
 have HB := aM (Below.refl w.heap.size w)
 have H : ((spec_l5Add.f k ([] : List (S23)) l0 0 (l0.length : Int) (-1) 0 1).bind fun t267 => (some t267)) = some r := h
 clear h
 replace H := Option.bind_eq_some_iff.mp H
 obtain ⟨t267, A20, H⟩ := H
 replace H : (some t267) = some r := H
 have A2 := aM A20
 clear A20
 obtain rfl := Option.some.inj H
 go_enter Tryd.func46, Tryd.ntmps46
 go_wp2_with (first | ((with_reducible refine gate_callee (f := 83) rfl ?_); refine gL_ (some 6) Tryd.func83 #[.slice none 0 0, .slice A0 l0.length c0, .int .i64 0, .int .i64 (l0.length : Int), .int .i64 (-1), .int .i64 0, .int .i64 1] ?_; (refine (spec_l5Add.calls k (fun k_ => some k_ = (.slice none 0 0 : Value).ownBlock) (.slice none 0 0) ([] : List (S23)) _ _ l0 0 (l0.length : Int) (-1) 0 1 t267 w _ ?side1 ?side2 ?side3 ?side4 A2.out).mono ?_); (case side1 => exact zz34); (case side2 => exact Kd.R_nil _ _ _ _ _); (case side3 => exact Kd.C_kept_came (Kd.heap_int .u8) HR0.out bB (fun k_ hs_ => (fun e_ => by simp [Value.ownBlock] at e_) hs_)); (case side4 => exact HC0.out); rintro e w3 ⟨v268, rfl, ho0, hb, hkp⟩; refine ⟨_, rfl, ?_⟩; have HO269 := aM (Kd.R_mono (ok' := fun k_ => True) ho0 (fun k_ hk_ => trivial)); replace HB := aM (hb); (try clear hkp); (try clear ho0)))
 go_ret
 exact ⟨_, bE, bR HO269, bB⟩
def spec_l1Copy.f (l0 : List Int) : Option (List Int) := (some (([] : List Int) : List Int)).bind fun y270 => (if y270.length + l0.length < 140737488355328 then (some (y270 ++ l0)) else (none))
set_option maxHeartbeats 8000000 in
set_option maxRecDepth 100000 in
theorem spec_l1Copy.calls (A0 : Option Addr) (c0 : Nat) (l0 : List Int) (r : List Int) (w : World) (hr0 : Kd.C (Kd.int .u8) w A0 l0.length l0) (hc0 : l0.length ≤ c0) (h : spec_l1Copy.f l0 = some r) :
  Calls Tryd.prog 48 #[.slice A0 l0.length c0] w fun e w' => ∃ v0_ : Value, e = .returned (v0_) ∧ Kd.R (Kd.int .u8) 5 w' w.heap.size (fun _ => True) v0_ r ∧ Below w.heap.size w w' := by
 have HR0 := aM hr0
 have HC0 := aM hc0
 clear hr0 hc0
 have HB := aM (Below.refl w.heap.size w)
 have H : ((some (([] : List Int) : List Int)).bind fun y270 => (if y270.length + l0.length < 140737488355328 then (some (y270 ++ l0)) else (none))) = some r := h
 clear h
 obtain ⟨y270, hy270⟩ : ∃ y_ : List Int, y_ = (([] : List Int)) := ⟨_, rfl⟩
 replace H : (if y270.length + l0.length < 140737488355328 then (some (y270 ++ l0)) else (none)) = some r := zz3 hy270
 have Ny270 := aM hy270
 clear hy270
 by_cases c2 : y270.length + l0.length < 140737488355328
 ·rw [if_pos c2] at H
  have LMc2 := aM c2
  clear c2
  obtain ⟨y273, hy273⟩ : ∃ y_ : List Int, y_ = (y270 ++ l0) := ⟨_, rfl⟩
  replace H : (some y273) = some r := zz3 hy273
  have Ny273 := aM hy273
  clear hy273
  obtain rfl := Option.some.inj H
  go_enter Tryd.func48, Tryd.ntmps48
  go_wp2_with (first | ((with_reducible refine gate_dst (N := 3) rfl ?_); refine Kd.R_lit (Kd.int .u8) _ 5 ?hg (N := 3) ?hd (xs := ([] : List Int)) (inner := []) (ok := fun _ => True) (okp := fun _ => True) ?hr ?hp (fun _ hk => hk) trivial (Below.refl _ _) (Nat.le_refl _) (by simp) ?_; (case hd => rfl); (case hg => rfl); (case hr => exact zz13); (case hp => exact (Reps.none _ _)); intro v271 w3 ho4 hb hg_ hnew_; clear hg_ hnew_; (first | rw [← Ny270.out] at ho4 | (simp only [Int.reduceToNat] at ho4; rw [← Ny270.out] at ho4)); have HO272 := aM (Kd.R_lower ho4 (below_size bB)); replace HB := aM (below_step bB hb); clear hb ho4) | ((with_reducible refine gate_builtin (b := .append) (xs := #[.tmp 3, .tmp 4]) rfl ?_); at_builtin; refine Kd.R_append_rows (Kd.int .u8) (w0 := w) w.heap.size rfl (.tmp 3) (.tmp 4) 27 5 (.int .u8 0) 1 rfl Tryd.underlying27 info5 rfl (by decide) (by omega) v271 y270 l0 _ _ _ (fun _ => True) (fun _ => False) rfl rfl ?aO ?aR (fun _ _ h => h) (fun _ h => h.elim) ?aF ?aB ?aS ?aL ?_; (case aR => exact zz6 HR0.out); (case aB => exact bB); (case aF => exact (fun _ _ => trivial)); (case aO => exact (bR HO272)); (case aS => exact (below_size bB)); (case aL => have := LMc2.out; omega); intro v274 w5 ho hb hg hat; rw [← Ny273.out] at ho; have n0_ := aM (hb); have n1_ := aM (ho); clear HB; clear HO272; have HB := n0_; have HO275 := n1_; clear n0_ n1_; clear ho hb hg hat))
  go_ret
  exact ⟨_, bE, bR HO275, bB⟩
 rw [if_neg c2] at H
 exact absurd H (by simp)
def spec_BodyOf.f (k : Nat) (l0 : List Int) (a1 : Int) : Option (Int × List Int) := if (l0.length : Int) > 400 then (some (2, ([] : List Int))) else ((spec_l5Parse.f k l0).bind fun t277 => ((spec_l1In.f a1 0 (wrap64 ((t277.length : Int) - 1))).bind fun t280 => (if t280 = true then (if 0 ≤ a1 then (if a1 < (t277.length : Int) then (if 0 ≤ ((rd_T23 t277 a1).f3) then (if ((rd_T23 t277 a1).f3) ≤ ((rd_T23 t277 a1).f4) then (if ((rd_T23 t277 a1).f4) ≤ (l0.length : Int) then ((spec_l1Copy.f ((l0.take (((rd_T23 t277 a1).f4) : Int).toNat).drop (((rd_T23 t277 a1).f3) : Int).toNat)).bind fun t284 => (some (0, t284))) else (none)) else (none)) else (none)) else (none)) else (none)) else (some (3, ([] : List Int))))))
def spec_BodyOf.T6 : Bool × List (List Nat × List Nat) := (true, [([], []), ([], []), ([], []), ([1, 2], [1, 2]), ([3], [3]), ([4], [4]), ([], []), ([], []), ([6, 7], [6, 7]), ([8], [8]), ([9], [9]), ([0, 5, 10], [0, 5, 10]), ([11], [11]), ([12], [12]), ([13, 12, 0, 1, 2, 3, 4, 5, 6, 7, 8, 9, 10, 11, 12, 13], [13])])
def spec_BodyOf.B6 : List Nat := [0, 0, 0, 6, 14, 30, 0, 0, 192, 448, 960, 2047, 4095, 8191, 16383]
theorem spec_BodyOf.tab6 : rtab .any (opsOf Tryd.f12 6) = spec_BodyOf.T6 := by kernel_rfl
theorem spec_BodyOf.bits6 : waitsOk spec_BodyOf.T6.2 spec_BodyOf.B6 = true := by kernel_rfl
set_option maxHeartbeats 8000000 in
set_option maxRecDepth 100000 in
theorem spec_BodyOf.calls (k : Nat) (A0 : Option Addr) (c0 : Nat) (l0 : List Int) (a1 : Int) (r1 : Int) (r2 : List Int) (w : World) (hr0 : Kd.C (Kd.int .u8) w A0 l0.length l0) (hc0 : l0.length ≤ c0) (h : spec_BodyOf.f k l0 a1 = some (r1, r2)) :
  Calls Tryd.prog 12 #[.slice A0 l0.length c0, .int .i64 a1] w fun e w' => ∃ v1_ : Value, e = .returned (.agg #[.int .i64 r1, v1_]) ∧ Kd.R (Kd.int .u8) 5 w' w.heap.size (fun _ => True) v1_ r2 ∧ Below w.heap.size w w' := by
 have hu29 := Tryd.underlying29
 have HR0 := aM hr0
 have HC0 := aM hc0
 clear hr0 hc0
 have HB := aM (Below.refl w.heap.size w)
 have H : (if (l0.length : Int) > 400 then (some (2, ([] : List Int))) else ((spec_l5Parse.f k l0).bind fun t277 => ((spec_l1In.f a1 0 (wrap64 ((t277.length : Int) - 1))).bind fun t280 => (if t280 = true then (if 0 ≤ a1 then (if a1 < (t277.length : Int) then (if 0 ≤ ((rd_T23 t277 a1).f3) then (if ((rd_T23 t277 a1).f3) ≤ ((rd_T23 t277 a1).f4) then (if ((rd_T23 t277 a1).f4) ≤ (l0.length : Int) then ((spec_l1Copy.f ((l0.take (((rd_T23 t277 a1).f4) : Int).toNat).drop (((rd_T23 t277 a1).f3) : Int).toNat)).bind fun t284 => (some (0, t284))) else (none)) else (none)) else (none)) else (none)) else (none)) else (some (3, ([] : List Int))))))) = some (r1, r2) := h
 clear h
 have HQ_ := aM H
 clear H
 go_enter Tryd.func12, Tryd.ntmps12
 have H := HQ_.out
 clear HQ_
 by_cases c3 : (l0.length : Int) > 400
 ·rw [if_pos c3] at H
  have c3b0 : decide (400 < (l0.length : Int)) = true := decide_eq_true c3
  have c3b1 : decide (400 < l0.length) = true := decide_eq_true (by omega)
  clear c3
  simp only [Option.some.injEq, Prod.mk.injEq] at H
  obtain ⟨rfl, rfl⟩ := H
  (try simp only [c3b0, c3b1])
  go_wp2_with (first | ((with_reducible refine gate_dst (N := 4) rfl ?_); refine box_event ?hg (N := 4) ?hd (cs := #[.int .i64 0, .slice none 0 0]) (t := 29) ?hr ?_; (case hd => rfl); (case hg => rfl); (case hr => exact zz13); intro gb276 hg w4 hbox hb; have BK276 := aM (hbox); have GW276 := aM ((zz21 : w.heap.size ≤ gb276)); have GE276 := aM ((zz21 : w.heap.size ≤ gb276)); replace HB := aM (below_step bB hb); clear hb hbox hg; have hcz5_0 : w4.cell? ⟨gb276, 0, none⟩ = some (.int .i64 0) := (blk_cell BK276.out 0).trans rfl; have hcz5_1 : w4.cell? ⟨gb276, 1, none⟩ = some (.slice none 0 0) := (blk_cell BK276.out 1).trans rfl; have hfz5_0 := blk_frozen BK276.out 0; have hfz5_1 := blk_frozen BK276.out 1))
  refine bodyPost_ret (results_cell_row rfl _ _ gb276 29 #[.int .i64 2, .slice none 0 0] (0, 0) _ rfl (by (with_reducible repeat (first | refine blk_drewN ?_ _ | refine blk_drew ?_ | refine blk_alloc ?_ _)); refine blk_put (cs := #[.int .i64 2, .slice none 0 0]) ?_ 1 _ rfl; (with_reducible repeat (first | refine blk_drewN ?_ _ | refine blk_drew ?_ | refine blk_alloc ?_ _)); refine blk_put (cs := #[.int .i64 0, .slice none 0 0]) ?_ 0 _ rfl; (with_reducible repeat (first | refine blk_drewN ?_ _ | refine blk_drew ?_ | refine blk_alloc ?_ _)); exact BK276.out) Tryd.underlying29 rfl (by kernel_rfl)) rfl ?_
  exact ⟨_, bE, zz23, bG GE276⟩
 rw [if_neg c3] at H
 have c3b0 : decide (400 < (l0.length : Int)) = false := decide_eq_false c3
 have c3b1 : decide (400 < l0.length) = false := decide_eq_false (by omega)
 clear c3
 replace H := Option.bind_eq_some_iff.mp H
 obtain ⟨t277, A60, H⟩ := H
 replace H : ((spec_l1In.f a1 0 (wrap64 ((t277.length : Int) - 1))).bind fun t280 => (if t280 = true then (if 0 ≤ a1 then (if a1 < (t277.length : Int) then (if 0 ≤ ((rd_T23 t277 a1).f3) then (if ((rd_T23 t277 a1).f3) ≤ ((rd_T23 t277 a1).f4) then (if ((rd_T23 t277 a1).f4) ≤ (l0.length : Int) then ((spec_l1Copy.f ((l0.take (((rd_T23 t277 a1).f4) : Int).toNat).drop (((rd_T23 t277 a1).f3) : Int).toNat)).bind fun t284 => (some (0, t284))) else (none)) else (none)) else (none)) else (none)) else (none)) else (some (3, ([] : List Int))))) = some (r1, r2) := H
 have A6 := aM A60
 clear A60
 replace H := Option.bind_eq_some_iff.mp H
 obtain ⟨t280, A70, H⟩ := H
 replace H : (if t280 = true then (if 0 ≤ a1 then (if a1 < (t277.length : Int) then (if 0 ≤ ((rd_T23 t277 a1).f3) then (if ((rd_T23 t277 a1).f3) ≤ ((rd_T23 t277 a1).f4) then (if ((rd_T23 t277 a1).f4) ≤ (l0.length : Int) then ((spec_l1Copy.f ((l0.take (((rd_T23 t277 a1).f4) : Int).toNat).drop (((rd_T23 t277 a1).f3) : Int).toNat)).bind fun t284 => (some (0, t284))) else (none)) else (none)) else (none)) else (none)) else (none)) else (some (3, ([] : List Int)))) = some (r1, r2) := H
 have A7 := aM A70
 clear A70
 (try simp only [c3b0, c3b1])
 by_cases c8 : t280 = true
 ·subst c8
  have H1 : (if 0 ≤ a1 then (if a1 < (t277.length : Int) then (if 0 ≤ ((rd_T23 t277 a1).f3) then (if ((rd_T23 t277 a1).f3) ≤ ((rd_T23 t277 a1).f4) then (if ((rd_T23 t277 a1).f4) ≤ (l0.length : Int) then ((spec_l1Copy.f ((l0.take (((rd_T23 t277 a1).f4) : Int).toNat).drop (((rd_T23 t277 a1).f3) : Int).toNat)).bind fun t284 => (some (0, t284))) else (none)) else (none)) else (none)) else (none)) else (none)) = some (r1, r2) := zz27
  clear H
  have H := H1
  clear H1
  by_cases c9 : 0 ≤ a1
  ·rw [if_pos c9] at H
   have c9b0 : decide (0 ≤ a1) = true := decide_eq_true c9
   clear c9
   by_cases c10 : a1 < (t277.length : Int)
   ·rw [if_pos c10] at H
    have c10b0 : decide (a1 < (t277.length : Int)) = true := decide_eq_true c10
    clear c10
    by_cases c11 : 0 ≤ ((rd_T23 t277 a1).f3)
    ·rw [if_pos c11] at H
     have c11b0 := eq_true c11
     have c11b1 : decide (0 ≤ ((rd_T23 t277 a1).f3)) = true := decide_eq_true c11
     clear c11
     by_cases c12 : ((rd_T23 t277 a1).f3) ≤ ((rd_T23 t277 a1).f4)
     ·rw [if_pos c12] at H
      have c12b0 := eq_true c12
      have c12b1 : decide (((rd_T23 t277 a1).f3) ≤ ((rd_T23 t277 a1).f4)) = true := decide_eq_true c12
      clear c12
      by_cases c13 : ((rd_T23 t277 a1).f4) ≤ (l0.length : Int)
      ·rw [if_pos c13] at H
       have c13b0 := eq_true c13
       have c13b1 : decide (((rd_T23 t277 a1).f4) ≤ (l0.length : Int)) = true := decide_eq_true c13
       clear c13
       replace H := Option.bind_eq_some_iff.mp H
       obtain ⟨t284, A140, H⟩ := H
       replace H : (some (0, t284)) = some (r1, r2) := H
       have A14 := aM A140
       clear A140
       simp only [Option.some.injEq, Prod.mk.injEq] at H
       obtain ⟨rfl, rfl⟩ := H
       try go_wp2_with (first | ((with_reducible refine gate_dst (N := 4) rfl ?_); refine box_event ?hg (N := 4) ?hd (cs := #[.int .i64 0, .slice none 0 0]) (t := 29) ?hr ?_; (case hd => rfl); (case hg => rfl); (case hr => exact zz13); intro gb276 hg w15 hbox hb; have BK276 := aM (hbox); have GW276 := aM ((zz21 : w.heap.size ≤ gb276)); have GE276 := aM ((zz21 : w.heap.size ≤ gb276)); replace HB := aM (below_step bB hb); clear hb hbox hg) | ((with_reducible refine gate_callee (f := 46) rfl ?_); refine gL_ (some 11) Tryd.func46 #[.slice A0 l0.length c0] ?_; (with_reducible refine (spec_l5Parse.calls k _ _ l0 t277 _ ?side1 ?side2 A6.out).mono ?_); (case side1 => exact zz6 HR0.out); (case side2 => exact HC0.out); rintro e w16 ⟨v278, rfl, ho0, hb⟩; refine ⟨_, rfl, ?_⟩; have HO279 := aM (Kd.R_lower ho0 (below_size (bG GE276))); replace BK276 := aM (blk_below (g := gb276) (o := .cells #[.int .i64 0, .slice none 0 0] 29 (0, 0)) (bL BK276) hb); replace HB := aM (below_step (bG GE276) hb); (try clear ho0); obtain ⟨Ao17, co17, eo17⟩ := Kd.R_slice HO279.out; subst eo17) | ((with_reducible refine gate_callee (f := 47) rfl ?_); refine gL_ (some 16) Tryd.func47 #[.int .i64 a1, .int .i64 0, .int .i64 (wrap64 ((t277.length : Int) - 1))] ?_; (with_reducible refine (spec_l1In.calls a1 0 (wrap64 ((t277.length : Int) - 1)) true _ A7.out).mono ?_); rintro e w' ⟨rfl, ⟨nd, rfl⟩⟩; refine ⟨_, rfl, ?_⟩; (try (rw [drewN_self w16]; generalize hq_ : World.drewN w16 _ = w16; have n0_ : Aside0 (Kd.R k23 23 w16 w.heap.size (fun _ => True) (.slice Ao17 t277.length co17) t277) := ⟨by rw [← hq_]; exact (bR HO279)⟩; have n1_ : Aside0 (w16.heap[gb276]? = some (.cells #[.int .i64 0, .slice none 0 0] 29 (0, 0))) := ⟨by rw [← hq_]; exact (bL BK276)⟩; have n2_ : Aside0 (Below w.heap.size w w16) := ⟨by rw [← hq_]; exact (bG GE276)⟩; clear HO279 BK276 HB hq_; have HO279 := n0_; have BK276 := n1_; have HB := n2_; clear n0_ n1_ n2_))))
       replace HO279 := aM (Kd.R_drew HO279.out)
       replace BK276 := aM (blk_drew BK276.out)
       replace HB := aM (below_drew1 HB.out)
       have p281 : 0 ≤ (a1 : Int) := pI
       have q281 : a1 < (t277.length : Int) := pI
       obtain ⟨ad281, e281, hx281_0, hx281_1, hx281_2, hx281_3, hx281_4, hx281_5, hx281_6⟩ := at_T23 (Kd.R_reads' HO279.out).2.2 a1 p281 q281
       cases e281
       replace p281 := eq_true p281
       replace q281 := eq_true q281
       have p282 : 0 ≤ (a1 : Int) := pI
       have q282 : a1 < (t277.length : Int) := pI
       obtain ⟨ad282, e282, hx282_0, hx282_1, hx282_2, hx282_3, hx282_4, hx282_5, hx282_6⟩ := at_T23 (Kd.R_reads' HO279.out).2.2 a1 p282 q282
       obtain rfl : ad281 = ad282 := (by injection e282)
       replace p282 := eq_true p282
       replace q282 := eq_true q282
       obtain ⟨i019, hi019, _, hsz19, _⟩ := info_parts info5
       obtain ⟨A19, hcut19, hA19, hC19⟩ := print_mid_of (P := Tryd.prog) (Value.int .u8) 0 27 5 .i64 .i64 Tryd.underlying27 hi019 hsz19 A0 c0 l0 ((rd_T23 t277 a1).f3) ((rd_T23 t277 a1).f4) (pI) (by first | omega | exact pI) (pI) HC0.out
       have HR283 := aM (Kd.C_of_reads (h1 := fun _ => rfl) (hA19 _ (Kd.reads_of_C HR0.out)))
       have HC283 := aM hC19
       clear hA19 hC19 hi019 hsz19
       refine start_ (n := 15) (S := fun w' => w'.cell? (ad281.add ((a1).toNat * 7)) = some (.int .i64 ((rd_T23 t277 a1).f0)) ∧ w'.cell? ⟨(ad281.add ((a1).toNat * 7)).block, (ad281.add ((a1).toNat * 7)).off + 1, none⟩ = some (.int .i64 ((rd_T23 t277 a1).f1)) ∧ w'.cell? ⟨(ad281.add ((a1).toNat * 7)).block, (ad281.add ((a1).toNat * 7)).off + 2, none⟩ = some (.int .i64 ((rd_T23 t277 a1).f2)) ∧ w'.cell? ⟨(ad281.add ((a1).toNat * 7)).block, (ad281.add ((a1).toNat * 7)).off + 3, none⟩ = some (.int .i64 ((rd_T23 t277 a1).f3)) ∧ w'.cell? ⟨(ad281.add ((a1).toNat * 7)).block, (ad281.add ((a1).toNat * 7)).off + 4, none⟩ = some (.int .i64 ((rd_T23 t277 a1).f4)) ∧ w'.cell? ⟨(ad281.add ((a1).toNat * 7)).block, (ad281.add ((a1).toNat * 7)).off + 5, none⟩ = some (.int .i64 ((rd_T23 t277 a1).f5)) ∧ w'.cell? ⟨(ad281.add ((a1).toNat * 7)).block, (ad281.add ((a1).toNat * 7)).off + 6, none⟩ = some (.int .i64 ((rd_T23 t277 a1).f6)) ∧ w'.cell? (ad281.add ((a1).toNat * 7)) = some (.int .i64 ((rd_T23 t277 a1).f0)) ∧ w'.cell? ⟨(ad281.add ((a1).toNat * 7)).block, (ad281.add ((a1).toNat * 7)).off + 1, none⟩ = some (.int .i64 ((rd_T23 t277 a1).f1)) ∧ w'.cell? ⟨(ad281.add ((a1).toNat * 7)).block, (ad281.add ((a1).toNat * 7)).off + 2, none⟩ = some (.int .i64 ((rd_T23 t277 a1).f2)) ∧ w'.cell? ⟨(ad281.add ((a1).toNat * 7)).block, (ad281.add ((a1).toNat * 7)).off + 3, none⟩ = some (.int .i64 ((rd_T23 t277 a1).f3)) ∧ w'.cell? ⟨(ad281.add ((a1).toNat * 7)).block, (ad281.add ((a1).toNat * 7)).off + 4, none⟩ = some (.int .i64 ((rd_T23 t277 a1).f4)) ∧ w'.cell? ⟨(ad281.add ((a1).toNat * 7)).block, (ad281.add ((a1).toNat * 7)).off + 5, none⟩ = some (.int .i64 ((rd_T23 t277 a1).f5)) ∧ w'.cell? ⟨(ad281.add ((a1).toNat * 7)).block, (ad281.add ((a1).toNat * 7)).off + 6, none⟩ = some (.int .i64 ((rd_T23 t277 a1).f6))) (ds := []) (bsA 15 0) (by kernel_rfl) rfl rfl ⟨hx281_0, hx281_1, hx281_2, hx281_3, hx281_4, hx281_5, hx281_6, hx282_0, hx282_1, hx282_2, hx282_3, hx282_4, hx282_5, hx282_6⟩ (fun hHeld => ?_); refine with_tabW spec_BodyOf.tab6 spec_BodyOf.bits6 (fun HT_ HW_ => ?_)
       generalize w16.drew = w18 at HO279 BK276 HB HR283 hx281_0 hx281_1 hx281_2 hx281_3 hx281_4 hx281_5 hx281_6 hx282_0 hx282_1 hx282_2 hx282_3 hx282_4 hx282_5 hx282_6 hHeld ⊢
       refine pa_ (i := 0) (N := some 19) (bsA 15 1) (h := ?_)
       refine pa_ (i := 1) (N := some 20) (bsA 15 3) (h := ?_)
       refine pa_ (i := 2) (N := some 21) (bsA 15 7) (h := ?_)
       refine pa_ (i := 3) (N := some 22) (bsA 15 15) (h := ?_)
       refine pa_ (i := 4) (N := some 23) (bsA 15 31) (h := ?_)
       refine pa_ (i := 6) (N := some 25) (bsA 15 95) (h := ?_)
       refine pa_ (i := 7) (N := some 26) (bsA 15 223) (h := ?_)
       refine pa_ (i := 8) (N := some 27) (bsA 15 479) (h := ?_)
       refine pa_ (i := 9) (N := some 28) (bsA 15 991) (h := ?_)
       refine take_ (i := 5) (N := some 24) (v := ?_) (a' := ?_) (bsA 15 1023) rfl rfl (take_ofW HT_.out HW_.out (by kernel_rfl)) (fun _ _ _ h => h) (Or.inl ⟨by rfl, ?_⟩) hHeld ?_ ?_
       rotate_left
       ·rintro w' ⟨s0, s1, s2, s3, s4, s5, s6, s7, s8, s9, s10, s11, s12, s13⟩
        go_simp
        with_reducible rfl
       rotate_left
       ·simp only [Act.put, List.setIfInBounds_toArray, List.set_cons_zero, List.set_cons_succ, i64_w, i32_w]
        rfl
       refine take_ (i := 10) (N := some 29) (v := ?_) (a' := ?_) (bsA 15 2047) rfl rfl (take_ofW HT_.out HW_.out (by kernel_rfl)) (fun _ _ _ h => h) (Or.inl ⟨by rfl, ?_⟩) hHeld ?_ ?_
       rotate_left
       ·rintro w' ⟨s0, s1, s2, s3, s4, s5, s6, s7, s8, s9, s10, s11, s12, s13⟩
        go_simp
        with_reducible rfl
       rotate_left
       ·simp only [Act.put, List.setIfInBounds_toArray, List.set_cons_zero, List.set_cons_succ, i64_w, i32_w]
        rfl
       refine pa_ (i := 11) (N := some 30) (bsA 15 4095) (h := ?_)
       refine one_ (i := 12) (N := some 31) (bsA 15 8191) rfl rfl (one_of HT_.out (by kernel_rfl)) (by decide) (fun K hK => ?_)
       refine goes_ Tryd.func48 (by kernel_rfl) rfl #[.slice A19 ((l0.take (((rd_T23 t277 a1).f4) : Int).toNat).drop (((rd_T23 t277 a1).f3) : Int).toNat).length (c0 - ((rd_T23 t277 a1).f3).toNat)] (by rfl) rfl rfl (by (try simp only [List.map_toArray, List.map_cons, List.map_nil]); first | done | (rw [show ((l0.take (((rd_T23 t277 a1).f4) : Int).toNat).drop (((rd_T23 t277 a1).f3) : Int).toNat).length = (((rd_T23 t277 a1).f4).toNat - ((rd_T23 t277 a1).f3).toNat) from (by rw [List.length_drop, List.length_take]; have h_ : (((rd_T23 t277 a1).f4) : Int) ≤ (l0.length : Int) := pI; omega)] <;> rfl) | rfl | (simp only [List.length_drop, List.length_take]; rfl)) ?_
       with_reducible refine (spec_l1Copy.calls _ _ ((l0.take (((rd_T23 t277 a1).f4) : Int).toNat).drop (((rd_T23 t277 a1).f3) : Int).toNat) t284 _ ?side1 ?side2 A14.out).mono ?_
       (case side1 => exact zz6 HR283.out)
       (case side2 => exact HC283.out)
       rintro e w20 ⟨v285, rfl, ho0, hb⟩
       have HS0_ := (hb.cell (World.block_lt_of_cell? _ _ (hHeld.1))).trans (hHeld.1)
       have HS1_ := (hb.cell (World.block_lt_of_cell? _ _ (hHeld.2.1))).trans (hHeld.2.1)
       have HS2_ := (hb.cell (World.block_lt_of_cell? _ _ (hHeld.2.2.1))).trans (hHeld.2.2.1)
       have HS3_ := (hb.cell (World.block_lt_of_cell? _ _ (hHeld.2.2.2.1))).trans (hHeld.2.2.2.1)
       have HS4_ := (hb.cell (World.block_lt_of_cell? _ _ (hHeld.2.2.2.2.1))).trans (hHeld.2.2.2.2.1)
       have HS5_ := (hb.cell (World.block_lt_of_cell? _ _ (hHeld.2.2.2.2.2.1))).trans (hHeld.2.2.2.2.2.1)
       have HS6_ := (hb.cell (World.block_lt_of_cell? _ _ (hHeld.2.2.2.2.2.2.1))).trans (hHeld.2.2.2.2.2.2.1)
       have HS7_ := (hb.cell (World.block_lt_of_cell? _ _ (hHeld.2.2.2.2.2.2.2.1))).trans (hHeld.2.2.2.2.2.2.2.1)
       have HS8_ := (hb.cell (World.block_lt_of_cell? _ _ (hHeld.2.2.2.2.2.2.2.2.1))).trans (hHeld.2.2.2.2.2.2.2.2.1)
       have HS9_ := (hb.cell (World.block_lt_of_cell? _ _ (hHeld.2.2.2.2.2.2.2.2.2.1))).trans (hHeld.2.2.2.2.2.2.2.2.2.1)
       have HS10_ := (hb.cell (World.block_lt_of_cell? _ _ (hHeld.2.2.2.2.2.2.2.2.2.2.1))).trans (hHeld.2.2.2.2.2.2.2.2.2.2.1)
       have HS11_ := (hb.cell (World.block_lt_of_cell? _ _ (hHeld.2.2.2.2.2.2.2.2.2.2.2.1))).trans (hHeld.2.2.2.2.2.2.2.2.2.2.2.1)
       have HS12_ := (hb.cell (World.block_lt_of_cell? _ _ (hHeld.2.2.2.2.2.2.2.2.2.2.2.2.1))).trans (hHeld.2.2.2.2.2.2.2.2.2.2.2.2.1)
       have HS13_ := (hb.cell (World.block_lt_of_cell? _ _ (hHeld.2.2.2.2.2.2.2.2.2.2.2.2.2))).trans (hHeld.2.2.2.2.2.2.2.2.2.2.2.2.2)
       refine ⟨_, rfl, ?_⟩
       replace HO279 := aM (Kd.R_below (bR HO279) hb)
       have HO286 := aM (Kd.R_lower ho0 (below_size (bG GE276)))
       replace BK276 := aM (blk_below (g := gb276) (o := .cells #[.int .i64 0, .slice none 0 0] 29 (0, 0)) (bL BK276) hb)
       replace HB := aM (below_step (bG GE276) hb)
       (try clear hb)
       (try clear hb2)
       (try clear hk)
       (try clear hi)
       (try clear ho0)
       obtain ⟨Ao21, co21, eo21⟩ := Kd.R_slice HO286.out
       (first | subst eo21 | (injection eo21 with f1_ f2_ f3_; have f4_ := f1_.symm; have f5_ := f3_.symm; clear f1_ f2_ f3_; subst f4_; subst f5_))
       refine hK.out _ _ ⟨HS0_, HS1_, HS2_, HS3_, HS4_, HS5_, HS6_, HS7_, HS8_, HS9_, HS10_, HS11_, HS12_, HS13_⟩ (fun hHeld => ?_)
       clear hK K
       refine na_ (N := some 31) (h := ?_)
       refine pa_ (i := 13) (N := some 32) (bsA 15 16383) (h := ?_)
       refine one_ (i := 14) (N := none) (bsA 15 32767) rfl rfl (one_of HT_.out (by kernel_rfl)) (by decide) (fun K hK => ?_)
       have hs22 : w20.cell? ⟨gb276, 0, none⟩ = some (.int .i64 0) := (blk_cell BK276.out 0).trans rfl
       have hfs22 := blk_frozen BK276.out 0
       have hs23 : w20.cell? ⟨gb276, 1, none⟩ = some (.slice none 0 0) := (blk_cell BK276.out 1).trans rfl
       have hfs23 := blk_frozen BK276.out 1
       refine skip_ (w1 := ?_) (by rfl) rfl ?_ ?_
       rotate_left
       ·go_simp
        rfl
       refine hK.out _ _ ⟨((cell_far (p := ⟨gb276, _, none⟩) (zz0 HO279.out BK276.out) _).trans (((cell_far (p := ⟨gb276, _, none⟩) (zz0 HO279.out BK276.out) _).trans (hHeld.1)))), ((cell_far (p := ⟨gb276, _, none⟩) (zz0 HO279.out BK276.out) _).trans (((cell_far (p := ⟨gb276, _, none⟩) (zz0 HO279.out BK276.out) _).trans (hHeld.2.1)))), ((cell_far (p := ⟨gb276, _, none⟩) (zz0 HO279.out BK276.out) _).trans (((cell_far (p := ⟨gb276, _, none⟩) (zz0 HO279.out BK276.out) _).trans (hHeld.2.2.1)))), ((cell_far (p := ⟨gb276, _, none⟩) (zz0 HO279.out BK276.out) _).trans (((cell_far (p := ⟨gb276, _, none⟩) (zz0 HO279.out BK276.out) _).trans (hHeld.2.2.2.1)))), ((cell_far (p := ⟨gb276, _, none⟩) (zz0 HO279.out BK276.out) _).trans (((cell_far (p := ⟨gb276, _, none⟩) (zz0 HO279.out BK276.out) _).trans (hHeld.2.2.2.2.1)))), ((cell_far (p := ⟨gb276, _, none⟩) (zz0 HO279.out BK276.out) _).trans (((cell_far (p := ⟨gb276, _, none⟩) (zz0 HO279.out BK276.out) _).trans (hHeld.2.2.2.2.2.1)))), ((cell_far (p := ⟨gb276, _, none⟩) (zz0 HO279.out BK276.out) _).trans (((cell_far (p := ⟨gb276, _, none⟩) (zz0 HO279.out BK276.out) _).trans (hHeld.2.2.2.2.2.2.1)))), ((cell_far (p := ⟨gb276, _, none⟩) (zz0 HO279.out BK276.out) _).trans (((cell_far (p := ⟨gb276, _, none⟩) (zz0 HO279.out BK276.out) _).trans (hHeld.2.2.2.2.2.2.2.1)))), ((cell_far (p := ⟨gb276, _, none⟩) (zz0 HO279.out BK276.out) _).trans (((cell_far (p := ⟨gb276, _, none⟩) (zz0 HO279.out BK276.out) _).trans (hHeld.2.2.2.2.2.2.2.2.1)))), ((cell_far (p := ⟨gb276, _, none⟩) (zz0 HO279.out BK276.out) _).trans (((cell_far (p := ⟨gb276, _, none⟩) (zz0 HO279.out BK276.out) _).trans (hHeld.2.2.2.2.2.2.2.2.2.1)))), ((cell_far (p := ⟨gb276, _, none⟩) (zz0 HO279.out BK276.out) _).trans (((cell_far (p := ⟨gb276, _, none⟩) (zz0 HO279.out BK276.out) _).trans (hHeld.2.2.2.2.2.2.2.2.2.2.1)))), ((cell_far (p := ⟨gb276, _, none⟩) (zz0 HO279.out BK276.out) _).trans (((cell_far (p := ⟨gb276, _, none⟩) (zz0 HO279.out BK276.out) _).trans (hHeld.2.2.2.2.2.2.2.2.2.2.2.1)))), ((cell_far (p := ⟨gb276, _, none⟩) (zz0 HO279.out BK276.out) _).trans (((cell_far (p := ⟨gb276, _, none⟩) (zz0 HO279.out BK276.out) _).trans (hHeld.2.2.2.2.2.2.2.2.2.2.2.2.1)))), ((cell_far (p := ⟨gb276, _, none⟩) (zz0 HO279.out BK276.out) _).trans (((cell_far (p := ⟨gb276, _, none⟩) (zz0 HO279.out BK276.out) _).trans (hHeld.2.2.2.2.2.2.2.2.2.2.2.2.2))))⟩ (fun hHeld => ?_)
       clear hK K
       refine done_ (done_of HT_.out (by kernel_rfl)) ?_
       try go_wp2
       refine bodyPost_ret (results_cell_row rfl _ _ gb276 29 #[.int .i64 0, .slice Ao21 t284.length co21] (0, 0) _ rfl (by (with_reducible repeat (first | refine blk_drewN ?_ _ | refine blk_drew ?_ | refine blk_alloc ?_ _)); refine blk_put (cs := #[.int .i64 0, .slice none 0 0]) ?_ 1 _ rfl; (with_reducible repeat (first | refine blk_drewN ?_ _ | refine blk_drew ?_ | refine blk_alloc ?_ _)); refine blk_put (cs := #[.int .i64 0, .slice none 0 0]) ?_ 0 _ rfl; (with_reducible repeat (first | refine blk_drewN ?_ _ | refine blk_drew ?_ | refine blk_alloc ?_ _)); exact BK276.out) Tryd.underlying29 rfl (by kernel_rfl)) rfl ?_
       exact ⟨_, bE, by (with_reducible repeat (first | apply Kd.R_alloc | apply Kd.R_drewN | apply Kd.R_drew)); exact Kd.R_mono (Kd.R_far (p := ⟨gb276, 1, none⟩) (Kd.R_far (p := ⟨gb276, 0, none⟩) (Kd.R_types HO286.out BK276.out (by decide)) (fun _ hk => hk.2) (.int .i64 0)) (fun _ hk => hk.2) (.slice Ao21 t284.length co21)) (fun _ hk => trivial), bG GE276⟩
      rw [if_neg c13] at H
      exact absurd H (by simp)
     rw [if_neg c12] at H
     exact absurd H (by simp)
    rw [if_neg c11] at H
    exact absurd H (by simp)
   rw [if_neg c10] at H
   exact absurd H (by simp)
  rw [if_neg c9] at H
  exact absurd H (by simp)
 replace c8 := Bool.eq_false_iff.mpr c8
 subst c8
 have H1 : (some (3, ([] : List Int))) = some (r1, r2) := zz15
 clear H
 have H := H1
 clear H1
 simp only [Option.some.injEq, Prod.mk.injEq] at H
 obtain ⟨rfl, rfl⟩ := H
 go_wp2_with (first | ((with_reducible refine gate_dst (N := 4) rfl ?_); refine box_event ?hg (N := 4) ?hd (cs := #[.int .i64 0, .slice none 0 0]) (t := 29) ?hr ?_; (case hd => rfl); (case hg => rfl); (case hr => exact zz13); intro gb276 hg w24 hbox hb; have BK276 := aM (hbox); have GW276 := aM ((zz21 : w.heap.size ≤ gb276)); have GE276 := aM ((zz21 : w.heap.size ≤ gb276)); replace HB := aM (below_step bB hb); clear hb hbox hg) | ((with_reducible refine gate_callee (f := 46) rfl ?_); refine gL_ (some 11) Tryd.func46 #[.slice A0 l0.length c0] ?_; (with_reducible refine (spec_l5Parse.calls k _ _ l0 t277 _ ?side1 ?side2 A6.out).mono ?_); (case side1 => exact zz6 HR0.out); (case side2 => exact HC0.out); rintro e w25 ⟨v278, rfl, ho0, hb⟩; refine ⟨_, rfl, ?_⟩; have HO279 := aM (Kd.R_lower ho0 (below_size (bG GE276))); replace BK276 := aM (blk_below (g := gb276) (o := .cells #[.int .i64 0, .slice none 0 0] 29 (0, 0)) (bL BK276) hb); replace HB := aM (below_step (bG GE276) hb); (try clear ho0); obtain ⟨Ao26, co26, eo26⟩ := Kd.R_slice HO279.out; subst eo26) | ((with_reducible refine gate_callee (f := 47) rfl ?_); refine gL_ (some 16) Tryd.func47 #[.int .i64 a1, .int .i64 0, .int .i64 (wrap64 ((t277.length : Int) - 1))] ?_; (with_reducible refine (spec_l1In.calls a1 0 (wrap64 ((t277.length : Int) - 1)) false _ A7.out).mono ?_); rintro e w' ⟨rfl, ⟨nd, rfl⟩⟩; refine ⟨_, rfl, ?_⟩; (try (rw [drewN_self w25]; generalize hq_ : World.drewN w25 _ = w25; have n0_ : Aside0 (Kd.R k23 23 w25 w.heap.size (fun _ => True) (.slice Ao26 t277.length co26) t277) := ⟨by rw [← hq_]; exact (bR HO279)⟩; have n1_ : Aside0 (w25.heap[gb276]? = some (.cells #[.int .i64 0, .slice none 0 0] 29 (0, 0))) := ⟨by rw [← hq_]; exact (bL BK276)⟩; have n2_ : Aside0 (Below w.heap.size w w25) := ⟨by rw [← hq_]; exact (bG GE276)⟩; clear HO279 BK276 HB hq_; have HO279 := n0_; have BK276 := n1_; have HB := n2_; clear n0_ n1_ n2_)); have hcz27_0 : w25.cell? ⟨gb276, 0, none⟩ = some (.int .i64 0) := (blk_cell BK276.out 0).trans rfl; have hcz27_1 : w25.cell? ⟨gb276, 1, none⟩ = some (.slice none 0 0) := (blk_cell BK276.out 1).trans rfl; have hfz27_0 := blk_frozen BK276.out 0; have hfz27_1 := blk_frozen BK276.out 1))
 refine bodyPost_ret (results_cell_row rfl _ _ gb276 29 #[.int .i64 3, .slice none 0 0] (0, 0) _ rfl (by (with_reducible repeat (first | refine blk_drewN ?_ _ | refine blk_drew ?_ | refine blk_alloc ?_ _)); refine blk_put (cs := #[.int .i64 3, .slice none 0 0]) ?_ 1 _ rfl; (with_reducible repeat (first | refine blk_drewN ?_ _ | refine blk_drew ?_ | refine blk_alloc ?_ _)); refine blk_put (cs := #[.int .i64 0, .slice none 0 0]) ?_ 0 _ rfl; (with_reducible repeat (first | refine blk_drewN ?_ _ | refine blk_drew ?_ | refine blk_alloc ?_ _)); exact BK276.out) Tryd.underlying29 rfl (by kernel_rfl)) rfl ?_
 exact ⟨_, bE, zz23, bG GE276⟩
def laws_toByteS.l0 : Nat → List Int → List Int → Int → Option (List Int)
 | 0, _, _, _ => none
 | k + 1, x0, x3, x4 => if x4 < (x0.length : Int) then (if 0 ≤ x4 then (if x4 < (x3.length : Int) then (laws_toByteS.l0 k x0 (x3.set (x4 : Int).toNat (rd x0 x4)) (wrap64 (x4 + 1))) else (none)) else (none)) else (some x3)
def laws_toByteS.f (k : Nat) (l0 : List Int) : Option (List Int) := if 0 ≤ (l0.length : Int) then (if ((l0.length : Int) : Int).toNat ≤ 281474976710656 then (laws_toByteS.l0 k l0 (List.replicate ((l0.length : Int) : Int).toNat 0) 0) else (none)) else (none)
set_option maxHeartbeats 8000000 in
set_option maxRecDepth 100000 in
theorem laws_toByteS.calls (k : Nat) (A0 : Option Addr) (c0 : Nat) (l0 : List Int) (r : List Int) (w : World) (hr0 : Kd.C (Kd.int .u8) w A0 l0.length l0) (hc0 : l0.length ≤ c0) (h : laws_toByteS.f k l0 = some r) :
  Calls Tryd.prog 13 #[.slice A0 l0.length c0] w fun e w' => ∃ v0_ : Value, e = .returned (v0_) ∧ Kd.R (Kd.int .u8) 5 w' w.heap.size (fun _ => True) v0_ r ∧ Below w.heap.size w w' := by
 have HR0 := aM hr0
 have HC0 := aM hc0
 clear hr0 hc0
 have HB := aM (Below.refl w.heap.size w)
 have H : (if 0 ≤ (l0.length : Int) then (if ((l0.length : Int) : Int).toNat ≤ 281474976710656 then (laws_toByteS.l0 k l0 (List.replicate ((l0.length : Int) : Int).toNat 0) 0) else (none)) else (none)) = some r := h
 clear h
 by_cases c2 : 0 ≤ (l0.length : Int)
 ·rw [if_pos c2] at H
  have c2b0 := eq_true c2
  have c2b1 : decide (0 ≤ (l0.length : Int)) = true := decide_eq_true c2
  (try have c2z := eq_true (show (0 : Int) ≤ (c0 : Int) from (by have h_ := HC0.out; omega)))
  clear c2
  by_cases c3 : ((l0.length : Int) : Int).toNat ≤ 281474976710656
  ·rw [if_pos c3] at H
   have c3b0 := eq_true c3
   have c3b1 : decide (((l0.length : Int) : Int).toNat ≤ 281474976710656) = true := decide_eq_true c3
   clear c3
   obtain ⟨y287, hy287⟩ : ∃ y_ : List Int, y_ = (List.replicate ((l0.length : Int) : Int).toNat 0) := ⟨_, rfl⟩
   replace H : (laws_toByteS.l0 k l0 y287 0) = some r := zz3 hy287
   have Ny287 := aM hy287
   clear hy287
   have H' := aM H
   clear H
   go_enter Tryd.func13, Tryd.ntmps13
   go_wp2_with (first | ((with_reducible refine gate_dst (N := 7) rfl ?_); refine Kd.R_make (Kd.int .u8) _ 5 rfl (N := 7) rfl 27 _ _ rfl (l0.length : Int) rfl rfl Tryd.underlying27 (.int .u8 0) 1 info5 rfl (by decide) (by omega) 0 (ok := fun _ => True) (okp := fun _ => True) rfl (fun _ hk => hk) trivial (pI) (Nat.le_trans (Nat.mul_le_mul_right _ (pI : (l0.length : Int).toNat ≤ 281474976710656)) (by omega)) (Below.refl _ _) (Nat.le_refl _) ?_; intro v288 w4 ho5 hb hg_ hnew_; clear hg_ hnew_; (first | rw [← Ny287.out] at ho5 | (simp only [Int.reduceToNat] at ho5; rw [← Ny287.out] at ho5)); have HO289 := aM (Kd.R_lower ho5 (below_size bB)); replace HB := aM (below_step bB hb); clear hb ho5))
   go_loopg [4] k (fun kq v4 w' => ∃ (x3_1 : List Int) (x4_1 : Int), v4 = .int .i64 x4_1 ∧ Aside0 (laws_toByteS.l0 kq l0 x3_1 x4_1 = some r) ∧ Aside0 (kq ≤ k) ∧ Aside0 (Kd.R (Kd.int .u8) 5 w' w.heap.size (fun _ => True) v288 x3_1) ∧ Aside0 (Below w.heap.size w w'))
   case atStart => exact ⟨(y287), (0), bS, H', ⟨Nat.le_refl _⟩, ⟨bR HO289⟩, ⟨bB⟩⟩
   case round =>
    clear H'
    try clear c1
    try clear c2
    try clear c2b0
    try clear c2b1
    try clear p2
    try clear c3
    try clear c3b0
    try clear c3b1
    obtain ⟨x3_1, x4_1, rfl, HA, HK1, HO_3, HB⟩ := hrel
    cases gk with
    | zero => exact absurd HA.out (by simp [laws_toByteS.l0])
    | succ k1 =>
     have H := HA.out
     clear HA
     simp only [laws_toByteS.l0] at H
     by_cases c6 : x4_1 < (l0.length : Int)
     ·rw [if_pos c6] at H
      have c6b0 : decide (x4_1 < (l0.length : Int)) = true := decide_eq_true c6
      clear c6
      by_cases c7 : 0 ≤ x4_1
      ·rw [if_pos c7] at H
       have c7b0 : decide (0 ≤ x4_1) = true := decide_eq_true c7
       clear c7
       by_cases c8 : x4_1 < (x3_1.length : Int)
       ·rw [if_pos c8] at H
        have c8b0 : decide (x4_1 < (x3_1.length : Int)) = true := decide_eq_true c8
        clear c8
        obtain ⟨y291, hy291⟩ : ∃ y_ : List Int, y_ = (x3_1.set (x4_1 : Int).toNat (rd l0 x4_1)) := ⟨_, rfl⟩
        replace H : (laws_toByteS.l0 k1 l0 y291 (wrap64 (x4_1 + 1))) = some r := zz3 hy291
        have Ny291 := aM hy291
        clear hy291
        have H' := aM H
        clear H
        have p290 : 0 ≤ (x4_1 : Int) := pI
        have q290 : x4_1 < (l0.length : Int) := pI
        obtain ⟨ad290, e290, hx290_0⟩ := Kd.at_int HR0.out x4_1 p290 q290
        cases e290
        replace hx290_0 := (HB.out.cell (World.block_lt_of_cell? w _ hx290_0)).trans hx290_0
        replace p290 := eq_true p290
        replace q290 := eq_true q290
        have p9 : 0 ≤ (x4_1 : Int) := pI
        have q9 : (x4_1 : Int) < ((x3_1.length : Int) : Int) := pI
        obtain ⟨go9, co9, eo9, gb9, gl9, cl9, HG9⟩ := Kd.R_form HO_3.out (by omega)
        (first | cases eo9 | (injection eo9 with ea_ en_ ec_; (first | subst ea_ | (injection ea_ with ea_; subst ea_)); subst ec_; clear en_))
        have GB9 := aM gb9
        have GG9 := aM HG9
        clear gb9 gl9 HG9
        obtain ⟨hx9_0, hf9_0⟩ := Kd.R_celln 0 HO_3.out (x4_1 : Int) p9 q9
        replace p9 := eq_true p9
        replace q9 := eq_true q9
        have HP10 := Kd.R_putg HO_3.out (x4_1 : Int) (rd l0 x4_1)
        go_wp2_with (first | ((with_reducible refine gate_store (t := 5) (p := 20) rfl ?_); refine store_event (t := 5) (p := 20) (v := ?vo_w11) (w1 := (wr.setCell ⟨go9, (x4_1 : Int).toNat, none⟩ (.int .u8 (rd l0 x4_1)))) ?hg ?ho ?hn ?hr ?_; (case ho => rfl); (case hg => rfl); (case hn => rfl); (case hr => exact zz13); intro w11 hw; have hg : wr.grownBy w11 (some go9) := (by rw [hw]; exact HP10.2); have hp_ : Kd.R (Kd.int .u8) 5 w11 w.heap.size (fun _ => True) (.slice (some ⟨go9, 0, none⟩) x3_1.length co9) y291 := (by rw [hw, Ny291.out]; exact HP10.1); clear HP10; replace HO_3 := aM (hp_); replace HB := aM ((zz60 GB9.out : Below w.heap.size w w11)); clear hg hw hp_))
        go_roundg k1
        case measure => have := HK1.out; omega
        case rel => exact ⟨(y291), (wrap64 (x4_1 + 1)), bS, H', ⟨by have := HK1.out; omega⟩, ⟨bR HO_3⟩, ⟨bB⟩⟩
       rw [if_neg c8] at H
       exact absurd H (by simp)
      rw [if_neg c7] at H
      exact absurd H (by simp)
     rw [if_neg c6] at H
     have c6b0 : decide (x4_1 < (l0.length : Int)) = false := decide_eq_false c6
     clear c6
     obtain rfl := Option.some.inj H
     go_wp2
     go_ret
     exact ⟨_, bE, bR HO_3, bB⟩
  rw [if_neg c3] at H
  exact absurd H (by simp)
 rw [if_neg c2] at H
 exact absurd H (by simp)
def impl_pieces_1.f (a0 : Int) : Option (Bool) := some (a0 == 59)
set_option maxHeartbeats 8000000 in
set_option maxRecDepth 100000 in
theorem impl_pieces_1.calls (a0 : Int) (r : Bool) (w : World) (h : impl_pieces_1.f a0 = some r) :
  Calls Tryd.prog 78 #[.int .i32 a0] w fun e w' => e = .returned (.bool r) ∧ Drawn0 w w' := by
 have H : (some (a0 == 59)) = some r := h
 clear h
 obtain rfl := Option.some.inj H
 go_enter Tryd.func78, Tryd.ntmps78
 go_wp2
 go_ret
 exact ⟨bS, zz7⟩
end Go.Proofs.YtecpanfndodjgaaDoor.PBodyOf
