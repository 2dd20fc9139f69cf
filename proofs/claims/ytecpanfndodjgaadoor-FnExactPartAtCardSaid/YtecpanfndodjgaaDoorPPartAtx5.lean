/- Part of the proof; words that it uses. -/
import Derived.Test.YtecpanfndodjgaaDoorPPartAtx0
import Derived.Test.YtecpanfndodjgaaDoorPPartAtx1
import Derived.Test.YtecpanfndodjgaaDoorPPartAtx2
import Derived.Test.YtecpanfndodjgaaDoorPPartAtx4
namespace Go.Proofs.YtecpanfndodjgaaDoor.PPartAt
open Go.RowKit Go.Proofs.YtecpanfndodjgaaDoorW.PrintWords Go.Proofs.YtecpanfndodjgaaDoorW.PrintLast Go.Proofs.YtecpanfndodjgaaDoorW.PrintMore
attribute [local go_sem] max2_int max_two
set_option linter.unusedVariables false
set_option linter.unusedSimpArgs false
mutual
def spec_l5Spans.l0 : Nat → List Int → Int → ByteArray → List (S127) → Int → Int → Option ((List (S127)))
 | 0, _, _, _, _, _, _ => none
 | k + 1, x0, x2, x3, x9, x10, x11 => if x11 < x2 then (if 0 ≤ x2 then (if x2 ≤ (x0.length : Int) then ((spec_l4End.f k (x0.take (x2 : Int).toNat) x11).bind fun t246 => ((spec_l5Line.f x0 x11 t246 x3).bind fun t247 => (if t247 > 0 then (spec_l5Spans.j1 k x0 x2 x3 x9 x10 x11 t246 t247 (decide (x10 ≥ 0))) else (spec_l5Spans.j1 k x0 x2 x3 x9 x10 x11 t246 t247 false)))) else (none)) else (none)) else (if x10 ≥ 0 then (if x9.length < 8796093022208 then (some (x9 ++ [(⟨x10, x2⟩ : S127)])) else (none)) else (some x9))
def spec_l5Spans.j1 : Nat → List Int → Int → ByteArray → List (S127) → Int → Int → Int → Int → Bool → Option ((List (S127)))
 | 0, _, _, _, _, _, _, _, _, _ => none
 | k + 1, x0, x2, x3, x9, x10, x11, x12, x13, x34 => if x34 = true then ((spec_l1Max.f x10 (wrap64 (x11 - 1))).bind fun t248 => (if x9.length < 8796093022208 then (spec_l5Spans.j2 k x0 x2 x3 (x9 ++ [(⟨x10, t248⟩ : S127)]) x10 x12 x13) else (none))) else (spec_l5Spans.j2 k x0 x2 x3 x9 x10 x12 x13)
def spec_l5Spans.j2 : Nat → List Int → Int → ByteArray → List (S127) → Int → Int → Int → Option ((List (S127)))
 | 0, _, _, _, _, _, _, _ => none
 | k + 1, x0, x2, x3, x9, x10, x12, x13 => if x13 = 2 then (some x9) else (if x13 = 1 then ((spec_l1Min.f (wrap64 (x12 + 1)) x2).bind fun t252 => (spec_l5Spans.l0 k x0 x2 x3 x9 t252 (wrap64 (x12 + 1)))) else (spec_l5Spans.l0 k x0 x2 x3 x9 x10 (wrap64 (x12 + 1))))
end
def spec_l5Spans.f (k : Nat) (l0 : List Int) (a1 : Int) (a2 : Int) (a3 : ByteArray) : Option ((List (S127))) := spec_l5Spans.l0 k l0 a2 a3 (([] : List (S127))) (-1) a1
set_option maxHeartbeats 8000000 in
set_option maxRecDepth 100000 in
theorem spec_l5Spans.calls (k : Nat) (A0 : Option Addr) (c0 : Nat) (l0 : List Int) (a1 : Int) (a2 : Int) (a3 : ByteArray) (r : List (S127)) (w : World) (hr0 : Kd.C (Kd.int .u8) w A0 l0.length l0) (hc0 : l0.length ≤ c0) (h : spec_l5Spans.f k l0 a1 a2 a3 = some r) :
  Calls Tryd.prog 107 #[.slice A0 l0.length c0, .int .i64 a1, .int .i64 a2, .string a3] w fun e w' => ∃ v0_ : Value, e = .returned (v0_) ∧ Kd.R k127 127 w' w.heap.size (fun _ => True) v0_ r ∧ Below w.heap.size w w' := by
 have hu127 := Tryd.underlying127
 have HR0 := aM hr0
 have HC0 := aM hc0
 clear hr0 hc0
 have HB := aM (Below.refl w.heap.size w)
 have H : (spec_l5Spans.l0 k l0 a2 a3 (([] : List (S127))) (-1) a1) = some r := h
 clear h
 obtain ⟨y239, hy239⟩ : ∃ y_ : List (S127), y_ = (([] : List (S127))) := ⟨_, rfl⟩
 replace H : (spec_l5Spans.l0 k l0 a2 a3 y239 (-1) a1) = some r := zz2 hy239
 have Ny239 := aM hy239
 clear hy239
 have H' := aM H
 clear H
 go_enter Tryd.func107, Tryd.ntmps107
 go_wp2_with (first | ((with_reducible refine gate_dst (N := 14) rfl ?_); refine Kd.R_lit k127 _ 127 ?hg (N := 14) ?hd (xs := ([] : List (S127))) (inner := []) (ok := fun _ => True) (okp := fun _ => True) ?hr ?hp (fun _ hk => hk) trivial (Below.refl _ _) (Nat.le_refl _) (by simp) ?_; (case hd => rfl); (case hg => rfl); (case hr => exact zz13); (case hp => exact (Reps.none _ _)); intro v240 w5 ho6 hb hg_ hnew_; clear hg_ hnew_; (first | rw [← Ny239.out] at ho6 | (simp only [Int.reduceToNat] at ho6; rw [← Ny239.out] at ho6)); have HO241 := aM (Kd.R_lower ho6 (below_size bB)); replace HB := aM (below_step bB hb); clear hb ho6))
 go_loopg [9, 10, 11] k (fun kq v9 v10 v11 w' => ∃ (x9_1 : List (S127)) (x10_1 : Int) (x11_1 : Int), v10 = .int .i64 x10_1 ∧ v11 = .int .i64 x11_1 ∧ Aside0 (spec_l5Spans.l0 kq l0 a2 a3 x9_1 x10_1 x11_1 = some r) ∧ Aside0 (kq ≤ k) ∧ Aside0 (Kd.R k127 127 w' w.heap.size (fun _ => True) v9 x9_1) ∧ Aside0 (Below w.heap.size w w'))
 case atStart => exact ⟨(y239), ((-1)), (a1), bS, bS, H', ⟨Nat.le_refl _⟩, ⟨bR HO241⟩, ⟨bB⟩⟩
 case round =>
  clear H'
  try clear c1
  try clear p2
  obtain ⟨x9_1, x10_1, x11_1, rfl, rfl, HA, HK1, HO_9, HB⟩ := hrel
  cases gk with
  | zero => exact absurd HA.out (by simp [spec_l5Spans.l0])
  | succ k1 =>
   have H := HA.out
   clear HA
   simp only [spec_l5Spans.l0] at H
   by_cases c7 : x11_1 < a2
   ·rw [if_pos c7] at H
    have c7b0 : decide (x11_1 < a2) = true := decide_eq_true c7
    clear c7
    by_cases c8 : 0 ≤ a2
    ·rw [if_pos c8] at H
     have c8b0 := eq_true c8
     have c8b1 : decide (0 ≤ a2) = true := decide_eq_true c8
     clear c8
     by_cases c9 : a2 ≤ (l0.length : Int)
     ·rw [if_pos c9] at H
      have c9b0 := eq_true c9
      have c9b1 : decide (a2 ≤ (l0.length : Int)) = true := decide_eq_true c9
      (try have c9z := eq_true (show (a2 : Int) ≤ (c0 : Int) from (by have h_ := HC0.out; omega)))
      clear c9
      replace H := Option.bind_eq_some_iff.mp H
      obtain ⟨t246, A100, H⟩ := H
      replace H : ((spec_l5Line.f l0 x11_1 t246 a3).bind fun t247 => (if t247 > 0 then (spec_l5Spans.j1 k1 l0 a2 a3 x9_1 x10_1 x11_1 t246 t247 (decide (x10_1 ≥ 0))) else (spec_l5Spans.j1 k1 l0 a2 a3 x9_1 x10_1 x11_1 t246 t247 false))) = some r := H
      have A10 := aM A100
      clear A100
      replace H := Option.bind_eq_some_iff.mp H
      obtain ⟨t247, A110, H⟩ := H
      replace H : (if t247 > 0 then (spec_l5Spans.j1 k1 l0 a2 a3 x9_1 x10_1 x11_1 t246 t247 (decide (x10_1 ≥ 0))) else (spec_l5Spans.j1 k1 l0 a2 a3 x9_1 x10_1 x11_1 t246 t247 false)) = some r := H
      have A11 := aM A110
      clear A110
      have HC12 := aM H
      clear H
      obtain ⟨i013, hi013, _, hsz13, _⟩ := info_parts info5
      obtain ⟨hcut13, hA13, hC13⟩ := print_take_of (P := Tryd.prog) (Value.int .u8) 0 27 5 .i64 Tryd.underlying27 hi013 hsz13 A0 c0 l0 a2 (pI) (pI) HC0.out
      have HR245 := aM (Kd.C_of_reads (h1 := fun _ => rfl) (hA13 _ (Kd.reads_of_C HR0.out)))
      have HC245 := aM hC13
      clear hA13 hC13 hi013 hsz13
      go_upto_region 7 with (first | ((with_reducible refine gate_callee (f := 128) rfl ?_); refine goesL_ (some 23) rfl rfl Tryd.func128 (by kernel_rfl) rfl #[.slice A0 (l0.take (a2 : Int).toNat).length c0, .int .i64 x11_1] rfl (by (try simp only [List.map_toArray, List.map_cons, List.map_nil]); first | done | (rw [show (l0.take (a2 : Int).toNat).length = a2.toNat from (by rw [List.length_take]; have h_ : (a2 : Int) ≤ (l0.length : Int) := pI; omega)] <;> rfl) | rfl | (simp only [List.length_drop, List.length_take]; rfl)) ?_; (with_reducible refine (spec_l4End.calls k1 _ _ (l0.take (a2 : Int).toNat) x11_1 t246 _ ?side1 ?side2 A10.out).mono ?_); (case side1 => exact zz6 HR245.out); (case side2 => exact HC245.out); rintro e w' ⟨rfl, ⟨nd, rfl⟩⟩; refine ⟨_, rfl, ?_⟩) | ((with_reducible refine gate_callee (f := 129) rfl ?_); refine gL_ (some 28) Tryd.func129 #[.slice A0 l0.length c0, .int .i64 x11_1, .int .i64 t246, .string a3] ?_; (with_reducible refine (spec_l5Line.calls _ _ l0 x11_1 t246 a3 t247 _ ?side1 ?side2 A11.out).mono ?_); (case side1 => repeat (first | exact (Kd.C_below HR0.out bB) | (with_reducible refine Kd.C_alloc ?_ _) | (with_reducible refine Kd.C_drewN ?_ _) | (with_reducible refine Kd.C_drew ?_))); (case side2 => exact HC0.out); rintro e w' ⟨rfl, ⟨nd, rfl⟩⟩; refine ⟨_, rfl, ?_⟩))
      (try simp only [Act.put, List.setIfInBounds_toArray, List.set_cons_zero, List.set_cons_succ])
      go_cut [34] (fun v34 wc => ∃ (kq : Nat) (x34_11 : Bool), v34 = .bool x34_11 ∧ Aside0 (spec_l5Spans.j1 kq l0 a2 a3 x9_1 x10_1 x11_1 t246 t247 x34_11 = some r) ∧ Aside0 (kq ≤ k1) ∧ Aside0 (Kd.R k127 127 wc w.heap.size (fun _ => True) u9 x9_1) ∧ Aside0 (Below w.heap.size w wc))
      case first =>
       have H := HC12.out
       clear HC12
       by_cases c14 : t247 > 0
       ·rw [if_pos c14] at H
        have c14b0 : decide (0 < t247) = true := decide_eq_true c14
        clear c14
        (first | rw [c14b0] | (simp only [i64_w, i32_w]; rw [c14b0]) | skip)
        have H' := aM H
        clear H
        go_wp2
        go_meet
        case rel => exact ⟨_, (decide (x10_1 ≥ 0)), bS, H', ⟨zz45 HK1.out⟩, ⟨bR HO_9⟩, ⟨bB⟩⟩
       rw [if_neg c14] at H
       have c14b0 : decide (0 < t247) = false := decide_eq_false c14
       clear c14
       (first | rw [c14b0] | (simp only [i64_w, i32_w]; rw [c14b0]) | skip)
       have H' := aM H
       clear H
       go_wp2
       go_meet
       case rel => exact ⟨_, (false), bS, H', ⟨zz45 HK1.out⟩, ⟨bR HO_9⟩, ⟨bB⟩⟩
      case rest =>
       clear HC12
       try clear c1
       try clear p2
       try clear c7
       try clear c7b0
       try clear c8
       try clear c8b0
       try clear c8b1
       try clear c9
       try clear c9b0
       try clear c9b1
       try clear c10
       try clear c12
       try clear c14
       try clear c14b0
       try clear p2
       obtain ⟨kq, x34_11, rfl, HA, HJ11, HO_9, HB⟩ := hcut
       cases kq with
       | zero => exact absurd HA.out (by simp [spec_l5Spans.j1])
       | succ kj11 =>
        have H := HA.out
        clear HA
        simp only [spec_l5Spans.j1] at H
        have HC15 := aM H
        clear H
        go_upto_if 34 with (fail)
        go_cut [9] (fun v9 wc => ∃ (kq : Nat) (x9_14 : List (S127)), Aside0 (spec_l5Spans.j2 kq l0 a2 a3 x9_14 x10_1 t246 t247 = some r) ∧ Aside0 (kq ≤ kj11) ∧ Aside0 (Kd.R k127 127 wc w.heap.size (fun _ => True) v9 x9_14) ∧ Aside0 (Below w.heap.size w wc))
        case first =>
         have H := HC15.out
         clear HC15
         by_cases c16 : x34_11 = true
         ·subst c16
          have H1 : ((spec_l1Max.f x10_1 (wrap64 (x11_1 - 1))).bind fun t248 => (if x9_1.length < 8796093022208 then (spec_l5Spans.j2 kj11 l0 a2 a3 (x9_1 ++ [(⟨x10_1, t248⟩ : S127)]) x10_1 t246 t247) else (none))) = some r := zz29
          clear H
          have H := H1
          clear H1
          replace H := Option.bind_eq_some_iff.mp H
          obtain ⟨t248, A170, H⟩ := H
          replace H : (if x9_1.length < 8796093022208 then (spec_l5Spans.j2 kj11 l0 a2 a3 (x9_1 ++ [(⟨x10_1, t248⟩ : S127)]) x10_1 t246 t247) else (none)) = some r := H
          have A17 := aM A170
          clear A170
          by_cases c18 : x9_1.length < 8796093022208
          ·rw [if_pos c18] at H
           have LMc18 := aM c18
           clear c18
           obtain ⟨y249, hy249⟩ : ∃ y_ : List (S127), y_ = (x9_1 ++ [(⟨x10_1, t248⟩ : S127)]) := ⟨_, rfl⟩
           replace H : (spec_l5Spans.j2 kj11 l0 a2 a3 y249 x10_1 t246 t247) = some r := zz2 hy249
           have Ny249 := aM hy249
           clear hy249
           have H' := aM H
           clear H
           go_wp2_with (first | ((with_reducible refine gate_callee (f := 130) rfl ?_); refine gL_ (some 40) Tryd.func130 #[.int .i64 x10_1, .int .i64 (wrap64 (x11_1 - 1))] ?_; (with_reducible refine (spec_l1Max.calls x10_1 (wrap64 (x11_1 - 1)) t248 _ A17.out).mono ?_); rintro e w' ⟨rfl, ⟨nd, rfl⟩⟩; refine ⟨_, rfl, ?_⟩) | ((with_reducible refine gate_builtin (b := .append) (xs := #[.tmp 35, .tmp 42]) rfl ?_); at_builtin; refine Kd.R_append k127 (w0 := w) w.heap.size rfl (.tmp 35) (.tmp 42) 124 127 (.agg #[(.int .i64 0), (.int .i64 0)]) 16 rfl Tryd.underlying124 info127 rfl (by decide) (by omega) u9 x9_1 (⟨x10_1, t248⟩ : S127) [.int .i64 x10_1, .int .i64 t248] (fun _ => True) (fun _ => False) rfl rfl ?aP (fun _ hk => hk.elim) ?aF ?aO ?aB ?aS ?aL ?_; (case aP => exact k127_mkM _ _ _ (⟨x10_1, t248⟩ : S127)); (case aB => exact bB); (case aF => exact (fun _ _ => trivial)); (case aO => exact (bR HO_9)); (case aS => exact (below_size bB)); (case aL => have := LMc18.out; omega); intro v250 w19 ho hb hg hat; rw [← Ny249.out] at ho; have n0_ := aM (hb); have n1_ := aM (ho); clear HB; clear HO_9; have HB := n0_; have HO251 := n1_; clear n0_ n1_; clear ho hb hg hat))
           go_meet
           case rel => exact ⟨_, (y249), H', ⟨zz54 HK1.out HJ11.out⟩, ⟨bR HO251⟩, ⟨bB⟩⟩
          rw [if_neg c18] at H
          exact absurd H (by simp)
         replace c16 := Bool.eq_false_iff.mpr c16
         subst c16
         have H1 : (spec_l5Spans.j2 kj11 l0 a2 a3 x9_1 x10_1 t246 t247) = some r := zz15
         clear H
         have H := H1
         clear H1
         have H' := aM H
         clear H
         go_wp2
         go_meet
         case rel => exact ⟨_, (x9_1), H', ⟨zz54 HK1.out HJ11.out⟩, ⟨bR HO_9⟩, ⟨bB⟩⟩
        case rest =>
         clear HC15
         try clear c1
         try clear p2
         try clear p6
         try clear c7
         try clear c7b0
         try clear c8
         try clear c8b0
         try clear c8b1
         try clear c9
         try clear c9b0
         try clear c9b1
         try clear c10
         try clear c12
         try clear c13
         try clear c14
         try clear c14b0
         try clear c16
         try clear c18
         try clear p2
         obtain ⟨kq, x9_14, HA, HJ14, HO_9, HB⟩ := hcut
         cases kq with
         | zero => exact absurd HA.out (by simp [spec_l5Spans.j2])
         | succ kj14 =>
          have H := HA.out
          clear HA
          simp only [spec_l5Spans.j2] at H
          by_cases c20 : t247 = 2
          ·rw [if_pos c20] at H
           have c20b0 : (t247 == 2) = true := beq_iff_eq.mpr c20
           have c20b1 : (t247 != 2) = false := bne_eq_false_iff_eq.mpr c20
           clear c20
           obtain rfl := Option.some.inj H
           go_wp2
           go_ret
           exact ⟨_, bE, bR HO_9, bB⟩
          rw [if_neg c20] at H
          have c20b0 : (t247 == 2) = false := beq_eq_false_iff_ne.mpr c20
          have c20b1 : (t247 != 2) = true := bne_iff_ne.mpr c20
          by_cases c21 : t247 = 1
          ·rw [if_pos c21] at H
           have c21b0 : (t247 == 1) = true := beq_iff_eq.mpr c21
           have c21b1 : (t247 != 1) = false := bne_eq_false_iff_eq.mpr c21
           clear c21
           replace H := Option.bind_eq_some_iff.mp H
           obtain ⟨t252, A220, H⟩ := H
           replace H : (spec_l5Spans.l0 kj14 l0 a2 a3 x9_14 t252 (wrap64 (t246 + 1))) = some r := H
           have A22 := aM A220
           clear A220
           have H' := aM H
           clear H
           go_wp2_with (first | ((with_reducible refine gate_callee (f := 131) rfl ?_); refine gL_ (some 52) Tryd.func131 #[.int .i64 (wrap64 (t246 + 1)), .int .i64 a2] ?_; (with_reducible refine (spec_l1Min.calls (wrap64 (t246 + 1)) a2 t252 _ A22.out).mono ?_); rintro e w' ⟨rfl, ⟨nd, rfl⟩⟩; refine ⟨_, rfl, ?_⟩))
           go_roundg kj14
           case measure => have := HK1.out; have := HJ11.out; have := HJ14.out; omega
           case rel => exact ⟨(x9_14), (t252), (wrap64 (t246 + 1)), bS, bS, H', ⟨by have := HK1.out; have := HJ11.out; have := HJ14.out; omega⟩, ⟨bR HO_9⟩, ⟨bB⟩⟩
          rw [if_neg c21] at H
          have c21b0 : (t247 == 1) = false := beq_eq_false_iff_ne.mpr c21
          have c21b1 : (t247 != 1) = true := bne_iff_ne.mpr c21
          have H' := aM H
          clear H
          go_wp2
          go_roundg kj14
          case measure => have := HK1.out; have := HJ11.out; have := HJ14.out; omega
          case rel => exact ⟨(x9_14), (x10_1), (wrap64 (t246 + 1)), bS, bS, H', ⟨by have := HK1.out; have := HJ11.out; have := HJ14.out; omega⟩, ⟨bR HO_9⟩, ⟨bB⟩⟩
     rw [if_neg c9] at H
     exact absurd H (by simp)
    rw [if_neg c8] at H
    exact absurd H (by simp)
   rw [if_neg c7] at H
   have c7b0 : decide (x11_1 < a2) = false := decide_eq_false c7
   clear c7
   by_cases c23 : x10_1 ≥ 0
   ·rw [if_pos c23] at H
    have c23b0 : decide (0 ≤ x10_1) = true := decide_eq_true c23
    clear c23
    by_cases c24 : x9_1.length < 8796093022208
    ·rw [if_pos c24] at H
     have LMc24 := aM c24
     clear c24
     obtain ⟨y242, hy242⟩ : ∃ y_ : List (S127), y_ = (x9_1 ++ [(⟨x10_1, a2⟩ : S127)]) := ⟨_, rfl⟩
     replace H : (some y242) = some r := zz2 hy242
     have Ny242 := aM hy242
     clear hy242
     obtain rfl := Option.some.inj H
     go_wp2_with (first | ((with_reducible refine gate_builtin (b := .append) (xs := #[.tmp 57, .tmp 61]) rfl ?_); at_builtin; refine Kd.R_append k127 (w0 := w) w.heap.size rfl (.tmp 57) (.tmp 61) 124 127 (.agg #[(.int .i64 0), (.int .i64 0)]) 16 rfl Tryd.underlying124 info127 rfl (by decide) (by omega) u9 x9_1 (⟨x10_1, a2⟩ : S127) [.int .i64 x10_1, .int .i64 a2] (fun _ => True) (fun _ => False) rfl rfl ?aP (fun _ hk => hk.elim) ?aF ?aO ?aB ?aS ?aL ?_; (case aP => exact k127_mkM _ _ _ (⟨x10_1, a2⟩ : S127)); (case aB => exact bB); (case aF => exact (fun _ _ => trivial)); (case aO => exact (bR HO_9)); (case aS => exact (below_size bB)); (case aL => have := LMc24.out; omega); intro v243 w25 ho hb hg hat; rw [← Ny242.out] at ho; have n0_ := aM (hb); have n1_ := aM (ho); clear HB; clear HO_9; have HB := n0_; have HO244 := n1_; clear n0_ n1_; clear ho hb hg hat))
     go_ret
     exact ⟨_, bE, bR HO244, bB⟩
    rw [if_neg c24] at H
    exact absurd H (by simp)
   rw [if_neg c23] at H
   have c23b0 : decide (0 ≤ x10_1) = false := decide_eq_false c23
   clear c23
   obtain rfl := Option.some.inj H
   go_wp2
   go_ret
   exact ⟨_, bE, bR HO_9, bB⟩
mutual
def spec_l5Add.j0 : Nat → List (S23) → List Int → Int → ByteArray → Int → Bool → Int → Int → Int → Int → Int → Int → Int → Option ((List (S23)))
 | 0, _, _, _, _, _, _, _, _, _, _, _, _, _ => none
 | k + 1, x0, x1, x6, x16, x17, x49, x262000, x262001, x262002, x262003, x262004, x262005, x262006 => if x49 = true then (some x0) else ((spec_l5Spans.f k x1 x262003 x262004 x16).bind fun t266 => (spec_l5Add.l0 k x0 x1 x6 x17 t266 0))
def spec_l5Add.l0 : Nat → List (S23) → List Int → Int → Int → List (S127) → Int → Option ((List (S23)))
 | 0, _, _, _, _, _, _ => none
 | k + 1, x0, x1, x6, x17, x18, x19 => if x19 < (x18.length : Int) then (if (x0.length : Int) < 8 then (if 0 ≤ x19 then ((spec_l5Add.f k x0 x1 ((rd_T127 x18 x19).f0) ((rd_T127 x18 x19).f1) x17 (wrap64 (x19 + 1)) (wrap64 (x6 + 1))).bind fun t271 => (spec_l5Add.l0 k t271 x1 x6 x17 x18 (wrap64 (x19 + 1)))) else (none)) else (some x0)) else (some x0)
def spec_l5Add.f : Nat → List (S23) → List Int → Int → Int → Int → Int → Int → Option ((List (S23)))
 | 0, _, _, _, _, _, _, _ => none
 | k + 1, l0, l1, a2, a3, a4, a5, a6 => (spec_l5One.f k l1 a2 a3).bind fun bt253 => (if l0.length < 2513169434916 then ((some (l0 ++ [(⟨bt253.1, bt253.2.1, bt253.2.2.1, bt253.2.2.2.1, bt253.2.2.2.2.1, a4, a5⟩ : S23)] : List (S23))).bind fun y262 => (if bt253.1 = 2 then (if a6 ≥ 3 then (spec_l5Add.j0 k y262 l1 a6 bt253.2.2.2.2.2.2.2 (l0.length : Int) true bt253.1 bt253.2.1 bt253.2.2.1 bt253.2.2.2.1 bt253.2.2.2.2.1 a4 a5) else ((spec_l1In.f (bt253.2.2.2.2.2.2.2.size : Int) 1 20).bind fun t265 => (spec_l5Add.j0 k y262 l1 a6 bt253.2.2.2.2.2.2.2 (l0.length : Int) (!t265) bt253.1 bt253.2.1 bt253.2.2.1 bt253.2.2.2.1 bt253.2.2.2.2.1 a4 a5))) else (spec_l5Add.j0 k y262 l1 a6 bt253.2.2.2.2.2.2.2 (l0.length : Int) true bt253.1 bt253.2.1 bt253.2.2.1 bt253.2.2.2.1 bt253.2.2.2.2.1 a4 a5))) else (none))
end
def spec_l5Add.T12 : Bool × List (List Nat × List Nat) := (true, [([], []), ([], []), ([], []), ([], []), ([2, 3], [2, 3]), ([4], [4]), ([5], [5]), ([], []), ([], []), ([7, 8], [7, 8]), ([9], [9]), ([10], [10]), ([], []), ([], []), ([13], [13]), ([], []), ([15], [15]), ([0, 1, 6, 11, 12, 14, 16], [0, 1, 6, 11, 12, 14, 16]), ([17, 17, 0, 1, 2, 3, 4, 5, 6, 7, 8, 9, 10, 11, 12, 13, 14, 15, 16, 17], [0, 17])])
def spec_l5Add.B12 : List Nat := [0, 0, 0, 0, 12, 28, 60, 0, 0, 384, 896, 1920, 0, 0, 8192, 0, 32768, 131071, 262143]
theorem spec_l5Add.tab12 : rtab .any (opsOf Tryd.f83 12) = spec_l5Add.T12 := by kernel_rfl
theorem spec_l5Add.bits12 : waitsOk spec_l5Add.T12.2 spec_l5Add.B12 = true := by kernel_rfl
set_option maxHeartbeats 8000000 in
set_option maxRecDepth 100000 in
theorem spec_l5Add.calls (k : Nat) : ∀ (P0_ : Nat → Prop) (u9000_ : Value) (l0 : List (S23)) (A1 : Option Addr) (c1 : Nat) (l1 : List Int) (a2 : Int) (a3 : Int) (a4 : Int) (a5 : Int) (a6 : Int) (r : List (S23)) (w0 w : World) (hB : Below w0.heap.size w0 w) (ho0 : Kd.R k23 23 w w0.heap.size P0_ u9000_ l0) (hr1 : ∀ W_, Kept w W_ (fun k_ => P0_ k_) → Kd.C (Kd.int .u8) W_ A1 l1.length l1) (hc1 : l1.length ≤ c1) (h : spec_l5Add.f k l0 l1 a2 a3 a4 a5 a6 = some r),
  Calls Tryd.prog 83 #[u9000_, .slice A1 l1.length c1, .int .i64 a2, .int .i64 a3, .int .i64 a4, .int .i64 a5, .int .i64 a6] w fun e w' => ∃ v0_ : Value, e = .returned (v0_) ∧ Kd.R k23 23 w' w0.heap.size (fun k_ => (P0_ k_ ∨ w.heap.size ≤ k_)) v0_ r ∧ Below w0.heap.size w0 w' ∧ Kept w w' (fun k_ => P0_ k_) := by
 induction k using Nat.strongRecOn with
 | _ k ih =>
 intro P0_ u9000_ l0 A1 c1 l1 a2 a3 a4 a5 a6 r w0 w hB ho0 hr1 hc1 h
 cases k with
 | zero => exact absurd h (by simp [spec_l5Add.f])
 | succ k =>
 simp only [spec_l5Add.f] at h
 have hu23 := Tryd.underlying23
 have HO0 := aM (show Kd.R k23 23 w w0.heap.size (fun k_ => (P0_ k_ ∨ w.heap.size ≤ k_)) u9000_ l0 from Kd.R_mono ho0 (fun k_ hk => (.inl hk)))
 have HR1 := aM hr1
 have HC1 := aM hc1
 clear hr1 hc1
 have HK := aM (Kept.refl w (fun k_ => P0_ k_))
 have HW0 := aM hB.size
 have HB := aM hB
 clear hB
 have H : ((spec_l5One.f k l1 a2 a3).bind fun bt253 => (if l0.length < 2513169434916 then ((some (l0 ++ [(⟨bt253.1, bt253.2.1, bt253.2.2.1, bt253.2.2.2.1, bt253.2.2.2.2.1, a4, a5⟩ : S23)] : List (S23))).bind fun y262 => (if bt253.1 = 2 then (if a6 ≥ 3 then (spec_l5Add.j0 k y262 l1 a6 bt253.2.2.2.2.2.2.2 (l0.length : Int) true bt253.1 bt253.2.1 bt253.2.2.1 bt253.2.2.2.1 bt253.2.2.2.2.1 a4 a5) else ((spec_l1In.f (bt253.2.2.2.2.2.2.2.size : Int) 1 20).bind fun t265 => (spec_l5Add.j0 k y262 l1 a6 bt253.2.2.2.2.2.2.2 (l0.length : Int) (!t265) bt253.1 bt253.2.1 bt253.2.2.1 bt253.2.2.2.1 bt253.2.2.2.2.1 a4 a5))) else (spec_l5Add.j0 k y262 l1 a6 bt253.2.2.2.2.2.2.2 (l0.length : Int) true bt253.1 bt253.2.1 bt253.2.2.1 bt253.2.2.2.1 bt253.2.2.2.2.1 a4 a5))) else (none))) = some r := h
 clear h
 replace H := Option.bind_eq_some_iff.mp H
 obtain ⟨⟨t253, t254, t255, t256, t257, t258, t259, t260⟩, A80, H⟩ := H
 replace H : (if l0.length < 2513169434916 then ((some (l0 ++ [(⟨t253, t254, t255, t256, t257, a4, a5⟩ : S23)] : List (S23))).bind fun y262 => (if t253 = 2 then (if a6 ≥ 3 then (spec_l5Add.j0 k y262 l1 a6 t260 (l0.length : Int) true t253 t254 t255 t256 t257 a4 a5) else ((spec_l1In.f (t260.size : Int) 1 20).bind fun t265 => (spec_l5Add.j0 k y262 l1 a6 t260 (l0.length : Int) (!t265) t253 t254 t255 t256 t257 a4 a5))) else (spec_l5Add.j0 k y262 l1 a6 t260 (l0.length : Int) true t253 t254 t255 t256 t257 a4 a5))) else (none)) = some r := H
 have A8 := aM A80
 clear A80
 by_cases c9 : l0.length < 2513169434916
 ·rw [if_pos c9] at H
  have LMc9 := aM c9
  clear c9
  obtain ⟨y262, hy262⟩ : ∃ y_ : List (S23), y_ = (l0 ++ [(⟨t253, t254, t255, t256, t257, a4, a5⟩ : S23)]) := ⟨_, rfl⟩
  replace H : (if t253 = 2 then (if a6 ≥ 3 then (spec_l5Add.j0 k y262 l1 a6 t260 (l0.length : Int) true t253 t254 t255 t256 t257 a4 a5) else ((spec_l1In.f (t260.size : Int) 1 20).bind fun t265 => (spec_l5Add.j0 k y262 l1 a6 t260 (l0.length : Int) (!t265) t253 t254 t255 t256 t257 a4 a5))) else (spec_l5Add.j0 k y262 l1 a6 t260 (l0.length : Int) true t253 t254 t255 t256 t257 a4 a5)) = some r := zz2 hy262
  have Ny262 := aM hy262
  clear hy262
  have HC10 := aM H
  clear H
  go_enter Tryd.func83, Tryd.ntmps83
  go_upto_region 6 with (first | ((with_reducible refine gate_callee (f := 106) rfl ?_); refine gL_ (some 24) Tryd.func106 #[.slice A1 l1.length c1, .int .i64 a2, .int .i64 a3] ?_; (with_reducible refine (spec_l5One.calls k _ _ l1 a2 a3 t253 t254 t255 t256 t257 t258 t259 t260 _ ?side1 ?side2 A8.out).mono ?_); (case side1 => exact Kd.C_kept_now HR1.out bK); (case side2 => exact HC1.out); rintro e w11 ⟨rfl, hb⟩; refine ⟨_, rfl, ?_⟩; replace HO0 := aM (Kd.R_below (bR HO0) hb); replace HK := aM (Kept.below (S := (fun k_ => P0_ k_)) bK hb); replace HB := aM (below_step bB hb); (try clear hi)) | ((with_reducible refine gate_dst (N := 15) rfl ?_); (try (refine gate_guard (by rfl) ?_; dsimp only)); refine box_event ?hg (N := 15) ?hd (cs := #[.int .i64 0, .int .i64 0, .int .i64 0, .int .i64 0, .int .i64 0, .int .i64 0, .int .i64 0]) (t := 23) ?hr ?_; (case hd => rfl); (case hg => rfl); (case hr => exact zz13); intro gb261 hg w12 hbox hb; replace HO0 := aM (Kd.R_below (Kd.R_elderB (bR HO0) gb261 (Nat.le_of_eq hg.symm)) hb); have BK261 := aM (hbox); have GW261 := aM ((by rw [hg]; exact (by first | exact HK.out.1 | exact (show Kept w _ (fun k_ => P0_ k_) from bK).1) : w.heap.size ≤ gb261)); replace HK := aM (Kept.below (S := (fun k_ => P0_ k_)) bK hb); have GE261 := aM ((zz18 : w0.heap.size ≤ gb261)); replace HB := aM (below_step bB hb); clear hb hbox hg; have hcz13_0 : w12.cell? ⟨gb261, 0, none⟩ = some (.int .i64 0) := (blk_cell BK261.out 0).trans rfl; have hcz13_1 : w12.cell? ⟨gb261, 1, none⟩ = some (.int .i64 0) := (blk_cell BK261.out 1).trans rfl; have hcz13_2 : w12.cell? ⟨gb261, 2, none⟩ = some (.int .i64 0) := (blk_cell BK261.out 2).trans rfl; have hcz13_3 : w12.cell? ⟨gb261, 3, none⟩ = some (.int .i64 0) := (blk_cell BK261.out 3).trans rfl; have hcz13_4 : w12.cell? ⟨gb261, 4, none⟩ = some (.int .i64 0) := (blk_cell BK261.out 4).trans rfl; have hcz13_5 : w12.cell? ⟨gb261, 5, none⟩ = some (.int .i64 0) := (blk_cell BK261.out 5).trans rfl; have hcz13_6 : w12.cell? ⟨gb261, 6, none⟩ = some (.int .i64 0) := (blk_cell BK261.out 6).trans rfl; have hfz13_0 := blk_frozen BK261.out 0; have hfz13_1 := blk_frozen BK261.out 1; have hfz13_2 := blk_frozen BK261.out 2; have hfz13_3 := blk_frozen BK261.out 3; have hfz13_4 := blk_frozen BK261.out 4; have hfz13_5 := blk_frozen BK261.out 5; have hfz13_6 := blk_frozen BK261.out 6) | ((with_reducible refine gate_store (t := 23) (p := 15) rfl ?_); refine store_event (t := 23) (p := 15) (v := ?vo_w14) (w1 := (((((((w12.setCell ⟨gb261, 0, none⟩ (.int .i64 t253)).setCell ⟨gb261, 1, none⟩ (.int .i64 t254)).setCell ⟨gb261, 2, none⟩ (.int .i64 t255)).setCell ⟨gb261, 3, none⟩ (.int .i64 t256)).setCell ⟨gb261, 4, none⟩ (.int .i64 t257)).setCell ⟨gb261, 5, none⟩ (.int .i64 t258)).setCell ⟨gb261, 6, none⟩ (.int .i64 t259))) ?hg ?ho ?hn ?hr ?_; (case ho => rfl); (case hg => rfl); (case hn => rfl); (case hr => exact zz13); intro w14 hw; have n0_ : Aside0 (Kd.R k23 23 w14 w0.heap.size (fun k_ => (P0_ k_ ∨ w.heap.size ≤ k_) ∧ k_ ≠ gb261) u9000_ l0) := ⟨(by rw [hw]; exact (by (with_reducible repeat (first | apply Kd.R_alloc | apply Kd.R_drewN | apply Kd.R_drew)); exact Kd.R_mono (Kd.R_far (p := ⟨gb261, 6, none⟩) (Kd.R_far (p := ⟨gb261, 5, none⟩) (Kd.R_far (p := ⟨gb261, 4, none⟩) (Kd.R_far (p := ⟨gb261, 3, none⟩) (Kd.R_far (p := ⟨gb261, 2, none⟩) (Kd.R_far (p := ⟨gb261, 1, none⟩) (Kd.R_far (p := ⟨gb261, 0, none⟩) (Kd.R_mono HO0.out (fun k_ hk => (⟨hk, hk.2⟩ : _ ∧ k_ ≠ gb261))) (fun _ hk => hk.2) (.int .i64 t253)) (fun _ hk => hk.2) (.int .i64 t254)) (fun _ hk => hk.2) (.int .i64 t255)) (fun _ hk => hk.2) (.int .i64 t256)) (fun _ hk => hk.2) (.int .i64 t257)) (fun _ hk => hk.2) (.int .i64 t258)) (fun _ hk => hk.2) (.int .i64 t259)) (fun _ hk => ⟨hk.1.1, hk.1.2⟩)))⟩; have n1_ : Aside0 (w14.heap[gb261]? = some (.cells #[.int .i64 t253, .int .i64 t254, .int .i64 t255, .int .i64 t256, .int .i64 t257, .int .i64 t258, .int .i64 t259] 23 (0, 0))) := ⟨(by rw [hw]; exact (by (with_reducible repeat (first | refine blk_drewN ?_ _ | refine blk_drew ?_ | refine blk_alloc ?_ _)); refine blk_put (cs := #[.int .i64 t253, .int .i64 t254, .int .i64 t255, .int .i64 t256, .int .i64 t257, .int .i64 t258, .int .i64 0]) ?_ 6 _ rfl; (with_reducible repeat (first | refine blk_drewN ?_ _ | refine blk_drew ?_ | refine blk_alloc ?_ _)); refine blk_put (cs := #[.int .i64 t253, .int .i64 t254, .int .i64 t255, .int .i64 t256, .int .i64 t257, .int .i64 0, .int .i64 0]) ?_ 5 _ rfl; (with_reducible repeat (first | refine blk_drewN ?_ _ | refine blk_drew ?_ | refine blk_alloc ?_ _)); refine blk_put (cs := #[.int .i64 t253, .int .i64 t254, .int .i64 t255, .int .i64 t256, .int .i64 0, .int .i64 0, .int .i64 0]) ?_ 4 _ rfl; (with_reducible repeat (first | refine blk_drewN ?_ _ | refine blk_drew ?_ | refine blk_alloc ?_ _)); refine blk_put (cs := #[.int .i64 t253, .int .i64 t254, .int .i64 t255, .int .i64 0, .int .i64 0, .int .i64 0, .int .i64 0]) ?_ 3 _ rfl; (with_reducible repeat (first | refine blk_drewN ?_ _ | refine blk_drew ?_ | refine blk_alloc ?_ _)); refine blk_put (cs := #[.int .i64 t253, .int .i64 t254, .int .i64 0, .int .i64 0, .int .i64 0, .int .i64 0, .int .i64 0]) ?_ 2 _ rfl; (with_reducible repeat (first | refine blk_drewN ?_ _ | refine blk_drew ?_ | refine blk_alloc ?_ _)); refine blk_put (cs := #[.int .i64 t253, .int .i64 0, .int .i64 0, .int .i64 0, .int .i64 0, .int .i64 0, .int .i64 0]) ?_ 1 _ rfl; (with_reducible repeat (first | refine blk_drewN ?_ _ | refine blk_drew ?_ | refine blk_alloc ?_ _)); refine blk_put (cs := #[.int .i64 0, .int .i64 0, .int .i64 0, .int .i64 0, .int .i64 0, .int .i64 0, .int .i64 0]) ?_ 0 _ rfl; (with_reducible repeat (first | refine blk_drewN ?_ _ | refine blk_drew ?_ | refine blk_alloc ?_ _)); exact BK261.out))⟩; have n2_ : Aside0 (Kept w w14 (fun k_ => P0_ k_)) := ⟨(by rw [hw]; exact (zz10 GW261.out))⟩; have n3_ : Aside0 (Below w0.heap.size w0 w14) := ⟨(by rw [hw]; exact (bG GE261))⟩; clear hw; clear HO0; clear BK261; clear HK; clear HB; have HO0 := n0_; have BK261 := n1_; have HK := n2_; have HB := n3_; clear n0_ n1_ n2_ n3_; have hcz15_0 : w14.cell? ⟨gb261, 0, none⟩ = some (.int .i64 t253) := (blk_cell BK261.out 0).trans rfl; have hcz15_1 : w14.cell? ⟨gb261, 1, none⟩ = some (.int .i64 t254) := (blk_cell BK261.out 1).trans rfl; have hcz15_2 : w14.cell? ⟨gb261, 2, none⟩ = some (.int .i64 t255) := (blk_cell BK261.out 2).trans rfl; have hcz15_3 : w14.cell? ⟨gb261, 3, none⟩ = some (.int .i64 t256) := (blk_cell BK261.out 3).trans rfl; have hcz15_4 : w14.cell? ⟨gb261, 4, none⟩ = some (.int .i64 t257) := (blk_cell BK261.out 4).trans rfl; have hcz15_5 : w14.cell? ⟨gb261, 5, none⟩ = some (.int .i64 t258) := (blk_cell BK261.out 5).trans rfl; have hcz15_6 : w14.cell? ⟨gb261, 6, none⟩ = some (.int .i64 t259) := (blk_cell BK261.out 6).trans rfl; have hfz15_0 := blk_frozen BK261.out 0; have hfz15_1 := blk_frozen BK261.out 1; have hfz15_2 := blk_frozen BK261.out 2; have hfz15_3 := blk_frozen BK261.out 3; have hfz15_4 := blk_frozen BK261.out 4; have hfz15_5 := blk_frozen BK261.out 5; have hfz15_6 := blk_frozen BK261.out 6; obtain ⟨Ao16, co16, eo16⟩ := Kd.R_slice HO0.out; subst eo16) | ((with_reducible refine gate_builtin (b := .append) (xs := #[.tmp 33, .tmp 35]) rfl ?_); (try (refine gate_guard (by rfl) ?_; dsimp only)); at_builtin; refine Kd.R_append k23 (w0 := w0) w0.heap.size rfl (.tmp 33) (.tmp 35) 50 23 (.agg #[(.int .i64 0), (.int .i64 0), (.int .i64 0), (.int .i64 0), (.int .i64 0), (.int .i64 0), (.int .i64 0)]) 56 rfl Tryd.underlying50 info23 rfl (by decide) (by omega) (.slice Ao16 l0.length co16) l0 (⟨t253, t254, t255, t256, t257, a4, a5⟩ : S23) [.int .i64 t253, .int .i64 t254, .int .i64 t255, .int .i64 t256, .int .i64 t257, .int .i64 a4, .int .i64 a5] (fun k_ => (P0_ k_ ∨ w.heap.size ≤ k_) ∧ k_ ≠ gb261) (fun _ => False) rfl zz13 ?aP (fun _ hk => hk.elim) ?aF ?aO ?aB ?aS ?aL ?_; (case aP => exact k23_mkM _ _ _ (⟨t253, t254, t255, t256, t257, a4, a5⟩ : S23)); (case aB => exact (bG GE261)); (case aF => exact (fun k_ hk => ⟨(.inr (Nat.le_trans (show Kept w _ (fun k_ => P0_ k_) from zz10 GW261.out).1 hk)), Kd.freshB (g := gb261) (o := .cells #[.int .i64 t253, .int .i64 t254, .int .i64 t255, .int .i64 t256, .int .i64 t257, .int .i64 a4, .int .i64 a5] 23 (0, 0)) (by (with_reducible repeat (first | refine blk_drewN ?_ _ | refine blk_drew ?_ | refine blk_alloc ?_ _)); refine blk_put (cs := #[.int .i64 t253, .int .i64 t254, .int .i64 t255, .int .i64 t256, .int .i64 t257, .int .i64 a4, .int .i64 t259]) ?_ 6 _ rfl; (with_reducible repeat (first | refine blk_drewN ?_ _ | refine blk_drew ?_ | refine blk_alloc ?_ _)); refine blk_put (cs := #[.int .i64 t253, .int .i64 t254, .int .i64 t255, .int .i64 t256, .int .i64 t257, .int .i64 t258, .int .i64 t259]) ?_ 5 _ rfl; (with_reducible repeat (first | refine blk_drewN ?_ _ | refine blk_drew ?_ | refine blk_alloc ?_ _)); exact BK261.out) k_ hk⟩)); (case aO => exact (by (with_reducible repeat (first | apply Kd.R_alloc | apply Kd.R_drewN | apply Kd.R_drew)); exact Kd.R_mono (Kd.R_far (p := ⟨gb261, 6, none⟩) (Kd.R_far (p := ⟨gb261, 5, none⟩) (Kd.R_mono HO0.out (fun k_ hk => (⟨hk, hk.2⟩ : _ ∧ k_ ≠ gb261))) (fun _ hk => hk.2) (.int .i64 a4)) (fun _ hk => hk.2) (.int .i64 a5)) (fun _ hk => ⟨hk.1.1, hk.1.2⟩))); (case aS => exact (below_size (bG GE261))); (case aL => have := LMc9.out; omega); intro v263 w17 ho hb hg hat; rw [← Ny262.out] at ho; have n0_ := aM (blk_grown (g := gb261) (o := .cells #[.int .i64 t253, .int .i64 t254, .int .i64 t255, .int .i64 t256, .int .i64 t257, .int .i64 a4, .int .i64 a5] 23 (0, 0)) (by (with_reducible repeat (first | refine blk_drewN ?_ _ | refine blk_drew ?_ | refine blk_alloc ?_ _)); refine blk_put (cs := #[.int .i64 t253, .int .i64 t254, .int .i64 t255, .int .i64 t256, .int .i64 t257, .int .i64 a4, .int .i64 t259]) ?_ 6 _ rfl; (with_reducible repeat (first | refine blk_drewN ?_ _ | refine blk_drew ?_ | refine blk_alloc ?_ _)); refine blk_put (cs := #[.int .i64 t253, .int .i64 t254, .int .i64 t255, .int .i64 t256, .int .i64 t257, .int .i64 t258, .int .i64 t259]) ?_ 5 _ rfl; (with_reducible repeat (first | refine blk_drewN ?_ _ | refine blk_drew ?_ | refine blk_alloc ?_ _)); exact BK261.out) hg (Kd.R_away HO0.out (fun _ hk => hk.2))); have n1_ := aM (hb); have n2_ := aM (Kept.of_grown (S := (fun k_ => P0_ k_)) hg (zz10 GW261.out) (fun k_ e_ => (HO0.out.1 k_ e_).1)); have n3_ := aM (ho); clear BK261; clear HB; clear HK; clear HO0; have BK261 := n0_; have HB := n1_; have HK := n2_; have HO264 := n3_; clear n0_ n1_ n2_ n3_; clear ho hb hg hat))
  (try simp only [Act.put, List.setIfInBounds_toArray, List.set_cons_zero, List.set_cons_succ])
  go_cut [49] (fun v49 wc => ∃ (kq : Nat) (x49_9 : Bool), v49 = .bool x49_9 ∧ Aside0 (spec_l5Add.j0 kq y262 l1 a6 t260 (l0.length : Int) x49_9 t253 t254 t255 t256 t257 a4 a5 = some r) ∧ Aside0 (kq ≤ k) ∧ Aside0 (Kd.R k23 23 wc w0.heap.size (fun k_ => (P0_ k_ ∨ w.heap.size ≤ k_) ∧ k_ ≠ gb261) v263 y262) ∧ Aside0 (wc.heap[gb261]? = some (.cells #[.int .i64 t253, .int .i64 t254, .int .i64 t255, .int .i64 t256, .int .i64 t257, .int .i64 a4, .int .i64 a5] 23 (0, 0))) ∧ Aside0 (Kept w wc (fun k_ => P0_ k_)) ∧ Aside0 (Below w0.heap.size w0 wc))
  case first =>
   have H := HC10.out
   clear HC10
   by_cases c18 : t253 = 2
   ·rw [if_pos c18] at H
    have c18b0 : (t253 == 2) = true := beq_iff_eq.mpr c18
    have c18b1 : (t253 != 2) = false := bne_eq_false_iff_eq.mpr c18
    clear c18
    have HQ_ := aM H
    clear H
    (first | rw [c18b0] | (simp only [i64_w, i32_w]; rw [c18b0]) | skip)
    have hcz20_0 : w17.cell? ⟨gb261, 0, none⟩ = some (.int .i64 t253) := (blk_cell BK261.out 0).trans rfl
    have hcz20_1 : w17.cell? ⟨gb261, 1, none⟩ = some (.int .i64 t254) := (blk_cell BK261.out 1).trans rfl
    have hcz20_2 : w17.cell? ⟨gb261, 2, none⟩ = some (.int .i64 t255) := (blk_cell BK261.out 2).trans rfl
    have hcz20_3 : w17.cell? ⟨gb261, 3, none⟩ = some (.int .i64 t256) := (blk_cell BK261.out 3).trans rfl
    have hcz20_4 : w17.cell? ⟨gb261, 4, none⟩ = some (.int .i64 t257) := (blk_cell BK261.out 4).trans rfl
    have hcz20_5 : w17.cell? ⟨gb261, 5, none⟩ = some (.int .i64 a4) := (blk_cell BK261.out 5).trans rfl
    have hcz20_6 : w17.cell? ⟨gb261, 6, none⟩ = some (.int .i64 a5) := (blk_cell BK261.out 6).trans rfl
    have hfz20_0 := blk_frozen BK261.out 0
    have hfz20_1 := blk_frozen BK261.out 1
    have hfz20_2 := blk_frozen BK261.out 2
    have hfz20_3 := blk_frozen BK261.out 3
    have hfz20_4 := blk_frozen BK261.out 4
    have hfz20_5 := blk_frozen BK261.out 5
    have hfz20_6 := blk_frozen BK261.out 6
    have H := HQ_.out
    clear HQ_
    by_cases c19 : a6 ≥ 3
    ·rw [if_pos c19] at H
     have c19b0 : decide (3 ≤ a6) = true := decide_eq_true c19
     clear c19
     have H' := aM H
     clear H
     (try simp only [c19b0])
     go_wp2
     go_meet
     case rel => exact ⟨_, (true), bS, H', ⟨zz52⟩, ⟨bR HO264⟩, ⟨bL BK261⟩, ⟨zz10 GW261.out⟩, ⟨bG GE261⟩⟩
    rw [if_neg c19] at H
    have c19b0 : decide (3 ≤ a6) = false := decide_eq_false c19
    clear c19
    replace H := Option.bind_eq_some_iff.mp H
    obtain ⟨t265, A210, H⟩ := H
    replace H : (spec_l5Add.j0 k y262 l1 a6 t260 (l0.length : Int) (!t265) t253 t254 t255 t256 t257 a4 a5) = some r := H
    have A21 := aM A210
    clear A210
    have H' := aM H
    clear H
    (try simp only [c19b0])
    go_wp2_with (first | (go_at_call 47; (with_reducible refine (spec_l1In.calls (t260.size : Int) 1 20 t265 _ A21.out).mono ?_); rintro e w' ⟨rfl, ⟨nd, rfl⟩⟩))
    go_meet
    case rel => exact ⟨_, (!t265), bS, H', ⟨zz52⟩, ⟨bR HO264⟩, ⟨bL BK261⟩, ⟨zz10 GW261.out⟩, ⟨bG GE261⟩⟩
   rw [if_neg c18] at H
   have c18b0 : (t253 == 2) = false := beq_eq_false_iff_ne.mpr c18
   have c18b1 : (t253 != 2) = true := bne_iff_ne.mpr c18
   (first | rw [c18b0] | (simp only [i64_w, i32_w]; rw [c18b0]) | skip)
   have H' := aM H
   clear H
   have hcz23_0 : w17.cell? ⟨gb261, 0, none⟩ = some (.int .i64 t253) := (blk_cell BK261.out 0).trans rfl
   have hcz23_1 : w17.cell? ⟨gb261, 1, none⟩ = some (.int .i64 t254) := (blk_cell BK261.out 1).trans rfl
   have hcz23_2 : w17.cell? ⟨gb261, 2, none⟩ = some (.int .i64 t255) := (blk_cell BK261.out 2).trans rfl
   have hcz23_3 : w17.cell? ⟨gb261, 3, none⟩ = some (.int .i64 t256) := (blk_cell BK261.out 3).trans rfl
   have hcz23_4 : w17.cell? ⟨gb261, 4, none⟩ = some (.int .i64 t257) := (blk_cell BK261.out 4).trans rfl
   have hcz23_5 : w17.cell? ⟨gb261, 5, none⟩ = some (.int .i64 a4) := (blk_cell BK261.out 5).trans rfl
   have hcz23_6 : w17.cell? ⟨gb261, 6, none⟩ = some (.int .i64 a5) := (blk_cell BK261.out 6).trans rfl
   have hfz23_0 := blk_frozen BK261.out 0
   have hfz23_1 := blk_frozen BK261.out 1
   have hfz23_2 := blk_frozen BK261.out 2
   have hfz23_3 := blk_frozen BK261.out 3
   have hfz23_4 := blk_frozen BK261.out 4
   have hfz23_5 := blk_frozen BK261.out 5
   have hfz23_6 := blk_frozen BK261.out 6
   go_wp2
   go_meet
   case rel => exact ⟨_, (true), bS, H', ⟨zz52⟩, ⟨bR HO264⟩, ⟨bL BK261⟩, ⟨zz10 GW261.out⟩, ⟨bG GE261⟩⟩
  case rest =>
   clear HC10
   try clear c1
   try clear p2
   try clear c8
   try clear c9
   try clear c10
   try clear c18
   try clear c18b0
   try clear c18b1
   try clear c19
   try clear c19b0
   try clear hcz13_0
   try clear hcz13_1
   try clear hcz13_2
   try clear hcz13_3
   try clear hcz13_4
   try clear hcz13_5
   try clear hcz13_6
   try clear hcz15_0
   try clear hcz15_1
   try clear hcz15_2
   try clear hcz15_3
   try clear hcz15_4
   try clear hcz15_5
   try clear hcz15_6
   try clear hcz20_0
   try clear hcz20_1
   try clear hcz20_2
   try clear hcz20_3
   try clear hcz20_4
   try clear hcz20_5
   try clear hcz20_6
   try clear hcz22_0
   try clear hcz22_1
   try clear hcz22_2
   try clear hcz22_3
   try clear hcz22_4
   try clear hcz22_5
   try clear hcz22_6
   try clear hcz23_0
   try clear hcz23_1
   try clear hcz23_2
   try clear hcz23_3
   try clear hcz23_4
   try clear hcz23_5
   try clear hcz23_6
   try clear hfz13_0
   try clear hfz13_1
   try clear hfz13_2
   try clear hfz13_3
   try clear hfz13_4
   try clear hfz13_5
   try clear hfz13_6
   try clear hfz15_0
   try clear hfz15_1
   try clear hfz15_2
   try clear hfz15_3
   try clear hfz15_4
   try clear hfz15_5
   try clear hfz15_6
   try clear hfz20_0
   try clear hfz20_1
   try clear hfz20_2
   try clear hfz20_3
   try clear hfz20_4
   try clear hfz20_5
   try clear hfz20_6
   try clear hfz22_0
   try clear hfz22_1
   try clear hfz22_2
   try clear hfz22_3
   try clear hfz22_4
   try clear hfz22_5
   try clear hfz22_6
   try clear hfz23_0
   try clear hfz23_1
   try clear hfz23_2
   try clear hfz23_3
   try clear hfz23_4
   try clear hfz23_5
   try clear hfz23_6
   obtain ⟨kq, x49_9, rfl, HA, HJ9, HO_0, BK261, HK, HB⟩ := hcut
   cases kq with
   | zero => exact absurd HA.out (by simp [spec_l5Add.j0])
   | succ kj9 =>
    have H := HA.out
    clear HA
    simp only [spec_l5Add.j0] at H
    by_cases c24 : x49_9 = true
    ·subst c24
     have H1 : (some y262) = some r := zz29
     clear H
     have H := H1
     clear H1
     obtain rfl := Option.some.inj H
     go_wp2
     go_ret
     exact ⟨_, bE, zz26 HO_0.out, bG GE261, zz10 GW261.out⟩
    replace c24 := Bool.eq_false_iff.mpr c24
    subst c24
    have H1 : ((spec_l5Spans.f kj9 l1 t256 t257 t260).bind fun t266 => (spec_l5Add.l0 kj9 y262 l1 a6 (l0.length : Int) t266 0)) = some r := zz15
    clear H
    have H := H1
    clear H1
    replace H := Option.bind_eq_some_iff.mp H
    obtain ⟨t266, A250, H⟩ := H
    replace H : (spec_l5Add.l0 kj9 y262 l1 a6 (l0.length : Int) t266 0) = some r := H
    have A25 := aM A250
    clear A250
    have H' := aM H
    clear H
    have hcz26_0 : wc.cell? ⟨gb261, 0, none⟩ = some (.int .i64 t253) := (blk_cell BK261.out 0).trans rfl
    have hcz26_1 : wc.cell? ⟨gb261, 1, none⟩ = some (.int .i64 t254) := (blk_cell BK261.out 1).trans rfl
    have hcz26_2 : wc.cell? ⟨gb261, 2, none⟩ = some (.int .i64 t255) := (blk_cell BK261.out 2).trans rfl
    have hcz26_3 : wc.cell? ⟨gb261, 3, none⟩ = some (.int .i64 t256) := (blk_cell BK261.out 3).trans rfl
    have hcz26_4 : wc.cell? ⟨gb261, 4, none⟩ = some (.int .i64 t257) := (blk_cell BK261.out 4).trans rfl
    have hcz26_5 : wc.cell? ⟨gb261, 5, none⟩ = some (.int .i64 a4) := (blk_cell BK261.out 5).trans rfl
    have hcz26_6 : wc.cell? ⟨gb261, 6, none⟩ = some (.int .i64 a5) := (blk_cell BK261.out 6).trans rfl
    have hfz26_0 := blk_frozen BK261.out 0
    have hfz26_1 := blk_frozen BK261.out 1
    have hfz26_2 := blk_frozen BK261.out 2
    have hfz26_3 := blk_frozen BK261.out 3
    have hfz26_4 := blk_frozen BK261.out 4
    have hfz26_5 := blk_frozen BK261.out 5
    have hfz26_6 := blk_frozen BK261.out 6
    go_wp2_with (first | ((with_reducible refine gate_callee (f := 107) rfl ?_); refine gL_ (some 57) Tryd.func107 #[.slice A1 l1.length c1, .int .i64 t256, .int .i64 t257, .string t260] ?_; (with_reducible refine (spec_l5Spans.calls kj9 _ _ l1 t256 t257 t260 t266 _ ?side1 ?side2 A25.out).mono ?_); (case side1 => exact Kd.C_kept_now HR1.out (zz10 GW261.out)); (case side2 => exact HC1.out); rintro e w27 ⟨v267, rfl, ho0, hb⟩; refine ⟨_, rfl, ?_⟩; replace HO_0 := aM (Kd.R_below (bR HO_0) hb); have HO268 := aM (Kd.R_lower (Kd.R_newM (M := fun k_ => (P0_ k_ ∨ w.heap.size ≤ k_)) ho0 (by first | exact HK.out.1 | exact (show Kept w _ (fun k_ => P0_ k_) from zz10 GW261.out).1) (fun k_ h_ => .inr h_)) (below_size (bG GE261))); replace BK261 := aM (blk_below (g := gb261) (o := .cells #[.int .i64 t253, .int .i64 t254, .int .i64 t255, .int .i64 t256, .int .i64 t257, .int .i64 a4, .int .i64 a5] 23 (0, 0)) (bL BK261) hb); replace HK := aM (Kept.below (S := (fun k_ => P0_ k_)) (zz10 GW261.out) hb); replace HB := aM (below_step (bG GE261) hb); (try clear ho0)))
    go_loopg [0, 19] kj9 (fun kq v0 v19 w' => ∃ (x0_2 : List (S23)) (x19_2 : Int), v19 = .int .i64 x19_2 ∧ Aside0 (spec_l5Add.l0 kq x0_2 l1 a6 (l0.length : Int) t266 x19_2 = some r) ∧ Aside0 (kq ≤ kj9) ∧ Aside0 (Kd.R k23 23 w' w0.heap.size (fun k_ => (P0_ k_ ∨ w.heap.size ≤ k_) ∧ k_ ≠ gb261) v0 x0_2) ∧ Aside0 (Kd.R k127 127 w' w0.heap.size (fun k_ => (P0_ k_ ∨ w.heap.size ≤ k_)) v267 t266) ∧ Aside0 (w'.heap[gb261]? = some (.cells #[.int .i64 t253, .int .i64 t254, .int .i64 t255, .int .i64 t256, .int .i64 t257, .int .i64 a4, .int .i64 a5] 23 (0, 0))) ∧ Aside0 (Kept w w' (fun k_ => P0_ k_)) ∧ Aside0 (Below w0.heap.size w0 w'))
    case atStart => exact ⟨(y262), (0), bS, H', ⟨Nat.le_refl _⟩, ⟨bR HO_0⟩, ⟨zz26 HO268.out⟩, ⟨bL BK261⟩, ⟨zz10 GW261.out⟩, ⟨bG GE261⟩⟩
    case round =>
     clear H'
     try clear c1
     try clear c2
     try clear p2
     try clear c8
     try clear c9
     try clear c10
     try clear c18
     try clear c18b0
     try clear c18b1
     try clear c19
     try clear c19b0
     try clear c24
     try clear hcz13_0
     try clear hcz13_1
     try clear hcz13_2
     try clear hcz13_3
     try clear hcz13_4
     try clear hcz13_5
     try clear hcz13_6
     try clear hcz15_0
     try clear hcz15_1
     try clear hcz15_2
     try clear hcz15_3
     try clear hcz15_4
     try clear hcz15_5
     try clear hcz15_6
     try clear hcz20_0
     try clear hcz20_1
     try clear hcz20_2
     try clear hcz20_3
     try clear hcz20_4
     try clear hcz20_5
     try clear hcz20_6
     try clear hcz22_0
     try clear hcz22_1
     try clear hcz22_2
     try clear hcz22_3
     try clear hcz22_4
     try clear hcz22_5
     try clear hcz22_6
     try clear hcz23_0
     try clear hcz23_1
     try clear hcz23_2
     try clear hcz23_3
     try clear hcz23_4
     try clear hcz23_5
     try clear hcz23_6
     try clear hcz26_0
     try clear hcz26_1
     try clear hcz26_2
     try clear hcz26_3
     try clear hcz26_4
     try clear hcz26_5
     try clear hcz26_6
     try clear hfz13_0
     try clear hfz13_1
     try clear hfz13_2
     try clear hfz13_3
     try clear hfz13_4
     try clear hfz13_5
     try clear hfz13_6
     try clear hfz15_0
     try clear hfz15_1
     try clear hfz15_2
     try clear hfz15_3
     try clear hfz15_4
     try clear hfz15_5
     try clear hfz15_6
     try clear hfz20_0
     try clear hfz20_1
     try clear hfz20_2
     try clear hfz20_3
     try clear hfz20_4
     try clear hfz20_5
     try clear hfz20_6
     try clear hfz22_0
     try clear hfz22_1
     try clear hfz22_2
     try clear hfz22_3
     try clear hfz22_4
     try clear hfz22_5
     try clear hfz22_6
     try clear hfz23_0
     try clear hfz23_1
     try clear hfz23_2
     try clear hfz23_3
     try clear hfz23_4
     try clear hfz23_5
     try clear hfz23_6
     try clear hfz26_0
     try clear hfz26_1
     try clear hfz26_2
     try clear hfz26_3
     try clear hfz26_4
     try clear hfz26_5
     try clear hfz26_6
     try clear p2
     obtain ⟨x0_2, x19_2, rfl, HA, HK2, HO_0, HO_18, BK261, HK, HB⟩ := hrel
     cases gk with
     | zero => exact absurd HA.out (by simp [spec_l5Add.l0])
     | succ k2 =>
      have H := HA.out
      clear HA
      simp only [spec_l5Add.l0] at H
      have HQ_ := aM H
      clear H
      obtain ⟨Ao32, co32, eo32⟩ := Kd.R_slice HO_18.out
      subst eo32
      have H := HQ_.out
      clear HQ_
      by_cases c28 : x19_2 < (t266.length : Int)
      ·rw [if_pos c28] at H
       have c28b0 : decide (x19_2 < (t266.length : Int)) = true := decide_eq_true c28
       clear c28
       (try simp only [c28b0])
       have HQ_ := aM H
       clear H
       obtain ⟨Ao33, co33, eo33⟩ := Kd.R_slice HO_0.out
       subst eo33
       have H := HQ_.out
       clear HQ_
       by_cases c29 : (x0_2.length : Int) < 8
       ·rw [if_pos c29] at H
        have c29b0 : decide ((x0_2.length : Int) < 8) = true := decide_eq_true c29
        have c29b1 : decide (x0_2.length < 8) = true := decide_eq_true (by omega)
        clear c29
        (try simp only [c29b0, c29b1])
        by_cases c30 : 0 ≤ x19_2
        ·rw [if_pos c30] at H
         have c30b0 : decide (0 ≤ x19_2) = true := decide_eq_true c30
         clear c30
         replace H := Option.bind_eq_some_iff.mp H
         obtain ⟨t271, A310, H⟩ := H
         replace H : (spec_l5Add.l0 k2 t271 l1 a6 (l0.length : Int) t266 (wrap64 (x19_2 + 1))) = some r := H
         have A31 := aM A310
         clear A310
         have H' := aM H
         clear H
         try go_wp2
         replace HO_0 := aM (Kd.R_drew HO_0.out)
         replace HO_18 := aM (Kd.R_drew HO_18.out)
         replace BK261 := aM (blk_drew BK261.out)
         replace HK := aM (Kept.drew HK.out)
         replace HB := aM (below_drew1 HB.out)
         have p269 : 0 ≤ (x19_2 : Int) := pI
         have q269 : x19_2 < (t266.length : Int) := pI
         obtain ⟨ad269, e269, hx269_0, hx269_1⟩ := at_T127 (Kd.R_reads' HO_18.out).2.2 x19_2 p269 q269
         cases e269
         replace p269 := eq_true p269
         replace q269 := eq_true q269
         have p270 : 0 ≤ (x19_2 : Int) := pI
         have q270 : x19_2 < (t266.length : Int) := pI
         obtain ⟨ad270, e270, hx270_0, hx270_1⟩ := at_T127 (Kd.R_reads' HO_18.out).2.2 x19_2 p270 q270
         obtain rfl : ad269 = ad270 := (by injection e270)
         replace p270 := eq_true p270
         replace q270 := eq_true q270
         refine start_ (n := 19) (S := fun w' => w'.cell? (ad269.add ((x19_2).toNat * 2)) = some (.int .i64 ((rd_T127 t266 x19_2).f0)) ∧ w'.cell? ⟨(ad269.add ((x19_2).toNat * 2)).block, (ad269.add ((x19_2).toNat * 2)).off + 1, none⟩ = some (.int .i64 ((rd_T127 t266 x19_2).f1)) ∧ w'.cell? (ad269.add ((x19_2).toNat * 2)) = some (.int .i64 ((rd_T127 t266 x19_2).f0)) ∧ w'.cell? ⟨(ad269.add ((x19_2).toNat * 2)).block, (ad269.add ((x19_2).toNat * 2)).off + 1, none⟩ = some (.int .i64 ((rd_T127 t266 x19_2).f1))) (ds := []) (bsA 19 0) (by kernel_rfl) rfl rfl ⟨hx269_0, hx269_1, hx270_0, hx270_1⟩ (fun hHeld => ?_); refine with_tabW spec_l5Add.tab12 spec_l5Add.bits12 (fun HT_ HW_ => ?_)
         generalize wr.drew = w34 at HO_0 HO_18 BK261 HK HB hx269_0 hx269_1 hx270_0 hx270_1 hHeld ⊢
         refine pa_ (i := 0) (N := some 69) (bsA 19 1) (h := ?_)
         refine pa_ (i := 1) (N := some 70) (bsA 19 3) (h := ?_)
         refine pa_ (i := 2) (N := some 71) (bsA 19 7) (h := ?_)
         refine pa_ (i := 3) (N := some 72) (bsA 19 15) (h := ?_)
         refine pa_ (i := 4) (N := some 73) (bsA 19 31) (h := ?_)
         refine pa_ (i := 5) (N := some 74) (bsA 19 63) (h := ?_)
         refine pa_ (i := 7) (N := some 76) (bsA 19 191) (h := ?_)
         refine pa_ (i := 8) (N := some 77) (bsA 19 447) (h := ?_)
         refine pa_ (i := 9) (N := some 78) (bsA 19 959) (h := ?_)
         refine pa_ (i := 10) (N := some 79) (bsA 19 1983) (h := ?_)
         refine pa_ (i := 12) (N := some 81) (bsA 19 6079) (h := ?_)
         refine pa_ (i := 13) (N := some 82) (bsA 19 14271) (h := ?_)
         refine pa_ (i := 14) (N := some 83) (bsA 19 30655) (h := ?_)
         refine pa_ (i := 15) (N := some 84) (bsA 19 63423) (h := ?_)
         refine pa_ (i := 16) (N := some 85) (bsA 19 128959) (h := ?_)
         refine take_ (i := 6) (N := some 75) (v := ?_) (a' := ?_) (bsA 19 129023) rfl rfl (take_ofW HT_.out HW_.out (by kernel_rfl)) (fun _ _ _ h => h) (Or.inl ⟨by rfl, ?_⟩) hHeld ?_ ?_
         rotate_left
         ·rintro w' ⟨s0, s1, s2, s3⟩
          go_simp
          with_reducible rfl
         rotate_left
         ·simp only [Act.put, List.setIfInBounds_toArray, List.set_cons_zero, List.set_cons_succ, i64_w, i32_w]
          rfl
         refine take_ (i := 11) (N := some 80) (v := ?_) (a' := ?_) (bsA 19 131071) rfl rfl (take_ofW HT_.out HW_.out (by kernel_rfl)) (fun _ _ _ h => h) (Or.inl ⟨by rfl, ?_⟩) hHeld ?_ ?_
         rotate_left
         ·rintro w' ⟨s0, s1, s2, s3⟩
          go_simp
          with_reducible rfl
         rotate_left
         ·simp only [Act.put, List.setIfInBounds_toArray, List.set_cons_zero, List.set_cons_succ, i64_w, i32_w]
          rfl
         refine one_ (i := 17) (N := some 86) (bsA 19 262143) rfl rfl (one_of HT_.out (by kernel_rfl)) (by decide) (fun K hK => ?_)
         refine goes_ Tryd.func83 (by kernel_rfl) rfl #[.slice Ao33 x0_2.length co33, .slice A1 l1.length c1, .int .i64 ((rd_T127 t266 x19_2).f0), .int .i64 ((rd_T127 t266 x19_2).f1), .int .i64 (l0.length : Int), .int .i64 (wrap64 (x19_2 + 1)), .int .i64 (wrap64 (a6 + 1))] (by rfl) rfl rfl bM ?_
         with_reducible refine (ih k2 (zz53 HJ9.out HK2.out) (fun k_ => some k_ = (.slice Ao33 x0_2.length co33 : Value).ownBlock) (.slice Ao33 x0_2.length co33) x0_2 _ _ l1 ((rd_T127 t266 x19_2).f0) ((rd_T127 t266 x19_2).f1) (l0.length : Int) (wrap64 (x19_2 + 1)) (wrap64 (a6 + 1)) t271 w0 _ ?side1 ?side2 ?side3 ?side4 A31.out).mono ?_
         (case side1 => repeat (first | (with_reducible first | exact HB.out | apply below_alloc | apply pw_below_drewN | apply below_drew1 | refine below_set ?_ GE261.out) | exact HB.out))
         (case side2 => exact Kd.R_tight rfl HO_0.out)
         (case side3 => exact Kd.C_kept_call HR1.out (zz10 GW261.out) (fun k_ hs_ => (fun e_ => (HO_0.out.1 k_ e_.symm).1) hs_))
         (case side4 => exact HC1.out)
         rintro e w35 ⟨v272, rfl, ho0, hb, hkp⟩
         have HS0_ := cell_kept (hHeld.1) hkp (zz22 HO_18.out HO_0.out)
         have HS1_ := cell_kept (hHeld.2.1) hkp (zz22 HO_18.out HO_0.out)
         have HS2_ := cell_kept (hHeld.2.2.1) hkp (zz22 HO_18.out HO_0.out)
         have HS3_ := cell_kept (hHeld.2.2.2) hkp (zz22 HO_18.out HO_0.out)
         refine ⟨_, rfl, ?_⟩
         have n0_ := aM (Kd.R_mono (ok' := fun k_ => (P0_ k_ ∨ w.heap.size ≤ k_)) (Kd.R_keptB ((Kd.R_apart' HO_18.out (Kd.R_typed HO_0.out) (by decide))) hkp (fun k_ hk_ hs_ => (hk_.2) hs_)) (fun k_ hk_ => hk_.1.1))
         have n1_ := aM (blk_kept (bL BK261) hkp (fun hs_ => (fun e_ => (Kd.R_away HO_0.out (fun _ hk => hk.2)) e_) hs_))
         have n2_ := aM (Kd.R_mono (ok' := fun k_ => (P0_ k_ ∨ w.heap.size ≤ k_) ∧ k_ ≠ gb261) ho0 (fun k_ hk_ => ⟨Or.elim hk_ (fun hs_ => (HO_0.out.1 k_ (hs_).symm).1) (fun hn_ => (.inr (Nat.le_trans (by first | exact HK.out.1 | exact (show Kept w _ (fun k_ => P0_ k_) from zz10 GW261.out).1) hn_))), Or.elim hk_ (fun hs_ => fun e_ => (Kd.R_away HO_0.out (fun _ hk => hk.2)) (by rw [← e_]; exact hs_)) (fun hn_ => (Kd.freshB (g := gb261) (o := .cells #[.int .i64 t253, .int .i64 t254, .int .i64 t255, .int .i64 t256, .int .i64 t257, .int .i64 a4, .int .i64 a5] 23 (0, 0)) (bL BK261) k_ hn_))⟩))
         have n3_ := aM (Kept.then_ (S := (fun k_ => P0_ k_)) (zz10 GW261.out) hkp (fun k_ hs_ => (fun e_ => (HO_0.out.1 k_ e_.symm).1) hs_))
         have n4_ := aM (hb)
         clear HO_18
         clear BK261
         clear HK
         clear HB
         clear HO_0
         have HO_18 := n0_
         have BK261 := n1_
         have HO273 := n2_
         have HK := n3_
         have HB := n4_
         clear n0_ n1_ n2_ n3_ n4_
         (try clear hb)
         (try clear hkp)
         (try clear ho0)
         refine hK.out _ _ ⟨HS0_, HS1_, HS2_, HS3_⟩ (fun hHeld => ?_)
         clear hK K
         refine na_ (N := some 86) (h := ?_)
         refine pa_ (i := 18) (N := some 0) (bsA 19 524287) (h := ?_)
         refine done_ (done_of HT_.out (by kernel_rfl)) ?_
         try go_wp2
         go_roundg k2
         case measure => have := HJ9.out; have := HK2.out; omega
         case rel => exact ⟨(t271), (wrap64 (x19_2 + 1)), bS, H', ⟨zz53 HJ9.out HK2.out⟩, ⟨bR HO273⟩, ⟨bR HO_18⟩, ⟨bL BK261⟩, ⟨zz10 GW261.out⟩, ⟨bG GE261⟩⟩
        rw [if_neg c30] at H
        exact absurd H (by simp)
       rw [if_neg c29] at H
       have c29b0 : decide ((x0_2.length : Int) < 8) = false := decide_eq_false c29
       have c29b1 : decide (x0_2.length < 8) = false := decide_eq_false (by omega)
       clear c29
       obtain rfl := Option.some.inj H
       (try simp only [c29b0, c29b1])
       go_wp2
       go_ret
       exact ⟨_, bE, zz26 HO_0.out, bG GE261, zz10 GW261.out⟩
      rw [if_neg c28] at H
      have c28b0 : decide (x19_2 < (t266.length : Int)) = false := decide_eq_false c28
      clear c28
      obtain rfl := Option.some.inj H
      (try simp only [c28b0])
      go_wp2
      go_ret
      exact ⟨_, bE, zz26 HO_0.out, bG GE261, zz10 GW261.out⟩
 rw [if_neg c9] at H
 exact absurd H (by simp)
def spec_l5Parse.f (k : Nat) (l0 : List Int) : Option ((List (S23))) := (spec_l5Add.f k ([] : List (S23)) l0 0 (l0.length : Int) (-1) 0 1).bind fun t274 => (some t274)
set_option maxHeartbeats 8000000 in
set_option maxRecDepth 100000 in
theorem spec_l5Parse.calls (k : Nat) (A0 : Option Addr) (c0 : Nat) (l0 : List Int) (r : List (S23)) (w : World) (hr0 : Kd.C (Kd.int .u8) w A0 l0.length l0) (hc0 : l0.length ≤ c0) (h : spec_l5Parse.f k l0 = some r) :
  Calls Tryd.prog 46 #[.slice A0 l0.length c0] w fun e w' => ∃ v0_ : Value, e = .returned (v0_) ∧ Kd.R k23 23 w' w.heap.size (fun _ => True) v0_ r ∧ Below w.heap.size w w' := by
 have HR0 := aM hr0
 have HC0 := aM hc0
 clear hr0 hc0
 have HB := aM (Below.refl w.heap.size w)
 have H : ((spec_l5Add.f k ([] : List (S23)) l0 0 (l0.length : Int) (-1) 0 1).bind fun t274 => (some t274)) = some r := h
 clear h
 replace H := Option.bind_eq_some_iff.mp H
 obtain ⟨t274, A20, H⟩ := H
 replace H : (some t274) = some r := H
 have A2 := aM A20
 clear A20
 obtain rfl := Option.some.inj H
 go_enter Tryd.func46, Tryd.ntmps46
 go_wp2_with (first | ((with_reducible refine gate_callee (f := 83) rfl ?_); refine gL_ (some 6) Tryd.func83 #[.slice none 0 0, .slice A0 l0.length c0, .int .i64 0, .int .i64 (l0.length : Int), .int .i64 (-1), .int .i64 0, .int .i64 1] ?_; (refine (spec_l5Add.calls k (fun k_ => some k_ = (.slice none 0 0 : Value).ownBlock) (.slice none 0 0) ([] : List (S23)) _ _ l0 0 (l0.length : Int) (-1) 0 1 t274 w _ ?side1 ?side2 ?side3 ?side4 A2.out).mono ?_); (case side1 => exact zz28); (case side2 => exact Kd.R_nil _ _ _ _ _); (case side3 => exact Kd.C_kept_came (Kd.heap_int .u8) HR0.out bB (fun k_ hs_ => (fun e_ => by simp [Value.ownBlock] at e_) hs_)); (case side4 => exact HC0.out); rintro e w3 ⟨v275, rfl, ho0, hb, hkp⟩; refine ⟨_, rfl, ?_⟩; have HO276 := aM (Kd.R_mono (ok' := fun k_ => True) ho0 (fun k_ hk_ => trivial)); replace HB := aM (hb); (try clear hkp); (try clear ho0)))
 go_ret
 exact ⟨_, bE, bR HO276, bB⟩
mutual
def spec_l5At.l0 : Nat → List (S23) → List Int → Int → Int → Option (Int)
 | 0, _, _, _, _ => none
 | k + 1, x0, x1, x5, x6 => if x6 < (x1.length : Int) then (spec_l5At.l1 k x0 x1 x5 x6 (-1) 0) else (some x5)
def spec_l5At.l1 : Nat → List (S23) → List Int → Int → Int → Int → Int → Option (Int)
 | 0, _, _, _, _, _, _ => none
 | k + 1, x0, x1, x5, x6, x7, x8 => if x8 < (x0.length : Int) then (if 0 ≤ x8 then (if ((rd_T23 x0 x8).f5) = x5 then (if 0 ≤ x6 then (if x6 < (x1.length : Int) then (if ((rd_T23 x0 x8).f6) = (rd x1 x6) then (spec_l5At.l1 k x0 x1 x5 x6 x8 (wrap64 (x8 + 1))) else (spec_l5At.l1 k x0 x1 x5 x6 x7 (wrap64 (x8 + 1)))) else (none)) else (none)) else (spec_l5At.l1 k x0 x1 x5 x6 x7 (wrap64 (x8 + 1)))) else (none)) else (if x7 < 0 then (some (-1)) else (spec_l5At.l0 k x0 x1 x7 (wrap64 (x6 + 1))))
end
def spec_l5At.f (k : Nat) (l0 : List (S23)) (l1 : List Int) : Option (Int) := spec_l5At.l0 k l0 l1 0 0
set_option maxHeartbeats 8000000 in
set_option maxRecDepth 100000 in
theorem spec_l5At.calls (k : Nat) (A0 : Option Addr) (c0 : Nat) (l0 : List (S23)) (A1 : Option Addr) (c1 : Nat) (l1 : List Int) (r : Int) (w : World) (hr0 : Kd.C k23 w A0 l0.length l0) (hc0 : l0.length ≤ c0) (hr1 : Kd.C (Kd.int .i64) w A1 l1.length l1) (hc1 : l1.length ≤ c1) (h : spec_l5At.f k l0 l1 = some r) :
  Calls Tryd.prog 52 #[.slice A0 l0.length c0, .slice A1 l1.length c1] w fun e w' => e = .returned (.int .i64 r) ∧ Drawn0 w w' := by
 have HR0 := aM hr0
 have HC0 := aM hc0
 clear hr0 hc0
 have HR1 := aM hr1
 have HC1 := aM hc1
 clear hr1 hc1
 have H : (spec_l5At.l0 k l0 l1 0 0) = some r := h
 clear h
 have H' := aM H
 clear H
 go_enter Tryd.func52, Tryd.ntmps52
 go_wp2
 repeat (go_quiet (fail); try go_wp2)
 go_loopg [5, 6] k (fun kq v5 v6 w' => ∃ (x5_1 : Int) (x6_1 : Int), v5 = .int .i64 x5_1 ∧ v6 = .int .i64 x6_1 ∧ Aside0 (spec_l5At.l0 kq l0 l1 x5_1 x6_1 = some r) ∧ Aside0 (kq ≤ k) ∧ Drawn0 w w')
 case atStart => exact ⟨(0), (0), bS, bS, H', ⟨Nat.le_refl _⟩, zz5⟩
 case round =>
  clear H'
  try clear c1
  try clear p2
  obtain ⟨x5_1, x6_1, rfl, rfl, HA, HK1, ⟨m1, rfl⟩⟩ := hrel
  cases gk with
  | zero => exact absurd HA.out (by simp [spec_l5At.l0])
  | succ k1 =>
   have H := HA.out
   clear HA
   simp only [spec_l5At.l0] at H
   by_cases c3 : x6_1 < (l1.length : Int)
   ·rw [if_pos c3] at H
    have c3b0 : decide (x6_1 < (l1.length : Int)) = true := decide_eq_true c3
    clear c3
    have H' := aM H
    clear H
    go_wp2
    repeat (go_quiet (fail); try go_wp2)
    go_loopg [7, 8] k1 (fun kq v7 v8 w' => ∃ (x7_2 : Int) (x8_2 : Int), v7 = .int .i64 x7_2 ∧ v8 = .int .i64 x8_2 ∧ Aside0 (spec_l5At.l1 kq l0 l1 x5_1 x6_1 x7_2 x8_2 = some r) ∧ Aside0 (kq ≤ k1) ∧ Drawn0 w w')
    case atStart => exact ⟨((-1)), (0), bS, bS, H', ⟨Nat.le_refl _⟩, zz5⟩
    case round =>
     clear H'
     try clear c1
     try clear p2
     try clear c3
     try clear c3b0
     try clear p2
     obtain ⟨x7_2, x8_2, rfl, rfl, HA, HK2, ⟨m2, rfl⟩⟩ := hrel
     cases gk with
     | zero => exact absurd HA.out (by simp [spec_l5At.l1])
     | succ k2 =>
      have H := HA.out
      clear HA
      simp only [spec_l5At.l1] at H
      by_cases c4 : x8_2 < (l0.length : Int)
      ·rw [if_pos c4] at H
       have c4b0 : decide (x8_2 < (l0.length : Int)) = true := decide_eq_true c4
       clear c4
       by_cases c5 : 0 ≤ x8_2
       ·rw [if_pos c5] at H
        have c5b0 : decide (0 ≤ x8_2) = true := decide_eq_true c5
        clear c5
        by_cases c6 : ((rd_T23 l0 x8_2).f5) = x5_1
        ·rw [if_pos c6] at H
         have c6b0 : (((rd_T23 l0 x8_2).f5) == x5_1) = true := beq_iff_eq.mpr c6
         have c6b1 : (((rd_T23 l0 x8_2).f5) != x5_1) = false := bne_eq_false_iff_eq.mpr c6
         clear c6
         by_cases c7 : 0 ≤ x6_1
         ·rw [if_pos c7] at H
          have c7b0 : decide (0 ≤ x6_1) = true := decide_eq_true c7
          clear c7
          by_cases c8 : x6_1 < (l1.length : Int)
          ·rw [if_pos c8] at H
           have c8b0 : decide (x6_1 < (l1.length : Int)) = true := decide_eq_true c8
           clear c8
           by_cases c9 : ((rd_T23 l0 x8_2).f6) = (rd l1 x6_1)
           ·rw [if_pos c9] at H
            have c9b0 : (((rd_T23 l0 x8_2).f6) == (rd l1 x6_1)) = true := beq_iff_eq.mpr c9
            have c9b1 : (((rd_T23 l0 x8_2).f6) != (rd l1 x6_1)) = false := bne_eq_false_iff_eq.mpr c9
            clear c9
            have H' := aM H
            clear H
            have p277 : 0 ≤ (x8_2 : Int) := pI
            have q277 : x8_2 < (l0.length : Int) := pI
            obtain ⟨ad277, e277, hx277_0, hx277_1, hx277_2, hx277_3, hx277_4, hx277_5, hx277_6⟩ := at_T23 HR0.out x8_2 p277 q277
            cases e277
            replace p277 := eq_true p277
            replace q277 := eq_true q277
            have p278 : 0 ≤ (x8_2 : Int) := pI
            have q278 : x8_2 < (l0.length : Int) := pI
            obtain ⟨ad278, e278, hx278_0, hx278_1, hx278_2, hx278_3, hx278_4, hx278_5, hx278_6⟩ := at_T23 HR0.out x8_2 p278 q278
            obtain rfl : ad277 = ad278 := (by injection e278)
            replace p278 := eq_true p278
            replace q278 := eq_true q278
            have p279 : 0 ≤ (x6_1 : Int) := pI
            have q279 : x6_1 < (l1.length : Int) := pI
            obtain ⟨ad279, e279, hx279_0⟩ := Kd.at_int HR1.out x6_1 p279 q279
            cases e279
            replace p279 := eq_true p279
            replace q279 := eq_true q279
            go_wp2
            repeat (go_quiet (fail); try go_wp2)
            go_roundg k2
            case measure => have := HK1.out; have := HK2.out; omega
            case rel => exact ⟨(x8_2), (wrap64 (x8_2 + 1)), bS, bS, H', ⟨zz53 HK1.out HK2.out⟩, zz5⟩
           rw [if_neg c9] at H
           have c9b0 : (((rd_T23 l0 x8_2).f6) == (rd l1 x6_1)) = false := beq_eq_false_iff_ne.mpr c9
           have c9b1 : (((rd_T23 l0 x8_2).f6) != (rd l1 x6_1)) = true := bne_iff_ne.mpr c9
           have H' := aM H
           clear H
           have p277 : 0 ≤ (x8_2 : Int) := pI
           have q277 : x8_2 < (l0.length : Int) := pI
           obtain ⟨ad277, e277, hx277_0, hx277_1, hx277_2, hx277_3, hx277_4, hx277_5, hx277_6⟩ := at_T23 HR0.out x8_2 p277 q277
           cases e277
           replace p277 := eq_true p277
           replace q277 := eq_true q277
           have p278 : 0 ≤ (x8_2 : Int) := pI
           have q278 : x8_2 < (l0.length : Int) := pI
           obtain ⟨ad278, e278, hx278_0, hx278_1, hx278_2, hx278_3, hx278_4, hx278_5, hx278_6⟩ := at_T23 HR0.out x8_2 p278 q278
           obtain rfl : ad277 = ad278 := (by injection e278)
           replace p278 := eq_true p278
           replace q278 := eq_true q278
           have p279 : 0 ≤ (x6_1 : Int) := pI
           have q279 : x6_1 < (l1.length : Int) := pI
           obtain ⟨ad279, e279, hx279_0⟩ := Kd.at_int HR1.out x6_1 p279 q279
           cases e279
           replace p279 := eq_true p279
           replace q279 := eq_true q279
           go_wp2
           repeat (go_quiet (fail); try go_wp2)
           go_roundg k2
           case measure => have := HK1.out; have := HK2.out; omega
           case rel => exact ⟨(x7_2), (wrap64 (x8_2 + 1)), bS, bS, H', ⟨zz53 HK1.out HK2.out⟩, zz5⟩
          rw [if_neg c8] at H
          exact absurd H (by simp)
         rw [if_neg c7] at H
         exact absurd H (by simp)
        rw [if_neg c6] at H
        have c6b0 : (((rd_T23 l0 x8_2).f5) == x5_1) = false := beq_eq_false_iff_ne.mpr c6
        have c6b1 : (((rd_T23 l0 x8_2).f5) != x5_1) = true := bne_iff_ne.mpr c6
        have H' := aM H
        clear H
        have p277 : 0 ≤ (x8_2 : Int) := pI
        have q277 : x8_2 < (l0.length : Int) := pI
        obtain ⟨ad277, e277, hx277_0, hx277_1, hx277_2, hx277_3, hx277_4, hx277_5, hx277_6⟩ := at_T23 HR0.out x8_2 p277 q277
        cases e277
        replace p277 := eq_true p277
        replace q277 := eq_true q277
        go_wp2
        repeat (go_quiet (fail); try go_wp2)
        go_roundg k2
        case measure => have := HK1.out; have := HK2.out; omega
        case rel => exact ⟨(x7_2), (wrap64 (x8_2 + 1)), bS, bS, H', ⟨zz53 HK1.out HK2.out⟩, zz5⟩
       rw [if_neg c5] at H
       exact absurd H (by simp)
      rw [if_neg c4] at H
      have c4b0 : decide (x8_2 < (l0.length : Int)) = false := decide_eq_false c4
      clear c4
      by_cases c10 : x7_2 < 0
      ·rw [if_pos c10] at H
       have c10b0 : decide (x7_2 < 0) = true := decide_eq_true c10
       clear c10
       obtain rfl := Option.some.inj H
       go_wp2
       repeat (go_quiet (fail); try go_wp2)
       go_ret
       exact ⟨bS, zz5⟩
      rw [if_neg c10] at H
      have c10b0 : decide (x7_2 < 0) = false := decide_eq_false c10
      clear c10
      have H' := aM H
      clear H
      go_wp2
      repeat (go_quiet (fail); try go_wp2)
      go_roundg k2
      case measure => have := HK1.out; have := HK2.out; omega
      case rel => exact ⟨(x7_2), (wrap64 (x6_1 + 1)), bS, bS, H', ⟨zz53 HK1.out HK2.out⟩, zz5⟩
   rw [if_neg c3] at H
   have c3b0 : decide (x6_1 < (l1.length : Int)) = false := decide_eq_false c3
   clear c3
   obtain rfl := Option.some.inj H
   go_wp2
   repeat (go_quiet (fail); try go_wp2)
   go_ret
   exact ⟨bS, zz5⟩
def spec_PartAt.f (k : Nat) (l0 : List Int) (l1 : List Int) : Option (Int × Int) := if (l0.length : Int) > 400 then (some (2, 0)) else ((spec_l5Parse.f k l0).bind fun t281 => ((spec_l5At.f k t281 l1).bind fun t284 => (if t284 < 0 then (some (4, 0)) else (some (0, t284)))))
set_option maxHeartbeats 8000000 in
set_option maxRecDepth 100000 in
theorem spec_PartAt.calls (k : Nat) (A0 : Option Addr) (c0 : Nat) (l0 : List Int) (A1 : Option Addr) (c1 : Nat) (l1 : List Int) (r1 : Int) (r2 : Int) (w : World) (hr0 : Kd.C (Kd.int .u8) w A0 l0.length l0) (hc0 : l0.length ≤ c0) (hr1 : Kd.C (Kd.int .i64) w A1 l1.length l1) (hc1 : l1.length ≤ c1) (h : spec_PartAt.f k l0 l1 = some (r1, r2)) :
  Calls Tryd.prog 20 #[.slice A0 l0.length c0, .slice A1 l1.length c1] w fun e w' => e = .returned (.agg #[.int .i64 r1, .int .i64 r2]) ∧ Below w.heap.size w w' := by
 have hu39 := Tryd.underlying39
 have HR0 := aM hr0
 have HC0 := aM hc0
 clear hr0 hc0
 have HR1 := aM hr1
 have HC1 := aM hc1
 clear hr1 hc1
 have HB := aM (Below.refl w.heap.size w)
 have H : (if (l0.length : Int) > 400 then (some (2, 0)) else ((spec_l5Parse.f k l0).bind fun t281 => ((spec_l5At.f k t281 l1).bind fun t284 => (if t284 < 0 then (some (4, 0)) else (some (0, t284)))))) = some (r1, r2) := h
 clear h
 by_cases c3 : (l0.length : Int) > 400
 ·rw [if_pos c3] at H
  have c3b0 : decide (400 < (l0.length : Int)) = true := decide_eq_true c3
  have c3b1 : decide (400 < l0.length) = true := decide_eq_true (by omega)
  clear c3
  simp only [Option.some.injEq, Prod.mk.injEq] at H
  obtain ⟨rfl, rfl⟩ := H
  go_enter Tryd.func20, Tryd.ntmps20
  go_wp2_with (first | ((with_reducible refine gate_dst (N := 4) rfl ?_); refine box_event ?hg (N := 4) ?hd (cs := #[.int .i64 0, .int .i64 0]) (t := 39) ?hr ?_; (case hd => rfl); (case hg => rfl); (case hr => exact zz13); intro gb280 hg w4 hbox hb; have BK280 := aM (hbox); have GW280 := aM ((zz18 : w.heap.size ≤ gb280)); have GE280 := aM ((zz18 : w.heap.size ≤ gb280)); replace HB := aM (below_step bB hb); clear hb hbox hg; have hcz5_0 : w4.cell? ⟨gb280, 0, none⟩ = some (.int .i64 0) := (blk_cell BK280.out 0).trans rfl; have hcz5_1 : w4.cell? ⟨gb280, 1, none⟩ = some (.int .i64 0) := (blk_cell BK280.out 1).trans rfl; have hfz5_0 := blk_frozen BK280.out 0; have hfz5_1 := blk_frozen BK280.out 1))
  refine bodyPost_ret (results_cell_row rfl _ _ gb280 39 #[.int .i64 2, .int .i64 0] (0, 0) _ rfl (by (with_reducible repeat (first | refine blk_drewN ?_ _ | refine blk_drew ?_ | refine blk_alloc ?_ _)); refine blk_put (cs := #[.int .i64 2, .int .i64 0]) ?_ 1 _ rfl; (with_reducible repeat (first | refine blk_drewN ?_ _ | refine blk_drew ?_ | refine blk_alloc ?_ _)); refine blk_put (cs := #[.int .i64 0, .int .i64 0]) ?_ 0 _ rfl; (with_reducible repeat (first | refine blk_drewN ?_ _ | refine blk_drew ?_ | refine blk_alloc ?_ _)); exact BK280.out) Tryd.underlying39 rfl (by kernel_rfl)) rfl ?_
  exact ⟨bE, bG GE280⟩
 rw [if_neg c3] at H
 have c3b0 : decide (400 < (l0.length : Int)) = false := decide_eq_false c3
 have c3b1 : decide (400 < l0.length) = false := decide_eq_false (by omega)
 clear c3
 replace H := Option.bind_eq_some_iff.mp H
 obtain ⟨t281, A60, H⟩ := H
 replace H : ((spec_l5At.f k t281 l1).bind fun t284 => (if t284 < 0 then (some (4, 0)) else (some (0, t284)))) = some (r1, r2) := H
 have A6 := aM A60
 clear A60
 replace H := Option.bind_eq_some_iff.mp H
 obtain ⟨t284, A70, H⟩ := H
 replace H : (if t284 < 0 then (some (4, 0)) else (some (0, t284))) = some (r1, r2) := H
 have A7 := aM A70
 clear A70
 by_cases c8 : t284 < 0
 ·rw [if_pos c8] at H
  have c8b0 : decide (t284 < 0) = true := decide_eq_true c8
  clear c8
  simp only [Option.some.injEq, Prod.mk.injEq] at H
  obtain ⟨rfl, rfl⟩ := H
  go_enter Tryd.func20, Tryd.ntmps20
  go_wp2_with (first | ((with_reducible refine gate_dst (N := 4) rfl ?_); refine box_event ?hg (N := 4) ?hd (cs := #[.int .i64 0, .int .i64 0]) (t := 39) ?hr ?_; (case hd => rfl); (case hg => rfl); (case hr => exact zz13); intro gb280 hg w9 hbox hb; have BK280 := aM (hbox); have GW280 := aM ((zz18 : w.heap.size ≤ gb280)); have GE280 := aM ((zz18 : w.heap.size ≤ gb280)); replace HB := aM (below_step bB hb); clear hb hbox hg) | ((with_reducible refine gate_callee (f := 46) rfl ?_); refine gL_ (some 11) Tryd.func46 #[.slice A0 l0.length c0] ?_; (with_reducible refine (spec_l5Parse.calls k _ _ l0 t281 _ ?side1 ?side2 A6.out).mono ?_); (case side1 => exact zz6 HR0.out); (case side2 => exact HC0.out); rintro e w10 ⟨v282, rfl, ho0, hb⟩; refine ⟨_, rfl, ?_⟩; have HO283 := aM (Kd.R_lower ho0 (below_size (bG GE280))); replace BK280 := aM (blk_below (g := gb280) (o := .cells #[.int .i64 0, .int .i64 0] 39 (0, 0)) (bL BK280) hb); replace HB := aM (below_step (bG GE280) hb); (try clear ho0); obtain ⟨Ao11, co11, eo11⟩ := Kd.R_slice HO283.out; subst eo11) | ((with_reducible refine gate_callee (f := 52) rfl ?_); refine gL_ (some 13) Tryd.func52 #[.slice Ao11 t281.length co11, .slice A1 l1.length c1] ?_; (with_reducible refine (spec_l5At.calls k _ _ t281 _ _ l1 t284 _ ?side1 ?side2 ?side3 ?side4 A7.out).mono ?_); (case side1 => exact zz7 HO283.out); (case side2 => exact (Kd.R_reads' HO283.out).2.1); (case side3 => exact zz6 HR1.out); (case side4 => exact HC1.out); rintro e w' ⟨rfl, ⟨nd, rfl⟩⟩; refine ⟨_, rfl, ?_⟩; (try (rw [drewN_self w10]; generalize hq_ : World.drewN w10 _ = w10; have n0_ : Aside0 (Kd.R k23 23 w10 w.heap.size (fun _ => True) (.slice Ao11 t281.length co11) t281) := ⟨by rw [← hq_]; exact (bR HO283)⟩; have n1_ : Aside0 (w10.heap[gb280]? = some (.cells #[.int .i64 0, .int .i64 0] 39 (0, 0))) := ⟨by rw [← hq_]; exact (bL BK280)⟩; have n2_ : Aside0 (Below w.heap.size w w10) := ⟨by rw [← hq_]; exact (bG GE280)⟩; clear HO283 BK280 HB hq_; have HO283 := n0_; have BK280 := n1_; have HB := n2_; clear n0_ n1_ n2_)); have hcz12_0 : w10.cell? ⟨gb280, 0, none⟩ = some (.int .i64 0) := (blk_cell BK280.out 0).trans rfl; have hcz12_1 : w10.cell? ⟨gb280, 1, none⟩ = some (.int .i64 0) := (blk_cell BK280.out 1).trans rfl; have hfz12_0 := blk_frozen BK280.out 0; have hfz12_1 := blk_frozen BK280.out 1))
  refine bodyPost_ret (results_cell_row rfl _ _ gb280 39 #[.int .i64 4, .int .i64 0] (0, 0) _ rfl (by (with_reducible repeat (first | refine blk_drewN ?_ _ | refine blk_drew ?_ | refine blk_alloc ?_ _)); refine blk_put (cs := #[.int .i64 4, .int .i64 0]) ?_ 1 _ rfl; (with_reducible repeat (first | refine blk_drewN ?_ _ | refine blk_drew ?_ | refine blk_alloc ?_ _)); refine blk_put (cs := #[.int .i64 0, .int .i64 0]) ?_ 0 _ rfl; (with_reducible repeat (first | refine blk_drewN ?_ _ | refine blk_drew ?_ | refine blk_alloc ?_ _)); exact BK280.out) Tryd.underlying39 rfl (by kernel_rfl)) rfl ?_
  exact ⟨bE, bG GE280⟩
 rw [if_neg c8] at H
 have c8b0 : decide (t284 < 0) = false := decide_eq_false c8
 clear c8
 simp only [Option.some.injEq, Prod.mk.injEq] at H
 obtain ⟨rfl, rfl⟩ := H
 go_enter Tryd.func20, Tryd.ntmps20
 go_wp2_with (first | ((with_reducible refine gate_dst (N := 4) rfl ?_); refine box_event ?hg (N := 4) ?hd (cs := #[.int .i64 0, .int .i64 0]) (t := 39) ?hr ?_; (case hd => rfl); (case hg => rfl); (case hr => exact zz13); intro gb280 hg w13 hbox hb; have BK280 := aM (hbox); have GW280 := aM ((zz18 : w.heap.size ≤ gb280)); have GE280 := aM ((zz18 : w.heap.size ≤ gb280)); replace HB := aM (below_step bB hb); clear hb hbox hg) | ((with_reducible refine gate_callee (f := 46) rfl ?_); refine gL_ (some 11) Tryd.func46 #[.slice A0 l0.length c0] ?_; (with_reducible refine (spec_l5Parse.calls k _ _ l0 t281 _ ?side1 ?side2 A6.out).mono ?_); (case side1 => exact zz6 HR0.out); (case side2 => exact HC0.out); rintro e w14 ⟨v282, rfl, ho0, hb⟩; refine ⟨_, rfl, ?_⟩; have HO283 := aM (Kd.R_lower ho0 (below_size (bG GE280))); replace BK280 := aM (blk_below (g := gb280) (o := .cells #[.int .i64 0, .int .i64 0] 39 (0, 0)) (bL BK280) hb); replace HB := aM (below_step (bG GE280) hb); (try clear ho0); obtain ⟨Ao15, co15, eo15⟩ := Kd.R_slice HO283.out; subst eo15) | ((with_reducible refine gate_callee (f := 52) rfl ?_); refine gL_ (some 13) Tryd.func52 #[.slice Ao15 t281.length co15, .slice A1 l1.length c1] ?_; (with_reducible refine (spec_l5At.calls k _ _ t281 _ _ l1 t284 _ ?side1 ?side2 ?side3 ?side4 A7.out).mono ?_); (case side1 => exact zz7 HO283.out); (case side2 => exact (Kd.R_reads' HO283.out).2.1); (case side3 => exact zz6 HR1.out); (case side4 => exact HC1.out); rintro e w' ⟨rfl, ⟨nd, rfl⟩⟩; refine ⟨_, rfl, ?_⟩; (try (rw [drewN_self w14]; generalize hq_ : World.drewN w14 _ = w14; have n0_ : Aside0 (Kd.R k23 23 w14 w.heap.size (fun _ => True) (.slice Ao15 t281.length co15) t281) := ⟨by rw [← hq_]; exact (bR HO283)⟩; have n1_ : Aside0 (w14.heap[gb280]? = some (.cells #[.int .i64 0, .int .i64 0] 39 (0, 0))) := ⟨by rw [← hq_]; exact (bL BK280)⟩; have n2_ : Aside0 (Below w.heap.size w w14) := ⟨by rw [← hq_]; exact (bG GE280)⟩; clear HO283 BK280 HB hq_; have HO283 := n0_; have BK280 := n1_; have HB := n2_; clear n0_ n1_ n2_)); have hcz16_0 : w14.cell? ⟨gb280, 0, none⟩ = some (.int .i64 0) := (blk_cell BK280.out 0).trans rfl; have hcz16_1 : w14.cell? ⟨gb280, 1, none⟩ = some (.int .i64 0) := (blk_cell BK280.out 1).trans rfl; have hfz16_0 := blk_frozen BK280.out 0; have hfz16_1 := blk_frozen BK280.out 1))
 refine bodyPost_ret (results_cell_row rfl _ _ gb280 39 #[.int .i64 0, .int .i64 t284] (0, 0) _ rfl (by (with_reducible repeat (first | refine blk_drewN ?_ _ | refine blk_drew ?_ | refine blk_alloc ?_ _)); refine blk_put (cs := #[.int .i64 0, .int .i64 0]) ?_ 1 _ rfl; (with_reducible repeat (first | refine blk_drewN ?_ _ | refine blk_drew ?_ | refine blk_alloc ?_ _)); refine blk_put (cs := #[.int .i64 0, .int .i64 0]) ?_ 0 _ rfl; (with_reducible repeat (first | refine blk_drewN ?_ _ | refine blk_drew ?_ | refine blk_alloc ?_ _)); exact BK280.out) Tryd.underlying39 rfl (by kernel_rfl)) rfl ?_
 exact ⟨bE, bG GE280⟩
end Go.Proofs.YtecpanfndodjgaaDoor.PPartAt
