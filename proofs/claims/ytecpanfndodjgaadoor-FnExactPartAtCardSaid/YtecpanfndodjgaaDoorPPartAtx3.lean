/- Part of the proof; words that it uses. -/
import Derived.Test.YtecpanfndodjgaaDoorPPartAtx0
namespace Go.Proofs.YtecpanfndodjgaaDoor.PPartAt
open Go.RowKit Go.Proofs.YtecpanfndodjgaaDoorW.PrintWords Go.Proofs.YtecpanfndodjgaaDoorW.PrintLast Go.Proofs.YtecpanfndodjgaaDoorW.PrintMore
attribute [local go_sem] max2_int max_two
set_option linter.unusedVariables false
set_option linter.unusedSimpArgs false
mutual
def spec_l4Line.j0 : Nat → List (S151) → ByteArray → Int → Bool → Option ((List (S151)) × Bool)
 | 0, _, _, _, _ => none
 | k + 1, x0, x1, x6, x19 => if x19 = true then (if x6 = 0 then (some (([] : List (S151)), false)) else ((some (([] : List (S151)) : List (S151))).bind fun y145 => (if y145.length + x0.length < 4398046511104 then ((some (y145 ++ x0 : List (S151))).bind fun y148 => (if 0 ≤ (wrap64 (x6 - 1)) then (if (wrap64 (x6 - 1)) < (y148.length : Int) then (if ((rd_T151 y148 (wrap64 (x6 - 1))).f1).size + x1.size ≤ 9223372036854775807 then (some ((y148.set ((wrap64 (x6 - 1)) : Int).toNat (⟨(rd_T151 y148 (wrap64 (x6 - 1))).f0, ((rd_T151 y148 (wrap64 (x6 - 1))).f1) ++ x1⟩ : S151)), true)) else (none)) else (none)) else (none))) else (none)))) else (spec_l4Line.l0 k x0 x1 0)
def spec_l4Line.l0 : Nat → List (S151) → ByteArray → Int → Option ((List (S151)) × Bool)
 | 0, _, _, _ => none
 | k + 1, x0, x1, x8 => if x8 < (x1.size : Int) then (if 0 ≤ x8 then (if (bt x1 x8) = 58 then (if 0 ≤ (wrap64 (x8 + 1)) then (if (wrap64 (x8 + 1)) ≤ (x1.size : Int) then (if (x1.extract ((wrap64 (x8 + 1)) : Int).toNat x1.size).toList = ([] : List UInt8) then ((some (([] : List (S151)) : List (S151))).bind fun y153 => (if y153.length + x0.length < 4398046511104 then ((some (y153 ++ x0 : List (S151))).bind fun y156 => (if x8 ≤ (x1.size : Int) then ((some (([(⟨x1.extract 0 (x8 : Int).toNat, x1.extract ((wrap64 (x8 + 1)) : Int).toNat x1.size⟩ : S151)] : List (S151)) : List (S151))).bind fun y159 => (if y156.length + y159.length < 4398046511104 then (some ((y156 ++ y159), true)) else (none))) else (none))) else (none))) else (if 0 < ((x1.extract ((wrap64 (x8 + 1)) : Int).toNat x1.size).size : Int) then (if (bt (x1.extract ((wrap64 (x8 + 1)) : Int).toNat x1.size) 0) = 32 then (if 1 ≤ ((x1.extract ((wrap64 (x8 + 1)) : Int).toNat x1.size).size : Int) then ((some (([] : List (S151)) : List (S151))).bind fun y165 => (if y165.length + x0.length < 4398046511104 then ((some (y165 ++ x0 : List (S151))).bind fun y168 => (if x8 ≤ (x1.size : Int) then ((some (([(⟨x1.extract 0 (x8 : Int).toNat, (x1.extract ((wrap64 (x8 + 1)) : Int).toNat x1.size).extract 1 (x1.extract ((wrap64 (x8 + 1)) : Int).toNat x1.size).size⟩ : S151)] : List (S151)) : List (S151))).bind fun y171 => (if y168.length + y171.length < 4398046511104 then (some ((y168 ++ y171), true)) else (none))) else (none))) else (none))) else (none)) else ((some (([] : List (S151)) : List (S151))).bind fun y177 => (if y177.length + x0.length < 4398046511104 then ((some (y177 ++ x0 : List (S151))).bind fun y180 => (if x8 ≤ (x1.size : Int) then ((some (([(⟨x1.extract 0 (x8 : Int).toNat, x1.extract ((wrap64 (x8 + 1)) : Int).toNat x1.size⟩ : S151)] : List (S151)) : List (S151))).bind fun y183 => (if y180.length + y183.length < 4398046511104 then (some ((y180 ++ y183), true)) else (none))) else (none))) else (none)))) else (none))) else (none)) else (none)) else (spec_l4Line.l0 k x0 x1 (wrap64 (x8 + 1)))) else (none)) else (some (([] : List (S151)), false))
end
def spec_l4Line.f (k : Nat) (l0 : List (S151)) (a1 : ByteArray) : Option ((List (S151)) × Bool) := if 0 < (a1.size : Int) then (if (bt a1 0) = 32 then (spec_l4Line.j0 k l0 a1 (l0.length : Int) true) else (spec_l4Line.j0 k l0 a1 (l0.length : Int) ((bt a1 0) == 9))) else (none)
def spec_l4Line.T15 : Bool × List (List Nat × List Nat) := (true, [([], []), ([], []), ([0, 1], [0, 1]), ([], []), ([], []), ([3, 4], [3, 4]), ([], []), ([5, 6], [5, 6]), ([7], [7]), ([2, 8, 2], [2, 8]), ([9, 9, 0, 1, 2, 3, 4, 5, 6, 7, 8, 9], [9]), ([10, 0, 1, 2, 3, 4, 5, 6, 7, 8, 9, 10], [])])
def spec_l4Line.B15 : List Nat := [0, 0, 3, 0, 0, 24, 0, 120, 248, 511, 1023, 2047]
theorem spec_l4Line.tab15 : rtab .any (opsOf Tryd.f142 15) = spec_l4Line.T15 := by kernel_rfl
theorem spec_l4Line.bits15 : waitsOk spec_l4Line.T15.2 spec_l4Line.B15 = true := by kernel_rfl
set_option maxHeartbeats 8000000 in
set_option maxRecDepth 100000 in
theorem spec_l4Line.calls (k : Nat) (A0 : Option Addr) (c0 : Nat) (l0 : List (S151)) (a1 : ByteArray) (r1 : List (S151)) (r2 : Bool) (w : World) (hr0 : Kd.C k151 w A0 l0.length l0) (hc0 : l0.length ≤ c0) (h : spec_l4Line.f k l0 a1 = some (r1, r2)) :
  Calls Tryd.prog 142 #[.slice A0 l0.length c0, .string a1] w fun e w' => ∃ v0_ : Value, e = .returned (.tuple #[v0_, .bool r2]) ∧ Kd.R k151 151 w' w.heap.size (fun _ => True) v0_ r1 ∧ Below w.heap.size w w' := by
 have hu151 := Tryd.underlying151
 have HR0 := aM hr0
 have HC0 := aM hc0
 clear hr0 hc0
 have HB := aM (Below.refl w.heap.size w)
 have H : (if 0 < (a1.size : Int) then (if (bt a1 0) = 32 then (spec_l4Line.j0 k l0 a1 (l0.length : Int) true) else (spec_l4Line.j0 k l0 a1 (l0.length : Int) ((bt a1 0) == 9))) else (none)) = some (r1, r2) := h
 clear h
 have HC3 := aM H
 clear H
 go_enter Tryd.func142, Tryd.ntmps142
 go_upto_region 2 with (fail)
 go_cut [19] (fun v19 wc => ∃ (kq : Nat) (x19_2 : Bool), v19 = .bool x19_2 ∧ Aside0 (spec_l4Line.j0 kq l0 a1 (l0.length : Int) x19_2 = some (r1, r2)) ∧ Aside0 (kq ≤ k) ∧ Aside0 (Below w.heap.size w wc))
 case first =>
  have H := HC3.out
  clear HC3
  by_cases c4 : 0 < (a1.size : Int)
  ·rw [if_pos c4] at H
   have c4b0 : decide (0 < (a1.size : Int)) = true := decide_eq_true c4
   have c4b1 : decide (0 < a1.size) = true := decide_eq_true (by omega)
   clear c4
   have HQ_ := aM H
   clear H
   (first | rw [c4b0] | rw [c4b1] | (simp only [i64_w, i32_w]; rw [c4b0]) | skip)
   have p5 : 0 ≤ (0 : Int) := (by omega)
   have q5 : 0 < a1.size := (by have : (0 : Int) < (a1.size : Int) := pI; omega)
   have hx5 : ∀ h : 0 < a1.size, ((a1[0]'h).toNat : Int) = bt a1 0 := bt_at a1 0
   clear p5
   have qi5 : (0 < (a1.size : Int)) = True := eq_true (pI)
   replace q5 := eq_true q5
   have H := HQ_.out
   clear HQ_
   by_cases c6 : (bt a1 0) = 32
   ·rw [if_pos c6] at H
    have c6b0 : ((bt a1 0) == 32) = true := beq_iff_eq.mpr c6
    have c6b1 : ((bt a1 0) != 32) = false := bne_eq_false_iff_eq.mpr c6
    clear c6
    have H' := aM H
    clear H
    (try simp only [c6b0, c6b1])
    go_wp2
    go_meet
    case rel => exact ⟨_, (true), bS, H', ⟨zz52⟩, ⟨bB⟩⟩
   rw [if_neg c6] at H
   have c6b0 : ((bt a1 0) == 32) = false := beq_eq_false_iff_ne.mpr c6
   have c6b1 : ((bt a1 0) != 32) = true := bne_iff_ne.mpr c6
   have H' := aM H
   clear H
   (try simp only [c6b0, c6b1])
   have p7 : 0 ≤ (0 : Int) := (by omega)
   have q7 : 0 < a1.size := (by have : (0 : Int) < (a1.size : Int) := pI; omega)
   have hx7 : ∀ h : 0 < a1.size, ((a1[0]'h).toNat : Int) = bt a1 0 := bt_at a1 0
   clear p7
   have qi7 : (0 < (a1.size : Int)) = True := eq_true (pI)
   replace q7 := eq_true q7
   go_wp2
   go_meet
   case rel => exact ⟨_, (((bt a1 0) == 9)), bS, H', ⟨zz52⟩, ⟨bB⟩⟩
  rw [if_neg c4] at H
  exact absurd H (by simp)
 case rest =>
  clear HC3
  try clear c1
  try clear p2
  try clear c4
  try clear c4b0
  try clear c4b1
  try clear p5
  try clear q5
  try clear hx5
  try clear qi5
  try clear c6
  try clear c6b0
  try clear c6b1
  try clear p7
  try clear q7
  try clear hx7
  try clear qi7
  try clear p5
  try clear p7
  try clear q5
  try clear q7
  obtain ⟨kq, x19_2, rfl, HA, HJ2, HB⟩ := hcut
  cases kq with
  | zero => exact absurd HA.out (by simp [spec_l4Line.j0])
  | succ kj2 =>
   have H := HA.out
   clear HA
   simp only [spec_l4Line.j0] at H
   by_cases c8 : x19_2 = true
   ·subst c8
    have H1 : (if (l0.length : Int) = 0 then (some (([] : List (S151)), false)) else ((some (([] : List (S151)) : List (S151))).bind fun y145 => (if y145.length + l0.length < 4398046511104 then ((some (y145 ++ l0 : List (S151))).bind fun y148 => (if 0 ≤ (wrap64 ((l0.length : Int) - 1)) then (if (wrap64 ((l0.length : Int) - 1)) < (y148.length : Int) then (if ((rd_T151 y148 (wrap64 ((l0.length : Int) - 1))).f1).size + a1.size ≤ 9223372036854775807 then (some ((y148.set ((wrap64 ((l0.length : Int) - 1)) : Int).toNat (⟨(rd_T151 y148 (wrap64 ((l0.length : Int) - 1))).f0, ((rd_T151 y148 (wrap64 ((l0.length : Int) - 1))).f1) ++ a1⟩ : S151)), true)) else (none)) else (none)) else (none))) else (none)))) = some (r1, r2) := zz29
    clear H
    have H := H1
    clear H1
    by_cases c9 : (l0.length : Int) = 0
    ·rw [if_pos c9] at H
     have c9b0 : ((l0.length : Int) == 0) = true := beq_iff_eq.mpr c9
     have c9b1 : ((l0.length : Int) != 0) = false := bne_eq_false_iff_eq.mpr c9
     clear c9
     simp only [Option.some.injEq, Prod.mk.injEq] at H
     obtain ⟨rfl, rfl⟩ := H
     go_wp2
     go_ret2
     exact ⟨_, bE, zz38, bB⟩
    rw [if_neg c9] at H
    have c9b0 : ((l0.length : Int) == 0) = false := beq_eq_false_iff_ne.mpr c9
    have c9b1 : ((l0.length : Int) != 0) = true := bne_iff_ne.mpr c9
    have c9b2 : ¬ (l0 = []) := fun h_ => c9 (by rw [h_]; rfl)
    obtain ⟨y145, hy145⟩ : ∃ y_ : List (S151), y_ = (([] : List (S151))) := ⟨_, rfl⟩
    replace H : (if y145.length + l0.length < 4398046511104 then ((some (y145 ++ l0 : List (S151))).bind fun y148 => (if 0 ≤ (wrap64 ((l0.length : Int) - 1)) then (if (wrap64 ((l0.length : Int) - 1)) < (y148.length : Int) then (if ((rd_T151 y148 (wrap64 ((l0.length : Int) - 1))).f1).size + a1.size ≤ 9223372036854775807 then (some ((y148.set ((wrap64 ((l0.length : Int) - 1)) : Int).toNat (⟨(rd_T151 y148 (wrap64 ((l0.length : Int) - 1))).f0, ((rd_T151 y148 (wrap64 ((l0.length : Int) - 1))).f1) ++ a1⟩ : S151)), true)) else (none)) else (none)) else (none))) else (none)) = some (r1, r2) := zz2 hy145
    have Ny145 := aM hy145
    clear hy145
    by_cases c10 : y145.length + l0.length < 4398046511104
    ·rw [if_pos c10] at H
     have LMc10 := aM c10
     clear c10
     obtain ⟨y148, hy148⟩ : ∃ y_ : List (S151), y_ = (y145 ++ l0) := ⟨_, rfl⟩
     replace H : (if 0 ≤ (wrap64 ((l0.length : Int) - 1)) then (if (wrap64 ((l0.length : Int) - 1)) < (y148.length : Int) then (if ((rd_T151 y148 (wrap64 ((l0.length : Int) - 1))).f1).size + a1.size ≤ 9223372036854775807 then (some ((y148.set ((wrap64 ((l0.length : Int) - 1)) : Int).toNat (⟨(rd_T151 y148 (wrap64 ((l0.length : Int) - 1))).f0, ((rd_T151 y148 (wrap64 ((l0.length : Int) - 1))).f1) ++ a1⟩ : S151)), true)) else (none)) else (none)) else (none)) = some (r1, r2) := zz2 hy148
     have Ny148 := aM hy148
     clear hy148
     obtain ⟨ji11, hji11⟩ : ∃ j_ : Int, (wrap64 ((l0.length : Int) - 1)) = j_ := ⟨_, rfl⟩
     replace H : (if 0 ≤ (ji11) then (if (ji11) < (y148.length : Int) then (if ((rd_T151 y148 (ji11)).f1).size + a1.size ≤ 9223372036854775807 then (some ((y148.set ((ji11) : Int).toNat (⟨(rd_T151 y148 (ji11)).f0, ((rd_T151 y148 (ji11)).f1) ++ a1⟩ : S151)), true)) else (none)) else (none)) else (none)) = some (r1, r2) := by first | (rw [hji11] at H; exact H) | (simp only [hji11] at H ⊢; exact H)
     have hji11w : (IntKind.i64.wrap ((l0.length : Int) - 1)) = ji11 := (i64_w _).trans hji11
     by_cases c12 : 0 ≤ (ji11)
     ·rw [if_pos c12] at H
      have c12b0 : decide (0 ≤ (ji11)) = true := decide_eq_true c12
      clear c12
      by_cases c13 : (ji11) < (y148.length : Int)
      ·rw [if_pos c13] at H
       have c13b0 : decide ((ji11) < (y148.length : Int)) = true := decide_eq_true c13
       clear c13
       by_cases c14 : ((rd_T151 y148 (ji11)).f1).size + a1.size ≤ 9223372036854775807
       ·rw [if_pos c14] at H
        have c14b0 := eq_true c14
        have c14b1 : decide (((rd_T151 y148 (ji11)).f1).size + a1.size ≤ 9223372036854775807) = true := decide_eq_true c14
        try have c14b2 : (9223372036854775807 < ((rd_T151 y148 (ji11)).f1).size + a1.size) = False := eq_false (Nat.not_lt.2 c14)
        obtain ⟨y152, hy152⟩ : ∃ y_ : List (S151), y_ = (y148.set ((ji11) : Int).toNat (⟨(rd_T151 y148 (ji11)).f0, ((rd_T151 y148 (ji11)).f1) ++ a1⟩ : S151)) := ⟨_, rfl⟩
        replace H : (some (y152, true)) = some (r1, r2) := zz2 hy152
        have Ny152 := aM hy152
        clear hy152
        simp only [Option.some.injEq, Prod.mk.injEq] at H
        obtain ⟨rfl, rfl⟩ := H
        go_wp2_with (first | ((with_reducible refine gate_dst (N := 22) rfl ?_); refine Kd.R_lit k151 _ 151 ?hg (N := 22) ?hd (xs := ([] : List (S151))) (inner := []) (ok := fun _ => True) (okp := fun _ => True) ?hr ?hp (fun _ hk => hk) trivial (Below.refl _ _) (Nat.le_refl _) (by simp) ?_; (case hd => rfl); (case hg => rfl); (case hr => exact zz13); (case hp => exact (Reps.none _ _)); intro v146 w16 ho17 hb hg_ hnew_; clear hg_ hnew_; (first | rw [← Ny145.out] at ho17 | (simp only [Int.reduceToNat] at ho17; rw [← Ny145.out] at ho17)); have HO147 := aM (Kd.R_lower ho17 (below_size bB)); replace HB := aM (below_step bB hb); clear hb ho17) | ((with_reducible refine gate_builtin (b := .append) (xs := #[.tmp 22, .tmp 23]) rfl ?_); at_builtin; refine Kd.R_append_rows k151 (w0 := w) w.heap.size rfl (.tmp 22) (.tmp 23) 128 151 (.agg #[(.string ⟨#[]⟩), (.string ⟨#[]⟩)]) 32 rfl Tryd.underlying128 info151 rfl (by decide) (by omega) v146 y145 l0 _ _ _ (fun _ => True) (fun _ => False) rfl rfl ?aO ?aR (fun _ _ h => h) (fun _ h => h.elim) ?aF ?aB ?aS ?aL ?_; (case aR => exact zz6 HR0.out); (case aB => exact bB); (case aF => exact (fun _ _ => trivial)); (case aO => exact (bR HO147)); (case aS => exact (below_size bB)); (case aL => have := LMc10.out; omega); intro v149 w18 ho hb hg hat; rw [← Ny148.out] at ho; have n0_ := aM (hb); have n1_ := aM (ho); clear HB; clear HO147; have HB := n0_; have HO150 := n1_; clear n0_ n1_; clear ho hb hg hat; obtain ⟨Ao19, co19, eo19⟩ := Kd.R_slice HO150.out; subst eo19; have p151 : 0 ≤ ((ji11) : Int) := pI; have q151 : (ji11) < (y148.length : Int) := pI; obtain ⟨ad151, e151, hx151_0, hx151_1⟩ := at_T151 (Kd.R_reads' HO150.out).2.2 (ji11) p151 q151; cases e151; replace p151 := eq_true p151; replace q151 := eq_true q151; have p15 : 0 ≤ ((ji11) : Int) := pI; have q15 : ((ji11) : Int) < ((y148.length : Int) : Int) := pI; obtain ⟨go15, co15, eo15, gb15, gl15, cl15, HG15⟩ := Kd.R_form HO150.out (by omega); (first | cases eo15 | (injection eo15 with ea_ en_ ec_; (first | subst ea_ | (injection ea_ with ea_; subst ea_)); subst ec_; clear en_)); have GB15 := aM gb15; have GG15 := aM HG15; clear gb15 gl15 HG15; (first | simp only [add_plain] at hx151_0 | skip); (first | simp only [add_plain] at hx151_1 | skip); obtain ⟨ce15, hcl15, hM15, hcc15, hfr15⟩ := Kd.R_elem HO150.out z151 ((ji11) : Int) p15 q15; obtain rfl := k151_openM hM15; have hx15_0 : w18.cell? ⟨go15, ((ji11) : Int).toNat * 2, none⟩ = some (.string ((rd_T151 y148 (ji11)).f0)) := hcc15 0 _ rfl; have hx15_1 : w18.cell? ⟨go15, ((ji11) : Int).toNat * 2 + 1, none⟩ = some (.string ((rd_T151 y148 (ji11)).f1)) := hcc15 1 _ rfl; have hf15_0 : w18.frozen? ⟨go15, ((ji11) : Int).toNat * 2, none⟩ = false := hfr15 0 (by decide); have hf15_1 : w18.frozen? ⟨go15, ((ji11) : Int).toNat * 2 + 1, none⟩ = false := hfr15 1 (by decide); clear hcl15 hcc15 hfr15 hM15; replace p15 := eq_true p15; replace q15 := eq_true q15; have HX20 := aM (show Kd.R k151 151 w18 w.heap.size (fun _ => True) (.slice (some ⟨go15, 0, none⟩) y148.length co19) y148 from (bR HO150)); obtain ⟨ce20, hcl20, hM20, hcc20, hfr20⟩ := Kd.R_elem HX20.out z151 ((ji11) : Int) (pI) (bH (pI : ((ji11) : Int) < ((y148.length : Int) : Int)) (Kd.R_reads' HO150.out).1); obtain rfl := k151_openM hM20; have HP20 := Kd.R_seg HX20.out ((ji11) : Int) (pI) (bH (pI : ((ji11) : Int) < ((y148.length : Int) : Int)) (Kd.R_reads' HO150.out).1) (seg := [.string (((rd_T151 y148 (ji11)).f1) ++ a1)]) (j := 1) hcl20 hcc20 (show 2 ≤ 2 from by decide) (x' := (⟨(rd_T151 y148 (ji11)).f0, ((rd_T151 y148 (ji11)).f1) ++ a1⟩ : S151)) (k151_mkM _ _ _ (⟨(rd_T151 y148 (ji11)).f0, ((rd_T151 y148 (ji11)).f1) ++ a1⟩ : S151) ) (fun _ hk => hk); have hx20_1 := hcc20 1 _ rfl; (try simp only [show (k151).sz = 2 from rfl, Nat.mul_one, Nat.add_zero] at hx20_1); have hf20_1 := hfr20 1 (by decide); (try simp only [show (k151).sz = 2 from rfl, Nat.mul_one, Nat.add_zero] at hf20_1); clear hcl20 hcc20 hfr20 hM20) | ((with_reducible refine gate_store (t := 9) (p := 37) rfl ?_); refine store_event (t := 9) (p := 37) (v := ?vo_w21) (w1 := (w18.setCell ⟨go15, ((ji11) : Int).toNat * 2 + 1, none⟩ (.string (((rd_T151 y148 (ji11)).f1) ++ a1)))) ?hg ?ho ?hn ?hr ?_; (case ho => rfl); (case hg => rfl); (case hn => rfl); (case hr => exact zz13); intro w21 hw; have hg : w18.grownBy w21 (some go15) := (by rw [hw]; exact HP20.2); have hp_ : Kd.R k151 151 w21 w.heap.size (fun _ => True) (.slice (some ⟨go15, 0, none⟩) y148.length co19) y152 := (by rw [hw, Ny152.out]; exact HP20.1); clear HP20; replace HO150 := aM (hp_); replace HB := aM ((zz61 GB15.out : Below w.heap.size w w21)); clear hg hw hp_))
        go_ret2
        exact ⟨_, by first | rfl | (simp [errW_none, errW_some] <;> rfl) | (simp only [← hji11]; first | rfl | (simp [errW_none, errW_some] <;> rfl)) | (simp [*, errW_none, errW_some] <;> rfl), bR HO150, bB⟩
       rw [if_neg c14] at H
       exact absurd H (by simp)
      rw [if_neg c13] at H
      exact absurd H (by simp)
     rw [if_neg c12] at H
     exact absurd H (by simp)
    rw [if_neg c10] at H
    exact absurd H (by simp)
   replace c8 := Bool.eq_false_iff.mpr c8
   subst c8
   have H1 : (spec_l4Line.l0 kj2 l0 a1 0) = some (r1, r2) := zz15
   clear H
   have H := H1
   clear H1
   have H' := aM H
   clear H
   go_wp2
   go_loopg [8] kj2 (fun kq v8 w' => ∃ (x8_2 : Int), v8 = .int .i64 x8_2 ∧ Aside0 (spec_l4Line.l0 kq l0 a1 x8_2 = some (r1, r2)) ∧ Aside0 (kq ≤ kj2) ∧ Aside0 (Below w.heap.size w w'))
   case atStart => exact ⟨(0), bS, H', ⟨Nat.le_refl _⟩, ⟨bB⟩⟩
   case round =>
    clear H'
    try clear c1
    try clear p1
    try clear q1
    try clear hx1
    try clear c2
    try clear p2
    try clear hx2
    try clear hf2
    try clear c4
    try clear c4b0
    try clear c4b1
    try clear p5
    try clear q5
    try clear hx5
    try clear qi5
    try clear c6
    try clear c6b0
    try clear c6b1
    try clear p6
    try clear p7
    try clear q7
    try clear hx7
    try clear qi7
    try clear c8
    try clear c9
    try clear c9b0
    try clear c9b1
    try clear c9b2
    try clear c10
    try clear c12
    try clear c12b0
    try clear c13
    try clear c13b0
    try clear c14
    try clear c14b0
    try clear c14b1
    try clear c14b2
    try clear c15
    try clear p15
    try clear q15
    try clear hx15
    try clear hf15
    try clear c20
    try clear hx20
    try clear hf20
    try clear hx151_0
    try clear hx151_1
    try clear hx15_0
    try clear hx15_1
    try clear hx20_1
    try clear p15
    try clear p151
    try clear p2
    try clear p5
    try clear p7
    try clear q15
    try clear q151
    try clear q5
    try clear q7
    obtain ⟨x8_2, rfl, HA, HK2, HB⟩ := hrel
    cases gk with
    | zero => exact absurd HA.out (by simp [spec_l4Line.l0])
    | succ k2 =>
     have H := HA.out
     clear HA
     simp only [spec_l4Line.l0] at H
     by_cases c22 : x8_2 < (a1.size : Int)
     ·rw [if_pos c22] at H
      have c22b0 : decide (x8_2 < (a1.size : Int)) = true := decide_eq_true c22
      clear c22
      by_cases c23 : 0 ≤ x8_2
      ·rw [if_pos c23] at H
       have c23b0 : decide (0 ≤ x8_2) = true := decide_eq_true c23
       clear c23
       have HQ_ := aM H
       clear H
       have p24 : 0 ≤ (x8_2 : Int) := pI
       have q24 : x8_2 < (a1.size : Int) := pI
       have hx24 := bt_at a1 x8_2
       replace p24 := eq_true p24
       replace q24 := eq_true q24
       have H := HQ_.out
       clear HQ_
       by_cases c25 : (bt a1 x8_2) = 58
       ·rw [if_pos c25] at H
        have c25b0 : ((bt a1 x8_2) == 58) = true := beq_iff_eq.mpr c25
        have c25b1 : ((bt a1 x8_2) != 58) = false := bne_eq_false_iff_eq.mpr c25
        clear c25
        obtain ⟨ji26, hji26⟩ : ∃ j_ : Int, (wrap64 (x8_2 + 1)) = j_ := ⟨_, rfl⟩
        replace H : (if 0 ≤ (ji26) then (if (ji26) ≤ (a1.size : Int) then (if (a1.extract ((ji26) : Int).toNat a1.size).toList = ([] : List UInt8) then ((some (([] : List (S151)) : List (S151))).bind fun y153 => (if y153.length + l0.length < 4398046511104 then ((some (y153 ++ l0 : List (S151))).bind fun y156 => (if x8_2 ≤ (a1.size : Int) then ((some (([(⟨a1.extract 0 (x8_2 : Int).toNat, a1.extract ((ji26) : Int).toNat a1.size⟩ : S151)] : List (S151)) : List (S151))).bind fun y159 => (if y156.length + y159.length < 4398046511104 then (some ((y156 ++ y159), true)) else (none))) else (none))) else (none))) else (if 0 < ((a1.extract ((ji26) : Int).toNat a1.size).size : Int) then (if (bt (a1.extract ((ji26) : Int).toNat a1.size) 0) = 32 then (if 1 ≤ ((a1.extract ((ji26) : Int).toNat a1.size).size : Int) then ((some (([] : List (S151)) : List (S151))).bind fun y165 => (if y165.length + l0.length < 4398046511104 then ((some (y165 ++ l0 : List (S151))).bind fun y168 => (if x8_2 ≤ (a1.size : Int) then ((some (([(⟨a1.extract 0 (x8_2 : Int).toNat, (a1.extract ((ji26) : Int).toNat a1.size).extract 1 (a1.extract ((ji26) : Int).toNat a1.size).size⟩ : S151)] : List (S151)) : List (S151))).bind fun y171 => (if y168.length + y171.length < 4398046511104 then (some ((y168 ++ y171), true)) else (none))) else (none))) else (none))) else (none)) else ((some (([] : List (S151)) : List (S151))).bind fun y177 => (if y177.length + l0.length < 4398046511104 then ((some (y177 ++ l0 : List (S151))).bind fun y180 => (if x8_2 ≤ (a1.size : Int) then ((some (([(⟨a1.extract 0 (x8_2 : Int).toNat, a1.extract ((ji26) : Int).toNat a1.size⟩ : S151)] : List (S151)) : List (S151))).bind fun y183 => (if y180.length + y183.length < 4398046511104 then (some ((y180 ++ y183), true)) else (none))) else (none))) else (none)))) else (none))) else (none)) else (none)) = some (r1, r2) := by first | (rw [hji26] at H; exact H) | (simp only [hji26] at H ⊢; exact H)
        have hji26w : (IntKind.i64.wrap (x8_2 + 1)) = ji26 := (i64_w _).trans hji26
        (try simp only [c25b0, c25b1])
        by_cases c27 : 0 ≤ (ji26)
        ·rw [if_pos c27] at H
         have c27b0 := eq_true c27
         have c27b1 : decide (0 ≤ (ji26)) = true := decide_eq_true c27
         clear c27
         by_cases c28 : (ji26) ≤ (a1.size : Int)
         ·rw [if_pos c28] at H
          have c28b0 := eq_true c28
          have c28b1 : decide ((ji26) ≤ (a1.size : Int)) = true := decide_eq_true c28
          clear c28
          by_cases c29 : (a1.extract ((ji26) : Int).toNat a1.size).toList = ([] : List UInt8)
          ·rw [if_pos c29] at H
           have c29b0 : ((a1.extract ((ji26) : Int).toNat a1.size).toList == ([] : List UInt8)) = true := beq_iff_eq.mpr c29
           have c29b1 : ((a1.extract ((ji26) : Int).toNat a1.size).toList != ([] : List UInt8)) = false := bne_eq_false_iff_eq.mpr c29
           clear c29
           obtain ⟨y153, hy153⟩ : ∃ y_ : List (S151), y_ = (([] : List (S151))) := ⟨_, rfl⟩
           replace H : (if y153.length + l0.length < 4398046511104 then ((some (y153 ++ l0 : List (S151))).bind fun y156 => (if x8_2 ≤ (a1.size : Int) then ((some (([(⟨a1.extract 0 (x8_2 : Int).toNat, a1.extract ((ji26) : Int).toNat a1.size⟩ : S151)] : List (S151)) : List (S151))).bind fun y159 => (if y156.length + y159.length < 4398046511104 then (some ((y156 ++ y159), true)) else (none))) else (none))) else (none)) = some (r1, r2) := zz2 hy153
           have Ny153 := aM hy153
           clear hy153
           (try simp only [c29b0, c29b1])
           by_cases c30 : y153.length + l0.length < 4398046511104
           ·rw [if_pos c30] at H
            have LMc30 := aM c30
            clear c30
            obtain ⟨y156, hy156⟩ : ∃ y_ : List (S151), y_ = (y153 ++ l0) := ⟨_, rfl⟩
            replace H : (if x8_2 ≤ (a1.size : Int) then ((some (([(⟨a1.extract 0 (x8_2 : Int).toNat, a1.extract ((ji26) : Int).toNat a1.size⟩ : S151)] : List (S151)) : List (S151))).bind fun y159 => (if y156.length + y159.length < 4398046511104 then (some ((y156 ++ y159), true)) else (none))) else (none)) = some (r1, r2) := zz2 hy156
            have Ny156 := aM hy156
            clear hy156
            have c31b0 := eq_true (pI : 0 ≤ x8_2)
            by_cases c32 : x8_2 ≤ (a1.size : Int)
            ·rw [if_pos c32] at H
             have c32b0 := eq_true c32
             have c32b1 : decide (x8_2 ≤ (a1.size : Int)) = true := decide_eq_true c32
             clear c32
             obtain ⟨y159, hy159⟩ : ∃ y_ : List (S151), y_ = (([(⟨a1.extract 0 (x8_2 : Int).toNat, a1.extract ((ji26) : Int).toNat a1.size⟩ : S151)] : List (S151))) := ⟨_, rfl⟩
             replace H : (if y156.length + y159.length < 4398046511104 then (some ((y156 ++ y159), true)) else (none)) = some (r1, r2) := zz2 hy159
             have Ny159 := aM hy159
             clear hy159
             by_cases c33 : y156.length + y159.length < 4398046511104
             ·rw [if_pos c33] at H
              have LMc33 := aM c33
              clear c33
              obtain ⟨y162, hy162⟩ : ∃ y_ : List (S151), y_ = (y156 ++ y159) := ⟨_, rfl⟩
              replace H : (some (y162, true)) = some (r1, r2) := zz2 hy162
              have Ny162 := aM hy162
              clear hy162
              simp only [Option.some.injEq, Prod.mk.injEq] at H
              obtain ⟨rfl, rfl⟩ := H
              try go_wp2
              replace HB := aM (below_drew1 HB.out)
              refine start_ (n := 12) (S := fun w' => True) (ds := []) (bsA 12 0) (by kernel_rfl) rfl rfl trivial (fun hHeld => ?_); refine with_tabW spec_l4Line.tab15 spec_l4Line.bits15 (fun HT_ HW_ => ?_)
              generalize wr.drew = w34 at HB hHeld ⊢
              refine pa_ (i := 1) (N := some 63) (bsA 12 2) (h := ?_)
              refine pa_ (i := 3) (N := some 65) (bsA 12 10) (h := ?_)
              refine pa_ (i := 4) (N := some 66) (bsA 12 26) (h := ?_)
              refine pa_ (i := 5) (N := some 67) (bsA 12 58) (h := ?_)
              refine pa_ (i := 6) (N := some 68) (bsA 12 122) (h := ?_)
              refine pa_ (i := 7) (N := some 69) (bsA 12 250) (h := ?_)
              refine join_ (σ := Value × Value × Value) 3 (bsA 12 511) (fun s_ => [(62, s_.1), (64, s_.2.1), (70, s_.2.2)]) (fun s_ w' => (Kd.R k151 151 w' w.heap.size (fun k_ => some k_ ≠ (s_.2.2 : Value).ownBlock) s_.2.1 y156) ∧ (Kd.R k151 151 w' w.heap.size (fun k_ => some k_ ≠ (s_.2.1 : Value).ownBlock) s_.2.2 y159) ∧ (Below w.heap.size w w')) ?_ ?_
              rotate_left
              ·intro hCont
               refine two_ (i := 0) (j := 8) (Ni := some 62) (Nj := some 70) (bsA 12 251) (bsA 12 506) rfl rfl rfl rfl (two_of HT_.out (by kernel_rfl)) (by decide) (by decide) (fun K hK => ?_) (fun K hK => ?_)
               ·skip
                refine Kd.R_lit_step k151 _ 151 ?hg (N := 62) ?hd (xs := ([] : List (S151))) (inner := []) (ok := fun _ => True) (okp := fun _ => True) ?hr ?hp (fun _ hk => hk) trivial (Below.refl _ _) (Nat.le_refl _) (by simp) ?_; (case hd => rfl); (case hg => rfl); (case hr => exact zz13); (case hp => exact (Reps.none _ _))
                intro v154 w35 ho36 hb hg_ hnew_
                clear hg_ hnew_
                (first | rw [← Ny153.out] at ho36 | (simp only [Int.reduceToNat] at ho36; rw [← Ny153.out] at ho36))
                have HO155 := aM (Kd.R_lower ho36 (below_size bB))
                replace HB := aM (below_step bB hb)
                clear hb ho36
                refine hK.out _ _ trivial (fun hHeld => ?_)
                clear hK K
                refine na_ (N := some 62) (h := ?_)
                refine two_ (i := 2) (j := 8) (Ni := some 64) (Nj := some 70) (bsA 12 255) (bsA 12 507) rfl rfl rfl rfl (two_of HT_.out (by kernel_rfl)) (by decide) (by decide) (fun K hK => ?_) (fun K hK => ?_)
                ·skip
                 refine Kd.R_append_rows_step k151 (w0 := w) w.heap.size (by rfl) (.tmp 62) (.tmp 63) 128 151 (.agg #[(.string ⟨#[]⟩), (.string ⟨#[]⟩)]) 32 rfl Tryd.underlying128 info151 rfl (by decide) (by omega) v154 y153 l0 _ _ _ (fun _ => True) (fun _ => False) rfl rfl ?aO ?aR (fun _ _ h => h) (fun _ h => h.elim) ?aF ?aB ?aS ?aL ?_
                 (case aR => exact zz6 HR0.out)
                 (case aB => exact bB)
                 (case aF => exact (fun _ _ => trivial))
                 (case aO => exact (bR HO155))
                 (case aS => exact (below_size bB))
                 (case aL => have := LMc30.out; omega)
                 intro v157 w37 ho hb hg hat
                 rw [← Ny156.out] at ho
                 have n0_ := aM (hb)
                 have n1_ := aM (ho)
                 clear HB
                 clear HO155
                 have HB := n0_
                 have HO158 := n1_
                 clear n0_ n1_
                 clear ho hb hg hat
                 refine hK.out _ _ trivial (fun hHeld => ?_)
                 clear hK K
                 refine na_ (N := some 64) (h := ?_)
                 refine one_ (i := 8) (N := some 70) (bsA 12 511) rfl rfl (one_of HT_.out (by kernel_rfl)) (by decide) (fun K hK => ?_)
                 refine Kd.R_lit_step k151 _ 151 ?hg (N := 70) ?hd (xs := ([(⟨a1.extract 0 (x8_2 : Int).toNat, a1.extract ((ji26) : Int).toNat a1.size⟩ : S151)] : List (S151))) (inner := [.string (a1.extract 0 (x8_2 : Int).toNat), .string (a1.extract ((ji26) : Int).toNat a1.size)]) (ok := fun _ => True) (okp := fun _ => True) ?hr ?hp (fun _ hk => hk) trivial (Below.refl _ _) (Nat.le_refl _) (by simp) ?_; (case hd => rfl); (case hg => rfl); (case hr => exact zz13); (case hp => exact (Reps.c2 (show Kd.M k151 _ _ _ (⟨a1.extract 0 (x8_2 : Int).toNat, a1.extract ((ji26) : Int).toNat a1.size⟩ : S151) [.string (a1.extract 0 (x8_2 : Int).toNat), .string (a1.extract ((ji26) : Int).toNat a1.size)] from (k151_mkM _ _ _ (⟨a1.extract 0 (x8_2 : Int).toNat, a1.extract ((ji26) : Int).toNat a1.size⟩ : S151) )) (Reps.none _ _)))
                 intro v160 w38 ho39 hb hg_ hnew_
                 clear hg_ hnew_
                 (first | rw [← Ny159.out] at ho39 | (simp only [Int.reduceToNat] at ho39; rw [← Ny159.out] at ho39))
                 have HO161 := aM (Kd.R_lower (Kd.R_new' ho39 (Kd.R_lt (bR HO158))) (below_size bB))
                 replace HO158 := aM (Kd.R_elder' (bR HO158) (Kd.R_base ho39) hb)
                 replace HB := aM (below_step bB hb)
                 clear hb ho39
                 refine hK.out _ _ trivial (fun hHeld => ?_)
                 clear hK K
                 refine na_ (N := some 70) (h := ?_)
                 exact norm_ zz32 (hCont (v154, v157, v160) _ ⟨(zz12 HO158.out), (zz12 HO161.out), bB⟩)
                skip
                refine Kd.R_lit_step k151 _ 151 ?hg (N := 70) ?hd (xs := ([(⟨a1.extract 0 (x8_2 : Int).toNat, a1.extract ((ji26) : Int).toNat a1.size⟩ : S151)] : List (S151))) (inner := [.string (a1.extract 0 (x8_2 : Int).toNat), .string (a1.extract ((ji26) : Int).toNat a1.size)]) (ok := fun _ => True) (okp := fun _ => True) ?hr ?hp (fun _ hk => hk) trivial (Below.refl _ _) (Nat.le_refl _) (by simp) ?_; (case hd => rfl); (case hg => rfl); (case hr => exact zz13); (case hp => exact (Reps.c2 (show Kd.M k151 _ _ _ (⟨a1.extract 0 (x8_2 : Int).toNat, a1.extract ((ji26) : Int).toNat a1.size⟩ : S151) [.string (a1.extract 0 (x8_2 : Int).toNat), .string (a1.extract ((ji26) : Int).toNat a1.size)] from (k151_mkM _ _ _ (⟨a1.extract 0 (x8_2 : Int).toNat, a1.extract ((ji26) : Int).toNat a1.size⟩ : S151) )) (Reps.none _ _)))
                intro v160 w37 ho38 hb hg_ hnew_
                clear hg_ hnew_
                (first | rw [← Ny159.out] at ho38 | (simp only [Int.reduceToNat] at ho38; rw [← Ny159.out] at ho38))
                have HO161 := aM (Kd.R_lower (Kd.R_new' ho38 (Kd.R_lt (bR HO155))) (below_size bB))
                replace HO155 := aM (Kd.R_elder' (bR HO155) (Kd.R_base ho38) hb)
                replace HB := aM (below_step bB hb)
                clear hb ho38
                refine hK.out _ _ trivial (fun hHeld => ?_)
                clear hK K
                refine na_ (N := some 70) (h := ?_)
                refine one_ (i := 2) (N := some 64) (bsA 12 511) rfl rfl (one_of HT_.out (by kernel_rfl)) (by decide) (fun K hK => ?_)
                refine Kd.R_append_rows_step k151 (w0 := w) w.heap.size (by rfl) (.tmp 62) (.tmp 63) 128 151 (.agg #[(.string ⟨#[]⟩), (.string ⟨#[]⟩)]) 32 rfl Tryd.underlying128 info151 rfl (by decide) (by omega) v154 y153 l0 _ _ _ (fun k_ => some k_ ≠ (v160 : Value).ownBlock) (fun _ => False) rfl rfl ?aO ?aR (fun _ _ h => h) (fun _ h => h.elim) ?aF ?aB ?aS ?aL ?_
                (case aR => exact zz6 HR0.out)
                (case aB => exact bB)
                (case aF => exact (fun k_ hk => Kd.fresh' (Kd.R_lt (bR HO161)) k_ hk))
                (case aO => exact zz36 HO155.out)
                (case aS => exact (below_size bB))
                (case aL => have := LMc30.out; omega)
                intro v157 w39 ho hb hg hat
                rw [← Ny156.out] at ho
                have n0_ := aM (Kd.R_after (ok := (fun _ => True)) (bR HO161) hg hat)
                have n1_ := aM (hb)
                have n2_ := aM (ho)
                clear HO161
                clear HB
                clear HO155
                have HO161 := n0_
                have HB := n1_
                have HO158 := n2_
                clear n0_ n1_ n2_
                clear ho hb hg hat
                refine hK.out _ _ trivial (fun hHeld => ?_)
                clear hK K
                refine na_ (N := some 64) (h := ?_)
                exact norm_ zz32 (hCont (v154, v157, v160) _ ⟨(bR HO158), (zz12 HO161.out), bB⟩)
               skip
               refine Kd.R_lit_step k151 _ 151 ?hg (N := 70) ?hd (xs := ([(⟨a1.extract 0 (x8_2 : Int).toNat, a1.extract ((ji26) : Int).toNat a1.size⟩ : S151)] : List (S151))) (inner := [.string (a1.extract 0 (x8_2 : Int).toNat), .string (a1.extract ((ji26) : Int).toNat a1.size)]) (ok := fun _ => True) (okp := fun _ => True) ?hr ?hp (fun _ hk => hk) trivial (Below.refl _ _) (Nat.le_refl _) (by simp) ?_; (case hd => rfl); (case hg => rfl); (case hr => exact zz13); (case hp => exact (Reps.c2 (show Kd.M k151 _ _ _ (⟨a1.extract 0 (x8_2 : Int).toNat, a1.extract ((ji26) : Int).toNat a1.size⟩ : S151) [.string (a1.extract 0 (x8_2 : Int).toNat), .string (a1.extract ((ji26) : Int).toNat a1.size)] from (k151_mkM _ _ _ (⟨a1.extract 0 (x8_2 : Int).toNat, a1.extract ((ji26) : Int).toNat a1.size⟩ : S151) )) (Reps.none _ _)))
               intro v160 w35 ho36 hb hg_ hnew_
               clear hg_ hnew_
               (first | rw [← Ny159.out] at ho36 | (simp only [Int.reduceToNat] at ho36; rw [← Ny159.out] at ho36))
               have HO161 := aM (Kd.R_lower ho36 (below_size bB))
               replace HB := aM (below_step bB hb)
               clear hb ho36
               refine hK.out _ _ trivial (fun hHeld => ?_)
               clear hK K
               refine na_ (N := some 70) (h := ?_)
               refine one_ (i := 0) (N := some 62) (bsA 12 507) rfl rfl (one_of HT_.out (by kernel_rfl)) (by decide) (fun K hK => ?_)
               refine Kd.R_lit_step k151 _ 151 ?hg (N := 62) ?hd (xs := ([] : List (S151))) (inner := []) (ok := fun _ => True) (okp := fun _ => True) ?hr ?hp (fun _ hk => hk) trivial (Below.refl _ _) (Nat.le_refl _) (by simp) ?_; (case hd => rfl); (case hg => rfl); (case hr => exact zz13); (case hp => exact (Reps.none _ _))
               intro v154 w37 ho38 hb hg_ hnew_
               clear hg_ hnew_
               (first | rw [← Ny153.out] at ho38 | (simp only [Int.reduceToNat] at ho38; rw [← Ny153.out] at ho38))
               have HO155 := aM (Kd.R_lower (Kd.R_new' ho38 (Kd.R_lt (bR HO161))) (below_size bB))
               replace HO161 := aM (Kd.R_elder' (bR HO161) (Kd.R_base ho38) hb)
               replace HB := aM (below_step bB hb)
               clear hb ho38
               refine hK.out _ _ trivial (fun hHeld => ?_)
               clear hK K
               refine na_ (N := some 62) (h := ?_)
               refine one_ (i := 2) (N := some 64) (bsA 12 511) rfl rfl (one_of HT_.out (by kernel_rfl)) (by decide) (fun K hK => ?_)
               refine Kd.R_append_rows_step k151 (w0 := w) w.heap.size (by rfl) (.tmp 62) (.tmp 63) 128 151 (.agg #[(.string ⟨#[]⟩), (.string ⟨#[]⟩)]) 32 rfl Tryd.underlying128 info151 rfl (by decide) (by omega) v154 y153 l0 _ _ _ (fun k_ => some k_ ≠ (v160 : Value).ownBlock) (fun _ => False) rfl rfl ?aO ?aR (fun _ _ h => h) (fun _ h => h.elim) ?aF ?aB ?aS ?aL ?_
               (case aR => exact zz6 HR0.out)
               (case aB => exact bB)
               (case aF => exact (fun k_ hk => Kd.fresh' (Kd.R_lt (bR HO161)) k_ hk))
               (case aO => exact zz36 HO155.out)
               (case aS => exact (below_size bB))
               (case aL => have := LMc30.out; omega)
               intro v157 w39 ho hb hg hat
               rw [← Ny156.out] at ho
               have n0_ := aM (Kd.R_after (ok := (fun _ => True)) (bR HO161) hg hat)
               have n1_ := aM (hb)
               have n2_ := aM (ho)
               clear HO161
               clear HB
               clear HO155
               have HO161 := n0_
               have HB := n1_
               have HO158 := n2_
               clear n0_ n1_ n2_
               clear ho hb hg hat
               refine hK.out _ _ trivial (fun hHeld => ?_)
               clear hK K
               refine na_ (N := some 64) (h := ?_)
               exact norm_ zz32 (hCont (v154, v157, v160) _ ⟨(bR HO158), (zz12 HO161.out), bB⟩)
              rintro ⟨v154, v157, v160⟩ w40 ⟨h0_, h1_, h2_⟩
              have n0_ : Aside0 (Kd.R k151 151 w40 w.heap.size (fun k_ => some k_ ≠ (v160 : Value).ownBlock) v157 y156) := ⟨h0_⟩
              have n1_ : Aside0 (Kd.R k151 151 w40 w.heap.size (fun k_ => some k_ ≠ (v157 : Value).ownBlock) v160 y159) := ⟨h1_⟩
              have n2_ : Aside0 (Below w.heap.size w w40) := ⟨h2_⟩
              clear HB
              clear h0_ h1_ h2_
              have HO158 := n0_
              have HO161 := n1_
              have HB := n2_
              clear n0_ n1_ n2_
              have hHeld := trivial
              obtain ⟨Ao42, co42, eo42⟩ := Kd.R_slice HO161.out
              (first | subst eo42 | (injection eo42 with f1_ f2_ f3_; have f4_ := f1_.symm; have f5_ := f3_.symm; clear f1_ f2_ f3_; subst f4_; subst f5_))
              refine norm_ (a' := ?_) ?_ ?_
              rotate_left
              ·simp only [putAll, Act.put, List.setIfInBounds_toArray, List.set_cons_zero, List.set_cons_succ]
               rfl
              refine one_ (i := 9) (N := some 71) (bsA 12 1023) rfl rfl (one_of HT_.out (by kernel_rfl)) (by decide) (fun K hK => ?_)
              refine Kd.R_append_rows_step k151 (w0 := w) w.heap.size (by rfl) (.tmp 64) (.tmp 70) 128 151 (.agg #[(.string ⟨#[]⟩), (.string ⟨#[]⟩)]) 32 rfl Tryd.underlying128 info151 rfl (by decide) (by omega) v157 y156 y159 _ _ _ (fun k_ => some k_ ≠ (.slice Ao42 y159.length co42 : Value).ownBlock) (fun _ => False) rfl rfl ?aO ?aR (fun _ _ h => h) (fun _ h => h.elim) ?aF ?aB ?aS ?aL ?_
              (case aR => exact zz7 HO161.out)
              (case aB => exact bB)
              (case aF => exact (fun k_ hk => Kd.fresh' (Kd.R_lt (bR HO161)) k_ hk))
              (case aO => exact (bR HO158))
              (case aS => exact (below_size bB))
              (case aL => have := LMc33.out; omega)
              intro v163 w41 ho hb hg hat
              rw [← Ny162.out] at ho
              have n0_ := aM (Kd.R_after (ok := (fun _ => True)) (zz39 HO161.out) hg hat)
              have n1_ := aM (hb)
              have n2_ := aM (ho)
              clear HO161
              clear HB
              clear HO158
              have HO161 := n0_
              have HB := n1_
              have HO164 := n2_
              clear n0_ n1_ n2_
              clear ho hb hg hat
              refine hK.out _ _ trivial (fun hHeld => ?_)
              clear hK K
              refine na_ (N := some 71) (h := ?_)
              refine pa_ (i := 10) (N := some 4) (bsA 12 2047) (h := ?_)
              refine pa_ (i := 11) (N := some 5) (bsA 12 4095) (h := ?_)
              refine done_ (done_of HT_.out (by kernel_rfl)) ?_
              try go_wp2
              go_ret2
              exact ⟨_, zz44, zz37 HO164.out, bB⟩
             rw [if_neg c33] at H
             exact absurd H (by simp)
            rw [if_neg c32] at H
            exact absurd H (by simp)
           rw [if_neg c30] at H
           exact absurd H (by simp)
          rw [if_neg c29] at H
          have c29b0 : ((a1.extract ((ji26) : Int).toNat a1.size).toList == ([] : List UInt8)) = false := beq_eq_false_iff_ne.mpr c29
          have c29b1 : ((a1.extract ((ji26) : Int).toNat a1.size).toList != ([] : List UInt8)) = true := bne_iff_ne.mpr c29
          (try simp only [c29b0, c29b1])
          by_cases c43 : 0 < ((a1.extract ((ji26) : Int).toNat a1.size).size : Int)
          ·rw [if_pos c43] at H
           have c43b0 : decide (0 < ((a1.extract ((ji26) : Int).toNat a1.size).size : Int)) = true := decide_eq_true c43
           (try (have c43e : ((ji26) : Int).toNat < a1.size := by have h_ := c43; rw [ByteArray.size_extract] at h_; omega))
           (try (have c43e1 : decide (((ji26) : Int).toNat < a1.size) = true := decide_eq_true (by omega)))
           (try (have c43e2 : decide (0 < a1.size - ((ji26) : Int).toNat) = true := decide_eq_true (by omega)))
           (try (have c43e3 : decide ((0 : Int) < ((a1.size - ((ji26) : Int).toNat : Nat) : Int)) = true := decide_eq_true (by omega)))
           (try (have c43e4 : decide (1 ≤ a1.size - ((ji26) : Int).toNat) = true := decide_eq_true (by omega)))
           (try (have c43e5 : decide ((1 : Int) ≤ ((a1.size - ((ji26) : Int).toNat : Nat) : Int)) = true := decide_eq_true (by omega)))
           (try (have c43e6 : decide ((ji26) < (a1.size : Int)) = true := decide_eq_true (by omega)))
           have c43b1 : decide (0 < (a1.extract ((ji26) : Int).toNat a1.size).size) = true := decide_eq_true (by omega)
           clear c43
           have HQ_ := aM H
           clear H
           have p44 : 0 ≤ (0 : Int) := (by omega)
           have q44 : 0 < (a1.extract ((ji26) : Int).toNat a1.size).size := (by have : (0 : Int) < ((a1.extract ((ji26) : Int).toNat a1.size).size : Int) := pI; omega)
           have hx44 : ∀ h : 0 < (a1.extract ((ji26) : Int).toNat a1.size).size, (((a1.extract ((ji26) : Int).toNat a1.size)[0]'h).toNat : Int) = bt (a1.extract ((ji26) : Int).toNat a1.size) 0 := bt_at (a1.extract ((ji26) : Int).toNat a1.size) 0
           clear p44
           have qi44 : (0 < ((a1.extract ((ji26) : Int).toNat a1.size).size : Int)) = True := eq_true (pI)
           replace q44 := eq_true q44
           have H := HQ_.out
           clear HQ_
           by_cases c45 : (bt (a1.extract ((ji26) : Int).toNat a1.size) 0) = 32
           ·rw [if_pos c45] at H
            have c45b0 : ((bt (a1.extract ((ji26) : Int).toNat a1.size) 0) == 32) = true := beq_iff_eq.mpr c45
            have c45b1 : ((bt (a1.extract ((ji26) : Int).toNat a1.size) 0) != 32) = false := bne_eq_false_iff_eq.mpr c45
            clear c45
            (try simp only [c45b0, c45b1])
            by_cases c46 : 1 ≤ ((a1.extract ((ji26) : Int).toNat a1.size).size : Int)
            ·rw [if_pos c46] at H
             have c46b0 := eq_true c46
             have c46b1 : decide (1 ≤ ((a1.extract ((ji26) : Int).toNat a1.size).size : Int)) = true := decide_eq_true c46
             (try (have c46e : ((ji26) : Int).toNat < a1.size := by have h_ := c46; rw [ByteArray.size_extract] at h_; omega))
             (try (have c46e1 : decide (((ji26) : Int).toNat < a1.size) = true := decide_eq_true (by omega)))
             (try (have c46e2 : decide (0 < a1.size - ((ji26) : Int).toNat) = true := decide_eq_true (by omega)))
             (try (have c46e3 : decide ((0 : Int) < ((a1.size - ((ji26) : Int).toNat : Nat) : Int)) = true := decide_eq_true (by omega)))
             (try (have c46e4 : decide (1 ≤ a1.size - ((ji26) : Int).toNat) = true := decide_eq_true (by omega)))
             (try (have c46e5 : decide ((1 : Int) ≤ ((a1.size - ((ji26) : Int).toNat : Nat) : Int)) = true := decide_eq_true (by omega)))
             (try (have c46e6 : decide ((ji26) < (a1.size : Int)) = true := decide_eq_true (by omega)))
             clear c46
             obtain ⟨y165, hy165⟩ : ∃ y_ : List (S151), y_ = (([] : List (S151))) := ⟨_, rfl⟩
             replace H : (if y165.length + l0.length < 4398046511104 then ((some (y165 ++ l0 : List (S151))).bind fun y168 => (if x8_2 ≤ (a1.size : Int) then ((some (([(⟨a1.extract 0 (x8_2 : Int).toNat, (a1.extract ((ji26) : Int).toNat a1.size).extract 1 (a1.extract ((ji26) : Int).toNat a1.size).size⟩ : S151)] : List (S151)) : List (S151))).bind fun y171 => (if y168.length + y171.length < 4398046511104 then (some ((y168 ++ y171), true)) else (none))) else (none))) else (none)) = some (r1, r2) := zz2 hy165
             have Ny165 := aM hy165
             clear hy165
             by_cases c47 : y165.length + l0.length < 4398046511104
             ·rw [if_pos c47] at H
              have LMc47 := aM c47
              clear c47
              obtain ⟨y168, hy168⟩ : ∃ y_ : List (S151), y_ = (y165 ++ l0) := ⟨_, rfl⟩
              replace H : (if x8_2 ≤ (a1.size : Int) then ((some (([(⟨a1.extract 0 (x8_2 : Int).toNat, (a1.extract ((ji26) : Int).toNat a1.size).extract 1 (a1.extract ((ji26) : Int).toNat a1.size).size⟩ : S151)] : List (S151)) : List (S151))).bind fun y171 => (if y168.length + y171.length < 4398046511104 then (some ((y168 ++ y171), true)) else (none))) else (none)) = some (r1, r2) := zz2 hy168
              have Ny168 := aM hy168
              clear hy168
              have c48b0 := eq_true (pI : 0 ≤ x8_2)
              by_cases c49 : x8_2 ≤ (a1.size : Int)
              ·rw [if_pos c49] at H
               have c49b0 := eq_true c49
               have c49b1 : decide (x8_2 ≤ (a1.size : Int)) = true := decide_eq_true c49
               clear c49
               obtain ⟨y171, hy171⟩ : ∃ y_ : List (S151), y_ = (([(⟨a1.extract 0 (x8_2 : Int).toNat, (a1.extract ((ji26) : Int).toNat a1.size).extract 1 (a1.extract ((ji26) : Int).toNat a1.size).size⟩ : S151)] : List (S151))) := ⟨_, rfl⟩
               replace H : (if y168.length + y171.length < 4398046511104 then (some ((y168 ++ y171), true)) else (none)) = some (r1, r2) := zz2 hy171
               have Ny171 := aM hy171
               clear hy171
               by_cases c50 : y168.length + y171.length < 4398046511104
               ·rw [if_pos c50] at H
                have LMc50 := aM c50
                clear c50
                obtain ⟨y174, hy174⟩ : ∃ y_ : List (S151), y_ = (y168 ++ y171) := ⟨_, rfl⟩
                replace H : (some (y174, true)) = some (r1, r2) := zz2 hy174
                have Ny174 := aM hy174
                clear hy174
                simp only [Option.some.injEq, Prod.mk.injEq] at H
                obtain ⟨rfl, rfl⟩ := H
                try go_wp2
                replace HB := aM (below_drew1 HB.out)
                refine start_ (n := 12) (S := fun w' => True) (ds := []) (bsA 12 0) (by kernel_rfl) rfl rfl trivial (fun hHeld => ?_); refine with_tabW spec_l4Line.tab15 spec_l4Line.bits15 (fun HT_ HW_ => ?_)
                generalize wr.drew = w51 at HB hHeld ⊢
                refine pa_ (i := 1) (N := some 63) (bsA 12 2) (h := ?_)
                refine pa_ (i := 3) (N := some 65) (bsA 12 10) (h := ?_)
                refine pa_ (i := 4) (N := some 66) (bsA 12 26) (h := ?_)
                refine pa_ (i := 5) (N := some 67) (bsA 12 58) (h := ?_)
                refine pa_ (i := 6) (N := some 68) (bsA 12 122) (h := ?_)
                refine pa_ (i := 7) (N := some 69) (bsA 12 250) (h := ?_)
                refine join_ (σ := Value × Value × Value) 3 (bsA 12 511) (fun s_ => [(62, s_.1), (64, s_.2.1), (70, s_.2.2)]) (fun s_ w' => (Kd.R k151 151 w' w.heap.size (fun k_ => some k_ ≠ (s_.2.2 : Value).ownBlock) s_.2.1 y168) ∧ (Kd.R k151 151 w' w.heap.size (fun k_ => some k_ ≠ (s_.2.1 : Value).ownBlock) s_.2.2 y171) ∧ (Below w.heap.size w w')) ?_ ?_
                rotate_left
                ·intro hCont
                 refine two_ (i := 0) (j := 8) (Ni := some 62) (Nj := some 70) (bsA 12 251) (bsA 12 506) rfl rfl rfl rfl (two_of HT_.out (by kernel_rfl)) (by decide) (by decide) (fun K hK => ?_) (fun K hK => ?_)
                 ·skip
                  refine Kd.R_lit_step k151 _ 151 ?hg (N := 62) ?hd (xs := ([] : List (S151))) (inner := []) (ok := fun _ => True) (okp := fun _ => True) ?hr ?hp (fun _ hk => hk) trivial (Below.refl _ _) (Nat.le_refl _) (by simp) ?_; (case hd => rfl); (case hg => rfl); (case hr => exact zz13); (case hp => exact (Reps.none _ _))
                  intro v166 w52 ho53 hb hg_ hnew_
                  clear hg_ hnew_
                  (first | rw [← Ny165.out] at ho53 | (simp only [Int.reduceToNat] at ho53; rw [← Ny165.out] at ho53))
                  have HO167 := aM (Kd.R_lower ho53 (below_size bB))
                  replace HB := aM (below_step bB hb)
                  clear hb ho53
                  refine hK.out _ _ trivial (fun hHeld => ?_)
                  clear hK K
                  refine na_ (N := some 62) (h := ?_)
                  refine two_ (i := 2) (j := 8) (Ni := some 64) (Nj := some 70) (bsA 12 255) (bsA 12 507) rfl rfl rfl rfl (two_of HT_.out (by kernel_rfl)) (by decide) (by decide) (fun K hK => ?_) (fun K hK => ?_)
                  ·skip
                   refine Kd.R_append_rows_step k151 (w0 := w) w.heap.size (by rfl) (.tmp 62) (.tmp 63) 128 151 (.agg #[(.string ⟨#[]⟩), (.string ⟨#[]⟩)]) 32 rfl Tryd.underlying128 info151 rfl (by decide) (by omega) v166 y165 l0 _ _ _ (fun _ => True) (fun _ => False) rfl rfl ?aO ?aR (fun _ _ h => h) (fun _ h => h.elim) ?aF ?aB ?aS ?aL ?_
                   (case aR => exact zz6 HR0.out)
                   (case aB => exact bB)
                   (case aF => exact (fun _ _ => trivial))
                   (case aO => exact (bR HO167))
                   (case aS => exact (below_size bB))
                   (case aL => have := LMc47.out; omega)
                   intro v169 w54 ho hb hg hat
                   rw [← Ny168.out] at ho
                   have n0_ := aM (hb)
                   have n1_ := aM (ho)
                   clear HB
                   clear HO167
                   have HB := n0_
                   have HO170 := n1_
                   clear n0_ n1_
                   clear ho hb hg hat
                   refine hK.out _ _ trivial (fun hHeld => ?_)
                   clear hK K
                   refine na_ (N := some 64) (h := ?_)
                   refine one_ (i := 8) (N := some 70) (bsA 12 511) rfl rfl (one_of HT_.out (by kernel_rfl)) (by decide) (fun K hK => ?_)
                   refine Kd.R_lit_step k151 _ 151 ?hg (N := 70) ?hd (xs := ([(⟨a1.extract 0 (x8_2 : Int).toNat, (a1.extract ((ji26) : Int).toNat a1.size).extract 1 (a1.extract ((ji26) : Int).toNat a1.size).size⟩ : S151)] : List (S151))) (inner := [.string (a1.extract 0 (x8_2 : Int).toNat), .string ((a1.extract ((ji26) : Int).toNat a1.size).extract 1 (a1.extract ((ji26) : Int).toNat a1.size).size)]) (ok := fun _ => True) (okp := fun _ => True) ?hr ?hp (fun _ hk => hk) trivial (Below.refl _ _) (Nat.le_refl _) (by simp) ?_; (case hd => rfl); (case hg => rfl); (case hr => exact zz13); (case hp => exact (Reps.c2 (show Kd.M k151 _ _ _ (⟨a1.extract 0 (x8_2 : Int).toNat, (a1.extract ((ji26) : Int).toNat a1.size).extract 1 (a1.extract ((ji26) : Int).toNat a1.size).size⟩ : S151) [.string (a1.extract 0 (x8_2 : Int).toNat), .string ((a1.extract ((ji26) : Int).toNat a1.size).extract 1 (a1.extract ((ji26) : Int).toNat a1.size).size)] from (k151_mkM _ _ _ (⟨a1.extract 0 (x8_2 : Int).toNat, (a1.extract ((ji26) : Int).toNat a1.size).extract 1 (a1.extract ((ji26) : Int).toNat a1.size).size⟩ : S151) )) (Reps.none _ _)))
                   intro v172 w55 ho56 hb hg_ hnew_
                   clear hg_ hnew_
                   (first | rw [← Ny171.out] at ho56 | (simp only [Int.reduceToNat] at ho56; rw [← Ny171.out] at ho56))
                   have HO173 := aM (Kd.R_lower (Kd.R_new' ho56 (Kd.R_lt (bR HO170))) (below_size bB))
                   replace HO170 := aM (Kd.R_elder' (bR HO170) (Kd.R_base ho56) hb)
                   replace HB := aM (below_step bB hb)
                   clear hb ho56
                   refine hK.out _ _ trivial (fun hHeld => ?_)
                   clear hK K
                   refine na_ (N := some 70) (h := ?_)
                   exact norm_ zz32 (hCont (v166, v169, v172) _ ⟨(zz12 HO170.out), (zz12 HO173.out), bB⟩)
                  skip
                  refine Kd.R_lit_step k151 _ 151 ?hg (N := 70) ?hd (xs := ([(⟨a1.extract 0 (x8_2 : Int).toNat, (a1.extract ((ji26) : Int).toNat a1.size).extract 1 (a1.extract ((ji26) : Int).toNat a1.size).size⟩ : S151)] : List (S151))) (inner := [.string (a1.extract 0 (x8_2 : Int).toNat), .string ((a1.extract ((ji26) : Int).toNat a1.size).extract 1 (a1.extract ((ji26) : Int).toNat a1.size).size)]) (ok := fun _ => True) (okp := fun _ => True) ?hr ?hp (fun _ hk => hk) trivial (Below.refl _ _) (Nat.le_refl _) (by simp) ?_; (case hd => rfl); (case hg => rfl); (case hr => exact zz13); (case hp => exact (Reps.c2 (show Kd.M k151 _ _ _ (⟨a1.extract 0 (x8_2 : Int).toNat, (a1.extract ((ji26) : Int).toNat a1.size).extract 1 (a1.extract ((ji26) : Int).toNat a1.size).size⟩ : S151) [.string (a1.extract 0 (x8_2 : Int).toNat), .string ((a1.extract ((ji26) : Int).toNat a1.size).extract 1 (a1.extract ((ji26) : Int).toNat a1.size).size)] from (k151_mkM _ _ _ (⟨a1.extract 0 (x8_2 : Int).toNat, (a1.extract ((ji26) : Int).toNat a1.size).extract 1 (a1.extract ((ji26) : Int).toNat a1.size).size⟩ : S151) )) (Reps.none _ _)))
                  intro v172 w54 ho55 hb hg_ hnew_
                  clear hg_ hnew_
                  (first | rw [← Ny171.out] at ho55 | (simp only [Int.reduceToNat] at ho55; rw [← Ny171.out] at ho55))
                  have HO173 := aM (Kd.R_lower (Kd.R_new' ho55 (Kd.R_lt (bR HO167))) (below_size bB))
                  replace HO167 := aM (Kd.R_elder' (bR HO167) (Kd.R_base ho55) hb)
                  replace HB := aM (below_step bB hb)
                  clear hb ho55
                  refine hK.out _ _ trivial (fun hHeld => ?_)
                  clear hK K
                  refine na_ (N := some 70) (h := ?_)
                  refine one_ (i := 2) (N := some 64) (bsA 12 511) rfl rfl (one_of HT_.out (by kernel_rfl)) (by decide) (fun K hK => ?_)
                  refine Kd.R_append_rows_step k151 (w0 := w) w.heap.size (by rfl) (.tmp 62) (.tmp 63) 128 151 (.agg #[(.string ⟨#[]⟩), (.string ⟨#[]⟩)]) 32 rfl Tryd.underlying128 info151 rfl (by decide) (by omega) v166 y165 l0 _ _ _ (fun k_ => some k_ ≠ (v172 : Value).ownBlock) (fun _ => False) rfl rfl ?aO ?aR (fun _ _ h => h) (fun _ h => h.elim) ?aF ?aB ?aS ?aL ?_
                  (case aR => exact zz6 HR0.out)
                  (case aB => exact bB)
                  (case aF => exact (fun k_ hk => Kd.fresh' (Kd.R_lt (bR HO173)) k_ hk))
                  (case aO => exact zz36 HO167.out)
                  (case aS => exact (below_size bB))
                  (case aL => have := LMc47.out; omega)
                  intro v169 w56 ho hb hg hat
                  rw [← Ny168.out] at ho
                  have n0_ := aM (Kd.R_after (ok := (fun _ => True)) (bR HO173) hg hat)
                  have n1_ := aM (hb)
                  have n2_ := aM (ho)
                  clear HO173
                  clear HB
                  clear HO167
                  have HO173 := n0_
                  have HB := n1_
                  have HO170 := n2_
                  clear n0_ n1_ n2_
                  clear ho hb hg hat
                  refine hK.out _ _ trivial (fun hHeld => ?_)
                  clear hK K
                  refine na_ (N := some 64) (h := ?_)
                  exact norm_ zz32 (hCont (v166, v169, v172) _ ⟨(bR HO170), (zz12 HO173.out), bB⟩)
                 skip
                 refine Kd.R_lit_step k151 _ 151 ?hg (N := 70) ?hd (xs := ([(⟨a1.extract 0 (x8_2 : Int).toNat, (a1.extract ((ji26) : Int).toNat a1.size).extract 1 (a1.extract ((ji26) : Int).toNat a1.size).size⟩ : S151)] : List (S151))) (inner := [.string (a1.extract 0 (x8_2 : Int).toNat), .string ((a1.extract ((ji26) : Int).toNat a1.size).extract 1 (a1.extract ((ji26) : Int).toNat a1.size).size)]) (ok := fun _ => True) (okp := fun _ => True) ?hr ?hp (fun _ hk => hk) trivial (Below.refl _ _) (Nat.le_refl _) (by simp) ?_; (case hd => rfl); (case hg => rfl); (case hr => exact zz13); (case hp => exact (Reps.c2 (show Kd.M k151 _ _ _ (⟨a1.extract 0 (x8_2 : Int).toNat, (a1.extract ((ji26) : Int).toNat a1.size).extract 1 (a1.extract ((ji26) : Int).toNat a1.size).size⟩ : S151) [.string (a1.extract 0 (x8_2 : Int).toNat), .string ((a1.extract ((ji26) : Int).toNat a1.size).extract 1 (a1.extract ((ji26) : Int).toNat a1.size).size)] from (k151_mkM _ _ _ (⟨a1.extract 0 (x8_2 : Int).toNat, (a1.extract ((ji26) : Int).toNat a1.size).extract 1 (a1.extract ((ji26) : Int).toNat a1.size).size⟩ : S151) )) (Reps.none _ _)))
                 intro v172 w52 ho53 hb hg_ hnew_
                 clear hg_ hnew_
                 (first | rw [← Ny171.out] at ho53 | (simp only [Int.reduceToNat] at ho53; rw [← Ny171.out] at ho53))
                 have HO173 := aM (Kd.R_lower ho53 (below_size bB))
                 replace HB := aM (below_step bB hb)
                 clear hb ho53
                 refine hK.out _ _ trivial (fun hHeld => ?_)
                 clear hK K
                 refine na_ (N := some 70) (h := ?_)
                 refine one_ (i := 0) (N := some 62) (bsA 12 507) rfl rfl (one_of HT_.out (by kernel_rfl)) (by decide) (fun K hK => ?_)
                 refine Kd.R_lit_step k151 _ 151 ?hg (N := 62) ?hd (xs := ([] : List (S151))) (inner := []) (ok := fun _ => True) (okp := fun _ => True) ?hr ?hp (fun _ hk => hk) trivial (Below.refl _ _) (Nat.le_refl _) (by simp) ?_; (case hd => rfl); (case hg => rfl); (case hr => exact zz13); (case hp => exact (Reps.none _ _))
                 intro v166 w54 ho55 hb hg_ hnew_
                 clear hg_ hnew_
                 (first | rw [← Ny165.out] at ho55 | (simp only [Int.reduceToNat] at ho55; rw [← Ny165.out] at ho55))
                 have HO167 := aM (Kd.R_lower (Kd.R_new' ho55 (Kd.R_lt (bR HO173))) (below_size bB))
                 replace HO173 := aM (Kd.R_elder' (bR HO173) (Kd.R_base ho55) hb)
                 replace HB := aM (below_step bB hb)
                 clear hb ho55
                 refine hK.out _ _ trivial (fun hHeld => ?_)
                 clear hK K
                 refine na_ (N := some 62) (h := ?_)
                 refine one_ (i := 2) (N := some 64) (bsA 12 511) rfl rfl (one_of HT_.out (by kernel_rfl)) (by decide) (fun K hK => ?_)
                 refine Kd.R_append_rows_step k151 (w0 := w) w.heap.size (by rfl) (.tmp 62) (.tmp 63) 128 151 (.agg #[(.string ⟨#[]⟩), (.string ⟨#[]⟩)]) 32 rfl Tryd.underlying128 info151 rfl (by decide) (by omega) v166 y165 l0 _ _ _ (fun k_ => some k_ ≠ (v172 : Value).ownBlock) (fun _ => False) rfl rfl ?aO ?aR (fun _ _ h => h) (fun _ h => h.elim) ?aF ?aB ?aS ?aL ?_
                 (case aR => exact zz6 HR0.out)
                 (case aB => exact bB)
                 (case aF => exact (fun k_ hk => Kd.fresh' (Kd.R_lt (bR HO173)) k_ hk))
                 (case aO => exact zz36 HO167.out)
                 (case aS => exact (below_size bB))
                 (case aL => have := LMc47.out; omega)
                 intro v169 w56 ho hb hg hat
                 rw [← Ny168.out] at ho
                 have n0_ := aM (Kd.R_after (ok := (fun _ => True)) (bR HO173) hg hat)
                 have n1_ := aM (hb)
                 have n2_ := aM (ho)
                 clear HO173
                 clear HB
                 clear HO167
                 have HO173 := n0_
                 have HB := n1_
                 have HO170 := n2_
                 clear n0_ n1_ n2_
                 clear ho hb hg hat
                 refine hK.out _ _ trivial (fun hHeld => ?_)
                 clear hK K
                 refine na_ (N := some 64) (h := ?_)
                 exact norm_ zz32 (hCont (v166, v169, v172) _ ⟨(bR HO170), (zz12 HO173.out), bB⟩)
                rintro ⟨v166, v169, v172⟩ w57 ⟨h0_, h1_, h2_⟩
                have n0_ : Aside0 (Kd.R k151 151 w57 w.heap.size (fun k_ => some k_ ≠ (v172 : Value).ownBlock) v169 y168) := ⟨h0_⟩
                have n1_ : Aside0 (Kd.R k151 151 w57 w.heap.size (fun k_ => some k_ ≠ (v169 : Value).ownBlock) v172 y171) := ⟨h1_⟩
                have n2_ : Aside0 (Below w.heap.size w w57) := ⟨h2_⟩
                clear HB
                clear h0_ h1_ h2_
                have HO170 := n0_
                have HO173 := n1_
                have HB := n2_
                clear n0_ n1_ n2_
                have hHeld := trivial
                obtain ⟨Ao59, co59, eo59⟩ := Kd.R_slice HO173.out
                (first | subst eo59 | (injection eo59 with f1_ f2_ f3_; have f4_ := f1_.symm; have f5_ := f3_.symm; clear f1_ f2_ f3_; subst f4_; subst f5_))
                refine norm_ (a' := ?_) ?_ ?_
                rotate_left
                ·simp only [putAll, Act.put, List.setIfInBounds_toArray, List.set_cons_zero, List.set_cons_succ]
                 rfl
                refine one_ (i := 9) (N := some 71) (bsA 12 1023) rfl rfl (one_of HT_.out (by kernel_rfl)) (by decide) (fun K hK => ?_)
                refine Kd.R_append_rows_step k151 (w0 := w) w.heap.size (by rfl) (.tmp 64) (.tmp 70) 128 151 (.agg #[(.string ⟨#[]⟩), (.string ⟨#[]⟩)]) 32 rfl Tryd.underlying128 info151 rfl (by decide) (by omega) v169 y168 y171 _ _ _ (fun k_ => some k_ ≠ (.slice Ao59 y171.length co59 : Value).ownBlock) (fun _ => False) rfl rfl ?aO ?aR (fun _ _ h => h) (fun _ h => h.elim) ?aF ?aB ?aS ?aL ?_
                (case aR => exact zz7 HO173.out)
                (case aB => exact bB)
                (case aF => exact (fun k_ hk => Kd.fresh' (Kd.R_lt (bR HO173)) k_ hk))
                (case aO => exact (bR HO170))
                (case aS => exact (below_size bB))
                (case aL => have := LMc50.out; omega)
                intro v175 w58 ho hb hg hat
                rw [← Ny174.out] at ho
                have n0_ := aM (Kd.R_after (ok := (fun _ => True)) (zz39 HO173.out) hg hat)
                have n1_ := aM (hb)
                have n2_ := aM (ho)
                clear HO173
                clear HB
                clear HO170
                have HO173 := n0_
                have HB := n1_
                have HO176 := n2_
                clear n0_ n1_ n2_
                clear ho hb hg hat
                refine hK.out _ _ trivial (fun hHeld => ?_)
                clear hK K
                refine na_ (N := some 71) (h := ?_)
                refine pa_ (i := 10) (N := some 4) (bsA 12 2047) (h := ?_)
                refine pa_ (i := 11) (N := some 5) (bsA 12 4095) (h := ?_)
                refine done_ (done_of HT_.out (by kernel_rfl)) ?_
                try go_wp2
                go_ret2
                exact ⟨_, zz44, zz37 HO176.out, bB⟩
               rw [if_neg c50] at H
               exact absurd H (by simp)
              rw [if_neg c49] at H
              exact absurd H (by simp)
             rw [if_neg c47] at H
             exact absurd H (by simp)
            rw [if_neg c46] at H
            exact absurd H (by simp)
           rw [if_neg c45] at H
           have c45b0 : ((bt (a1.extract ((ji26) : Int).toNat a1.size) 0) == 32) = false := beq_eq_false_iff_ne.mpr c45
           have c45b1 : ((bt (a1.extract ((ji26) : Int).toNat a1.size) 0) != 32) = true := bne_iff_ne.mpr c45
           obtain ⟨y177, hy177⟩ : ∃ y_ : List (S151), y_ = (([] : List (S151))) := ⟨_, rfl⟩
           replace H : (if y177.length + l0.length < 4398046511104 then ((some (y177 ++ l0 : List (S151))).bind fun y180 => (if x8_2 ≤ (a1.size : Int) then ((some (([(⟨a1.extract 0 (x8_2 : Int).toNat, a1.extract ((ji26) : Int).toNat a1.size⟩ : S151)] : List (S151)) : List (S151))).bind fun y183 => (if y180.length + y183.length < 4398046511104 then (some ((y180 ++ y183), true)) else (none))) else (none))) else (none)) = some (r1, r2) := zz2 hy177
           have Ny177 := aM hy177
           clear hy177
           (try simp only [c45b0, c45b1])
           by_cases c60 : y177.length + l0.length < 4398046511104
           ·rw [if_pos c60] at H
            have LMc60 := aM c60
            clear c60
            obtain ⟨y180, hy180⟩ : ∃ y_ : List (S151), y_ = (y177 ++ l0) := ⟨_, rfl⟩
            replace H : (if x8_2 ≤ (a1.size : Int) then ((some (([(⟨a1.extract 0 (x8_2 : Int).toNat, a1.extract ((ji26) : Int).toNat a1.size⟩ : S151)] : List (S151)) : List (S151))).bind fun y183 => (if y180.length + y183.length < 4398046511104 then (some ((y180 ++ y183), true)) else (none))) else (none)) = some (r1, r2) := zz2 hy180
            have Ny180 := aM hy180
            clear hy180
            have c61b0 := eq_true (pI : 0 ≤ x8_2)
            by_cases c62 : x8_2 ≤ (a1.size : Int)
            ·rw [if_pos c62] at H
             have c62b0 := eq_true c62
             have c62b1 : decide (x8_2 ≤ (a1.size : Int)) = true := decide_eq_true c62
             clear c62
             obtain ⟨y183, hy183⟩ : ∃ y_ : List (S151), y_ = (([(⟨a1.extract 0 (x8_2 : Int).toNat, a1.extract ((ji26) : Int).toNat a1.size⟩ : S151)] : List (S151))) := ⟨_, rfl⟩
             replace H : (if y180.length + y183.length < 4398046511104 then (some ((y180 ++ y183), true)) else (none)) = some (r1, r2) := zz2 hy183
             have Ny183 := aM hy183
             clear hy183
             by_cases c63 : y180.length + y183.length < 4398046511104
             ·rw [if_pos c63] at H
              have LMc63 := aM c63
              clear c63
              obtain ⟨y186, hy186⟩ : ∃ y_ : List (S151), y_ = (y180 ++ y183) := ⟨_, rfl⟩
              replace H : (some (y186, true)) = some (r1, r2) := zz2 hy186
              have Ny186 := aM hy186
              clear hy186
              simp only [Option.some.injEq, Prod.mk.injEq] at H
              obtain ⟨rfl, rfl⟩ := H
              try go_wp2
              replace HB := aM (below_drew1 HB.out)
              refine start_ (n := 12) (S := fun w' => True) (ds := []) (bsA 12 0) (by kernel_rfl) rfl rfl trivial (fun hHeld => ?_); refine with_tabW spec_l4Line.tab15 spec_l4Line.bits15 (fun HT_ HW_ => ?_)
              generalize wr.drew = w64 at HB hHeld ⊢
              refine pa_ (i := 1) (N := some 63) (bsA 12 2) (h := ?_)
              refine pa_ (i := 3) (N := some 65) (bsA 12 10) (h := ?_)
              refine pa_ (i := 4) (N := some 66) (bsA 12 26) (h := ?_)
              refine pa_ (i := 5) (N := some 67) (bsA 12 58) (h := ?_)
              refine pa_ (i := 6) (N := some 68) (bsA 12 122) (h := ?_)
              refine pa_ (i := 7) (N := some 69) (bsA 12 250) (h := ?_)
              refine join_ (σ := Value × Value × Value) 3 (bsA 12 511) (fun s_ => [(62, s_.1), (64, s_.2.1), (70, s_.2.2)]) (fun s_ w' => (Kd.R k151 151 w' w.heap.size (fun k_ => some k_ ≠ (s_.2.2 : Value).ownBlock) s_.2.1 y180) ∧ (Kd.R k151 151 w' w.heap.size (fun k_ => some k_ ≠ (s_.2.1 : Value).ownBlock) s_.2.2 y183) ∧ (Below w.heap.size w w')) ?_ ?_
              rotate_left
              ·intro hCont
               refine two_ (i := 0) (j := 8) (Ni := some 62) (Nj := some 70) (bsA 12 251) (bsA 12 506) rfl rfl rfl rfl (two_of HT_.out (by kernel_rfl)) (by decide) (by decide) (fun K hK => ?_) (fun K hK => ?_)
               ·skip
                refine Kd.R_lit_step k151 _ 151 ?hg (N := 62) ?hd (xs := ([] : List (S151))) (inner := []) (ok := fun _ => True) (okp := fun _ => True) ?hr ?hp (fun _ hk => hk) trivial (Below.refl _ _) (Nat.le_refl _) (by simp) ?_; (case hd => rfl); (case hg => rfl); (case hr => exact zz13); (case hp => exact (Reps.none _ _))
                intro v178 w65 ho66 hb hg_ hnew_
                clear hg_ hnew_
                (first | rw [← Ny177.out] at ho66 | (simp only [Int.reduceToNat] at ho66; rw [← Ny177.out] at ho66))
                have HO179 := aM (Kd.R_lower ho66 (below_size bB))
                replace HB := aM (below_step bB hb)
                clear hb ho66
                refine hK.out _ _ trivial (fun hHeld => ?_)
                clear hK K
                refine na_ (N := some 62) (h := ?_)
                refine two_ (i := 2) (j := 8) (Ni := some 64) (Nj := some 70) (bsA 12 255) (bsA 12 507) rfl rfl rfl rfl (two_of HT_.out (by kernel_rfl)) (by decide) (by decide) (fun K hK => ?_) (fun K hK => ?_)
                ·skip
                 refine Kd.R_append_rows_step k151 (w0 := w) w.heap.size (by rfl) (.tmp 62) (.tmp 63) 128 151 (.agg #[(.string ⟨#[]⟩), (.string ⟨#[]⟩)]) 32 rfl Tryd.underlying128 info151 rfl (by decide) (by omega) v178 y177 l0 _ _ _ (fun _ => True) (fun _ => False) rfl rfl ?aO ?aR (fun _ _ h => h) (fun _ h => h.elim) ?aF ?aB ?aS ?aL ?_
                 (case aR => exact zz6 HR0.out)
                 (case aB => exact bB)
                 (case aF => exact (fun _ _ => trivial))
                 (case aO => exact (bR HO179))
                 (case aS => exact (below_size bB))
                 (case aL => have := LMc60.out; omega)
                 intro v181 w67 ho hb hg hat
                 rw [← Ny180.out] at ho
                 have n0_ := aM (hb)
                 have n1_ := aM (ho)
                 clear HB
                 clear HO179
                 have HB := n0_
                 have HO182 := n1_
                 clear n0_ n1_
                 clear ho hb hg hat
                 refine hK.out _ _ trivial (fun hHeld => ?_)
                 clear hK K
                 refine na_ (N := some 64) (h := ?_)
                 refine one_ (i := 8) (N := some 70) (bsA 12 511) rfl rfl (one_of HT_.out (by kernel_rfl)) (by decide) (fun K hK => ?_)
                 refine Kd.R_lit_step k151 _ 151 ?hg (N := 70) ?hd (xs := ([(⟨a1.extract 0 (x8_2 : Int).toNat, a1.extract ((ji26) : Int).toNat a1.size⟩ : S151)] : List (S151))) (inner := [.string (a1.extract 0 (x8_2 : Int).toNat), .string (a1.extract ((ji26) : Int).toNat a1.size)]) (ok := fun _ => True) (okp := fun _ => True) ?hr ?hp (fun _ hk => hk) trivial (Below.refl _ _) (Nat.le_refl _) (by simp) ?_; (case hd => rfl); (case hg => rfl); (case hr => exact zz13); (case hp => exact (Reps.c2 (show Kd.M k151 _ _ _ (⟨a1.extract 0 (x8_2 : Int).toNat, a1.extract ((ji26) : Int).toNat a1.size⟩ : S151) [.string (a1.extract 0 (x8_2 : Int).toNat), .string (a1.extract ((ji26) : Int).toNat a1.size)] from (k151_mkM _ _ _ (⟨a1.extract 0 (x8_2 : Int).toNat, a1.extract ((ji26) : Int).toNat a1.size⟩ : S151) )) (Reps.none _ _)))
                 intro v184 w68 ho69 hb hg_ hnew_
                 clear hg_ hnew_
                 (first | rw [← Ny183.out] at ho69 | (simp only [Int.reduceToNat] at ho69; rw [← Ny183.out] at ho69))
                 have HO185 := aM (Kd.R_lower (Kd.R_new' ho69 (Kd.R_lt (bR HO182))) (below_size bB))
                 replace HO182 := aM (Kd.R_elder' (bR HO182) (Kd.R_base ho69) hb)
                 replace HB := aM (below_step bB hb)
                 clear hb ho69
                 refine hK.out _ _ trivial (fun hHeld => ?_)
                 clear hK K
                 refine na_ (N := some 70) (h := ?_)
                 exact norm_ zz32 (hCont (v178, v181, v184) _ ⟨(zz12 HO182.out), (zz12 HO185.out), bB⟩)
                skip
                refine Kd.R_lit_step k151 _ 151 ?hg (N := 70) ?hd (xs := ([(⟨a1.extract 0 (x8_2 : Int).toNat, a1.extract ((ji26) : Int).toNat a1.size⟩ : S151)] : List (S151))) (inner := [.string (a1.extract 0 (x8_2 : Int).toNat), .string (a1.extract ((ji26) : Int).toNat a1.size)]) (ok := fun _ => True) (okp := fun _ => True) ?hr ?hp (fun _ hk => hk) trivial (Below.refl _ _) (Nat.le_refl _) (by simp) ?_; (case hd => rfl); (case hg => rfl); (case hr => exact zz13); (case hp => exact (Reps.c2 (show Kd.M k151 _ _ _ (⟨a1.extract 0 (x8_2 : Int).toNat, a1.extract ((ji26) : Int).toNat a1.size⟩ : S151) [.string (a1.extract 0 (x8_2 : Int).toNat), .string (a1.extract ((ji26) : Int).toNat a1.size)] from (k151_mkM _ _ _ (⟨a1.extract 0 (x8_2 : Int).toNat, a1.extract ((ji26) : Int).toNat a1.size⟩ : S151) )) (Reps.none _ _)))
                intro v184 w67 ho68 hb hg_ hnew_
                clear hg_ hnew_
                (first | rw [← Ny183.out] at ho68 | (simp only [Int.reduceToNat] at ho68; rw [← Ny183.out] at ho68))
                have HO185 := aM (Kd.R_lower (Kd.R_new' ho68 (Kd.R_lt (bR HO179))) (below_size bB))
                replace HO179 := aM (Kd.R_elder' (bR HO179) (Kd.R_base ho68) hb)
                replace HB := aM (below_step bB hb)
                clear hb ho68
                refine hK.out _ _ trivial (fun hHeld => ?_)
                clear hK K
                refine na_ (N := some 70) (h := ?_)
                refine one_ (i := 2) (N := some 64) (bsA 12 511) rfl rfl (one_of HT_.out (by kernel_rfl)) (by decide) (fun K hK => ?_)
                refine Kd.R_append_rows_step k151 (w0 := w) w.heap.size (by rfl) (.tmp 62) (.tmp 63) 128 151 (.agg #[(.string ⟨#[]⟩), (.string ⟨#[]⟩)]) 32 rfl Tryd.underlying128 info151 rfl (by decide) (by omega) v178 y177 l0 _ _ _ (fun k_ => some k_ ≠ (v184 : Value).ownBlock) (fun _ => False) rfl rfl ?aO ?aR (fun _ _ h => h) (fun _ h => h.elim) ?aF ?aB ?aS ?aL ?_
                (case aR => exact zz6 HR0.out)
                (case aB => exact bB)
                (case aF => exact (fun k_ hk => Kd.fresh' (Kd.R_lt (bR HO185)) k_ hk))
                (case aO => exact zz36 HO179.out)
                (case aS => exact (below_size bB))
                (case aL => have := LMc60.out; omega)
                intro v181 w69 ho hb hg hat
                rw [← Ny180.out] at ho
                have n0_ := aM (Kd.R_after (ok := (fun _ => True)) (bR HO185) hg hat)
                have n1_ := aM (hb)
                have n2_ := aM (ho)
                clear HO185
                clear HB
                clear HO179
                have HO185 := n0_
                have HB := n1_
                have HO182 := n2_
                clear n0_ n1_ n2_
                clear ho hb hg hat
                refine hK.out _ _ trivial (fun hHeld => ?_)
                clear hK K
                refine na_ (N := some 64) (h := ?_)
                exact norm_ zz32 (hCont (v178, v181, v184) _ ⟨(bR HO182), (zz12 HO185.out), bB⟩)
               skip
               refine Kd.R_lit_step k151 _ 151 ?hg (N := 70) ?hd (xs := ([(⟨a1.extract 0 (x8_2 : Int).toNat, a1.extract ((ji26) : Int).toNat a1.size⟩ : S151)] : List (S151))) (inner := [.string (a1.extract 0 (x8_2 : Int).toNat), .string (a1.extract ((ji26) : Int).toNat a1.size)]) (ok := fun _ => True) (okp := fun _ => True) ?hr ?hp (fun _ hk => hk) trivial (Below.refl _ _) (Nat.le_refl _) (by simp) ?_; (case hd => rfl); (case hg => rfl); (case hr => exact zz13); (case hp => exact (Reps.c2 (show Kd.M k151 _ _ _ (⟨a1.extract 0 (x8_2 : Int).toNat, a1.extract ((ji26) : Int).toNat a1.size⟩ : S151) [.string (a1.extract 0 (x8_2 : Int).toNat), .string (a1.extract ((ji26) : Int).toNat a1.size)] from (k151_mkM _ _ _ (⟨a1.extract 0 (x8_2 : Int).toNat, a1.extract ((ji26) : Int).toNat a1.size⟩ : S151) )) (Reps.none _ _)))
               intro v184 w65 ho66 hb hg_ hnew_
               clear hg_ hnew_
               (first | rw [← Ny183.out] at ho66 | (simp only [Int.reduceToNat] at ho66; rw [← Ny183.out] at ho66))
               have HO185 := aM (Kd.R_lower ho66 (below_size bB))
               replace HB := aM (below_step bB hb)
               clear hb ho66
               refine hK.out _ _ trivial (fun hHeld => ?_)
               clear hK K
               refine na_ (N := some 70) (h := ?_)
               refine one_ (i := 0) (N := some 62) (bsA 12 507) rfl rfl (one_of HT_.out (by kernel_rfl)) (by decide) (fun K hK => ?_)
               refine Kd.R_lit_step k151 _ 151 ?hg (N := 62) ?hd (xs := ([] : List (S151))) (inner := []) (ok := fun _ => True) (okp := fun _ => True) ?hr ?hp (fun _ hk => hk) trivial (Below.refl _ _) (Nat.le_refl _) (by simp) ?_; (case hd => rfl); (case hg => rfl); (case hr => exact zz13); (case hp => exact (Reps.none _ _))
               intro v178 w67 ho68 hb hg_ hnew_
               clear hg_ hnew_
               (first | rw [← Ny177.out] at ho68 | (simp only [Int.reduceToNat] at ho68; rw [← Ny177.out] at ho68))
               have HO179 := aM (Kd.R_lower (Kd.R_new' ho68 (Kd.R_lt (bR HO185))) (below_size bB))
               replace HO185 := aM (Kd.R_elder' (bR HO185) (Kd.R_base ho68) hb)
               replace HB := aM (below_step bB hb)
               clear hb ho68
               refine hK.out _ _ trivial (fun hHeld => ?_)
               clear hK K
               refine na_ (N := some 62) (h := ?_)
               refine one_ (i := 2) (N := some 64) (bsA 12 511) rfl rfl (one_of HT_.out (by kernel_rfl)) (by decide) (fun K hK => ?_)
               refine Kd.R_append_rows_step k151 (w0 := w) w.heap.size (by rfl) (.tmp 62) (.tmp 63) 128 151 (.agg #[(.string ⟨#[]⟩), (.string ⟨#[]⟩)]) 32 rfl Tryd.underlying128 info151 rfl (by decide) (by omega) v178 y177 l0 _ _ _ (fun k_ => some k_ ≠ (v184 : Value).ownBlock) (fun _ => False) rfl rfl ?aO ?aR (fun _ _ h => h) (fun _ h => h.elim) ?aF ?aB ?aS ?aL ?_
               (case aR => exact zz6 HR0.out)
               (case aB => exact bB)
               (case aF => exact (fun k_ hk => Kd.fresh' (Kd.R_lt (bR HO185)) k_ hk))
               (case aO => exact zz36 HO179.out)
               (case aS => exact (below_size bB))
               (case aL => have := LMc60.out; omega)
               intro v181 w69 ho hb hg hat
               rw [← Ny180.out] at ho
               have n0_ := aM (Kd.R_after (ok := (fun _ => True)) (bR HO185) hg hat)
               have n1_ := aM (hb)
               have n2_ := aM (ho)
               clear HO185
               clear HB
               clear HO179
               have HO185 := n0_
               have HB := n1_
               have HO182 := n2_
               clear n0_ n1_ n2_
               clear ho hb hg hat
               refine hK.out _ _ trivial (fun hHeld => ?_)
               clear hK K
               refine na_ (N := some 64) (h := ?_)
               exact norm_ zz32 (hCont (v178, v181, v184) _ ⟨(bR HO182), (zz12 HO185.out), bB⟩)
              rintro ⟨v178, v181, v184⟩ w70 ⟨h0_, h1_, h2_⟩
              have n0_ : Aside0 (Kd.R k151 151 w70 w.heap.size (fun k_ => some k_ ≠ (v184 : Value).ownBlock) v181 y180) := ⟨h0_⟩
              have n1_ : Aside0 (Kd.R k151 151 w70 w.heap.size (fun k_ => some k_ ≠ (v181 : Value).ownBlock) v184 y183) := ⟨h1_⟩
              have n2_ : Aside0 (Below w.heap.size w w70) := ⟨h2_⟩
              clear HB
              clear h0_ h1_ h2_
              have HO182 := n0_
              have HO185 := n1_
              have HB := n2_
              clear n0_ n1_ n2_
              have hHeld := trivial
              obtain ⟨Ao72, co72, eo72⟩ := Kd.R_slice HO185.out
              (first | subst eo72 | (injection eo72 with f1_ f2_ f3_; have f4_ := f1_.symm; have f5_ := f3_.symm; clear f1_ f2_ f3_; subst f4_; subst f5_))
              refine norm_ (a' := ?_) ?_ ?_
              rotate_left
              ·simp only [putAll, Act.put, List.setIfInBounds_toArray, List.set_cons_zero, List.set_cons_succ]
               rfl
              refine one_ (i := 9) (N := some 71) (bsA 12 1023) rfl rfl (one_of HT_.out (by kernel_rfl)) (by decide) (fun K hK => ?_)
              refine Kd.R_append_rows_step k151 (w0 := w) w.heap.size (by rfl) (.tmp 64) (.tmp 70) 128 151 (.agg #[(.string ⟨#[]⟩), (.string ⟨#[]⟩)]) 32 rfl Tryd.underlying128 info151 rfl (by decide) (by omega) v181 y180 y183 _ _ _ (fun k_ => some k_ ≠ (.slice Ao72 y183.length co72 : Value).ownBlock) (fun _ => False) rfl rfl ?aO ?aR (fun _ _ h => h) (fun _ h => h.elim) ?aF ?aB ?aS ?aL ?_
              (case aR => exact zz7 HO185.out)
              (case aB => exact bB)
              (case aF => exact (fun k_ hk => Kd.fresh' (Kd.R_lt (bR HO185)) k_ hk))
              (case aO => exact (bR HO182))
              (case aS => exact (below_size bB))
              (case aL => have := LMc63.out; omega)
              intro v187 w71 ho hb hg hat
              rw [← Ny186.out] at ho
              have n0_ := aM (Kd.R_after (ok := (fun _ => True)) (zz39 HO185.out) hg hat)
              have n1_ := aM (hb)
              have n2_ := aM (ho)
              clear HO185
              clear HB
              clear HO182
              have HO185 := n0_
              have HB := n1_
              have HO188 := n2_
              clear n0_ n1_ n2_
              clear ho hb hg hat
              refine hK.out _ _ trivial (fun hHeld => ?_)
              clear hK K
              refine na_ (N := some 71) (h := ?_)
              refine pa_ (i := 10) (N := some 4) (bsA 12 2047) (h := ?_)
              refine pa_ (i := 11) (N := some 5) (bsA 12 4095) (h := ?_)
              refine done_ (done_of HT_.out (by kernel_rfl)) ?_
              try go_wp2
              go_ret2
              exact ⟨_, zz44, zz37 HO188.out, bB⟩
             rw [if_neg c63] at H
             exact absurd H (by simp)
            rw [if_neg c62] at H
            exact absurd H (by simp)
           rw [if_neg c60] at H
           exact absurd H (by simp)
          rw [if_neg c43] at H
          exact absurd H (by simp)
         rw [if_neg c28] at H
         exact absurd H (by simp)
        rw [if_neg c27] at H
        exact absurd H (by simp)
       rw [if_neg c25] at H
       have c25b0 : ((bt a1 x8_2) == 58) = false := beq_eq_false_iff_ne.mpr c25
       have c25b1 : ((bt a1 x8_2) != 58) = true := bne_iff_ne.mpr c25
       have H' := aM H
       clear H
       (try simp only [c25b0, c25b1])
       go_wp2
       go_roundg k2
       case measure => have := HJ2.out; have := HK2.out; omega
       case rel => exact ⟨(wrap64 (x8_2 + 1)), bS, H', ⟨zz53 HJ2.out HK2.out⟩, ⟨bB⟩⟩
      rw [if_neg c23] at H
      exact absurd H (by simp)
     rw [if_neg c22] at H
     have c22b0 : decide (x8_2 < (a1.size : Int)) = false := decide_eq_false c22
     clear c22
     simp only [Option.some.injEq, Prod.mk.injEq] at H
     obtain ⟨rfl, rfl⟩ := H
     go_wp2
     go_ret2
     exact ⟨_, bE, zz38, bB⟩
def spec_l4NameByte.f (a0 : Int) : Option (Bool) := if a0 ≥ 97 then (if a0 ≤ 122 then (some true) else (if a0 ≥ 65 then (if a0 ≤ 90 then (some true) else (if a0 ≥ 48 then (if a0 ≤ 57 then (some true) else (some (a0 == 45))) else (some (a0 == 45)))) else (if a0 ≥ 48 then (if a0 ≤ 57 then (some true) else (some (a0 == 45))) else (some (a0 == 45))))) else (if a0 ≥ 65 then (if a0 ≤ 90 then (some true) else (if a0 ≥ 48 then (if a0 ≤ 57 then (some true) else (some (a0 == 45))) else (some (a0 == 45)))) else (if a0 ≥ 48 then (if a0 ≤ 57 then (some true) else (some (a0 == 45))) else (some (a0 == 45))))
set_option maxHeartbeats 8000000 in
set_option maxRecDepth 100000 in
theorem spec_l4NameByte.calls (a0 : Int) (r : Bool) (w : World) (h : spec_l4NameByte.f a0 = some r) :
  Calls Tryd.prog 156 #[.int .u8 a0] w fun e w' => e = .returned (.bool r) ∧ Drawn0 w w' := by
 have H : (if a0 ≥ 97 then (if a0 ≤ 122 then (some true) else (if a0 ≥ 65 then (if a0 ≤ 90 then (some true) else (if a0 ≥ 48 then (if a0 ≤ 57 then (some true) else (some (a0 == 45))) else (some (a0 == 45)))) else (if a0 ≥ 48 then (if a0 ≤ 57 then (some true) else (some (a0 == 45))) else (some (a0 == 45))))) else (if a0 ≥ 65 then (if a0 ≤ 90 then (some true) else (if a0 ≥ 48 then (if a0 ≤ 57 then (some true) else (some (a0 == 45))) else (some (a0 == 45)))) else (if a0 ≥ 48 then (if a0 ≤ 57 then (some true) else (some (a0 == 45))) else (some (a0 == 45))))) = some r := h
 clear h
 by_cases c2 : a0 ≥ 97
 ·rw [if_pos c2] at H
  have c2b0 : decide (97 ≤ a0) = true := decide_eq_true c2
  clear c2
  by_cases c3 : a0 ≤ 122
  ·rw [if_pos c3] at H
   have c3b0 : decide (a0 ≤ 122) = true := decide_eq_true c3
   clear c3
   obtain rfl := Option.some.inj H
   go_enter Tryd.func156, Tryd.ntmps156
   go_wp2
   go_ret
   exact ⟨bS, zz5⟩
  rw [if_neg c3] at H
  have c3b0 : decide (a0 ≤ 122) = false := decide_eq_false c3
  clear c3
  by_cases c4 : a0 ≥ 65
  ·rw [if_pos c4] at H
   have c4b0 : decide (65 ≤ a0) = true := decide_eq_true c4
   clear c4
   by_cases c5 : a0 ≤ 90
   ·rw [if_pos c5] at H
    have c5b0 : decide (a0 ≤ 90) = true := decide_eq_true c5
    clear c5
    obtain rfl := Option.some.inj H
    go_enter Tryd.func156, Tryd.ntmps156
    go_wp2
    go_ret
    exact ⟨bS, zz5⟩
   rw [if_neg c5] at H
   have c5b0 : decide (a0 ≤ 90) = false := decide_eq_false c5
   clear c5
   by_cases c6 : a0 ≥ 48
   ·rw [if_pos c6] at H
    have c6b0 : decide (48 ≤ a0) = true := decide_eq_true c6
    clear c6
    by_cases c7 : a0 ≤ 57
    ·rw [if_pos c7] at H
     have c7b0 : decide (a0 ≤ 57) = true := decide_eq_true c7
     clear c7
     obtain rfl := Option.some.inj H
     go_enter Tryd.func156, Tryd.ntmps156
     go_wp2
     go_ret
     exact ⟨bS, zz5⟩
    rw [if_neg c7] at H
    have c7b0 : decide (a0 ≤ 57) = false := decide_eq_false c7
    clear c7
    obtain rfl := Option.some.inj H
    go_enter Tryd.func156, Tryd.ntmps156
    go_wp2
    go_ret
    exact ⟨bS, zz5⟩
   rw [if_neg c6] at H
   have c6b0 : decide (48 ≤ a0) = false := decide_eq_false c6
   clear c6
   obtain rfl := Option.some.inj H
   go_enter Tryd.func156, Tryd.ntmps156
   go_wp2
   go_ret
   exact ⟨bS, zz5⟩
  rw [if_neg c4] at H
  have c4b0 : decide (65 ≤ a0) = false := decide_eq_false c4
  clear c4
  by_cases c8 : a0 ≥ 48
  ·rw [if_pos c8] at H
   have c8b0 : decide (48 ≤ a0) = true := decide_eq_true c8
   clear c8
   by_cases c9 : a0 ≤ 57
   ·rw [if_pos c9] at H
    have c9b0 : decide (a0 ≤ 57) = true := decide_eq_true c9
    clear c9
    obtain rfl := Option.some.inj H
    go_enter Tryd.func156, Tryd.ntmps156
    go_wp2
    go_ret
    exact ⟨bS, zz5⟩
   rw [if_neg c9] at H
   have c9b0 : decide (a0 ≤ 57) = false := decide_eq_false c9
   clear c9
   obtain rfl := Option.some.inj H
   go_enter Tryd.func156, Tryd.ntmps156
   go_wp2
   go_ret
   exact ⟨bS, zz5⟩
  rw [if_neg c8] at H
  have c8b0 : decide (48 ≤ a0) = false := decide_eq_false c8
  clear c8
  obtain rfl := Option.some.inj H
  go_enter Tryd.func156, Tryd.ntmps156
  go_wp2
  go_ret
  exact ⟨bS, zz5⟩
 rw [if_neg c2] at H
 have c2b0 : decide (97 ≤ a0) = false := decide_eq_false c2
 clear c2
 by_cases c10 : a0 ≥ 65
 ·rw [if_pos c10] at H
  have c10b0 : decide (65 ≤ a0) = true := decide_eq_true c10
  clear c10
  by_cases c11 : a0 ≤ 90
  ·rw [if_pos c11] at H
   have c11b0 : decide (a0 ≤ 90) = true := decide_eq_true c11
   clear c11
   obtain rfl := Option.some.inj H
   go_enter Tryd.func156, Tryd.ntmps156
   go_wp2
   go_ret
   exact ⟨bS, zz5⟩
  rw [if_neg c11] at H
  have c11b0 : decide (a0 ≤ 90) = false := decide_eq_false c11
  clear c11
  by_cases c12 : a0 ≥ 48
  ·rw [if_pos c12] at H
   have c12b0 : decide (48 ≤ a0) = true := decide_eq_true c12
   clear c12
   by_cases c13 : a0 ≤ 57
   ·rw [if_pos c13] at H
    have c13b0 : decide (a0 ≤ 57) = true := decide_eq_true c13
    clear c13
    obtain rfl := Option.some.inj H
    go_enter Tryd.func156, Tryd.ntmps156
    go_wp2
    go_ret
    exact ⟨bS, zz5⟩
   rw [if_neg c13] at H
   have c13b0 : decide (a0 ≤ 57) = false := decide_eq_false c13
   clear c13
   obtain rfl := Option.some.inj H
   go_enter Tryd.func156, Tryd.ntmps156
   go_wp2
   go_ret
   exact ⟨bS, zz5⟩
  rw [if_neg c12] at H
  have c12b0 : decide (48 ≤ a0) = false := decide_eq_false c12
  clear c12
  obtain rfl := Option.some.inj H
  go_enter Tryd.func156, Tryd.ntmps156
  go_wp2
  go_ret
  exact ⟨bS, zz5⟩
 rw [if_neg c10] at H
 have c10b0 : decide (65 ≤ a0) = false := decide_eq_false c10
 clear c10
 by_cases c14 : a0 ≥ 48
 ·rw [if_pos c14] at H
  have c14b0 : decide (48 ≤ a0) = true := decide_eq_true c14
  clear c14
  by_cases c15 : a0 ≤ 57
  ·rw [if_pos c15] at H
   have c15b0 : decide (a0 ≤ 57) = true := decide_eq_true c15
   clear c15
   obtain rfl := Option.some.inj H
   go_enter Tryd.func156, Tryd.ntmps156
   go_wp2
   go_ret
   exact ⟨bS, zz5⟩
  rw [if_neg c15] at H
  have c15b0 : decide (a0 ≤ 57) = false := decide_eq_false c15
  clear c15
  obtain rfl := Option.some.inj H
  go_enter Tryd.func156, Tryd.ntmps156
  go_wp2
  go_ret
  exact ⟨bS, zz5⟩
 rw [if_neg c14] at H
 have c14b0 : decide (48 ≤ a0) = false := decide_eq_false c14
 clear c14
 obtain rfl := Option.some.inj H
 go_enter Tryd.func156, Tryd.ntmps156
 go_wp2
 go_ret
 exact ⟨bS, zz5⟩
end Go.Proofs.YtecpanfndodjgaaDoor.PPartAt
