/- Part of the proof; words that it uses. -/
import Derived.Test.YtecpanfndodjgaaDoorPPathOfx0
namespace Go.Proofs.YtecpanfndodjgaaDoor.PPathOf
open Go.RowKit Go.Proofs.YtecpanfndodjgaaDoorW.PrintWords Go.Proofs.YtecpanfndodjgaaDoorW.PrintLast Go.Proofs.YtecpanfndodjgaaDoorW.PrintMore
attribute [local go_sem] max2_int max_two
set_option linter.unusedVariables false
set_option linter.unusedSimpArgs false
mutual
def spec_l4Line.j0 : Nat → List (S151) → ByteArray → Int → Bool → Option ((List (S151)) × Bool)
 | 0, _, _, _, _ => none
 | k + 1, x0, x1, x6, x19 => if x19 = true then (if x6 = 0 then (some (([] : List (S151)), false)) else ((some (([] : List (S151)) : List (S151))).bind fun y146 => (if y146.length + x0.length < 4398046511104 then ((some (y146 ++ x0 : List (S151))).bind fun y149 => (if 0 ≤ (wrap64 (x6 - 1)) then (if (wrap64 (x6 - 1)) < (y149.length : Int) then (if ((rd_T151 y149 (wrap64 (x6 - 1))).f1).size + x1.size ≤ 9223372036854775807 then (some ((y149.set ((wrap64 (x6 - 1)) : Int).toNat (⟨(rd_T151 y149 (wrap64 (x6 - 1))).f0, ((rd_T151 y149 (wrap64 (x6 - 1))).f1) ++ x1⟩ : S151)), true)) else (none)) else (none)) else (none))) else (none)))) else (spec_l4Line.l0 k x0 x1 0)
def spec_l4Line.l0 : Nat → List (S151) → ByteArray → Int → Option ((List (S151)) × Bool)
 | 0, _, _, _ => none
 | k + 1, x0, x1, x8 => if x8 < (x1.size : Int) then (if 0 ≤ x8 then (if (bt x1 x8) = 58 then (if 0 ≤ (wrap64 (x8 + 1)) then (if (wrap64 (x8 + 1)) ≤ (x1.size : Int) then (if (x1.extract ((wrap64 (x8 + 1)) : Int).toNat x1.size).toList = ([] : List UInt8) then ((some (([] : List (S151)) : List (S151))).bind fun y154 => (if y154.length + x0.length < 4398046511104 then ((some (y154 ++ x0 : List (S151))).bind fun y157 => (if x8 ≤ (x1.size : Int) then ((some (([(⟨x1.extract 0 (x8 : Int).toNat, x1.extract ((wrap64 (x8 + 1)) : Int).toNat x1.size⟩ : S151)] : List (S151)) : List (S151))).bind fun y160 => (if y157.length + y160.length < 4398046511104 then (some ((y157 ++ y160), true)) else (none))) else (none))) else (none))) else (if 0 < ((x1.extract ((wrap64 (x8 + 1)) : Int).toNat x1.size).size : Int) then (if (bt (x1.extract ((wrap64 (x8 + 1)) : Int).toNat x1.size) 0) = 32 then (if 1 ≤ ((x1.extract ((wrap64 (x8 + 1)) : Int).toNat x1.size).size : Int) then ((some (([] : List (S151)) : List (S151))).bind fun y166 => (if y166.length + x0.length < 4398046511104 then ((some (y166 ++ x0 : List (S151))).bind fun y169 => (if x8 ≤ (x1.size : Int) then ((some (([(⟨x1.extract 0 (x8 : Int).toNat, (x1.extract ((wrap64 (x8 + 1)) : Int).toNat x1.size).extract 1 (x1.extract ((wrap64 (x8 + 1)) : Int).toNat x1.size).size⟩ : S151)] : List (S151)) : List (S151))).bind fun y172 => (if y169.length + y172.length < 4398046511104 then (some ((y169 ++ y172), true)) else (none))) else (none))) else (none))) else (none)) else ((some (([] : List (S151)) : List (S151))).bind fun y178 => (if y178.length + x0.length < 4398046511104 then ((some (y178 ++ x0 : List (S151))).bind fun y181 => (if x8 ≤ (x1.size : Int) then ((some (([(⟨x1.extract 0 (x8 : Int).toNat, x1.extract ((wrap64 (x8 + 1)) : Int).toNat x1.size⟩ : S151)] : List (S151)) : List (S151))).bind fun y184 => (if y181.length + y184.length < 4398046511104 then (some ((y181 ++ y184), true)) else (none))) else (none))) else (none)))) else (none))) else (none)) else (none)) else (spec_l4Line.l0 k x0 x1 (wrap64 (x8 + 1)))) else (none)) else (some (([] : List (S151)), false))
end
def spec_l4Line.f (k : Nat) (l0 : List (S151)) (a1 : ByteArray) : Option ((List (S151)) × Bool) := if 0 < (a1.size : Int) then (if (bt a1 0) = 32 then (spec_l4Line.j0 k l0 a1 (l0.length : Int) true) else (spec_l4Line.j0 k l0 a1 (l0.length : Int) ((bt a1 0) == 9))) else (none)
def spec_l4Line.T15 : Bool × List (List Nat × List Nat) := (true, [([], []), ([], []), ([0, 1], [0, 1]), ([], []), ([], []), ([3, 4], [3, 4]), ([], []), ([5, 6], [5, 6]), ([7], [7]), ([2, 8, 2], [2, 8]), ([9, 9, 0, 1, 2, 3, 4, 5, 6, 7, 8, 9], [9]), ([10, 0, 1, 2, 3, 4, 5, 6, 7, 8, 9, 10], [])])
def spec_l4Line.B15 : List Nat := [0, 0, 3, 0, 0, 24, 0, 120, 248, 511, 1023, 2047]
theorem spec_l4Line.tab15 : rtab .any (opsOf Tryd.f142 15) = spec_l4Line.T15 := by kernel_rfl
theorem spec_l4Line.bits15 : waitsOk spec_l4Line.T15.2 spec_l4Line.B15 = true := by kernel_rfl
set_option maxHeartbeats 8000000 in
set_option maxRecDepth 100000 in
theorem spec_l4Line.calls (k : Nat) (A0 : Option Addr) (c0 : Nat) (l0 : List (S151)) (a1 : ByteArray) (r1 : List (S151)) (r2 : Bool) (w : World) (hr0 : Kd.C k151 w A0 l0.length l0) (hc0 : l0.length ≤ c0) (h : spec_l4Line.f k l0 a1 = some (r1, r2)) :
  Calls Tryd.prog 142 #[.slice A0 l0.length c0, .string a1] w fun e w' => ∃ v0_ : Value, e = .returned (.tuple #[v0_, .bool r2]) ∧ Kd.R k151 151 w' w.heap.size (fun _ => True) v0_ r1 ∧ Below w.heap.size w w' := by
 have hu151 := Tryd.underlying151
 have HR0 := aM hr0
 have HC0 := aM hc0
 clear hr0 hc0
 have HB := aM (Below.refl w.heap.size w)
 have H : (if 0 < (a1.size : Int) then (if (bt a1 0) = 32 then (spec_l4Line.j0 k l0 a1 (l0.length : Int) true) else (spec_l4Line.j0 k l0 a1 (l0.length : Int) ((bt a1 0) == 9))) else (none)) = some (r1, r2) := h
 clear h
 have HC3 := aM H
 clear H
 go_enter Tryd.func142, Tryd.ntmps142
 go_upto_region 2 with (fail)
 go_cut [19] (fun v19 wc => ∃ (kq : Nat) (x19_2 : Bool), v19 = .bool x19_2 ∧ Aside0 (spec_l4Line.j0 kq l0 a1 (l0.length : Int) x19_2 = some (r1, r2)) ∧ Aside0 (kq ≤ k) ∧ Aside0 (Below w.heap.size w wc))
 case first =>
  have H := HC3.out
  clear HC3
  by_cases c4 : 0 < (a1.size : Int)
  ·rw [if_pos c4] at H
   have c4b0 : decide (0 < (a1.size : Int)) = true := decide_eq_true c4
   have c4b1 : decide (0 < a1.size) = true := decide_eq_true (by omega)
   clear c4
   have HQ_ := aM H
   clear H
   (first | rw [c4b0] | rw [c4b1] | (simp only [i64_w, i32_w]; rw [c4b0]) | skip)
   have p5 : 0 ≤ (0 : Int) := (by omega)
   have q5 : 0 < a1.size := (by have : (0 : Int) < (a1.size : Int) := pI; omega)
   have hx5 : ∀ h : 0 < a1.size, ((a1[0]'h).toNat : Int) = bt a1 0 := bt_at a1 0
   clear p5
   have qi5 : (0 < (a1.size : Int)) = True := eq_true (pI)
   replace q5 := eq_true q5
   have H := HQ_.out
   clear HQ_
   by_cases c6 : (bt a1 0) = 32
   ·rw [if_pos c6] at H
    have c6b0 : ((bt a1 0) == 32) = true := beq_iff_eq.mpr c6
    have c6b1 : ((bt a1 0) != 32) = false := bne_eq_false_iff_eq.mpr c6
    clear c6
    have H' := aM H
    clear H
    (try simp only [c6b0, c6b1])
    go_wp2
    go_meet
    case rel => exact ⟨_, (true), bS, H', ⟨zz45⟩, ⟨bB⟩⟩
   rw [if_neg c6] at H
   have c6b0 : ((bt a1 0) == 32) = false := beq_eq_false_iff_ne.mpr c6
   have c6b1 : ((bt a1 0) != 32) = true := bne_iff_ne.mpr c6
   have H' := aM H
   clear H
   (try simp only [c6b0, c6b1])
   have p7 : 0 ≤ (0 : Int) := (by omega)
   have q7 : 0 < a1.size := (by have : (0 : Int) < (a1.size : Int) := pI; omega)
   have hx7 : ∀ h : 0 < a1.size, ((a1[0]'h).toNat : Int) = bt a1 0 := bt_at a1 0
   clear p7
   have qi7 : (0 < (a1.size : Int)) = True := eq_true (pI)
   replace q7 := eq_true q7
   go_wp2
   go_meet
   case rel => exact ⟨_, (((bt a1 0) == 9)), bS, H', ⟨zz45⟩, ⟨bB⟩⟩
  rw [if_neg c4] at H
  exact absurd H (by simp)
 case rest =>
  clear HC3
  try clear c1
  try clear p2
  try clear c4
  try clear c4b0
  try clear c4b1
  try clear p5
  try clear q5
  try clear hx5
  try clear qi5
  try clear c6
  try clear c6b0
  try clear c6b1
  try clear p7
  try clear q7
  try clear hx7
  try clear qi7
  try clear p5
  try clear p7
  try clear q5
  try clear q7
  obtain ⟨kq, x19_2, rfl, HA, HJ2, HB⟩ := hcut
  cases kq with
  | zero => exact absurd HA.out (by simp [spec_l4Line.j0])
  | succ kj2 =>
   have H := HA.out
   clear HA
   simp only [spec_l4Line.j0] at H
   by_cases c8 : x19_2 = true
   ·subst c8
    have H1 : (if (l0.length : Int) = 0 then (some (([] : List (S151)), false)) else ((some (([] : List (S151)) : List (S151))).bind fun y146 => (if y146.length + l0.length < 4398046511104 then ((some (y146 ++ l0 : List (S151))).bind fun y149 => (if 0 ≤ (wrap64 ((l0.length : Int) - 1)) then (if (wrap64 ((l0.length : Int) - 1)) < (y149.length : Int) then (if ((rd_T151 y149 (wrap64 ((l0.length : Int) - 1))).f1).size + a1.size ≤ 9223372036854775807 then (some ((y149.set ((wrap64 ((l0.length : Int) - 1)) : Int).toNat (⟨(rd_T151 y149 (wrap64 ((l0.length : Int) - 1))).f0, ((rd_T151 y149 (wrap64 ((l0.length : Int) - 1))).f1) ++ a1⟩ : S151)), true)) else (none)) else (none)) else (none))) else (none)))) = some (r1, r2) := zz25
    clear H
    have H := H1
    clear H1
    by_cases c9 : (l0.length : Int) = 0
    ·rw [if_pos c9] at H
     have c9b0 : ((l0.length : Int) == 0) = true := beq_iff_eq.mpr c9
     have c9b1 : ((l0.length : Int) != 0) = false := bne_eq_false_iff_eq.mpr c9
     clear c9
     simp only [Option.some.injEq, Prod.mk.injEq] at H
     obtain ⟨rfl, rfl⟩ := H
     go_wp2
     go_ret2
     exact ⟨_, bE, zz22, bB⟩
    rw [if_neg c9] at H
    have c9b0 : ((l0.length : Int) == 0) = false := beq_eq_false_iff_ne.mpr c9
    have c9b1 : ((l0.length : Int) != 0) = true := bne_iff_ne.mpr c9
    have c9b2 : ¬ (l0 = []) := fun h_ => c9 (by rw [h_]; rfl)
    obtain ⟨y146, hy146⟩ : ∃ y_ : List (S151), y_ = (([] : List (S151))) := ⟨_, rfl⟩
    replace H : (if y146.length + l0.length < 4398046511104 then ((some (y146 ++ l0 : List (S151))).bind fun y149 => (if 0 ≤ (wrap64 ((l0.length : Int) - 1)) then (if (wrap64 ((l0.length : Int) - 1)) < (y149.length : Int) then (if ((rd_T151 y149 (wrap64 ((l0.length : Int) - 1))).f1).size + a1.size ≤ 9223372036854775807 then (some ((y149.set ((wrap64 ((l0.length : Int) - 1)) : Int).toNat (⟨(rd_T151 y149 (wrap64 ((l0.length : Int) - 1))).f0, ((rd_T151 y149 (wrap64 ((l0.length : Int) - 1))).f1) ++ a1⟩ : S151)), true)) else (none)) else (none)) else (none))) else (none)) = some (r1, r2) := zz0 hy146
    have Ny146 := aM hy146
    clear hy146
    by_cases c10 : y146.length + l0.length < 4398046511104
    ·rw [if_pos c10] at H
     have LMc10 := aM c10
     clear c10
     obtain ⟨y149, hy149⟩ : ∃ y_ : List (S151), y_ = (y146 ++ l0) := ⟨_, rfl⟩
     replace H : (if 0 ≤ (wrap64 ((l0.length : Int) - 1)) then (if (wrap64 ((l0.length : Int) - 1)) < (y149.length : Int) then (if ((rd_T151 y149 (wrap64 ((l0.length : Int) - 1))).f1).size + a1.size ≤ 9223372036854775807 then (some ((y149.set ((wrap64 ((l0.length : Int) - 1)) : Int).toNat (⟨(rd_T151 y149 (wrap64 ((l0.length : Int) - 1))).f0, ((rd_T151 y149 (wrap64 ((l0.length : Int) - 1))).f1) ++ a1⟩ : S151)), true)) else (none)) else (none)) else (none)) = some (r1, r2) := zz0 hy149
     have Ny149 := aM hy149
     clear hy149
     obtain ⟨ji11, hji11⟩ : ∃ j_ : Int, (wrap64 ((l0.length : Int) - 1)) = j_ := ⟨_, rfl⟩
     replace H : (if 0 ≤ (ji11) then (if (ji11) < (y149.length : Int) then (if ((rd_T151 y149 (ji11)).f1).size + a1.size ≤ 9223372036854775807 then (some ((y149.set ((ji11) : Int).toNat (⟨(rd_T151 y149 (ji11)).f0, ((rd_T151 y149 (ji11)).f1) ++ a1⟩ : S151)), true)) else (none)) else (none)) else (none)) = some (r1, r2) := by first | (rw [hji11] at H; exact H) | (simp only [hji11] at H ⊢; exact H)
     have hji11w : (IntKind.i64.wrap ((l0.length : Int) - 1)) = ji11 := (i64_w _).trans hji11
     by_cases c12 : 0 ≤ (ji11)
     ·rw [if_pos c12] at H
      have c12b0 : decide (0 ≤ (ji11)) = true := decide_eq_true c12
      clear c12
      by_cases c13 : (ji11) < (y149.length : Int)
      ·rw [if_pos c13] at H
       have c13b0 : decide ((ji11) < (y149.length : Int)) = true := decide_eq_true c13
       clear c13
       by_cases c14 : ((rd_T151 y149 (ji11)).f1).size + a1.size ≤ 9223372036854775807
       ·rw [if_pos c14] at H
        have c14b0 := eq_true c14
        have c14b1 : decide (((rd_T151 y149 (ji11)).f1).size + a1.size ≤ 9223372036854775807) = true := decide_eq_true c14
        try have c14b2 : (9223372036854775807 < ((rd_T151 y149 (ji11)).f1).size + a1.size) = False := eq_false (Nat.not_lt.2 c14)
        obtain ⟨y153, hy153⟩ : ∃ y_ : List (S151), y_ = (y149.set ((ji11) : Int).toNat (⟨(rd_T151 y149 (ji11)).f0, ((rd_T151 y149 (ji11)).f1) ++ a1⟩ : S151)) := ⟨_, rfl⟩
        replace H : (some (y153, true)) = some (r1, r2) := zz0 hy153
        have Ny153 := aM hy153
        clear hy153
        simp only [Option.some.injEq, Prod.mk.injEq] at H
        obtain ⟨rfl, rfl⟩ := H
        go_wp2_with (first | ((with_reducible refine gate_dst (N := 22) rfl ?_); refine Kd.R_lit k151 _ 151 ?hg (N := 22) ?hd (xs := ([] : List (S151))) (inner := []) (ok := fun _ => True) (okp := fun _ => True) ?hr ?hp (fun _ hk => hk) trivial (Below.refl _ _) (Nat.le_refl _) (by simp) ?_; (case hd => rfl); (case hg => rfl); (case hr => exact zz12); (case hp => exact (Reps.none _ _)); intro v147 w16 ho17 hb hg_ hnew_; clear hg_ hnew_; (first | rw [← Ny146.out] at ho17 | (simp only [Int.reduceToNat] at ho17; rw [← Ny146.out] at ho17)); have HO148 := aM (Kd.R_lower ho17 (below_size bB)); replace HB := aM (below_step bB hb); clear hb ho17) | ((with_reducible refine gate_builtin (b := .append) (xs := #[.tmp 22, .tmp 23]) rfl ?_); at_builtin; refine Kd.R_append_rows k151 (w0 := w) w.heap.size rfl (.tmp 22) (.tmp 23) 128 151 (.agg #[(.string ⟨#[]⟩), (.string ⟨#[]⟩)]) 32 rfl Tryd.underlying128 info151 rfl (by decide) (by omega) v147 y146 l0 _ _ _ (fun _ => True) (fun _ => False) rfl rfl ?aO ?aR (fun _ _ h => h) (fun _ h => h.elim) ?aF ?aB ?aS ?aL ?_; (case aR => exact zz5 HR0.out); (case aB => exact bB); (case aF => exact (fun _ _ => trivial)); (case aO => exact (bR HO148)); (case aS => exact (below_size bB)); (case aL => have := LMc10.out; omega); intro v150 w18 ho hb hg hat; rw [← Ny149.out] at ho; have n0_ := aM (hb); have n1_ := aM (ho); clear HB; clear HO148; have HB := n0_; have HO151 := n1_; clear n0_ n1_; clear ho hb hg hat; obtain ⟨Ao19, co19, eo19⟩ := Kd.R_slice HO151.out; subst eo19; have p152 : 0 ≤ ((ji11) : Int) := pI; have q152 : (ji11) < (y149.length : Int) := pI; obtain ⟨ad152, e152, hx152_0, hx152_1⟩ := at_T151 (Kd.R_reads' HO151.out).2.2 (ji11) p152 q152; cases e152; replace p152 := eq_true p152; replace q152 := eq_true q152; have p15 : 0 ≤ ((ji11) : Int) := pI; have q15 : ((ji11) : Int) < ((y149.length : Int) : Int) := pI; obtain ⟨go15, co15, eo15, gb15, gl15, cl15, HG15⟩ := Kd.R_form HO151.out (by omega); (first | cases eo15 | (injection eo15 with ea_ en_ ec_; (first | subst ea_ | (injection ea_ with ea_; subst ea_)); subst ec_; clear en_)); have GB15 := aM gb15; have GG15 := aM HG15; clear gb15 gl15 HG15; (first | simp only [add_plain] at hx152_0 | skip); (first | simp only [add_plain] at hx152_1 | skip); obtain ⟨ce15, hcl15, hM15, hcc15, hfr15⟩ := Kd.R_elem HO151.out z151 ((ji11) : Int) p15 q15; obtain rfl := k151_openM hM15; have hx15_0 : w18.cell? ⟨go15, ((ji11) : Int).toNat * 2, none⟩ = some (.string ((rd_T151 y149 (ji11)).f0)) := hcc15 0 _ rfl; have hx15_1 : w18.cell? ⟨go15, ((ji11) : Int).toNat * 2 + 1, none⟩ = some (.string ((rd_T151 y149 (ji11)).f1)) := hcc15 1 _ rfl; have hf15_0 : w18.frozen? ⟨go15, ((ji11) : Int).toNat * 2, none⟩ = false := hfr15 0 (by decide); have hf15_1 : w18.frozen? ⟨go15, ((ji11) : Int).toNat * 2 + 1, none⟩ = false := hfr15 1 (by decide); clear hcl15 hcc15 hfr15 hM15; replace p15 := eq_true p15; replace q15 := eq_true q15; have HX20 := aM (show Kd.R k151 151 w18 w.heap.size (fun _ => True) (.slice (some ⟨go15, 0, none⟩) y149.length co19) y149 from (bR HO151)); obtain ⟨ce20, hcl20, hM20, hcc20, hfr20⟩ := Kd.R_elem HX20.out z151 ((ji11) : Int) (pI) (bH (pI : ((ji11) : Int) < ((y149.length : Int) : Int)) (Kd.R_reads' HO151.out).1); obtain rfl := k151_openM hM20; have HP20 := Kd.R_seg HX20.out ((ji11) : Int) (pI) (bH (pI : ((ji11) : Int) < ((y149.length : Int) : Int)) (Kd.R_reads' HO151.out).1) (seg := [.string (((rd_T151 y149 (ji11)).f1) ++ a1)]) (j := 1) hcl20 hcc20 (show 2 ≤ 2 from by decide) (x' := (⟨(rd_T151 y149 (ji11)).f0, ((rd_T151 y149 (ji11)).f1) ++ a1⟩ : S151)) (k151_mkM _ _ _ (⟨(rd_T151 y149 (ji11)).f0, ((rd_T151 y149 (ji11)).f1) ++ a1⟩ : S151) ) (fun _ hk => hk); have hx20_1 := hcc20 1 _ rfl; (try simp only [show (k151).sz = 2 from rfl, Nat.mul_one, Nat.add_zero] at hx20_1); have hf20_1 := hfr20 1 (by decide); (try simp only [show (k151).sz = 2 from rfl, Nat.mul_one, Nat.add_zero] at hf20_1); clear hcl20 hcc20 hfr20 hM20) | ((with_reducible refine gate_store (t := 9) (p := 37) rfl ?_); refine store_event (t := 9) (p := 37) (v := ?vo_w21) (w1 := (w18.setCell ⟨go15, ((ji11) : Int).toNat * 2 + 1, none⟩ (.string (((rd_T151 y149 (ji11)).f1) ++ a1)))) ?hg ?ho ?hn ?hr ?_; (case ho => rfl); (case hg => rfl); (case hn => rfl); (case hr => exact zz12); intro w21 hw; have hg : w18.grownBy w21 (some go15) := (by rw [hw]; exact HP20.2); have hp_ : Kd.R k151 151 w21 w.heap.size (fun _ => True) (.slice (some ⟨go15, 0, none⟩) y149.length co19) y153 := (by rw [hw, Ny153.out]; exact HP20.1); clear HP20; replace HO151 := aM (hp_); replace HB := aM ((zz56 GB15.out : Below w.heap.size w w21)); clear hg hw hp_))
        go_ret2
        exact ⟨_, by first | rfl | (simp [errW_none, errW_some] <;> rfl) | (simp only [← hji11]; first | rfl | (simp [errW_none, errW_some] <;> rfl)) | (simp [*, errW_none, errW_some] <;> rfl), bR HO151, bB⟩
       rw [if_neg c14] at H
       exact absurd H (by simp)
      rw [if_neg c13] at H
      exact absurd H (by simp)
     rw [if_neg c12] at H
     exact absurd H (by simp)
    rw [if_neg c10] at H
    exact absurd H (by simp)
   replace c8 := Bool.eq_false_iff.mpr c8
   subst c8
   have H1 : (spec_l4Line.l0 kj2 l0 a1 0) = some (r1, r2) := zz14
   clear H
   have H := H1
   clear H1
   have H' := aM H
   clear H
   go_wp2
   go_loopg [8] kj2 (fun kq v8 w' => ∃ (x8_2 : Int), v8 = .int .i64 x8_2 ∧ Aside0 (spec_l4Line.l0 kq l0 a1 x8_2 = some (r1, r2)) ∧ Aside0 (kq ≤ kj2) ∧ Aside0 (Below w.heap.size w w'))
   case atStart => exact ⟨(0), bS, H', ⟨Nat.le_refl _⟩, ⟨bB⟩⟩
   case round =>
    clear H'
    try clear c1
    try clear p1
    try clear q1
    try clear hx1
    try clear c2
    try clear p2
    try clear hx2
    try clear hf2
    try clear c4
    try clear c4b0
    try clear c4b1
    try clear p5
    try clear q5
    try clear hx5
    try clear qi5
    try clear c6
    try clear c6b0
    try clear c6b1
    try clear p6
    try clear p7
    try clear q7
    try clear hx7
    try clear qi7
    try clear c8
    try clear c9
    try clear c9b0
    try clear c9b1
    try clear c9b2
    try clear c10
    try clear c12
    try clear c12b0
    try clear c13
    try clear c13b0
    try clear c14
    try clear c14b0
    try clear c14b1
    try clear c14b2
    try clear c15
    try clear p15
    try clear q15
    try clear hx15
    try clear hf15
    try clear c20
    try clear hx20
    try clear hf20
    try clear hx152_0
    try clear hx152_1
    try clear hx15_0
    try clear hx15_1
    try clear hx20_1
    try clear p15
    try clear p152
    try clear p2
    try clear p5
    try clear p7
    try clear q15
    try clear q152
    try clear q5
    try clear q7
    obtain ⟨x8_2, rfl, HA, HK2, HB⟩ := hrel
    cases gk with
    | zero => exact absurd HA.out (by simp [spec_l4Line.l0])
    | succ k2 =>
     have H := HA.out
     clear HA
     simp only [spec_l4Line.l0] at H
     by_cases c22 : x8_2 < (a1.size : Int)
     ·rw [if_pos c22] at H
      have c22b0 : decide (x8_2 < (a1.size : Int)) = true := decide_eq_true c22
      clear c22
      by_cases c23 : 0 ≤ x8_2
      ·rw [if_pos c23] at H
       have c23b0 : decide (0 ≤ x8_2) = true := decide_eq_true c23
       clear c23
       have HQ_ := aM H
       clear H
       have p24 : 0 ≤ (x8_2 : Int) := pI
       have q24 : x8_2 < (a1.size : Int) := pI
       have hx24 := bt_at a1 x8_2
       replace p24 := eq_true p24
       replace q24 := eq_true q24
       have H := HQ_.out
       clear HQ_
       by_cases c25 : (bt a1 x8_2) = 58
       ·rw [if_pos c25] at H
        have c25b0 : ((bt a1 x8_2) == 58) = true := beq_iff_eq.mpr c25
        have c25b1 : ((bt a1 x8_2) != 58) = false := bne_eq_false_iff_eq.mpr c25
        clear c25
        obtain ⟨ji26, hji26⟩ : ∃ j_ : Int, (wrap64 (x8_2 + 1)) = j_ := ⟨_, rfl⟩
        replace H : (if 0 ≤ (ji26) then (if (ji26) ≤ (a1.size : Int) then (if (a1.extract ((ji26) : Int).toNat a1.size).toList = ([] : List UInt8) then ((some (([] : List (S151)) : List (S151))).bind fun y154 => (if y154.length + l0.length < 4398046511104 then ((some (y154 ++ l0 : List (S151))).bind fun y157 => (if x8_2 ≤ (a1.size : Int) then ((some (([(⟨a1.extract 0 (x8_2 : Int).toNat, a1.extract ((ji26) : Int).toNat a1.size⟩ : S151)] : List (S151)) : List (S151))).bind fun y160 => (if y157.length + y160.length < 4398046511104 then (some ((y157 ++ y160), true)) else (none))) else (none))) else (none))) else (if 0 < ((a1.extract ((ji26) : Int).toNat a1.size).size : Int) then (if (bt (a1.extract ((ji26) : Int).toNat a1.size) 0) = 32 then (if 1 ≤ ((a1.extract ((ji26) : Int).toNat a1.size).size : Int) then ((some (([] : List (S151)) : List (S151))).bind fun y166 => (if y166.length + l0.length < 4398046511104 then ((some (y166 ++ l0 : List (S151))).bind fun y169 => (if x8_2 ≤ (a1.size : Int) then ((some (([(⟨a1.extract 0 (x8_2 : Int).toNat, (a1.extract ((ji26) : Int).toNat a1.size).extract 1 (a1.extract ((ji26) : Int).toNat a1.size).size⟩ : S151)] : List (S151)) : List (S151))).bind fun y172 => (if y169.length + y172.length < 4398046511104 then (some ((y169 ++ y172), true)) else (none))) else (none))) else (none))) else (none)) else ((some (([] : List (S151)) : List (S151))).bind fun y178 => (if y178.length + l0.length < 4398046511104 then ((some (y178 ++ l0 : List (S151))).bind fun y181 => (if x8_2 ≤ (a1.size : Int) then ((some (([(⟨a1.extract 0 (x8_2 : Int).toNat, a1.extract ((ji26) : Int).toNat a1.size⟩ : S151)] : List (S151)) : List (S151))).bind fun y184 => (if y181.length + y184.length < 4398046511104 then (some ((y181 ++ y184), true)) else (none))) else (none))) else (none)))) else (none))) else (none)) else (none)) = some (r1, r2) := by first | (rw [hji26] at H; exact H) | (simp only [hji26] at H ⊢; exact H)
        have hji26w : (IntKind.i64.wrap (x8_2 + 1)) = ji26 := (i64_w _).trans hji26
        (try simp only [c25b0, c25b1])
        by_cases c27 : 0 ≤ (ji26)
        ·rw [if_pos c27] at H
         have c27b0 := eq_true c27
         have c27b1 : decide (0 ≤ (ji26)) = true := decide_eq_true c27
         clear c27
         by_cases c28 : (ji26) ≤ (a1.size : Int)
         ·rw [if_pos c28] at H
          have c28b0 := eq_true c28
          have c28b1 : decide ((ji26) ≤ (a1.size : Int)) = true := decide_eq_true c28
          clear c28
          by_cases c29 : (a1.extract ((ji26) : Int).toNat a1.size).toList = ([] : List UInt8)
          ·rw [if_pos c29] at H
           have c29b0 : ((a1.extract ((ji26) : Int).toNat a1.size).toList == ([] : List UInt8)) = true := beq_iff_eq.mpr c29
           have c29b1 : ((a1.extract ((ji26) : Int).toNat a1.size).toList != ([] : List UInt8)) = false := bne_eq_false_iff_eq.mpr c29
           clear c29
           obtain ⟨y154, hy154⟩ : ∃ y_ : List (S151), y_ = (([] : List (S151))) := ⟨_, rfl⟩
           replace H : (if y154.length + l0.length < 4398046511104 then ((some (y154 ++ l0 : List (S151))).bind fun y157 => (if x8_2 ≤ (a1.size : Int) then ((some (([(⟨a1.extract 0 (x8_2 : Int).toNat, a1.extract ((ji26) : Int).toNat a1.size⟩ : S151)] : List (S151)) : List (S151))).bind fun y160 => (if y157.length + y160.length < 4398046511104 then (some ((y157 ++ y160), true)) else (none))) else (none))) else (none)) = some (r1, r2) := zz0 hy154
           have Ny154 := aM hy154
           clear hy154
           (try simp only [c29b0, c29b1])
           by_cases c30 : y154.length + l0.length < 4398046511104
           ·rw [if_pos c30] at H
            have LMc30 := aM c30
            clear c30
            obtain ⟨y157, hy157⟩ : ∃ y_ : List (S151), y_ = (y154 ++ l0) := ⟨_, rfl⟩
            replace H : (if x8_2 ≤ (a1.size : Int) then ((some (([(⟨a1.extract 0 (x8_2 : Int).toNat, a1.extract ((ji26) : Int).toNat a1.size⟩ : S151)] : List (S151)) : List (S151))).bind fun y160 => (if y157.length + y160.length < 4398046511104 then (some ((y157 ++ y160), true)) else (none))) else (none)) = some (r1, r2) := zz0 hy157
            have Ny157 := aM hy157
            clear hy157
            have c31b0 := eq_true (pI : 0 ≤ x8_2)
            by_cases c32 : x8_2 ≤ (a1.size : Int)
            ·rw [if_pos c32] at H
             have c32b0 := eq_true c32
             have c32b1 : decide (x8_2 ≤ (a1.size : Int)) = true := decide_eq_true c32
             clear c32
             obtain ⟨y160, hy160⟩ : ∃ y_ : List (S151), y_ = (([(⟨a1.extract 0 (x8_2 : Int).toNat, a1.extract ((ji26) : Int).toNat a1.size⟩ : S151)] : List (S151))) := ⟨_, rfl⟩
             replace H : (if y157.length + y160.length < 4398046511104 then (some ((y157 ++ y160), true)) else (none)) = some (r1, r2) := zz0 hy160
             have Ny160 := aM hy160
             clear hy160
             by_cases c33 : y157.length + y160.length < 4398046511104
             ·rw [if_pos c33] at H
              have LMc33 := aM c33
              clear c33
              obtain ⟨y163, hy163⟩ : ∃ y_ : List (S151), y_ = (y157 ++ y160) := ⟨_, rfl⟩
              replace H : (some (y163, true)) = some (r1, r2) := zz0 hy163
              have Ny163 := aM hy163
              clear hy163
              simp only [Option.some.injEq, Prod.mk.injEq] at H
              obtain ⟨rfl, rfl⟩ := H
              try go_wp2
              replace HB := aM (below_drew1 HB.out)
              refine start_ (n := 12) (S := fun w' => True) (ds := []) (bsA 12 0) (by kernel_rfl) rfl rfl trivial (fun hHeld => ?_); refine with_tabW spec_l4Line.tab15 spec_l4Line.bits15 (fun HT_ HW_ => ?_)
              generalize wr.drew = w34 at HB hHeld ⊢
              refine pa_ (i := 1) (N := some 63) (bsA 12 2) (h := ?_)
              refine pa_ (i := 3) (N := some 65) (bsA 12 10) (h := ?_)
              refine pa_ (i := 4) (N := some 66) (bsA 12 26) (h := ?_)
              refine pa_ (i := 5) (N := some 67) (bsA 12 58) (h := ?_)
              refine pa_ (i := 6) (N := some 68) (bsA 12 122) (h := ?_)
              refine pa_ (i := 7) (N := some 69) (bsA 12 250) (h := ?_)
              refine join_ (σ := Value × Value × Value) 3 (bsA 12 511) (fun s_ => [(62, s_.1), (64, s_.2.1), (70, s_.2.2)]) (fun s_ w' => (Kd.R k151 151 w' w.heap.size (fun k_ => some k_ ≠ (s_.2.2 : Value).ownBlock) s_.2.1 y157) ∧ (Kd.R k151 151 w' w.heap.size (fun k_ => some k_ ≠ (s_.2.1 : Value).ownBlock) s_.2.2 y160) ∧ (Below w.heap.size w w')) ?_ ?_
              rotate_left
              ·intro hCont
               refine two_ (i := 0) (j := 8) (Ni := some 62) (Nj := some 70) (bsA 12 251) (bsA 12 506) rfl rfl rfl rfl (two_of HT_.out (by kernel_rfl)) (by decide) (by decide) (fun K hK => ?_) (fun K hK => ?_)
               ·skip
                refine Kd.R_lit_step k151 _ 151 ?hg (N := 62) ?hd (xs := ([] : List (S151))) (inner := []) (ok := fun _ => True) (okp := fun _ => True) ?hr ?hp (fun _ hk => hk) trivial (Below.refl _ _) (Nat.le_refl _) (by simp) ?_; (case hd => rfl); (case hg => rfl); (case hr => exact zz12); (case hp => exact (Reps.none _ _))
                intro v155 w35 ho36 hb hg_ hnew_
                clear hg_ hnew_
                (first | rw [← Ny154.out] at ho36 | (simp only [Int.reduceToNat] at ho36; rw [← Ny154.out] at ho36))
                have HO156 := aM (Kd.R_lower ho36 (below_size bB))
                replace HB := aM (below_step bB hb)
                clear hb ho36
                refine hK.out _ _ trivial (fun hHeld => ?_)
                clear hK K
                refine na_ (N := some 62) (h := ?_)
                refine two_ (i := 2) (j := 8) (Ni := some 64) (Nj := some 70) (bsA 12 255) (bsA 12 507) rfl rfl rfl rfl (two_of HT_.out (by kernel_rfl)) (by decide) (by decide) (fun K hK => ?_) (fun K hK => ?_)
                ·skip
                 refine Kd.R_append_rows_step k151 (w0 := w) w.heap.size (by rfl) (.tmp 62) (.tmp 63) 128 151 (.agg #[(.string ⟨#[]⟩), (.string ⟨#[]⟩)]) 32 rfl Tryd.underlying128 info151 rfl (by decide) (by omega) v155 y154 l0 _ _ _ (fun _ => True) (fun _ => False) rfl rfl ?aO ?aR (fun _ _ h => h) (fun _ h => h.elim) ?aF ?aB ?aS ?aL ?_
                 (case aR => exact zz5 HR0.out)
                 (case aB => exact bB)
                 (case aF => exact (fun _ _ => trivial))
                 (case aO => exact (bR HO156))
                 (case aS => exact (below_size bB))
                 (case aL => have := LMc30.out; omega)
                 intro v158 w37 ho hb hg hat
                 rw [← Ny157.out] at ho
                 have n0_ := aM (hb)
                 have n1_ := aM (ho)
                 clear HB
                 clear HO156
                 have HB := n0_
                 have HO159 := n1_
                 clear n0_ n1_
                 clear ho hb hg hat
                 refine hK.out _ _ trivial (fun hHeld => ?_)
                 clear hK K
                 refine na_ (N := some 64) (h := ?_)
                 refine one_ (i := 8) (N := some 70) (bsA 12 511) rfl rfl (one_of HT_.out (by kernel_rfl)) (by decide) (fun K hK => ?_)
                 refine Kd.R_lit_step k151 _ 151 ?hg (N := 70) ?hd (xs := ([(⟨a1.extract 0 (x8_2 : Int).toNat, a1.extract ((ji26) : Int).toNat a1.size⟩ : S151)] : List (S151))) (inner := [.string (a1.extract 0 (x8_2 : Int).toNat), .string (a1.extract ((ji26) : Int).toNat a1.size)]) (ok := fun _ => True) (okp := fun _ => True) ?hr ?hp (fun _ hk => hk) trivial (Below.refl _ _) (Nat.le_refl _) (by simp) ?_; (case hd => rfl); (case hg => rfl); (case hr => exact zz12); (case hp => exact (Reps.c2 (show Kd.M k151 _ _ _ (⟨a1.extract 0 (x8_2 : Int).toNat, a1.extract ((ji26) : Int).toNat a1.size⟩ : S151) [.string (a1.extract 0 (x8_2 : Int).toNat), .string (a1.extract ((ji26) : Int).toNat a1.size)] from (k151_mkM _ _ _ (⟨a1.extract 0 (x8_2 : Int).toNat, a1.extract ((ji26) : Int).toNat a1.size⟩ : S151) )) (Reps.none _ _)))
                 intro v161 w38 ho39 hb hg_ hnew_
                 clear hg_ hnew_
                 (first | rw [← Ny160.out] at ho39 | (simp only [Int.reduceToNat] at ho39; rw [← Ny160.out] at ho39))
                 have HO162 := aM (Kd.R_lower (Kd.R_new' ho39 (Kd.R_lt (bR HO159))) (below_size bB))
                 replace HO159 := aM (Kd.R_elder' (bR HO159) (Kd.R_base ho39) hb)
                 replace HB := aM (below_step bB hb)
                 clear hb ho39
                 refine hK.out _ _ trivial (fun hHeld => ?_)
                 clear hK K
                 refine na_ (N := some 70) (h := ?_)
                 exact norm_ zz28 (hCont (v155, v158, v161) _ ⟨(zz10 HO159.out), (zz10 HO162.out), bB⟩)
                skip
                refine Kd.R_lit_step k151 _ 151 ?hg (N := 70) ?hd (xs := ([(⟨a1.extract 0 (x8_2 : Int).toNat, a1.extract ((ji26) : Int).toNat a1.size⟩ : S151)] : List (S151))) (inner := [.string (a1.extract 0 (x8_2 : Int).toNat), .string (a1.extract ((ji26) : Int).toNat a1.size)]) (ok := fun _ => True) (okp := fun _ => True) ?hr ?hp (fun _ hk => hk) trivial (Below.refl _ _) (Nat.le_refl _) (by simp) ?_; (case hd => rfl); (case hg => rfl); (case hr => exact zz12); (case hp => exact (Reps.c2 (show Kd.M k151 _ _ _ (⟨a1.extract 0 (x8_2 : Int).toNat, a1.extract ((ji26) : Int).toNat a1.size⟩ : S151) [.string (a1.extract 0 (x8_2 : Int).toNat), .string (a1.extract ((ji26) : Int).toNat a1.size)] from (k151_mkM _ _ _ (⟨a1.extract 0 (x8_2 : Int).toNat, a1.extract ((ji26) : Int).toNat a1.size⟩ : S151) )) (Reps.none _ _)))
                intro v161 w37 ho38 hb hg_ hnew_
                clear hg_ hnew_
                (first | rw [← Ny160.out] at ho38 | (simp only [Int.reduceToNat] at ho38; rw [← Ny160.out] at ho38))
                have HO162 := aM (Kd.R_lower (Kd.R_new' ho38 (Kd.R_lt (bR HO156))) (below_size bB))
                replace HO156 := aM (Kd.R_elder' (bR HO156) (Kd.R_base ho38) hb)
                replace HB := aM (below_step bB hb)
                clear hb ho38
                refine hK.out _ _ trivial (fun hHeld => ?_)
                clear hK K
                refine na_ (N := some 70) (h := ?_)
                refine one_ (i := 2) (N := some 64) (bsA 12 511) rfl rfl (one_of HT_.out (by kernel_rfl)) (by decide) (fun K hK => ?_)
                refine Kd.R_append_rows_step k151 (w0 := w) w.heap.size (by rfl) (.tmp 62) (.tmp 63) 128 151 (.agg #[(.string ⟨#[]⟩), (.string ⟨#[]⟩)]) 32 rfl Tryd.underlying128 info151 rfl (by decide) (by omega) v155 y154 l0 _ _ _ (fun k_ => some k_ ≠ (v161 : Value).ownBlock) (fun _ => False) rfl rfl ?aO ?aR (fun _ _ h => h) (fun _ h => h.elim) ?aF ?aB ?aS ?aL ?_
                (case aR => exact zz5 HR0.out)
                (case aB => exact bB)
                (case aF => exact (fun k_ hk => Kd.fresh' (Kd.R_lt (bR HO162)) k_ hk))
                (case aO => exact zz36 HO156.out)
                (case aS => exact (below_size bB))
                (case aL => have := LMc30.out; omega)
                intro v158 w39 ho hb hg hat
                rw [← Ny157.out] at ho
                have n0_ := aM (Kd.R_after (ok := (fun _ => True)) (bR HO162) hg hat)
                have n1_ := aM (hb)
                have n2_ := aM (ho)
                clear HO162
                clear HB
                clear HO156
                have HO162 := n0_
                have HB := n1_
                have HO159 := n2_
                clear n0_ n1_ n2_
                clear ho hb hg hat
                refine hK.out _ _ trivial (fun hHeld => ?_)
                clear hK K
                refine na_ (N := some 64) (h := ?_)
                exact norm_ zz28 (hCont (v155, v158, v161) _ ⟨(bR HO159), (zz10 HO162.out), bB⟩)
               skip
               refine Kd.R_lit_step k151 _ 151 ?hg (N := 70) ?hd (xs := ([(⟨a1.extract 0 (x8_2 : Int).toNat, a1.extract ((ji26) : Int).toNat a1.size⟩ : S151)] : List (S151))) (inner := [.string (a1.extract 0 (x8_2 : Int).toNat), .string (a1.extract ((ji26) : Int).toNat a1.size)]) (ok := fun _ => True) (okp := fun _ => True) ?hr ?hp (fun _ hk => hk) trivial (Below.refl _ _) (Nat.le_refl _) (by simp) ?_; (case hd => rfl); (case hg => rfl); (case hr => exact zz12); (case hp => exact (Reps.c2 (show Kd.M k151 _ _ _ (⟨a1.extract 0 (x8_2 : Int).toNat, a1.extract ((ji26) : Int).toNat a1.size⟩ : S151) [.string (a1.extract 0 (x8_2 : Int).toNat), .string (a1.extract ((ji26) : Int).toNat a1.size)] from (k151_mkM _ _ _ (⟨a1.extract 0 (x8_2 : Int).toNat, a1.extract ((ji26) : Int).toNat a1.size⟩ : S151) )) (Reps.none _ _)))
               intro v161 w35 ho36 hb hg_ hnew_
               clear hg_ hnew_
               (first | rw [← Ny160.out] at ho36 | (simp only [Int.reduceToNat] at ho36; rw [← Ny160.out] at ho36))
               have HO162 := aM (Kd.R_lower ho36 (below_size bB))
               replace HB := aM (below_step bB hb)
               clear hb ho36
               refine hK.out _ _ trivial (fun hHeld => ?_)
               clear hK K
               refine na_ (N := some 70) (h := ?_)
               refine one_ (i := 0) (N := some 62) (bsA 12 507) rfl rfl (one_of HT_.out (by kernel_rfl)) (by decide) (fun K hK => ?_)
               refine Kd.R_lit_step k151 _ 151 ?hg (N := 62) ?hd (xs := ([] : List (S151))) (inner := []) (ok := fun _ => True) (okp := fun _ => True) ?hr ?hp (fun _ hk => hk) trivial (Below.refl _ _) (Nat.le_refl _) (by simp) ?_; (case hd => rfl); (case hg => rfl); (case hr => exact zz12); (case hp => exact (Reps.none _ _))
               intro v155 w37 ho38 hb hg_ hnew_
               clear hg_ hnew_
               (first | rw [← Ny154.out] at ho38 | (simp only [Int.reduceToNat] at ho38; rw [← Ny154.out] at ho38))
               have HO156 := aM (Kd.R_lower (Kd.R_new' ho38 (Kd.R_lt (bR HO162))) (below_size bB))
               replace HO162 := aM (Kd.R_elder' (bR HO162) (Kd.R_base ho38) hb)
               replace HB := aM (below_step bB hb)
               clear hb ho38
               refine hK.out _ _ trivial (fun hHeld => ?_)
               clear hK K
               refine na_ (N := some 62) (h := ?_)
               refine one_ (i := 2) (N := some 64) (bsA 12 511) rfl rfl (one_of HT_.out (by kernel_rfl)) (by decide) (fun K hK => ?_)
               refine Kd.R_append_rows_step k151 (w0 := w) w.heap.size (by rfl) (.tmp 62) (.tmp 63) 128 151 (.agg #[(.string ⟨#[]⟩), (.string ⟨#[]⟩)]) 32 rfl Tryd.underlying128 info151 rfl (by decide) (by omega) v155 y154 l0 _ _ _ (fun k_ => some k_ ≠ (v161 : Value).ownBlock) (fun _ => False) rfl rfl ?aO ?aR (fun _ _ h => h) (fun _ h => h.elim) ?aF ?aB ?aS ?aL ?_
               (case aR => exact zz5 HR0.out)
               (case aB => exact bB)
               (case aF => exact (fun k_ hk => Kd.fresh' (Kd.R_lt (bR HO162)) k_ hk))
               (case aO => exact zz36 HO156.out)
               (case aS => exact (below_size bB))
               (case aL => have := LMc30.out; omega)
               intro v158 w39 ho hb hg hat
               rw [← Ny157.out] at ho
               have n0_ := aM (Kd.R_after (ok := (fun _ => True)) (bR HO162) hg hat)
               have n1_ := aM (hb)
               have n2_ := aM (ho)
               clear HO162
               clear HB
               clear HO156
               have HO162 := n0_
               have HB := n1_
               have HO159 := n2_
               clear n0_ n1_ n2_
               clear ho hb hg hat
               refine hK.out _ _ trivial (fun hHeld => ?_)
               clear hK K
               refine na_ (N := some 64) (h := ?_)
               exact norm_ zz28 (hCont (v155, v158, v161) _ ⟨(bR HO159), (zz10 HO162.out), bB⟩)
              rintro ⟨v155, v158, v161⟩ w40 ⟨h0_, h1_, h2_⟩
              have n0_ : Aside0 (Kd.R k151 151 w40 w.heap.size (fun k_ => some k_ ≠ (v161 : Value).ownBlock) v158 y157) := ⟨h0_⟩
              have n1_ : Aside0 (Kd.R k151 151 w40 w.heap.size (fun k_ => some k_ ≠ (v158 : Value).ownBlock) v161 y160) := ⟨h1_⟩
              have n2_ : Aside0 (Below w.heap.size w w40) := ⟨h2_⟩
              clear HB
              clear h0_ h1_ h2_
              have HO159 := n0_
              have HO162 := n1_
              have HB := n2_
              clear n0_ n1_ n2_
              have hHeld := trivial
              obtain ⟨Ao42, co42, eo42⟩ := Kd.R_slice HO162.out
              (first | subst eo42 | (injection eo42 with f1_ f2_ f3_; have f4_ := f1_.symm; have f5_ := f3_.symm; clear f1_ f2_ f3_; subst f4_; subst f5_))
              refine norm_ (a' := ?_) ?_ ?_
              rotate_left
              ·simp only [putAll, Act.put, List.setIfInBounds_toArray, List.set_cons_zero, List.set_cons_succ]
               rfl
              refine one_ (i := 9) (N := some 71) (bsA 12 1023) rfl rfl (one_of HT_.out (by kernel_rfl)) (by decide) (fun K hK => ?_)
              refine Kd.R_append_rows_step k151 (w0 := w) w.heap.size (by rfl) (.tmp 64) (.tmp 70) 128 151 (.agg #[(.string ⟨#[]⟩), (.string ⟨#[]⟩)]) 32 rfl Tryd.underlying128 info151 rfl (by decide) (by omega) v158 y157 y160 _ _ _ (fun k_ => some k_ ≠ (.slice Ao42 y160.length co42 : Value).ownBlock) (fun _ => False) rfl rfl ?aO ?aR (fun _ _ h => h) (fun _ h => h.elim) ?aF ?aB ?aS ?aL ?_
              (case aR => exact zz7 HO162.out)
              (case aB => exact bB)
              (case aF => exact (fun k_ hk => Kd.fresh' (Kd.R_lt (bR HO162)) k_ hk))
              (case aO => exact (bR HO159))
              (case aS => exact (below_size bB))
              (case aL => have := LMc33.out; omega)
              intro v164 w41 ho hb hg hat
              rw [← Ny163.out] at ho
              have n0_ := aM (Kd.R_after (ok := (fun _ => True)) (zz37 HO162.out) hg hat)
              have n1_ := aM (hb)
              have n2_ := aM (ho)
              clear HO162
              clear HB
              clear HO159
              have HO162 := n0_
              have HB := n1_
              have HO165 := n2_
              clear n0_ n1_ n2_
              clear ho hb hg hat
              refine hK.out _ _ trivial (fun hHeld => ?_)
              clear hK K
              refine na_ (N := some 71) (h := ?_)
              refine pa_ (i := 10) (N := some 4) (bsA 12 2047) (h := ?_)
              refine pa_ (i := 11) (N := some 5) (bsA 12 4095) (h := ?_)
              refine done_ (done_of HT_.out (by kernel_rfl)) ?_
              try go_wp2
              go_ret2
              exact ⟨_, zz42, zz31 HO165.out, bB⟩
             rw [if_neg c33] at H
             exact absurd H (by simp)
            rw [if_neg c32] at H
            exact absurd H (by simp)
           rw [if_neg c30] at H
           exact absurd H (by simp)
          rw [if_neg c29] at H
          have c29b0 : ((a1.extract ((ji26) : Int).toNat a1.size).toList == ([] : List UInt8)) = false := beq_eq_false_iff_ne.mpr c29
          have c29b1 : ((a1.extract ((ji26) : Int).toNat a1.size).toList != ([] : List UInt8)) = true := bne_iff_ne.mpr c29
          (try simp only [c29b0, c29b1])
          by_cases c43 : 0 < ((a1.extract ((ji26) : Int).toNat a1.size).size : Int)
          ·rw [if_pos c43] at H
           have c43b0 : decide (0 < ((a1.extract ((ji26) : Int).toNat a1.size).size : Int)) = true := decide_eq_true c43
           (try (have c43e : ((ji26) : Int).toNat < a1.size := by have h_ := c43; rw [ByteArray.size_extract] at h_; omega))
           (try (have c43e1 : decide (((ji26) : Int).toNat < a1.size) = true := decide_eq_true (by omega)))
           (try (have c43e2 : decide (0 < a1.size - ((ji26) : Int).toNat) = true := decide_eq_true (by omega)))
           (try (have c43e3 : decide ((0 : Int) < ((a1.size - ((ji26) : Int).toNat : Nat) : Int)) = true := decide_eq_true (by omega)))
           (try (have c43e4 : decide (1 ≤ a1.size - ((ji26) : Int).toNat) = true := decide_eq_true (by omega)))
           (try (have c43e5 : decide ((1 : Int) ≤ ((a1.size - ((ji26) : Int).toNat : Nat) : Int)) = true := decide_eq_true (by omega)))
           (try (have c43e6 : decide ((ji26) < (a1.size : Int)) = true := decide_eq_true (by omega)))
           have c43b1 : decide (0 < (a1.extract ((ji26) : Int).toNat a1.size).size) = true := decide_eq_true (by omega)
           clear c43
           have HQ_ := aM H
           clear H
           have p44 : 0 ≤ (0 : Int) := (by omega)
           have q44 : 0 < (a1.extract ((ji26) : Int).toNat a1.size).size := (by have : (0 : Int) < ((a1.extract ((ji26) : Int).toNat a1.size).size : Int) := pI; omega)
           have hx44 : ∀ h : 0 < (a1.extract ((ji26) : Int).toNat a1.size).size, (((a1.extract ((ji26) : Int).toNat a1.size)[0]'h).toNat : Int) = bt (a1.extract ((ji26) : Int).toNat a1.size) 0 := bt_at (a1.extract ((ji26) : Int).toNat a1.size) 0
           clear p44
           have qi44 : (0 < ((a1.extract ((ji26) : Int).toNat a1.size).size : Int)) = True := eq_true (pI)
           replace q44 := eq_true q44
           have H := HQ_.out
           clear HQ_
           by_cases c45 : (bt (a1.extract ((ji26) : Int).toNat a1.size) 0) = 32
           ·rw [if_pos c45] at H
            have c45b0 : ((bt (a1.extract ((ji26) : Int).toNat a1.size) 0) == 32) = true := beq_iff_eq.mpr c45
            have c45b1 : ((bt (a1.extract ((ji26) : Int).toNat a1.size) 0) != 32) = false := bne_eq_false_iff_eq.mpr c45
            clear c45
            (try simp only [c45b0, c45b1])
            by_cases c46 : 1 ≤ ((a1.extract ((ji26) : Int).toNat a1.size).size : Int)
            ·rw [if_pos c46] at H
             have c46b0 := eq_true c46
             have c46b1 : decide (1 ≤ ((a1.extract ((ji26) : Int).toNat a1.size).size : Int)) = true := decide_eq_true c46
             (try (have c46e : ((ji26) : Int).toNat < a1.size := by have h_ := c46; rw [ByteArray.size_extract] at h_; omega))
             (try (have c46e1 : decide (((ji26) : Int).toNat < a1.size) = true := decide_eq_true (by omega)))
             (try (have c46e2 : decide (0 < a1.size - ((ji26) : Int).toNat) = true := decide_eq_true (by omega)))
             (try (have c46e3 : decide ((0 : Int) < ((a1.size - ((ji26) : Int).toNat : Nat) : Int)) = true := decide_eq_true (by omega)))
             (try (have c46e4 : decide (1 ≤ a1.size - ((ji26) : Int).toNat) = true := decide_eq_true (by omega)))
             (try (have c46e5 : decide ((1 : Int) ≤ ((a1.size - ((ji26) : Int).toNat : Nat) : Int)) = true := decide_eq_true (by omega)))
             (try (have c46e6 : decide ((ji26) < (a1.size : Int)) = true := decide_eq_true (by omega)))
             clear c46
             obtain ⟨y166, hy166⟩ : ∃ y_ : List (S151), y_ = (([] : List (S151))) := ⟨_, rfl⟩
             replace H : (if y166.length + l0.length < 4398046511104 then ((some (y166 ++ l0 : List (S151))).bind fun y169 => (if x8_2 ≤ (a1.size : Int) then ((some (([(⟨a1.extract 0 (x8_2 : Int).toNat, (a1.extract ((ji26) : Int).toNat a1.size).extract 1 (a1.extract ((ji26) : Int).toNat a1.size).size⟩ : S151)] : List (S151)) : List (S151))).bind fun y172 => (if y169.length + y172.length < 4398046511104 then (some ((y169 ++ y172), true)) else (none))) else (none))) else (none)) = some (r1, r2) := zz0 hy166
             have Ny166 := aM hy166
             clear hy166
             by_cases c47 : y166.length + l0.length < 4398046511104
             ·rw [if_pos c47] at H
              have LMc47 := aM c47
              clear c47
              obtain ⟨y169, hy169⟩ : ∃ y_ : List (S151), y_ = (y166 ++ l0) := ⟨_, rfl⟩
              replace H : (if x8_2 ≤ (a1.size : Int) then ((some (([(⟨a1.extract 0 (x8_2 : Int).toNat, (a1.extract ((ji26) : Int).toNat a1.size).extract 1 (a1.extract ((ji26) : Int).toNat a1.size).size⟩ : S151)] : List (S151)) : List (S151))).bind fun y172 => (if y169.length + y172.length < 4398046511104 then (some ((y169 ++ y172), true)) else (none))) else (none)) = some (r1, r2) := zz0 hy169
              have Ny169 := aM hy169
              clear hy169
              have c48b0 := eq_true (pI : 0 ≤ x8_2)
              by_cases c49 : x8_2 ≤ (a1.size : Int)
              ·rw [if_pos c49] at H
               have c49b0 := eq_true c49
               have c49b1 : decide (x8_2 ≤ (a1.size : Int)) = true := decide_eq_true c49
               clear c49
               obtain ⟨y172, hy172⟩ : ∃ y_ : List (S151), y_ = (([(⟨a1.extract 0 (x8_2 : Int).toNat, (a1.extract ((ji26) : Int).toNat a1.size).extract 1 (a1.extract ((ji26) : Int).toNat a1.size).size⟩ : S151)] : List (S151))) := ⟨_, rfl⟩
               replace H : (if y169.length + y172.length < 4398046511104 then (some ((y169 ++ y172), true)) else (none)) = some (r1, r2) := zz0 hy172
               have Ny172 := aM hy172
               clear hy172
               by_cases c50 : y169.length + y172.length < 4398046511104
               ·rw [if_pos c50] at H
                have LMc50 := aM c50
                clear c50
                obtain ⟨y175, hy175⟩ : ∃ y_ : List (S151), y_ = (y169 ++ y172) := ⟨_, rfl⟩
                replace H : (some (y175, true)) = some (r1, r2) := zz0 hy175
                have Ny175 := aM hy175
                clear hy175
                simp only [Option.some.injEq, Prod.mk.injEq] at H
                obtain ⟨rfl, rfl⟩ := H
                try go_wp2
                replace HB := aM (below_drew1 HB.out)
                refine start_ (n := 12) (S := fun w' => True) (ds := []) (bsA 12 0) (by kernel_rfl) rfl rfl trivial (fun hHeld => ?_); refine with_tabW spec_l4Line.tab15 spec_l4Line.bits15 (fun HT_ HW_ => ?_)
                generalize wr.drew = w51 at HB hHeld ⊢
                refine pa_ (i := 1) (N := some 63) (bsA 12 2) (h := ?_)
                refine pa_ (i := 3) (N := some 65) (bsA 12 10) (h := ?_)
                refine pa_ (i := 4) (N := some 66) (bsA 12 26) (h := ?_)
                refine pa_ (i := 5) (N := some 67) (bsA 12 58) (h := ?_)
                refine pa_ (i := 6) (N := some 68) (bsA 12 122) (h := ?_)
                refine pa_ (i := 7) (N := some 69) (bsA 12 250) (h := ?_)
                refine join_ (σ := Value × Value × Value) 3 (bsA 12 511) (fun s_ => [(62, s_.1), (64, s_.2.1), (70, s_.2.2)]) (fun s_ w' => (Kd.R k151 151 w' w.heap.size (fun k_ => some k_ ≠ (s_.2.2 : Value).ownBlock) s_.2.1 y169) ∧ (Kd.R k151 151 w' w.heap.size (fun k_ => some k_ ≠ (s_.2.1 : Value).ownBlock) s_.2.2 y172) ∧ (Below w.heap.size w w')) ?_ ?_
                rotate_left
                ·intro hCont
                 refine two_ (i := 0) (j := 8) (Ni := some 62) (Nj := some 70) (bsA 12 251) (bsA 12 506) rfl rfl rfl rfl (two_of HT_.out (by kernel_rfl)) (by decide) (by decide) (fun K hK => ?_) (fun K hK => ?_)
                 ·skip
                  refine Kd.R_lit_step k151 _ 151 ?hg (N := 62) ?hd (xs := ([] : List (S151))) (inner := []) (ok := fun _ => True) (okp := fun _ => True) ?hr ?hp (fun _ hk => hk) trivial (Below.refl _ _) (Nat.le_refl _) (by simp) ?_; (case hd => rfl); (case hg => rfl); (case hr => exact zz12); (case hp => exact (Reps.none _ _))
                  intro v167 w52 ho53 hb hg_ hnew_
                  clear hg_ hnew_
                  (first | rw [← Ny166.out] at ho53 | (simp only [Int.reduceToNat] at ho53; rw [← Ny166.out] at ho53))
                  have HO168 := aM (Kd.R_lower ho53 (below_size bB))
                  replace HB := aM (below_step bB hb)
                  clear hb ho53
                  refine hK.out _ _ trivial (fun hHeld => ?_)
                  clear hK K
                  refine na_ (N := some 62) (h := ?_)
                  refine two_ (i := 2) (j := 8) (Ni := some 64) (Nj := some 70) (bsA 12 255) (bsA 12 507) rfl rfl rfl rfl (two_of HT_.out (by kernel_rfl)) (by decide) (by decide) (fun K hK => ?_) (fun K hK => ?_)
                  ·skip
                   refine Kd.R_append_rows_step k151 (w0 := w) w.heap.size (by rfl) (.tmp 62) (.tmp 63) 128 151 (.agg #[(.string ⟨#[]⟩), (.string ⟨#[]⟩)]) 32 rfl Tryd.underlying128 info151 rfl (by decide) (by omega) v167 y166 l0 _ _ _ (fun _ => True) (fun _ => False) rfl rfl ?aO ?aR (fun _ _ h => h) (fun _ h => h.elim) ?aF ?aB ?aS ?aL ?_
                   (case aR => exact zz5 HR0.out)
                   (case aB => exact bB)
                   (case aF => exact (fun _ _ => trivial))
                   (case aO => exact (bR HO168))
                   (case aS => exact (below_size bB))
                   (case aL => have := LMc47.out; omega)
                   intro v170 w54 ho hb hg hat
                   rw [← Ny169.out] at ho
                   have n0_ := aM (hb)
                   have n1_ := aM (ho)
                   clear HB
                   clear HO168
                   have HB := n0_
                   have HO171 := n1_
                   clear n0_ n1_
                   clear ho hb hg hat
                   refine hK.out _ _ trivial (fun hHeld => ?_)
                   clear hK K
                   refine na_ (N := some 64) (h := ?_)
                   refine one_ (i := 8) (N := some 70) (bsA 12 511) rfl rfl (one_of HT_.out (by kernel_rfl)) (by decide) (fun K hK => ?_)
                   refine Kd.R_lit_step k151 _ 151 ?hg (N := 70) ?hd (xs := ([(⟨a1.extract 0 (x8_2 : Int).toNat, (a1.extract ((ji26) : Int).toNat a1.size).extract 1 (a1.extract ((ji26) : Int).toNat a1.size).size⟩ : S151)] : List (S151))) (inner := [.string (a1.extract 0 (x8_2 : Int).toNat), .string ((a1.extract ((ji26) : Int).toNat a1.size).extract 1 (a1.extract ((ji26) : Int).toNat a1.size).size)]) (ok := fun _ => True) (okp := fun _ => True) ?hr ?hp (fun _ hk => hk) trivial (Below.refl _ _) (Nat.le_refl _) (by simp) ?_; (case hd => rfl); (case hg => rfl); (case hr => exact zz12); (case hp => exact (Reps.c2 (show Kd.M k151 _ _ _ (⟨a1.extract 0 (x8_2 : Int).toNat, (a1.extract ((ji26) : Int).toNat a1.size).extract 1 (a1.extract ((ji26) : Int).toNat a1.size).size⟩ : S151) [.string (a1.extract 0 (x8_2 : Int).toNat), .string ((a1.extract ((ji26) : Int).toNat a1.size).extract 1 (a1.extract ((ji26) : Int).toNat a1.size).size)] from (k151_mkM _ _ _ (⟨a1.extract 0 (x8_2 : Int).toNat, (a1.extract ((ji26) : Int).toNat a1.size).extract 1 (a1.extract ((ji26) : Int).toNat a1.size).size⟩ : S151) )) (Reps.none _ _)))
                   intro v173 w55 ho56 hb hg_ hnew_
                   clear hg_ hnew_
                   (first | rw [← Ny172.out] at ho56 | (simp only [Int.reduceToNat] at ho56; rw [← Ny172.out] at ho56))
                   have HO174 := aM (Kd.R_lower (Kd.R_new' ho56 (Kd.R_lt (bR HO171))) (below_size bB))
                   replace HO171 := aM (Kd.R_elder' (bR HO171) (Kd.R_base ho56) hb)
                   replace HB := aM (below_step bB hb)
                   clear hb ho56
                   refine hK.out _ _ trivial (fun hHeld => ?_)
                   clear hK K
                   refine na_ (N := some 70) (h := ?_)
                   exact norm_ zz28 (hCont (v167, v170, v173) _ ⟨(zz10 HO171.out), (zz10 HO174.out), bB⟩)
                  skip
                  refine Kd.R_lit_step k151 _ 151 ?hg (N := 70) ?hd (xs := ([(⟨a1.extract 0 (x8_2 : Int).toNat, (a1.extract ((ji26) : Int).toNat a1.size).extract 1 (a1.extract ((ji26) : Int).toNat a1.size).size⟩ : S151)] : List (S151))) (inner := [.string (a1.extract 0 (x8_2 : Int).toNat), .string ((a1.extract ((ji26) : Int).toNat a1.size).extract 1 (a1.extract ((ji26) : Int).toNat a1.size).size)]) (ok := fun _ => True) (okp := fun _ => True) ?hr ?hp (fun _ hk => hk) trivial (Below.refl _ _) (Nat.le_refl _) (by simp) ?_; (case hd => rfl); (case hg => rfl); (case hr => exact zz12); (case hp => exact (Reps.c2 (show Kd.M k151 _ _ _ (⟨a1.extract 0 (x8_2 : Int).toNat, (a1.extract ((ji26) : Int).toNat a1.size).extract 1 (a1.extract ((ji26) : Int).toNat a1.size).size⟩ : S151) [.string (a1.extract 0 (x8_2 : Int).toNat), .string ((a1.extract ((ji26) : Int).toNat a1.size).extract 1 (a1.extract ((ji26) : Int).toNat a1.size).size)] from (k151_mkM _ _ _ (⟨a1.extract 0 (x8_2 : Int).toNat, (a1.extract ((ji26) : Int).toNat a1.size).extract 1 (a1.extract ((ji26) : Int).toNat a1.size).size⟩ : S151) )) (Reps.none _ _)))
                  intro v173 w54 ho55 hb hg_ hnew_
                  clear hg_ hnew_
                  (first | rw [← Ny172.out] at ho55 | (simp only [Int.reduceToNat] at ho55; rw [← Ny172.out] at ho55))
                  have HO174 := aM (Kd.R_lower (Kd.R_new' ho55 (Kd.R_lt (bR HO168))) (below_size bB))
                  replace HO168 := aM (Kd.R_elder' (bR HO168) (Kd.R_base ho55) hb)
                  replace HB := aM (below_step bB hb)
                  clear hb ho55
                  refine hK.out _ _ trivial (fun hHeld => ?_)
                  clear hK K
                  refine na_ (N := some 70) (h := ?_)
                  refine one_ (i := 2) (N := some 64) (bsA 12 511) rfl rfl (one_of HT_.out (by kernel_rfl)) (by decide) (fun K hK => ?_)
                  refine Kd.R_append_rows_step k151 (w0 := w) w.heap.size (by rfl) (.tmp 62) (.tmp 63) 128 151 (.agg #[(.string ⟨#[]⟩), (.string ⟨#[]⟩)]) 32 rfl Tryd.underlying128 info151 rfl (by decide) (by omega) v167 y166 l0 _ _ _ (fun k_ => some k_ ≠ (v173 : Value).ownBlock) (fun _ => False) rfl rfl ?aO ?aR (fun _ _ h => h) (fun _ h => h.elim) ?aF ?aB ?aS ?aL ?_
                  (case aR => exact zz5 HR0.out)
                  (case aB => exact bB)
                  (case aF => exact (fun k_ hk => Kd.fresh' (Kd.R_lt (bR HO174)) k_ hk))
                  (case aO => exact zz36 HO168.out)
                  (case aS => exact (below_size bB))
                  (case aL => have := LMc47.out; omega)
                  intro v170 w56 ho hb hg hat
                  rw [← Ny169.out] at ho
                  have n0_ := aM (Kd.R_after (ok := (fun _ => True)) (bR HO174) hg hat)
                  have n1_ := aM (hb)
                  have n2_ := aM (ho)
                  clear HO174
                  clear HB
                  clear HO168
                  have HO174 := n0_
                  have HB := n1_
                  have HO171 := n2_
                  clear n0_ n1_ n2_
                  clear ho hb hg hat
                  refine hK.out _ _ trivial (fun hHeld => ?_)
                  clear hK K
                  refine na_ (N := some 64) (h := ?_)
                  exact norm_ zz28 (hCont (v167, v170, v173) _ ⟨(bR HO171), (zz10 HO174.out), bB⟩)
                 skip
                 refine Kd.R_lit_step k151 _ 151 ?hg (N := 70) ?hd (xs := ([(⟨a1.extract 0 (x8_2 : Int).toNat, (a1.extract ((ji26) : Int).toNat a1.size).extract 1 (a1.extract ((ji26) : Int).toNat a1.size).size⟩ : S151)] : List (S151))) (inner := [.string (a1.extract 0 (x8_2 : Int).toNat), .string ((a1.extract ((ji26) : Int).toNat a1.size).extract 1 (a1.extract ((ji26) : Int).toNat a1.size).size)]) (ok := fun _ => True) (okp := fun _ => True) ?hr ?hp (fun _ hk => hk) trivial (Below.refl _ _) (Nat.le_refl _) (by simp) ?_; (case hd => rfl); (case hg => rfl); (case hr => exact zz12); (case hp => exact (Reps.c2 (show Kd.M k151 _ _ _ (⟨a1.extract 0 (x8_2 : Int).toNat, (a1.extract ((ji26) : Int).toNat a1.size).extract 1 (a1.extract ((ji26) : Int).toNat a1.size).size⟩ : S151) [.string (a1.extract 0 (x8_2 : Int).toNat), .string ((a1.extract ((ji26) : Int).toNat a1.size).extract 1 (a1.extract ((ji26) : Int).toNat a1.size).size)] from (k151_mkM _ _ _ (⟨a1.extract 0 (x8_2 : Int).toNat, (a1.extract ((ji26) : Int).toNat a1.size).extract 1 (a1.extract ((ji26) : Int).toNat a1.size).size⟩ : S151) )) (Reps.none _ _)))
                 intro v173 w52 ho53 hb hg_ hnew_
                 clear hg_ hnew_
                 (first | rw [← Ny172.out] at ho53 | (simp only [Int.reduceToNat] at ho53; rw [← Ny172.out] at ho53))
                 have HO174 := aM (Kd.R_lower ho53 (below_size bB))
                 replace HB := aM (below_step bB hb)
                 clear hb ho53
                 refine hK.out _ _ trivial (fun hHeld => ?_)
                 clear hK K
                 refine na_ (N := some 70) (h := ?_)
                 refine one_ (i := 0) (N := some 62) (bsA 12 507) rfl rfl (one_of HT_.out (by kernel_rfl)) (by decide) (fun K hK => ?_)
                 refine Kd.R_lit_step k151 _ 151 ?hg (N := 62) ?hd (xs := ([] : List (S151))) (inner := []) (ok := fun _ => True) (okp := fun _ => True) ?hr ?hp (fun _ hk => hk) trivial (Below.refl _ _) (Nat.le_refl _) (by simp) ?_; (case hd => rfl); (case hg => rfl); (case hr => exact zz12); (case hp => exact (Reps.none _ _))
                 intro v167 w54 ho55 hb hg_ hnew_
                 clear hg_ hnew_
                 (first | rw [← Ny166.out] at ho55 | (simp only [Int.reduceToNat] at ho55; rw [← Ny166.out] at ho55))
                 have HO168 := aM (Kd.R_lower (Kd.R_new' ho55 (Kd.R_lt (bR HO174))) (below_size bB))
                 replace HO174 := aM (Kd.R_elder' (bR HO174) (Kd.R_base ho55) hb)
                 replace HB := aM (below_step bB hb)
                 clear hb ho55
                 refine hK.out _ _ trivial (fun hHeld => ?_)
                 clear hK K
                 refine na_ (N := some 62) (h := ?_)
                 refine one_ (i := 2) (N := some 64) (bsA 12 511) rfl rfl (one_of HT_.out (by kernel_rfl)) (by decide) (fun K hK => ?_)
                 refine Kd.R_append_rows_step k151 (w0 := w) w.heap.size (by rfl) (.tmp 62) (.tmp 63) 128 151 (.agg #[(.string ⟨#[]⟩), (.string ⟨#[]⟩)]) 32 rfl Tryd.underlying128 info151 rfl (by decide) (by omega) v167 y166 l0 _ _ _ (fun k_ => some k_ ≠ (v173 : Value).ownBlock) (fun _ => False) rfl rfl ?aO ?aR (fun _ _ h => h) (fun _ h => h.elim) ?aF ?aB ?aS ?aL ?_
                 (case aR => exact zz5 HR0.out)
                 (case aB => exact bB)
                 (case aF => exact (fun k_ hk => Kd.fresh' (Kd.R_lt (bR HO174)) k_ hk))
                 (case aO => exact zz36 HO168.out)
                 (case aS => exact (below_size bB))
                 (case aL => have := LMc47.out; omega)
                 intro v170 w56 ho hb hg hat
                 rw [← Ny169.out] at ho
                 have n0_ := aM (Kd.R_after (ok := (fun _ => True)) (bR HO174) hg hat)
                 have n1_ := aM (hb)
                 have n2_ := aM (ho)
                 clear HO174
                 clear HB
                 clear HO168
                 have HO174 := n0_
                 have HB := n1_
                 have HO171 := n2_
                 clear n0_ n1_ n2_
                 clear ho hb hg hat
                 refine hK.out _ _ trivial (fun hHeld => ?_)
                 clear hK K
                 refine na_ (N := some 64) (h := ?_)
                 exact norm_ zz28 (hCont (v167, v170, v173) _ ⟨(bR HO171), (zz10 HO174.out), bB⟩)
                rintro ⟨v167, v170, v173⟩ w57 ⟨h0_, h1_, h2_⟩
                have n0_ : Aside0 (Kd.R k151 151 w57 w.heap.size (fun k_ => some k_ ≠ (v173 : Value).ownBlock) v170 y169) := ⟨h0_⟩
                have n1_ : Aside0 (Kd.R k151 151 w57 w.heap.size (fun k_ => some k_ ≠ (v170 : Value).ownBlock) v173 y172) := ⟨h1_⟩
                have n2_ : Aside0 (Below w.heap.size w w57) := ⟨h2_⟩
                clear HB
                clear h0_ h1_ h2_
                have HO171 := n0_
                have HO174 := n1_
                have HB := n2_
                clear n0_ n1_ n2_
                have hHeld := trivial
                obtain ⟨Ao59, co59, eo59⟩ := Kd.R_slice HO174.out
                (first | subst eo59 | (injection eo59 with f1_ f2_ f3_; have f4_ := f1_.symm; have f5_ := f3_.symm; clear f1_ f2_ f3_; subst f4_; subst f5_))
                refine norm_ (a' := ?_) ?_ ?_
                rotate_left
                ·simp only [putAll, Act.put, List.setIfInBounds_toArray, List.set_cons_zero, List.set_cons_succ]
                 rfl
                refine one_ (i := 9) (N := some 71) (bsA 12 1023) rfl rfl (one_of HT_.out (by kernel_rfl)) (by decide) (fun K hK => ?_)
                refine Kd.R_append_rows_step k151 (w0 := w) w.heap.size (by rfl) (.tmp 64) (.tmp 70) 128 151 (.agg #[(.string ⟨#[]⟩), (.string ⟨#[]⟩)]) 32 rfl Tryd.underlying128 info151 rfl (by decide) (by omega) v170 y169 y172 _ _ _ (fun k_ => some k_ ≠ (.slice Ao59 y172.length co59 : Value).ownBlock) (fun _ => False) rfl rfl ?aO ?aR (fun _ _ h => h) (fun _ h => h.elim) ?aF ?aB ?aS ?aL ?_
                (case aR => exact zz7 HO174.out)
                (case aB => exact bB)
                (case aF => exact (fun k_ hk => Kd.fresh' (Kd.R_lt (bR HO174)) k_ hk))
                (case aO => exact (bR HO171))
                (case aS => exact (below_size bB))
                (case aL => have := LMc50.out; omega)
                intro v176 w58 ho hb hg hat
                rw [← Ny175.out] at ho
                have n0_ := aM (Kd.R_after (ok := (fun _ => True)) (zz37 HO174.out) hg hat)
                have n1_ := aM (hb)
                have n2_ := aM (ho)
                clear HO174
                clear HB
                clear HO171
                have HO174 := n0_
                have HB := n1_
                have HO177 := n2_
                clear n0_ n1_ n2_
                clear ho hb hg hat
                refine hK.out _ _ trivial (fun hHeld => ?_)
                clear hK K
                refine na_ (N := some 71) (h := ?_)
                refine pa_ (i := 10) (N := some 4) (bsA 12 2047) (h := ?_)
                refine pa_ (i := 11) (N := some 5) (bsA 12 4095) (h := ?_)
                refine done_ (done_of HT_.out (by kernel_rfl)) ?_
                try go_wp2
                go_ret2
                exact ⟨_, zz42, zz31 HO177.out, bB⟩
               rw [if_neg c50] at H
               exact absurd H (by simp)
              rw [if_neg c49] at H
              exact absurd H (by simp)
             rw [if_neg c47] at H
             exact absurd H (by simp)
            rw [if_neg c46] at H
            exact absurd H (by simp)
           rw [if_neg c45] at H
           have c45b0 : ((bt (a1.extract ((ji26) : Int).toNat a1.size) 0) == 32) = false := beq_eq_false_iff_ne.mpr c45
           have c45b1 : ((bt (a1.extract ((ji26) : Int).toNat a1.size) 0) != 32) = true := bne_iff_ne.mpr c45
           obtain ⟨y178, hy178⟩ : ∃ y_ : List (S151), y_ = (([] : List (S151))) := ⟨_, rfl⟩
           replace H : (if y178.length + l0.length < 4398046511104 then ((some (y178 ++ l0 : List (S151))).bind fun y181 => (if x8_2 ≤ (a1.size : Int) then ((some (([(⟨a1.extract 0 (x8_2 : Int).toNat, a1.extract ((ji26) : Int).toNat a1.size⟩ : S151)] : List (S151)) : List (S151))).bind fun y184 => (if y181.length + y184.length < 4398046511104 then (some ((y181 ++ y184), true)) else (none))) else (none))) else (none)) = some (r1, r2) := zz0 hy178
           have Ny178 := aM hy178
           clear hy178
           (try simp only [c45b0, c45b1])
           by_cases c60 : y178.length + l0.length < 4398046511104
           ·rw [if_pos c60] at H
            have LMc60 := aM c60
            clear c60
            obtain ⟨y181, hy181⟩ : ∃ y_ : List (S151), y_ = (y178 ++ l0) := ⟨_, rfl⟩
            replace H : (if x8_2 ≤ (a1.size : Int) then ((some (([(⟨a1.extract 0 (x8_2 : Int).toNat, a1.extract ((ji26) : Int).toNat a1.size⟩ : S151)] : List (S151)) : List (S151))).bind fun y184 => (if y181.length + y184.length < 4398046511104 then (some ((y181 ++ y184), true)) else (none))) else (none)) = some (r1, r2) := zz0 hy181
            have Ny181 := aM hy181
            clear hy181
            have c61b0 := eq_true (pI : 0 ≤ x8_2)
            by_cases c62 : x8_2 ≤ (a1.size : Int)
            ·rw [if_pos c62] at H
             have c62b0 := eq_true c62
             have c62b1 : decide (x8_2 ≤ (a1.size : Int)) = true := decide_eq_true c62
             clear c62
             obtain ⟨y184, hy184⟩ : ∃ y_ : List (S151), y_ = (([(⟨a1.extract 0 (x8_2 : Int).toNat, a1.extract ((ji26) : Int).toNat a1.size⟩ : S151)] : List (S151))) := ⟨_, rfl⟩
             replace H : (if y181.length + y184.length < 4398046511104 then (some ((y181 ++ y184), true)) else (none)) = some (r1, r2) := zz0 hy184
             have Ny184 := aM hy184
             clear hy184
             by_cases c63 : y181.length + y184.length < 4398046511104
             ·rw [if_pos c63] at H
              have LMc63 := aM c63
              clear c63
              obtain ⟨y187, hy187⟩ : ∃ y_ : List (S151), y_ = (y181 ++ y184) := ⟨_, rfl⟩
              replace H : (some (y187, true)) = some (r1, r2) := zz0 hy187
              have Ny187 := aM hy187
              clear hy187
              simp only [Option.some.injEq, Prod.mk.injEq] at H
              obtain ⟨rfl, rfl⟩ := H
              try go_wp2
              replace HB := aM (below_drew1 HB.out)
              refine start_ (n := 12) (S := fun w' => True) (ds := []) (bsA 12 0) (by kernel_rfl) rfl rfl trivial (fun hHeld => ?_); refine with_tabW spec_l4Line.tab15 spec_l4Line.bits15 (fun HT_ HW_ => ?_)
              generalize wr.drew = w64 at HB hHeld ⊢
              refine pa_ (i := 1) (N := some 63) (bsA 12 2) (h := ?_)
              refine pa_ (i := 3) (N := some 65) (bsA 12 10) (h := ?_)
              refine pa_ (i := 4) (N := some 66) (bsA 12 26) (h := ?_)
              refine pa_ (i := 5) (N := some 67) (bsA 12 58) (h := ?_)
              refine pa_ (i := 6) (N := some 68) (bsA 12 122) (h := ?_)
              refine pa_ (i := 7) (N := some 69) (bsA 12 250) (h := ?_)
              refine join_ (σ := Value × Value × Value) 3 (bsA 12 511) (fun s_ => [(62, s_.1), (64, s_.2.1), (70, s_.2.2)]) (fun s_ w' => (Kd.R k151 151 w' w.heap.size (fun k_ => some k_ ≠ (s_.2.2 : Value).ownBlock) s_.2.1 y181) ∧ (Kd.R k151 151 w' w.heap.size (fun k_ => some k_ ≠ (s_.2.1 : Value).ownBlock) s_.2.2 y184) ∧ (Below w.heap.size w w')) ?_ ?_
              rotate_left
              ·intro hCont
               refine two_ (i := 0) (j := 8) (Ni := some 62) (Nj := some 70) (bsA 12 251) (bsA 12 506) rfl rfl rfl rfl (two_of HT_.out (by kernel_rfl)) (by decide) (by decide) (fun K hK => ?_) (fun K hK => ?_)
               ·skip
                refine Kd.R_lit_step k151 _ 151 ?hg (N := 62) ?hd (xs := ([] : List (S151))) (inner := []) (ok := fun _ => True) (okp := fun _ => True) ?hr ?hp (fun _ hk => hk) trivial (Below.refl _ _) (Nat.le_refl _) (by simp) ?_; (case hd => rfl); (case hg => rfl); (case hr => exact zz12); (case hp => exact (Reps.none _ _))
                intro v179 w65 ho66 hb hg_ hnew_
                clear hg_ hnew_
                (first | rw [← Ny178.out] at ho66 | (simp only [Int.reduceToNat] at ho66; rw [← Ny178.out] at ho66))
                have HO180 := aM (Kd.R_lower ho66 (below_size bB))
                replace HB := aM (below_step bB hb)
                clear hb ho66
                refine hK.out _ _ trivial (fun hHeld => ?_)
                clear hK K
                refine na_ (N := some 62) (h := ?_)
                refine two_ (i := 2) (j := 8) (Ni := some 64) (Nj := some 70) (bsA 12 255) (bsA 12 507) rfl rfl rfl rfl (two_of HT_.out (by kernel_rfl)) (by decide) (by decide) (fun K hK => ?_) (fun K hK => ?_)
                ·skip
                 refine Kd.R_append_rows_step k151 (w0 := w) w.heap.size (by rfl) (.tmp 62) (.tmp 63) 128 151 (.agg #[(.string ⟨#[]⟩), (.string ⟨#[]⟩)]) 32 rfl Tryd.underlying128 info151 rfl (by decide) (by omega) v179 y178 l0 _ _ _ (fun _ => True) (fun _ => False) rfl rfl ?aO ?aR (fun _ _ h => h) (fun _ h => h.elim) ?aF ?aB ?aS ?aL ?_
                 (case aR => exact zz5 HR0.out)
                 (case aB => exact bB)
                 (case aF => exact (fun _ _ => trivial))
                 (case aO => exact (bR HO180))
                 (case aS => exact (below_size bB))
                 (case aL => have := LMc60.out; omega)
                 intro v182 w67 ho hb hg hat
                 rw [← Ny181.out] at ho
                 have n0_ := aM (hb)
                 have n1_ := aM (ho)
                 clear HB
                 clear HO180
                 have HB := n0_
                 have HO183 := n1_
                 clear n0_ n1_
                 clear ho hb hg hat
                 refine hK.out _ _ trivial (fun hHeld => ?_)
                 clear hK K
                 refine na_ (N := some 64) (h := ?_)
                 refine one_ (i := 8) (N := some 70) (bsA 12 511) rfl rfl (one_of HT_.out (by kernel_rfl)) (by decide) (fun K hK => ?_)
                 refine Kd.R_lit_step k151 _ 151 ?hg (N := 70) ?hd (xs := ([(⟨a1.extract 0 (x8_2 : Int).toNat, a1.extract ((ji26) : Int).toNat a1.size⟩ : S151)] : List (S151))) (inner := [.string (a1.extract 0 (x8_2 : Int).toNat), .string (a1.extract ((ji26) : Int).toNat a1.size)]) (ok := fun _ => True) (okp := fun _ => True) ?hr ?hp (fun _ hk => hk) trivial (Below.refl _ _) (Nat.le_refl _) (by simp) ?_; (case hd => rfl); (case hg => rfl); (case hr => exact zz12); (case hp => exact (Reps.c2 (show Kd.M k151 _ _ _ (⟨a1.extract 0 (x8_2 : Int).toNat, a1.extract ((ji26) : Int).toNat a1.size⟩ : S151) [.string (a1.extract 0 (x8_2 : Int).toNat), .string (a1.extract ((ji26) : Int).toNat a1.size)] from (k151_mkM _ _ _ (⟨a1.extract 0 (x8_2 : Int).toNat, a1.extract ((ji26) : Int).toNat a1.size⟩ : S151) )) (Reps.none _ _)))
                 intro v185 w68 ho69 hb hg_ hnew_
                 clear hg_ hnew_
                 (first | rw [← Ny184.out] at ho69 | (simp only [Int.reduceToNat] at ho69; rw [← Ny184.out] at ho69))
                 have HO186 := aM (Kd.R_lower (Kd.R_new' ho69 (Kd.R_lt (bR HO183))) (below_size bB))
                 replace HO183 := aM (Kd.R_elder' (bR HO183) (Kd.R_base ho69) hb)
                 replace HB := aM (below_step bB hb)
                 clear hb ho69
                 refine hK.out _ _ trivial (fun hHeld => ?_)
                 clear hK K
                 refine na_ (N := some 70) (h := ?_)
                 exact norm_ zz28 (hCont (v179, v182, v185) _ ⟨(zz10 HO183.out), (zz10 HO186.out), bB⟩)
                skip
                refine Kd.R_lit_step k151 _ 151 ?hg (N := 70) ?hd (xs := ([(⟨a1.extract 0 (x8_2 : Int).toNat, a1.extract ((ji26) : Int).toNat a1.size⟩ : S151)] : List (S151))) (inner := [.string (a1.extract 0 (x8_2 : Int).toNat), .string (a1.extract ((ji26) : Int).toNat a1.size)]) (ok := fun _ => True) (okp := fun _ => True) ?hr ?hp (fun _ hk => hk) trivial (Below.refl _ _) (Nat.le_refl _) (by simp) ?_; (case hd => rfl); (case hg => rfl); (case hr => exact zz12); (case hp => exact (Reps.c2 (show Kd.M k151 _ _ _ (⟨a1.extract 0 (x8_2 : Int).toNat, a1.extract ((ji26) : Int).toNat a1.size⟩ : S151) [.string (a1.extract 0 (x8_2 : Int).toNat), .string (a1.extract ((ji26) : Int).toNat a1.size)] from (k151_mkM _ _ _ (⟨a1.extract 0 (x8_2 : Int).toNat, a1.extract ((ji26) : Int).toNat a1.size⟩ : S151) )) (Reps.none _ _)))
                intro v185 w67 ho68 hb hg_ hnew_
                clear hg_ hnew_
                (first | rw [← Ny184.out] at ho68 | (simp only [Int.reduceToNat] at ho68; rw [← Ny184.out] at ho68))
                have HO186 := aM (Kd.R_lower (Kd.R_new' ho68 (Kd.R_lt (bR HO180))) (below_size bB))
                replace HO180 := aM (Kd.R_elder' (bR HO180) (Kd.R_base ho68) hb)
                replace HB := aM (below_step bB hb)
                clear hb ho68
                refine hK.out _ _ trivial (fun hHeld => ?_)
                clear hK K
                refine na_ (N := some 70) (h := ?_)
                refine one_ (i := 2) (N := some 64) (bsA 12 511) rfl rfl (one_of HT_.out (by kernel_rfl)) (by decide) (fun K hK => ?_)
                refine Kd.R_append_rows_step k151 (w0 := w) w.heap.size (by rfl) (.tmp 62) (.tmp 63) 128 151 (.agg #[(.string ⟨#[]⟩), (.string ⟨#[]⟩)]) 32 rfl Tryd.underlying128 info151 rfl (by decide) (by omega) v179 y178 l0 _ _ _ (fun k_ => some k_ ≠ (v185 : Value).ownBlock) (fun _ => False) rfl rfl ?aO ?aR (fun _ _ h => h) (fun _ h => h.elim) ?aF ?aB ?aS ?aL ?_
                (case aR => exact zz5 HR0.out)
                (case aB => exact bB)
                (case aF => exact (fun k_ hk => Kd.fresh' (Kd.R_lt (bR HO186)) k_ hk))
                (case aO => exact zz36 HO180.out)
                (case aS => exact (below_size bB))
                (case aL => have := LMc60.out; omega)
                intro v182 w69 ho hb hg hat
                rw [← Ny181.out] at ho
                have n0_ := aM (Kd.R_after (ok := (fun _ => True)) (bR HO186) hg hat)
                have n1_ := aM (hb)
                have n2_ := aM (ho)
                clear HO186
                clear HB
                clear HO180
                have HO186 := n0_
                have HB := n1_
                have HO183 := n2_
                clear n0_ n1_ n2_
                clear ho hb hg hat
                refine hK.out _ _ trivial (fun hHeld => ?_)
                clear hK K
                refine na_ (N := some 64) (h := ?_)
                exact norm_ zz28 (hCont (v179, v182, v185) _ ⟨(bR HO183), (zz10 HO186.out), bB⟩)
               skip
               refine Kd.R_lit_step k151 _ 151 ?hg (N := 70) ?hd (xs := ([(⟨a1.extract 0 (x8_2 : Int).toNat, a1.extract ((ji26) : Int).toNat a1.size⟩ : S151)] : List (S151))) (inner := [.string (a1.extract 0 (x8_2 : Int).toNat), .string (a1.extract ((ji26) : Int).toNat a1.size)]) (ok := fun _ => True) (okp := fun _ => True) ?hr ?hp (fun _ hk => hk) trivial (Below.refl _ _) (Nat.le_refl _) (by simp) ?_; (case hd => rfl); (case hg => rfl); (case hr => exact zz12); (case hp => exact (Reps.c2 (show Kd.M k151 _ _ _ (⟨a1.extract 0 (x8_2 : Int).toNat, a1.extract ((ji26) : Int).toNat a1.size⟩ : S151) [.string (a1.extract 0 (x8_2 : Int).toNat), .string (a1.extract ((ji26) : Int).toNat a1.size)] from (k151_mkM _ _ _ (⟨a1.extract 0 (x8_2 : Int).toNat, a1.extract ((ji26) : Int).toNat a1.size⟩ : S151) )) (Reps.none _ _)))
               intro v185 w65 ho66 hb hg_ hnew_
               clear hg_ hnew_
               (first | rw [← Ny184.out] at ho66 | (simp only [Int.reduceToNat] at ho66; rw [← Ny184.out] at ho66))
               have HO186 := aM (Kd.R_lower ho66 (below_size bB))
               replace HB := aM (below_step bB hb)
               clear hb ho66
               refine hK.out _ _ trivial (fun hHeld => ?_)
               clear hK K
               refine na_ (N := some 70) (h := ?_)
               refine one_ (i := 0) (N := some 62) (bsA 12 507) rfl rfl (one_of HT_.out (by kernel_rfl)) (by decide) (fun K hK => ?_)
               refine Kd.R_lit_step k151 _ 151 ?hg (N := 62) ?hd (xs := ([] : List (S151))) (inner := []) (ok := fun _ => True) (okp := fun _ => True) ?hr ?hp (fun _ hk => hk) trivial (Below.refl _ _) (Nat.le_refl _) (by simp) ?_; (case hd => rfl); (case hg => rfl); (case hr => exact zz12); (case hp => exact (Reps.none _ _))
               intro v179 w67 ho68 hb hg_ hnew_
               clear hg_ hnew_
               (first | rw [← Ny178.out] at ho68 | (simp only [Int.reduceToNat] at ho68; rw [← Ny178.out] at ho68))
               have HO180 := aM (Kd.R_lower (Kd.R_new' ho68 (Kd.R_lt (bR HO186))) (below_size bB))
               replace HO186 := aM (Kd.R_elder' (bR HO186) (Kd.R_base ho68) hb)
               replace HB := aM (below_step bB hb)
               clear hb ho68
               refine hK.out _ _ trivial (fun hHeld => ?_)
               clear hK K
               refine na_ (N := some 62) (h := ?_)
               refine one_ (i := 2) (N := some 64) (bsA 12 511) rfl rfl (one_of HT_.out (by kernel_rfl)) (by decide) (fun K hK => ?_)
               refine Kd.R_append_rows_step k151 (w0 := w) w.heap.size (by rfl) (.tmp 62) (.tmp 63) 128 151 (.agg #[(.string ⟨#[]⟩), (.string ⟨#[]⟩)]) 32 rfl Tryd.underlying128 info151 rfl (by decide) (by omega) v179 y178 l0 _ _ _ (fun k_ => some k_ ≠ (v185 : Value).ownBlock) (fun _ => False) rfl rfl ?aO ?aR (fun _ _ h => h) (fun _ h => h.elim) ?aF ?aB ?aS ?aL ?_
               (case aR => exact zz5 HR0.out)
               (case aB => exact bB)
               (case aF => exact (fun k_ hk => Kd.fresh' (Kd.R_lt (bR HO186)) k_ hk))
               (case aO => exact zz36 HO180.out)
               (case aS => exact (below_size bB))
               (case aL => have := LMc60.out; omega)
               intro v182 w69 ho hb hg hat
               rw [← Ny181.out] at ho
               have n0_ := aM (Kd.R_after (ok := (fun _ => True)) (bR HO186) hg hat)
               have n1_ := aM (hb)
               have n2_ := aM (ho)
               clear HO186
               clear HB
               clear HO180
               have HO186 := n0_
               have HB := n1_
               have HO183 := n2_
               clear n0_ n1_ n2_
               clear ho hb hg hat
               refine hK.out _ _ trivial (fun hHeld => ?_)
               clear hK K
               refine na_ (N := some 64) (h := ?_)
               exact norm_ zz28 (hCont (v179, v182, v185) _ ⟨(bR HO183), (zz10 HO186.out), bB⟩)
              rintro ⟨v179, v182, v185⟩ w70 ⟨h0_, h1_, h2_⟩
              have n0_ : Aside0 (Kd.R k151 151 w70 w.heap.size (fun k_ => some k_ ≠ (v185 : Value).ownBlock) v182 y181) := ⟨h0_⟩
              have n1_ : Aside0 (Kd.R k151 151 w70 w.heap.size (fun k_ => some k_ ≠ (v182 : Value).ownBlock) v185 y184) := ⟨h1_⟩
              have n2_ : Aside0 (Below w.heap.size w w70) := ⟨h2_⟩
              clear HB
              clear h0_ h1_ h2_
              have HO183 := n0_
              have HO186 := n1_
              have HB := n2_
              clear n0_ n1_ n2_
              have hHeld := trivial
              obtain ⟨Ao72, co72, eo72⟩ := Kd.R_slice HO186.out
              (first | subst eo72 | (injection eo72 with f1_ f2_ f3_; have f4_ := f1_.symm; have f5_ := f3_.symm; clear f1_ f2_ f3_; subst f4_; subst f5_))
              refine norm_ (a' := ?_) ?_ ?_
              rotate_left
              ·simp only [putAll, Act.put, List.setIfInBounds_toArray, List.set_cons_zero, List.set_cons_succ]
               rfl
              refine one_ (i := 9) (N := some 71) (bsA 12 1023) rfl rfl (one_of HT_.out (by kernel_rfl)) (by decide) (fun K hK => ?_)
              refine Kd.R_append_rows_step k151 (w0 := w) w.heap.size (by rfl) (.tmp 64) (.tmp 70) 128 151 (.agg #[(.string ⟨#[]⟩), (.string ⟨#[]⟩)]) 32 rfl Tryd.underlying128 info151 rfl (by decide) (by omega) v182 y181 y184 _ _ _ (fun k_ => some k_ ≠ (.slice Ao72 y184.length co72 : Value).ownBlock) (fun _ => False) rfl rfl ?aO ?aR (fun _ _ h => h) (fun _ h => h.elim) ?aF ?aB ?aS ?aL ?_
              (case aR => exact zz7 HO186.out)
              (case aB => exact bB)
              (case aF => exact (fun k_ hk => Kd.fresh' (Kd.R_lt (bR HO186)) k_ hk))
              (case aO => exact (bR HO183))
              (case aS => exact (below_size bB))
              (case aL => have := LMc63.out; omega)
              intro v188 w71 ho hb hg hat
              rw [← Ny187.out] at ho
              have n0_ := aM (Kd.R_after (ok := (fun _ => True)) (zz37 HO186.out) hg hat)
              have n1_ := aM (hb)
              have n2_ := aM (ho)
              clear HO186
              clear HB
              clear HO183
              have HO186 := n0_
              have HB := n1_
              have HO189 := n2_
              clear n0_ n1_ n2_
              clear ho hb hg hat
              refine hK.out _ _ trivial (fun hHeld => ?_)
              clear hK K
              refine na_ (N := some 71) (h := ?_)
              refine pa_ (i := 10) (N := some 4) (bsA 12 2047) (h := ?_)
              refine pa_ (i := 11) (N := some 5) (bsA 12 4095) (h := ?_)
              refine done_ (done_of HT_.out (by kernel_rfl)) ?_
              try go_wp2
              go_ret2
              exact ⟨_, zz42, zz31 HO189.out, bB⟩
             rw [if_neg c63] at H
             exact absurd H (by simp)
            rw [if_neg c62] at H
            exact absurd H (by simp)
           rw [if_neg c60] at H
           exact absurd H (by simp)
          rw [if_neg c43] at H
          exact absurd H (by simp)
         rw [if_neg c28] at H
         exact absurd H (by simp)
        rw [if_neg c27] at H
        exact absurd H (by simp)
       rw [if_neg c25] at H
       have c25b0 : ((bt a1 x8_2) == 58) = false := beq_eq_false_iff_ne.mpr c25
       have c25b1 : ((bt a1 x8_2) != 58) = true := bne_iff_ne.mpr c25
       have H' := aM H
       clear H
       (try simp only [c25b0, c25b1])
       go_wp2
       go_roundg k2
       case measure => have := HJ2.out; have := HK2.out; omega
       case rel => exact ⟨(wrap64 (x8_2 + 1)), bS, H', ⟨zz53 HJ2.out HK2.out⟩, ⟨bB⟩⟩
      rw [if_neg c23] at H
      exact absurd H (by simp)
     rw [if_neg c22] at H
     have c22b0 : decide (x8_2 < (a1.size : Int)) = false := decide_eq_false c22
     clear c22
     simp only [Option.some.injEq, Prod.mk.injEq] at H
     obtain ⟨rfl, rfl⟩ := H
     go_wp2
     go_ret2
     exact ⟨_, bE, zz22, bB⟩
def spec_l4NameByte.f (a0 : Int) : Option (Bool) := if a0 ≥ 97 then (if a0 ≤ 122 then (some true) else (if a0 ≥ 65 then (if a0 ≤ 90 then (some true) else (if a0 ≥ 48 then (if a0 ≤ 57 then (some true) else (some (a0 == 45))) else (some (a0 == 45)))) else (if a0 ≥ 48 then (if a0 ≤ 57 then (some true) else (some (a0 == 45))) else (some (a0 == 45))))) else (if a0 ≥ 65 then (if a0 ≤ 90 then (some true) else (if a0 ≥ 48 then (if a0 ≤ 57 then (some true) else (some (a0 == 45))) else (some (a0 == 45)))) else (if a0 ≥ 48 then (if a0 ≤ 57 then (some true) else (some (a0 == 45))) else (some (a0 == 45))))
set_option maxHeartbeats 8000000 in
set_option maxRecDepth 100000 in
theorem spec_l4NameByte.calls (a0 : Int) (r : Bool) (w : World) (h : spec_l4NameByte.f a0 = some r) :
  Calls Tryd.prog 156 #[.int .u8 a0] w fun e w' => e = .returned (.bool r) ∧ Drawn0 w w' := by
 have H : (if a0 ≥ 97 then (if a0 ≤ 122 then (some true) else (if a0 ≥ 65 then (if a0 ≤ 90 then (some true) else (if a0 ≥ 48 then (if a0 ≤ 57 then (some true) else (some (a0 == 45))) else (some (a0 == 45)))) else (if a0 ≥ 48 then (if a0 ≤ 57 then (some true) else (some (a0 == 45))) else (some (a0 == 45))))) else (if a0 ≥ 65 then (if a0 ≤ 90 then (some true) else (if a0 ≥ 48 then (if a0 ≤ 57 then (some true) else (some (a0 == 45))) else (some (a0 == 45)))) else (if a0 ≥ 48 then (if a0 ≤ 57 then (some true) else (some (a0 == 45))) else (some (a0 == 45))))) = some r := h
 clear h
 by_cases c2 : a0 ≥ 97
 ·rw [if_pos c2] at H
  have c2b0 : decide (97 ≤ a0) = true := decide_eq_true c2
  clear c2
  by_cases c3 : a0 ≤ 122
  ·rw [if_pos c3] at H
   have c3b0 : decide (a0 ≤ 122) = true := decide_eq_true c3
   clear c3
   obtain rfl := Option.some.inj H
   go_enter Tryd.func156, Tryd.ntmps156
   go_wp2
   go_ret
   exact ⟨bS, zz6⟩
  rw [if_neg c3] at H
  have c3b0 : decide (a0 ≤ 122) = false := decide_eq_false c3
  clear c3
  by_cases c4 : a0 ≥ 65
  ·rw [if_pos c4] at H
   have c4b0 : decide (65 ≤ a0) = true := decide_eq_true c4
   clear c4
   by_cases c5 : a0 ≤ 90
   ·rw [if_pos c5] at H
    have c5b0 : decide (a0 ≤ 90) = true := decide_eq_true c5
    clear c5
    obtain rfl := Option.some.inj H
    go_enter Tryd.func156, Tryd.ntmps156
    go_wp2
    go_ret
    exact ⟨bS, zz6⟩
   rw [if_neg c5] at H
   have c5b0 : decide (a0 ≤ 90) = false := decide_eq_false c5
   clear c5
   by_cases c6 : a0 ≥ 48
   ·rw [if_pos c6] at H
    have c6b0 : decide (48 ≤ a0) = true := decide_eq_true c6
    clear c6
    by_cases c7 : a0 ≤ 57
    ·rw [if_pos c7] at H
     have c7b0 : decide (a0 ≤ 57) = true := decide_eq_true c7
     clear c7
     obtain rfl := Option.some.inj H
     go_enter Tryd.func156, Tryd.ntmps156
     go_wp2
     go_ret
     exact ⟨bS, zz6⟩
    rw [if_neg c7] at H
    have c7b0 : decide (a0 ≤ 57) = false := decide_eq_false c7
    clear c7
    obtain rfl := Option.some.inj H
    go_enter Tryd.func156, Tryd.ntmps156
    go_wp2
    go_ret
    exact ⟨bS, zz6⟩
   rw [if_neg c6] at H
   have c6b0 : decide (48 ≤ a0) = false := decide_eq_false c6
   clear c6
   obtain rfl := Option.some.inj H
   go_enter Tryd.func156, Tryd.ntmps156
   go_wp2
   go_ret
   exact ⟨bS, zz6⟩
  rw [if_neg c4] at H
  have c4b0 : decide (65 ≤ a0) = false := decide_eq_false c4
  clear c4
  by_cases c8 : a0 ≥ 48
  ·rw [if_pos c8] at H
   have c8b0 : decide (48 ≤ a0) = true := decide_eq_true c8
   clear c8
   by_cases c9 : a0 ≤ 57
   ·rw [if_pos c9] at H
    have c9b0 : decide (a0 ≤ 57) = true := decide_eq_true c9
    clear c9
    obtain rfl := Option.some.inj H
    go_enter Tryd.func156, Tryd.ntmps156
    go_wp2
    go_ret
    exact ⟨bS, zz6⟩
   rw [if_neg c9] at H
   have c9b0 : decide (a0 ≤ 57) = false := decide_eq_false c9
   clear c9
   obtain rfl := Option.some.inj H
   go_enter Tryd.func156, Tryd.ntmps156
   go_wp2
   go_ret
   exact ⟨bS, zz6⟩
  rw [if_neg c8] at H
  have c8b0 : decide (48 ≤ a0) = false := decide_eq_false c8
  clear c8
  obtain rfl := Option.some.inj H
  go_enter Tryd.func156, Tryd.ntmps156
  go_wp2
  go_ret
  exact ⟨bS, zz6⟩
 rw [if_neg c2] at H
 have c2b0 : decide (97 ≤ a0) = false := decide_eq_false c2
 clear c2
 by_cases c10 : a0 ≥ 65
 ·rw [if_pos c10] at H
  have c10b0 : decide (65 ≤ a0) = true := decide_eq_true c10
  clear c10
  by_cases c11 : a0 ≤ 90
  ·rw [if_pos c11] at H
   have c11b0 : decide (a0 ≤ 90) = true := decide_eq_true c11
   clear c11
   obtain rfl := Option.some.inj H
   go_enter Tryd.func156, Tryd.ntmps156
   go_wp2
   go_ret
   exact ⟨bS, zz6⟩
  rw [if_neg c11] at H
  have c11b0 : decide (a0 ≤ 90) = false := decide_eq_false c11
  clear c11
  by_cases c12 : a0 ≥ 48
  ·rw [if_pos c12] at H
   have c12b0 : decide (48 ≤ a0) = true := decide_eq_true c12
   clear c12
   by_cases c13 : a0 ≤ 57
   ·rw [if_pos c13] at H
    have c13b0 : decide (a0 ≤ 57) = true := decide_eq_true c13
    clear c13
    obtain rfl := Option.some.inj H
    go_enter Tryd.func156, Tryd.ntmps156
    go_wp2
    go_ret
    exact ⟨bS, zz6⟩
   rw [if_neg c13] at H
   have c13b0 : decide (a0 ≤ 57) = false := decide_eq_false c13
   clear c13
   obtain rfl := Option.some.inj H
   go_enter Tryd.func156, Tryd.ntmps156
   go_wp2
   go_ret
   exact ⟨bS, zz6⟩
  rw [if_neg c12] at H
  have c12b0 : decide (48 ≤ a0) = false := decide_eq_false c12
  clear c12
  obtain rfl := Option.some.inj H
  go_enter Tryd.func156, Tryd.ntmps156
  go_wp2
  go_ret
  exact ⟨bS, zz6⟩
 rw [if_neg c10] at H
 have c10b0 : decide (65 ≤ a0) = false := decide_eq_false c10
 clear c10
 by_cases c14 : a0 ≥ 48
 ·rw [if_pos c14] at H
  have c14b0 : decide (48 ≤ a0) = true := decide_eq_true c14
  clear c14
  by_cases c15 : a0 ≤ 57
  ·rw [if_pos c15] at H
   have c15b0 : decide (a0 ≤ 57) = true := decide_eq_true c15
   clear c15
   obtain rfl := Option.some.inj H
   go_enter Tryd.func156, Tryd.ntmps156
   go_wp2
   go_ret
   exact ⟨bS, zz6⟩
  rw [if_neg c15] at H
  have c15b0 : decide (a0 ≤ 57) = false := decide_eq_false c15
  clear c15
  obtain rfl := Option.some.inj H
  go_enter Tryd.func156, Tryd.ntmps156
  go_wp2
  go_ret
  exact ⟨bS, zz6⟩
 rw [if_neg c14] at H
 have c14b0 : decide (48 ≤ a0) = false := decide_eq_false c14
 clear c14
 obtain rfl := Option.some.inj H
 go_enter Tryd.func156, Tryd.ntmps156
 go_wp2
 go_ret
 exact ⟨bS, zz6⟩
end Go.Proofs.YtecpanfndodjgaaDoor.PPathOf
