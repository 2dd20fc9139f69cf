/- Part of the proof: what its walks use. -/
import Derived.Test.YtjopgmjmjnfcjaaPHeadersx0
import Derived.Test.YtjopgmjmjnfcjaaPHeadersx2
import Derived.Test.YtjopgmjmjnfcjaaPHeadersx3
namespace Go.Proofs.Ytjopgmjmjnfcjaa.PHeaders
open Go.RowKit Go.Proofs.YtjopgmjmjnfcjaaW.PrintWords Go.Proofs.YtjopgmjmjnfcjaaW.PrintLast Go.Proofs.YtjopgmjmjnfcjaaW.PrintMore
set_option linter.unusedVariables false
set_option linter.unusedSimpArgs false
mutual
def spec_l4Line.j0 : Nat → List (S69) → ByteArray → Int → Bool → Option ((List (S69)) × Bool)
 | 0, _, _, _, _ => none
 | k + 1, x0, x1, x6, x19 => if x19 = true then (if x6 = 0 then (some (([] : List (S69)), false)) else ((some (([] : List (S69)) : List (S69))).bind fun y174 => (if y174.length + x0.length < 4398046511104 then ((some (y174 ++ x0 : List (S69))).bind fun y177 => (if 0 ≤ (wrap64 (x6 - 1)) then (if (wrap64 (x6 - 1)) < (y177.length : Int) then (if ((rd_T69 y177 (wrap64 (x6 - 1))).f1).size + x1.size ≤ 9223372036854775807 then (some ((y177.set ((wrap64 (x6 - 1)) : Int).toNat (⟨(rd_T69 y177 (wrap64 (x6 - 1))).f0, ((rd_T69 y177 (wrap64 (x6 - 1))).f1) ++ x1⟩ : S69)), true)) else (none)) else (none)) else (none))) else (none)))) else (spec_l4Line.l0 k x0 x1 0)
def spec_l4Line.l0 : Nat → List (S69) → ByteArray → Int → Option ((List (S69)) × Bool)
 | 0, _, _, _ => none
 | k + 1, x0, x1, x8 => if x8 < (x1.size : Int) then (if 0 ≤ x8 then (if (bt x1 x8) = 58 then (if 0 ≤ (wrap64 (x8 + 1)) then (if (wrap64 (x8 + 1)) ≤ (x1.size : Int) then (if (x1.extract ((wrap64 (x8 + 1)) : Int).toNat x1.size).toList = ([] : List UInt8) then ((some (([] : List (S69)) : List (S69))).bind fun y182 => (if y182.length + x0.length < 4398046511104 then ((some (y182 ++ x0 : List (S69))).bind fun y185 => (if x8 ≤ (x1.size : Int) then ((some (([(⟨x1.extract 0 (x8 : Int).toNat, x1.extract ((wrap64 (x8 + 1)) : Int).toNat x1.size⟩ : S69)] : List (S69)) : List (S69))).bind fun y188 => (if y185.length + y188.length < 4398046511104 then (some ((y185 ++ y188), true)) else (none))) else (none))) else (none))) else (if 0 < ((x1.extract ((wrap64 (x8 + 1)) : Int).toNat x1.size).size : Int) then (if (bt (x1.extract ((wrap64 (x8 + 1)) : Int).toNat x1.size) 0) = 32 then (if 1 ≤ ((x1.extract ((wrap64 (x8 + 1)) : Int).toNat x1.size).size : Int) then ((some (([] : List (S69)) : List (S69))).bind fun y194 => (if y194.length + x0.length < 4398046511104 then ((some (y194 ++ x0 : List (S69))).bind fun y197 => (if x8 ≤ (x1.size : Int) then ((some (([(⟨x1.extract 0 (x8 : Int).toNat, (x1.extract ((wrap64 (x8 + 1)) : Int).toNat x1.size).extract 1 (x1.extract ((wrap64 (x8 + 1)) : Int).toNat x1.size).size⟩ : S69)] : List (S69)) : List (S69))).bind fun y200 => (if y197.length + y200.length < 4398046511104 then (some ((y197 ++ y200), true)) else (none))) else (none))) else (none))) else (none)) else ((some (([] : List (S69)) : List (S69))).bind fun y206 => (if y206.length + x0.length < 4398046511104 then ((some (y206 ++ x0 : List (S69))).bind fun y209 => (if x8 ≤ (x1.size : Int) then ((some (([(⟨x1.extract 0 (x8 : Int).toNat, x1.extract ((wrap64 (x8 + 1)) : Int).toNat x1.size⟩ : S69)] : List (S69)) : List (S69))).bind fun y212 => (if y209.length + y212.length < 4398046511104 then (some ((y209 ++ y212), true)) else (none))) else (none))) else (none)))) else (none))) else (none)) else (none)) else (spec_l4Line.l0 k x0 x1 (wrap64 (x8 + 1)))) else (none)) else (some (([] : List (S69)), false))
end
def spec_l4Line.f (k : Nat) (l0 : List (S69)) (a1 : ByteArray) : Option ((List (S69)) × Bool) := if 0 < (a1.size : Int) then (if (bt a1 0) = 32 then (spec_l4Line.j0 k l0 a1 (l0.length : Int) true) else (spec_l4Line.j0 k l0 a1 (l0.length : Int) ((bt a1 0) == 9))) else (none)
def spec_l4Line.T15 : Bool × List (List Nat × List Nat) := (true, [([], []), ([], []), ([0, 1], [0, 1]), ([], []), ([], []), ([3, 4], [3, 4]), ([], []), ([5, 6], [5, 6]), ([7], [7]), ([2, 8, 2], [2, 8]), ([9, 9, 0, 1, 2, 3, 4, 5, 6, 7, 8, 9], [9]), ([10, 0, 1, 2, 3, 4, 5, 6, 7, 8, 9, 10], [])])
def spec_l4Line.B15 : List Nat := [0, 0, 3, 0, 0, 24, 0, 120, 248, 511, 1023, 2047]
theorem spec_l4Line.tab15 : rtab .any (opsOf Try.f110 15) = spec_l4Line.T15 := by kernel_rfl
theorem spec_l4Line.bits15 : waitsOk spec_l4Line.T15.2 spec_l4Line.B15 = true := by kernel_rfl
set_option maxHeartbeats 8000000 in
set_option maxRecDepth 100000 in
theorem spec_l4Line.calls (k : Nat) (A0 : Option Addr) (c0 : Nat) (l0 : List (S69)) (a1 : ByteArray) (r1 : List (S69)) (r2 : Bool) (w : World) (hr0 : Kd.C k69 w A0 l0.length l0) (hc0 : l0.length ≤ c0) (h : spec_l4Line.f k l0 a1 = some (r1, r2)) :
  Calls Try.prog 110 #[.slice A0 l0.length c0, .string a1] w fun e w' => ∃ v0_ : Value, e = .returned (.tuple #[v0_, .bool r2]) ∧ Kd.R k69 69 w' w.heap.size (fun _ => True) v0_ r1 ∧ Below w.heap.size w w' := by
 have hu69 := Try.underlying69
 have HR0 := Aside0.mk hr0
 have HC0 := Aside0.mk hc0
 clear hr0 hc0
 have HB := Aside0.mk (Below.refl w.heap.size w)
 have H : (if 0 < (a1.size : Int) then (if (bt a1 0) = 32 then (spec_l4Line.j0 k l0 a1 (l0.length : Int) true) else (spec_l4Line.j0 k l0 a1 (l0.length : Int) ((bt a1 0) == 9))) else (none)) = some (r1, r2) := h
 clear h
 have HC3 := Aside0.mk H
 clear H
 go_enter Try.func110, Try.ntmps110
 go_upto_region 2 with (fail)
 go_cut [19] (fun v19 wc => ∃ (kq : Nat) (x19_2 : Bool), v19 = .bool x19_2 ∧ Aside0 (spec_l4Line.j0 kq l0 a1 (l0.length : Int) x19_2 = some (r1, r2)) ∧ Aside0 (kq ≤ k) ∧ Aside0 (Below w.heap.size w wc))
 case first =>
  have H := HC3.out
  clear HC3
  by_cases c4 : 0 < (a1.size : Int)
  ·rw [if_pos c4] at H
   have c4b0 : decide (0 < (a1.size : Int)) = true := decide_eq_true c4
   have c4b1 : decide (0 < a1.size) = true := decide_eq_true (by omega)
   clear c4
   have HQ_ := Aside0.mk H
   clear H
   (first | rw [c4b0] | (simp only [i64_w, i32_w]; rw [c4b0]) | skip)
   have p5 : 0 ≤ (0 : Int) := (by omega)
   have q5 : 0 < a1.size := (by have : (0 : Int) < (a1.size : Int) := pI; omega)
   have hx5 : ∀ h : 0 < a1.size, ((a1[0]'h).toNat : Int) = bt a1 0 := bt_at a1 0
   clear p5
   have qi5 : (0 < (a1.size : Int)) = True := eq_true (pI)
   replace q5 := eq_true q5
   have H := HQ_.out
   clear HQ_
   by_cases c6 : (bt a1 0) = 32
   ·rw [if_pos c6] at H
    have c6b0 : ((bt a1 0) == 32) = true := beq_iff_eq.mpr c6
    have c6b1 : ((bt a1 0) != 32) = false := bne_eq_false_iff_eq.mpr c6
    clear c6
    have H' := Aside0.mk H
    clear H
    (try simp only [c6b0, c6b1])
    go_wp2
    go_meet
    case rel => exact ⟨_, (true), bS, H', ⟨z42⟩, ⟨bB⟩⟩
   ·rw [if_neg c6] at H
    have c6b0 : ((bt a1 0) == 32) = false := beq_eq_false_iff_ne.mpr c6
    have c6b1 : ((bt a1 0) != 32) = true := bne_iff_ne.mpr c6
    have H' := Aside0.mk H
    clear H
    (try simp only [c6b0, c6b1])
    have p7 : 0 ≤ (0 : Int) := (by omega)
    have q7 : 0 < a1.size := (by have : (0 : Int) < (a1.size : Int) := pI; omega)
    have hx7 : ∀ h : 0 < a1.size, ((a1[0]'h).toNat : Int) = bt a1 0 := bt_at a1 0
    clear p7
    have qi7 : (0 < (a1.size : Int)) = True := eq_true (pI)
    replace q7 := eq_true q7
    go_wp2
    go_meet
    case rel => exact ⟨_, (((bt a1 0) == 9)), bS, H', ⟨z42⟩, ⟨bB⟩⟩
  ·rw [if_neg c4] at H
   exact absurd H (by simp)
 case rest =>
  clear HC3
  try clear c1
  try clear p2
  try clear c4
  try clear c4b0
  try clear c4b1
  try clear p5
  try clear q5
  try clear hx5
  try clear qi5
  try clear c6
  try clear c6b0
  try clear c6b1
  try clear p7
  try clear q7
  try clear hx7
  try clear qi7
  try clear p5
  try clear p7
  try clear q5
  try clear q7
  obtain ⟨kq, x19_2, rfl, HA, HJ2, HB⟩ := hcut
  cases kq with
  | zero => exact absurd HA.out (by simp [spec_l4Line.j0])
  | succ kj2 =>
   have H := HA.out
   clear HA
   simp only [spec_l4Line.j0] at H
   by_cases c8 : x19_2 = true
   ·subst c8
    have H1 : (if (l0.length : Int) = 0 then (some (([] : List (S69)), false)) else ((some (([] : List (S69)) : List (S69))).bind fun y174 => (if y174.length + l0.length < 4398046511104 then ((some (y174 ++ l0 : List (S69))).bind fun y177 => (if 0 ≤ (wrap64 ((l0.length : Int) - 1)) then (if (wrap64 ((l0.length : Int) - 1)) < (y177.length : Int) then (if ((rd_T69 y177 (wrap64 ((l0.length : Int) - 1))).f1).size + a1.size ≤ 9223372036854775807 then (some ((y177.set ((wrap64 ((l0.length : Int) - 1)) : Int).toNat (⟨(rd_T69 y177 (wrap64 ((l0.length : Int) - 1))).f0, ((rd_T69 y177 (wrap64 ((l0.length : Int) - 1))).f1) ++ a1⟩ : S69)), true)) else (none)) else (none)) else (none))) else (none)))) = some (r1, r2) := z35
    clear H
    have H := H1
    clear H1
    by_cases c9 : (l0.length : Int) = 0
    ·rw [if_pos c9] at H
     have c9b0 : ((l0.length : Int) == 0) = true := beq_iff_eq.mpr c9
     have c9b1 : ((l0.length : Int) != 0) = false := bne_eq_false_iff_eq.mpr c9
     clear c9
     simp only [Option.some.injEq, Prod.mk.injEq] at H
     obtain ⟨rfl, rfl⟩ := H
     go_wp2
     go_ret2
     exact ⟨_, bE, z19, bB⟩
    ·rw [if_neg c9] at H
     have c9b0 : ((l0.length : Int) == 0) = false := beq_eq_false_iff_ne.mpr c9
     have c9b1 : ((l0.length : Int) != 0) = true := bne_iff_ne.mpr c9
     have c9b2 : ¬ (l0 = []) := fun h_ => c9 (by rw [h_]; rfl)
     obtain ⟨y174, hy174⟩ : ∃ y_ : List (S69), y_ = (([] : List (S69))) := ⟨_, rfl⟩
     replace H : (if y174.length + l0.length < 4398046511104 then ((some (y174 ++ l0 : List (S69))).bind fun y177 => (if 0 ≤ (wrap64 ((l0.length : Int) - 1)) then (if (wrap64 ((l0.length : Int) - 1)) < (y177.length : Int) then (if ((rd_T69 y177 (wrap64 ((l0.length : Int) - 1))).f1).size + a1.size ≤ 9223372036854775807 then (some ((y177.set ((wrap64 ((l0.length : Int) - 1)) : Int).toNat (⟨(rd_T69 y177 (wrap64 ((l0.length : Int) - 1))).f0, ((rd_T69 y177 (wrap64 ((l0.length : Int) - 1))).f1) ++ a1⟩ : S69)), true)) else (none)) else (none)) else (none))) else (none)) = some (r1, r2) := z3 hy174
     have Ny174 := Aside0.mk hy174
     clear hy174
     by_cases c10 : y174.length + l0.length < 4398046511104
     ·rw [if_pos c10] at H
      have LMc10 := Aside0.mk c10
      clear c10
      obtain ⟨y177, hy177⟩ : ∃ y_ : List (S69), y_ = (y174 ++ l0) := ⟨_, rfl⟩
      replace H : (if 0 ≤ (wrap64 ((l0.length : Int) - 1)) then (if (wrap64 ((l0.length : Int) - 1)) < (y177.length : Int) then (if ((rd_T69 y177 (wrap64 ((l0.length : Int) - 1))).f1).size + a1.size ≤ 9223372036854775807 then (some ((y177.set ((wrap64 ((l0.length : Int) - 1)) : Int).toNat (⟨(rd_T69 y177 (wrap64 ((l0.length : Int) - 1))).f0, ((rd_T69 y177 (wrap64 ((l0.length : Int) - 1))).f1) ++ a1⟩ : S69)), true)) else (none)) else (none)) else (none)) = some (r1, r2) := z3 hy177
      have Ny177 := Aside0.mk hy177
      clear hy177
      obtain ⟨ji11, hji11⟩ : ∃ j_ : Int, (wrap64 ((l0.length : Int) - 1)) = j_ := ⟨_, rfl⟩
      replace H : (if 0 ≤ (ji11) then (if (ji11) < (y177.length : Int) then (if ((rd_T69 y177 (ji11)).f1).size + a1.size ≤ 9223372036854775807 then (some ((y177.set ((ji11) : Int).toNat (⟨(rd_T69 y177 (ji11)).f0, ((rd_T69 y177 (ji11)).f1) ++ a1⟩ : S69)), true)) else (none)) else (none)) else (none)) = some (r1, r2) := by first | (rw [hji11] at H; exact H) | (simp only [hji11] at H ⊢; exact H)
      have hji11w : (IntKind.i64.wrap ((l0.length : Int) - 1)) = ji11 := (i64_w _).trans hji11
      by_cases c12 : 0 ≤ (ji11)
      ·rw [if_pos c12] at H
       have c12b0 : decide (0 ≤ (ji11)) = true := decide_eq_true c12
       clear c12
       by_cases c13 : (ji11) < (y177.length : Int)
       ·rw [if_pos c13] at H
        have c13b0 : decide ((ji11) < (y177.length : Int)) = true := decide_eq_true c13
        clear c13
        by_cases c14 : ((rd_T69 y177 (ji11)).f1).size + a1.size ≤ 9223372036854775807
        ·rw [if_pos c14] at H
         have c14b0 := eq_true c14
         have c14b1 : decide (((rd_T69 y177 (ji11)).f1).size + a1.size ≤ 9223372036854775807) = true := decide_eq_true c14
         try have c14b2 : (9223372036854775807 < ((rd_T69 y177 (ji11)).f1).size + a1.size) = False := eq_false (Nat.not_lt.2 c14)
         obtain ⟨y181, hy181⟩ : ∃ y_ : List (S69), y_ = (y177.set ((ji11) : Int).toNat (⟨(rd_T69 y177 (ji11)).f0, ((rd_T69 y177 (ji11)).f1) ++ a1⟩ : S69)) := ⟨_, rfl⟩
         replace H : (some (y181, true)) = some (r1, r2) := z3 hy181
         have Ny181 := Aside0.mk hy181
         clear hy181
         simp only [Option.some.injEq, Prod.mk.injEq] at H
         obtain ⟨rfl, rfl⟩ := H
         go_wp2_with (first | ((with_reducible refine gate_dst (N := 22) rfl ?_); refine Kd.R_lit k69 _ 69 ?hg (N := 22) ?hd (xs := ([] : List (S69))) (inner := []) (ok := fun _ => True) (okp := fun _ => True) ?hr ?hp (fun _ hk => hk) trivial (Below.refl _ _) (Nat.le_refl _) (by simp) ?_; (case hd => rfl); (case hg => rfl); (case hr => exact z14); (case hp => exact (Reps.none _ _)); intro v175 w16 ho17 hb hg_ hnew_; clear hg_ hnew_; (first | rw [← Ny174.out] at ho17 | (simp only [Int.reduceToNat] at ho17; rw [← Ny174.out] at ho17)); have HO176 := Aside0.mk (Kd.R_lower ho17 (below_size bB)); replace HB := Aside0.mk (below_step bB hb); clear hb ho17) | ((with_reducible refine gate_builtin (b := .append) (xs := #[.tmp 22, .tmp 23]) rfl ?_); at_builtin; refine Kd.R_append_rows k69 (w0 := w) w.heap.size rfl (.tmp 22) (.tmp 23) 44 69 (.agg #[(.string ⟨#[]⟩), (.string ⟨#[]⟩)]) 32 rfl Try.underlying44 info69 rfl (by decide) (by omega) v175 y174 l0 _ _ _ (fun _ => True) (fun _ => False) rfl rfl ?aO ?aR (fun _ _ h => h) (fun _ h => h.elim) ?aF ?aB ?aS ?aL ?_; (case aR => exact z6 HR0.out); (case aB => exact bB); (case aF => exact (fun _ _ => trivial)); (case aO => exact (bR HO176)); (case aS => exact (below_size bB)); (case aL => have := LMc10.out; omega); intro v178 w18 ho hb hg hat; rw [← Ny177.out] at ho; have n0_ := Aside0.mk (hb); have n1_ := Aside0.mk (ho); clear HB; clear HO176; have HB := n0_; have HO179 := n1_; clear n0_ n1_; clear ho hb hg hat; obtain ⟨Ao19, co19, eo19⟩ := Kd.R_slice HO179.out; subst eo19; have p180 : 0 ≤ ((ji11) : Int) := pI; have q180 : (ji11) < (y177.length : Int) := pI; obtain ⟨ad180, e180, hx180_0, hx180_1⟩ := at_T69 (Kd.R_reads' HO179.out).2.2 (ji11) p180 q180; cases e180; replace p180 := eq_true p180; replace q180 := eq_true q180; have p15 : 0 ≤ ((ji11) : Int) := pI; have q15 : ((ji11) : Int) < ((y177.length : Int) : Int) := pI; obtain ⟨go15, co15, eo15, gb15, gl15, cl15, HG15⟩ := Kd.R_form HO179.out (by omega); (first | cases eo15 | (injection eo15 with ea_ en_ ec_; (first | subst ea_ | (injection ea_ with ea_; subst ea_)); subst ec_; clear en_)); have GB15 := Aside0.mk gb15; have GG15 := Aside0.mk HG15; clear gb15 gl15 HG15; (first | simp only [add_plain] at hx180_0 | skip); (first | simp only [add_plain] at hx180_1 | skip); obtain ⟨ce15, hcl15, hM15, hcc15, hfr15⟩ := Kd.R_elem HO179.out z69 ((ji11) : Int) p15 q15; obtain rfl := k69_openM hM15; have hx15_0 : w18.cell? ⟨go15, ((ji11) : Int).toNat * 2, none⟩ = some (.string ((rd_T69 y177 (ji11)).f0)) := hcc15 0 _ rfl; have hx15_1 : w18.cell? ⟨go15, ((ji11) : Int).toNat * 2 + 1, none⟩ = some (.string ((rd_T69 y177 (ji11)).f1)) := hcc15 1 _ rfl; have hf15_0 : w18.frozen? ⟨go15, ((ji11) : Int).toNat * 2, none⟩ = false := hfr15 0 (by decide); have hf15_1 : w18.frozen? ⟨go15, ((ji11) : Int).toNat * 2 + 1, none⟩ = false := hfr15 1 (by decide); clear hcl15 hcc15 hfr15 hM15; replace p15 := eq_true p15; replace q15 := eq_true q15; have HX20 := Aside0.mk (show Kd.R k69 69 w18 w.heap.size (fun _ => True) (.slice (some ⟨go15, 0, none⟩) y177.length co19) y177 from (bR HO179)); obtain ⟨ce20, hcl20, hM20, hcc20, hfr20⟩ := Kd.R_elem HX20.out z69 ((ji11) : Int) (pI) (bH (pI : ((ji11) : Int) < ((y177.length : Int) : Int)) (Kd.R_reads' HO179.out).1); obtain rfl := k69_openM hM20; have HP20 := Kd.R_seg HX20.out ((ji11) : Int) (pI) (bH (pI : ((ji11) : Int) < ((y177.length : Int) : Int)) (Kd.R_reads' HO179.out).1) (seg := [.string (((rd_T69 y177 (ji11)).f1) ++ a1)]) (j := 1) hcl20 hcc20 (show 2 ≤ 2 from by decide) (x' := (⟨(rd_T69 y177 (ji11)).f0, ((rd_T69 y177 (ji11)).f1) ++ a1⟩ : S69)) (k69_mkM _ _ _ (⟨(rd_T69 y177 (ji11)).f0, ((rd_T69 y177 (ji11)).f1) ++ a1⟩ : S69) ) (fun _ hk => hk); have hx20_1 := hcc20 1 _ rfl; (try simp only [show (k69).sz = 2 from rfl, Nat.mul_one, Nat.add_zero] at hx20_1); have hf20_1 := hfr20 1 (by decide); (try simp only [show (k69).sz = 2 from rfl, Nat.mul_one, Nat.add_zero] at hf20_1); clear hcl20 hcc20 hfr20 hM20) | ((with_reducible refine gate_store (t := 9) (p := 37) rfl ?_); refine store_event (t := 9) (p := 37) (v := ?vo_w21) (w1 := (w18.setCell ⟨go15, ((ji11) : Int).toNat * 2 + 1, none⟩ (.string (((rd_T69 y177 (ji11)).f1) ++ a1)))) ?hg ?ho ?hn ?hr ?_; (case ho => rfl); (case hg => rfl); (case hn => rfl); (case hr => exact z14); intro w21 hw; have hg : w18.grownBy w21 (some go15) := (by rw [hw]; exact HP20.2); have hp_ : Kd.R k69 69 w21 w.heap.size (fun _ => True) (.slice (some ⟨go15, 0, none⟩) y177.length co19) y181 := (by rw [hw, Ny181.out]; exact HP20.1); clear HP20; replace HO179 := Aside0.mk (hp_); replace HB := Aside0.mk ((z47 GB15.out : Below w.heap.size w w21)); clear hg hw hp_))
         go_ret2
         exact ⟨_, by first | rfl | (simp [errW_none, errW_some] <;> rfl) | (simp only [← hji11]; first | rfl | (simp [errW_none, errW_some] <;> rfl)) | (simp [*, errW_none, errW_some] <;> rfl), bR HO179, bB⟩
        ·rw [if_neg c14] at H
         exact absurd H (by simp)
       ·rw [if_neg c13] at H
        exact absurd H (by simp)
      ·rw [if_neg c12] at H
       exact absurd H (by simp)
     ·rw [if_neg c10] at H
      exact absurd H (by simp)
   ·replace c8 := Bool.eq_false_iff.mpr c8
    subst c8
    have H1 : (spec_l4Line.l0 kj2 l0 a1 0) = some (r1, r2) := z23
    clear H
    have H := H1
    clear H1
    have H' := Aside0.mk H
    clear H
    go_wp2
    go_loopg [8] kj2 (fun kq v8 w' => ∃ (x8_2 : Int), v8 = .int .i64 x8_2 ∧ Aside0 (spec_l4Line.l0 kq l0 a1 x8_2 = some (r1, r2)) ∧ Aside0 (kq ≤ kj2) ∧ Aside0 (Below w.heap.size w w'))
    case atStart => exact ⟨(0), bS, H', ⟨Nat.le_refl _⟩, ⟨bB⟩⟩
    case round =>
     clear H'
     try clear c1
     try clear p1
     try clear q1
     try clear hx1
     try clear c2
     try clear p2
     try clear hx2
     try clear hf2
     try clear c4
     try clear c4b0
     try clear c4b1
     try clear p5
     try clear q5
     try clear hx5
     try clear qi5
     try clear c6
     try clear c6b0
     try clear c6b1
     try clear p6
     try clear p7
     try clear q7
     try clear hx7
     try clear qi7
     try clear c8
     try clear c9
     try clear c9b0
     try clear c9b1
     try clear c9b2
     try clear c10
     try clear c11
     try clear c12
     try clear c12b0
     try clear c13
     try clear c13b0
     try clear c14
     try clear c14b0
     try clear c14b1
     try clear c14b2
     try clear c15
     try clear p15
     try clear q15
     try clear hx15
     try clear hf15
     try clear p18
     try clear q18
     try clear hx18
     try clear c20
     try clear hx20
     try clear hf20
     try clear hx15_0
     try clear hx15_1
     try clear hx180_0
     try clear hx180_1
     try clear hx20_1
     try clear p15
     try clear p180
     try clear p2
     try clear p5
     try clear p7
     try clear q15
     try clear q180
     try clear q5
     try clear q7
     obtain ⟨x8_2, rfl, HA, HK2, HB⟩ := hrel
     cases gk with
     | zero => exact absurd HA.out (by simp [spec_l4Line.l0])
     | succ k2 =>
      have H := HA.out
      clear HA
      simp only [spec_l4Line.l0] at H
      by_cases c22 : x8_2 < (a1.size : Int)
      ·rw [if_pos c22] at H
       have c22b0 : decide (x8_2 < (a1.size : Int)) = true := decide_eq_true c22
       clear c22
       by_cases c23 : 0 ≤ x8_2
       ·rw [if_pos c23] at H
        have c23b0 : decide (0 ≤ x8_2) = true := decide_eq_true c23
        clear c23
        have HQ_ := Aside0.mk H
        clear H
        have p24 : 0 ≤ (x8_2 : Int) := pI
        have q24 : x8_2 < (a1.size : Int) := pI
        have hx24 := bt_at a1 x8_2
        replace p24 := eq_true p24
        replace q24 := eq_true q24
        have H := HQ_.out
        clear HQ_
        by_cases c25 : (bt a1 x8_2) = 58
        ·rw [if_pos c25] at H
         have c25b0 : ((bt a1 x8_2) == 58) = true := beq_iff_eq.mpr c25
         have c25b1 : ((bt a1 x8_2) != 58) = false := bne_eq_false_iff_eq.mpr c25
         clear c25
         obtain ⟨ji26, hji26⟩ : ∃ j_ : Int, (wrap64 (x8_2 + 1)) = j_ := ⟨_, rfl⟩
         replace H : (if 0 ≤ (ji26) then (if (ji26) ≤ (a1.size : Int) then (if (a1.extract ((ji26) : Int).toNat a1.size).toList = ([] : List UInt8) then ((some (([] : List (S69)) : List (S69))).bind fun y182 => (if y182.length + l0.length < 4398046511104 then ((some (y182 ++ l0 : List (S69))).bind fun y185 => (if x8_2 ≤ (a1.size : Int) then ((some (([(⟨a1.extract 0 (x8_2 : Int).toNat, a1.extract ((ji26) : Int).toNat a1.size⟩ : S69)] : List (S69)) : List (S69))).bind fun y188 => (if y185.length + y188.length < 4398046511104 then (some ((y185 ++ y188), true)) else (none))) else (none))) else (none))) else (if 0 < ((a1.extract ((ji26) : Int).toNat a1.size).size : Int) then (if (bt (a1.extract ((ji26) : Int).toNat a1.size) 0) = 32 then (if 1 ≤ ((a1.extract ((ji26) : Int).toNat a1.size).size : Int) then ((some (([] : List (S69)) : List (S69))).bind fun y194 => (if y194.length + l0.length < 4398046511104 then ((some (y194 ++ l0 : List (S69))).bind fun y197 => (if x8_2 ≤ (a1.size : Int) then ((some (([(⟨a1.extract 0 (x8_2 : Int).toNat, (a1.extract ((ji26) : Int).toNat a1.size).extract 1 (a1.extract ((ji26) : Int).toNat a1.size).size⟩ : S69)] : List (S69)) : List (S69))).bind fun y200 => (if y197.length + y200.length < 4398046511104 then (some ((y197 ++ y200), true)) else (none))) else (none))) else (none))) else (none)) else ((some (([] : List (S69)) : List (S69))).bind fun y206 => (if y206.length + l0.length < 4398046511104 then ((some (y206 ++ l0 : List (S69))).bind fun y209 => (if x8_2 ≤ (a1.size : Int) then ((some (([(⟨a1.extract 0 (x8_2 : Int).toNat, a1.extract ((ji26) : Int).toNat a1.size⟩ : S69)] : List (S69)) : List (S69))).bind fun y212 => (if y209.length + y212.length < 4398046511104 then (some ((y209 ++ y212), true)) else (none))) else (none))) else (none)))) else (none))) else (none)) else (none)) = some (r1, r2) := by first | (rw [hji26] at H; exact H) | (simp only [hji26] at H ⊢; exact H)
         have hji26w : (IntKind.i64.wrap (x8_2 + 1)) = ji26 := (i64_w _).trans hji26
         (try simp only [c25b0, c25b1])
         by_cases c27 : 0 ≤ (ji26)
         ·rw [if_pos c27] at H
          have c27b0 := eq_true c27
          have c27b1 : decide (0 ≤ (ji26)) = true := decide_eq_true c27
          clear c27
          by_cases c28 : (ji26) ≤ (a1.size : Int)
          ·rw [if_pos c28] at H
           have c28b0 := eq_true c28
           have c28b1 : decide ((ji26) ≤ (a1.size : Int)) = true := decide_eq_true c28
           clear c28
           by_cases c29 : (a1.extract ((ji26) : Int).toNat a1.size).toList = ([] : List UInt8)
           ·rw [if_pos c29] at H
            have c29b0 : ((a1.extract ((ji26) : Int).toNat a1.size).toList == ([] : List UInt8)) = true := beq_iff_eq.mpr c29
            have c29b1 : ((a1.extract ((ji26) : Int).toNat a1.size).toList != ([] : List UInt8)) = false := bne_eq_false_iff_eq.mpr c29
            clear c29
            obtain ⟨y182, hy182⟩ : ∃ y_ : List (S69), y_ = (([] : List (S69))) := ⟨_, rfl⟩
            replace H : (if y182.length + l0.length < 4398046511104 then ((some (y182 ++ l0 : List (S69))).bind fun y185 => (if x8_2 ≤ (a1.size : Int) then ((some (([(⟨a1.extract 0 (x8_2 : Int).toNat, a1.extract ((ji26) : Int).toNat a1.size⟩ : S69)] : List (S69)) : List (S69))).bind fun y188 => (if y185.length + y188.length < 4398046511104 then (some ((y185 ++ y188), true)) else (none))) else (none))) else (none)) = some (r1, r2) := z3 hy182
            have Ny182 := Aside0.mk hy182
            clear hy182
            (try simp only [c29b0, c29b1])
            by_cases c30 : y182.length + l0.length < 4398046511104
            ·rw [if_pos c30] at H
             have LMc30 := Aside0.mk c30
             clear c30
             obtain ⟨y185, hy185⟩ : ∃ y_ : List (S69), y_ = (y182 ++ l0) := ⟨_, rfl⟩
             replace H : (if x8_2 ≤ (a1.size : Int) then ((some (([(⟨a1.extract 0 (x8_2 : Int).toNat, a1.extract ((ji26) : Int).toNat a1.size⟩ : S69)] : List (S69)) : List (S69))).bind fun y188 => (if y185.length + y188.length < 4398046511104 then (some ((y185 ++ y188), true)) else (none))) else (none)) = some (r1, r2) := z3 hy185
             have Ny185 := Aside0.mk hy185
             clear hy185
             have c31b0 := eq_true (pI : 0 ≤ x8_2)
             by_cases c32 : x8_2 ≤ (a1.size : Int)
             ·rw [if_pos c32] at H
              have c32b0 := eq_true c32
              have c32b1 : decide (x8_2 ≤ (a1.size : Int)) = true := decide_eq_true c32
              clear c32
              obtain ⟨y188, hy188⟩ : ∃ y_ : List (S69), y_ = (([(⟨a1.extract 0 (x8_2 : Int).toNat, a1.extract ((ji26) : Int).toNat a1.size⟩ : S69)] : List (S69))) := ⟨_, rfl⟩
              replace H : (if y185.length + y188.length < 4398046511104 then (some ((y185 ++ y188), true)) else (none)) = some (r1, r2) := z3 hy188
              have Ny188 := Aside0.mk hy188
              clear hy188
              by_cases c33 : y185.length + y188.length < 4398046511104
              ·rw [if_pos c33] at H
               have LMc33 := Aside0.mk c33
               clear c33
               obtain ⟨y191, hy191⟩ : ∃ y_ : List (S69), y_ = (y185 ++ y188) := ⟨_, rfl⟩
               replace H : (some (y191, true)) = some (r1, r2) := z3 hy191
               have Ny191 := Aside0.mk hy191
               clear hy191
               simp only [Option.some.injEq, Prod.mk.injEq] at H
               obtain ⟨rfl, rfl⟩ := H
               try go_wp2
               replace HB := Aside0.mk (below_drew1 HB.out)
               refine start_ (n := 12) (S := fun w' => True) (ds := []) (bsA 12 0) (by kernel_rfl) rfl rfl trivial (fun hHeld => ?_); refine with_tabW spec_l4Line.tab15 spec_l4Line.bits15 (fun HT_ HW_ => ?_)
               generalize wr.drew = w34 at HB hHeld ⊢
               refine pa_ (i := 1) (N := some 63) (bsA 12 2) (h := ?_)
               refine pa_ (i := 3) (N := some 65) (bsA 12 10) (h := ?_)
               refine pa_ (i := 4) (N := some 66) (bsA 12 26) (h := ?_)
               refine pa_ (i := 5) (N := some 67) (bsA 12 58) (h := ?_)
               refine pa_ (i := 6) (N := some 68) (bsA 12 122) (h := ?_)
               refine pa_ (i := 7) (N := some 69) (bsA 12 250) (h := ?_)
               refine join_ (σ := Value × Value × Value) 3 (bsA 12 511) (fun s_ => [(62, s_.1), (64, s_.2.1), (70, s_.2.2)]) (fun s_ w' => (Kd.R k69 69 w' w.heap.size (fun k_ => some k_ ≠ (s_.2.2 : Value).ownBlock) s_.2.1 y185) ∧ (Kd.R k69 69 w' w.heap.size (fun k_ => some k_ ≠ (s_.2.1 : Value).ownBlock) s_.2.2 y188) ∧ (Below w.heap.size w w')) ?_ ?_
               rotate_left
               ·intro hCont
                refine two_ (i := 0) (j := 8) (Ni := some 62) (Nj := some 70) (bsA 12 251) (bsA 12 506) rfl rfl rfl rfl (two_of HT_.out (by kernel_rfl)) (by decide) (by decide) (fun K hK => ?_) (fun K hK => ?_)
                ·skip
                 refine Kd.R_lit_step k69 _ 69 ?hg (N := 62) ?hd (xs := ([] : List (S69))) (inner := []) (ok := fun _ => True) (okp := fun _ => True) ?hr ?hp (fun _ hk => hk) trivial (Below.refl _ _) (Nat.le_refl _) (by simp) ?_; (case hd => rfl); (case hg => rfl); (case hr => exact z14); (case hp => exact (Reps.none _ _))
                 intro v183 w35 ho36 hb hg_ hnew_
                 clear hg_ hnew_
                 (first | rw [← Ny182.out] at ho36 | (simp only [Int.reduceToNat] at ho36; rw [← Ny182.out] at ho36))
                 have HO184 := Aside0.mk (Kd.R_lower ho36 (below_size bB))
                 replace HB := Aside0.mk (below_step bB hb)
                 clear hb ho36
                 refine hK.out _ _ trivial (fun hHeld => ?_)
                 clear hK K
                 refine na_ (N := some 62) (h := ?_)
                 refine two_ (i := 2) (j := 8) (Ni := some 64) (Nj := some 70) (bsA 12 255) (bsA 12 507) rfl rfl rfl rfl (two_of HT_.out (by kernel_rfl)) (by decide) (by decide) (fun K hK => ?_) (fun K hK => ?_)
                 ·skip
                  refine Kd.R_append_rows_step k69 (w0 := w) w.heap.size (by rfl) (.tmp 62) (.tmp 63) 44 69 (.agg #[(.string ⟨#[]⟩), (.string ⟨#[]⟩)]) 32 rfl Try.underlying44 info69 rfl (by decide) (by omega) v183 y182 l0 _ _ _ (fun _ => True) (fun _ => False) rfl rfl ?aO ?aR (fun _ _ h => h) (fun _ h => h.elim) ?aF ?aB ?aS ?aL ?_
                  (case aR => exact z6 HR0.out)
                  (case aB => exact bB)
                  (case aF => exact (fun _ _ => trivial))
                  (case aO => exact (bR HO184))
                  (case aS => exact (below_size bB))
                  (case aL => have := LMc30.out; omega)
                  intro v186 w37 ho hb hg hat
                  rw [← Ny185.out] at ho
                  have n0_ := Aside0.mk (hb)
                  have n1_ := Aside0.mk (ho)
                  clear HB
                  clear HO184
                  have HB := n0_
                  have HO187 := n1_
                  clear n0_ n1_
                  clear ho hb hg hat
                  refine hK.out _ _ trivial (fun hHeld => ?_)
                  clear hK K
                  refine na_ (N := some 64) (h := ?_)
                  refine one_ (i := 8) (N := some 70) (bsA 12 511) rfl rfl (one_of HT_.out (by kernel_rfl)) (by decide) (fun K hK => ?_)
                  refine Kd.R_lit_step k69 _ 69 ?hg (N := 70) ?hd (xs := ([(⟨a1.extract 0 (x8_2 : Int).toNat, a1.extract ((ji26) : Int).toNat a1.size⟩ : S69)] : List (S69))) (inner := [.string (a1.extract 0 (x8_2 : Int).toNat), .string (a1.extract ((ji26) : Int).toNat a1.size)]) (ok := fun _ => True) (okp := fun _ => True) ?hr ?hp (fun _ hk => hk) trivial (Below.refl _ _) (Nat.le_refl _) (by simp) ?_; (case hd => rfl); (case hg => rfl); (case hr => exact z14); (case hp => exact (Reps.c2 (show Kd.M k69 _ _ _ (⟨a1.extract 0 (x8_2 : Int).toNat, a1.extract ((ji26) : Int).toNat a1.size⟩ : S69) [.string (a1.extract 0 (x8_2 : Int).toNat), .string (a1.extract ((ji26) : Int).toNat a1.size)] from (k69_mkM _ _ _ (⟨a1.extract 0 (x8_2 : Int).toNat, a1.extract ((ji26) : Int).toNat a1.size⟩ : S69) )) (Reps.none _ _)))
                  intro v189 w38 ho39 hb hg_ hnew_
                  clear hg_ hnew_
                  (first | rw [← Ny188.out] at ho39 | (simp only [Int.reduceToNat] at ho39; rw [← Ny188.out] at ho39))
                  have HO190 := Aside0.mk (Kd.R_lower (Kd.R_new' ho39 (Kd.R_lt (bR HO187))) (below_size bB))
                  replace HO187 := Aside0.mk (Kd.R_elder' (bR HO187) (Kd.R_base ho39) hb)
                  replace HB := Aside0.mk (below_step bB hb)
                  clear hb ho39
                  refine hK.out _ _ trivial (fun hHeld => ?_)
                  clear hK K
                  refine na_ (N := some 70) (h := ?_)
                  exact norm_ z30 (hCont (v183, v186, v189) _ ⟨(z7 HO187.out), (z7 HO190.out), bB⟩)
                 ·skip
                  refine Kd.R_lit_step k69 _ 69 ?hg (N := 70) ?hd (xs := ([(⟨a1.extract 0 (x8_2 : Int).toNat, a1.extract ((ji26) : Int).toNat a1.size⟩ : S69)] : List (S69))) (inner := [.string (a1.extract 0 (x8_2 : Int).toNat), .string (a1.extract ((ji26) : Int).toNat a1.size)]) (ok := fun _ => True) (okp := fun _ => True) ?hr ?hp (fun _ hk => hk) trivial (Below.refl _ _) (Nat.le_refl _) (by simp) ?_; (case hd => rfl); (case hg => rfl); (case hr => exact z14); (case hp => exact (Reps.c2 (show Kd.M k69 _ _ _ (⟨a1.extract 0 (x8_2 : Int).toNat, a1.extract ((ji26) : Int).toNat a1.size⟩ : S69) [.string (a1.extract 0 (x8_2 : Int).toNat), .string (a1.extract ((ji26) : Int).toNat a1.size)] from (k69_mkM _ _ _ (⟨a1.extract 0 (x8_2 : Int).toNat, a1.extract ((ji26) : Int).toNat a1.size⟩ : S69) )) (Reps.none _ _)))
                  intro v189 w37 ho38 hb hg_ hnew_
                  clear hg_ hnew_
                  (first | rw [← Ny188.out] at ho38 | (simp only [Int.reduceToNat] at ho38; rw [← Ny188.out] at ho38))
                  have HO190 := Aside0.mk (Kd.R_lower (Kd.R_new' ho38 (Kd.R_lt (bR HO184))) (below_size bB))
                  replace HO184 := Aside0.mk (Kd.R_elder' (bR HO184) (Kd.R_base ho38) hb)
                  replace HB := Aside0.mk (below_step bB hb)
                  clear hb ho38
                  refine hK.out _ _ trivial (fun hHeld => ?_)
                  clear hK K
                  refine na_ (N := some 70) (h := ?_)
                  refine one_ (i := 2) (N := some 64) (bsA 12 511) rfl rfl (one_of HT_.out (by kernel_rfl)) (by decide) (fun K hK => ?_)
                  refine Kd.R_append_rows_step k69 (w0 := w) w.heap.size (by rfl) (.tmp 62) (.tmp 63) 44 69 (.agg #[(.string ⟨#[]⟩), (.string ⟨#[]⟩)]) 32 rfl Try.underlying44 info69 rfl (by decide) (by omega) v183 y182 l0 _ _ _ (fun k_ => some k_ ≠ (v189 : Value).ownBlock) (fun _ => False) rfl rfl ?aO ?aR (fun _ _ h => h) (fun _ h => h.elim) ?aF ?aB ?aS ?aL ?_
                  (case aR => exact z6 HR0.out)
                  (case aB => exact bB)
                  (case aF => exact (fun k_ hk => Kd.fresh' (Kd.R_lt (bR HO190)) k_ hk))
                  (case aO => exact z17 HO184.out)
                  (case aS => exact (below_size bB))
                  (case aL => have := LMc30.out; omega)
                  intro v186 w39 ho hb hg hat
                  rw [← Ny185.out] at ho
                  have n0_ := Aside0.mk (Kd.R_after (ok := (fun _ => True)) (bR HO190) hg hat)
                  have n1_ := Aside0.mk (hb)
                  have n2_ := Aside0.mk (ho)
                  clear HO190
                  clear HB
                  clear HO184
                  have HO190 := n0_
                  have HB := n1_
                  have HO187 := n2_
                  clear n0_ n1_ n2_
                  clear ho hb hg hat
                  refine hK.out _ _ trivial (fun hHeld => ?_)
                  clear hK K
                  refine na_ (N := some 64) (h := ?_)
                  exact norm_ z30 (hCont (v183, v186, v189) _ ⟨(bR HO187), (z7 HO190.out), bB⟩)
                ·skip
                 refine Kd.R_lit_step k69 _ 69 ?hg (N := 70) ?hd (xs := ([(⟨a1.extract 0 (x8_2 : Int).toNat, a1.extract ((ji26) : Int).toNat a1.size⟩ : S69)] : List (S69))) (inner := [.string (a1.extract 0 (x8_2 : Int).toNat), .string (a1.extract ((ji26) : Int).toNat a1.size)]) (ok := fun _ => True) (okp := fun _ => True) ?hr ?hp (fun _ hk => hk) trivial (Below.refl _ _) (Nat.le_refl _) (by simp) ?_; (case hd => rfl); (case hg => rfl); (case hr => exact z14); (case hp => exact (Reps.c2 (show Kd.M k69 _ _ _ (⟨a1.extract 0 (x8_2 : Int).toNat, a1.extract ((ji26) : Int).toNat a1.size⟩ : S69) [.string (a1.extract 0 (x8_2 : Int).toNat), .string (a1.extract ((ji26) : Int).toNat a1.size)] from (k69_mkM _ _ _ (⟨a1.extract 0 (x8_2 : Int).toNat, a1.extract ((ji26) : Int).toNat a1.size⟩ : S69) )) (Reps.none _ _)))
                 intro v189 w35 ho36 hb hg_ hnew_
                 clear hg_ hnew_
                 (first | rw [← Ny188.out] at ho36 | (simp only [Int.reduceToNat] at ho36; rw [← Ny188.out] at ho36))
                 have HO190 := Aside0.mk (Kd.R_lower ho36 (below_size bB))
                 replace HB := Aside0.mk (below_step bB hb)
                 clear hb ho36
                 refine hK.out _ _ trivial (fun hHeld => ?_)
                 clear hK K
                 refine na_ (N := some 70) (h := ?_)
                 refine one_ (i := 0) (N := some 62) (bsA 12 507) rfl rfl (one_of HT_.out (by kernel_rfl)) (by decide) (fun K hK => ?_)
                 refine Kd.R_lit_step k69 _ 69 ?hg (N := 62) ?hd (xs := ([] : List (S69))) (inner := []) (ok := fun _ => True) (okp := fun _ => True) ?hr ?hp (fun _ hk => hk) trivial (Below.refl _ _) (Nat.le_refl _) (by simp) ?_; (case hd => rfl); (case hg => rfl); (case hr => exact z14); (case hp => exact (Reps.none _ _))
                 intro v183 w37 ho38 hb hg_ hnew_
                 clear hg_ hnew_
                 (first | rw [← Ny182.out] at ho38 | (simp only [Int.reduceToNat] at ho38; rw [← Ny182.out] at ho38))
                 have HO184 := Aside0.mk (Kd.R_lower (Kd.R_new' ho38 (Kd.R_lt (bR HO190))) (below_size bB))
                 replace HO190 := Aside0.mk (Kd.R_elder' (bR HO190) (Kd.R_base ho38) hb)
                 replace HB := Aside0.mk (below_step bB hb)
                 clear hb ho38
                 refine hK.out _ _ trivial (fun hHeld => ?_)
                 clear hK K
                 refine na_ (N := some 62) (h := ?_)
                 refine one_ (i := 2) (N := some 64) (bsA 12 511) rfl rfl (one_of HT_.out (by kernel_rfl)) (by decide) (fun K hK => ?_)
                 refine Kd.R_append_rows_step k69 (w0 := w) w.heap.size (by rfl) (.tmp 62) (.tmp 63) 44 69 (.agg #[(.string ⟨#[]⟩), (.string ⟨#[]⟩)]) 32 rfl Try.underlying44 info69 rfl (by decide) (by omega) v183 y182 l0 _ _ _ (fun k_ => some k_ ≠ (v189 : Value).ownBlock) (fun _ => False) rfl rfl ?aO ?aR (fun _ _ h => h) (fun _ h => h.elim) ?aF ?aB ?aS ?aL ?_
                 (case aR => exact z6 HR0.out)
                 (case aB => exact bB)
                 (case aF => exact (fun k_ hk => Kd.fresh' (Kd.R_lt (bR HO190)) k_ hk))
                 (case aO => exact z17 HO184.out)
                 (case aS => exact (below_size bB))
                 (case aL => have := LMc30.out; omega)
                 intro v186 w39 ho hb hg hat
                 rw [← Ny185.out] at ho
                 have n0_ := Aside0.mk (Kd.R_after (ok := (fun _ => True)) (bR HO190) hg hat)
                 have n1_ := Aside0.mk (hb)
                 have n2_ := Aside0.mk (ho)
                 clear HO190
                 clear HB
                 clear HO184
                 have HO190 := n0_
                 have HB := n1_
                 have HO187 := n2_
                 clear n0_ n1_ n2_
                 clear ho hb hg hat
                 refine hK.out _ _ trivial (fun hHeld => ?_)
                 clear hK K
                 refine na_ (N := some 64) (h := ?_)
                 exact norm_ z30 (hCont (v183, v186, v189) _ ⟨(bR HO187), (z7 HO190.out), bB⟩)
               rintro ⟨v183, v186, v189⟩ w40 ⟨h0_, h1_, h2_⟩
               have n0_ : Aside0 (Kd.R k69 69 w40 w.heap.size (fun k_ => some k_ ≠ (v189 : Value).ownBlock) v186 y185) := ⟨h0_⟩
               have n1_ : Aside0 (Kd.R k69 69 w40 w.heap.size (fun k_ => some k_ ≠ (v186 : Value).ownBlock) v189 y188) := ⟨h1_⟩
               have n2_ : Aside0 (Below w.heap.size w w40) := ⟨h2_⟩
               clear HB
               clear h0_ h1_ h2_
               have HO187 := n0_
               have HO190 := n1_
               have HB := n2_
               clear n0_ n1_ n2_
               have hHeld := trivial
               obtain ⟨Ao42, co42, eo42⟩ := Kd.R_slice HO190.out
               (first | subst eo42 | (injection eo42 with f1_ f2_ f3_; have f4_ := f1_.symm; have f5_ := f3_.symm; clear f1_ f2_ f3_; subst f4_; subst f5_))
               refine norm_ (a' := ?_) ?_ ?_
               rotate_left
               ·simp only [putAll, Act.put, List.setIfInBounds_toArray, List.set_cons_zero, List.set_cons_succ]
                rfl
               refine one_ (i := 9) (N := some 71) (bsA 12 1023) rfl rfl (one_of HT_.out (by kernel_rfl)) (by decide) (fun K hK => ?_)
               refine Kd.R_append_rows_step k69 (w0 := w) w.heap.size (by rfl) (.tmp 64) (.tmp 70) 44 69 (.agg #[(.string ⟨#[]⟩), (.string ⟨#[]⟩)]) 32 rfl Try.underlying44 info69 rfl (by decide) (by omega) v186 y185 y188 _ _ _ (fun k_ => some k_ ≠ (.slice Ao42 y188.length co42 : Value).ownBlock) (fun _ => False) rfl rfl ?aO ?aR (fun _ _ h => h) (fun _ h => h.elim) ?aF ?aB ?aS ?aL ?_
               (case aR => exact z5 HO190.out)
               (case aB => exact bB)
               (case aF => exact (fun k_ hk => Kd.fresh' (Kd.R_lt (bR HO190)) k_ hk))
               (case aO => exact (bR HO187))
               (case aS => exact (below_size bB))
               (case aL => have := LMc33.out; omega)
               intro v192 w41 ho hb hg hat
               rw [← Ny191.out] at ho
               have n0_ := Aside0.mk (Kd.R_after (ok := (fun _ => True)) (z32 HO190.out) hg hat)
               have n1_ := Aside0.mk (hb)
               have n2_ := Aside0.mk (ho)
               clear HO190
               clear HB
               clear HO187
               have HO190 := n0_
               have HB := n1_
               have HO193 := n2_
               clear n0_ n1_ n2_
               clear ho hb hg hat
               refine hK.out _ _ trivial (fun hHeld => ?_)
               clear hK K
               refine na_ (N := some 71) (h := ?_)
               refine pa_ (i := 10) (N := some 4) (bsA 12 2047) (h := ?_)
               refine pa_ (i := 11) (N := some 5) (bsA 12 4095) (h := ?_)
               refine done_ (done_of HT_.out (by kernel_rfl)) ?_
               try go_wp2
               go_ret2
               exact ⟨_, z40, z15 HO193.out, bB⟩
              ·rw [if_neg c33] at H
               exact absurd H (by simp)
             ·rw [if_neg c32] at H
              exact absurd H (by simp)
            ·rw [if_neg c30] at H
             exact absurd H (by simp)
           ·rw [if_neg c29] at H
            have c29b0 : ((a1.extract ((ji26) : Int).toNat a1.size).toList == ([] : List UInt8)) = false := beq_eq_false_iff_ne.mpr c29
            have c29b1 : ((a1.extract ((ji26) : Int).toNat a1.size).toList != ([] : List UInt8)) = true := bne_iff_ne.mpr c29
            (try simp only [c29b0, c29b1])
            by_cases c43 : 0 < ((a1.extract ((ji26) : Int).toNat a1.size).size : Int)
            ·rw [if_pos c43] at H
             have c43b0 : decide (0 < ((a1.extract ((ji26) : Int).toNat a1.size).size : Int)) = true := decide_eq_true c43
             (try (have c43e : ((ji26) : Int).toNat < a1.size := by have h_ := c43; rw [ByteArray.size_extract] at h_; omega))
             (try (have c43e1 : decide (((ji26) : Int).toNat < a1.size) = true := decide_eq_true (by omega)))
             (try (have c43e2 : decide (0 < a1.size - ((ji26) : Int).toNat) = true := decide_eq_true (by omega)))
             (try (have c43e3 : decide ((0 : Int) < ((a1.size - ((ji26) : Int).toNat : Nat) : Int)) = true := decide_eq_true (by omega)))
             (try (have c43e4 : decide (1 ≤ a1.size - ((ji26) : Int).toNat) = true := decide_eq_true (by omega)))
             (try (have c43e5 : decide ((1 : Int) ≤ ((a1.size - ((ji26) : Int).toNat : Nat) : Int)) = true := decide_eq_true (by omega)))
             (try (have c43e6 : decide ((ji26) < (a1.size : Int)) = true := decide_eq_true (by omega)))
             have c43b1 : decide (0 < (a1.extract ((ji26) : Int).toNat a1.size).size) = true := decide_eq_true (by omega)
             clear c43
             have HQ_ := Aside0.mk H
             clear H
             have p44 : 0 ≤ (0 : Int) := (by omega)
             have q44 : 0 < (a1.extract ((ji26) : Int).toNat a1.size).size := (by have : (0 : Int) < ((a1.extract ((ji26) : Int).toNat a1.size).size : Int) := pI; omega)
             have hx44 : ∀ h : 0 < (a1.extract ((ji26) : Int).toNat a1.size).size, (((a1.extract ((ji26) : Int).toNat a1.size)[0]'h).toNat : Int) = bt (a1.extract ((ji26) : Int).toNat a1.size) 0 := bt_at (a1.extract ((ji26) : Int).toNat a1.size) 0
             clear p44
             have qi44 : (0 < ((a1.extract ((ji26) : Int).toNat a1.size).size : Int)) = True := eq_true (pI)
             replace q44 := eq_true q44
             have H := HQ_.out
             clear HQ_
             by_cases c45 : (bt (a1.extract ((ji26) : Int).toNat a1.size) 0) = 32
             ·rw [if_pos c45] at H
              have c45b0 : ((bt (a1.extract ((ji26) : Int).toNat a1.size) 0) == 32) = true := beq_iff_eq.mpr c45
              have c45b1 : ((bt (a1.extract ((ji26) : Int).toNat a1.size) 0) != 32) = false := bne_eq_false_iff_eq.mpr c45
              clear c45
              (try simp only [c45b0, c45b1])
              by_cases c46 : 1 ≤ ((a1.extract ((ji26) : Int).toNat a1.size).size : Int)
              ·rw [if_pos c46] at H
               have c46b0 := eq_true c46
               have c46b1 : decide (1 ≤ ((a1.extract ((ji26) : Int).toNat a1.size).size : Int)) = true := decide_eq_true c46
               (try (have c46e : ((ji26) : Int).toNat < a1.size := by have h_ := c46; rw [ByteArray.size_extract] at h_; omega))
               (try (have c46e1 : decide (((ji26) : Int).toNat < a1.size) = true := decide_eq_true (by omega)))
               (try (have c46e2 : decide (0 < a1.size - ((ji26) : Int).toNat) = true := decide_eq_true (by omega)))
               (try (have c46e3 : decide ((0 : Int) < ((a1.size - ((ji26) : Int).toNat : Nat) : Int)) = true := decide_eq_true (by omega)))
               (try (have c46e4 : decide (1 ≤ a1.size - ((ji26) : Int).toNat) = true := decide_eq_true (by omega)))
               (try (have c46e5 : decide ((1 : Int) ≤ ((a1.size - ((ji26) : Int).toNat : Nat) : Int)) = true := decide_eq_true (by omega)))
               (try (have c46e6 : decide ((ji26) < (a1.size : Int)) = true := decide_eq_true (by omega)))
               clear c46
               obtain ⟨y194, hy194⟩ : ∃ y_ : List (S69), y_ = (([] : List (S69))) := ⟨_, rfl⟩
               replace H : (if y194.length + l0.length < 4398046511104 then ((some (y194 ++ l0 : List (S69))).bind fun y197 => (if x8_2 ≤ (a1.size : Int) then ((some (([(⟨a1.extract 0 (x8_2 : Int).toNat, (a1.extract ((ji26) : Int).toNat a1.size).extract 1 (a1.extract ((ji26) : Int).toNat a1.size).size⟩ : S69)] : List (S69)) : List (S69))).bind fun y200 => (if y197.length + y200.length < 4398046511104 then (some ((y197 ++ y200), true)) else (none))) else (none))) else (none)) = some (r1, r2) := z3 hy194
               have Ny194 := Aside0.mk hy194
               clear hy194
               by_cases c47 : y194.length + l0.length < 4398046511104
               ·rw [if_pos c47] at H
                have LMc47 := Aside0.mk c47
                clear c47
                obtain ⟨y197, hy197⟩ : ∃ y_ : List (S69), y_ = (y194 ++ l0) := ⟨_, rfl⟩
                replace H : (if x8_2 ≤ (a1.size : Int) then ((some (([(⟨a1.extract 0 (x8_2 : Int).toNat, (a1.extract ((ji26) : Int).toNat a1.size).extract 1 (a1.extract ((ji26) : Int).toNat a1.size).size⟩ : S69)] : List (S69)) : List (S69))).bind fun y200 => (if y197.length + y200.length < 4398046511104 then (some ((y197 ++ y200), true)) else (none))) else (none)) = some (r1, r2) := z3 hy197
                have Ny197 := Aside0.mk hy197
                clear hy197
                have c48b0 := eq_true (pI : 0 ≤ x8_2)
                by_cases c49 : x8_2 ≤ (a1.size : Int)
                ·rw [if_pos c49] at H
                 have c49b0 := eq_true c49
                 have c49b1 : decide (x8_2 ≤ (a1.size : Int)) = true := decide_eq_true c49
                 clear c49
                 obtain ⟨y200, hy200⟩ : ∃ y_ : List (S69), y_ = (([(⟨a1.extract 0 (x8_2 : Int).toNat, (a1.extract ((ji26) : Int).toNat a1.size).extract 1 (a1.extract ((ji26) : Int).toNat a1.size).size⟩ : S69)] : List (S69))) := ⟨_, rfl⟩
                 replace H : (if y197.length + y200.length < 4398046511104 then (some ((y197 ++ y200), true)) else (none)) = some (r1, r2) := z3 hy200
                 have Ny200 := Aside0.mk hy200
                 clear hy200
                 by_cases c50 : y197.length + y200.length < 4398046511104
                 ·rw [if_pos c50] at H
                  have LMc50 := Aside0.mk c50
                  clear c50
                  obtain ⟨y203, hy203⟩ : ∃ y_ : List (S69), y_ = (y197 ++ y200) := ⟨_, rfl⟩
                  replace H : (some (y203, true)) = some (r1, r2) := z3 hy203
                  have Ny203 := Aside0.mk hy203
                  clear hy203
                  simp only [Option.some.injEq, Prod.mk.injEq] at H
                  obtain ⟨rfl, rfl⟩ := H
                  try go_wp2
                  replace HB := Aside0.mk (below_drew1 HB.out)
                  refine start_ (n := 12) (S := fun w' => True) (ds := []) (bsA 12 0) (by kernel_rfl) rfl rfl trivial (fun hHeld => ?_); refine with_tabW spec_l4Line.tab15 spec_l4Line.bits15 (fun HT_ HW_ => ?_)
                  generalize wr.drew = w51 at HB hHeld ⊢
                  refine pa_ (i := 1) (N := some 63) (bsA 12 2) (h := ?_)
                  refine pa_ (i := 3) (N := some 65) (bsA 12 10) (h := ?_)
                  refine pa_ (i := 4) (N := some 66) (bsA 12 26) (h := ?_)
                  refine pa_ (i := 5) (N := some 67) (bsA 12 58) (h := ?_)
                  refine pa_ (i := 6) (N := some 68) (bsA 12 122) (h := ?_)
                  refine pa_ (i := 7) (N := some 69) (bsA 12 250) (h := ?_)
                  refine join_ (σ := Value × Value × Value) 3 (bsA 12 511) (fun s_ => [(62, s_.1), (64, s_.2.1), (70, s_.2.2)]) (fun s_ w' => (Kd.R k69 69 w' w.heap.size (fun k_ => some k_ ≠ (s_.2.2 : Value).ownBlock) s_.2.1 y197) ∧ (Kd.R k69 69 w' w.heap.size (fun k_ => some k_ ≠ (s_.2.1 : Value).ownBlock) s_.2.2 y200) ∧ (Below w.heap.size w w')) ?_ ?_
                  rotate_left
                  ·intro hCont
                   refine two_ (i := 0) (j := 8) (Ni := some 62) (Nj := some 70) (bsA 12 251) (bsA 12 506) rfl rfl rfl rfl (two_of HT_.out (by kernel_rfl)) (by decide) (by decide) (fun K hK => ?_) (fun K hK => ?_)
                   ·skip
                    refine Kd.R_lit_step k69 _ 69 ?hg (N := 62) ?hd (xs := ([] : List (S69))) (inner := []) (ok := fun _ => True) (okp := fun _ => True) ?hr ?hp (fun _ hk => hk) trivial (Below.refl _ _) (Nat.le_refl _) (by simp) ?_; (case hd => rfl); (case hg => rfl); (case hr => exact z14); (case hp => exact (Reps.none _ _))
                    intro v195 w52 ho53 hb hg_ hnew_
                    clear hg_ hnew_
                    (first | rw [← Ny194.out] at ho53 | (simp only [Int.reduceToNat] at ho53; rw [← Ny194.out] at ho53))
                    have HO196 := Aside0.mk (Kd.R_lower ho53 (below_size bB))
                    replace HB := Aside0.mk (below_step bB hb)
                    clear hb ho53
                    refine hK.out _ _ trivial (fun hHeld => ?_)
                    clear hK K
                    refine na_ (N := some 62) (h := ?_)
                    refine two_ (i := 2) (j := 8) (Ni := some 64) (Nj := some 70) (bsA 12 255) (bsA 12 507) rfl rfl rfl rfl (two_of HT_.out (by kernel_rfl)) (by decide) (by decide) (fun K hK => ?_) (fun K hK => ?_)
                    ·skip
                     refine Kd.R_append_rows_step k69 (w0 := w) w.heap.size (by rfl) (.tmp 62) (.tmp 63) 44 69 (.agg #[(.string ⟨#[]⟩), (.string ⟨#[]⟩)]) 32 rfl Try.underlying44 info69 rfl (by decide) (by omega) v195 y194 l0 _ _ _ (fun _ => True) (fun _ => False) rfl rfl ?aO ?aR (fun _ _ h => h) (fun _ h => h.elim) ?aF ?aB ?aS ?aL ?_
                     (case aR => exact z6 HR0.out)
                     (case aB => exact bB)
                     (case aF => exact (fun _ _ => trivial))
                     (case aO => exact (bR HO196))
                     (case aS => exact (below_size bB))
                     (case aL => have := LMc47.out; omega)
                     intro v198 w54 ho hb hg hat
                     rw [← Ny197.out] at ho
                     have n0_ := Aside0.mk (hb)
                     have n1_ := Aside0.mk (ho)
                     clear HB
                     clear HO196
                     have HB := n0_
                     have HO199 := n1_
                     clear n0_ n1_
                     clear ho hb hg hat
                     refine hK.out _ _ trivial (fun hHeld => ?_)
                     clear hK K
                     refine na_ (N := some 64) (h := ?_)
                     refine one_ (i := 8) (N := some 70) (bsA 12 511) rfl rfl (one_of HT_.out (by kernel_rfl)) (by decide) (fun K hK => ?_)
                     refine Kd.R_lit_step k69 _ 69 ?hg (N := 70) ?hd (xs := ([(⟨a1.extract 0 (x8_2 : Int).toNat, (a1.extract ((ji26) : Int).toNat a1.size).extract 1 (a1.extract ((ji26) : Int).toNat a1.size).size⟩ : S69)] : List (S69))) (inner := [.string (a1.extract 0 (x8_2 : Int).toNat), .string ((a1.extract ((ji26) : Int).toNat a1.size).extract 1 (a1.extract ((ji26) : Int).toNat a1.size).size)]) (ok := fun _ => True) (okp := fun _ => True) ?hr ?hp (fun _ hk => hk) trivial (Below.refl _ _) (Nat.le_refl _) (by simp) ?_; (case hd => rfl); (case hg => rfl); (case hr => exact z14); (case hp => exact (Reps.c2 (show Kd.M k69 _ _ _ (⟨a1.extract 0 (x8_2 : Int).toNat, (a1.extract ((ji26) : Int).toNat a1.size).extract 1 (a1.extract ((ji26) : Int).toNat a1.size).size⟩ : S69) [.string (a1.extract 0 (x8_2 : Int).toNat), .string ((a1.extract ((ji26) : Int).toNat a1.size).extract 1 (a1.extract ((ji26) : Int).toNat a1.size).size)] from (k69_mkM _ _ _ (⟨a1.extract 0 (x8_2 : Int).toNat, (a1.extract ((ji26) : Int).toNat a1.size).extract 1 (a1.extract ((ji26) : Int).toNat a1.size).size⟩ : S69) )) (Reps.none _ _)))
                     intro v201 w55 ho56 hb hg_ hnew_
                     clear hg_ hnew_
                     (first | rw [← Ny200.out] at ho56 | (simp only [Int.reduceToNat] at ho56; rw [← Ny200.out] at ho56))
                     have HO202 := Aside0.mk (Kd.R_lower (Kd.R_new' ho56 (Kd.R_lt (bR HO199))) (below_size bB))
                     replace HO199 := Aside0.mk (Kd.R_elder' (bR HO199) (Kd.R_base ho56) hb)
                     replace HB := Aside0.mk (below_step bB hb)
                     clear hb ho56
                     refine hK.out _ _ trivial (fun hHeld => ?_)
                     clear hK K
                     refine na_ (N := some 70) (h := ?_)
                     exact norm_ z30 (hCont (v195, v198, v201) _ ⟨(z7 HO199.out), (z7 HO202.out), bB⟩)
                    ·skip
                     refine Kd.R_lit_step k69 _ 69 ?hg (N := 70) ?hd (xs := ([(⟨a1.extract 0 (x8_2 : Int).toNat, (a1.extract ((ji26) : Int).toNat a1.size).extract 1 (a1.extract ((ji26) : Int).toNat a1.size).size⟩ : S69)] : List (S69))) (inner := [.string (a1.extract 0 (x8_2 : Int).toNat), .string ((a1.extract ((ji26) : Int).toNat a1.size).extract 1 (a1.extract ((ji26) : Int).toNat a1.size).size)]) (ok := fun _ => True) (okp := fun _ => True) ?hr ?hp (fun _ hk => hk) trivial (Below.refl _ _) (Nat.le_refl _) (by simp) ?_; (case hd => rfl); (case hg => rfl); (case hr => exact z14); (case hp => exact (Reps.c2 (show Kd.M k69 _ _ _ (⟨a1.extract 0 (x8_2 : Int).toNat, (a1.extract ((ji26) : Int).toNat a1.size).extract 1 (a1.extract ((ji26) : Int).toNat a1.size).size⟩ : S69) [.string (a1.extract 0 (x8_2 : Int).toNat), .string ((a1.extract ((ji26) : Int).toNat a1.size).extract 1 (a1.extract ((ji26) : Int).toNat a1.size).size)] from (k69_mkM _ _ _ (⟨a1.extract 0 (x8_2 : Int).toNat, (a1.extract ((ji26) : Int).toNat a1.size).extract 1 (a1.extract ((ji26) : Int).toNat a1.size).size⟩ : S69) )) (Reps.none _ _)))
                     intro v201 w54 ho55 hb hg_ hnew_
                     clear hg_ hnew_
                     (first | rw [← Ny200.out] at ho55 | (simp only [Int.reduceToNat] at ho55; rw [← Ny200.out] at ho55))
                     have HO202 := Aside0.mk (Kd.R_lower (Kd.R_new' ho55 (Kd.R_lt (bR HO196))) (below_size bB))
                     replace HO196 := Aside0.mk (Kd.R_elder' (bR HO196) (Kd.R_base ho55) hb)
                     replace HB := Aside0.mk (below_step bB hb)
                     clear hb ho55
                     refine hK.out _ _ trivial (fun hHeld => ?_)
                     clear hK K
                     refine na_ (N := some 70) (h := ?_)
                     refine one_ (i := 2) (N := some 64) (bsA 12 511) rfl rfl (one_of HT_.out (by kernel_rfl)) (by decide) (fun K hK => ?_)
                     refine Kd.R_append_rows_step k69 (w0 := w) w.heap.size (by rfl) (.tmp 62) (.tmp 63) 44 69 (.agg #[(.string ⟨#[]⟩), (.string ⟨#[]⟩)]) 32 rfl Try.underlying44 info69 rfl (by decide) (by omega) v195 y194 l0 _ _ _ (fun k_ => some k_ ≠ (v201 : Value).ownBlock) (fun _ => False) rfl rfl ?aO ?aR (fun _ _ h => h) (fun _ h => h.elim) ?aF ?aB ?aS ?aL ?_
                     (case aR => exact z6 HR0.out)
                     (case aB => exact bB)
                     (case aF => exact (fun k_ hk => Kd.fresh' (Kd.R_lt (bR HO202)) k_ hk))
                     (case aO => exact z17 HO196.out)
                     (case aS => exact (below_size bB))
                     (case aL => have := LMc47.out; omega)
                     intro v198 w56 ho hb hg hat
                     rw [← Ny197.out] at ho
                     have n0_ := Aside0.mk (Kd.R_after (ok := (fun _ => True)) (bR HO202) hg hat)
                     have n1_ := Aside0.mk (hb)
                     have n2_ := Aside0.mk (ho)
                     clear HO202
                     clear HB
                     clear HO196
                     have HO202 := n0_
                     have HB := n1_
                     have HO199 := n2_
                     clear n0_ n1_ n2_
                     clear ho hb hg hat
                     refine hK.out _ _ trivial (fun hHeld => ?_)
                     clear hK K
                     refine na_ (N := some 64) (h := ?_)
                     exact norm_ z30 (hCont (v195, v198, v201) _ ⟨(bR HO199), (z7 HO202.out), bB⟩)
                   ·skip
                    refine Kd.R_lit_step k69 _ 69 ?hg (N := 70) ?hd (xs := ([(⟨a1.extract 0 (x8_2 : Int).toNat, (a1.extract ((ji26) : Int).toNat a1.size).extract 1 (a1.extract ((ji26) : Int).toNat a1.size).size⟩ : S69)] : List (S69))) (inner := [.string (a1.extract 0 (x8_2 : Int).toNat), .string ((a1.extract ((ji26) : Int).toNat a1.size).extract 1 (a1.extract ((ji26) : Int).toNat a1.size).size)]) (ok := fun _ => True) (okp := fun _ => True) ?hr ?hp (fun _ hk => hk) trivial (Below.refl _ _) (Nat.le_refl _) (by simp) ?_; (case hd => rfl); (case hg => rfl); (case hr => exact z14); (case hp => exact (Reps.c2 (show Kd.M k69 _ _ _ (⟨a1.extract 0 (x8_2 : Int).toNat, (a1.extract ((ji26) : Int).toNat a1.size).extract 1 (a1.extract ((ji26) : Int).toNat a1.size).size⟩ : S69) [.string (a1.extract 0 (x8_2 : Int).toNat), .string ((a1.extract ((ji26) : Int).toNat a1.size).extract 1 (a1.extract ((ji26) : Int).toNat a1.size).size)] from (k69_mkM _ _ _ (⟨a1.extract 0 (x8_2 : Int).toNat, (a1.extract ((ji26) : Int).toNat a1.size).extract 1 (a1.extract ((ji26) : Int).toNat a1.size).size⟩ : S69) )) (Reps.none _ _)))
                    intro v201 w52 ho53 hb hg_ hnew_
                    clear hg_ hnew_
                    (first | rw [← Ny200.out] at ho53 | (simp only [Int.reduceToNat] at ho53; rw [← Ny200.out] at ho53))
                    have HO202 := Aside0.mk (Kd.R_lower ho53 (below_size bB))
                    replace HB := Aside0.mk (below_step bB hb)
                    clear hb ho53
                    refine hK.out _ _ trivial (fun hHeld => ?_)
                    clear hK K
                    refine na_ (N := some 70) (h := ?_)
                    refine one_ (i := 0) (N := some 62) (bsA 12 507) rfl rfl (one_of HT_.out (by kernel_rfl)) (by decide) (fun K hK => ?_)
                    refine Kd.R_lit_step k69 _ 69 ?hg (N := 62) ?hd (xs := ([] : List (S69))) (inner := []) (ok := fun _ => True) (okp := fun _ => True) ?hr ?hp (fun _ hk => hk) trivial (Below.refl _ _) (Nat.le_refl _) (by simp) ?_; (case hd => rfl); (case hg => rfl); (case hr => exact z14); (case hp => exact (Reps.none _ _))
                    intro v195 w54 ho55 hb hg_ hnew_
                    clear hg_ hnew_
                    (first | rw [← Ny194.out] at ho55 | (simp only [Int.reduceToNat] at ho55; rw [← Ny194.out] at ho55))
                    have HO196 := Aside0.mk (Kd.R_lower (Kd.R_new' ho55 (Kd.R_lt (bR HO202))) (below_size bB))
                    replace HO202 := Aside0.mk (Kd.R_elder' (bR HO202) (Kd.R_base ho55) hb)
                    replace HB := Aside0.mk (below_step bB hb)
                    clear hb ho55
                    refine hK.out _ _ trivial (fun hHeld => ?_)
                    clear hK K
                    refine na_ (N := some 62) (h := ?_)
                    refine one_ (i := 2) (N := some 64) (bsA 12 511) rfl rfl (one_of HT_.out (by kernel_rfl)) (by decide) (fun K hK => ?_)
                    refine Kd.R_append_rows_step k69 (w0 := w) w.heap.size (by rfl) (.tmp 62) (.tmp 63) 44 69 (.agg #[(.string ⟨#[]⟩), (.string ⟨#[]⟩)]) 32 rfl Try.underlying44 info69 rfl (by decide) (by omega) v195 y194 l0 _ _ _ (fun k_ => some k_ ≠ (v201 : Value).ownBlock) (fun _ => False) rfl rfl ?aO ?aR (fun _ _ h => h) (fun _ h => h.elim) ?aF ?aB ?aS ?aL ?_
                    (case aR => exact z6 HR0.out)
                    (case aB => exact bB)
                    (case aF => exact (fun k_ hk => Kd.fresh' (Kd.R_lt (bR HO202)) k_ hk))
                    (case aO => exact z17 HO196.out)
                    (case aS => exact (below_size bB))
                    (case aL => have := LMc47.out; omega)
                    intro v198 w56 ho hb hg hat
                    rw [← Ny197.out] at ho
                    have n0_ := Aside0.mk (Kd.R_after (ok := (fun _ => True)) (bR HO202) hg hat)
                    have n1_ := Aside0.mk (hb)
                    have n2_ := Aside0.mk (ho)
                    clear HO202
                    clear HB
                    clear HO196
                    have HO202 := n0_
                    have HB := n1_
                    have HO199 := n2_
                    clear n0_ n1_ n2_
                    clear ho hb hg hat
                    refine hK.out _ _ trivial (fun hHeld => ?_)
                    clear hK K
                    refine na_ (N := some 64) (h := ?_)
                    exact norm_ z30 (hCont (v195, v198, v201) _ ⟨(bR HO199), (z7 HO202.out), bB⟩)
                  rintro ⟨v195, v198, v201⟩ w57 ⟨h0_, h1_, h2_⟩
                  have n0_ : Aside0 (Kd.R k69 69 w57 w.heap.size (fun k_ => some k_ ≠ (v201 : Value).ownBlock) v198 y197) := ⟨h0_⟩
                  have n1_ : Aside0 (Kd.R k69 69 w57 w.heap.size (fun k_ => some k_ ≠ (v198 : Value).ownBlock) v201 y200) := ⟨h1_⟩
                  have n2_ : Aside0 (Below w.heap.size w w57) := ⟨h2_⟩
                  clear HB
                  clear h0_ h1_ h2_
                  have HO199 := n0_
                  have HO202 := n1_
                  have HB := n2_
                  clear n0_ n1_ n2_
                  have hHeld := trivial
                  obtain ⟨Ao59, co59, eo59⟩ := Kd.R_slice HO202.out
                  (first | subst eo59 | (injection eo59 with f1_ f2_ f3_; have f4_ := f1_.symm; have f5_ := f3_.symm; clear f1_ f2_ f3_; subst f4_; subst f5_))
                  refine norm_ (a' := ?_) ?_ ?_
                  rotate_left
                  ·simp only [putAll, Act.put, List.setIfInBounds_toArray, List.set_cons_zero, List.set_cons_succ]
                   rfl
                  refine one_ (i := 9) (N := some 71) (bsA 12 1023) rfl rfl (one_of HT_.out (by kernel_rfl)) (by decide) (fun K hK => ?_)
                  refine Kd.R_append_rows_step k69 (w0 := w) w.heap.size (by rfl) (.tmp 64) (.tmp 70) 44 69 (.agg #[(.string ⟨#[]⟩), (.string ⟨#[]⟩)]) 32 rfl Try.underlying44 info69 rfl (by decide) (by omega) v198 y197 y200 _ _ _ (fun k_ => some k_ ≠ (.slice Ao59 y200.length co59 : Value).ownBlock) (fun _ => False) rfl rfl ?aO ?aR (fun _ _ h => h) (fun _ h => h.elim) ?aF ?aB ?aS ?aL ?_
                  (case aR => exact z5 HO202.out)
                  (case aB => exact bB)
                  (case aF => exact (fun k_ hk => Kd.fresh' (Kd.R_lt (bR HO202)) k_ hk))
                  (case aO => exact (bR HO199))
                  (case aS => exact (below_size bB))
                  (case aL => have := LMc50.out; omega)
                  intro v204 w58 ho hb hg hat
                  rw [← Ny203.out] at ho
                  have n0_ := Aside0.mk (Kd.R_after (ok := (fun _ => True)) (z32 HO202.out) hg hat)
                  have n1_ := Aside0.mk (hb)
                  have n2_ := Aside0.mk (ho)
                  clear HO202
                  clear HB
                  clear HO199
                  have HO202 := n0_
                  have HB := n1_
                  have HO205 := n2_
                  clear n0_ n1_ n2_
                  clear ho hb hg hat
                  refine hK.out _ _ trivial (fun hHeld => ?_)
                  clear hK K
                  refine na_ (N := some 71) (h := ?_)
                  refine pa_ (i := 10) (N := some 4) (bsA 12 2047) (h := ?_)
                  refine pa_ (i := 11) (N := some 5) (bsA 12 4095) (h := ?_)
                  refine done_ (done_of HT_.out (by kernel_rfl)) ?_
                  try go_wp2
                  go_ret2
                  exact ⟨_, z40, z15 HO205.out, bB⟩
                 ·rw [if_neg c50] at H
                  exact absurd H (by simp)
                ·rw [if_neg c49] at H
                 exact absurd H (by simp)
               ·rw [if_neg c47] at H
                exact absurd H (by simp)
              ·rw [if_neg c46] at H
               exact absurd H (by simp)
             ·rw [if_neg c45] at H
              have c45b0 : ((bt (a1.extract ((ji26) : Int).toNat a1.size) 0) == 32) = false := beq_eq_false_iff_ne.mpr c45
              have c45b1 : ((bt (a1.extract ((ji26) : Int).toNat a1.size) 0) != 32) = true := bne_iff_ne.mpr c45
              obtain ⟨y206, hy206⟩ : ∃ y_ : List (S69), y_ = (([] : List (S69))) := ⟨_, rfl⟩
              replace H : (if y206.length + l0.length < 4398046511104 then ((some (y206 ++ l0 : List (S69))).bind fun y209 => (if x8_2 ≤ (a1.size : Int) then ((some (([(⟨a1.extract 0 (x8_2 : Int).toNat, a1.extract ((ji26) : Int).toNat a1.size⟩ : S69)] : List (S69)) : List (S69))).bind fun y212 => (if y209.length + y212.length < 4398046511104 then (some ((y209 ++ y212), true)) else (none))) else (none))) else (none)) = some (r1, r2) := z3 hy206
              have Ny206 := Aside0.mk hy206
              clear hy206
              (try simp only [c45b0, c45b1])
              by_cases c60 : y206.length + l0.length < 4398046511104
              ·rw [if_pos c60] at H
               have LMc60 := Aside0.mk c60
               clear c60
               obtain ⟨y209, hy209⟩ : ∃ y_ : List (S69), y_ = (y206 ++ l0) := ⟨_, rfl⟩
               replace H : (if x8_2 ≤ (a1.size : Int) then ((some (([(⟨a1.extract 0 (x8_2 : Int).toNat, a1.extract ((ji26) : Int).toNat a1.size⟩ : S69)] : List (S69)) : List (S69))).bind fun y212 => (if y209.length + y212.length < 4398046511104 then (some ((y209 ++ y212), true)) else (none))) else (none)) = some (r1, r2) := z3 hy209
               have Ny209 := Aside0.mk hy209
               clear hy209
               have c61b0 := eq_true (pI : 0 ≤ x8_2)
               by_cases c62 : x8_2 ≤ (a1.size : Int)
               ·rw [if_pos c62] at H
                have c62b0 := eq_true c62
                have c62b1 : decide (x8_2 ≤ (a1.size : Int)) = true := decide_eq_true c62
                clear c62
                obtain ⟨y212, hy212⟩ : ∃ y_ : List (S69), y_ = (([(⟨a1.extract 0 (x8_2 : Int).toNat, a1.extract ((ji26) : Int).toNat a1.size⟩ : S69)] : List (S69))) := ⟨_, rfl⟩
                replace H : (if y209.length + y212.length < 4398046511104 then (some ((y209 ++ y212), true)) else (none)) = some (r1, r2) := z3 hy212
                have Ny212 := Aside0.mk hy212
                clear hy212
                by_cases c63 : y209.length + y212.length < 4398046511104
                ·rw [if_pos c63] at H
                 have LMc63 := Aside0.mk c63
                 clear c63
                 obtain ⟨y215, hy215⟩ : ∃ y_ : List (S69), y_ = (y209 ++ y212) := ⟨_, rfl⟩
                 replace H : (some (y215, true)) = some (r1, r2) := z3 hy215
                 have Ny215 := Aside0.mk hy215
                 clear hy215
                 simp only [Option.some.injEq, Prod.mk.injEq] at H
                 obtain ⟨rfl, rfl⟩ := H
                 try go_wp2
                 replace HB := Aside0.mk (below_drew1 HB.out)
                 refine start_ (n := 12) (S := fun w' => True) (ds := []) (bsA 12 0) (by kernel_rfl) rfl rfl trivial (fun hHeld => ?_); refine with_tabW spec_l4Line.tab15 spec_l4Line.bits15 (fun HT_ HW_ => ?_)
                 generalize wr.drew = w64 at HB hHeld ⊢
                 refine pa_ (i := 1) (N := some 63) (bsA 12 2) (h := ?_)
                 refine pa_ (i := 3) (N := some 65) (bsA 12 10) (h := ?_)
                 refine pa_ (i := 4) (N := some 66) (bsA 12 26) (h := ?_)
                 refine pa_ (i := 5) (N := some 67) (bsA 12 58) (h := ?_)
                 refine pa_ (i := 6) (N := some 68) (bsA 12 122) (h := ?_)
                 refine pa_ (i := 7) (N := some 69) (bsA 12 250) (h := ?_)
                 refine join_ (σ := Value × Value × Value) 3 (bsA 12 511) (fun s_ => [(62, s_.1), (64, s_.2.1), (70, s_.2.2)]) (fun s_ w' => (Kd.R k69 69 w' w.heap.size (fun k_ => some k_ ≠ (s_.2.2 : Value).ownBlock) s_.2.1 y209) ∧ (Kd.R k69 69 w' w.heap.size (fun k_ => some k_ ≠ (s_.2.1 : Value).ownBlock) s_.2.2 y212) ∧ (Below w.heap.size w w')) ?_ ?_
                 rotate_left
                 ·intro hCont
                  refine two_ (i := 0) (j := 8) (Ni := some 62) (Nj := some 70) (bsA 12 251) (bsA 12 506) rfl rfl rfl rfl (two_of HT_.out (by kernel_rfl)) (by decide) (by decide) (fun K hK => ?_) (fun K hK => ?_)
                  ·skip
                   refine Kd.R_lit_step k69 _ 69 ?hg (N := 62) ?hd (xs := ([] : List (S69))) (inner := []) (ok := fun _ => True) (okp := fun _ => True) ?hr ?hp (fun _ hk => hk) trivial (Below.refl _ _) (Nat.le_refl _) (by simp) ?_; (case hd => rfl); (case hg => rfl); (case hr => exact z14); (case hp => exact (Reps.none _ _))
                   intro v207 w65 ho66 hb hg_ hnew_
                   clear hg_ hnew_
                   (first | rw [← Ny206.out] at ho66 | (simp only [Int.reduceToNat] at ho66; rw [← Ny206.out] at ho66))
                   have HO208 := Aside0.mk (Kd.R_lower ho66 (below_size bB))
                   replace HB := Aside0.mk (below_step bB hb)
                   clear hb ho66
                   refine hK.out _ _ trivial (fun hHeld => ?_)
                   clear hK K
                   refine na_ (N := some 62) (h := ?_)
                   refine two_ (i := 2) (j := 8) (Ni := some 64) (Nj := some 70) (bsA 12 255) (bsA 12 507) rfl rfl rfl rfl (two_of HT_.out (by kernel_rfl)) (by decide) (by decide) (fun K hK => ?_) (fun K hK => ?_)
                   ·skip
                    refine Kd.R_append_rows_step k69 (w0 := w) w.heap.size (by rfl) (.tmp 62) (.tmp 63) 44 69 (.agg #[(.string ⟨#[]⟩), (.string ⟨#[]⟩)]) 32 rfl Try.underlying44 info69 rfl (by decide) (by omega) v207 y206 l0 _ _ _ (fun _ => True) (fun _ => False) rfl rfl ?aO ?aR (fun _ _ h => h) (fun _ h => h.elim) ?aF ?aB ?aS ?aL ?_
                    (case aR => exact z6 HR0.out)
                    (case aB => exact bB)
                    (case aF => exact (fun _ _ => trivial))
                    (case aO => exact (bR HO208))
                    (case aS => exact (below_size bB))
                    (case aL => have := LMc60.out; omega)
                    intro v210 w67 ho hb hg hat
                    rw [← Ny209.out] at ho
                    have n0_ := Aside0.mk (hb)
                    have n1_ := Aside0.mk (ho)
                    clear HB
                    clear HO208
                    have HB := n0_
                    have HO211 := n1_
                    clear n0_ n1_
                    clear ho hb hg hat
                    refine hK.out _ _ trivial (fun hHeld => ?_)
                    clear hK K
                    refine na_ (N := some 64) (h := ?_)
                    refine one_ (i := 8) (N := some 70) (bsA 12 511) rfl rfl (one_of HT_.out (by kernel_rfl)) (by decide) (fun K hK => ?_)
                    refine Kd.R_lit_step k69 _ 69 ?hg (N := 70) ?hd (xs := ([(⟨a1.extract 0 (x8_2 : Int).toNat, a1.extract ((ji26) : Int).toNat a1.size⟩ : S69)] : List (S69))) (inner := [.string (a1.extract 0 (x8_2 : Int).toNat), .string (a1.extract ((ji26) : Int).toNat a1.size)]) (ok := fun _ => True) (okp := fun _ => True) ?hr ?hp (fun _ hk => hk) trivial (Below.refl _ _) (Nat.le_refl _) (by simp) ?_; (case hd => rfl); (case hg => rfl); (case hr => exact z14); (case hp => exact (Reps.c2 (show Kd.M k69 _ _ _ (⟨a1.extract 0 (x8_2 : Int).toNat, a1.extract ((ji26) : Int).toNat a1.size⟩ : S69) [.string (a1.extract 0 (x8_2 : Int).toNat), .string (a1.extract ((ji26) : Int).toNat a1.size)] from (k69_mkM _ _ _ (⟨a1.extract 0 (x8_2 : Int).toNat, a1.extract ((ji26) : Int).toNat a1.size⟩ : S69) )) (Reps.none _ _)))
                    intro v213 w68 ho69 hb hg_ hnew_
                    clear hg_ hnew_
                    (first | rw [← Ny212.out] at ho69 | (simp only [Int.reduceToNat] at ho69; rw [← Ny212.out] at ho69))
                    have HO214 := Aside0.mk (Kd.R_lower (Kd.R_new' ho69 (Kd.R_lt (bR HO211))) (below_size bB))
                    replace HO211 := Aside0.mk (Kd.R_elder' (bR HO211) (Kd.R_base ho69) hb)
                    replace HB := Aside0.mk (below_step bB hb)
                    clear hb ho69
                    refine hK.out _ _ trivial (fun hHeld => ?_)
                    clear hK K
                    refine na_ (N := some 70) (h := ?_)
                    exact norm_ z30 (hCont (v207, v210, v213) _ ⟨(z7 HO211.out), (z7 HO214.out), bB⟩)
                   ·skip
                    refine Kd.R_lit_step k69 _ 69 ?hg (N := 70) ?hd (xs := ([(⟨a1.extract 0 (x8_2 : Int).toNat, a1.extract ((ji26) : Int).toNat a1.size⟩ : S69)] : List (S69))) (inner := [.string (a1.extract 0 (x8_2 : Int).toNat), .string (a1.extract ((ji26) : Int).toNat a1.size)]) (ok := fun _ => True) (okp := fun _ => True) ?hr ?hp (fun _ hk => hk) trivial (Below.refl _ _) (Nat.le_refl _) (by simp) ?_; (case hd => rfl); (case hg => rfl); (case hr => exact z14); (case hp => exact (Reps.c2 (show Kd.M k69 _ _ _ (⟨a1.extract 0 (x8_2 : Int).toNat, a1.extract ((ji26) : Int).toNat a1.size⟩ : S69) [.string (a1.extract 0 (x8_2 : Int).toNat), .string (a1.extract ((ji26) : Int).toNat a1.size)] from (k69_mkM _ _ _ (⟨a1.extract 0 (x8_2 : Int).toNat, a1.extract ((ji26) : Int).toNat a1.size⟩ : S69) )) (Reps.none _ _)))
                    intro v213 w67 ho68 hb hg_ hnew_
                    clear hg_ hnew_
                    (first | rw [← Ny212.out] at ho68 | (simp only [Int.reduceToNat] at ho68; rw [← Ny212.out] at ho68))
                    have HO214 := Aside0.mk (Kd.R_lower (Kd.R_new' ho68 (Kd.R_lt (bR HO208))) (below_size bB))
                    replace HO208 := Aside0.mk (Kd.R_elder' (bR HO208) (Kd.R_base ho68) hb)
                    replace HB := Aside0.mk (below_step bB hb)
                    clear hb ho68
                    refine hK.out _ _ trivial (fun hHeld => ?_)
                    clear hK K
                    refine na_ (N := some 70) (h := ?_)
                    refine one_ (i := 2) (N := some 64) (bsA 12 511) rfl rfl (one_of HT_.out (by kernel_rfl)) (by decide) (fun K hK => ?_)
                    refine Kd.R_append_rows_step k69 (w0 := w) w.heap.size (by rfl) (.tmp 62) (.tmp 63) 44 69 (.agg #[(.string ⟨#[]⟩), (.string ⟨#[]⟩)]) 32 rfl Try.underlying44 info69 rfl (by decide) (by omega) v207 y206 l0 _ _ _ (fun k_ => some k_ ≠ (v213 : Value).ownBlock) (fun _ => False) rfl rfl ?aO ?aR (fun _ _ h => h) (fun _ h => h.elim) ?aF ?aB ?aS ?aL ?_
                    (case aR => exact z6 HR0.out)
                    (case aB => exact bB)
                    (case aF => exact (fun k_ hk => Kd.fresh' (Kd.R_lt (bR HO214)) k_ hk))
                    (case aO => exact z17 HO208.out)
                    (case aS => exact (below_size bB))
                    (case aL => have := LMc60.out; omega)
                    intro v210 w69 ho hb hg hat
                    rw [← Ny209.out] at ho
                    have n0_ := Aside0.mk (Kd.R_after (ok := (fun _ => True)) (bR HO214) hg hat)
                    have n1_ := Aside0.mk (hb)
                    have n2_ := Aside0.mk (ho)
                    clear HO214
                    clear HB
                    clear HO208
                    have HO214 := n0_
                    have HB := n1_
                    have HO211 := n2_
                    clear n0_ n1_ n2_
                    clear ho hb hg hat
                    refine hK.out _ _ trivial (fun hHeld => ?_)
                    clear hK K
                    refine na_ (N := some 64) (h := ?_)
                    exact norm_ z30 (hCont (v207, v210, v213) _ ⟨(bR HO211), (z7 HO214.out), bB⟩)
                  ·skip
                   refine Kd.R_lit_step k69 _ 69 ?hg (N := 70) ?hd (xs := ([(⟨a1.extract 0 (x8_2 : Int).toNat, a1.extract ((ji26) : Int).toNat a1.size⟩ : S69)] : List (S69))) (inner := [.string (a1.extract 0 (x8_2 : Int).toNat), .string (a1.extract ((ji26) : Int).toNat a1.size)]) (ok := fun _ => True) (okp := fun _ => True) ?hr ?hp (fun _ hk => hk) trivial (Below.refl _ _) (Nat.le_refl _) (by simp) ?_; (case hd => rfl); (case hg => rfl); (case hr => exact z14); (case hp => exact (Reps.c2 (show Kd.M k69 _ _ _ (⟨a1.extract 0 (x8_2 : Int).toNat, a1.extract ((ji26) : Int).toNat a1.size⟩ : S69) [.string (a1.extract 0 (x8_2 : Int).toNat), .string (a1.extract ((ji26) : Int).toNat a1.size)] from (k69_mkM _ _ _ (⟨a1.extract 0 (x8_2 : Int).toNat, a1.extract ((ji26) : Int).toNat a1.size⟩ : S69) )) (Reps.none _ _)))
                   intro v213 w65 ho66 hb hg_ hnew_
                   clear hg_ hnew_
                   (first | rw [← Ny212.out] at ho66 | (simp only [Int.reduceToNat] at ho66; rw [← Ny212.out] at ho66))
                   have HO214 := Aside0.mk (Kd.R_lower ho66 (below_size bB))
                   replace HB := Aside0.mk (below_step bB hb)
                   clear hb ho66
                   refine hK.out _ _ trivial (fun hHeld => ?_)
                   clear hK K
                   refine na_ (N := some 70) (h := ?_)
                   refine one_ (i := 0) (N := some 62) (bsA 12 507) rfl rfl (one_of HT_.out (by kernel_rfl)) (by decide) (fun K hK => ?_)
                   refine Kd.R_lit_step k69 _ 69 ?hg (N := 62) ?hd (xs := ([] : List (S69))) (inner := []) (ok := fun _ => True) (okp := fun _ => True) ?hr ?hp (fun _ hk => hk) trivial (Below.refl _ _) (Nat.le_refl _) (by simp) ?_; (case hd => rfl); (case hg => rfl); (case hr => exact z14); (case hp => exact (Reps.none _ _))
                   intro v207 w67 ho68 hb hg_ hnew_
                   clear hg_ hnew_
                   (first | rw [← Ny206.out] at ho68 | (simp only [Int.reduceToNat] at ho68; rw [← Ny206.out] at ho68))
                   have HO208 := Aside0.mk (Kd.R_lower (Kd.R_new' ho68 (Kd.R_lt (bR HO214))) (below_size bB))
                   replace HO214 := Aside0.mk (Kd.R_elder' (bR HO214) (Kd.R_base ho68) hb)
                   replace HB := Aside0.mk (below_step bB hb)
                   clear hb ho68
                   refine hK.out _ _ trivial (fun hHeld => ?_)
                   clear hK K
                   refine na_ (N := some 62) (h := ?_)
                   refine one_ (i := 2) (N := some 64) (bsA 12 511) rfl rfl (one_of HT_.out (by kernel_rfl)) (by decide) (fun K hK => ?_)
                   refine Kd.R_append_rows_step k69 (w0 := w) w.heap.size (by rfl) (.tmp 62) (.tmp 63) 44 69 (.agg #[(.string ⟨#[]⟩), (.string ⟨#[]⟩)]) 32 rfl Try.underlying44 info69 rfl (by decide) (by omega) v207 y206 l0 _ _ _ (fun k_ => some k_ ≠ (v213 : Value).ownBlock) (fun _ => False) rfl rfl ?aO ?aR (fun _ _ h => h) (fun _ h => h.elim) ?aF ?aB ?aS ?aL ?_
                   (case aR => exact z6 HR0.out)
                   (case aB => exact bB)
                   (case aF => exact (fun k_ hk => Kd.fresh' (Kd.R_lt (bR HO214)) k_ hk))
                   (case aO => exact z17 HO208.out)
                   (case aS => exact (below_size bB))
                   (case aL => have := LMc60.out; omega)
                   intro v210 w69 ho hb hg hat
                   rw [← Ny209.out] at ho
                   have n0_ := Aside0.mk (Kd.R_after (ok := (fun _ => True)) (bR HO214) hg hat)
                   have n1_ := Aside0.mk (hb)
                   have n2_ := Aside0.mk (ho)
                   clear HO214
                   clear HB
                   clear HO208
                   have HO214 := n0_
                   have HB := n1_
                   have HO211 := n2_
                   clear n0_ n1_ n2_
                   clear ho hb hg hat
                   refine hK.out _ _ trivial (fun hHeld => ?_)
                   clear hK K
                   refine na_ (N := some 64) (h := ?_)
                   exact norm_ z30 (hCont (v207, v210, v213) _ ⟨(bR HO211), (z7 HO214.out), bB⟩)
                 rintro ⟨v207, v210, v213⟩ w70 ⟨h0_, h1_, h2_⟩
                 have n0_ : Aside0 (Kd.R k69 69 w70 w.heap.size (fun k_ => some k_ ≠ (v213 : Value).ownBlock) v210 y209) := ⟨h0_⟩
                 have n1_ : Aside0 (Kd.R k69 69 w70 w.heap.size (fun k_ => some k_ ≠ (v210 : Value).ownBlock) v213 y212) := ⟨h1_⟩
                 have n2_ : Aside0 (Below w.heap.size w w70) := ⟨h2_⟩
                 clear HB
                 clear h0_ h1_ h2_
                 have HO211 := n0_
                 have HO214 := n1_
                 have HB := n2_
                 clear n0_ n1_ n2_
                 have hHeld := trivial
                 obtain ⟨Ao72, co72, eo72⟩ := Kd.R_slice HO214.out
                 (first | subst eo72 | (injection eo72 with f1_ f2_ f3_; have f4_ := f1_.symm; have f5_ := f3_.symm; clear f1_ f2_ f3_; subst f4_; subst f5_))
                 refine norm_ (a' := ?_) ?_ ?_
                 rotate_left
                 ·simp only [putAll, Act.put, List.setIfInBounds_toArray, List.set_cons_zero, List.set_cons_succ]
                  rfl
                 refine one_ (i := 9) (N := some 71) (bsA 12 1023) rfl rfl (one_of HT_.out (by kernel_rfl)) (by decide) (fun K hK => ?_)
                 refine Kd.R_append_rows_step k69 (w0 := w) w.heap.size (by rfl) (.tmp 64) (.tmp 70) 44 69 (.agg #[(.string ⟨#[]⟩), (.string ⟨#[]⟩)]) 32 rfl Try.underlying44 info69 rfl (by decide) (by omega) v210 y209 y212 _ _ _ (fun k_ => some k_ ≠ (.slice Ao72 y212.length co72 : Value).ownBlock) (fun _ => False) rfl rfl ?aO ?aR (fun _ _ h => h) (fun _ h => h.elim) ?aF ?aB ?aS ?aL ?_
                 (case aR => exact z5 HO214.out)
                 (case aB => exact bB)
                 (case aF => exact (fun k_ hk => Kd.fresh' (Kd.R_lt (bR HO214)) k_ hk))
                 (case aO => exact (bR HO211))
                 (case aS => exact (below_size bB))
                 (case aL => have := LMc63.out; omega)
                 intro v216 w71 ho hb hg hat
                 rw [← Ny215.out] at ho
                 have n0_ := Aside0.mk (Kd.R_after (ok := (fun _ => True)) (z32 HO214.out) hg hat)
                 have n1_ := Aside0.mk (hb)
                 have n2_ := Aside0.mk (ho)
                 clear HO214
                 clear HB
                 clear HO211
                 have HO214 := n0_
                 have HB := n1_
                 have HO217 := n2_
                 clear n0_ n1_ n2_
                 clear ho hb hg hat
                 refine hK.out _ _ trivial (fun hHeld => ?_)
                 clear hK K
                 refine na_ (N := some 71) (h := ?_)
                 refine pa_ (i := 10) (N := some 4) (bsA 12 2047) (h := ?_)
                 refine pa_ (i := 11) (N := some 5) (bsA 12 4095) (h := ?_)
                 refine done_ (done_of HT_.out (by kernel_rfl)) ?_
                 try go_wp2
                 go_ret2
                 exact ⟨_, z40, z15 HO217.out, bB⟩
                ·rw [if_neg c63] at H
                 exact absurd H (by simp)
               ·rw [if_neg c62] at H
                exact absurd H (by simp)
              ·rw [if_neg c60] at H
               exact absurd H (by simp)
            ·rw [if_neg c43] at H
             exact absurd H (by simp)
          ·rw [if_neg c28] at H
           exact absurd H (by simp)
         ·rw [if_neg c27] at H
          exact absurd H (by simp)
        ·rw [if_neg c25] at H
         have c25b0 : ((bt a1 x8_2) == 58) = false := beq_eq_false_iff_ne.mpr c25
         have c25b1 : ((bt a1 x8_2) != 58) = true := bne_iff_ne.mpr c25
         have H' := Aside0.mk H
         clear H
         (try simp only [c25b0, c25b1])
         go_wp2
         go_roundg k2
         case measure => have := HJ2.out; have := HK2.out; omega
         case rel => exact ⟨(wrap64 (x8_2 + 1)), bS, H', ⟨by have := HJ2.out; have := HK2.out; omega⟩, ⟨bB⟩⟩
       ·rw [if_neg c23] at H
        exact absurd H (by simp)
      ·rw [if_neg c22] at H
       have c22b0 : decide (x8_2 < (a1.size : Int)) = false := decide_eq_false c22
       clear c22
       simp only [Option.some.injEq, Prod.mk.injEq] at H
       obtain ⟨rfl, rfl⟩ := H
       go_wp2
       go_ret2
       exact ⟨_, bE, z19, bB⟩
def spec_l4Parse.l0 : Nat → List Int → List (S69) → Int → Option ((List (S69)) × Int × Bool)
 | 0, _, _, _ => none
 | k + 1, x0, x5, x6 => if x6 < (x0.length : Int) then ((spec_l4End.f k x0 x6).bind fun t222 => (if t222 = x6 then ((spec_l4Fault.f k x5).bind fun t223 => (some (x5, wrap64 (x6 + 1), (t223 == 0)))) else (if 0 ≤ x6 then (if x6 ≤ t222 then (if t222 ≤ (x0.length : Int) then ((spec_l4Line.f k x5 (strOfNums ((x0.take (t222 : Int).toNat).drop (x6 : Int).toNat))).bind fun bt225 => (if bt225.2 = true then (if t222 < (x0.length : Int) then (spec_l4Parse.l0 k x0 bt225.1 (wrap64 (t222 + 1))) else (spec_l4Parse.l0 k x0 bt225.1 t222)) else (some (([] : List (S69)), 0, false)))) else (none)) else (none)) else (none)))) else ((spec_l4Fault.f k x5).bind fun t221 => (some (x5, x6, (t221 == 0))))
def spec_l4Parse.f (k : Nat) (l0 : List Int) : Option ((List (S69)) × Int × Bool) := spec_l4Parse.l0 k l0 (([] : List (S69))) 0
set_option maxHeartbeats 8000000 in
set_option maxRecDepth 100000 in
theorem spec_l4Parse.calls (k : Nat) (A0 : Option Addr) (c0 : Nat) (l0 : List Int) (r1 : List (S69)) (r2 : Int) (r3 : Bool) (w : World) (hr0 : Kd.C (Kd.int .u8) w A0 l0.length l0) (hc0 : l0.length ≤ c0) (h : spec_l4Parse.f k l0 = some (r1, r2, r3)) :
  Calls Try.prog 86 #[.slice A0 l0.length c0] w fun e w' => ∃ v0_ : Value, e = .returned (.tuple #[v0_, .int .i64 r2, .bool r3]) ∧ Kd.R k69 69 w' w.heap.size (fun _ => True) v0_ r1 ∧ Below w.heap.size w w' := by
 have HR0 := Aside0.mk hr0
 have HC0 := Aside0.mk hc0
 clear hr0 hc0
 have HB := Aside0.mk (Below.refl w.heap.size w)
 have H : (spec_l4Parse.l0 k l0 (([] : List (S69))) 0) = some (r1, r2, r3) := h
 clear h
 obtain ⟨y218, hy218⟩ : ∃ y_ : List (S69), y_ = (([] : List (S69))) := ⟨_, rfl⟩
 replace H : (spec_l4Parse.l0 k l0 y218 0) = some (r1, r2, r3) := z3 hy218
 have Ny218 := Aside0.mk hy218
 clear hy218
 have H' := Aside0.mk H
 clear H
 go_enter Try.func86, Try.ntmps86
 go_wp2_with (first | ((with_reducible refine gate_dst (N := 10) rfl ?_); refine Kd.R_lit k69 _ 69 ?hg (N := 10) ?hd (xs := ([] : List (S69))) (inner := []) (ok := fun _ => True) (okp := fun _ => True) ?hr ?hp (fun _ hk => hk) trivial (Below.refl _ _) (Nat.le_refl _) (by simp) ?_; (case hd => rfl); (case hg => rfl); (case hr => exact z14); (case hp => exact (Reps.none _ _)); intro v219 w2 ho3 hb hg_ hnew_; clear hg_ hnew_; (first | rw [← Ny218.out] at ho3 | (simp only [Int.reduceToNat] at ho3; rw [← Ny218.out] at ho3)); have HO220 := Aside0.mk (Kd.R_lower ho3 (below_size bB)); replace HB := Aside0.mk (below_step bB hb); clear hb ho3))
 go_loopg [5, 6] k (fun kq v5 v6 w' => ∃ (x5_1 : List (S69)) (x6_1 : Int), v6 = .int .i64 x6_1 ∧ Aside0 (spec_l4Parse.l0 kq l0 x5_1 x6_1 = some (r1, r2, r3)) ∧ Aside0 (kq ≤ k) ∧ Aside0 (Kd.R k69 69 w' w.heap.size (fun _ => True) v5 x5_1) ∧ Aside0 (Below w.heap.size w w'))
 case atStart => exact ⟨(y218), (0), bS, H', ⟨Nat.le_refl _⟩, ⟨bR HO220⟩, ⟨bB⟩⟩
 case round =>
  clear H'
  try clear p2
  obtain ⟨x5_1, x6_1, rfl, HA, HK1, HO_5, HB⟩ := hrel
  cases gk with
  | zero => exact absurd HA.out (by simp [spec_l4Parse.l0])
  | succ k1 =>
   have H := HA.out
   clear HA
   simp only [spec_l4Parse.l0] at H
   by_cases c4 : x6_1 < (l0.length : Int)
   ·rw [if_pos c4] at H
    have c4b0 : decide (x6_1 < (l0.length : Int)) = true := decide_eq_true c4
    clear c4
    replace H := Option.bind_eq_some_iff.mp H
    obtain ⟨t222, A50, H⟩ := H
    replace H : (if t222 = x6_1 then ((spec_l4Fault.f k1 x5_1).bind fun t223 => (some (x5_1, wrap64 (x6_1 + 1), (t223 == 0)))) else (if 0 ≤ x6_1 then (if x6_1 ≤ t222 then (if t222 ≤ (l0.length : Int) then ((spec_l4Line.f k1 x5_1 (strOfNums ((l0.take (t222 : Int).toNat).drop (x6_1 : Int).toNat))).bind fun bt225 => (if bt225.2 = true then (if t222 < (l0.length : Int) then (spec_l4Parse.l0 k1 l0 bt225.1 (wrap64 (t222 + 1))) else (spec_l4Parse.l0 k1 l0 bt225.1 t222)) else (some (([] : List (S69)), 0, false)))) else (none)) else (none)) else (none))) = some (r1, r2, r3) := H
    have A5 := Aside0.mk A50
    clear A50
    by_cases c6 : t222 = x6_1
    ·rw [if_pos c6] at H
     have c6b0 : (t222 == x6_1) = true := beq_iff_eq.mpr c6
     have c6b1 : (t222 != x6_1) = false := bne_eq_false_iff_eq.mpr c6
     clear c6
     replace H := Option.bind_eq_some_iff.mp H
     obtain ⟨t223, A70, H⟩ := H
     replace H : (some (x5_1, wrap64 (x6_1 + 1), (t223 == 0))) = some (r1, r2, r3) := H
     have A7 := Aside0.mk A70
     clear A70
     simp only [Option.some.injEq, Prod.mk.injEq] at H
     obtain ⟨rfl, rfl, rfl⟩ := H
     go_wp2_with (first | ((with_reducible refine gate_callee (f := 109) rfl ?_); refine goesL_ (some 17) rfl rfl Try.func109 (by kernel_rfl) rfl #[.slice A0 l0.length c0, .int .i64 x6_1] rfl bM ?_; (with_reducible refine (spec_l4End.calls k1 _ _ l0 x6_1 t222 _ ?side1 ?side2 A5.out).mono ?_); (case side1 => exact z6 HR0.out); (case side2 => exact HC0.out); rintro e w' ⟨rfl, ⟨nd, rfl⟩⟩; refine ⟨_, rfl, ?_⟩; obtain ⟨Ao8, co8, eo8⟩ := Kd.R_slice HO_5.out; subst eo8) | ((with_reducible refine gate_callee (f := 74) rfl ?_); refine goesL_ (some 46) rfl rfl Try.func74 (by kernel_rfl) rfl #[.slice Ao8 x5_1.length co8] rfl bM ?_; (with_reducible refine (spec_l4Fault.calls k1 _ _ x5_1 t223 _ ?side1 ?side2 A7.out).mono ?_); (case side1 => exact z5 HO_5.out); (case side2 => exact (Kd.R_reads' HO_5.out).2.1); rintro e w' ⟨rfl, ⟨nd, rfl⟩⟩; refine ⟨_, rfl, ?_⟩))
     go_ret3
     exact ⟨_, bE, bR HO_5, bB⟩
    ·rw [if_neg c6] at H
     have c6b0 : (t222 == x6_1) = false := beq_eq_false_iff_ne.mpr c6
     have c6b1 : (t222 != x6_1) = true := bne_iff_ne.mpr c6
     by_cases c9 : 0 ≤ x6_1
     ·rw [if_pos c9] at H
      have c9b0 := eq_true c9
      have c9b1 : decide (0 ≤ x6_1) = true := decide_eq_true c9
      clear c9
      by_cases c10 : x6_1 ≤ t222
      ·rw [if_pos c10] at H
       have c10b0 := eq_true c10
       have c10b1 : decide (x6_1 ≤ t222) = true := decide_eq_true c10
       clear c10
       by_cases c11 : t222 ≤ (l0.length : Int)
       ·rw [if_pos c11] at H
        have c11b0 := eq_true c11
        have c11b1 : decide (t222 ≤ (l0.length : Int)) = true := decide_eq_true c11
        (try have c11z := eq_true (show (t222 : Int) ≤ (c0 : Int) from (by have h_ := HC0.out; omega)))
        clear c11
        replace H := Option.bind_eq_some_iff.mp H
        obtain ⟨⟨t225, t226⟩, A120, H⟩ := H
        replace H : (if t226 = true then (if t222 < (l0.length : Int) then (spec_l4Parse.l0 k1 l0 t225 (wrap64 (t222 + 1))) else (spec_l4Parse.l0 k1 l0 t225 t222)) else (some (([] : List (S69)), 0, false))) = some (r1, r2, r3) := H
        have A12 := Aside0.mk A120
        clear A120
        by_cases c13 : t226 = true
        ·subst c13
         have H1 : (if t222 < (l0.length : Int) then (spec_l4Parse.l0 k1 l0 t225 (wrap64 (t222 + 1))) else (spec_l4Parse.l0 k1 l0 t225 t222)) = some (r1, r2, r3) := z35
         clear H
         have H := H1
         clear H1
         by_cases c14 : t222 < (l0.length : Int)
         ·rw [if_pos c14] at H
          have c14b0 : decide (t222 < (l0.length : Int)) = true := decide_eq_true c14
          clear c14
          have H' := Aside0.mk H
          clear H
          go_wp2_with (first | ((with_reducible refine gate_callee (f := 109) rfl ?_); refine goesL_ (some 17) rfl rfl Try.func109 (by kernel_rfl) rfl #[.slice A0 l0.length c0, .int .i64 x6_1] rfl bM ?_; (with_reducible refine (spec_l4End.calls k1 _ _ l0 x6_1 t222 _ ?side1 ?side2 A5.out).mono ?_); (case side1 => exact z6 HR0.out); (case side2 => exact HC0.out); rintro e w' ⟨rfl, ⟨nd, rfl⟩⟩; refine ⟨_, rfl, ?_⟩; obtain ⟨i015, hi015, _, hsz15, _⟩ := info_parts info5; obtain ⟨A15, hcut15, hA15, hC15⟩ := print_mid_of (P := Try.prog) (Value.int .u8) 0 22 5 .i64 .i64 Try.underlying22 hi015 hsz15 A0 c0 l0 x6_1 t222 (pI) (by first | omega | exact pI) (pI) HC0.out; have HR224 := Aside0.mk (Kd.C_of_reads (h1 := fun _ => rfl) (hA15 _ (Kd.reads_of_C HR0.out))); have HC224 := Aside0.mk hC15; clear hA15 hC15 hi015 hsz15; have hcv16 := Kd.C_string (P := Try.prog) (A := A15) (c := (c0 - x6_1.toNat)) Try.underlying22 Try.underlying5 Try.underlying9 (Kd.C_below HR224.out HB.out); (try have hcd17 := fun nq_ : Nat => Kd.C_string (P := Try.prog) (A := A15) (c := (c0 - x6_1.toNat)) Try.underlying22 Try.underlying5 Try.underlying9 (Kd.C_drewN (Kd.C_below HR224.out HB.out) nq_)); (try have hce17 := Kd.C_string (P := Try.prog) (A := A15) (c := (c0 - x6_1.toNat)) Try.underlying22 Try.underlying5 Try.underlying9 (Kd.C_below HR224.out HB.out)); (try (have hln17 : ((l0.take (t222 : Int).toNat).drop (x6_1 : Int).toNat).length = (t222 : Int).toNat - (x6_1 : Int).toNat := z43)); (try rw [hln17] at hce17); (try simp only [hln17] at hcd17); (try clear hln17); obtain ⟨Ao18, co18, eo18⟩ := Kd.R_slice HO_5.out; subst eo18) | ((with_reducible refine gate_callee (f := 110) rfl ?_); refine goesL_ (some 30) rfl rfl Try.func110 (by kernel_rfl) rfl #[.slice Ao18 x5_1.length co18, .string (strOfNums ((l0.take (t222 : Int).toNat).drop (x6_1 : Int).toNat))] rfl bM ?_; (with_reducible refine (spec_l4Line.calls k1 _ _ x5_1 (strOfNums ((l0.take (t222 : Int).toNat).drop (x6_1 : Int).toNat)) t225 true _ ?side1 ?side2 A12.out).mono ?_); (case side1 => exact z5 HO_5.out); (case side2 => exact (Kd.R_reads' HO_5.out).2.1); rintro e w19 ⟨v227, rfl, ho0, hb⟩; refine ⟨_, rfl, ?_⟩; have HO228 := Aside0.mk (Kd.R_lower (Kd.R_new' ho0 (Kd.R_lt (bR HO_5))) (below_size bB)); replace HO_5 := Aside0.mk (Kd.R_elder' (bR HO_5) (Kd.R_base ho0) hb); replace HB := Aside0.mk (below_step bB hb); (try clear ho0)))
          go_roundg k1
          case measure => have := HK1.out; omega
          case rel => exact ⟨(t225), (wrap64 (t222 + 1)), bS, H', ⟨by have := HK1.out; omega⟩, ⟨z15 HO228.out⟩, ⟨bB⟩⟩
         ·rw [if_neg c14] at H
          have c14b0 : decide (t222 < (l0.length : Int)) = false := decide_eq_false c14
          clear c14
          have H' := Aside0.mk H
          clear H
          go_wp2_with (first | ((with_reducible refine gate_callee (f := 109) rfl ?_); refine goesL_ (some 17) rfl rfl Try.func109 (by kernel_rfl) rfl #[.slice A0 l0.length c0, .int .i64 x6_1] rfl bM ?_; (with_reducible refine (spec_l4End.calls k1 _ _ l0 x6_1 t222 _ ?side1 ?side2 A5.out).mono ?_); (case side1 => exact z6 HR0.out); (case side2 => exact HC0.out); rintro e w' ⟨rfl, ⟨nd, rfl⟩⟩; refine ⟨_, rfl, ?_⟩; obtain ⟨i020, hi020, _, hsz20, _⟩ := info_parts info5; obtain ⟨A20, hcut20, hA20, hC20⟩ := print_mid_of (P := Try.prog) (Value.int .u8) 0 22 5 .i64 .i64 Try.underlying22 hi020 hsz20 A0 c0 l0 x6_1 t222 (pI) (by first | omega | exact pI) (pI) HC0.out; have HR224 := Aside0.mk (Kd.C_of_reads (h1 := fun _ => rfl) (hA20 _ (Kd.reads_of_C HR0.out))); have HC224 := Aside0.mk hC20; clear hA20 hC20 hi020 hsz20; have hcv21 := Kd.C_string (P := Try.prog) (A := A20) (c := (c0 - x6_1.toNat)) Try.underlying22 Try.underlying5 Try.underlying9 (Kd.C_below HR224.out HB.out); (try have hcd22 := fun nq_ : Nat => Kd.C_string (P := Try.prog) (A := A20) (c := (c0 - x6_1.toNat)) Try.underlying22 Try.underlying5 Try.underlying9 (Kd.C_drewN (Kd.C_below HR224.out HB.out) nq_)); (try have hce22 := Kd.C_string (P := Try.prog) (A := A20) (c := (c0 - x6_1.toNat)) Try.underlying22 Try.underlying5 Try.underlying9 (Kd.C_below HR224.out HB.out)); (try (have hln22 : ((l0.take (t222 : Int).toNat).drop (x6_1 : Int).toNat).length = (t222 : Int).toNat - (x6_1 : Int).toNat := z43)); (try rw [hln22] at hce22); (try simp only [hln22] at hcd22); (try clear hln22); obtain ⟨Ao23, co23, eo23⟩ := Kd.R_slice HO_5.out; subst eo23) | ((with_reducible refine gate_callee (f := 110) rfl ?_); refine goesL_ (some 30) rfl rfl Try.func110 (by kernel_rfl) rfl #[.slice Ao23 x5_1.length co23, .string (strOfNums ((l0.take (t222 : Int).toNat).drop (x6_1 : Int).toNat))] rfl bM ?_; (with_reducible refine (spec_l4Line.calls k1 _ _ x5_1 (strOfNums ((l0.take (t222 : Int).toNat).drop (x6_1 : Int).toNat)) t225 true _ ?side1 ?side2 A12.out).mono ?_); (case side1 => exact z5 HO_5.out); (case side2 => exact (Kd.R_reads' HO_5.out).2.1); rintro e w24 ⟨v227, rfl, ho0, hb⟩; refine ⟨_, rfl, ?_⟩; have HO228 := Aside0.mk (Kd.R_lower (Kd.R_new' ho0 (Kd.R_lt (bR HO_5))) (below_size bB)); replace HO_5 := Aside0.mk (Kd.R_elder' (bR HO_5) (Kd.R_base ho0) hb); replace HB := Aside0.mk (below_step bB hb); (try clear ho0)))
          go_roundg k1
          case measure => have := HK1.out; omega
          case rel => exact ⟨(t225), (t222), bS, H', ⟨by have := HK1.out; omega⟩, ⟨z15 HO228.out⟩, ⟨bB⟩⟩
        ·replace c13 := Bool.eq_false_iff.mpr c13
         subst c13
         have H1 : (some (([] : List (S69)), 0, false)) = some (r1, r2, r3) := z23
         clear H
         have H := H1
         clear H1
         simp only [Option.some.injEq, Prod.mk.injEq] at H
         obtain ⟨rfl, rfl, rfl⟩ := H
         go_wp2_with (first | ((with_reducible refine gate_callee (f := 109) rfl ?_); refine goesL_ (some 17) rfl rfl Try.func109 (by kernel_rfl) rfl #[.slice A0 l0.length c0, .int .i64 x6_1] rfl bM ?_; (with_reducible refine (spec_l4End.calls k1 _ _ l0 x6_1 t222 _ ?side1 ?side2 A5.out).mono ?_); (case side1 => exact z6 HR0.out); (case side2 => exact HC0.out); rintro e w' ⟨rfl, ⟨nd, rfl⟩⟩; refine ⟨_, rfl, ?_⟩; obtain ⟨i025, hi025, _, hsz25, _⟩ := info_parts info5; obtain ⟨A25, hcut25, hA25, hC25⟩ := print_mid_of (P := Try.prog) (Value.int .u8) 0 22 5 .i64 .i64 Try.underlying22 hi025 hsz25 A0 c0 l0 x6_1 t222 (pI) (by first | omega | exact pI) (pI) HC0.out; have HR224 := Aside0.mk (Kd.C_of_reads (h1 := fun _ => rfl) (hA25 _ (Kd.reads_of_C HR0.out))); have HC224 := Aside0.mk hC25; clear hA25 hC25 hi025 hsz25; have hcv26 := Kd.C_string (P := Try.prog) (A := A25) (c := (c0 - x6_1.toNat)) Try.underlying22 Try.underlying5 Try.underlying9 (Kd.C_below HR224.out HB.out); (try have hcd27 := fun nq_ : Nat => Kd.C_string (P := Try.prog) (A := A25) (c := (c0 - x6_1.toNat)) Try.underlying22 Try.underlying5 Try.underlying9 (Kd.C_drewN (Kd.C_below HR224.out HB.out) nq_)); (try have hce27 := Kd.C_string (P := Try.prog) (A := A25) (c := (c0 - x6_1.toNat)) Try.underlying22 Try.underlying5 Try.underlying9 (Kd.C_below HR224.out HB.out)); (try (have hln27 : ((l0.take (t222 : Int).toNat).drop (x6_1 : Int).toNat).length = (t222 : Int).toNat - (x6_1 : Int).toNat := z43)); (try rw [hln27] at hce27); (try simp only [hln27] at hcd27); (try clear hln27); obtain ⟨Ao28, co28, eo28⟩ := Kd.R_slice HO_5.out; subst eo28) | ((with_reducible refine gate_callee (f := 110) rfl ?_); refine goesL_ (some 30) rfl rfl Try.func110 (by kernel_rfl) rfl #[.slice Ao28 x5_1.length co28, .string (strOfNums ((l0.take (t222 : Int).toNat).drop (x6_1 : Int).toNat))] rfl bM ?_; (with_reducible refine (spec_l4Line.calls k1 _ _ x5_1 (strOfNums ((l0.take (t222 : Int).toNat).drop (x6_1 : Int).toNat)) t225 false _ ?side1 ?side2 A12.out).mono ?_); (case side1 => exact z5 HO_5.out); (case side2 => exact (Kd.R_reads' HO_5.out).2.1); rintro e w29 ⟨v227, rfl, ho0, hb⟩; refine ⟨_, rfl, ?_⟩; have HO228 := Aside0.mk (Kd.R_lower (Kd.R_new' ho0 (Kd.R_lt (bR HO_5))) (below_size bB)); replace HO_5 := Aside0.mk (Kd.R_elder' (bR HO_5) (Kd.R_base ho0) hb); replace HB := Aside0.mk (below_step bB hb); (try clear ho0)))
         go_ret3
         exact ⟨_, bE, z19, bB⟩
       ·rw [if_neg c11] at H
        exact absurd H (by simp)
      ·rw [if_neg c10] at H
       exact absurd H (by simp)
     ·rw [if_neg c9] at H
      exact absurd H (by simp)
   ·rw [if_neg c4] at H
    have c4b0 : decide (x6_1 < (l0.length : Int)) = false := decide_eq_false c4
    clear c4
    replace H := Option.bind_eq_some_iff.mp H
    obtain ⟨t221, A300, H⟩ := H
    replace H : (some (x5_1, x6_1, (t221 == 0))) = some (r1, r2, r3) := H
    have A30 := Aside0.mk A300
    clear A300
    simp only [Option.some.injEq, Prod.mk.injEq] at H
    obtain ⟨rfl, rfl, rfl⟩ := H
    obtain ⟨Ao31, co31, eo31⟩ := Kd.R_slice HO_5.out
    subst eo31
    go_wp2_with (first | ((with_reducible refine gate_callee (f := 74) rfl ?_); refine goesL_ (some 46) rfl rfl Try.func74 (by kernel_rfl) rfl #[.slice Ao31 x5_1.length co31] rfl bM ?_; (with_reducible refine (spec_l4Fault.calls k1 _ _ x5_1 t221 _ ?side1 ?side2 A30.out).mono ?_); (case side1 => exact z5 HO_5.out); (case side2 => exact (Kd.R_reads' HO_5.out).2.1); rintro e w' ⟨rfl, ⟨nd, rfl⟩⟩; refine ⟨_, rfl, ?_⟩))
    go_ret3
    exact ⟨_, bE, bR HO_5, bB⟩
def spec_ParseHeader.f (k : Nat) (l0 : List Int) : Option (Int × Int × (List (S69))) := if (l0.length : Int) > 400 then (some (2, 0, ([] : List (S69)))) else ((spec_l4Parse.f k l0).bind fun bt230 => (if bt230.2.2 = true then (some (0, bt230.2.1, bt230.1)) else (some (1, 0, ([] : List (S69))))))
set_option maxHeartbeats 8000000 in
set_option maxRecDepth 100000 in
theorem spec_ParseHeader.calls (k : Nat) (A0 : Option Addr) (c0 : Nat) (l0 : List Int) (r1 : Int) (r2 : Int) (r3 : List (S69)) (w : World) (hr0 : Kd.C (Kd.int .u8) w A0 l0.length l0) (hc0 : l0.length ≤ c0) (h : spec_ParseHeader.f k l0 = some (r1, r2, r3)) :
  Calls Try.prog 41 #[.slice A0 l0.length c0] w fun e w' => ∃ v2_ : Value, e = .returned (.agg #[.int .i64 r1, .int .i64 r2, v2_]) ∧ Kd.R k69 69 w' w.heap.size (fun _ => True) v2_ r3 ∧ Below w.heap.size w w' := by
 have hu61 := Try.underlying61
 have HR0 := Aside0.mk hr0
 have HC0 := Aside0.mk hc0
 clear hr0 hc0
 have HB := Aside0.mk (Below.refl w.heap.size w)
 have H : (if (l0.length : Int) > 400 then (some (2, 0, ([] : List (S69)))) else ((spec_l4Parse.f k l0).bind fun bt230 => (if bt230.2.2 = true then (some (0, bt230.2.1, bt230.1)) else (some (1, 0, ([] : List (S69))))))) = some (r1, r2, r3) := h
 clear h
 by_cases c2 : (l0.length : Int) > 400
 ·rw [if_pos c2] at H
  have c2b0 : decide (400 < (l0.length : Int)) = true := decide_eq_true c2
  have c2b1 : decide (400 < l0.length) = true := decide_eq_true (by omega)
  clear c2
  simp only [Option.some.injEq, Prod.mk.injEq] at H
  obtain ⟨rfl, rfl, rfl⟩ := H
  go_enter Try.func41, Try.ntmps41
  go_wp2_with (first | ((with_reducible refine gate_dst (N := 2) rfl ?_); refine box_event ?hg (N := 2) ?hd (cs := #[.int .i64 0, .int .i64 0, .slice none 0 0]) (t := 61) ?hr ?_; (case hd => rfl); (case hg => rfl); (case hr => exact z14); intro gb229 hg w3 hbox hb; have BK229 := Aside0.mk (hbox); have GW229 := Aside0.mk ((z25 : w.heap.size ≤ gb229)); have GE229 := Aside0.mk ((z25 : w.heap.size ≤ gb229)); replace HB := Aside0.mk (below_step bB hb); clear hb hbox hg; have hcz4_0 : w3.cell? ⟨gb229, 0, none⟩ = some (.int .i64 0) := (blk_cell BK229.out 0).trans rfl; have hcz4_1 : w3.cell? ⟨gb229, 1, none⟩ = some (.int .i64 0) := (blk_cell BK229.out 1).trans rfl; have hcz4_2 : w3.cell? ⟨gb229, 2, none⟩ = some (.slice none 0 0) := (blk_cell BK229.out 2).trans rfl; have hfz4_0 := blk_frozen BK229.out 0; have hfz4_1 := blk_frozen BK229.out 1; have hfz4_2 := blk_frozen BK229.out 2))
  refine bodyPost_ret (results_cell_row rfl _ _ gb229 61 #[.int .i64 2, .int .i64 0, .slice none 0 0] (0, 0) _ rfl (by (with_reducible repeat (first | refine blk_drewN ?_ _ | refine blk_drew ?_ | refine blk_alloc ?_ _)); refine blk_put (cs := #[.int .i64 2, .int .i64 0, .slice none 0 0]) ?_ 2 _ rfl; (with_reducible repeat (first | refine blk_drewN ?_ _ | refine blk_drew ?_ | refine blk_alloc ?_ _)); refine blk_put (cs := #[.int .i64 2, .int .i64 0, .slice none 0 0]) ?_ 1 _ rfl; (with_reducible repeat (first | refine blk_drewN ?_ _ | refine blk_drew ?_ | refine blk_alloc ?_ _)); refine blk_put (cs := #[.int .i64 0, .int .i64 0, .slice none 0 0]) ?_ 0 _ rfl; (with_reducible repeat (first | refine blk_drewN ?_ _ | refine blk_drew ?_ | refine blk_alloc ?_ _)); exact BK229.out) Try.underlying61 rfl (by kernel_rfl)) rfl ?_
  exact ⟨_, bE, z19, bG GE229⟩
 ·rw [if_neg c2] at H
  have c2b0 : decide (400 < (l0.length : Int)) = false := decide_eq_false c2
  have c2b1 : decide (400 < l0.length) = false := decide_eq_false (by omega)
  clear c2
  replace H := Option.bind_eq_some_iff.mp H
  obtain ⟨⟨t230, t231, t232⟩, A50, H⟩ := H
  replace H : (if t232 = true then (some (0, t231, t230)) else (some (1, 0, ([] : List (S69))))) = some (r1, r2, r3) := H
  have A5 := Aside0.mk A50
  clear A50
  by_cases c6 : t232 = true
  ·subst c6
   have H1 : (some (0, t231, t230)) = some (r1, r2, r3) := z35
   clear H
   have H := H1
   clear H1
   simp only [Option.some.injEq, Prod.mk.injEq] at H
   obtain ⟨rfl, rfl, rfl⟩ := H
   go_enter Try.func41, Try.ntmps41
   go_wp2_with (first | ((with_reducible refine gate_dst (N := 2) rfl ?_); refine box_event ?hg (N := 2) ?hd (cs := #[.int .i64 0, .int .i64 0, .slice none 0 0]) (t := 61) ?hr ?_; (case hd => rfl); (case hg => rfl); (case hr => exact z14); intro gb229 hg w7 hbox hb; have BK229 := Aside0.mk (hbox); have GW229 := Aside0.mk ((z25 : w.heap.size ≤ gb229)); have GE229 := Aside0.mk ((z25 : w.heap.size ≤ gb229)); replace HB := Aside0.mk (below_step bB hb); clear hb hbox hg) | ((with_reducible refine gate_callee (f := 86) rfl ?_); refine goesL_ (some 12) rfl rfl Try.func86 (by kernel_rfl) rfl #[.slice A0 l0.length c0] rfl bM ?_; (with_reducible refine (spec_l4Parse.calls k _ _ l0 t230 t231 true _ ?side1 ?side2 A5.out).mono ?_); (case side1 => exact z6 HR0.out); (case side2 => exact HC0.out); rintro e w8 ⟨v233, rfl, ho0, hb⟩; refine ⟨_, rfl, ?_⟩; have HO234 := Aside0.mk (Kd.R_lower ho0 (below_size (bG GE229))); replace BK229 := Aside0.mk (blk_below (g := gb229) (o := .cells #[.int .i64 0, .int .i64 0, .slice none 0 0] 61 (0, 0)) (bL BK229) hb); replace HB := Aside0.mk (below_step (bG GE229) hb); (try clear ho0); obtain ⟨Ao9, co9, eo9⟩ := Kd.R_slice HO234.out; subst eo9; have hcz10_0 : w8.cell? ⟨gb229, 0, none⟩ = some (.int .i64 0) := (blk_cell BK229.out 0).trans rfl; have hcz10_1 : w8.cell? ⟨gb229, 1, none⟩ = some (.int .i64 0) := (blk_cell BK229.out 1).trans rfl; have hcz10_2 : w8.cell? ⟨gb229, 2, none⟩ = some (.slice none 0 0) := (blk_cell BK229.out 2).trans rfl; have hfz10_0 := blk_frozen BK229.out 0; have hfz10_1 := blk_frozen BK229.out 1; have hfz10_2 := blk_frozen BK229.out 2))
   refine bodyPost_ret (results_cell_row rfl _ _ gb229 61 #[.int .i64 0, .int .i64 t231, .slice Ao9 t230.length co9] (0, 0) _ rfl (by (with_reducible repeat (first | refine blk_drewN ?_ _ | refine blk_drew ?_ | refine blk_alloc ?_ _)); refine blk_put (cs := #[.int .i64 0, .int .i64 t231, .slice none 0 0]) ?_ 2 _ rfl; (with_reducible repeat (first | refine blk_drewN ?_ _ | refine blk_drew ?_ | refine blk_alloc ?_ _)); refine blk_put (cs := #[.int .i64 0, .int .i64 0, .slice none 0 0]) ?_ 1 _ rfl; (with_reducible repeat (first | refine blk_drewN ?_ _ | refine blk_drew ?_ | refine blk_alloc ?_ _)); refine blk_put (cs := #[.int .i64 0, .int .i64 0, .slice none 0 0]) ?_ 0 _ rfl; (with_reducible repeat (first | refine blk_drewN ?_ _ | refine blk_drew ?_ | refine blk_alloc ?_ _)); exact BK229.out) Try.underlying61 rfl (by kernel_rfl)) rfl ?_
   exact ⟨_, bE, by (with_reducible repeat (first | apply Kd.R_alloc | apply Kd.R_drewN | apply Kd.R_drew)); exact Kd.R_mono (Kd.R_far (p := ⟨gb229, 2, none⟩) (Kd.R_far (p := ⟨gb229, 1, none⟩) (Kd.R_far (p := ⟨gb229, 0, none⟩) (Kd.R_types HO234.out BK229.out (by decide)) (fun _ hk => hk.2) (.int .i64 0)) (fun _ hk => hk.2) (.int .i64 t231)) (fun _ hk => hk.2) (.slice Ao9 t230.length co9)) (fun _ hk => trivial), bG GE229⟩
  ·replace c6 := Bool.eq_false_iff.mpr c6
   subst c6
   have H1 : (some (1, 0, ([] : List (S69)))) = some (r1, r2, r3) := z23
   clear H
   have H := H1
   clear H1
   simp only [Option.some.injEq, Prod.mk.injEq] at H
   obtain ⟨rfl, rfl, rfl⟩ := H
   go_enter Try.func41, Try.ntmps41
   go_wp2_with (first | ((with_reducible refine gate_dst (N := 2) rfl ?_); refine box_event ?hg (N := 2) ?hd (cs := #[.int .i64 0, .int .i64 0, .slice none 0 0]) (t := 61) ?hr ?_; (case hd => rfl); (case hg => rfl); (case hr => exact z14); intro gb229 hg w11 hbox hb; have BK229 := Aside0.mk (hbox); have GW229 := Aside0.mk ((z25 : w.heap.size ≤ gb229)); have GE229 := Aside0.mk ((z25 : w.heap.size ≤ gb229)); replace HB := Aside0.mk (below_step bB hb); clear hb hbox hg) | ((with_reducible refine gate_callee (f := 86) rfl ?_); refine goesL_ (some 12) rfl rfl Try.func86 (by kernel_rfl) rfl #[.slice A0 l0.length c0] rfl bM ?_; (with_reducible refine (spec_l4Parse.calls k _ _ l0 t230 t231 false _ ?side1 ?side2 A5.out).mono ?_); (case side1 => exact z6 HR0.out); (case side2 => exact HC0.out); rintro e w12 ⟨v233, rfl, ho0, hb⟩; refine ⟨_, rfl, ?_⟩; have HO234 := Aside0.mk (Kd.R_lower ho0 (below_size (bG GE229))); replace BK229 := Aside0.mk (blk_below (g := gb229) (o := .cells #[.int .i64 0, .int .i64 0, .slice none 0 0] 61 (0, 0)) (bL BK229) hb); replace HB := Aside0.mk (below_step (bG GE229) hb); (try clear ho0); have hcz13_0 : w12.cell? ⟨gb229, 0, none⟩ = some (.int .i64 0) := (blk_cell BK229.out 0).trans rfl; have hcz13_1 : w12.cell? ⟨gb229, 1, none⟩ = some (.int .i64 0) := (blk_cell BK229.out 1).trans rfl; have hcz13_2 : w12.cell? ⟨gb229, 2, none⟩ = some (.slice none 0 0) := (blk_cell BK229.out 2).trans rfl; have hfz13_0 := blk_frozen BK229.out 0; have hfz13_1 := blk_frozen BK229.out 1; have hfz13_2 := blk_frozen BK229.out 2))
   refine bodyPost_ret (results_cell_row rfl _ _ gb229 61 #[.int .i64 1, .int .i64 0, .slice none 0 0] (0, 0) _ rfl (by (with_reducible repeat (first | refine blk_drewN ?_ _ | refine blk_drew ?_ | refine blk_alloc ?_ _)); refine blk_put (cs := #[.int .i64 1, .int .i64 0, .slice none 0 0]) ?_ 2 _ rfl; (with_reducible repeat (first | refine blk_drewN ?_ _ | refine blk_drew ?_ | refine blk_alloc ?_ _)); refine blk_put (cs := #[.int .i64 1, .int .i64 0, .slice none 0 0]) ?_ 1 _ rfl; (with_reducible repeat (first | refine blk_drewN ?_ _ | refine blk_drew ?_ | refine blk_alloc ?_ _)); refine blk_put (cs := #[.int .i64 0, .int .i64 0, .slice none 0 0]) ?_ 0 _ rfl; (with_reducible repeat (first | refine blk_drewN ?_ _ | refine blk_drew ?_ | refine blk_alloc ?_ _)); exact BK229.out) Try.underlying61 rfl (by kernel_rfl)) rfl ?_
   exact ⟨_, bE, z19, bG GE229⟩
end Go.Proofs.Ytjopgmjmjnfcjaa.PHeaders
