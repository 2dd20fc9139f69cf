/- Part of the proof; words that it uses. -/
import Derived.Test.YtecpanfndodjgaaDoorPPathOfx0
import Derived.Test.YtecpanfndodjgaaDoorPPathOfx1
namespace Go.Proofs.YtecpanfndodjgaaDoor.PPathOf
open Go.RowKit Go.Proofs.YtecpanfndodjgaaDoorW.PrintWords Go.Proofs.YtecpanfndodjgaaDoorW.PrintLast Go.Proofs.YtecpanfndodjgaaDoorW.PrintMore
attribute [local go_sem] max2_int max_two
set_option linter.unusedVariables false
set_option linter.unusedSimpArgs false
def spec_l5Named.l0 : Nat → List ByteArray → ByteArray → Int → Option (ByteArray × Bool)
 | 0, _, _, _ => none
 | k + 1, x0, x1, x6 => if x6 < (x0.length : Int) then (if 0 ≤ x6 then ((spec_l5Begins.f k (rdOf ByteArray.empty x0 x6) x1).bind fun t125 => (if t125 = true then (if 0 ≤ (x1.size : Int) then (if (x1.size : Int) ≤ ((rdOf ByteArray.empty x0 x6).size : Int) then (some ((rdOf ByteArray.empty x0 x6).extract ((x1.size : Int) : Int).toNat (rdOf ByteArray.empty x0 x6).size, true)) else (none)) else (none)) else (spec_l5Named.l0 k x0 x1 (wrap64 (x6 + 1))))) else (none)) else (some ((⟨#[]⟩ : ByteArray), false))
def spec_l5Named.f (k : Nat) (l0 : List ByteArray) (a1 : ByteArray) : Option (ByteArray × Bool) := spec_l5Named.l0 k l0 a1 1
theorem spec_l5Named.mono_l : ∀ k, (∀ y0 y1 y2, LeO (spec_l5Named.l0 k y0 y1 y2) (spec_l5Named.l0 (k + 1) y0 y1 y2))
 | 0 => fun _ _ _ r h => by simp [spec_l5Named.l0] at h
 | k + 1 => by
  have ih0 := spec_l5Named.mono_l k
  ·intro y0 y1 y2
   unfold spec_l5Named.l0
   repeat' first
   | (with_reducible exact ih0 _ _ _)
   | (with_reducible exact spec_l5Begins.mono _ _ _)
   | (with_reducible exact LeO.refl _)
   | (with_reducible exact LeO.none _)
   | (with_reducible refine LeO.ite ?_ ?_)
   | (with_reducible refine LeO.bind ?_ (fun _ => ?_))
   | exact ih0 _ _ _
   | exact spec_l5Begins.mono _ _ _
   | exact LeO.none _
   | refine LeO.ite ?_ ?_
   | refine LeO.bind ?_ (fun _ => ?_)
theorem spec_l5Named.mono : ∀ a0 a1 k, LeO (spec_l5Named.f k a0 a1) (spec_l5Named.f (k + 1) a0 a1) := by
 intro a0 a1 k
 have ih0 := spec_l5Named.mono_l k
 unfold spec_l5Named.f
 repeat' first
   | (with_reducible exact ih0 _ _ _)
   | (with_reducible exact spec_l5Begins.mono _ _ _)
   | (with_reducible exact LeO.refl _)
   | (with_reducible exact LeO.none _)
   | (with_reducible refine LeO.ite ?_ ?_)
   | (with_reducible refine LeO.bind ?_ (fun _ => ?_))
   | exact ih0 _ _ _
   | exact spec_l5Begins.mono _ _ _
   | exact LeO.none _
   | refine LeO.ite ?_ ?_
   | refine LeO.bind ?_ (fun _ => ?_)
set_option maxHeartbeats 8000000 in
set_option maxRecDepth 100000 in
theorem spec_l5Named.calls (k : Nat) (A0 : Option Addr) (c0 : Nat) (l0 : List ByteArray) (a1 : ByteArray) (r1 : ByteArray) (r2 : Bool) (w : World) (hr0 : Kd.C Kd.string w A0 l0.length l0) (hc0 : l0.length ≤ c0) (h : spec_l5Named.f k l0 a1 = some (r1, r2)) :
  Calls Tryd.prog 75 #[.slice A0 l0.length c0, .string a1] w fun e w' => e = .returned (.tuple #[.string r1, .bool r2]) ∧ Below w.heap.size w w' := by
 have HR0 := aM hr0
 have HC0 := aM hc0
 clear hr0 hc0
 have HB := aM (Below.refl w.heap.size w)
 have H : (spec_l5Named.l0 k l0 a1 1) = some (r1, r2) := h
 clear h
 have H' := aM H
 clear H
 go_enter Tryd.func75, Tryd.ntmps75
 go_wp2
 go_loopg [6] k (fun kq v6 w' => ∃ (x6_1 : Int), v6 = .int .i64 x6_1 ∧ Aside0 (spec_l5Named.l0 kq l0 a1 x6_1 = some (r1, r2)) ∧ Aside0 (kq ≤ k) ∧ Aside0 (Below w.heap.size w w'))
 case atStart => exact ⟨(1), bS, H', ⟨Nat.le_refl _⟩, ⟨bB⟩⟩
 case round =>
  clear H'
  try clear p2
  obtain ⟨x6_1, rfl, HA, HK1, HB⟩ := hrel
  cases gk with
  | zero => exact absurd HA.out (by simp [spec_l5Named.l0])
  | succ k1 =>
   have H := HA.out
   clear HA
   simp only [spec_l5Named.l0] at H
   by_cases c3 : x6_1 < (l0.length : Int)
   ·rw [if_pos c3] at H
    have c3b0 : decide (x6_1 < (l0.length : Int)) = true := decide_eq_true c3
    clear c3
    by_cases c4 : 0 ≤ x6_1
    ·rw [if_pos c4] at H
     have c4b0 : decide (0 ≤ x6_1) = true := decide_eq_true c4
     clear c4
     replace H := Option.bind_eq_some_iff.mp H
     obtain ⟨t125, A50, H⟩ := H
     replace H : (if t125 = true then (if 0 ≤ (a1.size : Int) then (if (a1.size : Int) ≤ ((rdOf ByteArray.empty l0 x6_1).size : Int) then (some ((rdOf ByteArray.empty l0 x6_1).extract ((a1.size : Int) : Int).toNat (rdOf ByteArray.empty l0 x6_1).size, true)) else (none)) else (none)) else (spec_l5Named.l0 k1 l0 a1 (wrap64 (x6_1 + 1)))) = some (r1, r2) := H
     have A5 := aM A50
     clear A50
     by_cases c6 : t125 = true
     ·subst c6
      have H1 : (if 0 ≤ (a1.size : Int) then (if (a1.size : Int) ≤ ((rdOf ByteArray.empty l0 x6_1).size : Int) then (some ((rdOf ByteArray.empty l0 x6_1).extract ((a1.size : Int) : Int).toNat (rdOf ByteArray.empty l0 x6_1).size, true)) else (none)) else (none)) = some (r1, r2) := zz25
      clear H
      have H := H1
      clear H1
      by_cases c7 : 0 ≤ (a1.size : Int)
      ·rw [if_pos c7] at H
       have c7b0 := eq_true c7
       have c7b1 : decide (0 ≤ (a1.size : Int)) = true := decide_eq_true c7
       clear c7
       by_cases c8 : (a1.size : Int) ≤ ((rdOf ByteArray.empty l0 x6_1).size : Int)
       ·rw [if_pos c8] at H
        have c8b0 := eq_true c8
        have c8b1 : decide ((a1.size : Int) ≤ ((rdOf ByteArray.empty l0 x6_1).size : Int)) = true := decide_eq_true c8
        clear c8
        simp only [Option.some.injEq, Prod.mk.injEq] at H
        obtain ⟨rfl, rfl⟩ := H
        have p124 : 0 ≤ (x6_1 : Int) := pI
        have q124 : x6_1 < (l0.length : Int) := pI
        obtain ⟨ad124, e124, hx124_0⟩ := Kd.at_string HR0.out x6_1 p124 q124
        cases e124
        replace hx124_0 := (HB.out.cell (World.block_lt_of_cell? w _ hx124_0)).trans hx124_0
        replace p124 := eq_true p124
        replace q124 := eq_true q124
        go_wp2_with (first | ((with_reducible refine gate_callee (f := 74) rfl ?_); refine gL_ (some 18) Tryd.func74 #[.string (rdOf ByteArray.empty l0 x6_1), .string a1] ?_; (with_reducible refine (spec_l5Begins.calls k1 (rdOf ByteArray.empty l0 x6_1) a1 true _ A5.out).mono ?_); rintro e w9 ⟨rfl, hb⟩; refine ⟨_, rfl, ?_⟩; replace HB := aM (below_step bB hb); have p126 : 0 ≤ (x6_1 : Int) := pI; have q126 : x6_1 < (l0.length : Int) := pI; obtain ⟨ad126, e126, hx126_0⟩ := Kd.at_string HR0.out x6_1 p126 q126; obtain rfl : ad124 = ad126 := (by injection e126); replace hx126_0 := (HB.out.cell (World.block_lt_of_cell? w _ hx126_0)).trans hx126_0; replace p126 := eq_true p126; replace q126 := eq_true q126))
        go_ret2
        exact ⟨bE, bB⟩
       rw [if_neg c8] at H
       exact absurd H (by simp)
      rw [if_neg c7] at H
      exact absurd H (by simp)
     replace c6 := Bool.eq_false_iff.mpr c6
     subst c6
     have H1 : (spec_l5Named.l0 k1 l0 a1 (wrap64 (x6_1 + 1))) = some (r1, r2) := zz14
     clear H
     have H := H1
     clear H1
     have H' := aM H
     clear H
     have p124 : 0 ≤ (x6_1 : Int) := pI
     have q124 : x6_1 < (l0.length : Int) := pI
     obtain ⟨ad124, e124, hx124_0⟩ := Kd.at_string HR0.out x6_1 p124 q124
     cases e124
     replace hx124_0 := (HB.out.cell (World.block_lt_of_cell? w _ hx124_0)).trans hx124_0
     replace p124 := eq_true p124
     replace q124 := eq_true q124
     go_wp2_with (first | ((with_reducible refine gate_callee (f := 74) rfl ?_); refine gL_ (some 18) Tryd.func74 #[.string (rdOf ByteArray.empty l0 x6_1), .string a1] ?_; (with_reducible refine (spec_l5Begins.calls k1 (rdOf ByteArray.empty l0 x6_1) a1 false _ A5.out).mono ?_); rintro e w10 ⟨rfl, hb⟩; refine ⟨_, rfl, ?_⟩; replace HB := aM (below_step bB hb); (try clear hi)))
     go_roundg k1
     case measure => have := HK1.out; omega
     case rel => exact ⟨(wrap64 (x6_1 + 1)), bS, H', ⟨by have := HK1.out; omega⟩, ⟨bB⟩⟩
    rw [if_neg c4] at H
    exact absurd H (by simp)
   rw [if_neg c3] at H
   have c3b0 : decide (x6_1 < (l0.length : Int)) = false := decide_eq_false c3
   clear c3
   simp only [Option.some.injEq, Prod.mk.injEq] at H
   obtain ⟨rfl, rfl⟩ := H
   go_wp2
   go_ret2
   exact ⟨bE, bB⟩
def spec_l2Name.f (a0 : Int) : Option (ByteArray) := (some (([(⟨#[]⟩ : ByteArray), (⟨#[117, 115, 45, 97, 115, 99, 105, 105]⟩ : ByteArray), (⟨#[105, 115, 111, 45, 56, 56, 53, 57, 45, 49]⟩ : ByteArray), (⟨#[105, 115, 111, 45, 56, 56, 53, 57, 45, 53]⟩ : ByteArray), (⟨#[117, 116, 102, 45, 56]⟩ : ByteArray), (⟨#[117, 116, 102, 45, 49, 54]⟩ : ByteArray)] : List ByteArray) : List ByteArray)).bind fun y127 => (if 0 ≤ a0 then (if a0 < (y127.length : Int) then (some (rdOf ByteArray.empty y127 a0)) else (none)) else (none))
set_option maxHeartbeats 8000000 in
set_option maxRecDepth 100000 in
theorem spec_l2Name.calls (a0 : Int) (r : ByteArray) (w : World) (h : spec_l2Name.f a0 = some r) :
  Calls Tryd.prog 98 #[.int .i64 a0] w fun e w' => e = .returned (.string r) ∧ Below w.heap.size w w' := by
 have HB := aM (Below.refl w.heap.size w)
 have H : ((some (([(⟨#[]⟩ : ByteArray), (⟨#[117, 115, 45, 97, 115, 99, 105, 105]⟩ : ByteArray), (⟨#[105, 115, 111, 45, 56, 56, 53, 57, 45, 49]⟩ : ByteArray), (⟨#[105, 115, 111, 45, 56, 56, 53, 57, 45, 53]⟩ : ByteArray), (⟨#[117, 116, 102, 45, 56]⟩ : ByteArray), (⟨#[117, 116, 102, 45, 49, 54]⟩ : ByteArray)] : List ByteArray) : List ByteArray)).bind fun y127 => (if 0 ≤ a0 then (if a0 < (y127.length : Int) then (some (rdOf ByteArray.empty y127 a0)) else (none)) else (none))) = some r := h
 clear h
 obtain ⟨y127, hy127⟩ : ∃ y_ : List ByteArray, y_ = (([(⟨#[]⟩ : ByteArray), (⟨#[117, 115, 45, 97, 115, 99, 105, 105]⟩ : ByteArray), (⟨#[105, 115, 111, 45, 56, 56, 53, 57, 45, 49]⟩ : ByteArray), (⟨#[105, 115, 111, 45, 56, 56, 53, 57, 45, 53]⟩ : ByteArray), (⟨#[117, 116, 102, 45, 56]⟩ : ByteArray), (⟨#[117, 116, 102, 45, 49, 54]⟩ : ByteArray)] : List ByteArray)) := ⟨_, rfl⟩
 replace H : (if 0 ≤ a0 then (if a0 < (y127.length : Int) then (some (rdOf ByteArray.empty y127 a0)) else (none)) else (none)) = some r := zz0 hy127
 have Ny127 := aM hy127
 clear hy127
 by_cases c2 : 0 ≤ a0
 ·rw [if_pos c2] at H
  have c2b0 : decide (0 ≤ a0) = true := decide_eq_true c2
  clear c2
  by_cases c3 : a0 < (y127.length : Int)
  ·rw [if_pos c3] at H
   have c3b0 : decide (a0 < (y127.length : Int)) = true := decide_eq_true c3
   clear c3
   obtain rfl := Option.some.inj H
   go_enter Tryd.func98, Tryd.ntmps98
   go_wp2_with (first | ((with_reducible refine gate_dst (N := 3) rfl ?_); refine Kd.R_lit Kd.string _ 9 ?hg (N := 3) ?hd (xs := ([(⟨#[]⟩ : ByteArray), (⟨#[117, 115, 45, 97, 115, 99, 105, 105]⟩ : ByteArray), (⟨#[105, 115, 111, 45, 56, 56, 53, 57, 45, 49]⟩ : ByteArray), (⟨#[105, 115, 111, 45, 56, 56, 53, 57, 45, 53]⟩ : ByteArray), (⟨#[117, 116, 102, 45, 56]⟩ : ByteArray), (⟨#[117, 116, 102, 45, 49, 54]⟩ : ByteArray)] : List ByteArray)) (inner := [.string (⟨#[]⟩ : ByteArray), .string (⟨#[117, 115, 45, 97, 115, 99, 105, 105]⟩ : ByteArray), .string (⟨#[105, 115, 111, 45, 56, 56, 53, 57, 45, 49]⟩ : ByteArray), .string (⟨#[105, 115, 111, 45, 56, 56, 53, 57, 45, 53]⟩ : ByteArray), .string (⟨#[117, 116, 102, 45, 56]⟩ : ByteArray), .string (⟨#[117, 116, 102, 45, 49, 54]⟩ : ByteArray)]) (ok := fun _ => True) (okp := fun _ => True) ?hr ?hp (fun _ hk => hk) trivial (Below.refl _ _) (Nat.le_refl _) (by simp) ?_; (case hd => rfl); (case hg => rfl); (case hr => exact zz12); (case hp => exact (Reps.one (show Kd.M Kd.string _ _ _ (⟨#[]⟩ : ByteArray) [.string (⟨#[]⟩ : ByteArray)] from rfl) (Reps.one (show Kd.M Kd.string _ _ _ (⟨#[117, 115, 45, 97, 115, 99, 105, 105]⟩ : ByteArray) [.string (⟨#[117, 115, 45, 97, 115, 99, 105, 105]⟩ : ByteArray)] from rfl) (Reps.one (show Kd.M Kd.string _ _ _ (⟨#[105, 115, 111, 45, 56, 56, 53, 57, 45, 49]⟩ : ByteArray) [.string (⟨#[105, 115, 111, 45, 56, 56, 53, 57, 45, 49]⟩ : ByteArray)] from rfl) (Reps.one (show Kd.M Kd.string _ _ _ (⟨#[105, 115, 111, 45, 56, 56, 53, 57, 45, 53]⟩ : ByteArray) [.string (⟨#[105, 115, 111, 45, 56, 56, 53, 57, 45, 53]⟩ : ByteArray)] from rfl) (Reps.one (show Kd.M Kd.string _ _ _ (⟨#[117, 116, 102, 45, 56]⟩ : ByteArray) [.string (⟨#[117, 116, 102, 45, 56]⟩ : ByteArray)] from rfl) (Reps.one (show Kd.M Kd.string _ _ _ (⟨#[117, 116, 102, 45, 49, 54]⟩ : ByteArray) [.string (⟨#[117, 116, 102, 45, 49, 54]⟩ : ByteArray)] from rfl) (Reps.none _ _)))))))); intro v128 w4 ho5 hb hg_ hnew_; clear hg_ hnew_; (first | rw [← Ny127.out] at ho5 | (simp only [Int.reduceToNat] at ho5; rw [← Ny127.out] at ho5)); have HO129 := aM (Kd.R_lower ho5 (below_size bB)); replace HB := aM (below_step bB hb); clear hb ho5; obtain ⟨Ao6, co6, eo6⟩ := Kd.R_slice HO129.out; subst eo6; have p130 : 0 ≤ (a0 : Int) := pI; have q130 : a0 < (y127.length : Int) := pI; obtain ⟨ad130, e130, hx130_0⟩ := Kd.at_string (Kd.R_reads' HO129.out).2.2 a0 p130 q130; cases e130; replace p130 := eq_true p130; replace q130 := eq_true q130))
   go_ret
   exact ⟨bE, bB⟩
  rw [if_neg c3] at H
  exact absurd H (by simp)
 rw [if_neg c2] at H
 exact absurd H (by simp)
def spec_l2Of.l0 : Nat → ByteArray → Int → Option (Int)
 | 0, _, _ => none
 | k + 1, x0, x3 => if x3 ≤ 5 then ((spec_l2Name.f x3).bind fun t131 => ((spec_l2Lower.f k x0).bind fun t132 => (if t131.toList = t132.toList then (some x3) else (spec_l2Of.l0 k x0 (wrap64 (x3 + 1)))))) else (some 0)
def spec_l2Of.f (k : Nat) (a0 : ByteArray) : Option (Int) := spec_l2Of.l0 k a0 1
theorem spec_l2Of.mono_l : ∀ k, (∀ y0 y1, LeO (spec_l2Of.l0 k y0 y1) (spec_l2Of.l0 (k + 1) y0 y1))
 | 0 => fun _ _ r h => by simp [spec_l2Of.l0] at h
 | k + 1 => by
  have ih0 := spec_l2Of.mono_l k
  ·intro y0 y1
   unfold spec_l2Of.l0
   repeat' first
   | (with_reducible exact ih0 _ _)
   | (with_reducible exact spec_l2Lower.mono _ _)
   | (with_reducible exact LeO.refl _)
   | (with_reducible exact LeO.none _)
   | (with_reducible refine LeO.ite ?_ ?_)
   | (with_reducible refine LeO.bind ?_ (fun _ => ?_))
   | exact ih0 _ _
   | exact spec_l2Lower.mono _ _
   | exact LeO.none _
   | refine LeO.ite ?_ ?_
   | refine LeO.bind ?_ (fun _ => ?_)
theorem spec_l2Of.mono : ∀ a0 k, LeO (spec_l2Of.f k a0) (spec_l2Of.f (k + 1) a0) := by
 intro a0 k
 have ih0 := spec_l2Of.mono_l k
 unfold spec_l2Of.f
 repeat' first
   | (with_reducible exact ih0 _ _)
   | (with_reducible exact spec_l2Lower.mono _ _)
   | (with_reducible exact LeO.refl _)
   | (with_reducible exact LeO.none _)
   | (with_reducible refine LeO.ite ?_ ?_)
   | (with_reducible refine LeO.bind ?_ (fun _ => ?_))
   | exact ih0 _ _
   | exact spec_l2Lower.mono _ _
   | exact LeO.none _
   | refine LeO.ite ?_ ?_
   | refine LeO.bind ?_ (fun _ => ?_)
set_option maxHeartbeats 8000000 in
set_option maxRecDepth 100000 in
theorem spec_l2Of.calls (k : Nat) (a0 : ByteArray) (r : Int) (w : World) (h : spec_l2Of.f k a0 = some r) :
  Calls Tryd.prog 76 #[.string a0] w fun e w' => e = .returned (.int .i64 r) ∧ Below w.heap.size w w' := by
 have HB := aM (Below.refl w.heap.size w)
 have H : (spec_l2Of.l0 k a0 1) = some r := h
 clear h
 have H' := aM H
 clear H
 go_enter Tryd.func76, Tryd.ntmps76
 go_wp2
 go_loopg [3] k (fun kq v3 w' => ∃ (x3_1 : Int), v3 = .int .i64 x3_1 ∧ Aside0 (spec_l2Of.l0 kq a0 x3_1 = some r) ∧ Aside0 (kq ≤ k) ∧ Aside0 (Below w.heap.size w w'))
 case atStart => exact ⟨(1), bS, H', ⟨Nat.le_refl _⟩, ⟨bB⟩⟩
 case round =>
  clear H'
  obtain ⟨x3_1, rfl, HA, HK1, HB⟩ := hrel
  cases gk with
  | zero => exact absurd HA.out (by simp [spec_l2Of.l0])
  | succ k1 =>
   have H := HA.out
   clear HA
   simp only [spec_l2Of.l0] at H
   by_cases c2 : x3_1 ≤ 5
   ·rw [if_pos c2] at H
    have c2b0 : decide (x3_1 ≤ 5) = true := decide_eq_true c2
    clear c2
    replace H := Option.bind_eq_some_iff.mp H
    obtain ⟨t131, A30, H⟩ := H
    replace H : ((spec_l2Lower.f k1 a0).bind fun t132 => (if t131.toList = t132.toList then (some x3_1) else (spec_l2Of.l0 k1 a0 (wrap64 (x3_1 + 1))))) = some r := H
    have A3 := aM A30
    clear A30
    replace H := Option.bind_eq_some_iff.mp H
    obtain ⟨t132, A40, H⟩ := H
    replace H : (if t131.toList = t132.toList then (some x3_1) else (spec_l2Of.l0 k1 a0 (wrap64 (x3_1 + 1)))) = some r := H
    have A4 := aM A40
    clear A40
    by_cases c5 : t131.toList = t132.toList
    ·rw [if_pos c5] at H
     have c5b0 : (t131.toList == t132.toList) = true := beq_iff_eq.mpr c5
     have c5b1 : (t131.toList != t132.toList) = false := bne_eq_false_iff_eq.mpr c5
     clear c5
     obtain rfl := Option.some.inj H
     go_wp2_with (first | ((with_reducible refine gate_callee (f := 98) rfl ?_); refine gL_ (some 9) Tryd.func98 #[.int .i64 x3_1] ?_; (with_reducible refine (spec_l2Name.calls x3_1 t131 _ A3.out).mono ?_); rintro e w6 ⟨rfl, hb⟩; refine ⟨_, rfl, ?_⟩; replace HB := aM (below_step bB hb); (try clear hi)) | ((with_reducible refine gate_callee (f := 97) rfl ?_); refine gL_ (some 11) Tryd.func97 #[.string a0] ?_; (with_reducible refine (spec_l2Lower.calls k1 a0 t132 _ A4.out).mono ?_); rintro e w7 ⟨rfl, hb⟩; refine ⟨_, rfl, ?_⟩; replace HB := aM (below_step bB hb); (try clear hi)))
     go_ret
     exact ⟨bE, bB⟩
    rw [if_neg c5] at H
    have c5b0 : (t131.toList == t132.toList) = false := beq_eq_false_iff_ne.mpr c5
    have c5b1 : (t131.toList != t132.toList) = true := bne_iff_ne.mpr c5
    have H' := aM H
    clear H
    go_wp2_with (first | ((with_reducible refine gate_callee (f := 98) rfl ?_); refine gL_ (some 9) Tryd.func98 #[.int .i64 x3_1] ?_; (with_reducible refine (spec_l2Name.calls x3_1 t131 _ A3.out).mono ?_); rintro e w8 ⟨rfl, hb⟩; refine ⟨_, rfl, ?_⟩; replace HB := aM (below_step bB hb); (try clear hi)) | ((with_reducible refine gate_callee (f := 97) rfl ?_); refine gL_ (some 11) Tryd.func97 #[.string a0] ?_; (with_reducible refine (spec_l2Lower.calls k1 a0 t132 _ A4.out).mono ?_); rintro e w9 ⟨rfl, hb⟩; refine ⟨_, rfl, ?_⟩; replace HB := aM (below_step bB hb); (try clear hi)))
    go_roundg k1
    case measure => have := HK1.out; omega
    case rel => exact ⟨(wrap64 (x3_1 + 1)), bS, H', ⟨by have := HK1.out; omega⟩, ⟨bB⟩⟩
   rw [if_neg c2] at H
   have c2b0 : decide (x3_1 ≤ 5) = false := decide_eq_false c2
   clear c2
   obtain rfl := Option.some.inj H
   go_wp2
   go_ret
   exact ⟨bE, bB⟩
def spec_l5Type.f (k : Nat) (a0 : ByteArray) : Option (Int × Int × Int × Int × Int × Int × Int) := (spec_l5Pieces.f k a0).bind fun t134 => (if (t134.length : Int) = 0 then (some (3, 0, 0, 0, 0, 0, 0)) else (if 0 < (t134.length : Int) then ((spec_l5Begins.f k (rdOf ByteArray.empty t134 0) (⟨#[109, 117, 108, 116, 105, 112, 97, 114, 116, 47]⟩ : ByteArray)).bind fun t138 => (if t138 = true then (some (2, 0, 0, 0, 0, 0, 0)) else ((spec_l5Begins.f k (rdOf ByteArray.empty t134 0) (⟨#[116, 101, 120, 116, 47]⟩ : ByteArray)).bind fun t140 => (if t140 = true then ((spec_l5Named.f k t134 (⟨#[99, 104, 97, 114, 115, 101, 116, 61]⟩ : ByteArray)).bind fun bt142 => (if bt142.2 = true then ((spec_l2Of.f k bt142.1).bind fun t144 => (some (1, t144, 0, 0, 0, 0, 0))) else (some (1, 1, 0, 0, 0, 0, 0)))) else (some (3, 0, 0, 0, 0, 0, 0)))))) else (none)))
theorem spec_l5Type.mono : ∀ a0 k, LeO (spec_l5Type.f k a0) (spec_l5Type.f (k + 1) a0) := by
 intro a0 k
 unfold spec_l5Type.f
 repeat' first
   | (with_reducible exact spec_l2Of.mono _ _)
   | (with_reducible exact spec_l5Begins.mono _ _ _)
   | (with_reducible exact spec_l5Named.mono _ _ _)
   | (with_reducible exact spec_l5Pieces.mono _ _)
   | (with_reducible exact LeO.refl _)
   | (with_reducible exact LeO.none _)
   | (with_reducible refine LeO.ite ?_ ?_)
   | (with_reducible refine LeO.bind ?_ (fun _ => ?_))
   | exact spec_l2Of.mono _ _
   | exact spec_l5Begins.mono _ _ _
   | exact spec_l5Named.mono _ _ _
   | exact spec_l5Pieces.mono _ _
   | exact LeO.none _
   | refine LeO.ite ?_ ?_
   | refine LeO.bind ?_ (fun _ => ?_)
set_option maxHeartbeats 8000000 in
set_option maxRecDepth 100000 in
theorem spec_l5Type.calls (k : Nat) (a0 : ByteArray) (r1 : Int) (r2 : Int) (r3 : Int) (r4 : Int) (r5 : Int) (r6 : Int) (r7 : Int) (w : World) (h : spec_l5Type.f k a0 = some (r1, r2, r3, r4, r5, r6, r7)) :
  Calls Tryd.prog 40 #[.string a0] w fun e w' => e = .returned (.agg #[.int .i64 r1, .int .i64 r2, .int .i64 r3, .int .i64 r4, .int .i64 r5, .int .i64 r6, .int .i64 r7]) ∧ Below w.heap.size w w' := by
 have hu23 := Tryd.underlying23
 have HB := aM (Below.refl w.heap.size w)
 have H : ((spec_l5Pieces.f k a0).bind fun t134 => (if (t134.length : Int) = 0 then (some (3, 0, 0, 0, 0, 0, 0)) else (if 0 < (t134.length : Int) then ((spec_l5Begins.f k (rdOf ByteArray.empty t134 0) (⟨#[109, 117, 108, 116, 105, 112, 97, 114, 116, 47]⟩ : ByteArray)).bind fun t138 => (if t138 = true then (some (2, 0, 0, 0, 0, 0, 0)) else ((spec_l5Begins.f k (rdOf ByteArray.empty t134 0) (⟨#[116, 101, 120, 116, 47]⟩ : ByteArray)).bind fun t140 => (if t140 = true then ((spec_l5Named.f k t134 (⟨#[99, 104, 97, 114, 115, 101, 116, 61]⟩ : ByteArray)).bind fun bt142 => (if bt142.2 = true then ((spec_l2Of.f k bt142.1).bind fun t144 => (some (1, t144, 0, 0, 0, 0, 0))) else (some (1, 1, 0, 0, 0, 0, 0)))) else (some (3, 0, 0, 0, 0, 0, 0)))))) else (none)))) = some (r1, r2, r3, r4, r5, r6, r7) := h
 clear h
 replace H := Option.bind_eq_some_iff.mp H
 obtain ⟨t134, A20, H⟩ := H
 replace H : (if (t134.length : Int) = 0 then (some (3, 0, 0, 0, 0, 0, 0)) else (if 0 < (t134.length : Int) then ((spec_l5Begins.f k (rdOf ByteArray.empty t134 0) (⟨#[109, 117, 108, 116, 105, 112, 97, 114, 116, 47]⟩ : ByteArray)).bind fun t138 => (if t138 = true then (some (2, 0, 0, 0, 0, 0, 0)) else ((spec_l5Begins.f k (rdOf ByteArray.empty t134 0) (⟨#[116, 101, 120, 116, 47]⟩ : ByteArray)).bind fun t140 => (if t140 = true then ((spec_l5Named.f k t134 (⟨#[99, 104, 97, 114, 115, 101, 116, 61]⟩ : ByteArray)).bind fun bt142 => (if bt142.2 = true then ((spec_l2Of.f k bt142.1).bind fun t144 => (some (1, t144, 0, 0, 0, 0, 0))) else (some (1, 1, 0, 0, 0, 0, 0)))) else (some (3, 0, 0, 0, 0, 0, 0)))))) else (none))) = some (r1, r2, r3, r4, r5, r6, r7) := H
 have A2 := aM A20
 clear A20
 have HQ_ := aM H
 clear H
 go_enter Tryd.func40, Tryd.ntmps40
 have H := HQ_.out
 clear HQ_
 by_cases c3 : (t134.length : Int) = 0
 ·rw [if_pos c3] at H
  have c3b0 : ((t134.length : Int) == 0) = true := beq_iff_eq.mpr c3
  have c3b1 : ((t134.length : Int) != 0) = false := bne_eq_false_iff_eq.mpr c3
  clear c3
  simp only [Option.some.injEq, Prod.mk.injEq] at H
  obtain ⟨rfl, rfl, rfl, rfl, rfl, rfl, rfl⟩ := H
  (try simp only [c3b0, c3b1])
  go_wp2_with (first | ((with_reducible refine gate_dst (N := 2) rfl ?_); refine box_event ?hg (N := 2) ?hd (cs := #[.int .i64 0, .int .i64 0, .int .i64 0, .int .i64 0, .int .i64 0, .int .i64 0, .int .i64 0]) (t := 23) ?hr ?_; (case hd => rfl); (case hg => rfl); (case hr => exact zz12); intro gb133 hg w4 hbox hb; have BK133 := aM (hbox); have GW133 := aM ((zz20 : w.heap.size ≤ gb133)); have GE133 := aM ((zz20 : w.heap.size ≤ gb133)); replace HB := aM (below_step bB hb); clear hb hbox hg) | ((with_reducible refine gate_callee (f := 73) rfl ?_); refine gL_ (some 8) Tryd.func73 #[.string a0] ?_; (with_reducible refine (spec_l5Pieces.calls k a0 t134 _ A2.out).mono ?_); rintro e w5 ⟨v135, rfl, ho0, hb⟩; refine ⟨_, rfl, ?_⟩; have HO136 := aM (Kd.R_lower ho0 (below_size (bG GE133))); replace BK133 := aM (blk_below (g := gb133) (o := .cells #[.int .i64 0, .int .i64 0, .int .i64 0, .int .i64 0, .int .i64 0, .int .i64 0, .int .i64 0] 23 (0, 0)) (bL BK133) hb); replace HB := aM (below_step (bG GE133) hb); (try clear ho0); obtain ⟨Ao6, co6, eo6⟩ := Kd.R_slice HO136.out; subst eo6; have hcz7_0 : w5.cell? ⟨gb133, 0, none⟩ = some (.int .i64 0) := (blk_cell BK133.out 0).trans rfl; have hcz7_1 : w5.cell? ⟨gb133, 1, none⟩ = some (.int .i64 0) := (blk_cell BK133.out 1).trans rfl; have hcz7_2 : w5.cell? ⟨gb133, 2, none⟩ = some (.int .i64 0) := (blk_cell BK133.out 2).trans rfl; have hcz7_3 : w5.cell? ⟨gb133, 3, none⟩ = some (.int .i64 0) := (blk_cell BK133.out 3).trans rfl; have hcz7_4 : w5.cell? ⟨gb133, 4, none⟩ = some (.int .i64 0) := (blk_cell BK133.out 4).trans rfl; have hcz7_5 : w5.cell? ⟨gb133, 5, none⟩ = some (.int .i64 0) := (blk_cell BK133.out 5).trans rfl; have hcz7_6 : w5.cell? ⟨gb133, 6, none⟩ = some (.int .i64 0) := (blk_cell BK133.out 6).trans rfl; have hfz7_0 := blk_frozen BK133.out 0; have hfz7_1 := blk_frozen BK133.out 1; have hfz7_2 := blk_frozen BK133.out 2; have hfz7_3 := blk_frozen BK133.out 3; have hfz7_4 := blk_frozen BK133.out 4; have hfz7_5 := blk_frozen BK133.out 5; have hfz7_6 := blk_frozen BK133.out 6))
  refine bodyPost_ret (results_cell_row rfl _ _ gb133 23 #[.int .i64 3, .int .i64 0, .int .i64 0, .int .i64 0, .int .i64 0, .int .i64 0, .int .i64 0] (0, 0) _ rfl (zz3 BK133.out) Tryd.underlying23 rfl (by kernel_rfl)) rfl ?_
  exact ⟨bE, bG GE133⟩
 rw [if_neg c3] at H
 have c3b0 : ((t134.length : Int) == 0) = false := beq_eq_false_iff_ne.mpr c3
 have c3b1 : ((t134.length : Int) != 0) = true := bne_iff_ne.mpr c3
 have c3b2 : ¬ (t134 = []) := fun h_ => c3 (by rw [h_]; rfl)
 (try simp only [c3b0, c3b1, c3b2])
 by_cases c8 : 0 < (t134.length : Int)
 ·rw [if_pos c8] at H
  have c8b0 : decide (0 < (t134.length : Int)) = true := decide_eq_true c8
  have c8b1 : decide (0 < t134.length) = true := decide_eq_true (by omega)
  clear c8
  replace H := Option.bind_eq_some_iff.mp H
  obtain ⟨t138, A90, H⟩ := H
  replace H : (if t138 = true then (some (2, 0, 0, 0, 0, 0, 0)) else ((spec_l5Begins.f k (rdOf ByteArray.empty t134 0) (⟨#[116, 101, 120, 116, 47]⟩ : ByteArray)).bind fun t140 => (if t140 = true then ((spec_l5Named.f k t134 (⟨#[99, 104, 97, 114, 115, 101, 116, 61]⟩ : ByteArray)).bind fun bt142 => (if bt142.2 = true then ((spec_l2Of.f k bt142.1).bind fun t144 => (some (1, t144, 0, 0, 0, 0, 0))) else (some (1, 1, 0, 0, 0, 0, 0)))) else (some (3, 0, 0, 0, 0, 0, 0))))) = some (r1, r2, r3, r4, r5, r6, r7) := H
  have A9 := aM A90
  clear A90
  by_cases c10 : t138 = true
  ·subst c10
   have H1 : (some (2, 0, 0, 0, 0, 0, 0)) = some (r1, r2, r3, r4, r5, r6, r7) := zz25
   clear H
   have H := H1
   clear H1
   simp only [Option.some.injEq, Prod.mk.injEq] at H
   obtain ⟨rfl, rfl, rfl, rfl, rfl, rfl, rfl⟩ := H
   go_wp2_with (first | ((with_reducible refine gate_dst (N := 2) rfl ?_); refine box_event ?hg (N := 2) ?hd (cs := #[.int .i64 0, .int .i64 0, .int .i64 0, .int .i64 0, .int .i64 0, .int .i64 0, .int .i64 0]) (t := 23) ?hr ?_; (case hd => rfl); (case hg => rfl); (case hr => exact zz12); intro gb133 hg w11 hbox hb; have BK133 := aM (hbox); have GW133 := aM ((zz20 : w.heap.size ≤ gb133)); have GE133 := aM ((zz20 : w.heap.size ≤ gb133)); replace HB := aM (below_step bB hb); clear hb hbox hg) | ((with_reducible refine gate_callee (f := 73) rfl ?_); refine gL_ (some 8) Tryd.func73 #[.string a0] ?_; (with_reducible refine (spec_l5Pieces.calls k a0 t134 _ A2.out).mono ?_); rintro e w12 ⟨v135, rfl, ho0, hb⟩; refine ⟨_, rfl, ?_⟩; have HO136 := aM (Kd.R_lower ho0 (below_size (bG GE133))); replace BK133 := aM (blk_below (g := gb133) (o := .cells #[.int .i64 0, .int .i64 0, .int .i64 0, .int .i64 0, .int .i64 0, .int .i64 0, .int .i64 0] 23 (0, 0)) (bL BK133) hb); replace HB := aM (below_step (bG GE133) hb); (try clear ho0); obtain ⟨Ao13, co13, eo13⟩ := Kd.R_slice HO136.out; subst eo13; have p137 : 0 ≤ (0 : Int) := (by omega); have q137 : 0 < (t134.length : Int) := pI; obtain ⟨ad137, e137, hx137_0⟩ := Kd.at_string (Kd.R_reads' HO136.out).2.2 0 p137 q137; cases e137; have qi137 : (0 < t134.length) = True := eq_true (by omega); (try rw [show ((0 : Int)).toNat = 0 from rfl] at hx137_0); (try rw [Addr.add_zero'] at hx137_0); replace p137 := eq_true p137; replace q137 := eq_true q137) | ((with_reducible refine gate_callee (f := 74) rfl ?_); refine gL_ (some 16) Tryd.func74 #[.string (rdOf ByteArray.empty t134 0), .string (⟨#[109, 117, 108, 116, 105, 112, 97, 114, 116, 47]⟩ : ByteArray)] ?_; (with_reducible refine (spec_l5Begins.calls k (rdOf ByteArray.empty t134 0) (⟨#[109, 117, 108, 116, 105, 112, 97, 114, 116, 47]⟩ : ByteArray) true _ A9.out).mono ?_); rintro e w14 ⟨rfl, hb⟩; refine ⟨_, rfl, ?_⟩; replace HO136 := aM (Kd.R_below (bR HO136) hb); replace BK133 := aM (blk_below (g := gb133) (o := .cells #[.int .i64 0, .int .i64 0, .int .i64 0, .int .i64 0, .int .i64 0, .int .i64 0, .int .i64 0] 23 (0, 0)) (bL BK133) hb); replace HB := aM (below_step (bG GE133) hb); have hcz15_0 : w14.cell? ⟨gb133, 0, none⟩ = some (.int .i64 0) := (blk_cell BK133.out 0).trans rfl; have hcz15_1 : w14.cell? ⟨gb133, 1, none⟩ = some (.int .i64 0) := (blk_cell BK133.out 1).trans rfl; have hcz15_2 : w14.cell? ⟨gb133, 2, none⟩ = some (.int .i64 0) := (blk_cell BK133.out 2).trans rfl; have hcz15_3 : w14.cell? ⟨gb133, 3, none⟩ = some (.int .i64 0) := (blk_cell BK133.out 3).trans rfl; have hcz15_4 : w14.cell? ⟨gb133, 4, none⟩ = some (.int .i64 0) := (blk_cell BK133.out 4).trans rfl; have hcz15_5 : w14.cell? ⟨gb133, 5, none⟩ = some (.int .i64 0) := (blk_cell BK133.out 5).trans rfl; have hcz15_6 : w14.cell? ⟨gb133, 6, none⟩ = some (.int .i64 0) := (blk_cell BK133.out 6).trans rfl; have hfz15_0 := blk_frozen BK133.out 0; have hfz15_1 := blk_frozen BK133.out 1; have hfz15_2 := blk_frozen BK133.out 2; have hfz15_3 := blk_frozen BK133.out 3; have hfz15_4 := blk_frozen BK133.out 4; have hfz15_5 := blk_frozen BK133.out 5; have hfz15_6 := blk_frozen BK133.out 6))
   refine bodyPost_ret (results_cell_row rfl _ _ gb133 23 #[.int .i64 2, .int .i64 0, .int .i64 0, .int .i64 0, .int .i64 0, .int .i64 0, .int .i64 0] (0, 0) _ rfl (by (with_reducible repeat (first | refine blk_drewN ?_ _ | refine blk_drew ?_ | refine blk_alloc ?_ _)); refine blk_put (cs := #[.int .i64 2, .int .i64 0, .int .i64 0, .int .i64 0, .int .i64 0, .int .i64 0, .int .i64 0]) ?_ 6 _ rfl; (with_reducible repeat (first | refine blk_drewN ?_ _ | refine blk_drew ?_ | refine blk_alloc ?_ _)); refine blk_put (cs := #[.int .i64 2, .int .i64 0, .int .i64 0, .int .i64 0, .int .i64 0, .int .i64 0, .int .i64 0]) ?_ 5 _ rfl; (with_reducible repeat (first | refine blk_drewN ?_ _ | refine blk_drew ?_ | refine blk_alloc ?_ _)); refine blk_put (cs := #[.int .i64 2, .int .i64 0, .int .i64 0, .int .i64 0, .int .i64 0, .int .i64 0, .int .i64 0]) ?_ 4 _ rfl; (with_reducible repeat (first | refine blk_drewN ?_ _ | refine blk_drew ?_ | refine blk_alloc ?_ _)); refine blk_put (cs := #[.int .i64 2, .int .i64 0, .int .i64 0, .int .i64 0, .int .i64 0, .int .i64 0, .int .i64 0]) ?_ 3 _ rfl; (with_reducible repeat (first | refine blk_drewN ?_ _ | refine blk_drew ?_ | refine blk_alloc ?_ _)); refine blk_put (cs := #[.int .i64 2, .int .i64 0, .int .i64 0, .int .i64 0, .int .i64 0, .int .i64 0, .int .i64 0]) ?_ 2 _ rfl; (with_reducible repeat (first | refine blk_drewN ?_ _ | refine blk_drew ?_ | refine blk_alloc ?_ _)); refine blk_put (cs := #[.int .i64 2, .int .i64 0, .int .i64 0, .int .i64 0, .int .i64 0, .int .i64 0, .int .i64 0]) ?_ 1 _ rfl; (with_reducible repeat (first | refine blk_drewN ?_ _ | refine blk_drew ?_ | refine blk_alloc ?_ _)); refine blk_put (cs := #[.int .i64 0, .int .i64 0, .int .i64 0, .int .i64 0, .int .i64 0, .int .i64 0, .int .i64 0]) ?_ 0 _ rfl; (with_reducible repeat (first | refine blk_drewN ?_ _ | refine blk_drew ?_ | refine blk_alloc ?_ _)); exact BK133.out) Tryd.underlying23 rfl (by kernel_rfl)) rfl ?_
   exact ⟨bE, bG GE133⟩
  replace c10 := Bool.eq_false_iff.mpr c10
  subst c10
  have H1 : ((spec_l5Begins.f k (rdOf ByteArray.empty t134 0) (⟨#[116, 101, 120, 116, 47]⟩ : ByteArray)).bind fun t140 => (if t140 = true then ((spec_l5Named.f k t134 (⟨#[99, 104, 97, 114, 115, 101, 116, 61]⟩ : ByteArray)).bind fun bt142 => (if bt142.2 = true then ((spec_l2Of.f k bt142.1).bind fun t144 => (some (1, t144, 0, 0, 0, 0, 0))) else (some (1, 1, 0, 0, 0, 0, 0)))) else (some (3, 0, 0, 0, 0, 0, 0)))) = some (r1, r2, r3, r4, r5, r6, r7) := zz14
  clear H
  have H := H1
  clear H1
  replace H := Option.bind_eq_some_iff.mp H
  obtain ⟨t140, A160, H⟩ := H
  replace H : (if t140 = true then ((spec_l5Named.f k t134 (⟨#[99, 104, 97, 114, 115, 101, 116, 61]⟩ : ByteArray)).bind fun bt142 => (if bt142.2 = true then ((spec_l2Of.f k bt142.1).bind fun t144 => (some (1, t144, 0, 0, 0, 0, 0))) else (some (1, 1, 0, 0, 0, 0, 0)))) else (some (3, 0, 0, 0, 0, 0, 0))) = some (r1, r2, r3, r4, r5, r6, r7) := H
  have A16 := aM A160
  clear A160
  by_cases c17 : t140 = true
  ·subst c17
   have H1 : ((spec_l5Named.f k t134 (⟨#[99, 104, 97, 114, 115, 101, 116, 61]⟩ : ByteArray)).bind fun bt142 => (if bt142.2 = true then ((spec_l2Of.f k bt142.1).bind fun t144 => (some (1, t144, 0, 0, 0, 0, 0))) else (some (1, 1, 0, 0, 0, 0, 0)))) = some (r1, r2, r3, r4, r5, r6, r7) := zz25
   clear H
   have H := H1
   clear H1
   replace H := Option.bind_eq_some_iff.mp H
   obtain ⟨⟨t142, t143⟩, A180, H⟩ := H
   replace H : (if t143 = true then ((spec_l2Of.f k t142).bind fun t144 => (some (1, t144, 0, 0, 0, 0, 0))) else (some (1, 1, 0, 0, 0, 0, 0))) = some (r1, r2, r3, r4, r5, r6, r7) := H
   have A18 := aM A180
   clear A180
   by_cases c19 : t143 = true
   ·subst c19
    have H1 : ((spec_l2Of.f k t142).bind fun t144 => (some (1, t144, 0, 0, 0, 0, 0))) = some (r1, r2, r3, r4, r5, r6, r7) := zz25
    clear H
    have H := H1
    clear H1
    replace H := Option.bind_eq_some_iff.mp H
    obtain ⟨t144, A200, H⟩ := H
    replace H : (some (1, t144, 0, 0, 0, 0, 0)) = some (r1, r2, r3, r4, r5, r6, r7) := H
    have A20 := aM A200
    clear A200
    simp only [Option.some.injEq, Prod.mk.injEq] at H
    obtain ⟨rfl, rfl, rfl, rfl, rfl, rfl, rfl⟩ := H
    go_wp2_with (first | ((with_reducible refine gate_dst (N := 2) rfl ?_); refine box_event ?hg (N := 2) ?hd (cs := #[.int .i64 0, .int .i64 0, .int .i64 0, .int .i64 0, .int .i64 0, .int .i64 0, .int .i64 0]) (t := 23) ?hr ?_; (case hd => rfl); (case hg => rfl); (case hr => exact zz12); intro gb133 hg w21 hbox hb; have BK133 := aM (hbox); have GW133 := aM ((zz20 : w.heap.size ≤ gb133)); have GE133 := aM ((zz20 : w.heap.size ≤ gb133)); replace HB := aM (below_step bB hb); clear hb hbox hg) | ((with_reducible refine gate_callee (f := 73) rfl ?_); refine gL_ (some 8) Tryd.func73 #[.string a0] ?_; (with_reducible refine (spec_l5Pieces.calls k a0 t134 _ A2.out).mono ?_); rintro e w22 ⟨v135, rfl, ho0, hb⟩; refine ⟨_, rfl, ?_⟩; have HO136 := aM (Kd.R_lower ho0 (below_size (bG GE133))); replace BK133 := aM (blk_below (g := gb133) (o := .cells #[.int .i64 0, .int .i64 0, .int .i64 0, .int .i64 0, .int .i64 0, .int .i64 0, .int .i64 0] 23 (0, 0)) (bL BK133) hb); replace HB := aM (below_step (bG GE133) hb); (try clear ho0); obtain ⟨Ao23, co23, eo23⟩ := Kd.R_slice HO136.out; subst eo23; have p137 : 0 ≤ (0 : Int) := (by omega); have q137 : 0 < (t134.length : Int) := pI; obtain ⟨ad137, e137, hx137_0⟩ := Kd.at_string (Kd.R_reads' HO136.out).2.2 0 p137 q137; cases e137; have qi137 : (0 < t134.length) = True := eq_true (by omega); (try rw [show ((0 : Int)).toNat = 0 from rfl] at hx137_0); (try rw [Addr.add_zero'] at hx137_0); replace p137 := eq_true p137; replace q137 := eq_true q137) | ((with_reducible refine gate_callee (f := 74) rfl ?_); refine gL_ (some 16) Tryd.func74 #[.string (rdOf ByteArray.empty t134 0), .string (⟨#[109, 117, 108, 116, 105, 112, 97, 114, 116, 47]⟩ : ByteArray)] ?_; (with_reducible refine (spec_l5Begins.calls k (rdOf ByteArray.empty t134 0) (⟨#[109, 117, 108, 116, 105, 112, 97, 114, 116, 47]⟩ : ByteArray) false _ A9.out).mono ?_); rintro e w24 ⟨rfl, hb⟩; refine ⟨_, rfl, ?_⟩; replace HO136 := aM (Kd.R_below (bR HO136) hb); replace BK133 := aM (blk_below (g := gb133) (o := .cells #[.int .i64 0, .int .i64 0, .int .i64 0, .int .i64 0, .int .i64 0, .int .i64 0, .int .i64 0] 23 (0, 0)) (bL BK133) hb); replace HB := aM (below_step (bG GE133) hb); have p139 : 0 ≤ (0 : Int) := (by omega); have q139 : 0 < (t134.length : Int) := pI; obtain ⟨ad139, e139, hx139_0⟩ := Kd.at_string (Kd.R_reads' HO136.out).2.2 0 p139 q139; obtain rfl : ad137 = ad139 := (by injection e139); have qi139 : (0 < t134.length) = True := eq_true (by omega); (try rw [show ((0 : Int)).toNat = 0 from rfl] at hx139_0); (try rw [Addr.add_zero'] at hx139_0); replace p139 := eq_true p139; replace q139 := eq_true q139) | ((with_reducible refine gate_callee (f := 74) rfl ?_); refine gL_ (some 21) Tryd.func74 #[.string (rdOf ByteArray.empty t134 0), .string (⟨#[116, 101, 120, 116, 47]⟩ : ByteArray)] ?_; (with_reducible refine (spec_l5Begins.calls k (rdOf ByteArray.empty t134 0) (⟨#[116, 101, 120, 116, 47]⟩ : ByteArray) true _ A16.out).mono ?_); rintro e w25 ⟨rfl, hb⟩; refine ⟨_, rfl, ?_⟩; replace HO136 := aM (Kd.R_below (bR HO136) hb); replace BK133 := aM (blk_below (g := gb133) (o := .cells #[.int .i64 0, .int .i64 0, .int .i64 0, .int .i64 0, .int .i64 0, .int .i64 0, .int .i64 0] 23 (0, 0)) (bL BK133) hb); replace HB := aM (below_step (bG GE133) hb); (try clear hi)) | ((with_reducible refine gate_dst (N := 4) rfl ?_); refine box_event ?hg (N := 4) ?hd (cs := #[.int .i64 0, .int .i64 0, .int .i64 0, .int .i64 0, .int .i64 0, .int .i64 0, .int .i64 0]) (t := 23) ?hr ?_; (case hd => rfl); (case hg => rfl); (case hr => exact zz12); intro gb141 hg w26 hbox hb; replace HO136 := aM (Kd.R_below (bR HO136) hb); have BK141 := aM (hbox); have GW141 := aM ((by rw [hg]; exact (below_size (bG GE133)) : w.heap.size ≤ gb141)); have GE141 := aM ((by rw [hg]; exact (below_size (bG GE133)) : w.heap.size ≤ gb141)); replace HB := aM (below_step (bG GE133) hb); have NB133_141 := aM ((by rw [hg]; exact Nat.ne_of_lt (blk_lt (g := gb133) (o := .cells #[.int .i64 0, .int .i64 0, .int .i64 0, .int .i64 0, .int .i64 0, .int .i64 0, .int .i64 0] 23 (0, 0)) (bL BK133)) : gb133 ≠ gb141)); have NB141_133 := aM ((by rw [hg]; exact Nat.ne_of_gt (blk_lt (g := gb133) (o := .cells #[.int .i64 0, .int .i64 0, .int .i64 0, .int .i64 0, .int .i64 0, .int .i64 0, .int .i64 0] 23 (0, 0)) (bL BK133)) : gb141 ≠ gb133)); replace BK133 := aM (blk_below (g := gb133) (o := .cells #[.int .i64 0, .int .i64 0, .int .i64 0, .int .i64 0, .int .i64 0, .int .i64 0, .int .i64 0] 23 (0, 0)) (bL BK133) hb); clear hb hbox hg; have hnb27 := NB141_133.out; have hnc27 := NB133_141.out; have hcz28_0 : w26.cell? ⟨gb141, 0, none⟩ = some (.int .i64 0) := (blk_cell BK141.out 0).trans rfl; have hcz28_1 : w26.cell? ⟨gb141, 1, none⟩ = some (.int .i64 0) := (blk_cell BK141.out 1).trans rfl; have hcz28_2 : w26.cell? ⟨gb141, 2, none⟩ = some (.int .i64 0) := (blk_cell BK141.out 2).trans rfl; have hcz28_3 : w26.cell? ⟨gb141, 3, none⟩ = some (.int .i64 0) := (blk_cell BK141.out 3).trans rfl; have hcz28_4 : w26.cell? ⟨gb141, 4, none⟩ = some (.int .i64 0) := (blk_cell BK141.out 4).trans rfl; have hcz28_5 : w26.cell? ⟨gb141, 5, none⟩ = some (.int .i64 0) := (blk_cell BK141.out 5).trans rfl; have hcz28_6 : w26.cell? ⟨gb141, 6, none⟩ = some (.int .i64 0) := (blk_cell BK141.out 6).trans rfl; have hfz28_0 := blk_frozen BK141.out 0; have hfz28_1 := blk_frozen BK141.out 1; have hfz28_2 := blk_frozen BK141.out 2; have hfz28_3 := blk_frozen BK141.out 3; have hfz28_4 := blk_frozen BK141.out 4; have hfz28_5 := blk_frozen BK141.out 5; have hfz28_6 := blk_frozen BK141.out 6) | ((with_reducible refine gate_callee (f := 75) rfl ?_); refine gL_ (some 27) Tryd.func75 #[.slice (some ad137) t134.length co23, .string (⟨#[99, 104, 97, 114, 115, 101, 116, 61]⟩ : ByteArray)] ?_; (with_reducible refine (spec_l5Named.calls k _ _ t134 (⟨#[99, 104, 97, 114, 115, 101, 116, 61]⟩ : ByteArray) t142 true _ ?side1 ?side2 A18.out).mono ?_); (case side1 => refine (Kd.R_reads' (e := 9) (base := w.heap.size) (ok := fun k_ => True) (n := t134.length) (c := co23) ?_).2.2; exact (zz13 HO136.out BK141.out)); (case side2 => exact (Kd.R_reads' HO136.out).2.1); rintro e w29 ⟨rfl, hb⟩; refine ⟨_, rfl, ?_⟩; replace HO136 := aM (Kd.R_below (zz13 HO136.out BK141.out) hb); replace BK133 := aM (blk_below (g := gb133) (o := .cells #[.int .i64 0, .int .i64 0, .int .i64 0, .int .i64 0, .int .i64 0, .int .i64 0, .int .i64 0] 23 (0, 0)) (zz2 NB133_141.out BK133.out) hb); replace BK141 := aM (blk_below (g := gb141) (o := .cells #[.int .i64 1, .int .i64 1, .int .i64 0, .int .i64 0, .int .i64 0, .int .i64 0, .int .i64 0] 23 (0, 0)) (zz1 BK141.out) hb); replace HB := aM (below_step (bG2 GE133 GE141) hb); (try clear hi)) | ((with_reducible refine gate_callee (f := 76) rfl ?_); refine gL_ (some 32) Tryd.func76 #[.string t142] ?_; (with_reducible refine (spec_l2Of.calls k t142 t144 _ A20.out).mono ?_); rintro e w30 ⟨rfl, hb⟩; refine ⟨_, rfl, ?_⟩; replace HO136 := aM (Kd.R_below (bR HO136) hb); replace BK133 := aM (blk_below (g := gb133) (o := .cells #[.int .i64 0, .int .i64 0, .int .i64 0, .int .i64 0, .int .i64 0, .int .i64 0, .int .i64 0] 23 (0, 0)) (bL BK133) hb); replace BK141 := aM (blk_below (g := gb141) (o := .cells #[.int .i64 1, .int .i64 1, .int .i64 0, .int .i64 0, .int .i64 0, .int .i64 0, .int .i64 0] 23 (0, 0)) (bL BK141) hb); replace HB := aM (below_step (bG2 GE133 GE141) hb); have hcz31_0 : w30.cell? ⟨gb141, 0, none⟩ = some (.int .i64 1) := (blk_cell BK141.out 0).trans rfl; have hcz31_1 : w30.cell? ⟨gb141, 1, none⟩ = some (.int .i64 1) := (blk_cell BK141.out 1).trans rfl; have hcz31_2 : w30.cell? ⟨gb141, 2, none⟩ = some (.int .i64 0) := (blk_cell BK141.out 2).trans rfl; have hcz31_3 : w30.cell? ⟨gb141, 3, none⟩ = some (.int .i64 0) := (blk_cell BK141.out 3).trans rfl; have hcz31_4 : w30.cell? ⟨gb141, 4, none⟩ = some (.int .i64 0) := (blk_cell BK141.out 4).trans rfl; have hcz31_5 : w30.cell? ⟨gb141, 5, none⟩ = some (.int .i64 0) := (blk_cell BK141.out 5).trans rfl; have hcz31_6 : w30.cell? ⟨gb141, 6, none⟩ = some (.int .i64 0) := (blk_cell BK141.out 6).trans rfl; have hfz31_0 := blk_frozen BK141.out 0; have hfz31_1 := blk_frozen BK141.out 1; have hfz31_2 := blk_frozen BK141.out 2; have hfz31_3 := blk_frozen BK141.out 3; have hfz31_4 := blk_frozen BK141.out 4; have hfz31_5 := blk_frozen BK141.out 5; have hfz31_6 := blk_frozen BK141.out 6; have hcz32_0 : w30.cell? ⟨gb133, 0, none⟩ = some (.int .i64 0) := (blk_cell BK133.out 0).trans rfl; have hcz32_1 : w30.cell? ⟨gb133, 1, none⟩ = some (.int .i64 0) := (blk_cell BK133.out 1).trans rfl; have hcz32_2 : w30.cell? ⟨gb133, 2, none⟩ = some (.int .i64 0) := (blk_cell BK133.out 2).trans rfl; have hcz32_3 : w30.cell? ⟨gb133, 3, none⟩ = some (.int .i64 0) := (blk_cell BK133.out 3).trans rfl; have hcz32_4 : w30.cell? ⟨gb133, 4, none⟩ = some (.int .i64 0) := (blk_cell BK133.out 4).trans rfl; have hcz32_5 : w30.cell? ⟨gb133, 5, none⟩ = some (.int .i64 0) := (blk_cell BK133.out 5).trans rfl; have hcz32_6 : w30.cell? ⟨gb133, 6, none⟩ = some (.int .i64 0) := (blk_cell BK133.out 6).trans rfl; have hfz32_0 := blk_frozen BK133.out 0; have hfz32_1 := blk_frozen BK133.out 1; have hfz32_2 := blk_frozen BK133.out 2; have hfz32_3 := blk_frozen BK133.out 3; have hfz32_4 := blk_frozen BK133.out 4; have hfz32_5 := blk_frozen BK133.out 5; have hfz32_6 := blk_frozen BK133.out 6))
    refine bodyPost_ret (results_cell_row rfl _ _ gb133 23 #[.int .i64 1, .int .i64 t144, .int .i64 0, .int .i64 0, .int .i64 0, .int .i64 0, .int .i64 0] (0, 0) _ rfl (by (with_reducible repeat (first | refine blk_drewN ?_ _ | refine blk_drew ?_ | refine blk_alloc ?_ _)); refine blk_put (cs := #[.int .i64 1, .int .i64 t144, .int .i64 0, .int .i64 0, .int .i64 0, .int .i64 0, .int .i64 0]) ?_ 6 _ rfl; (with_reducible repeat (first | refine blk_drewN ?_ _ | refine blk_drew ?_ | refine blk_alloc ?_ _)); refine blk_put (cs := #[.int .i64 1, .int .i64 t144, .int .i64 0, .int .i64 0, .int .i64 0, .int .i64 0, .int .i64 0]) ?_ 5 _ rfl; (with_reducible repeat (first | refine blk_drewN ?_ _ | refine blk_drew ?_ | refine blk_alloc ?_ _)); refine blk_put (cs := #[.int .i64 1, .int .i64 t144, .int .i64 0, .int .i64 0, .int .i64 0, .int .i64 0, .int .i64 0]) ?_ 4 _ rfl; (with_reducible repeat (first | refine blk_drewN ?_ _ | refine blk_drew ?_ | refine blk_alloc ?_ _)); refine blk_put (cs := #[.int .i64 1, .int .i64 t144, .int .i64 0, .int .i64 0, .int .i64 0, .int .i64 0, .int .i64 0]) ?_ 3 _ rfl; (with_reducible repeat (first | refine blk_drewN ?_ _ | refine blk_drew ?_ | refine blk_alloc ?_ _)); refine blk_put (cs := #[.int .i64 1, .int .i64 t144, .int .i64 0, .int .i64 0, .int .i64 0, .int .i64 0, .int .i64 0]) ?_ 2 _ rfl; (with_reducible repeat (first | refine blk_drewN ?_ _ | refine blk_drew ?_ | refine blk_alloc ?_ _)); refine blk_put (cs := #[.int .i64 1, .int .i64 0, .int .i64 0, .int .i64 0, .int .i64 0, .int .i64 0, .int .i64 0]) ?_ 1 _ rfl; (with_reducible repeat (first | refine blk_drewN ?_ _ | refine blk_drew ?_ | refine blk_alloc ?_ _)); refine blk_put (cs := #[.int .i64 0, .int .i64 0, .int .i64 0, .int .i64 0, .int .i64 0, .int .i64 0, .int .i64 0]) ?_ 0 _ rfl; (with_reducible repeat (first | refine blk_drewN ?_ _ | refine blk_drew ?_ | refine blk_alloc ?_ _)); refine blk_far ?_ NB133_141.out _; (with_reducible repeat (first | refine blk_drewN ?_ _ | refine blk_drew ?_ | refine blk_alloc ?_ _)); exact BK133.out) Tryd.underlying23 rfl (by kernel_rfl)) rfl ?_
    exact ⟨bE, bG2 GE133 GE141⟩
   replace c19 := Bool.eq_false_iff.mpr c19
   subst c19
   have H1 : (some (1, 1, 0, 0, 0, 0, 0)) = some (r1, r2, r3, r4, r5, r6, r7) := zz14
   clear H
   have H := H1
   clear H1
   simp only [Option.some.injEq, Prod.mk.injEq] at H
   obtain ⟨rfl, rfl, rfl, rfl, rfl, rfl, rfl⟩ := H
   go_wp2_with (first | ((with_reducible refine gate_dst (N := 2) rfl ?_); refine box_event ?hg (N := 2) ?hd (cs := #[.int .i64 0, .int .i64 0, .int .i64 0, .int .i64 0, .int .i64 0, .int .i64 0, .int .i64 0]) (t := 23) ?hr ?_; (case hd => rfl); (case hg => rfl); (case hr => exact zz12); intro gb133 hg w33 hbox hb; have BK133 := aM (hbox); have GW133 := aM ((zz20 : w.heap.size ≤ gb133)); have GE133 := aM ((zz20 : w.heap.size ≤ gb133)); replace HB := aM (below_step bB hb); clear hb hbox hg) | ((with_reducible refine gate_callee (f := 73) rfl ?_); refine gL_ (some 8) Tryd.func73 #[.string a0] ?_; (with_reducible refine (spec_l5Pieces.calls k a0 t134 _ A2.out).mono ?_); rintro e w34 ⟨v135, rfl, ho0, hb⟩; refine ⟨_, rfl, ?_⟩; have HO136 := aM (Kd.R_lower ho0 (below_size (bG GE133))); replace BK133 := aM (blk_below (g := gb133) (o := .cells #[.int .i64 0, .int .i64 0, .int .i64 0, .int .i64 0, .int .i64 0, .int .i64 0, .int .i64 0] 23 (0, 0)) (bL BK133) hb); replace HB := aM (below_step (bG GE133) hb); (try clear ho0); obtain ⟨Ao35, co35, eo35⟩ := Kd.R_slice HO136.out; subst eo35; have p137 : 0 ≤ (0 : Int) := (by omega); have q137 : 0 < (t134.length : Int) := pI; obtain ⟨ad137, e137, hx137_0⟩ := Kd.at_string (Kd.R_reads' HO136.out).2.2 0 p137 q137; cases e137; have qi137 : (0 < t134.length) = True := eq_true (by omega); (try rw [show ((0 : Int)).toNat = 0 from rfl] at hx137_0); (try rw [Addr.add_zero'] at hx137_0); replace p137 := eq_true p137; replace q137 := eq_true q137) | ((with_reducible refine gate_callee (f := 74) rfl ?_); refine gL_ (some 16) Tryd.func74 #[.string (rdOf ByteArray.empty t134 0), .string (⟨#[109, 117, 108, 116, 105, 112, 97, 114, 116, 47]⟩ : ByteArray)] ?_; (with_reducible refine (spec_l5Begins.calls k (rdOf ByteArray.empty t134 0) (⟨#[109, 117, 108, 116, 105, 112, 97, 114, 116, 47]⟩ : ByteArray) false _ A9.out).mono ?_); rintro e w36 ⟨rfl, hb⟩; refine ⟨_, rfl, ?_⟩; replace HO136 := aM (Kd.R_below (bR HO136) hb); replace BK133 := aM (blk_below (g := gb133) (o := .cells #[.int .i64 0, .int .i64 0, .int .i64 0, .int .i64 0, .int .i64 0, .int .i64 0, .int .i64 0] 23 (0, 0)) (bL BK133) hb); replace HB := aM (below_step (bG GE133) hb); have p139 : 0 ≤ (0 : Int) := (by omega); have q139 : 0 < (t134.length : Int) := pI; obtain ⟨ad139, e139, hx139_0⟩ := Kd.at_string (Kd.R_reads' HO136.out).2.2 0 p139 q139; obtain rfl : ad137 = ad139 := (by injection e139); have qi139 : (0 < t134.length) = True := eq_true (by omega); (try rw [show ((0 : Int)).toNat = 0 from rfl] at hx139_0); (try rw [Addr.add_zero'] at hx139_0); replace p139 := eq_true p139; replace q139 := eq_true q139) | ((with_reducible refine gate_callee (f := 74) rfl ?_); refine gL_ (some 21) Tryd.func74 #[.string (rdOf ByteArray.empty t134 0), .string (⟨#[116, 101, 120, 116, 47]⟩ : ByteArray)] ?_; (with_reducible refine (spec_l5Begins.calls k (rdOf ByteArray.empty t134 0) (⟨#[116, 101, 120, 116, 47]⟩ : ByteArray) true _ A16.out).mono ?_); rintro e w37 ⟨rfl, hb⟩; refine ⟨_, rfl, ?_⟩; replace HO136 := aM (Kd.R_below (bR HO136) hb); replace BK133 := aM (blk_below (g := gb133) (o := .cells #[.int .i64 0, .int .i64 0, .int .i64 0, .int .i64 0, .int .i64 0, .int .i64 0, .int .i64 0] 23 (0, 0)) (bL BK133) hb); replace HB := aM (below_step (bG GE133) hb); (try clear hi)) | ((with_reducible refine gate_dst (N := 4) rfl ?_); refine box_event ?hg (N := 4) ?hd (cs := #[.int .i64 0, .int .i64 0, .int .i64 0, .int .i64 0, .int .i64 0, .int .i64 0, .int .i64 0]) (t := 23) ?hr ?_; (case hd => rfl); (case hg => rfl); (case hr => exact zz12); intro gb141 hg w38 hbox hb; replace HO136 := aM (Kd.R_below (bR HO136) hb); have BK141 := aM (hbox); have GW141 := aM ((by rw [hg]; exact (below_size (bG GE133)) : w.heap.size ≤ gb141)); have GE141 := aM ((by rw [hg]; exact (below_size (bG GE133)) : w.heap.size ≤ gb141)); replace HB := aM (below_step (bG GE133) hb); have NB133_141 := aM ((by rw [hg]; exact Nat.ne_of_lt (blk_lt (g := gb133) (o := .cells #[.int .i64 0, .int .i64 0, .int .i64 0, .int .i64 0, .int .i64 0, .int .i64 0, .int .i64 0] 23 (0, 0)) (bL BK133)) : gb133 ≠ gb141)); have NB141_133 := aM ((by rw [hg]; exact Nat.ne_of_gt (blk_lt (g := gb133) (o := .cells #[.int .i64 0, .int .i64 0, .int .i64 0, .int .i64 0, .int .i64 0, .int .i64 0, .int .i64 0] 23 (0, 0)) (bL BK133)) : gb141 ≠ gb133)); replace BK133 := aM (blk_below (g := gb133) (o := .cells #[.int .i64 0, .int .i64 0, .int .i64 0, .int .i64 0, .int .i64 0, .int .i64 0, .int .i64 0] 23 (0, 0)) (bL BK133) hb); clear hb hbox hg; have hnb39 := NB141_133.out; have hnc39 := NB133_141.out; have hcz40_0 : w38.cell? ⟨gb141, 0, none⟩ = some (.int .i64 0) := (blk_cell BK141.out 0).trans rfl; have hcz40_1 : w38.cell? ⟨gb141, 1, none⟩ = some (.int .i64 0) := (blk_cell BK141.out 1).trans rfl; have hcz40_2 : w38.cell? ⟨gb141, 2, none⟩ = some (.int .i64 0) := (blk_cell BK141.out 2).trans rfl; have hcz40_3 : w38.cell? ⟨gb141, 3, none⟩ = some (.int .i64 0) := (blk_cell BK141.out 3).trans rfl; have hcz40_4 : w38.cell? ⟨gb141, 4, none⟩ = some (.int .i64 0) := (blk_cell BK141.out 4).trans rfl; have hcz40_5 : w38.cell? ⟨gb141, 5, none⟩ = some (.int .i64 0) := (blk_cell BK141.out 5).trans rfl; have hcz40_6 : w38.cell? ⟨gb141, 6, none⟩ = some (.int .i64 0) := (blk_cell BK141.out 6).trans rfl; have hfz40_0 := blk_frozen BK141.out 0; have hfz40_1 := blk_frozen BK141.out 1; have hfz40_2 := blk_frozen BK141.out 2; have hfz40_3 := blk_frozen BK141.out 3; have hfz40_4 := blk_frozen BK141.out 4; have hfz40_5 := blk_frozen BK141.out 5; have hfz40_6 := blk_frozen BK141.out 6) | ((with_reducible refine gate_callee (f := 75) rfl ?_); refine gL_ (some 27) Tryd.func75 #[.slice (some ad137) t134.length co35, .string (⟨#[99, 104, 97, 114, 115, 101, 116, 61]⟩ : ByteArray)] ?_; (with_reducible refine (spec_l5Named.calls k _ _ t134 (⟨#[99, 104, 97, 114, 115, 101, 116, 61]⟩ : ByteArray) t142 false _ ?side1 ?side2 A18.out).mono ?_); (case side1 => refine (Kd.R_reads' (e := 9) (base := w.heap.size) (ok := fun k_ => True) (n := t134.length) (c := co35) ?_).2.2; exact (zz13 HO136.out BK141.out)); (case side2 => exact (Kd.R_reads' HO136.out).2.1); rintro e w41 ⟨rfl, hb⟩; refine ⟨_, rfl, ?_⟩; replace HO136 := aM (Kd.R_below (zz13 HO136.out BK141.out) hb); replace BK133 := aM (blk_below (g := gb133) (o := .cells #[.int .i64 0, .int .i64 0, .int .i64 0, .int .i64 0, .int .i64 0, .int .i64 0, .int .i64 0] 23 (0, 0)) (zz2 NB133_141.out BK133.out) hb); replace BK141 := aM (blk_below (g := gb141) (o := .cells #[.int .i64 1, .int .i64 1, .int .i64 0, .int .i64 0, .int .i64 0, .int .i64 0, .int .i64 0] 23 (0, 0)) (zz1 BK141.out) hb); replace HB := aM (below_step (bG2 GE133 GE141) hb); have hcz42_0 : w41.cell? ⟨gb141, 0, none⟩ = some (.int .i64 1) := (blk_cell BK141.out 0).trans rfl; have hcz42_1 : w41.cell? ⟨gb141, 1, none⟩ = some (.int .i64 1) := (blk_cell BK141.out 1).trans rfl; have hcz42_2 : w41.cell? ⟨gb141, 2, none⟩ = some (.int .i64 0) := (blk_cell BK141.out 2).trans rfl; have hcz42_3 : w41.cell? ⟨gb141, 3, none⟩ = some (.int .i64 0) := (blk_cell BK141.out 3).trans rfl; have hcz42_4 : w41.cell? ⟨gb141, 4, none⟩ = some (.int .i64 0) := (blk_cell BK141.out 4).trans rfl; have hcz42_5 : w41.cell? ⟨gb141, 5, none⟩ = some (.int .i64 0) := (blk_cell BK141.out 5).trans rfl; have hcz42_6 : w41.cell? ⟨gb141, 6, none⟩ = some (.int .i64 0) := (blk_cell BK141.out 6).trans rfl; have hfz42_0 := blk_frozen BK141.out 0; have hfz42_1 := blk_frozen BK141.out 1; have hfz42_2 := blk_frozen BK141.out 2; have hfz42_3 := blk_frozen BK141.out 3; have hfz42_4 := blk_frozen BK141.out 4; have hfz42_5 := blk_frozen BK141.out 5; have hfz42_6 := blk_frozen BK141.out 6; have hcz43_0 : w41.cell? ⟨gb133, 0, none⟩ = some (.int .i64 0) := (blk_cell BK133.out 0).trans rfl; have hcz43_1 : w41.cell? ⟨gb133, 1, none⟩ = some (.int .i64 0) := (blk_cell BK133.out 1).trans rfl; have hcz43_2 : w41.cell? ⟨gb133, 2, none⟩ = some (.int .i64 0) := (blk_cell BK133.out 2).trans rfl; have hcz43_3 : w41.cell? ⟨gb133, 3, none⟩ = some (.int .i64 0) := (blk_cell BK133.out 3).trans rfl; have hcz43_4 : w41.cell? ⟨gb133, 4, none⟩ = some (.int .i64 0) := (blk_cell BK133.out 4).trans rfl; have hcz43_5 : w41.cell? ⟨gb133, 5, none⟩ = some (.int .i64 0) := (blk_cell BK133.out 5).trans rfl; have hcz43_6 : w41.cell? ⟨gb133, 6, none⟩ = some (.int .i64 0) := (blk_cell BK133.out 6).trans rfl; have hfz43_0 := blk_frozen BK133.out 0; have hfz43_1 := blk_frozen BK133.out 1; have hfz43_2 := blk_frozen BK133.out 2; have hfz43_3 := blk_frozen BK133.out 3; have hfz43_4 := blk_frozen BK133.out 4; have hfz43_5 := blk_frozen BK133.out 5; have hfz43_6 := blk_frozen BK133.out 6))
   refine bodyPost_ret (results_cell_row rfl _ _ gb133 23 #[.int .i64 1, .int .i64 1, .int .i64 0, .int .i64 0, .int .i64 0, .int .i64 0, .int .i64 0] (0, 0) _ rfl (zz1 BK133.out) Tryd.underlying23 rfl (by kernel_rfl)) rfl ?_
   exact ⟨bE, bG2 GE133 GE141⟩
  replace c17 := Bool.eq_false_iff.mpr c17
  subst c17
  have H1 : (some (3, 0, 0, 0, 0, 0, 0)) = some (r1, r2, r3, r4, r5, r6, r7) := zz14
  clear H
  have H := H1
  clear H1
  simp only [Option.some.injEq, Prod.mk.injEq] at H
  obtain ⟨rfl, rfl, rfl, rfl, rfl, rfl, rfl⟩ := H
  go_wp2_with (first | ((with_reducible refine gate_dst (N := 2) rfl ?_); refine box_event ?hg (N := 2) ?hd (cs := #[.int .i64 0, .int .i64 0, .int .i64 0, .int .i64 0, .int .i64 0, .int .i64 0, .int .i64 0]) (t := 23) ?hr ?_; (case hd => rfl); (case hg => rfl); (case hr => exact zz12); intro gb133 hg w44 hbox hb; have BK133 := aM (hbox); have GW133 := aM ((zz20 : w.heap.size ≤ gb133)); have GE133 := aM ((zz20 : w.heap.size ≤ gb133)); replace HB := aM (below_step bB hb); clear hb hbox hg) | ((with_reducible refine gate_callee (f := 73) rfl ?_); refine gL_ (some 8) Tryd.func73 #[.string a0] ?_; (with_reducible refine (spec_l5Pieces.calls k a0 t134 _ A2.out).mono ?_); rintro e w45 ⟨v135, rfl, ho0, hb⟩; refine ⟨_, rfl, ?_⟩; have HO136 := aM (Kd.R_lower ho0 (below_size (bG GE133))); replace BK133 := aM (blk_below (g := gb133) (o := .cells #[.int .i64 0, .int .i64 0, .int .i64 0, .int .i64 0, .int .i64 0, .int .i64 0, .int .i64 0] 23 (0, 0)) (bL BK133) hb); replace HB := aM (below_step (bG GE133) hb); (try clear ho0); obtain ⟨Ao46, co46, eo46⟩ := Kd.R_slice HO136.out; subst eo46; have p137 : 0 ≤ (0 : Int) := (by omega); have q137 : 0 < (t134.length : Int) := pI; obtain ⟨ad137, e137, hx137_0⟩ := Kd.at_string (Kd.R_reads' HO136.out).2.2 0 p137 q137; cases e137; have qi137 : (0 < t134.length) = True := eq_true (by omega); (try rw [show ((0 : Int)).toNat = 0 from rfl] at hx137_0); (try rw [Addr.add_zero'] at hx137_0); replace p137 := eq_true p137; replace q137 := eq_true q137) | ((with_reducible refine gate_callee (f := 74) rfl ?_); refine gL_ (some 16) Tryd.func74 #[.string (rdOf ByteArray.empty t134 0), .string (⟨#[109, 117, 108, 116, 105, 112, 97, 114, 116, 47]⟩ : ByteArray)] ?_; (with_reducible refine (spec_l5Begins.calls k (rdOf ByteArray.empty t134 0) (⟨#[109, 117, 108, 116, 105, 112, 97, 114, 116, 47]⟩ : ByteArray) false _ A9.out).mono ?_); rintro e w47 ⟨rfl, hb⟩; refine ⟨_, rfl, ?_⟩; replace HO136 := aM (Kd.R_below (bR HO136) hb); replace BK133 := aM (blk_below (g := gb133) (o := .cells #[.int .i64 0, .int .i64 0, .int .i64 0, .int .i64 0, .int .i64 0, .int .i64 0, .int .i64 0] 23 (0, 0)) (bL BK133) hb); replace HB := aM (below_step (bG GE133) hb); have p139 : 0 ≤ (0 : Int) := (by omega); have q139 : 0 < (t134.length : Int) := pI; obtain ⟨ad139, e139, hx139_0⟩ := Kd.at_string (Kd.R_reads' HO136.out).2.2 0 p139 q139; obtain rfl : ad137 = ad139 := (by injection e139); have qi139 : (0 < t134.length) = True := eq_true (by omega); (try rw [show ((0 : Int)).toNat = 0 from rfl] at hx139_0); (try rw [Addr.add_zero'] at hx139_0); replace p139 := eq_true p139; replace q139 := eq_true q139) | ((with_reducible refine gate_callee (f := 74) rfl ?_); refine gL_ (some 21) Tryd.func74 #[.string (rdOf ByteArray.empty t134 0), .string (⟨#[116, 101, 120, 116, 47]⟩ : ByteArray)] ?_; (with_reducible refine (spec_l5Begins.calls k (rdOf ByteArray.empty t134 0) (⟨#[116, 101, 120, 116, 47]⟩ : ByteArray) false _ A16.out).mono ?_); rintro e w48 ⟨rfl, hb⟩; refine ⟨_, rfl, ?_⟩; replace HO136 := aM (Kd.R_below (bR HO136) hb); replace BK133 := aM (blk_below (g := gb133) (o := .cells #[.int .i64 0, .int .i64 0, .int .i64 0, .int .i64 0, .int .i64 0, .int .i64 0, .int .i64 0] 23 (0, 0)) (bL BK133) hb); replace HB := aM (below_step (bG GE133) hb); have hcz49_0 : w48.cell? ⟨gb133, 0, none⟩ = some (.int .i64 0) := (blk_cell BK133.out 0).trans rfl; have hcz49_1 : w48.cell? ⟨gb133, 1, none⟩ = some (.int .i64 0) := (blk_cell BK133.out 1).trans rfl; have hcz49_2 : w48.cell? ⟨gb133, 2, none⟩ = some (.int .i64 0) := (blk_cell BK133.out 2).trans rfl; have hcz49_3 : w48.cell? ⟨gb133, 3, none⟩ = some (.int .i64 0) := (blk_cell BK133.out 3).trans rfl; have hcz49_4 : w48.cell? ⟨gb133, 4, none⟩ = some (.int .i64 0) := (blk_cell BK133.out 4).trans rfl; have hcz49_5 : w48.cell? ⟨gb133, 5, none⟩ = some (.int .i64 0) := (blk_cell BK133.out 5).trans rfl; have hcz49_6 : w48.cell? ⟨gb133, 6, none⟩ = some (.int .i64 0) := (blk_cell BK133.out 6).trans rfl; have hfz49_0 := blk_frozen BK133.out 0; have hfz49_1 := blk_frozen BK133.out 1; have hfz49_2 := blk_frozen BK133.out 2; have hfz49_3 := blk_frozen BK133.out 3; have hfz49_4 := blk_frozen BK133.out 4; have hfz49_5 := blk_frozen BK133.out 5; have hfz49_6 := blk_frozen BK133.out 6))
  refine bodyPost_ret (results_cell_row rfl _ _ gb133 23 #[.int .i64 3, .int .i64 0, .int .i64 0, .int .i64 0, .int .i64 0, .int .i64 0, .int .i64 0] (0, 0) _ rfl (zz3 BK133.out) Tryd.underlying23 rfl (by kernel_rfl)) rfl ?_
  exact ⟨bE, bG GE133⟩
 rw [if_neg c8] at H
 exact absurd H (by simp)
def spec_l4End.l0 : Nat → List Int → Int → Option (Int)
 | 0, _, _ => none
 | k + 1, x0, x1 => if x1 < (x0.length : Int) then (if 0 ≤ x1 then (if (rd x0 x1) = 10 then (some x1) else (spec_l4End.l0 k x0 (wrap64 (x1 + 1)))) else (none)) else (some x1)
def spec_l4End.f (k : Nat) (l0 : List Int) (a1 : Int) : Option (Int) := spec_l4End.l0 k l0 a1
set_option maxHeartbeats 8000000 in
set_option maxRecDepth 100000 in
theorem spec_l4End.calls (k : Nat) (A0 : Option Addr) (c0 : Nat) (l0 : List Int) (a1 : Int) (r : Int) (w : World) (hr0 : Kd.C (Kd.int .u8) w A0 l0.length l0) (hc0 : l0.length ≤ c0) (h : spec_l4End.f k l0 a1 = some r) :
  Calls Tryd.prog 128 #[.slice A0 l0.length c0, .int .i64 a1] w fun e w' => e = .returned (.int .i64 r) ∧ Drawn0 w w' := by
 have HR0 := aM hr0
 have HC0 := aM hc0
 clear hr0 hc0
 have H : (spec_l4End.l0 k l0 a1) = some r := h
 clear h
 have H' := aM H
 clear H
 go_enter Tryd.func128, Tryd.ntmps128
 go_wp2
 go_loopg [1] k (fun kq v1 w' => ∃ (x1_1 : Int), v1 = .int .i64 x1_1 ∧ Aside0 (spec_l4End.l0 kq l0 x1_1 = some r) ∧ Aside0 (kq ≤ k) ∧ Drawn0 w w')
 case atStart => exact ⟨(a1), bS, H', ⟨Nat.le_refl _⟩, zz6⟩
 case round =>
  clear H'
  try clear c1
  try clear p2
  obtain ⟨x1_1, rfl, HA, HK1, ⟨m1, rfl⟩⟩ := hrel
  cases gk with
  | zero => exact absurd HA.out (by simp [spec_l4End.l0])
  | succ k1 =>
   have H := HA.out
   clear HA
   simp only [spec_l4End.l0] at H
   by_cases c3 : x1_1 < (l0.length : Int)
   ·rw [if_pos c3] at H
    have c3b0 : decide (x1_1 < (l0.length : Int)) = true := decide_eq_true c3
    clear c3
    by_cases c4 : 0 ≤ x1_1
    ·rw [if_pos c4] at H
     have c4b0 : decide (0 ≤ x1_1) = true := decide_eq_true c4
     clear c4
     by_cases c5 : (rd l0 x1_1) = 10
     ·rw [if_pos c5] at H
      have c5b0 : ((rd l0 x1_1) == 10) = true := beq_iff_eq.mpr c5
      have c5b1 : ((rd l0 x1_1) != 10) = false := bne_eq_false_iff_eq.mpr c5
      clear c5
      obtain rfl := Option.some.inj H
      have p145 : 0 ≤ (x1_1 : Int) := pI
      have q145 : x1_1 < (l0.length : Int) := pI
      obtain ⟨ad145, e145, hx145_0⟩ := Kd.at_int HR0.out x1_1 p145 q145
      cases e145
      replace p145 := eq_true p145
      replace q145 := eq_true q145
      go_wp2
      go_ret
      exact ⟨bS, zz6⟩
     rw [if_neg c5] at H
     have c5b0 : ((rd l0 x1_1) == 10) = false := beq_eq_false_iff_ne.mpr c5
     have c5b1 : ((rd l0 x1_1) != 10) = true := bne_iff_ne.mpr c5
     have H' := aM H
     clear H
     have p145 : 0 ≤ (x1_1 : Int) := pI
     have q145 : x1_1 < (l0.length : Int) := pI
     obtain ⟨ad145, e145, hx145_0⟩ := Kd.at_int HR0.out x1_1 p145 q145
     cases e145
     replace p145 := eq_true p145
     replace q145 := eq_true q145
     go_wp2
     go_roundg k1
     case measure => have := HK1.out; omega
     case rel => exact ⟨(wrap64 (x1_1 + 1)), bS, H', ⟨by have := HK1.out; omega⟩, zz6⟩
    rw [if_neg c4] at H
    exact absurd H (by simp)
   rw [if_neg c3] at H
   have c3b0 : decide (x1_1 < (l0.length : Int)) = false := decide_eq_false c3
   clear c3
   obtain rfl := Option.some.inj H
   go_wp2
   go_ret
   exact ⟨bS, zz6⟩
end Go.Proofs.YtecpanfndodjgaaDoor.PPathOf
