/- Part of the proof; words that it uses. -/
import Derived.Test.YtjopgmjmjnfcjaaGreatDoorPWordsx0
namespace Go.Proofs.YtjopgmjmjnfcjaaGreatDoor.PWords
open Go.RowKit Go.Proofs.YtjopgmjmjnfcjaaGreatDoorW.PrintWords Go.Proofs.YtjopgmjmjnfcjaaGreatDoorW.PrintLast
set_option linter.unusedVariables false
set_option linter.unusedSimpArgs false
def laws_lwBig.f (l0 : List Int) : Option (Bool) := some (decide ((l0.length : Int) > 1048576))
set_option maxHeartbeats 8000000 in
set_option maxRecDepth 100000 in
theorem laws_lwBig.calls (A0 : Option Addr) (c0 : Nat) (l0 : List Int) (r : Bool) (w : World) (hr0 : Kd.C (Kd.int .u8) w A0 l0.length l0) (hc0 : l0.length ≤ c0) (h : laws_lwBig.f l0 = some r) :
  Calls Tryz.prog 13 #[.slice A0 l0.length c0] w fun e w' => e = .returned (.bool r) ∧ Drawn0 w w' := by
 have HR0 := aM hr0
 have HC0 := aM hc0
 clear hr0 hc0
 have H : (some (decide ((l0.length : Int) > 1048576))) = some r := h
 clear h
 obtain rfl := Option.some.inj H
 go_enter Tryz.func13, Tryz.ntmps13
 go_wp2
 go_ret
 exact ⟨bS, z5⟩
def IsS73 (w0 W : World) (g : Nat) (f0 : List Int) (f1 : Int) : Prop := ∃ A0 c0, W.heap[g]? = some (.cells #[.slice A0 f0.length c0, .int .i64 f1] 73 (0, 0)) ∧ w0.heap.size ≤ g ∧ Kd.C (Kd.int .u8) w0 A0 f0.length f0
theorem IsS73.grown {w0 W : World} {g : Nat} {f0 : List Int} {f1 : Int} {W1 : World} {row : Option Nat} (h : IsS73 w0 W g f0 f1) (hw : W.grownBy W1 row) (hne : some g ≠ row) : IsS73 w0 W1 g f0 f1 := by
 obtain ⟨A0, c0, hb, hg, hr0⟩ := h
 exact ⟨A0, c0, blk_grown hb hw hne, hg, hr0⟩
theorem IsS73.below {w0 W : World} {g : Nat} {f0 : List Int} {f1 : Int} {W1 : World} (h : IsS73 w0 W g f0 f1) (hw : Below W.heap.size W W1) : IsS73 w0 W1 g f0 f1 := h.grown (grown_of_below hw none) (by simp)
theorem IsS73.drewN {w0 W : World} {g : Nat} {f0 : List Int} {f1 : Int} (h : IsS73 w0 W g f0 f1) (m : Nat) : IsS73 w0 (W.drewN m) g f0 f1 := h
theorem IsS73.drew {w0 W : World} {g : Nat} {f0 : List Int} {f1 : Int} (h : IsS73 w0 W g f0 f1) : IsS73 w0 W.drew g f0 f1 := h
theorem IsS73.apart {w0 W : World} {g : Nat} {f0 : List Int} {f1 : Int} {α : Type} {d : Kd α} {e : Nat} {base : Nat} {ok : Nat → Prop} {v : Value} {xs : List α} (h : IsS73 w0 W g f0 f1) (ho : d.R e W base ok v xs) (ht : ∀ q, q ∈ e :: d.E → q ≠ 73) : d.R e W base (fun k => ok k ∧ k ≠ g) v xs := by
 obtain ⟨A0, c0, hb, hg, hr0⟩ := h
 exact Kd.R_types ho hb ht
theorem IsS73.own_ne {w0 W : World} {g : Nat} {f0 : List Int} {f1 : Int} {α : Type} {d : Kd α} {e : Nat} {base : Nat} {ok : Nat → Prop} {v : Value} {xs : List α} (h : IsS73 w0 W g f0 f1) (ho : d.R e W base ok v xs) (ht : e ≠ 73) : some g ≠ v.ownBlock := by
 obtain ⟨A0, c0, hb, hg, hr0⟩ := h
 exact Kd.R_ne ho hb ht
theorem IsS73.ge {w0 W : World} {g : Nat} {f0 : List Int} {f1 : Int} (h : IsS73 w0 W g f0 f1) : w0.heap.size ≤ g := by
 obtain ⟨A0, c0, hb, hg, hr0⟩ := h
 exact hg
theorem cellS73_0 {W : World} {g : Nat} {A0 : Option Addr} {c0 : Nat} {f0 : List Int} {f1 : Int} (h : W.heap[g]? = some (.cells #[.slice A0 f0.length c0, .int .i64 f1] 73 (0, 0))) : W.cell? ⟨g, 0, none⟩ = some (.slice A0 f0.length c0) := (blk_cell h 0).trans rfl
theorem cellS73_1 {W : World} {g : Nat} {A0 : Option Addr} {c0 : Nat} {f0 : List Int} {f1 : Int} (h : W.heap[g]? = some (.cells #[.slice A0 f0.length c0, .int .i64 f1] 73 (0, 0))) : W.cell? ⟨g, 1, none⟩ = some (.int .i64 f1) := (blk_cell h 1).trans rfl
theorem IsS73.set_1 {w0 W : World} {g : Nat} {f0 : List Int} {f1 : Int} (h : IsS73 w0 W g f0 f1) (x : Int) : IsS73 w0 (W.setCell ⟨g, 1, none⟩ (.int .i64 x)) g f0 x := by
 obtain ⟨A0, c0, hb, hg, hr0⟩ := h
 exact ⟨A0, c0, by simpa using blk_set hb 1 (.int .i64 x), hg, hr0⟩
def spec_l1Source.f (l0 : List Int) : Option (List Int × Int) := some (l0, 0)
set_option maxHeartbeats 8000000 in
set_option maxRecDepth 100000 in
theorem spec_l1Source.calls (A0 : Option Addr) (c0 : Nat) (l0 : List Int) (r1 : List Int) (r2 : Int) (w0 w : World) (hB : Below w0.heap.size w0 w) (hr0 : Kd.C (Kd.int .u8) w0 A0 l0.length l0) (hc0 : l0.length ≤ c0) (h : spec_l1Source.f l0 = some (r1, r2)) :
  Calls Tryz.prog 29 #[.slice A0 l0.length c0] w fun e w' => ∃ g_ : Nat, e = .returned (.pointer (some ⟨g_, 0, none⟩)) ∧ IsS73 w0 w' g_ r1 r2 ∧ Below w0.heap.size w0 w' ∧ Below w.heap.size w w' := by
 have hu73 := Tryz.underlying73
 have HR0 := aM hr0
 have HC0 := aM hc0
 clear hr0 hc0
 have HBW := aM (Below.refl w.heap.size w)
 have HW0 := aM hB.size
 have HB := aM hB
 clear hB
 have H : (some (l0, 0)) = some (r1, r2) := h
 clear h
 simp only [Option.some.injEq, Prod.mk.injEq] at H
 obtain ⟨rfl, rfl⟩ := H
 go_enter Tryz.func29, Tryz.ntmps29
 go_wp2_with (first | ((with_reducible refine gate_dst (N := 5) rfl ?_); refine box_event ?hg (N := 5) ?hd (cs := #[.slice A0 l0.length c0, .int .i64 0]) (t := 73) ?hr ?_; (case hd => rfl); (case hg => rfl); (case hr => exact z10); intro gb101 hg w2 hbox hb; replace HB := aM (below_step bB hb); have BK101 := aM (hbox); have GW101 := aM ((by rw [hg]; exact (below_size (by repeat (first | (with_reducible first | exact HBW.out | apply below_alloc | apply pw_below_drewN | apply below_drew1) | exact HBW.out))) : w.heap.size ≤ gb101)); have GE101 := aM ((Nat.le_trans HW0.out (by rw [hg]; exact (below_size (by repeat (first | (with_reducible first | exact HBW.out | apply below_alloc | apply pw_below_drewN | apply below_drew1) | exact HBW.out))) : w.heap.size ≤ gb101) : w0.heap.size ≤ gb101)); replace HBW := aM (below_step HBW.out hb); clear hb hbox hg))
 go_ret
 exact ⟨_, rfl, (show IsS73 w0 _ gb101 l0 0 from ⟨_, _, bL BK101, GE101.out, HR0.out⟩), bG GE101, by repeat (first | (with_reducible first | exact HBW.out | apply below_alloc | apply pw_below_drewN | apply below_drew1 | refine below_set ?_ GW101.out) | exact HBW.out)⟩
def spec_l1Next.f (s0_0 : List Int) (s0_1 : Int) (a1 : Int) : Option (Int × Int) := if a1 < 1 then (some (0, wrap64 (s0_1 + 1))) else (if (s0_0.length : Int) = 0 then (if a1 = 0 then (none) else (some (Int.tmod (wrap64 ((wrap64 ((wrap64 (s0_1 + 1)) - 1)) * 7)) a1, wrap64 (s0_1 + 1)))) else (if 0 ≤ (Int.tmod (wrap64 ((wrap64 (s0_1 + 1)) - 1)) (s0_0.length : Int)) then (if (Int.tmod (wrap64 ((wrap64 (s0_1 + 1)) - 1)) (s0_0.length : Int)) < (s0_0.length : Int) then (if a1 > 200 then (if 0 ≤ (Int.tmod (wrap64 ((wrap64 ((wrap64 (s0_1 + 1)) - 1)) + 1)) (s0_0.length : Int)) then (if (Int.tmod (wrap64 ((wrap64 ((wrap64 (s0_1 + 1)) - 1)) + 1)) (s0_0.length : Int)) < (s0_0.length : Int) then (if a1 = 0 then (none) else (some (Int.tmod (wrap64 ((wrap64 ((wrap64 ((wrap64 ((wrap64 (rd s0_0 (Int.tmod (wrap64 ((wrap64 (s0_1 + 1)) - 1)) (s0_0.length : Int)))) + (wrap64 ((wrap64 (Int.tdiv (wrap64 ((wrap64 (s0_1 + 1)) - 1)) (s0_0.length : Int))) * 37)))) * 251)) + (wrap64 ((wrap64 (rd s0_0 (Int.tmod (wrap64 ((wrap64 ((wrap64 (s0_1 + 1)) - 1)) + 1)) (s0_0.length : Int)))) * 13)))) + (wrap64 ((wrap64 (s0_1 + 1)) - 1)))) a1, wrap64 (s0_1 + 1)))) else (none)) else (none)) else (if a1 = 0 then (none) else (some (Int.tmod (wrap64 ((wrap64 (rd s0_0 (Int.tmod (wrap64 ((wrap64 (s0_1 + 1)) - 1)) (s0_0.length : Int)))) + (wrap64 ((wrap64 (Int.tdiv (wrap64 ((wrap64 (s0_1 + 1)) - 1)) (s0_0.length : Int))) * 37)))) a1, wrap64 (s0_1 + 1))))) else (none)) else (none)))
set_option maxHeartbeats 8000000 in
set_option maxRecDepth 100000 in
theorem spec_l1Next.calls (g : Nat) (s0_0 : List Int) (s0_1 : Int) (a1 : Int) (r1 : Int) (r2 : Int) (w0 w : World) (hI : IsS73 w0 w g s0_0 s0_1) (hB : Below w0.heap.size w0 w) (h : spec_l1Next.f s0_0 s0_1 a1 = some (r1, r2)) :
  Calls Tryz.prog 32 #[.pointer (some ⟨g, 0, none⟩), .int .i64 a1] w fun e w' => e = .returned (.int .i64 r1) ∧ IsS73 w0 w' g s0_0 r2 ∧ Below w0.heap.size w0 w' ∧ KeepBut w w' g none := by
 have HI0 := aM hI
 have HK := aM (KeepBut.refl w g none)
 have HL := aM hB.size
 clear hI
 have HW0 := aM hB.size
 have HB := aM hB
 clear hB
 have H : (if a1 < 1 then (some (0, wrap64 (s0_1 + 1))) else (if (s0_0.length : Int) = 0 then (if a1 = 0 then (none) else (some (Int.tmod (wrap64 ((wrap64 ((wrap64 (s0_1 + 1)) - 1)) * 7)) a1, wrap64 (s0_1 + 1)))) else (if 0 ≤ (Int.tmod (wrap64 ((wrap64 (s0_1 + 1)) - 1)) (s0_0.length : Int)) then (if (Int.tmod (wrap64 ((wrap64 (s0_1 + 1)) - 1)) (s0_0.length : Int)) < (s0_0.length : Int) then (if a1 > 200 then (if 0 ≤ (Int.tmod (wrap64 ((wrap64 ((wrap64 (s0_1 + 1)) - 1)) + 1)) (s0_0.length : Int)) then (if (Int.tmod (wrap64 ((wrap64 ((wrap64 (s0_1 + 1)) - 1)) + 1)) (s0_0.length : Int)) < (s0_0.length : Int) then (if a1 = 0 then (none) else (some (Int.tmod (wrap64 ((wrap64 ((wrap64 ((wrap64 ((wrap64 (rd s0_0 (Int.tmod (wrap64 ((wrap64 (s0_1 + 1)) - 1)) (s0_0.length : Int)))) + (wrap64 ((wrap64 (Int.tdiv (wrap64 ((wrap64 (s0_1 + 1)) - 1)) (s0_0.length : Int))) * 37)))) * 251)) + (wrap64 ((wrap64 (rd s0_0 (Int.tmod (wrap64 ((wrap64 ((wrap64 (s0_1 + 1)) - 1)) + 1)) (s0_0.length : Int)))) * 13)))) + (wrap64 ((wrap64 (s0_1 + 1)) - 1)))) a1, wrap64 (s0_1 + 1)))) else (none)) else (none)) else (if a1 = 0 then (none) else (some (Int.tmod (wrap64 ((wrap64 (rd s0_0 (Int.tmod (wrap64 ((wrap64 (s0_1 + 1)) - 1)) (s0_0.length : Int)))) + (wrap64 ((wrap64 (Int.tdiv (wrap64 ((wrap64 (s0_1 + 1)) - 1)) (s0_0.length : Int))) * 37)))) a1, wrap64 (s0_1 + 1))))) else (none)) else (none)))) = some (r1, r2) := h
 clear h
 by_cases c3 : a1 < 1
 ·rw [if_pos c3] at H
  have c3b0 : decide (a1 < 1) = true := decide_eq_true c3
  clear c3
  simp only [Option.some.injEq, Prod.mk.injEq] at H
  obtain ⟨rfl, rfl⟩ := H
  obtain ⟨ASz4_0, cSz4_0, HGz4, hgz4, HSz4_0⟩ := HI0.out
  have hcz4_0 := cellS73_0 HGz4
  have hcz4_1 := cellS73_1 HGz4
  have hfz4_1 := blk_frozen HGz4 1
  clear HGz4 hgz4
  go_enter Tryz.func32, Tryz.ntmps32
  go_wp2
  repeat (go_quiet (fail); try go_wp2)
  go_ret
  exact ⟨bE, z2 HI0.out, z1 HI0.out, z3⟩
 rw [if_neg c3] at H
 have c3b0 : decide (a1 < 1) = false := decide_eq_false c3
 clear c3
 by_cases c5 : (s0_0.length : Int) = 0
 ·rw [if_pos c5] at H
  have c5b0 : ((s0_0.length : Int) == 0) = true := beq_iff_eq.mpr c5
  have c5b1 : ((s0_0.length : Int) != 0) = false := bne_eq_false_iff_eq.mpr c5
  clear c5
  by_cases c6 : a1 = 0
  ·rw [if_pos c6] at H
   exact absurd H (by simp)
  rw [if_neg c6] at H
  have c6b0 : (a1 == 0) = false := beq_eq_false_iff_ne.mpr c6
  have c6b1 : (a1 != 0) = true := bne_iff_ne.mpr c6
  simp only [Option.some.injEq, Prod.mk.injEq] at H
  obtain ⟨rfl, rfl⟩ := H
  obtain ⟨ASz7_0, cSz7_0, HGz7, hgz7, HSz7_0⟩ := HI0.out
  have hcz7_0 := cellS73_0 HGz7
  have hcz7_1 := cellS73_1 HGz7
  have hfz7_1 := blk_frozen HGz7 1
  clear HGz7 hgz7
  go_enter Tryz.func32, Tryz.ntmps32
  go_wp2
  repeat (go_quiet (fail); try go_wp2)
  go_ret
  exact ⟨bE, z2 HI0.out, z1 HI0.out, z3⟩
 rw [if_neg c5] at H
 have c5b0 : ((s0_0.length : Int) == 0) = false := beq_eq_false_iff_ne.mpr c5
 have c5b1 : ((s0_0.length : Int) != 0) = true := bne_iff_ne.mpr c5
 have c5b2 : ¬ (s0_0 = []) := fun h_ => c5 (by rw [h_]; rfl)
 obtain ⟨ji8, hji8⟩ : ∃ j_ : Int, (Int.tmod (wrap64 ((wrap64 (s0_1 + 1)) - 1)) (s0_0.length : Int)) = j_ := ⟨_, rfl⟩
 replace H : (if 0 ≤ (ji8) then (if (ji8) < (s0_0.length : Int) then (if a1 > 200 then (if 0 ≤ (Int.tmod (wrap64 ((wrap64 ((wrap64 (s0_1 + 1)) - 1)) + 1)) (s0_0.length : Int)) then (if (Int.tmod (wrap64 ((wrap64 ((wrap64 (s0_1 + 1)) - 1)) + 1)) (s0_0.length : Int)) < (s0_0.length : Int) then (if a1 = 0 then (none) else (some (Int.tmod (wrap64 ((wrap64 ((wrap64 ((wrap64 ((wrap64 (rd s0_0 (ji8))) + (wrap64 ((wrap64 (Int.tdiv (wrap64 ((wrap64 (s0_1 + 1)) - 1)) (s0_0.length : Int))) * 37)))) * 251)) + (wrap64 ((wrap64 (rd s0_0 (Int.tmod (wrap64 ((wrap64 ((wrap64 (s0_1 + 1)) - 1)) + 1)) (s0_0.length : Int)))) * 13)))) + (wrap64 ((wrap64 (s0_1 + 1)) - 1)))) a1, wrap64 (s0_1 + 1)))) else (none)) else (none)) else (if a1 = 0 then (none) else (some (Int.tmod (wrap64 ((wrap64 (rd s0_0 (ji8))) + (wrap64 ((wrap64 (Int.tdiv (wrap64 ((wrap64 (s0_1 + 1)) - 1)) (s0_0.length : Int))) * 37)))) a1, wrap64 (s0_1 + 1))))) else (none)) else (none)) = some (r1, r2) := z52
 by_cases c9 : 0 ≤ (ji8)
 ·rw [if_pos c9] at H
  have c9b0 : decide (0 ≤ (ji8)) = true := decide_eq_true c9
  clear c9
  by_cases c10 : (ji8) < (s0_0.length : Int)
  ·rw [if_pos c10] at H
   have c10b0 : decide ((ji8) < (s0_0.length : Int)) = true := decide_eq_true c10
   clear c10
   by_cases c11 : a1 > 200
   ·rw [if_pos c11] at H
    have c11b0 : decide (200 < a1) = true := decide_eq_true c11
    clear c11
    obtain ⟨ji12, hji12⟩ : ∃ j_ : Int, (Int.tmod (wrap64 ((wrap64 ((wrap64 (s0_1 + 1)) - 1)) + 1)) (s0_0.length : Int)) = j_ := ⟨_, rfl⟩
    replace H : (if 0 ≤ (ji12) then (if (ji12) < (s0_0.length : Int) then (if a1 = 0 then (none) else (some (Int.tmod (wrap64 ((wrap64 ((wrap64 ((wrap64 ((wrap64 (rd s0_0 (ji8))) + (wrap64 ((wrap64 (Int.tdiv (wrap64 ((wrap64 (s0_1 + 1)) - 1)) (s0_0.length : Int))) * 37)))) * 251)) + (wrap64 ((wrap64 (rd s0_0 (ji12))) * 13)))) + (wrap64 ((wrap64 (s0_1 + 1)) - 1)))) a1, wrap64 (s0_1 + 1)))) else (none)) else (none)) = some (r1, r2) := by first | (rw [hji12] at H; exact H) | (simp only [hji12] at H ⊢; exact H)
    by_cases c13 : 0 ≤ (ji12)
    ·rw [if_pos c13] at H
     have c13b0 : decide (0 ≤ (ji12)) = true := decide_eq_true c13
     clear c13
     by_cases c14 : (ji12) < (s0_0.length : Int)
     ·rw [if_pos c14] at H
      have c14b0 : decide ((ji12) < (s0_0.length : Int)) = true := decide_eq_true c14
      clear c14
      by_cases c15 : a1 = 0
      ·rw [if_pos c15] at H
       exact absurd H (by simp)
      rw [if_neg c15] at H
      have c15b0 : (a1 == 0) = false := beq_eq_false_iff_ne.mpr c15
      have c15b1 : (a1 != 0) = true := bne_iff_ne.mpr c15
      simp only [Option.some.injEq, Prod.mk.injEq] at H
      obtain ⟨rfl, rfl⟩ := H
      obtain ⟨ASz16_0, cSz16_0, HGz16, hgz16, HSz16_0⟩ := HI0.out
      have hcz16_0 := cellS73_0 HGz16
      have hcz16_1 := cellS73_1 HGz16
      have hfz16_1 := blk_frozen HGz16 1
      clear HGz16 hgz16
      have p102 : 0 ≤ ((ji8) : Int) := pI
      have q102 : (ji8) < (s0_0.length : Int) := pI
      obtain ⟨ad102, e102, hx102_0⟩ := Kd.at_int HSz16_0 (ji8) p102 q102
      cases e102
      have hn102_0 : ad102.block ≠ g := Nat.ne_of_lt (Nat.lt_of_lt_of_le (by have := World.block_lt_of_cell? _ _ hx102_0; first | rwa [add_block] at this | exact this) (IsS73.ge HI0.out))
      replace hx102_0 := pw_cell_below HB.out hx102_0
      replace hx102_0 := (cell_far (p := ⟨g, 1, none⟩) (by first | (rw [add_block]; exact hn102_0) | (show (Addr.add _ _).block ≠ _; rw [add_block]; exact hn102_0) | exact hn102_0) (.int .i64 (wrap64 (s0_1 + 1)))).trans hx102_0
      (try have hy102_0 := fun (n_ : Nat) => (show (((w.drewN n_).setCell ⟨g, 1, none⟩ (.int .i64 (wrap64 (s0_1 + 1))))).cell? _ = some _ from hx102_0))
      clear hn102_0
      replace p102 := eq_true p102
      replace q102 := eq_true q102
      have p103 : 0 ≤ ((ji12) : Int) := pI
      have q103 : (ji12) < (s0_0.length : Int) := pI
      obtain ⟨ad103, e103, hx103_0⟩ := Kd.at_int HSz16_0 (ji12) p103 q103
      obtain rfl : ad102 = ad103 := (by injection e103)
      have hn103_0 : ad102.block ≠ g := Nat.ne_of_lt (Nat.lt_of_lt_of_le (by have := World.block_lt_of_cell? _ _ hx103_0; first | rwa [add_block] at this | exact this) (IsS73.ge HI0.out))
      replace hx103_0 := pw_cell_below HB.out hx103_0
      replace hx103_0 := (cell_far (p := ⟨g, 1, none⟩) (by first | (rw [add_block]; exact hn103_0) | (show (Addr.add _ _).block ≠ _; rw [add_block]; exact hn103_0) | exact hn103_0) (.int .i64 (wrap64 (s0_1 + 1)))).trans hx103_0
      (try have hy103_0 := fun (n_ : Nat) => (show (((w.drewN n_).setCell ⟨g, 1, none⟩ (.int .i64 (wrap64 (s0_1 + 1))))).cell? _ = some _ from hx103_0))
      clear hn103_0
      replace p103 := eq_true p103
      replace q103 := eq_true q103
      go_enter Tryz.func32, Tryz.ntmps32
      go_wp2
      repeat (go_quiet (fail); try go_wp2)
      go_ret
      exact ⟨by first | rfl | (simp [errW_none, errW_some] <;> rfl) | (simp only [← hji8, ← hji12]; first | rfl | (simp [errW_none, errW_some] <;> rfl)) | (simp [*, errW_none, errW_some] <;> rfl), z2 HI0.out, z1 HI0.out, z3⟩
     rw [if_neg c14] at H
     exact absurd H (by simp)
    rw [if_neg c13] at H
    exact absurd H (by simp)
   rw [if_neg c11] at H
   have c11b0 : decide (200 < a1) = false := decide_eq_false c11
   clear c11
   by_cases c17 : a1 = 0
   ·rw [if_pos c17] at H
    exact absurd H (by simp)
   rw [if_neg c17] at H
   have c17b0 : (a1 == 0) = false := beq_eq_false_iff_ne.mpr c17
   have c17b1 : (a1 != 0) = true := bne_iff_ne.mpr c17
   simp only [Option.some.injEq, Prod.mk.injEq] at H
   obtain ⟨rfl, rfl⟩ := H
   obtain ⟨ASz18_0, cSz18_0, HGz18, hgz18, HSz18_0⟩ := HI0.out
   have hcz18_0 := cellS73_0 HGz18
   have hcz18_1 := cellS73_1 HGz18
   have hfz18_1 := blk_frozen HGz18 1
   clear HGz18 hgz18
   have p102 : 0 ≤ ((ji8) : Int) := pI
   have q102 : (ji8) < (s0_0.length : Int) := pI
   obtain ⟨ad102, e102, hx102_0⟩ := Kd.at_int HSz18_0 (ji8) p102 q102
   cases e102
   have hn102_0 : ad102.block ≠ g := Nat.ne_of_lt (Nat.lt_of_lt_of_le (by have := World.block_lt_of_cell? _ _ hx102_0; first | rwa [add_block] at this | exact this) (IsS73.ge HI0.out))
   replace hx102_0 := pw_cell_below HB.out hx102_0
   replace hx102_0 := (cell_far (p := ⟨g, 1, none⟩) (by first | (rw [add_block]; exact hn102_0) | (show (Addr.add _ _).block ≠ _; rw [add_block]; exact hn102_0) | exact hn102_0) (.int .i64 (wrap64 (s0_1 + 1)))).trans hx102_0
   (try have hy102_0 := fun (n_ : Nat) => (show (((w.drewN n_).setCell ⟨g, 1, none⟩ (.int .i64 (wrap64 (s0_1 + 1))))).cell? _ = some _ from hx102_0))
   clear hn102_0
   replace p102 := eq_true p102
   replace q102 := eq_true q102
   go_enter Tryz.func32, Tryz.ntmps32
   go_wp2
   repeat (go_quiet (fail); try go_wp2)
   go_ret
   exact ⟨by first | rfl | (simp [errW_none, errW_some] <;> rfl) | (simp only [← hji8]; first | rfl | (simp [errW_none, errW_some] <;> rfl)) | (simp [*, errW_none, errW_some] <;> rfl), z2 HI0.out, z1 HI0.out, z3⟩
  rw [if_neg c10] at H
  exact absurd H (by simp)
 rw [if_neg c9] at H
 exact absurd H (by simp)
def spec_l1In.f (a0 : Int) (a1 : Int) (a2 : Int) : Option (Bool) := if a0 ≥ a1 then (some (decide (a0 ≤ a2))) else (some false)
set_option maxHeartbeats 8000000 in
set_option maxRecDepth 100000 in
theorem spec_l1In.calls (a0 : Int) (a1 : Int) (a2 : Int) (r : Bool) (w : World) (h : spec_l1In.f a0 a1 a2 = some r) :
  Calls Tryz.prog 96 #[.int .i64 a0, .int .i64 a1, .int .i64 a2] w fun e w' => e = .returned (.bool r) ∧ Drawn0 w w' := by
 have H : (if a0 ≥ a1 then (some (decide (a0 ≤ a2))) else (some false)) = some r := h
 clear h
 by_cases c4 : a0 ≥ a1
 ·rw [if_pos c4] at H
  have c4b0 : decide (a1 ≤ a0) = true := decide_eq_true c4
  clear c4
  obtain rfl := Option.some.inj H
  go_enter Tryz.func96, Tryz.ntmps96
  go_wp2
  go_ret
  exact ⟨bS, z5⟩
 rw [if_neg c4] at H
 have c4b0 : decide (a1 ≤ a0) = false := decide_eq_false c4
 clear c4
 obtain rfl := Option.some.inj H
 go_enter Tryz.func96, Tryz.ntmps96
 go_wp2
 go_ret
 exact ⟨bS, z5⟩
def spec_l2Cyrillic.j0 : Nat → Int → Bool → Option (Int)
 | 0, _, _ => none
 | k + 1, x0, x3 => if x3 = true then (some x0) else (if x0 = 167 then (some 253) else (if x0 = 8470 then (some 240) else ((spec_l1In.f x0 1025 1119).bind fun t105 => (if t105 = true then (if x0 = 1037 then (some (-1)) else (if x0 = 1104 then (some (-1)) else (if x0 = 1117 then (some (-1)) else (some (wrap64 (x0 - 864)))))) else (some (-1))))))
def spec_l2Cyrillic.f (k : Nat) (a0 : Int) : Option (Int) := (spec_l1In.f a0 0 160).bind fun t104 => (if t104 = true then (spec_l2Cyrillic.j0 k a0 true) else (spec_l2Cyrillic.j0 k a0 (a0 == 173)))
set_option maxHeartbeats 8000000 in
set_option maxRecDepth 100000 in
theorem spec_l2Cyrillic.calls (k : Nat) (a0 : Int) (r : Int) (w : World) (h : spec_l2Cyrillic.f k a0 = some r) :
  Calls Tryz.prog 127 #[.int .i64 a0] w fun e w' => e = .returned (.int .i64 r) ∧ Drawn0 w w' := by
 have H : ((spec_l1In.f a0 0 160).bind fun t104 => (if t104 = true then (spec_l2Cyrillic.j0 k a0 true) else (spec_l2Cyrillic.j0 k a0 (a0 == 173)))) = some r := h
 clear h
 have HC2 := aM H
 clear H
 go_enter Tryz.func127, Tryz.ntmps127
 go_upto_region 1 with (fail)
 go_cut [3] (fun v3 wc => ∃ (kq : Nat) (x3_1 : Bool), v3 = .bool x3_1 ∧ Aside0 (spec_l2Cyrillic.j0 kq a0 x3_1 = some r) ∧ Aside0 (kq ≤ k) ∧ Drawn0 w wc)
 case first =>
  have H := HC2.out
  clear HC2
  replace H := Option.bind_eq_some_iff.mp H
  obtain ⟨t104, A30, H⟩ := H
  replace H : (if t104 = true then (spec_l2Cyrillic.j0 k a0 true) else (spec_l2Cyrillic.j0 k a0 (a0 == 173))) = some r := H
  have A3 := aM A30
  clear A30
  by_cases c4 : t104 = true
  ·subst c4
   have H1 : (spec_l2Cyrillic.j0 k a0 true) = some r := z16
   clear H
   have H := H1
   clear H1
   have H' := aM H
   clear H
   go_wp2_with (first | ((with_reducible refine gate_callee (f := 96) rfl ?_); refine gL_ (some 5) Tryz.func96 #[.int .i64 a0, .int .i64 0, .int .i64 160] ?_; (with_reducible refine (spec_l1In.calls a0 0 160 true _ A3.out).mono ?_); rintro e w' ⟨rfl, ⟨nd, rfl⟩⟩; refine ⟨_, rfl, ?_⟩))
   go_meet
   case rel => exact ⟨_, (true), bS, H', ⟨z34⟩, z5⟩
  replace c4 := Bool.eq_false_iff.mpr c4
  subst c4
  have H1 : (spec_l2Cyrillic.j0 k a0 (a0 == 173)) = some r := z7
  clear H
  have H := H1
  clear H1
  have H' := aM H
  clear H
  go_wp2_with (first | ((with_reducible refine gate_callee (f := 96) rfl ?_); refine gL_ (some 5) Tryz.func96 #[.int .i64 a0, .int .i64 0, .int .i64 160] ?_; (with_reducible refine (spec_l1In.calls a0 0 160 false _ A3.out).mono ?_); rintro e w' ⟨rfl, ⟨nd, rfl⟩⟩; refine ⟨_, rfl, ?_⟩))
  go_meet
  case rel => exact ⟨_, ((a0 == 173)), bS, H', ⟨z34⟩, z5⟩
 case rest =>
  clear HC2
  try clear c1
  try clear p2
  try clear c4
  obtain ⟨kq, x3_1, rfl, HA, HJ1, ⟨mc1, rfl⟩⟩ := hcut
  cases kq with
  | zero => exact absurd HA.out (by simp [spec_l2Cyrillic.j0])
  | succ kj1 =>
   have H := HA.out
   clear HA
   simp only [spec_l2Cyrillic.j0] at H
   by_cases c5 : x3_1 = true
   ·subst c5
    have H1 : (some a0) = some r := z16
    clear H
    have H := H1
    clear H1
    obtain rfl := Option.some.inj H
    go_wp2
    go_ret
    exact ⟨bS, z5⟩
   replace c5 := Bool.eq_false_iff.mpr c5
   subst c5
   have H1 : (if a0 = 167 then (some 253) else (if a0 = 8470 then (some 240) else ((spec_l1In.f a0 1025 1119).bind fun t105 => (if t105 = true then (if a0 = 1037 then (some (-1)) else (if a0 = 1104 then (some (-1)) else (if a0 = 1117 then (some (-1)) else (some (wrap64 (a0 - 864)))))) else (some (-1)))))) = some r := z7
   clear H
   have H := H1
   clear H1
   by_cases c6 : a0 = 167
   ·rw [if_pos c6] at H
    have c6b0 : (a0 == 167) = true := beq_iff_eq.mpr c6
    have c6b1 : (a0 != 167) = false := bne_eq_false_iff_eq.mpr c6
    clear c6
    obtain rfl := Option.some.inj H
    go_wp2
    go_ret
    exact ⟨bS, z5⟩
   rw [if_neg c6] at H
   have c6b0 : (a0 == 167) = false := beq_eq_false_iff_ne.mpr c6
   have c6b1 : (a0 != 167) = true := bne_iff_ne.mpr c6
   by_cases c7 : a0 = 8470
   ·rw [if_pos c7] at H
    have c7b0 : (a0 == 8470) = true := beq_iff_eq.mpr c7
    have c7b1 : (a0 != 8470) = false := bne_eq_false_iff_eq.mpr c7
    clear c7
    obtain rfl := Option.some.inj H
    go_wp2
    go_ret
    exact ⟨bS, z5⟩
   rw [if_neg c7] at H
   have c7b0 : (a0 == 8470) = false := beq_eq_false_iff_ne.mpr c7
   have c7b1 : (a0 != 8470) = true := bne_iff_ne.mpr c7
   replace H := Option.bind_eq_some_iff.mp H
   obtain ⟨t105, A80, H⟩ := H
   replace H : (if t105 = true then (if a0 = 1037 then (some (-1)) else (if a0 = 1104 then (some (-1)) else (if a0 = 1117 then (some (-1)) else (some (wrap64 (a0 - 864)))))) else (some (-1))) = some r := H
   have A8 := aM A80
   clear A80
   by_cases c9 : t105 = true
   ·subst c9
    have H1 : (if a0 = 1037 then (some (-1)) else (if a0 = 1104 then (some (-1)) else (if a0 = 1117 then (some (-1)) else (some (wrap64 (a0 - 864)))))) = some r := z16
    clear H
    have H := H1
    clear H1
    by_cases c10 : a0 = 1037
    ·rw [if_pos c10] at H
     have c10b0 : (a0 == 1037) = true := beq_iff_eq.mpr c10
     have c10b1 : (a0 != 1037) = false := bne_eq_false_iff_eq.mpr c10
     clear c10
     obtain rfl := Option.some.inj H
     go_wp2_with (first | ((with_reducible refine gate_callee (f := 96) rfl ?_); refine gL_ (some 19) Tryz.func96 #[.int .i64 a0, .int .i64 1025, .int .i64 1119] ?_; (with_reducible refine (spec_l1In.calls a0 1025 1119 true _ A8.out).mono ?_); rintro e w' ⟨rfl, ⟨nd, rfl⟩⟩; refine ⟨_, rfl, ?_⟩))
     go_ret
     exact ⟨bS, z5⟩
    rw [if_neg c10] at H
    have c10b0 : (a0 == 1037) = false := beq_eq_false_iff_ne.mpr c10
    have c10b1 : (a0 != 1037) = true := bne_iff_ne.mpr c10
    by_cases c11 : a0 = 1104
    ·rw [if_pos c11] at H
     have c11b0 : (a0 == 1104) = true := beq_iff_eq.mpr c11
     have c11b1 : (a0 != 1104) = false := bne_eq_false_iff_eq.mpr c11
     clear c11
     obtain rfl := Option.some.inj H
     go_wp2_with (first | ((with_reducible refine gate_callee (f := 96) rfl ?_); refine gL_ (some 19) Tryz.func96 #[.int .i64 a0, .int .i64 1025, .int .i64 1119] ?_; (with_reducible refine (spec_l1In.calls a0 1025 1119 true _ A8.out).mono ?_); rintro e w' ⟨rfl, ⟨nd, rfl⟩⟩; refine ⟨_, rfl, ?_⟩))
     go_ret
     exact ⟨bS, z5⟩
    rw [if_neg c11] at H
    have c11b0 : (a0 == 1104) = false := beq_eq_false_iff_ne.mpr c11
    have c11b1 : (a0 != 1104) = true := bne_iff_ne.mpr c11
    by_cases c12 : a0 = 1117
    ·rw [if_pos c12] at H
     have c12b0 : (a0 == 1117) = true := beq_iff_eq.mpr c12
     have c12b1 : (a0 != 1117) = false := bne_eq_false_iff_eq.mpr c12
     clear c12
     obtain rfl := Option.some.inj H
     go_wp2_with (first | ((with_reducible refine gate_callee (f := 96) rfl ?_); refine gL_ (some 19) Tryz.func96 #[.int .i64 a0, .int .i64 1025, .int .i64 1119] ?_; (with_reducible refine (spec_l1In.calls a0 1025 1119 true _ A8.out).mono ?_); rintro e w' ⟨rfl, ⟨nd, rfl⟩⟩; refine ⟨_, rfl, ?_⟩))
     go_ret
     exact ⟨bS, z5⟩
    rw [if_neg c12] at H
    have c12b0 : (a0 == 1117) = false := beq_eq_false_iff_ne.mpr c12
    have c12b1 : (a0 != 1117) = true := bne_iff_ne.mpr c12
    obtain rfl := Option.some.inj H
    go_wp2_with (first | ((with_reducible refine gate_callee (f := 96) rfl ?_); refine gL_ (some 19) Tryz.func96 #[.int .i64 a0, .int .i64 1025, .int .i64 1119] ?_; (with_reducible refine (spec_l1In.calls a0 1025 1119 true _ A8.out).mono ?_); rintro e w' ⟨rfl, ⟨nd, rfl⟩⟩; refine ⟨_, rfl, ?_⟩))
    go_ret
    exact ⟨bS, z5⟩
   replace c9 := Bool.eq_false_iff.mpr c9
   subst c9
   have H1 : (some (-1)) = some r := z7
   clear H
   have H := H1
   clear H1
   obtain rfl := Option.some.inj H
   go_wp2_with (first | ((with_reducible refine gate_callee (f := 96) rfl ?_); refine gL_ (some 19) Tryz.func96 #[.int .i64 a0, .int .i64 1025, .int .i64 1119] ?_; (with_reducible refine (spec_l1In.calls a0 1025 1119 false _ A8.out).mono ?_); rintro e w' ⟨rfl, ⟨nd, rfl⟩⟩; refine ⟨_, rfl, ?_⟩))
   go_ret
   exact ⟨bS, z5⟩
def spec_l2Has.f (k : Nat) (a0 : Int) (a1 : Int) : Option (Bool) := if a0 = 1 then ((spec_l1In.f a1 0 127).bind fun t106 => (some t106)) else (if a0 = 2 then ((spec_l1In.f a1 0 255).bind fun t107 => (some t107)) else (if a0 = 3 then ((spec_l2Cyrillic.f k a1).bind fun t108 => (some (decide (t108 ≥ 0)))) else (some true)))
set_option maxHeartbeats 8000000 in
set_option maxRecDepth 100000 in
theorem spec_l2Has.calls (k : Nat) (a0 : Int) (a1 : Int) (r : Bool) (w : World) (h : spec_l2Has.f k a0 a1 = some r) :
  Calls Tryz.prog 97 #[.int .i64 a0, .int .i64 a1] w fun e w' => e = .returned (.bool r) ∧ Drawn0 w w' := by
 have H : (if a0 = 1 then ((spec_l1In.f a1 0 127).bind fun t106 => (some t106)) else (if a0 = 2 then ((spec_l1In.f a1 0 255).bind fun t107 => (some t107)) else (if a0 = 3 then ((spec_l2Cyrillic.f k a1).bind fun t108 => (some (decide (t108 ≥ 0)))) else (some true)))) = some r := h
 clear h
 by_cases c3 : a0 = 1
 ·rw [if_pos c3] at H
  have c3b0 : (a0 == 1) = true := beq_iff_eq.mpr c3
  have c3b1 : (a0 != 1) = false := bne_eq_false_iff_eq.mpr c3
  clear c3
  replace H := Option.bind_eq_some_iff.mp H
  obtain ⟨t106, A40, H⟩ := H
  replace H : (some t106) = some r := H
  have A4 := aM A40
  clear A40
  obtain rfl := Option.some.inj H
  go_enter Tryz.func97, Tryz.ntmps97
  go_wp2_with (first | ((with_reducible refine gate_callee (f := 96) rfl ?_); refine gL_ (some 9) Tryz.func96 #[.int .i64 a1, .int .i64 0, .int .i64 127] ?_; (with_reducible refine (spec_l1In.calls a1 0 127 t106 _ A4.out).mono ?_); rintro e w' ⟨rfl, ⟨nd, rfl⟩⟩; refine ⟨_, rfl, ?_⟩))
  go_ret
  exact ⟨bS, z5⟩
 rw [if_neg c3] at H
 have c3b0 : (a0 == 1) = false := beq_eq_false_iff_ne.mpr c3
 have c3b1 : (a0 != 1) = true := bne_iff_ne.mpr c3
 by_cases c5 : a0 = 2
 ·rw [if_pos c5] at H
  have c5b0 : (a0 == 2) = true := beq_iff_eq.mpr c5
  have c5b1 : (a0 != 2) = false := bne_eq_false_iff_eq.mpr c5
  clear c5
  replace H := Option.bind_eq_some_iff.mp H
  obtain ⟨t107, A60, H⟩ := H
  replace H : (some t107) = some r := H
  have A6 := aM A60
  clear A60
  obtain rfl := Option.some.inj H
  go_enter Tryz.func97, Tryz.ntmps97
  go_wp2_with (first | ((with_reducible refine gate_callee (f := 96) rfl ?_); refine gL_ (some 13) Tryz.func96 #[.int .i64 a1, .int .i64 0, .int .i64 255] ?_; (with_reducible refine (spec_l1In.calls a1 0 255 t107 _ A6.out).mono ?_); rintro e w' ⟨rfl, ⟨nd, rfl⟩⟩; refine ⟨_, rfl, ?_⟩))
  go_ret
  exact ⟨bS, z5⟩
 rw [if_neg c5] at H
 have c5b0 : (a0 == 2) = false := beq_eq_false_iff_ne.mpr c5
 have c5b1 : (a0 != 2) = true := bne_iff_ne.mpr c5
 by_cases c7 : a0 = 3
 ·rw [if_pos c7] at H
  have c7b0 : (a0 == 3) = true := beq_iff_eq.mpr c7
  have c7b1 : (a0 != 3) = false := bne_eq_false_iff_eq.mpr c7
  clear c7
  replace H := Option.bind_eq_some_iff.mp H
  obtain ⟨t108, A80, H⟩ := H
  replace H : (some (decide (t108 ≥ 0))) = some r := H
  have A8 := aM A80
  clear A80
  obtain rfl := Option.some.inj H
  go_enter Tryz.func97, Tryz.ntmps97
  go_wp2_with (first | ((with_reducible refine gate_callee (f := 127) rfl ?_); refine gL_ (some 17) Tryz.func127 #[.int .i64 a1] ?_; (with_reducible refine (spec_l2Cyrillic.calls k a1 t108 _ A8.out).mono ?_); rintro e w' ⟨rfl, ⟨nd, rfl⟩⟩; refine ⟨_, rfl, ?_⟩))
  go_ret
  exact ⟨bS, z5⟩
 rw [if_neg c7] at H
 have c7b0 : (a0 == 3) = false := beq_eq_false_iff_ne.mpr c7
 have c7b1 : (a0 != 3) = true := bne_iff_ne.mpr c7
 obtain rfl := Option.some.inj H
 go_enter Tryz.func97, Tryz.ntmps97
 go_wp2
 go_ret
 exact ⟨bS, z5⟩
def spec_l2Bytes.j0 : Nat → Int → Int → Bool → Option (List Int)
 | 0, _, _, _ => none
 | k + 1, x1, x5, x6 => if x6 = true then (some (([(x1) % 256] : List Int))) else (if x5 = 3 then ((spec_l2Cyrillic.f k x1).bind fun t112 => (some (([(t112) % 256] : List Int)))) else (if x5 = 5 then (some (([(wrap64 (Int.tdiv x1 256)) % 256, (Int.tmod x1 256) % 256] : List Int))) else (if x1 < 128 then (some (([(x1) % 256] : List Int))) else (if x1 < 2048 then (some (([(wrap64 (192 + (wrap64 (Int.tdiv x1 64)))) % 256, (wrap64 (128 + (Int.tmod x1 64))) % 256] : List Int))) else (some (([(wrap64 (224 + (wrap64 (Int.tdiv x1 4096)))) % 256, (wrap64 (128 + (Int.tmod (wrap64 (Int.tdiv x1 64)) 64))) % 256, (wrap64 (128 + (Int.tmod x1 64))) % 256] : List Int)))))))
def spec_l2Bytes.f (k : Nat) (a0 : Int) (a1 : Int) : Option (List Int) := if a0 = 1 then (spec_l2Bytes.j0 k a1 a0 (a0 == 1)) else (spec_l2Bytes.j0 k a1 a0 (a0 == 2))
set_option maxHeartbeats 8000000 in
set_option maxRecDepth 100000 in
theorem spec_l2Bytes.calls (k : Nat) (a0 : Int) (a1 : Int) (r : List Int) (w : World) (h : spec_l2Bytes.f k a0 a1 = some r) :
  Calls Tryz.prog 98 #[.int .i64 a0, .int .i64 a1] w fun e w' => ∃ v0_ : Value, e = .returned (v0_) ∧ Kd.R (Kd.int .u8) 5 w' w.heap.size (fun _ => True) v0_ r ∧ Below w.heap.size w w' := by
 have HB := aM (Below.refl w.heap.size w)
 have H : (if a0 = 1 then (spec_l2Bytes.j0 k a1 a0 (a0 == 1)) else (spec_l2Bytes.j0 k a1 a0 (a0 == 2))) = some r := h
 clear h
 have HC3 := aM H
 clear H
 go_enter Tryz.func98, Tryz.ntmps98
 go_upto_if 6 with (fail)
 go_cut [6] (fun v6 wc => ∃ (kq : Nat) (x6_2 : Bool), v6 = .bool x6_2 ∧ Aside0 (spec_l2Bytes.j0 kq a1 a0 x6_2 = some r) ∧ Aside0 (kq ≤ k) ∧ Aside0 (Below w.heap.size w wc))
 case first =>
  have H := HC3.out
  clear HC3
  by_cases c4 : a0 = 1
  ·rw [if_pos c4] at H
   have c4b0 : (a0 == 1) = true := beq_iff_eq.mpr c4
   have c4b1 : (a0 != 1) = false := bne_eq_false_iff_eq.mpr c4
   clear c4
   (first | rw [c4b0] | (simp only [i64_w, i32_w]; rw [c4b0]) | skip)
   have H' := aM H
   clear H
   go_wp2
   go_meet
   case rel => exact ⟨_, ((a0 == 1)), bS, H', ⟨z34⟩, ⟨bB⟩⟩
  rw [if_neg c4] at H
  have c4b0 : (a0 == 1) = false := beq_eq_false_iff_ne.mpr c4
  have c4b1 : (a0 != 1) = true := bne_iff_ne.mpr c4
  (first | rw [c4b0] | (simp only [i64_w, i32_w]; rw [c4b0]) | skip)
  have H' := aM H
  clear H
  go_wp2
  go_meet
  case rel => exact ⟨_, ((a0 == 2)), bS, H', ⟨z34⟩, ⟨bB⟩⟩
 case rest =>
  clear HC3
  try clear p2
  try clear c4
  try clear c4b0
  try clear c4b1
  obtain ⟨kq, x6_2, rfl, HA, HJ2, HB⟩ := hcut
  cases kq with
  | zero => exact absurd HA.out (by simp [spec_l2Bytes.j0])
  | succ kj2 =>
   have H := HA.out
   clear HA
   simp only [spec_l2Bytes.j0] at H
   by_cases c5 : x6_2 = true
   ·subst c5
    have H1 : (some (([(a1) % 256] : List Int))) = some r := z16
    clear H
    have H := H1
    clear H1
    obtain ⟨y109, hy109⟩ : ∃ y_ : List Int, y_ = (([(a1) % 256] : List Int)) := ⟨_, rfl⟩
    replace H : (some y109) = some r := z0 hy109
    have Ny109 := aM hy109
    clear hy109
    obtain rfl := Option.some.inj H
    go_wp2_with (first | ((with_reducible refine gate_dst (N := 11) rfl ?_); refine Kd.R_lit (Kd.int .u8) _ 5 ?hg (N := 11) ?hd (xs := ([(a1) % 256] : List Int)) (inner := [.int .u8 ((a1) % 256)]) (ok := fun _ => True) (okp := fun _ => True) ?hr ?hp (fun _ hk => hk) trivial (Below.refl _ _) (Nat.le_refl _) (by simp) ?_; (case hd => rfl); (case hg => rfl); (case hr => exact z10); (case hp => exact (Reps.one (show Kd.M (Kd.int .u8) _ _ _ ((a1) % 256) [.int .u8 ((a1) % 256)] from rfl) (Reps.none _ _))); intro v110 w6 ho7 hb hg_ hnew_; clear hg_ hnew_; (first | rw [← Ny109.out] at ho7 | (simp only [Int.reduceToNat] at ho7; rw [← Ny109.out] at ho7)); have HO111 := aM (Kd.R_lower ho7 (below_size bB)); replace HB := aM (below_step bB hb); clear hb ho7))
    go_ret
    exact ⟨_, bE, bR HO111, bB⟩
   replace c5 := Bool.eq_false_iff.mpr c5
   subst c5
   have H1 : (if a0 = 3 then ((spec_l2Cyrillic.f kj2 a1).bind fun t112 => (some (([(t112) % 256] : List Int)))) else (if a0 = 5 then (some (([(wrap64 (Int.tdiv a1 256)) % 256, (Int.tmod a1 256) % 256] : List Int))) else (if a1 < 128 then (some (([(a1) % 256] : List Int))) else (if a1 < 2048 then (some (([(wrap64 (192 + (wrap64 (Int.tdiv a1 64)))) % 256, (wrap64 (128 + (Int.tmod a1 64))) % 256] : List Int))) else (some (([(wrap64 (224 + (wrap64 (Int.tdiv a1 4096)))) % 256, (wrap64 (128 + (Int.tmod (wrap64 (Int.tdiv a1 64)) 64))) % 256, (wrap64 (128 + (Int.tmod a1 64))) % 256] : List Int))))))) = some r := z7
   clear H
   have H := H1
   clear H1
   by_cases c8 : a0 = 3
   ·rw [if_pos c8] at H
    have c8b0 : (a0 == 3) = true := beq_iff_eq.mpr c8
    have c8b1 : (a0 != 3) = false := bne_eq_false_iff_eq.mpr c8
    clear c8
    replace H := Option.bind_eq_some_iff.mp H
    obtain ⟨t112, A90, H⟩ := H
    replace H : (some (([(t112) % 256] : List Int))) = some r := H
    have A9 := aM A90
    clear A90
    obtain ⟨y113, hy113⟩ : ∃ y_ : List Int, y_ = (([(t112) % 256] : List Int)) := ⟨_, rfl⟩
    replace H : (some y113) = some r := z0 hy113
    have Ny113 := aM hy113
    clear hy113
    obtain rfl := Option.some.inj H
    go_wp2_with (first | ((with_reducible refine gate_callee (f := 127) rfl ?_); refine gL_ (some 15) Tryz.func127 #[.int .i64 a1] ?_; (with_reducible refine (spec_l2Cyrillic.calls kj2 a1 t112 _ A9.out).mono ?_); rintro e w' ⟨rfl, ⟨nd, rfl⟩⟩; refine ⟨_, rfl, ?_⟩) | ((with_reducible refine gate_dst (N := 17) rfl ?_); refine Kd.R_lit (Kd.int .u8) _ 5 ?hg (N := 17) ?hd (xs := ([(t112) % 256] : List Int)) (inner := [.int .u8 ((t112) % 256)]) (ok := fun _ => True) (okp := fun _ => True) ?hr ?hp (fun _ hk => hk) trivial (Below.refl _ _) (Nat.le_refl _) (by simp) ?_; (case hd => rfl); (case hg => rfl); (case hr => exact z10); (case hp => exact (Reps.one (show Kd.M (Kd.int .u8) _ _ _ ((t112) % 256) [.int .u8 ((t112) % 256)] from rfl) (Reps.none _ _))); intro v114 w10 ho11 hb hg_ hnew_; clear hg_ hnew_; (first | rw [← Ny113.out] at ho11 | (simp only [Int.reduceToNat] at ho11; rw [← Ny113.out] at ho11)); have HO115 := aM (Kd.R_lower ho11 (below_size bB)); replace HB := aM (below_step bB hb); clear hb ho11))
    go_ret
    exact ⟨_, bE, bR HO115, bB⟩
   rw [if_neg c8] at H
   have c8b0 : (a0 == 3) = false := beq_eq_false_iff_ne.mpr c8
   have c8b1 : (a0 != 3) = true := bne_iff_ne.mpr c8
   by_cases c12 : a0 = 5
   ·rw [if_pos c12] at H
    have c12b0 : (a0 == 5) = true := beq_iff_eq.mpr c12
    have c12b1 : (a0 != 5) = false := bne_eq_false_iff_eq.mpr c12
    clear c12
    obtain ⟨y116, hy116⟩ : ∃ y_ : List Int, y_ = (([(wrap64 (Int.tdiv a1 256)) % 256, (Int.tmod a1 256) % 256] : List Int)) := ⟨_, rfl⟩
    replace H : (some y116) = some r := z0 hy116
    have Ny116 := aM hy116
    clear hy116
    obtain rfl := Option.some.inj H
    go_wp2_with (first | ((with_reducible refine gate_dst (N := 26) rfl ?_); refine Kd.R_lit (Kd.int .u8) _ 5 ?hg (N := 26) ?hd (xs := ([(wrap64 (Int.tdiv a1 256)) % 256, (Int.tmod a1 256) % 256] : List Int)) (inner := [.int .u8 ((wrap64 (Int.tdiv a1 256)) % 256), .int .u8 ((Int.tmod a1 256) % 256)]) (ok := fun _ => True) (okp := fun _ => True) ?hr ?hp (fun _ hk => hk) trivial (Below.refl _ _) (Nat.le_refl _) (by simp) ?_; (case hd => rfl); (case hg => rfl); (case hr => exact z10); (case hp => exact (Reps.one (show Kd.M (Kd.int .u8) _ _ _ ((wrap64 (Int.tdiv a1 256)) % 256) [.int .u8 ((wrap64 (Int.tdiv a1 256)) % 256)] from rfl) (Reps.one (show Kd.M (Kd.int .u8) _ _ _ ((Int.tmod a1 256) % 256) [.int .u8 ((Int.tmod a1 256) % 256)] from rfl) (Reps.none _ _)))); intro v117 w13 ho14 hb hg_ hnew_; clear hg_ hnew_; (first | rw [← Ny116.out] at ho14 | (simp only [Int.reduceToNat] at ho14; rw [← Ny116.out] at ho14)); have HO118 := aM (Kd.R_lower ho14 (below_size bB)); replace HB := aM (below_step bB hb); clear hb ho14))
    go_ret
    exact ⟨_, bE, bR HO118, bB⟩
   rw [if_neg c12] at H
   have c12b0 : (a0 == 5) = false := beq_eq_false_iff_ne.mpr c12
   have c12b1 : (a0 != 5) = true := bne_iff_ne.mpr c12
   by_cases c15 : a1 < 128
   ·rw [if_pos c15] at H
    have c15b0 : decide (a1 < 128) = true := decide_eq_true c15
    clear c15
    obtain ⟨y119, hy119⟩ : ∃ y_ : List Int, y_ = (([(a1) % 256] : List Int)) := ⟨_, rfl⟩
    replace H : (some y119) = some r := z0 hy119
    have Ny119 := aM hy119
    clear hy119
    obtain rfl := Option.some.inj H
    go_wp2_with (first | ((with_reducible refine gate_dst (N := 31) rfl ?_); refine Kd.R_lit (Kd.int .u8) _ 5 ?hg (N := 31) ?hd (xs := ([(a1) % 256] : List Int)) (inner := [.int .u8 ((a1) % 256)]) (ok := fun _ => True) (okp := fun _ => True) ?hr ?hp (fun _ hk => hk) trivial (Below.refl _ _) (Nat.le_refl _) (by simp) ?_; (case hd => rfl); (case hg => rfl); (case hr => exact z10); (case hp => exact (Reps.one (show Kd.M (Kd.int .u8) _ _ _ ((a1) % 256) [.int .u8 ((a1) % 256)] from rfl) (Reps.none _ _))); intro v120 w16 ho17 hb hg_ hnew_; clear hg_ hnew_; (first | rw [← Ny119.out] at ho17 | (simp only [Int.reduceToNat] at ho17; rw [← Ny119.out] at ho17)); have HO121 := aM (Kd.R_lower ho17 (below_size bB)); replace HB := aM (below_step bB hb); clear hb ho17))
    go_ret
    exact ⟨_, bE, bR HO121, bB⟩
   rw [if_neg c15] at H
   have c15b0 : decide (a1 < 128) = false := decide_eq_false c15
   clear c15
   by_cases c18 : a1 < 2048
   ·rw [if_pos c18] at H
    have c18b0 : decide (a1 < 2048) = true := decide_eq_true c18
    clear c18
    obtain ⟨y122, hy122⟩ : ∃ y_ : List Int, y_ = (([(wrap64 (192 + (wrap64 (Int.tdiv a1 64)))) % 256, (wrap64 (128 + (Int.tmod a1 64))) % 256] : List Int)) := ⟨_, rfl⟩
    replace H : (some y122) = some r := z0 hy122
    have Ny122 := aM hy122
    clear hy122
    obtain rfl := Option.some.inj H
    go_wp2_with (first | ((with_reducible refine gate_dst (N := 42) rfl ?_); refine Kd.R_lit (Kd.int .u8) _ 5 ?hg (N := 42) ?hd (xs := ([(wrap64 (192 + (wrap64 (Int.tdiv a1 64)))) % 256, (wrap64 (128 + (Int.tmod a1 64))) % 256] : List Int)) (inner := [.int .u8 ((wrap64 (192 + (wrap64 (Int.tdiv a1 64)))) % 256), .int .u8 ((wrap64 (128 + (Int.tmod a1 64))) % 256)]) (ok := fun _ => True) (okp := fun _ => True) ?hr ?hp (fun _ hk => hk) trivial (Below.refl _ _) (Nat.le_refl _) (by simp) ?_; (case hd => rfl); (case hg => rfl); (case hr => exact z10); (case hp => exact (Reps.one (show Kd.M (Kd.int .u8) _ _ _ ((wrap64 (192 + (wrap64 (Int.tdiv a1 64)))) % 256) [.int .u8 ((wrap64 (192 + (wrap64 (Int.tdiv a1 64)))) % 256)] from rfl) (Reps.one (show Kd.M (Kd.int .u8) _ _ _ ((wrap64 (128 + (Int.tmod a1 64))) % 256) [.int .u8 ((wrap64 (128 + (Int.tmod a1 64))) % 256)] from rfl) (Reps.none _ _)))); intro v123 w19 ho20 hb hg_ hnew_; clear hg_ hnew_; (first | rw [← Ny122.out] at ho20 | (simp only [Int.reduceToNat] at ho20; rw [← Ny122.out] at ho20)); have HO124 := aM (Kd.R_lower ho20 (below_size bB)); replace HB := aM (below_step bB hb); clear hb ho20))
    go_ret
    exact ⟨_, bE, bR HO124, bB⟩
   rw [if_neg c18] at H
   have c18b0 : decide (a1 < 2048) = false := decide_eq_false c18
   clear c18
   obtain ⟨y125, hy125⟩ : ∃ y_ : List Int, y_ = (([(wrap64 (224 + (wrap64 (Int.tdiv a1 4096)))) % 256, (wrap64 (128 + (Int.tmod (wrap64 (Int.tdiv a1 64)) 64))) % 256, (wrap64 (128 + (Int.tmod a1 64))) % 256] : List Int)) := ⟨_, rfl⟩
   replace H : (some y125) = some r := z0 hy125
   have Ny125 := aM hy125
   clear hy125
   obtain rfl := Option.some.inj H
   go_wp2_with (first | ((with_reducible refine gate_dst (N := 56) rfl ?_); refine Kd.R_lit (Kd.int .u8) _ 5 ?hg (N := 56) ?hd (xs := ([(wrap64 (224 + (wrap64 (Int.tdiv a1 4096)))) % 256, (wrap64 (128 + (Int.tmod (wrap64 (Int.tdiv a1 64)) 64))) % 256, (wrap64 (128 + (Int.tmod a1 64))) % 256] : List Int)) (inner := [.int .u8 ((wrap64 (224 + (wrap64 (Int.tdiv a1 4096)))) % 256), .int .u8 ((wrap64 (128 + (Int.tmod (wrap64 (Int.tdiv a1 64)) 64))) % 256), .int .u8 ((wrap64 (128 + (Int.tmod a1 64))) % 256)]) (ok := fun _ => True) (okp := fun _ => True) ?hr ?hp (fun _ hk => hk) trivial (Below.refl _ _) (Nat.le_refl _) (by simp) ?_; (case hd => rfl); (case hg => rfl); (case hr => exact z10); (case hp => exact (Reps.one (show Kd.M (Kd.int .u8) _ _ _ ((wrap64 (224 + (wrap64 (Int.tdiv a1 4096)))) % 256) [.int .u8 ((wrap64 (224 + (wrap64 (Int.tdiv a1 4096)))) % 256)] from rfl) (Reps.one (show Kd.M (Kd.int .u8) _ _ _ ((wrap64 (128 + (Int.tmod (wrap64 (Int.tdiv a1 64)) 64))) % 256) [.int .u8 ((wrap64 (128 + (Int.tmod (wrap64 (Int.tdiv a1 64)) 64))) % 256)] from rfl) (Reps.one (show Kd.M (Kd.int .u8) _ _ _ ((wrap64 (128 + (Int.tmod a1 64))) % 256) [.int .u8 ((wrap64 (128 + (Int.tmod a1 64))) % 256)] from rfl) (Reps.none _ _))))); intro v126 w21 ho22 hb hg_ hnew_; clear hg_ hnew_; (first | rw [← Ny125.out] at ho22 | (simp only [Int.reduceToNat] at ho22; rw [← Ny125.out] at ho22)); have HO127 := aM (Kd.R_lower ho22 (below_size bB)); replace HB := aM (below_step bB hb); clear hb ho22))
   go_ret
   exact ⟨_, bE, bR HO127, bB⟩
def spec_l2Encode.l0 : Nat → Int → List Int → List Int → Int → Option (List Int × Int)
 | 0, _, _, _, _ => none
 | k + 1, x0, x1, x6, x7 => if x7 < (x1.length : Int) then (if 0 ≤ x7 then ((spec_l2Has.f k x0 (rd x1 x7)).bind fun t132 => (if t132 = true then ((spec_l2Bytes.f k x0 (rd x1 x7)).bind fun t134 => (if x6.length + t134.length < 140737488355328 then (spec_l2Encode.l0 k x0 x1 (x6 ++ t134) (wrap64 (x7 + 1))) else (none))) else (some (([] : List Int), 8)))) else (none)) else (if (x6.length : Int) > 400 then (some (([] : List Int), 2)) else (some (x6, 0)))
def spec_l2Encode.f (k : Nat) (a0 : Int) (l1 : List Int) : Option (List Int × Int) := spec_l2Encode.l0 k a0 l1 (([] : List Int)) 0
set_option maxHeartbeats 8000000 in
set_option maxRecDepth 100000 in
theorem spec_l2Encode.calls (k : Nat) (a0 : Int) (A1 : Option Addr) (c1 : Nat) (l1 : List Int) (r1 : List Int) (r2 : Int) (w : World) (hr1 : Kd.C (Kd.int .i64) w A1 l1.length l1) (hc1 : l1.length ≤ c1) (h : spec_l2Encode.f k a0 l1 = some (r1, r2)) :
  Calls Tryz.prog 63 #[.int .i64 a0, .slice A1 l1.length c1] w fun e w' => ∃ v0_ : Value, e = .returned (.tuple #[v0_, .int .i64 r2]) ∧ Kd.R (Kd.int .u8) 5 w' w.heap.size (fun _ => True) v0_ r1 ∧ Below w.heap.size w w' := by
 have HR1 := aM hr1
 have HC1 := aM hc1
 clear hr1 hc1
 have HB := aM (Below.refl w.heap.size w)
 have H : (spec_l2Encode.l0 k a0 l1 (([] : List Int)) 0) = some (r1, r2) := h
 clear h
 obtain ⟨y128, hy128⟩ : ∃ y_ : List Int, y_ = (([] : List Int)) := ⟨_, rfl⟩
 replace H : (spec_l2Encode.l0 k a0 l1 y128 0) = some (r1, r2) := z0 hy128
 have Ny128 := aM hy128
 clear hy128
 have H' := aM H
 clear H
 go_enter Tryz.func63, Tryz.ntmps63
 go_wp2_with (first | ((with_reducible refine gate_dst (N := 8) rfl ?_); refine Kd.R_lit (Kd.int .u8) _ 5 ?hg (N := 8) ?hd (xs := ([] : List Int)) (inner := []) (ok := fun _ => True) (okp := fun _ => True) ?hr ?hp (fun _ hk => hk) trivial (Below.refl _ _) (Nat.le_refl _) (by simp) ?_; (case hd => rfl); (case hg => rfl); (case hr => exact z10); (case hp => exact (Reps.none _ _)); intro v129 w3 ho4 hb hg_ hnew_; clear hg_ hnew_; (first | rw [← Ny128.out] at ho4 | (simp only [Int.reduceToNat] at ho4; rw [← Ny128.out] at ho4)); have HO130 := aM (Kd.R_lower ho4 (below_size bB)); replace HB := aM (below_step bB hb); clear hb ho4))
 go_loopg [6, 7] k (fun kq v6 v7 w' => ∃ (x6_1 : List Int) (x7_1 : Int), v7 = .int .i64 x7_1 ∧ Aside0 (spec_l2Encode.l0 kq a0 l1 x6_1 x7_1 = some (r1, r2)) ∧ Aside0 (kq ≤ k) ∧ Aside0 (Kd.R (Kd.int .u8) 5 w' w.heap.size (fun _ => True) v6 x6_1) ∧ Aside0 (Below w.heap.size w w'))
 case atStart => exact ⟨(y128), (0), bS, H', ⟨Nat.le_refl _⟩, ⟨bR HO130⟩, ⟨bB⟩⟩
 case round =>
  clear H'
  try clear c1
  try clear p2
  obtain ⟨x6_1, x7_1, rfl, HA, HK1, HO_6, HB⟩ := hrel
  cases gk with
  | zero => exact absurd HA.out (by simp [spec_l2Encode.l0])
  | succ k1 =>
   have H := HA.out
   clear HA
   simp only [spec_l2Encode.l0] at H
   by_cases c5 : x7_1 < (l1.length : Int)
   ·rw [if_pos c5] at H
    have c5b0 : decide (x7_1 < (l1.length : Int)) = true := decide_eq_true c5
    clear c5
    by_cases c6 : 0 ≤ x7_1
    ·rw [if_pos c6] at H
     have c6b0 : decide (0 ≤ x7_1) = true := decide_eq_true c6
     clear c6
     replace H := Option.bind_eq_some_iff.mp H
     obtain ⟨t132, A70, H⟩ := H
     replace H : (if t132 = true then ((spec_l2Bytes.f k1 a0 (rd l1 x7_1)).bind fun t134 => (if x6_1.length + t134.length < 140737488355328 then (spec_l2Encode.l0 k1 a0 l1 (x6_1 ++ t134) (wrap64 (x7_1 + 1))) else (none))) else (some (([] : List Int), 8))) = some (r1, r2) := H
     have A7 := aM A70
     clear A70
     by_cases c8 : t132 = true
     ·subst c8
      have H1 : ((spec_l2Bytes.f k1 a0 (rd l1 x7_1)).bind fun t134 => (if x6_1.length + t134.length < 140737488355328 then (spec_l2Encode.l0 k1 a0 l1 (x6_1 ++ t134) (wrap64 (x7_1 + 1))) else (none))) = some (r1, r2) := z16
      clear H
      have H := H1
      clear H1
      replace H := Option.bind_eq_some_iff.mp H
      obtain ⟨t134, A90, H⟩ := H
      replace H : (if x6_1.length + t134.length < 140737488355328 then (spec_l2Encode.l0 k1 a0 l1 (x6_1 ++ t134) (wrap64 (x7_1 + 1))) else (none)) = some (r1, r2) := H
      have A9 := aM A90
      clear A90
      by_cases c10 : x6_1.length + t134.length < 140737488355328
      ·rw [if_pos c10] at H
       have LMc10 := aM c10
       clear c10
       obtain ⟨y137, hy137⟩ : ∃ y_ : List Int, y_ = (x6_1 ++ t134) := ⟨_, rfl⟩
       replace H : (spec_l2Encode.l0 k1 a0 l1 y137 (wrap64 (x7_1 + 1))) = some (r1, r2) := z0 hy137
       have Ny137 := aM hy137
       clear hy137
       have H' := aM H
       clear H
       have p131 : 0 ≤ (x7_1 : Int) := pI
       have q131 : x7_1 < (l1.length : Int) := pI
       obtain ⟨ad131, e131, hx131_0⟩ := Kd.at_int HR1.out x7_1 p131 q131
       cases e131
       replace hx131_0 := (HB.out.cell (World.block_lt_of_cell? w _ hx131_0)).trans hx131_0
       replace p131 := eq_true p131
       replace q131 := eq_true q131
       go_wp2_with (first | ((with_reducible refine gate_callee (f := 97) rfl ?_); refine gL_ (some 20) Tryz.func97 #[.int .i64 a0, .int .i64 (rd l1 x7_1)] ?_; (with_reducible refine (spec_l2Has.calls k1 a0 (rd l1 x7_1) true _ A7.out).mono ?_); rintro e w' ⟨rfl, ⟨nd, rfl⟩⟩; refine ⟨_, rfl, ?_⟩; have p133 : 0 ≤ (x7_1 : Int) := pI; have q133 : x7_1 < (l1.length : Int) := pI; obtain ⟨ad133, e133, hx133_0⟩ := Kd.at_int HR1.out x7_1 p133 q133; obtain rfl : ad131 = ad133 := (by injection e133); replace hx133_0 := (HB.out.cell (World.block_lt_of_cell? w _ hx133_0)).trans hx133_0; replace p133 := eq_true p133; replace q133 := eq_true q133) | ((with_reducible refine gate_callee (f := 98) rfl ?_); refine gL_ (some 28) Tryz.func98 #[.int .i64 a0, .int .i64 (rd l1 x7_1)] ?_; (with_reducible refine (spec_l2Bytes.calls k1 a0 (rd l1 x7_1) t134 _ A9.out).mono ?_); rintro e w11 ⟨v135, rfl, ho0, hb⟩; refine ⟨_, rfl, ?_⟩; have HO136 := aM (Kd.R_lower (Kd.R_new' ho0 (Kd.R_lt (bR HO_6))) (below_size bB)); replace HO_6 := aM (Kd.R_elder' (bR HO_6) (Kd.R_base ho0) hb); replace HB := aM (below_step bB hb); (try clear ho0); obtain ⟨Ao13, co13, eo13⟩ := Kd.R_slice HO136.out; subst eo13) | ((with_reducible refine gate_builtin (b := .append) (xs := #[.tmp 22, .tmp 28]) rfl ?_); at_builtin; refine Kd.R_append_rows (Kd.int .u8) (w0 := w) w.heap.size rfl (.tmp 22) (.tmp 28) 22 5 (.int .u8 0) 1 rfl Tryz.underlying22 info5 rfl (by decide) (by omega) u6 x6_1 t134 _ _ _ (fun k_ => some k_ ≠ (.slice Ao13 t134.length co13 : Value).ownBlock) (fun _ => False) rfl rfl ?aO ?aR (fun _ _ h => h) (fun _ h => h.elim) ?aF ?aB ?aS ?aL ?_; (case aR => exact z4 HO136.out); (case aB => exact bB); (case aF => exact (fun k_ hk => Kd.fresh' (Kd.R_lt (bR HO136)) k_ hk)); (case aO => exact z13 HO_6.out); (case aS => exact (below_size bB)); (case aL => have := LMc10.out; omega); intro v138 w12 ho hb hg hat; rw [← Ny137.out] at ho; have n0_ := aM (Kd.R_after (ok := (fun _ => True)) (bR HO136) hg hat); have n1_ := aM (hb); have n2_ := aM (ho); clear HO136; clear HB; clear HO_6; have HO136 := n0_; have HB := n1_; have HO139 := n2_; clear n0_ n1_ n2_; clear ho hb hg hat))
       go_roundg k1
       case measure => have := HK1.out; omega
       case rel => exact ⟨(y137), (wrap64 (x7_1 + 1)), bS, H', ⟨by have := HK1.out; omega⟩, ⟨z9 HO139.out⟩, ⟨bB⟩⟩
      rw [if_neg c10] at H
      exact absurd H (by simp)
     replace c8 := Bool.eq_false_iff.mpr c8
     subst c8
     have H1 : (some (([] : List Int), 8)) = some (r1, r2) := z7
     clear H
     have H := H1
     clear H1
     simp only [Option.some.injEq, Prod.mk.injEq] at H
     obtain ⟨rfl, rfl⟩ := H
     have p131 : 0 ≤ (x7_1 : Int) := pI
     have q131 : x7_1 < (l1.length : Int) := pI
     obtain ⟨ad131, e131, hx131_0⟩ := Kd.at_int HR1.out x7_1 p131 q131
     cases e131
     replace hx131_0 := (HB.out.cell (World.block_lt_of_cell? w _ hx131_0)).trans hx131_0
     replace p131 := eq_true p131
     replace q131 := eq_true q131
     go_wp2_with (first | ((with_reducible refine gate_callee (f := 97) rfl ?_); refine gL_ (some 20) Tryz.func97 #[.int .i64 a0, .int .i64 (rd l1 x7_1)] ?_; (with_reducible refine (spec_l2Has.calls k1 a0 (rd l1 x7_1) false _ A7.out).mono ?_); rintro e w' ⟨rfl, ⟨nd, rfl⟩⟩; refine ⟨_, rfl, ?_⟩))
     go_ret2
     exact ⟨_, bE, z6, bB⟩
    rw [if_neg c6] at H
    exact absurd H (by simp)
   rw [if_neg c5] at H
   have c5b0 : decide (x7_1 < (l1.length : Int)) = false := decide_eq_false c5
   clear c5
   by_cases c14 : (x6_1.length : Int) > 400
   ·rw [if_pos c14] at H
    have c14b0 : decide (400 < (x6_1.length : Int)) = true := decide_eq_true c14
    have c14b1 : decide (400 < x6_1.length) = true := decide_eq_true (by omega)
    clear c14
    simp only [Option.some.injEq, Prod.mk.injEq] at H
    obtain ⟨rfl, rfl⟩ := H
    obtain ⟨Ao15, co15, eo15⟩ := Kd.R_slice HO_6.out
    subst eo15
    go_wp2
    go_ret2
    exact ⟨_, bE, z6, bB⟩
   rw [if_neg c14] at H
   have c14b0 : decide (400 < (x6_1.length : Int)) = false := decide_eq_false c14
   have c14b1 : decide (400 < x6_1.length) = false := decide_eq_false (by omega)
   clear c14
   simp only [Option.some.injEq, Prod.mk.injEq] at H
   obtain ⟨rfl, rfl⟩ := H
   obtain ⟨Ao16, co16, eo16⟩ := Kd.R_slice HO_6.out
   subst eo16
   go_wp2
   go_ret2
   exact ⟨_, bE, bR HO_6, bB⟩
def spec_l4Self.l0 : Nat → List Int → Int → Option (Bool)
 | 0, _, _ => none
 | k + 1, x0, x3 => if x3 < (x0.length : Int) then (if 0 ≤ x3 then ((spec_l1In.f (rd x0 x3) 32 126).bind fun t141 => (if t141 = true then (if x3 > 0 then (if 0 ≤ (wrap64 (x3 - 1)) then (if (wrap64 (x3 - 1)) < (x0.length : Int) then (if (rd x0 (wrap64 (x3 - 1))) = 61 then (if (rd x0 x3) = 63 then (some false) else (spec_l4Self.l0 k x0 (wrap64 (x3 + 1)))) else (spec_l4Self.l0 k x0 (wrap64 (x3 + 1)))) else (none)) else (none)) else (spec_l4Self.l0 k x0 (wrap64 (x3 + 1)))) else (some false))) else (none)) else (some true)
def spec_l4Self.f (k : Nat) (l0 : List Int) : Option (Bool) := spec_l4Self.l0 k l0 0
set_option maxHeartbeats 8000000 in
set_option maxRecDepth 100000 in
theorem spec_l4Self.calls (k : Nat) (A0 : Option Addr) (c0 : Nat) (l0 : List Int) (r : Bool) (w : World) (hr0 : Kd.C (Kd.int .i64) w A0 l0.length l0) (hc0 : l0.length ≤ c0) (h : spec_l4Self.f k l0 = some r) :
  Calls Tryz.prog 64 #[.slice A0 l0.length c0] w fun e w' => e = .returned (.bool r) ∧ Drawn0 w w' := by
 have HR0 := aM hr0
 have HC0 := aM hc0
 clear hr0 hc0
 have H : (spec_l4Self.l0 k l0 0) = some r := h
 clear h
 have H' := aM H
 clear H
 go_enter Tryz.func64, Tryz.ntmps64
 go_wp2
 go_loopg [3] k (fun kq v3 w' => ∃ (x3_1 : Int), v3 = .int .i64 x3_1 ∧ Aside0 (spec_l4Self.l0 kq l0 x3_1 = some r) ∧ Aside0 (kq ≤ k) ∧ Drawn0 w w')
 case atStart => exact ⟨(0), bS, H', ⟨Nat.le_refl _⟩, z5⟩
 case round =>
  clear H'
  obtain ⟨x3_1, rfl, HA, HK1, ⟨m1, rfl⟩⟩ := hrel
  cases gk with
  | zero => exact absurd HA.out (by simp [spec_l4Self.l0])
  | succ k1 =>
   have H := HA.out
   clear HA
   simp only [spec_l4Self.l0] at H
   by_cases c2 : x3_1 < (l0.length : Int)
   ·rw [if_pos c2] at H
    have c2b0 : decide (x3_1 < (l0.length : Int)) = true := decide_eq_true c2
    clear c2
    by_cases c3 : 0 ≤ x3_1
    ·rw [if_pos c3] at H
     have c3b0 : decide (0 ≤ x3_1) = true := decide_eq_true c3
     clear c3
     replace H := Option.bind_eq_some_iff.mp H
     obtain ⟨t141, A40, H⟩ := H
     replace H : (if t141 = true then (if x3_1 > 0 then (if 0 ≤ (wrap64 (x3_1 - 1)) then (if (wrap64 (x3_1 - 1)) < (l0.length : Int) then (if (rd l0 (wrap64 (x3_1 - 1))) = 61 then (if (rd l0 x3_1) = 63 then (some false) else (spec_l4Self.l0 k1 l0 (wrap64 (x3_1 + 1)))) else (spec_l4Self.l0 k1 l0 (wrap64 (x3_1 + 1)))) else (none)) else (none)) else (spec_l4Self.l0 k1 l0 (wrap64 (x3_1 + 1)))) else (some false)) = some r := H
     have A4 := aM A40
     clear A40
     by_cases c5 : t141 = true
     ·subst c5
      have H1 : (if x3_1 > 0 then (if 0 ≤ (wrap64 (x3_1 - 1)) then (if (wrap64 (x3_1 - 1)) < (l0.length : Int) then (if (rd l0 (wrap64 (x3_1 - 1))) = 61 then (if (rd l0 x3_1) = 63 then (some false) else (spec_l4Self.l0 k1 l0 (wrap64 (x3_1 + 1)))) else (spec_l4Self.l0 k1 l0 (wrap64 (x3_1 + 1)))) else (none)) else (none)) else (spec_l4Self.l0 k1 l0 (wrap64 (x3_1 + 1)))) = some r := z16
      clear H
      have H := H1
      clear H1
      by_cases c6 : x3_1 > 0
      ·rw [if_pos c6] at H
       have c6b0 : decide (0 < x3_1) = true := decide_eq_true c6
       clear c6
       obtain ⟨ji7, hji7⟩ : ∃ j_ : Int, (wrap64 (x3_1 - 1)) = j_ := ⟨_, rfl⟩
       replace H : (if 0 ≤ (ji7) then (if (ji7) < (l0.length : Int) then (if (rd l0 (ji7)) = 61 then (if (rd l0 x3_1) = 63 then (some false) else (spec_l4Self.l0 k1 l0 (wrap64 (x3_1 + 1)))) else (spec_l4Self.l0 k1 l0 (wrap64 (x3_1 + 1)))) else (none)) else (none)) = some r := by first | (rw [hji7] at H; exact H) | (simp only [hji7] at H ⊢; exact H)
       (try rw [hji7] at A4)
       have hji7w : (IntKind.i64.wrap (x3_1 - 1)) = ji7 := (i64_w _).trans hji7
       by_cases c8 : 0 ≤ (ji7)
       ·rw [if_pos c8] at H
        have c8b0 : decide (0 ≤ (ji7)) = true := decide_eq_true c8
        clear c8
        by_cases c9 : (ji7) < (l0.length : Int)
        ·rw [if_pos c9] at H
         have c9b0 : decide ((ji7) < (l0.length : Int)) = true := decide_eq_true c9
         clear c9
         by_cases c10 : (rd l0 (ji7)) = 61
         ·rw [if_pos c10] at H
          have c10b0 : ((rd l0 (ji7)) == 61) = true := beq_iff_eq.mpr c10
          have c10b1 : ((rd l0 (ji7)) != 61) = false := bne_eq_false_iff_eq.mpr c10
          clear c10
          by_cases c11 : (rd l0 x3_1) = 63
          ·rw [if_pos c11] at H
           have c11b0 : ((rd l0 x3_1) == 63) = true := beq_iff_eq.mpr c11
           have c11b1 : ((rd l0 x3_1) != 63) = false := bne_eq_false_iff_eq.mpr c11
           clear c11
           obtain rfl := Option.some.inj H
           have p140 : 0 ≤ (x3_1 : Int) := pI
           have q140 : x3_1 < (l0.length : Int) := pI
           obtain ⟨ad140, e140, hx140_0⟩ := Kd.at_int HR0.out x3_1 p140 q140
           cases e140
           replace p140 := eq_true p140
           replace q140 := eq_true q140
           go_wp2_with (first | ((with_reducible refine gate_callee (f := 96) rfl ?_); refine gL_ (some 14) Tryz.func96 #[.int .i64 (rd l0 x3_1), .int .i64 32, .int .i64 126] ?_; (with_reducible refine (spec_l1In.calls (rd l0 x3_1) 32 126 true _ A4.out).mono ?_); rintro e w' ⟨rfl, ⟨nd, rfl⟩⟩; refine ⟨_, rfl, ?_⟩; have p142 : 0 ≤ ((ji7) : Int) := pI; have q142 : (ji7) < (l0.length : Int) := pI; obtain ⟨ad142, e142, hx142_0⟩ := Kd.at_int HR0.out (ji7) p142 q142; obtain rfl : ad140 = ad142 := (by injection e142); replace p142 := eq_true p142; replace q142 := eq_true q142; have p143 : 0 ≤ (x3_1 : Int) := pI; have q143 : x3_1 < (l0.length : Int) := pI; obtain ⟨ad143, e143, hx143_0⟩ := Kd.at_int HR0.out x3_1 p143 q143; obtain rfl : ad140 = ad143 := (by injection e143); replace p143 := eq_true p143; replace q143 := eq_true q143))
           go_ret
           exact ⟨by first | rfl | (simp; done) | (simp only [← hji7] <;> (first | rfl | simp)) | (simp [*]; done), z5⟩
          rw [if_neg c11] at H
          have c11b0 : ((rd l0 x3_1) == 63) = false := beq_eq_false_iff_ne.mpr c11
          have c11b1 : ((rd l0 x3_1) != 63) = true := bne_iff_ne.mpr c11
          have H' := aM H
          clear H
          have p140 : 0 ≤ (x3_1 : Int) := pI
          have q140 : x3_1 < (l0.length : Int) := pI
          obtain ⟨ad140, e140, hx140_0⟩ := Kd.at_int HR0.out x3_1 p140 q140
          cases e140
          replace p140 := eq_true p140
          replace q140 := eq_true q140
          go_wp2_with (first | ((with_reducible refine gate_callee (f := 96) rfl ?_); refine gL_ (some 14) Tryz.func96 #[.int .i64 (rd l0 x3_1), .int .i64 32, .int .i64 126] ?_; (with_reducible refine (spec_l1In.calls (rd l0 x3_1) 32 126 true _ A4.out).mono ?_); rintro e w' ⟨rfl, ⟨nd, rfl⟩⟩; refine ⟨_, rfl, ?_⟩; have p142 : 0 ≤ ((ji7) : Int) := pI; have q142 : (ji7) < (l0.length : Int) := pI; obtain ⟨ad142, e142, hx142_0⟩ := Kd.at_int HR0.out (ji7) p142 q142; obtain rfl : ad140 = ad142 := (by injection e142); replace p142 := eq_true p142; replace q142 := eq_true q142; have p143 : 0 ≤ (x3_1 : Int) := pI; have q143 : x3_1 < (l0.length : Int) := pI; obtain ⟨ad143, e143, hx143_0⟩ := Kd.at_int HR0.out x3_1 p143 q143; obtain rfl : ad140 = ad143 := (by injection e143); replace p143 := eq_true p143; replace q143 := eq_true q143))
          go_roundg k1
          case measure => have := HK1.out; omega
          case rel => exact ⟨(wrap64 (x3_1 + 1)), bS, H', ⟨by have := HK1.out; omega⟩, z5⟩
         rw [if_neg c10] at H
         have c10b0 : ((rd l0 (ji7)) == 61) = false := beq_eq_false_iff_ne.mpr c10
         have c10b1 : ((rd l0 (ji7)) != 61) = true := bne_iff_ne.mpr c10
         have H' := aM H
         clear H
         have p140 : 0 ≤ (x3_1 : Int) := pI
         have q140 : x3_1 < (l0.length : Int) := pI
         obtain ⟨ad140, e140, hx140_0⟩ := Kd.at_int HR0.out x3_1 p140 q140
         cases e140
         replace p140 := eq_true p140
         replace q140 := eq_true q140
         go_wp2_with (first | ((with_reducible refine gate_callee (f := 96) rfl ?_); refine gL_ (some 14) Tryz.func96 #[.int .i64 (rd l0 x3_1), .int .i64 32, .int .i64 126] ?_; (with_reducible refine (spec_l1In.calls (rd l0 x3_1) 32 126 true _ A4.out).mono ?_); rintro e w' ⟨rfl, ⟨nd, rfl⟩⟩; refine ⟨_, rfl, ?_⟩; have p142 : 0 ≤ ((ji7) : Int) := pI; have q142 : (ji7) < (l0.length : Int) := pI; obtain ⟨ad142, e142, hx142_0⟩ := Kd.at_int HR0.out (ji7) p142 q142; obtain rfl : ad140 = ad142 := (by injection e142); replace p142 := eq_true p142; replace q142 := eq_true q142))
         go_roundg k1
         case measure => have := HK1.out; omega
         case rel => exact ⟨(wrap64 (x3_1 + 1)), bS, H', ⟨by have := HK1.out; omega⟩, z5⟩
        rw [if_neg c9] at H
        exact absurd H (by simp)
       rw [if_neg c8] at H
       exact absurd H (by simp)
      rw [if_neg c6] at H
      have c6b0 : decide (0 < x3_1) = false := decide_eq_false c6
      clear c6
      have H' := aM H
      clear H
      have p140 : 0 ≤ (x3_1 : Int) := pI
      have q140 : x3_1 < (l0.length : Int) := pI
      obtain ⟨ad140, e140, hx140_0⟩ := Kd.at_int HR0.out x3_1 p140 q140
      cases e140
      replace p140 := eq_true p140
      replace q140 := eq_true q140
      go_wp2_with (first | ((with_reducible refine gate_callee (f := 96) rfl ?_); refine gL_ (some 14) Tryz.func96 #[.int .i64 (rd l0 x3_1), .int .i64 32, .int .i64 126] ?_; (with_reducible refine (spec_l1In.calls (rd l0 x3_1) 32 126 true _ A4.out).mono ?_); rintro e w' ⟨rfl, ⟨nd, rfl⟩⟩; refine ⟨_, rfl, ?_⟩))
      go_roundg k1
      case measure => have := HK1.out; omega
      case rel => exact ⟨(wrap64 (x3_1 + 1)), bS, H', ⟨by have := HK1.out; omega⟩, z5⟩
     replace c5 := Bool.eq_false_iff.mpr c5
     subst c5
     have H1 : (some false) = some r := z7
     clear H
     have H := H1
     clear H1
     obtain rfl := Option.some.inj H
     have p140 : 0 ≤ (x3_1 : Int) := pI
     have q140 : x3_1 < (l0.length : Int) := pI
     obtain ⟨ad140, e140, hx140_0⟩ := Kd.at_int HR0.out x3_1 p140 q140
     cases e140
     replace p140 := eq_true p140
     replace q140 := eq_true q140
     go_wp2_with (first | ((with_reducible refine gate_callee (f := 96) rfl ?_); refine gL_ (some 14) Tryz.func96 #[.int .i64 (rd l0 x3_1), .int .i64 32, .int .i64 126] ?_; (with_reducible refine (spec_l1In.calls (rd l0 x3_1) 32 126 false _ A4.out).mono ?_); rintro e w' ⟨rfl, ⟨nd, rfl⟩⟩; refine ⟨_, rfl, ?_⟩))
     go_ret
     exact ⟨bS, z5⟩
    rw [if_neg c3] at H
    exact absurd H (by simp)
   rw [if_neg c2] at H
   have c2b0 : decide (x3_1 < (l0.length : Int)) = false := decide_eq_false c2
   clear c2
   obtain rfl := Option.some.inj H
   go_wp2
   go_ret
   exact ⟨bS, z5⟩
def spec_l1Base.f (a0 : Int) : Option (Int) := if 0 ≤ a0 then (if a0 < 64 then (some (bt (⟨#[65, 66, 67, 68, 69, 70, 71, 72, 73, 74, 75, 76, 77, 78, 79, 80, 81, 82, 83, 84, 85, 86, 87, 88, 89, 90, 97, 98, 99, 100, 101, 102, 103, 104, 105, 106, 107, 108, 109, 110, 111, 112, 113, 114, 115, 116, 117, 118, 119, 120, 121, 122, 48, 49, 50, 51, 52, 53, 54, 55, 56, 57, 43, 47]⟩ : ByteArray) a0)) else (none)) else (none)
set_option maxHeartbeats 8000000 in
set_option maxRecDepth 100000 in
theorem spec_l1Base.calls (a0 : Int) (r : Int) (w : World) (h : spec_l1Base.f a0 = some r) :
  Calls Tryz.prog 99 #[.int .i64 a0] w fun e w' => e = .returned (.int .u8 r) ∧ Drawn0 w w' := by
 have H : (if 0 ≤ a0 then (if a0 < 64 then (some (bt (⟨#[65, 66, 67, 68, 69, 70, 71, 72, 73, 74, 75, 76, 77, 78, 79, 80, 81, 82, 83, 84, 85, 86, 87, 88, 89, 90, 97, 98, 99, 100, 101, 102, 103, 104, 105, 106, 107, 108, 109, 110, 111, 112, 113, 114, 115, 116, 117, 118, 119, 120, 121, 122, 48, 49, 50, 51, 52, 53, 54, 55, 56, 57, 43, 47]⟩ : ByteArray) a0)) else (none)) else (none)) = some r := h
 clear h
 by_cases c2 : 0 ≤ a0
 ·rw [if_pos c2] at H
  have c2b0 : decide (0 ≤ a0) = true := decide_eq_true c2
  clear c2
  by_cases c3 : a0 < 64
  ·rw [if_pos c3] at H
   have c3b0 : decide (a0 < 64) = true := decide_eq_true c3
   clear c3
   obtain rfl := Option.some.inj H
   have p4 : 0 ≤ (a0 : Int) := pI
   have q4 : a0 < (64 : Int) := pI
   have hx4 := bt_at (⟨#[65, 66, 67, 68, 69, 70, 71, 72, 73, 74, 75, 76, 77, 78, 79, 80, 81, 82, 83, 84, 85, 86, 87, 88, 89, 90, 97, 98, 99, 100, 101, 102, 103, 104, 105, 106, 107, 108, 109, 110, 111, 112, 113, 114, 115, 116, 117, 118, 119, 120, 121, 122, 48, 49, 50, 51, 52, 53, 54, 55, 56, 57, 43, 47]⟩ : ByteArray) a0
   replace p4 := eq_true p4
   replace q4 := eq_true q4
   go_enter Tryz.func99, Tryz.ntmps99
   go_wp2
   go_ret
   exact ⟨bS, z5⟩
  rw [if_neg c3] at H
  exact absurd H (by simp)
 rw [if_neg c2] at H
 exact absurd H (by simp)
end Go.Proofs.YtjopgmjmjnfcjaaGreatDoor.PWords
