/- Part of the proof; words that it uses. -/
import Derived.Test.YtjopgmjmjnfcjaaGreatDoorPSubjectOfx0
namespace Go.Proofs.YtjopgmjmjnfcjaaGreatDoor.PSubjectOf
open Go.RowKit Go.Proofs.YtjopgmjmjnfcjaaGreatDoorW.PrintWords Go.Proofs.YtjopgmjmjnfcjaaGreatDoorW.PrintLast
set_option linter.unusedVariables false
set_option linter.unusedSimpArgs false
def spec_l4Gap.l0 : Nat → ByteArray → Int → Int → Option (Int)
 | 0, _, _, _ => none
 | k + 1, x0, x1, x5 => if (wrap64 (x1 + x5)) < (x0.size : Int) then (if 0 ≤ (wrap64 (x1 + x5)) then (if (bt x0 (wrap64 (x1 + x5))) = 32 then (spec_l4Gap.l0 k x0 x1 (wrap64 (x5 + 1))) else (if (bt x0 (wrap64 (x1 + x5))) = 9 then (spec_l4Gap.l0 k x0 x1 (wrap64 (x5 + 1))) else (some x5))) else (none)) else (some x5)
def spec_l4Gap.f (k : Nat) (a0 : ByteArray) (a1 : Int) : Option (Int) := spec_l4Gap.l0 k a0 a1 0
set_option maxHeartbeats 8000000 in
set_option maxRecDepth 100000 in
theorem spec_l4Gap.calls (k : Nat) (a0 : ByteArray) (a1 : Int) (r : Int) (w : World) (h : spec_l4Gap.f k a0 a1 = some r) :
  Calls Tryz.prog 55 #[.string a0, .int .i64 a1] w fun e w' => e = .returned (.int .i64 r) ∧ Drawn0 w w' := by
 have H : (spec_l4Gap.l0 k a0 a1 0) = some r := h
 clear h
 have H' := aM H
 clear H
 go_enter Tryz.func55, Tryz.ntmps55
 go_wp2
 go_loopg [5] k (fun kq v5 w' => ∃ (x5_1 : Int), v5 = .int .i64 x5_1 ∧ Aside0 (spec_l4Gap.l0 kq a0 a1 x5_1 = some r) ∧ Aside0 (kq ≤ k) ∧ Drawn0 w w')
 case atStart => exact ⟨(0), bS, H', ⟨Nat.le_refl _⟩, z1⟩
 case round =>
  clear H'
  try clear p2
  obtain ⟨x5_1, rfl, HA, HK1, ⟨m1, rfl⟩⟩ := hrel
  cases gk with
  | zero => exact absurd HA.out (by simp [spec_l4Gap.l0])
  | succ k1 =>
   have H := HA.out
   clear HA
   simp only [spec_l4Gap.l0] at H
   by_cases c3 : (wrap64 (a1 + x5_1)) < (a0.size : Int)
   ·rw [if_pos c3] at H
    have c3b0 : decide ((wrap64 (a1 + x5_1)) < (a0.size : Int)) = true := decide_eq_true c3
    clear c3
    obtain ⟨ji4, hji4⟩ : ∃ j_ : Int, (wrap64 (a1 + x5_1)) = j_ := ⟨_, rfl⟩
    replace H : (if 0 ≤ (ji4) then (if (bt a0 (ji4)) = 32 then (spec_l4Gap.l0 k1 a0 a1 (wrap64 (x5_1 + 1))) else (if (bt a0 (ji4)) = 9 then (spec_l4Gap.l0 k1 a0 a1 (wrap64 (x5_1 + 1))) else (some x5_1))) else (none)) = some r := by first | (rw [hji4] at H; exact H) | (simp only [hji4] at H ⊢; exact H)
    (try rw [hji4] at c3b0)
    have hji4w : (IntKind.i64.wrap (a1 + x5_1)) = ji4 := (i64_w _).trans hji4
    by_cases c5 : 0 ≤ (ji4)
    ·rw [if_pos c5] at H
     have c5b0 : decide (0 ≤ (ji4)) = true := decide_eq_true c5
     clear c5
     by_cases c7 : (bt a0 (ji4)) = 32
     ·rw [if_pos c7] at H
      have c7b0 : ((bt a0 (ji4)) == 32) = true := beq_iff_eq.mpr c7
      have c7b1 : ((bt a0 (ji4)) != 32) = false := bne_eq_false_iff_eq.mpr c7
      clear c7
      have H' := aM H
      clear H
      have p6 : 0 ≤ ((ji4) : Int) := pI
      have q6 : (ji4) < (a0.size : Int) := pI
      have hx6 := bt_at a0 (ji4)
      replace p6 := eq_true p6
      replace q6 := eq_true q6
      go_wp2
      go_roundg k1
      case measure => have := HK1.out; omega
      case rel => exact ⟨(wrap64 (x5_1 + 1)), bS, H', ⟨by have := HK1.out; omega⟩, z1⟩
     rw [if_neg c7] at H
     have c7b0 : ((bt a0 (ji4)) == 32) = false := beq_eq_false_iff_ne.mpr c7
     have c7b1 : ((bt a0 (ji4)) != 32) = true := bne_iff_ne.mpr c7
     by_cases c9 : (bt a0 (ji4)) = 9
     ·rw [if_pos c9] at H
      have c9b0 : ((bt a0 (ji4)) == 9) = true := beq_iff_eq.mpr c9
      have c9b1 : ((bt a0 (ji4)) != 9) = false := bne_eq_false_iff_eq.mpr c9
      clear c9
      have H' := aM H
      clear H
      have p6 : 0 ≤ ((ji4) : Int) := pI
      have q6 : (ji4) < (a0.size : Int) := pI
      have hx6 := bt_at a0 (ji4)
      replace p6 := eq_true p6
      replace q6 := eq_true q6
      have p8 : 0 ≤ ((ji4) : Int) := pI
      have q8 : (ji4) < (a0.size : Int) := pI
      have hx8 := bt_at a0 (ji4)
      replace p8 := eq_true p8
      replace q8 := eq_true q8
      go_wp2
      go_roundg k1
      case measure => have := HK1.out; omega
      case rel => exact ⟨(wrap64 (x5_1 + 1)), bS, H', ⟨by have := HK1.out; omega⟩, z1⟩
     rw [if_neg c9] at H
     have c9b0 : ((bt a0 (ji4)) == 9) = false := beq_eq_false_iff_ne.mpr c9
     have c9b1 : ((bt a0 (ji4)) != 9) = true := bne_iff_ne.mpr c9
     obtain rfl := Option.some.inj H
     have p6 : 0 ≤ ((ji4) : Int) := pI
     have q6 : (ji4) < (a0.size : Int) := pI
     have hx6 := bt_at a0 (ji4)
     replace p6 := eq_true p6
     replace q6 := eq_true q6
     have p8 : 0 ≤ ((ji4) : Int) := pI
     have q8 : (ji4) < (a0.size : Int) := pI
     have hx8 := bt_at a0 (ji4)
     replace p8 := eq_true p8
     replace q8 := eq_true q8
     go_wp2
     go_ret
     exact ⟨by first | rfl | (simp; done) | (simp only [← hji4] <;> (first | rfl | simp)) | (simp [*]; done), z1⟩
    rw [if_neg c5] at H
    exact absurd H (by simp)
   rw [if_neg c3] at H
   have c3b0 : decide ((wrap64 (a1 + x5_1)) < (a0.size : Int)) = false := decide_eq_false c3
   clear c3
   obtain rfl := Option.some.inj H
   go_wp2
   go_ret
   exact ⟨bS, z1⟩
def spec_l4Mark.l0 : Nat → ByteArray → Int → Option (Int)
 | 0, _, _ => none
 | k + 1, x0, x5 => if x5 < (x0.size : Int) then (if 0 ≤ x5 then (if (bt x0 x5) = 63 then (some x5) else (spec_l4Mark.l0 k x0 (wrap64 (x5 + 1)))) else (none)) else (some (-1))
def spec_l4Mark.f (k : Nat) (a0 : ByteArray) (a1 : Int) : Option (Int) := spec_l4Mark.l0 k a0 a1
set_option maxHeartbeats 8000000 in
set_option maxRecDepth 100000 in
theorem spec_l4Mark.calls (k : Nat) (a0 : ByteArray) (a1 : Int) (r : Int) (w : World) (h : spec_l4Mark.f k a0 a1 = some r) :
  Calls Tryz.prog 89 #[.string a0, .int .i64 a1] w fun e w' => e = .returned (.int .i64 r) ∧ Drawn0 w w' := by
 have H : (spec_l4Mark.l0 k a0 a1) = some r := h
 clear h
 have H' := aM H
 clear H
 go_enter Tryz.func89, Tryz.ntmps89
 go_wp2
 go_loopg [5] k (fun kq v5 w' => ∃ (x5_1 : Int), v5 = .int .i64 x5_1 ∧ Aside0 (spec_l4Mark.l0 kq a0 x5_1 = some r) ∧ Aside0 (kq ≤ k) ∧ Drawn0 w w')
 case atStart => exact ⟨(a1), bS, H', ⟨Nat.le_refl _⟩, z1⟩
 case round =>
  clear H'
  try clear p2
  obtain ⟨x5_1, rfl, HA, HK1, ⟨m1, rfl⟩⟩ := hrel
  cases gk with
  | zero => exact absurd HA.out (by simp [spec_l4Mark.l0])
  | succ k1 =>
   have H := HA.out
   clear HA
   simp only [spec_l4Mark.l0] at H
   by_cases c3 : x5_1 < (a0.size : Int)
   ·rw [if_pos c3] at H
    have c3b0 : decide (x5_1 < (a0.size : Int)) = true := decide_eq_true c3
    clear c3
    by_cases c4 : 0 ≤ x5_1
    ·rw [if_pos c4] at H
     have c4b0 : decide (0 ≤ x5_1) = true := decide_eq_true c4
     clear c4
     by_cases c6 : (bt a0 x5_1) = 63
     ·rw [if_pos c6] at H
      have c6b0 : ((bt a0 x5_1) == 63) = true := beq_iff_eq.mpr c6
      have c6b1 : ((bt a0 x5_1) != 63) = false := bne_eq_false_iff_eq.mpr c6
      clear c6
      obtain rfl := Option.some.inj H
      have p5 : 0 ≤ (x5_1 : Int) := pI
      have q5 : x5_1 < (a0.size : Int) := pI
      have hx5 := bt_at a0 x5_1
      replace p5 := eq_true p5
      replace q5 := eq_true q5
      go_wp2
      go_ret
      exact ⟨bS, z1⟩
     rw [if_neg c6] at H
     have c6b0 : ((bt a0 x5_1) == 63) = false := beq_eq_false_iff_ne.mpr c6
     have c6b1 : ((bt a0 x5_1) != 63) = true := bne_iff_ne.mpr c6
     have H' := aM H
     clear H
     have p5 : 0 ≤ (x5_1 : Int) := pI
     have q5 : x5_1 < (a0.size : Int) := pI
     have hx5 := bt_at a0 x5_1
     replace p5 := eq_true p5
     replace q5 := eq_true q5
     go_wp2
     go_roundg k1
     case measure => have := HK1.out; omega
     case rel => exact ⟨(wrap64 (x5_1 + 1)), bS, H', ⟨by have := HK1.out; omega⟩, z1⟩
    rw [if_neg c4] at H
    exact absurd H (by simp)
   rw [if_neg c3] at H
   have c3b0 : decide (x5_1 < (a0.size : Int)) = false := decide_eq_false c3
   clear c3
   obtain rfl := Option.some.inj H
   go_wp2
   go_ret
   exact ⟨bS, z1⟩
def spec_l2Lower.l0 : Nat → List Int → Int → Option (ByteArray)
 | 0, _, _ => none
 | k + 1, x3, x4 => if x4 < (x3.length : Int) then (if 0 ≤ x4 then (if (rd x3 x4) ≥ 65 then (if (rd x3 x4) ≤ 90 then (spec_l2Lower.l0 k (x3.set (x4 : Int).toNat (((rd x3 x4) + 32) % 256)) (wrap64 (x4 + 1))) else (spec_l2Lower.l0 k x3 (wrap64 (x4 + 1)))) else (spec_l2Lower.l0 k x3 (wrap64 (x4 + 1)))) else (none)) else (some (strOfNums x3))
def spec_l2Lower.f (k : Nat) (a0 : ByteArray) : Option (ByteArray) := if a0.size ≤ 281474976710656 then (spec_l2Lower.l0 k (bytesOf a0) 0) else (none)
set_option maxHeartbeats 8000000 in
set_option maxRecDepth 100000 in
theorem spec_l2Lower.calls (k : Nat) (a0 : ByteArray) (r : ByteArray) (w : World) (h : spec_l2Lower.f k a0 = some r) :
  Calls Tryz.prog 70 #[.string a0] w fun e w' => e = .returned (.string r) ∧ Below w.heap.size w w' := by
 have HB := aM (Below.refl w.heap.size w)
 have H : (if a0.size ≤ 281474976710656 then (spec_l2Lower.l0 k (bytesOf a0) 0) else (none)) = some r := h
 clear h
 by_cases c2 : a0.size ≤ 281474976710656
 ·rw [if_pos c2] at H
  have c2b0 := eq_true c2
  have c2b1 : decide (a0.size ≤ 281474976710656) = true := decide_eq_true c2
  clear c2
  obtain ⟨y101, hy101⟩ : ∃ y_ : List Int, y_ = (bytesOf a0) := ⟨_, rfl⟩
  replace H : (spec_l2Lower.l0 k y101 0) = some r := z0 hy101
  have Ny101 := aM hy101
  clear hy101
  have H' := aM H
  clear H
  go_enter Tryz.func70, Tryz.ntmps70
  go_wp2_with (first | ((with_reducible refine gate_dst (N := 6) rfl ?_); refine Kd.R_conv _ 5 rfl (N := 6) rfl 9 22 _ rfl a0 rfl Tryz.underlying9 Tryz.underlying22 Tryz.underlying5 (ok := fun _ => True) trivial (pI) (Below.refl _ _) (Nat.le_refl _) ?_; intro v102 w3 ho4 hb hg_ hnew_; clear hg_ hnew_; (first | rw [← Ny101.out] at ho4 | (simp only [Int.reduceToNat] at ho4; rw [← Ny101.out] at ho4)); have HO103 := aM (Kd.R_lower ho4 (below_size bB)); replace HB := aM (below_step bB hb); clear hb ho4))
  go_loopg [4] k (fun kq v4 w' => ∃ (x3_1 : List Int) (x4_1 : Int), v4 = .int .i64 x4_1 ∧ Aside0 (spec_l2Lower.l0 kq x3_1 x4_1 = some r) ∧ Aside0 (kq ≤ k) ∧ Aside0 (Kd.R (Kd.int .u8) 5 w' w.heap.size (fun _ => True) v102 x3_1) ∧ Aside0 (Below w.heap.size w w'))
  case atStart => exact ⟨(y101), (0), bS, H', ⟨Nat.le_refl _⟩, ⟨bR HO103⟩, ⟨bB⟩⟩
  case round =>
   clear H'
   try clear c2
   try clear c2b0
   try clear c2b1
   try clear p2
   obtain ⟨x3_1, x4_1, rfl, HA, HK1, HO_3, HB⟩ := hrel
   cases gk with
   | zero => exact absurd HA.out (by simp [spec_l2Lower.l0])
   | succ k1 =>
    have H := HA.out
    clear HA
    simp only [spec_l2Lower.l0] at H
    by_cases c5 : x4_1 < (x3_1.length : Int)
    ·rw [if_pos c5] at H
     have c5b0 : decide (x4_1 < (x3_1.length : Int)) = true := decide_eq_true c5
     clear c5
     by_cases c6 : 0 ≤ x4_1
     ·rw [if_pos c6] at H
      have c6b0 : decide (0 ≤ x4_1) = true := decide_eq_true c6
      clear c6
      by_cases c7 : (rd x3_1 x4_1) ≥ 65
      ·rw [if_pos c7] at H
       have c7b0 : decide (65 ≤ (rd x3_1 x4_1)) = true := decide_eq_true c7
       clear c7
       by_cases c8 : (rd x3_1 x4_1) ≤ 90
       ·rw [if_pos c8] at H
        have c8b0 : decide ((rd x3_1 x4_1) ≤ 90) = true := decide_eq_true c8
        clear c8
        obtain ⟨y107, hy107⟩ : ∃ y_ : List Int, y_ = (x3_1.set (x4_1 : Int).toNat (((rd x3_1 x4_1) + 32) % 256)) := ⟨_, rfl⟩
        replace H : (spec_l2Lower.l0 k1 y107 (wrap64 (x4_1 + 1))) = some r := z0 hy107
        have Ny107 := aM hy107
        clear hy107
        have H' := aM H
        clear H
        obtain ⟨Ao10, co10, eo10⟩ := Kd.R_slice HO_3.out
        subst eo10
        have p104 : 0 ≤ (x4_1 : Int) := pI
        have q104 : x4_1 < (x3_1.length : Int) := pI
        obtain ⟨ad104, e104, hx104_0⟩ := Kd.at_int (Kd.R_reads' HO_3.out).2.2 x4_1 p104 q104
        cases e104
        replace p104 := eq_true p104
        replace q104 := eq_true q104
        have p105 : 0 ≤ (x4_1 : Int) := pI
        have q105 : x4_1 < (x3_1.length : Int) := pI
        obtain ⟨ad105, e105, hx105_0⟩ := Kd.at_int (Kd.R_reads' HO_3.out).2.2 x4_1 p105 q105
        obtain rfl : ad104 = ad105 := (by injection e105)
        replace p105 := eq_true p105
        replace q105 := eq_true q105
        have p106 : 0 ≤ (x4_1 : Int) := pI
        have q106 : x4_1 < (x3_1.length : Int) := pI
        obtain ⟨ad106, e106, hx106_0⟩ := Kd.at_int (Kd.R_reads' HO_3.out).2.2 x4_1 p106 q106
        obtain rfl : ad104 = ad106 := (by injection e106)
        replace p106 := eq_true p106
        replace q106 := eq_true q106
        have p9 : 0 ≤ (x4_1 : Int) := pI
        have q9 : (x4_1 : Int) < ((x3_1.length : Int) : Int) := pI
        obtain ⟨go9, co9, eo9, gb9, gl9, cl9, HG9⟩ := Kd.R_form HO_3.out (by omega)
        (first | cases eo9 | (injection eo9 with ea_ en_ ec_; (first | subst ea_ | (injection ea_ with ea_; subst ea_)); subst ec_; clear en_))
        have GB9 := aM gb9
        have GG9 := aM HG9
        clear gb9 gl9 HG9
        (first | simp only [add_plain] at hx104_0 | skip)
        (first | simp only [add_plain] at hx105_0 | skip)
        (first | simp only [add_plain] at hx106_0 | skip)
        obtain ⟨hx9_0, hf9_0⟩ := Kd.R_celln 0 HO_3.out (x4_1 : Int) p9 q9
        replace p9 := eq_true p9
        replace q9 := eq_true q9
        have HP11 := Kd.R_putg HO_3.out (x4_1 : Int) (((rd x3_1 x4_1) + 32) % 256)
        go_wp2_with (first | ((with_reducible refine gate_store (t := 5) (p := 32) rfl ?_); refine store_event (t := 5) (p := 32) (v := ?vo_w12) (w1 := (wr.setCell ⟨go9, (x4_1 : Int).toNat, none⟩ (.int .u8 (((rd x3_1 x4_1) + 32) % 256)))) ?hg ?ho ?hn ?hr ?_; (case ho => rfl); (case hg => rfl); (case hn => rfl); (case hr => exact z8); intro w12 hw; have hg : wr.grownBy w12 (some go9) := (by rw [hw]; exact HP11.2); have hp_ : Kd.R (Kd.int .u8) 5 w12 w.heap.size (fun _ => True) (.slice (some ⟨go9, 0, none⟩) x3_1.length co10) y107 := (by rw [hw, Ny107.out]; exact HP11.1); clear HP11; replace HO_3 := aM (hp_); replace HB := aM ((z48 GB9.out : Below w.heap.size w w12)); clear hg hw hp_))
        go_roundg k1
        case measure => have := HK1.out; omega
        case rel => exact ⟨(y107), (wrap64 (x4_1 + 1)), bS, H', ⟨by have := HK1.out; omega⟩, ⟨bR HO_3⟩, ⟨bB⟩⟩
       rw [if_neg c8] at H
       have c8b0 : decide ((rd x3_1 x4_1) ≤ 90) = false := decide_eq_false c8
       clear c8
       have H' := aM H
       clear H
       obtain ⟨Ao13, co13, eo13⟩ := Kd.R_slice HO_3.out
       subst eo13
       have p104 : 0 ≤ (x4_1 : Int) := pI
       have q104 : x4_1 < (x3_1.length : Int) := pI
       obtain ⟨ad104, e104, hx104_0⟩ := Kd.at_int (Kd.R_reads' HO_3.out).2.2 x4_1 p104 q104
       cases e104
       replace p104 := eq_true p104
       replace q104 := eq_true q104
       have p105 : 0 ≤ (x4_1 : Int) := pI
       have q105 : x4_1 < (x3_1.length : Int) := pI
       obtain ⟨ad105, e105, hx105_0⟩ := Kd.at_int (Kd.R_reads' HO_3.out).2.2 x4_1 p105 q105
       obtain rfl : ad104 = ad105 := (by injection e105)
       replace p105 := eq_true p105
       replace q105 := eq_true q105
       go_wp2
       go_roundg k1
       case measure => have := HK1.out; omega
       case rel => exact ⟨(x3_1), (wrap64 (x4_1 + 1)), bS, H', ⟨by have := HK1.out; omega⟩, ⟨bR HO_3⟩, ⟨bB⟩⟩
      rw [if_neg c7] at H
      have c7b0 : decide (65 ≤ (rd x3_1 x4_1)) = false := decide_eq_false c7
      clear c7
      have H' := aM H
      clear H
      obtain ⟨Ao14, co14, eo14⟩ := Kd.R_slice HO_3.out
      subst eo14
      have p104 : 0 ≤ (x4_1 : Int) := pI
      have q104 : x4_1 < (x3_1.length : Int) := pI
      obtain ⟨ad104, e104, hx104_0⟩ := Kd.at_int (Kd.R_reads' HO_3.out).2.2 x4_1 p104 q104
      cases e104
      replace p104 := eq_true p104
      replace q104 := eq_true q104
      go_wp2
      go_roundg k1
      case measure => have := HK1.out; omega
      case rel => exact ⟨(x3_1), (wrap64 (x4_1 + 1)), bS, H', ⟨by have := HK1.out; omega⟩, ⟨bR HO_3⟩, ⟨bB⟩⟩
     rw [if_neg c6] at H
     exact absurd H (by simp)
    rw [if_neg c5] at H
    have c5b0 : decide (x4_1 < (x3_1.length : Int)) = false := decide_eq_false c5
    clear c5
    obtain rfl := Option.some.inj H
    obtain ⟨Ao15, co15, eo15⟩ := Kd.R_slice HO_3.out
    subst eo15
    have hcv16 := own_string (P := Tryz.prog) Tryz.underlying22 Tryz.underlying5 Tryz.underlying9 (Kd.own_of_R HO_3.out); (try have hcv16d := fun nq_ : Nat => own_string (P := Tryz.prog) Tryz.underlying22 Tryz.underlying5 Tryz.underlying9 (Kd.own_of_R (Kd.R_drewN HO_3.out nq_)))
    go_wp2
    go_ret
    exact ⟨bE, bB⟩
 rw [if_neg c2] at H
 exact absurd H (by simp)
def spec_l2Name.f (a0 : Int) : Option (ByteArray) := (some (([(⟨#[]⟩ : ByteArray), (⟨#[117, 115, 45, 97, 115, 99, 105, 105]⟩ : ByteArray), (⟨#[105, 115, 111, 45, 56, 56, 53, 57, 45, 49]⟩ : ByteArray), (⟨#[105, 115, 111, 45, 56, 56, 53, 57, 45, 53]⟩ : ByteArray), (⟨#[117, 116, 102, 45, 56]⟩ : ByteArray), (⟨#[117, 116, 102, 45, 49, 54]⟩ : ByteArray)] : List ByteArray) : List ByteArray)).bind fun y108 => (if 0 ≤ a0 then (if a0 < (y108.length : Int) then (some (rdOf ByteArray.empty y108 a0)) else (none)) else (none))
set_option maxHeartbeats 8000000 in
set_option maxRecDepth 100000 in
theorem spec_l2Name.calls (a0 : Int) (r : ByteArray) (w : World) (h : spec_l2Name.f a0 = some r) :
  Calls Tryz.prog 119 #[.int .i64 a0] w fun e w' => e = .returned (.string r) ∧ Below w.heap.size w w' := by
 have HB := aM (Below.refl w.heap.size w)
 have H : ((some (([(⟨#[]⟩ : ByteArray), (⟨#[117, 115, 45, 97, 115, 99, 105, 105]⟩ : ByteArray), (⟨#[105, 115, 111, 45, 56, 56, 53, 57, 45, 49]⟩ : ByteArray), (⟨#[105, 115, 111, 45, 56, 56, 53, 57, 45, 53]⟩ : ByteArray), (⟨#[117, 116, 102, 45, 56]⟩ : ByteArray), (⟨#[117, 116, 102, 45, 49, 54]⟩ : ByteArray)] : List ByteArray) : List ByteArray)).bind fun y108 => (if 0 ≤ a0 then (if a0 < (y108.length : Int) then (some (rdOf ByteArray.empty y108 a0)) else (none)) else (none))) = some r := h
 clear h
 obtain ⟨y108, hy108⟩ : ∃ y_ : List ByteArray, y_ = (([(⟨#[]⟩ : ByteArray), (⟨#[117, 115, 45, 97, 115, 99, 105, 105]⟩ : ByteArray), (⟨#[105, 115, 111, 45, 56, 56, 53, 57, 45, 49]⟩ : ByteArray), (⟨#[105, 115, 111, 45, 56, 56, 53, 57, 45, 53]⟩ : ByteArray), (⟨#[117, 116, 102, 45, 56]⟩ : ByteArray), (⟨#[117, 116, 102, 45, 49, 54]⟩ : ByteArray)] : List ByteArray)) := ⟨_, rfl⟩
 replace H : (if 0 ≤ a0 then (if a0 < (y108.length : Int) then (some (rdOf ByteArray.empty y108 a0)) else (none)) else (none)) = some r := z0 hy108
 have Ny108 := aM hy108
 clear hy108
 by_cases c2 : 0 ≤ a0
 ·rw [if_pos c2] at H
  have c2b0 : decide (0 ≤ a0) = true := decide_eq_true c2
  clear c2
  by_cases c3 : a0 < (y108.length : Int)
  ·rw [if_pos c3] at H
   have c3b0 : decide (a0 < (y108.length : Int)) = true := decide_eq_true c3
   clear c3
   obtain rfl := Option.some.inj H
   go_enter Tryz.func119, Tryz.ntmps119
   go_wp2_with (first | ((with_reducible refine gate_dst (N := 3) rfl ?_); refine Kd.R_lit Kd.string _ 9 ?hg (N := 3) ?hd (xs := ([(⟨#[]⟩ : ByteArray), (⟨#[117, 115, 45, 97, 115, 99, 105, 105]⟩ : ByteArray), (⟨#[105, 115, 111, 45, 56, 56, 53, 57, 45, 49]⟩ : ByteArray), (⟨#[105, 115, 111, 45, 56, 56, 53, 57, 45, 53]⟩ : ByteArray), (⟨#[117, 116, 102, 45, 56]⟩ : ByteArray), (⟨#[117, 116, 102, 45, 49, 54]⟩ : ByteArray)] : List ByteArray)) (inner := [.string (⟨#[]⟩ : ByteArray), .string (⟨#[117, 115, 45, 97, 115, 99, 105, 105]⟩ : ByteArray), .string (⟨#[105, 115, 111, 45, 56, 56, 53, 57, 45, 49]⟩ : ByteArray), .string (⟨#[105, 115, 111, 45, 56, 56, 53, 57, 45, 53]⟩ : ByteArray), .string (⟨#[117, 116, 102, 45, 56]⟩ : ByteArray), .string (⟨#[117, 116, 102, 45, 49, 54]⟩ : ByteArray)]) (ok := fun _ => True) (okp := fun _ => True) ?hr ?hp (fun _ hk => hk) trivial (Below.refl _ _) (Nat.le_refl _) (by simp) ?_; (case hd => rfl); (case hg => rfl); (case hr => exact z8); (case hp => exact (Reps.one (show Kd.M Kd.string _ _ _ (⟨#[]⟩ : ByteArray) [.string (⟨#[]⟩ : ByteArray)] from rfl) (Reps.one (show Kd.M Kd.string _ _ _ (⟨#[117, 115, 45, 97, 115, 99, 105, 105]⟩ : ByteArray) [.string (⟨#[117, 115, 45, 97, 115, 99, 105, 105]⟩ : ByteArray)] from rfl) (Reps.one (show Kd.M Kd.string _ _ _ (⟨#[105, 115, 111, 45, 56, 56, 53, 57, 45, 49]⟩ : ByteArray) [.string (⟨#[105, 115, 111, 45, 56, 56, 53, 57, 45, 49]⟩ : ByteArray)] from rfl) (Reps.one (show Kd.M Kd.string _ _ _ (⟨#[105, 115, 111, 45, 56, 56, 53, 57, 45, 53]⟩ : ByteArray) [.string (⟨#[105, 115, 111, 45, 56, 56, 53, 57, 45, 53]⟩ : ByteArray)] from rfl) (Reps.one (show Kd.M Kd.string _ _ _ (⟨#[117, 116, 102, 45, 56]⟩ : ByteArray) [.string (⟨#[117, 116, 102, 45, 56]⟩ : ByteArray)] from rfl) (Reps.one (show Kd.M Kd.string _ _ _ (⟨#[117, 116, 102, 45, 49, 54]⟩ : ByteArray) [.string (⟨#[117, 116, 102, 45, 49, 54]⟩ : ByteArray)] from rfl) (Reps.none _ _)))))))); intro v109 w4 ho5 hb hg_ hnew_; clear hg_ hnew_; (first | rw [← Ny108.out] at ho5 | (simp only [Int.reduceToNat] at ho5; rw [← Ny108.out] at ho5)); have HO110 := aM (Kd.R_lower ho5 (below_size bB)); replace HB := aM (below_step bB hb); clear hb ho5; obtain ⟨Ao6, co6, eo6⟩ := Kd.R_slice HO110.out; subst eo6; have p111 : 0 ≤ (a0 : Int) := pI; have q111 : a0 < (y108.length : Int) := pI; obtain ⟨ad111, e111, hx111_0⟩ := Kd.at_string (Kd.R_reads' HO110.out).2.2 a0 p111 q111; cases e111; replace p111 := eq_true p111; replace q111 := eq_true q111))
   go_ret
   exact ⟨bE, bB⟩
  rw [if_neg c3] at H
  exact absurd H (by simp)
 rw [if_neg c2] at H
 exact absurd H (by simp)
def spec_l2Of.l0 : Nat → ByteArray → Int → Option (Int)
 | 0, _, _ => none
 | k + 1, x0, x3 => if x3 ≤ 5 then ((spec_l2Name.f x3).bind fun t112 => ((spec_l2Lower.f k x0).bind fun t113 => (if t112.toList = t113.toList then (some x3) else (spec_l2Of.l0 k x0 (wrap64 (x3 + 1)))))) else (some 0)
def spec_l2Of.f (k : Nat) (a0 : ByteArray) : Option (Int) := spec_l2Of.l0 k a0 1
set_option maxHeartbeats 8000000 in
set_option maxRecDepth 100000 in
theorem spec_l2Of.calls (k : Nat) (a0 : ByteArray) (r : Int) (w : World) (h : spec_l2Of.f k a0 = some r) :
  Calls Tryz.prog 90 #[.string a0] w fun e w' => e = .returned (.int .i64 r) ∧ Below w.heap.size w w' := by
 have HB := aM (Below.refl w.heap.size w)
 have H : (spec_l2Of.l0 k a0 1) = some r := h
 clear h
 have H' := aM H
 clear H
 go_enter Tryz.func90, Tryz.ntmps90
 go_wp2
 go_loopg [3] k (fun kq v3 w' => ∃ (x3_1 : Int), v3 = .int .i64 x3_1 ∧ Aside0 (spec_l2Of.l0 kq a0 x3_1 = some r) ∧ Aside0 (kq ≤ k) ∧ Aside0 (Below w.heap.size w w'))
 case atStart => exact ⟨(1), bS, H', ⟨Nat.le_refl _⟩, ⟨bB⟩⟩
 case round =>
  clear H'
  obtain ⟨x3_1, rfl, HA, HK1, HB⟩ := hrel
  cases gk with
  | zero => exact absurd HA.out (by simp [spec_l2Of.l0])
  | succ k1 =>
   have H := HA.out
   clear HA
   simp only [spec_l2Of.l0] at H
   by_cases c2 : x3_1 ≤ 5
   ·rw [if_pos c2] at H
    have c2b0 : decide (x3_1 ≤ 5) = true := decide_eq_true c2
    clear c2
    replace H := Option.bind_eq_some_iff.mp H
    obtain ⟨t112, A30, H⟩ := H
    replace H : ((spec_l2Lower.f k1 a0).bind fun t113 => (if t112.toList = t113.toList then (some x3_1) else (spec_l2Of.l0 k1 a0 (wrap64 (x3_1 + 1))))) = some r := H
    have A3 := aM A30
    clear A30
    replace H := Option.bind_eq_some_iff.mp H
    obtain ⟨t113, A40, H⟩ := H
    replace H : (if t112.toList = t113.toList then (some x3_1) else (spec_l2Of.l0 k1 a0 (wrap64 (x3_1 + 1)))) = some r := H
    have A4 := aM A40
    clear A40
    by_cases c5 : t112.toList = t113.toList
    ·rw [if_pos c5] at H
     have c5b0 : (t112.toList == t113.toList) = true := beq_iff_eq.mpr c5
     have c5b1 : (t112.toList != t113.toList) = false := bne_eq_false_iff_eq.mpr c5
     clear c5
     obtain rfl := Option.some.inj H
     go_wp2_with (first | ((with_reducible refine gate_callee (f := 119) rfl ?_); refine gL_ (some 9) Tryz.func119 #[.int .i64 x3_1] ?_; (with_reducible refine (spec_l2Name.calls x3_1 t112 _ A3.out).mono ?_); rintro e w6 ⟨rfl, hb⟩; refine ⟨_, rfl, ?_⟩; replace HB := aM (below_step bB hb); (try clear hi)) | ((with_reducible refine gate_callee (f := 70) rfl ?_); refine gL_ (some 11) Tryz.func70 #[.string a0] ?_; (with_reducible refine (spec_l2Lower.calls k1 a0 t113 _ A4.out).mono ?_); rintro e w7 ⟨rfl, hb⟩; refine ⟨_, rfl, ?_⟩; replace HB := aM (below_step bB hb); (try clear hi)))
     go_ret
     exact ⟨bE, bB⟩
    rw [if_neg c5] at H
    have c5b0 : (t112.toList == t113.toList) = false := beq_eq_false_iff_ne.mpr c5
    have c5b1 : (t112.toList != t113.toList) = true := bne_iff_ne.mpr c5
    have H' := aM H
    clear H
    go_wp2_with (first | ((with_reducible refine gate_callee (f := 119) rfl ?_); refine gL_ (some 9) Tryz.func119 #[.int .i64 x3_1] ?_; (with_reducible refine (spec_l2Name.calls x3_1 t112 _ A3.out).mono ?_); rintro e w8 ⟨rfl, hb⟩; refine ⟨_, rfl, ?_⟩; replace HB := aM (below_step bB hb); (try clear hi)) | ((with_reducible refine gate_callee (f := 70) rfl ?_); refine gL_ (some 11) Tryz.func70 #[.string a0] ?_; (with_reducible refine (spec_l2Lower.calls k1 a0 t113 _ A4.out).mono ?_); rintro e w9 ⟨rfl, hb⟩; refine ⟨_, rfl, ?_⟩; replace HB := aM (below_step bB hb); (try clear hi)))
    go_roundg k1
    case measure => have := HK1.out; omega
    case rel => exact ⟨(wrap64 (x3_1 + 1)), bS, H', ⟨by have := HK1.out; omega⟩, ⟨bB⟩⟩
   rw [if_neg c2] at H
   have c2b0 : decide (x3_1 ≤ 5) = false := decide_eq_false c2
   clear c2
   obtain rfl := Option.some.inj H
   go_wp2
   go_ret
   exact ⟨bE, bB⟩
def spec_l1Base.f (a0 : Int) : Option (Int) := if 0 ≤ a0 then (if a0 < 64 then (some (bt (⟨#[65, 66, 67, 68, 69, 70, 71, 72, 73, 74, 75, 76, 77, 78, 79, 80, 81, 82, 83, 84, 85, 86, 87, 88, 89, 90, 97, 98, 99, 100, 101, 102, 103, 104, 105, 106, 107, 108, 109, 110, 111, 112, 113, 114, 115, 116, 117, 118, 119, 120, 121, 122, 48, 49, 50, 51, 52, 53, 54, 55, 56, 57, 43, 47]⟩ : ByteArray) a0)) else (none)) else (none)
set_option maxHeartbeats 8000000 in
set_option maxRecDepth 100000 in
theorem spec_l1Base.calls (a0 : Int) (r : Int) (w : World) (h : spec_l1Base.f a0 = some r) :
  Calls Tryz.prog 99 #[.int .i64 a0] w fun e w' => e = .returned (.int .u8 r) ∧ Drawn0 w w' := by
 have H : (if 0 ≤ a0 then (if a0 < 64 then (some (bt (⟨#[65, 66, 67, 68, 69, 70, 71, 72, 73, 74, 75, 76, 77, 78, 79, 80, 81, 82, 83, 84, 85, 86, 87, 88, 89, 90, 97, 98, 99, 100, 101, 102, 103, 104, 105, 106, 107, 108, 109, 110, 111, 112, 113, 114, 115, 116, 117, 118, 119, 120, 121, 122, 48, 49, 50, 51, 52, 53, 54, 55, 56, 57, 43, 47]⟩ : ByteArray) a0)) else (none)) else (none)) = some r := h
 clear h
 by_cases c2 : 0 ≤ a0
 ·rw [if_pos c2] at H
  have c2b0 : decide (0 ≤ a0) = true := decide_eq_true c2
  clear c2
  by_cases c3 : a0 < 64
  ·rw [if_pos c3] at H
   have c3b0 : decide (a0 < 64) = true := decide_eq_true c3
   clear c3
   obtain rfl := Option.some.inj H
   have p4 : 0 ≤ (a0 : Int) := pI
   have q4 : a0 < (64 : Int) := pI
   have hx4 := bt_at (⟨#[65, 66, 67, 68, 69, 70, 71, 72, 73, 74, 75, 76, 77, 78, 79, 80, 81, 82, 83, 84, 85, 86, 87, 88, 89, 90, 97, 98, 99, 100, 101, 102, 103, 104, 105, 106, 107, 108, 109, 110, 111, 112, 113, 114, 115, 116, 117, 118, 119, 120, 121, 122, 48, 49, 50, 51, 52, 53, 54, 55, 56, 57, 43, 47]⟩ : ByteArray) a0
   replace p4 := eq_true p4
   replace q4 := eq_true q4
   go_enter Tryz.func99, Tryz.ntmps99
   go_wp2
   go_ret
   exact ⟨bS, z1⟩
  rw [if_neg c3] at H
  exact absurd H (by simp)
 rw [if_neg c2] at H
 exact absurd H (by simp)
mutual
def spec_l1Encode.l0 : Nat → List Int → List Int → Int → Option (ByteArray)
 | 0, _, _, _ => none
 | k + 1, x0, x3, x4 => if x4 < (x0.length : Int) then (if 0 ≤ x4 then (if (wrap64 (x4 + 1)) < (x0.length : Int) then (if 0 ≤ (wrap64 (x4 + 1)) then (spec_l1Encode.j1 k x0 x3 x4 (wrap64 ((wrap64 ((wrap64 (rd x0 x4)) * 65536)) + (wrap64 ((wrap64 (rd x0 (wrap64 (x4 + 1)))) * 256))))) else (none)) else (spec_l1Encode.j1 k x0 x3 x4 (wrap64 ((wrap64 (rd x0 x4)) * 65536)))) else (none)) else (some (strOfNums x3))
def spec_l1Encode.j1 : Nat → List Int → List Int → Int → Int → Option (ByteArray)
 | 0, _, _, _, _ => none
 | k + 1, x0, x3, x4, x5 => if (wrap64 (x4 + 2)) < (x0.length : Int) then (if 0 ≤ (wrap64 (x4 + 2)) then (spec_l1Encode.j2 k x0 x3 x4 (wrap64 (x5 + (wrap64 (rd x0 (wrap64 (x4 + 2))))))) else (none)) else (spec_l1Encode.j2 k x0 x3 x4 x5)
def spec_l1Encode.j2 : Nat → List Int → List Int → Int → Int → Option (ByteArray)
 | 0, _, _, _, _ => none
 | k + 1, x0, x3, x4, x5 => (spec_l1Base.f (wrap64 (Int.tdiv x5 262144))).bind fun t120 => ((spec_l1Base.f (Int.tmod (wrap64 (Int.tdiv x5 4096)) 64)).bind fun t121 => ((spec_l1Base.f (Int.tmod (wrap64 (Int.tdiv x5 64)) 64)).bind fun t122 => ((spec_l1Base.f (Int.tmod x5 64)).bind fun t123 => ((some (([t120, t121, t122, t123] : List Int) : List Int)).bind fun y124 => (if (wrap64 (x4 + 2)) ≥ (x0.length : Int) then (if 3 < (y124.length : Int) then ((some (y124.set (3 : Int).toNat 61 : List Int)).bind fun y127 => (if (wrap64 (x4 + 1)) ≥ (x0.length : Int) then (if 2 < (y124.length : Int) then ((some (y127.set (2 : Int).toNat 61 : List Int)).bind fun y128 => (if x3.length + y128.length < 140737488355328 then (spec_l1Encode.l0 k x0 (x3 ++ y128) (wrap64 (x4 + 3))) else (none))) else (none)) else (if x3.length + y127.length < 140737488355328 then (spec_l1Encode.l0 k x0 (x3 ++ y127) (wrap64 (x4 + 3))) else (none)))) else (none)) else (if (wrap64 (x4 + 1)) ≥ (x0.length : Int) then (if 2 < (y124.length : Int) then ((some (y124.set (2 : Int).toNat 61 : List Int)).bind fun y135 => (if x3.length + y135.length < 140737488355328 then (spec_l1Encode.l0 k x0 (x3 ++ y135) (wrap64 (x4 + 3))) else (none))) else (none)) else (if x3.length + y124.length < 140737488355328 then (spec_l1Encode.l0 k x0 (x3 ++ y124) (wrap64 (x4 + 3))) else (none))))))))
end
def spec_l1Encode.f (k : Nat) (l0 : List Int) : Option (ByteArray) := spec_l1Encode.l0 k l0 (([] : List Int)) 0
set_option maxHeartbeats 8000000 in
set_option maxRecDepth 100000 in
theorem spec_l1Encode.calls (k : Nat) (A0 : Option Addr) (c0 : Nat) (l0 : List Int) (r : ByteArray) (w : World) (hr0 : Kd.C (Kd.int .u8) w A0 l0.length l0) (hc0 : l0.length ≤ c0) (h : spec_l1Encode.f k l0 = some r) :
  Calls Tryz.prog 65 #[.slice A0 l0.length c0] w fun e w' => e = .returned (.string r) ∧ Below w.heap.size w w' := by
 have HR0 := aM hr0
 have HC0 := aM hc0
 clear hr0 hc0
 have HB := aM (Below.refl w.heap.size w)
 have H : (spec_l1Encode.l0 k l0 (([] : List Int)) 0) = some r := h
 clear h
 obtain ⟨y114, hy114⟩ : ∃ y_ : List Int, y_ = (([] : List Int)) := ⟨_, rfl⟩
 replace H : (spec_l1Encode.l0 k l0 y114 0) = some r := z0 hy114
 have Ny114 := aM hy114
 clear hy114
 have H' := aM H
 clear H
 go_enter Tryz.func65, Tryz.ntmps65
 go_wp2_with (first | ((with_reducible refine gate_dst (N := 7) rfl ?_); refine Kd.R_lit (Kd.int .u8) _ 5 ?hg (N := 7) ?hd (xs := ([] : List Int)) (inner := []) (ok := fun _ => True) (okp := fun _ => True) ?hr ?hp (fun _ hk => hk) trivial (Below.refl _ _) (Nat.le_refl _) (by simp) ?_; (case hd => rfl); (case hg => rfl); (case hr => exact z8); (case hp => exact (Reps.none _ _)); intro v115 w2 ho3 hb hg_ hnew_; clear hg_ hnew_; (first | rw [← Ny114.out] at ho3 | (simp only [Int.reduceToNat] at ho3; rw [← Ny114.out] at ho3)); have HO116 := aM (Kd.R_lower ho3 (below_size bB)); replace HB := aM (below_step bB hb); clear hb ho3))
 go_loopg [3, 4] k (fun kq v3 v4 w' => ∃ (x3_1 : List Int) (x4_1 : Int), v4 = .int .i64 x4_1 ∧ Aside0 (spec_l1Encode.l0 kq l0 x3_1 x4_1 = some r) ∧ Aside0 (kq ≤ k) ∧ Aside0 (Kd.R (Kd.int .u8) 5 w' w.heap.size (fun _ => True) v3 x3_1) ∧ Aside0 (Below w.heap.size w w'))
 case atStart => exact ⟨(y114), (0), bS, H', ⟨Nat.le_refl _⟩, ⟨bR HO116⟩, ⟨bB⟩⟩
 case round =>
  clear H'
  try clear p2
  obtain ⟨x3_1, x4_1, rfl, HA, HK1, HO_3, HB⟩ := hrel
  cases gk with
  | zero => exact absurd HA.out (by simp [spec_l1Encode.l0])
  | succ k1 =>
   have H := HA.out
   clear HA
   simp only [spec_l1Encode.l0] at H
   by_cases c4 : x4_1 < (l0.length : Int)
   ·rw [if_pos c4] at H
    have c4b0 : decide (x4_1 < (l0.length : Int)) = true := decide_eq_true c4
    clear c4
    by_cases c5 : 0 ≤ x4_1
    ·rw [if_pos c5] at H
     have c5b0 : decide (0 ≤ x4_1) = true := decide_eq_true c5
     clear c5
     have HC6 := aM H
     clear H
     have p117 : 0 ≤ (x4_1 : Int) := pI
     have q117 : x4_1 < (l0.length : Int) := pI
     obtain ⟨ad117, e117, hx117_0⟩ := Kd.at_int HR0.out x4_1 p117 q117
     cases e117
     replace hx117_0 := (HB.out.cell (World.block_lt_of_cell? w _ hx117_0)).trans hx117_0
     replace p117 := eq_true p117
     replace q117 := eq_true q117
     go_upto_if 24 with (fail)
     go_cut [5] (fun v5 wc => ∃ (kq : Nat) (x5_5 : Int), v5 = .int .i64 x5_5 ∧ Aside0 (spec_l1Encode.j1 kq l0 x3_1 x4_1 x5_5 = some r) ∧ Aside0 (kq ≤ k1) ∧ Aside0 (Kd.R (Kd.int .u8) 5 wc w.heap.size (fun _ => True) u3 x3_1) ∧ Aside0 (Below w.heap.size w wc))
     case first =>
      have H := HC6.out
      clear HC6
      by_cases c7 : (wrap64 (x4_1 + 1)) < (l0.length : Int)
      ·rw [if_pos c7] at H
       have c7b0 : decide ((wrap64 (x4_1 + 1)) < (l0.length : Int)) = true := decide_eq_true c7
       clear c7
       (first | rw [c7b0] | (simp only [i64_w, i32_w]; rw [c7b0]) | skip)
       obtain ⟨ji8, hji8⟩ : ∃ j_ : Int, (wrap64 (x4_1 + 1)) = j_ := ⟨_, rfl⟩
       replace H : (if 0 ≤ (ji8) then (spec_l1Encode.j1 k1 l0 x3_1 x4_1 (wrap64 ((wrap64 ((wrap64 (rd l0 x4_1)) * 65536)) + (wrap64 ((wrap64 (rd l0 (ji8))) * 256))))) else (none)) = some r := by first | (rw [hji8] at H; exact H) | (simp only [hji8] at H ⊢; exact H)
       (try rw [hji8] at c7b0)
       have hji8w : (IntKind.i64.wrap (x4_1 + 1)) = ji8 := (i64_w _).trans hji8
       by_cases c9 : 0 ≤ (ji8)
       ·rw [if_pos c9] at H
        have c9b0 : decide (0 ≤ (ji8)) = true := decide_eq_true c9
        clear c9
        have H' := aM H
        clear H
        have p118 : 0 ≤ ((ji8) : Int) := pI
        have q118 : (ji8) < (l0.length : Int) := pI
        obtain ⟨ad118, e118, hx118_0⟩ := Kd.at_int HR0.out (ji8) p118 q118
        obtain rfl : ad117 = ad118 := (by injection e118)
        replace hx118_0 := (HB.out.cell (World.block_lt_of_cell? w _ hx118_0)).trans hx118_0
        replace p118 := eq_true p118
        replace q118 := eq_true q118
        go_wp2
        go_meet
        case rel => exact ⟨_, (wrap64 ((wrap64 ((wrap64 (rd l0 x4_1)) * 65536)) + (wrap64 ((wrap64 (rd l0 (ji8))) * 256)))), z52, H', ⟨z27 HK1.out⟩, ⟨bR HO_3⟩, ⟨bB⟩⟩
       rw [if_neg c9] at H
       exact absurd H (by simp)
      rw [if_neg c7] at H
      have c7b0 : decide ((wrap64 (x4_1 + 1)) < (l0.length : Int)) = false := decide_eq_false c7
      clear c7
      (first | rw [c7b0] | (simp only [i64_w, i32_w]; rw [c7b0]) | skip)
      have H' := aM H
      clear H
      go_wp2
      go_meet
      case rel => exact ⟨_, (wrap64 ((wrap64 (rd l0 x4_1)) * 65536)), bS, H', ⟨z27 HK1.out⟩, ⟨bR HO_3⟩, ⟨bB⟩⟩
     case rest =>
      clear HC6
      try clear p1
      try clear q1
      try clear hx1
      try clear p2
      try clear c4
      try clear c4b0
      try clear c5
      try clear c5b0
      try clear c6
      try clear p6
      try clear c7
      try clear c7b0
      try clear c9
      try clear c9b0
      try clear hx117_0
      try clear hx118_0
      try clear p117
      try clear p118
      try clear p2
      try clear q117
      try clear q118
      obtain ⟨kq, x5_5, rfl, HA, HJ5, HO_3, HB⟩ := hcut
      cases kq with
      | zero => exact absurd HA.out (by simp [spec_l1Encode.j1])
      | succ kj5 =>
       have H := HA.out
       clear HA
       simp only [spec_l1Encode.j1] at H
       have HC10 := aM H
       clear H
       go_upto_if 38 with (fail)
       go_cut [5] (fun v5 wc => ∃ (kq : Nat) (x5_9 : Int), v5 = .int .i64 x5_9 ∧ Aside0 (spec_l1Encode.j2 kq l0 x3_1 x4_1 x5_9 = some r) ∧ Aside0 (kq ≤ kj5) ∧ Aside0 (Kd.R (Kd.int .u8) 5 wc w.heap.size (fun _ => True) u3 x3_1) ∧ Aside0 (Below w.heap.size w wc))
       case first =>
        have H := HC10.out
        clear HC10
        by_cases c11 : (wrap64 (x4_1 + 2)) < (l0.length : Int)
        ·rw [if_pos c11] at H
         have c11b0 : decide ((wrap64 (x4_1 + 2)) < (l0.length : Int)) = true := decide_eq_true c11
         clear c11
         (first | rw [c11b0] | (simp only [i64_w, i32_w]; rw [c11b0]) | skip)
         obtain ⟨ji12, hji12⟩ : ∃ j_ : Int, (wrap64 (x4_1 + 2)) = j_ := ⟨_, rfl⟩
         replace H : (if 0 ≤ (ji12) then (spec_l1Encode.j2 kj5 l0 x3_1 x4_1 (wrap64 (x5_5 + (wrap64 (rd l0 (ji12)))))) else (none)) = some r := by first | (rw [hji12] at H; exact H) | (simp only [hji12] at H ⊢; exact H)
         (try rw [hji12] at c11b0)
         have hji12w : (IntKind.i64.wrap (x4_1 + 2)) = ji12 := (i64_w _).trans hji12
         by_cases c13 : 0 ≤ (ji12)
         ·rw [if_pos c13] at H
          have c13b0 : decide (0 ≤ (ji12)) = true := decide_eq_true c13
          clear c13
          have H' := aM H
          clear H
          have p119 : 0 ≤ ((ji12) : Int) := pI
          have q119 : (ji12) < (l0.length : Int) := pI
          obtain ⟨ad119, e119, hx119_0⟩ := Kd.at_int HR0.out (ji12) p119 q119
          obtain rfl : ad117 = ad119 := (by injection e119)
          replace hx119_0 := (HB.out.cell (World.block_lt_of_cell? w _ hx119_0)).trans hx119_0
          replace p119 := eq_true p119
          replace q119 := eq_true q119
          go_wp2
          go_meet
          case rel => exact ⟨_, (wrap64 (x5_5 + (wrap64 (rd l0 (ji12))))), (by first | rfl | (simp; done) | (simp only [← hji12] <;> (first | rfl | simp)) | (simp [*]; done)), H', ⟨z20 HK1.out HJ5.out⟩, ⟨bR HO_3⟩, ⟨bB⟩⟩
         rw [if_neg c13] at H
         exact absurd H (by simp)
        rw [if_neg c11] at H
        have c11b0 : decide ((wrap64 (x4_1 + 2)) < (l0.length : Int)) = false := decide_eq_false c11
        clear c11
        (first | rw [c11b0] | (simp only [i64_w, i32_w]; rw [c11b0]) | skip)
        have H' := aM H
        clear H
        go_wp2
        go_meet
        case rel => exact ⟨_, (x5_5), bS, H', ⟨z20 HK1.out HJ5.out⟩, ⟨bR HO_3⟩, ⟨bB⟩⟩
       case rest =>
        clear HC10
        try clear c1
        try clear p1
        try clear q1
        try clear hx1
        try clear p2
        try clear c4
        try clear c4b0
        try clear c5
        try clear c5b0
        try clear c6
        try clear p6
        try clear c7
        try clear c7b0
        try clear c9
        try clear c9b0
        try clear c11
        try clear c11b0
        try clear p11
        try clear q11
        try clear hx11
        try clear c13
        try clear c13b0
        try clear hx117_0
        try clear hx118_0
        try clear hx119_0
        try clear p1
        try clear p117
        try clear p118
        try clear p119
        try clear p2
        try clear p6
        try clear q1
        try clear q117
        try clear q118
        try clear q119
        obtain ⟨kq, x5_9, rfl, HA, HJ9, HO_3, HB⟩ := hcut
        cases kq with
        | zero => exact absurd HA.out (by simp [spec_l1Encode.j2])
        | succ kj9 =>
         have H := HA.out
         clear HA
         simp only [spec_l1Encode.j2] at H
         replace H := Option.bind_eq_some_iff.mp H
         obtain ⟨t120, A140, H⟩ := H
         replace H : ((spec_l1Base.f (Int.tmod (wrap64 (Int.tdiv x5_9 4096)) 64)).bind fun t121 => ((spec_l1Base.f (Int.tmod (wrap64 (Int.tdiv x5_9 64)) 64)).bind fun t122 => ((spec_l1Base.f (Int.tmod x5_9 64)).bind fun t123 => ((some (([t120, t121, t122, t123] : List Int) : List Int)).bind fun y124 => (if (wrap64 (x4_1 + 2)) ≥ (l0.length : Int) then (if 3 < (y124.length : Int) then ((some (y124.set (3 : Int).toNat 61 : List Int)).bind fun y127 => (if (wrap64 (x4_1 + 1)) ≥ (l0.length : Int) then (if 2 < (y124.length : Int) then ((some (y127.set (2 : Int).toNat 61 : List Int)).bind fun y128 => (if x3_1.length + y128.length < 140737488355328 then (spec_l1Encode.l0 kj9 l0 (x3_1 ++ y128) (wrap64 (x4_1 + 3))) else (none))) else (none)) else (if x3_1.length + y127.length < 140737488355328 then (spec_l1Encode.l0 kj9 l0 (x3_1 ++ y127) (wrap64 (x4_1 + 3))) else (none)))) else (none)) else (if (wrap64 (x4_1 + 1)) ≥ (l0.length : Int) then (if 2 < (y124.length : Int) then ((some (y124.set (2 : Int).toNat 61 : List Int)).bind fun y135 => (if x3_1.length + y135.length < 140737488355328 then (spec_l1Encode.l0 kj9 l0 (x3_1 ++ y135) (wrap64 (x4_1 + 3))) else (none))) else (none)) else (if x3_1.length + y124.length < 140737488355328 then (spec_l1Encode.l0 kj9 l0 (x3_1 ++ y124) (wrap64 (x4_1 + 3))) else (none)))))))) = some r := H
         have A14 := aM A140
         clear A140
         replace H := Option.bind_eq_some_iff.mp H
         obtain ⟨t121, A150, H⟩ := H
         replace H : ((spec_l1Base.f (Int.tmod (wrap64 (Int.tdiv x5_9 64)) 64)).bind fun t122 => ((spec_l1Base.f (Int.tmod x5_9 64)).bind fun t123 => ((some (([t120, t121, t122, t123] : List Int) : List Int)).bind fun y124 => (if (wrap64 (x4_1 + 2)) ≥ (l0.length : Int) then (if 3 < (y124.length : Int) then ((some (y124.set (3 : Int).toNat 61 : List Int)).bind fun y127 => (if (wrap64 (x4_1 + 1)) ≥ (l0.length : Int) then (if 2 < (y124.length : Int) then ((some (y127.set (2 : Int).toNat 61 : List Int)).bind fun y128 => (if x3_1.length + y128.length < 140737488355328 then (spec_l1Encode.l0 kj9 l0 (x3_1 ++ y128) (wrap64 (x4_1 + 3))) else (none))) else (none)) else (if x3_1.length + y127.length < 140737488355328 then (spec_l1Encode.l0 kj9 l0 (x3_1 ++ y127) (wrap64 (x4_1 + 3))) else (none)))) else (none)) else (if (wrap64 (x4_1 + 1)) ≥ (l0.length : Int) then (if 2 < (y124.length : Int) then ((some (y124.set (2 : Int).toNat 61 : List Int)).bind fun y135 => (if x3_1.length + y135.length < 140737488355328 then (spec_l1Encode.l0 kj9 l0 (x3_1 ++ y135) (wrap64 (x4_1 + 3))) else (none))) else (none)) else (if x3_1.length + y124.length < 140737488355328 then (spec_l1Encode.l0 kj9 l0 (x3_1 ++ y124) (wrap64 (x4_1 + 3))) else (none))))))) = some r := H
         have A15 := aM A150
         clear A150
         replace H := Option.bind_eq_some_iff.mp H
         obtain ⟨t122, A160, H⟩ := H
         replace H : ((spec_l1Base.f (Int.tmod x5_9 64)).bind fun t123 => ((some (([t120, t121, t122, t123] : List Int) : List Int)).bind fun y124 => (if (wrap64 (x4_1 + 2)) ≥ (l0.length : Int) then (if 3 < (y124.length : Int) then ((some (y124.set (3 : Int).toNat 61 : List Int)).bind fun y127 => (if (wrap64 (x4_1 + 1)) ≥ (l0.length : Int) then (if 2 < (y124.length : Int) then ((some (y127.set (2 : Int).toNat 61 : List Int)).bind fun y128 => (if x3_1.length + y128.length < 140737488355328 then (spec_l1Encode.l0 kj9 l0 (x3_1 ++ y128) (wrap64 (x4_1 + 3))) else (none))) else (none)) else (if x3_1.length + y127.length < 140737488355328 then (spec_l1Encode.l0 kj9 l0 (x3_1 ++ y127) (wrap64 (x4_1 + 3))) else (none)))) else (none)) else (if (wrap64 (x4_1 + 1)) ≥ (l0.length : Int) then (if 2 < (y124.length : Int) then ((some (y124.set (2 : Int).toNat 61 : List Int)).bind fun y135 => (if x3_1.length + y135.length < 140737488355328 then (spec_l1Encode.l0 kj9 l0 (x3_1 ++ y135) (wrap64 (x4_1 + 3))) else (none))) else (none)) else (if x3_1.length + y124.length < 140737488355328 then (spec_l1Encode.l0 kj9 l0 (x3_1 ++ y124) (wrap64 (x4_1 + 3))) else (none)))))) = some r := H
         have A16 := aM A160
         clear A160
         replace H := Option.bind_eq_some_iff.mp H
         obtain ⟨t123, A170, H⟩ := H
         replace H : ((some (([t120, t121, t122, t123] : List Int) : List Int)).bind fun y124 => (if (wrap64 (x4_1 + 2)) ≥ (l0.length : Int) then (if 3 < (y124.length : Int) then ((some (y124.set (3 : Int).toNat 61 : List Int)).bind fun y127 => (if (wrap64 (x4_1 + 1)) ≥ (l0.length : Int) then (if 2 < (y124.length : Int) then ((some (y127.set (2 : Int).toNat 61 : List Int)).bind fun y128 => (if x3_1.length + y128.length < 140737488355328 then (spec_l1Encode.l0 kj9 l0 (x3_1 ++ y128) (wrap64 (x4_1 + 3))) else (none))) else (none)) else (if x3_1.length + y127.length < 140737488355328 then (spec_l1Encode.l0 kj9 l0 (x3_1 ++ y127) (wrap64 (x4_1 + 3))) else (none)))) else (none)) else (if (wrap64 (x4_1 + 1)) ≥ (l0.length : Int) then (if 2 < (y124.length : Int) then ((some (y124.set (2 : Int).toNat 61 : List Int)).bind fun y135 => (if x3_1.length + y135.length < 140737488355328 then (spec_l1Encode.l0 kj9 l0 (x3_1 ++ y135) (wrap64 (x4_1 + 3))) else (none))) else (none)) else (if x3_1.length + y124.length < 140737488355328 then (spec_l1Encode.l0 kj9 l0 (x3_1 ++ y124) (wrap64 (x4_1 + 3))) else (none))))) = some r := H
         have A17 := aM A170
         clear A170
         obtain ⟨y124, hy124⟩ : ∃ y_ : List Int, y_ = (([t120, t121, t122, t123] : List Int)) := ⟨_, rfl⟩
         replace H : (if (wrap64 (x4_1 + 2)) ≥ (l0.length : Int) then (if 3 < (y124.length : Int) then ((some (y124.set (3 : Int).toNat 61 : List Int)).bind fun y127 => (if (wrap64 (x4_1 + 1)) ≥ (l0.length : Int) then (if 2 < (y124.length : Int) then ((some (y127.set (2 : Int).toNat 61 : List Int)).bind fun y128 => (if x3_1.length + y128.length < 140737488355328 then (spec_l1Encode.l0 kj9 l0 (x3_1 ++ y128) (wrap64 (x4_1 + 3))) else (none))) else (none)) else (if x3_1.length + y127.length < 140737488355328 then (spec_l1Encode.l0 kj9 l0 (x3_1 ++ y127) (wrap64 (x4_1 + 3))) else (none)))) else (none)) else (if (wrap64 (x4_1 + 1)) ≥ (l0.length : Int) then (if 2 < (y124.length : Int) then ((some (y124.set (2 : Int).toNat 61 : List Int)).bind fun y135 => (if x3_1.length + y135.length < 140737488355328 then (spec_l1Encode.l0 kj9 l0 (x3_1 ++ y135) (wrap64 (x4_1 + 3))) else (none))) else (none)) else (if x3_1.length + y124.length < 140737488355328 then (spec_l1Encode.l0 kj9 l0 (x3_1 ++ y124) (wrap64 (x4_1 + 3))) else (none)))) = some r := z0 hy124
         have Ny124 := aM hy124
         clear hy124
         by_cases c18 : (wrap64 (x4_1 + 2)) ≥ (l0.length : Int)
         ·rw [if_pos c18] at H
          have c18b0 : decide ((l0.length : Int) ≤ (wrap64 (x4_1 + 2))) = true := decide_eq_true c18
          clear c18
          by_cases c19 : 3 < (y124.length : Int)
          ·rw [if_pos c19] at H
           have c19b0 : decide (3 < (y124.length : Int)) = true := decide_eq_true c19
           have c19b1 : decide (3 < y124.length) = true := decide_eq_true (by omega)
           clear c19
           obtain ⟨y127, hy127⟩ : ∃ y_ : List Int, y_ = (y124.set (3 : Int).toNat 61) := ⟨_, rfl⟩
           replace H : (if (wrap64 (x4_1 + 1)) ≥ (l0.length : Int) then (if 2 < (y124.length : Int) then ((some (y127.set (2 : Int).toNat 61 : List Int)).bind fun y128 => (if x3_1.length + y128.length < 140737488355328 then (spec_l1Encode.l0 kj9 l0 (x3_1 ++ y128) (wrap64 (x4_1 + 3))) else (none))) else (none)) else (if x3_1.length + y127.length < 140737488355328 then (spec_l1Encode.l0 kj9 l0 (x3_1 ++ y127) (wrap64 (x4_1 + 3))) else (none))) = some r := z0 hy127
           have Ny127 := aM hy127
           clear hy127
           by_cases c21 : (wrap64 (x4_1 + 1)) ≥ (l0.length : Int)
           ·rw [if_pos c21] at H
            have c21b0 : decide ((l0.length : Int) ≤ (wrap64 (x4_1 + 1))) = true := decide_eq_true c21
            clear c21
            by_cases c22 : 2 < (y124.length : Int)
            ·rw [if_pos c22] at H
             have c22b0 : decide (2 < (y124.length : Int)) = true := decide_eq_true c22
             have c22b1 : decide (2 < y124.length) = true := decide_eq_true (by omega)
             clear c22
             obtain ⟨y128, hy128⟩ : ∃ y_ : List Int, y_ = (y127.set (2 : Int).toNat 61) := ⟨_, rfl⟩
             replace H : (if x3_1.length + y128.length < 140737488355328 then (spec_l1Encode.l0 kj9 l0 (x3_1 ++ y128) (wrap64 (x4_1 + 3))) else (none)) = some r := z0 hy128
             have Ny128 := aM hy128
             clear hy128
             by_cases c24 : x3_1.length + y128.length < 140737488355328
             ·rw [if_pos c24] at H
              have LMc24 := aM c24
              clear c24
              obtain ⟨y129, hy129⟩ : ∃ y_ : List Int, y_ = (x3_1 ++ y128) := ⟨_, rfl⟩
              replace H : (spec_l1Encode.l0 kj9 l0 y129 (wrap64 (x4_1 + 3))) = some r := z0 hy129
              have Ny129 := aM hy129
              clear hy129
              have H' := aM H
              clear H
              go_wp2_with (first | ((with_reducible refine gate_callee (f := 99) rfl ?_); refine gL_ (some 49) Tryz.func99 #[.int .i64 (wrap64 (Int.tdiv x5_9 262144))] ?_; (with_reducible refine (spec_l1Base.calls (wrap64 (Int.tdiv x5_9 262144)) t120 _ A14.out).mono ?_); rintro e w' ⟨rfl, ⟨nd, rfl⟩⟩; refine ⟨_, rfl, ?_⟩; (try (rw [drewN_self wc]; generalize hq_ : World.drewN wc _ = wc; have n0_ : Aside0 (Kd.R (Kd.int .u8) 5 wc w.heap.size (fun _ => True) u3 x3_1) := ⟨z46⟩; have n1_ : Aside0 (Below w.heap.size w wc) := ⟨by rw [← hq_]; exact bB⟩; clear HO_3 HB hq_; have HO_3 := n0_; have HB := n1_; clear n0_ n1_))) | ((with_reducible refine gate_callee (f := 99) rfl ?_); refine gL_ (some 53) Tryz.func99 #[.int .i64 (Int.tmod (wrap64 (Int.tdiv x5_9 4096)) 64)] ?_; (with_reducible refine (spec_l1Base.calls (Int.tmod (wrap64 (Int.tdiv x5_9 4096)) 64) t121 _ A15.out).mono ?_); rintro e w' ⟨rfl, ⟨nd, rfl⟩⟩; refine ⟨_, rfl, ?_⟩; (try (rw [drewN_self wc]; generalize hq_ : World.drewN wc _ = wc; have n0_ : Aside0 (Kd.R (Kd.int .u8) 5 wc w.heap.size (fun _ => True) u3 x3_1) := ⟨z46⟩; have n1_ : Aside0 (Below w.heap.size w wc) := ⟨by rw [← hq_]; exact bB⟩; clear HO_3 HB hq_; have HO_3 := n0_; have HB := n1_; clear n0_ n1_))) | ((with_reducible refine gate_callee (f := 99) rfl ?_); refine gL_ (some 57) Tryz.func99 #[.int .i64 (Int.tmod (wrap64 (Int.tdiv x5_9 64)) 64)] ?_; (with_reducible refine (spec_l1Base.calls (Int.tmod (wrap64 (Int.tdiv x5_9 64)) 64) t122 _ A16.out).mono ?_); rintro e w' ⟨rfl, ⟨nd, rfl⟩⟩; refine ⟨_, rfl, ?_⟩; (try (rw [drewN_self wc]; generalize hq_ : World.drewN wc _ = wc; have n0_ : Aside0 (Kd.R (Kd.int .u8) 5 wc w.heap.size (fun _ => True) u3 x3_1) := ⟨z46⟩; have n1_ : Aside0 (Below w.heap.size w wc) := ⟨by rw [← hq_]; exact bB⟩; clear HO_3 HB hq_; have HO_3 := n0_; have HB := n1_; clear n0_ n1_))) | ((with_reducible refine gate_callee (f := 99) rfl ?_); refine gL_ (some 60) Tryz.func99 #[.int .i64 (Int.tmod x5_9 64)] ?_; (with_reducible refine (spec_l1Base.calls (Int.tmod x5_9 64) t123 _ A17.out).mono ?_); rintro e w' ⟨rfl, ⟨nd, rfl⟩⟩; refine ⟨_, rfl, ?_⟩; (try (rw [drewN_self wc]; generalize hq_ : World.drewN wc _ = wc; have n0_ : Aside0 (Kd.R (Kd.int .u8) 5 wc w.heap.size (fun _ => True) u3 x3_1) := ⟨z46⟩; have n1_ : Aside0 (Below w.heap.size w wc) := ⟨by rw [← hq_]; exact bB⟩; clear HO_3 HB hq_; have HO_3 := n0_; have HB := n1_; clear n0_ n1_))) | ((with_reducible refine gate_dst (N := 61) rfl ?_); refine Kd.R_lit (Kd.int .u8) _ 5 ?hg (N := 61) ?hd (xs := ([t120, t121, t122, t123] : List Int)) (inner := [.int .u8 t120, .int .u8 t121, .int .u8 t122, .int .u8 t123]) (ok := fun _ => True) (okp := fun _ => True) ?hr ?hp (fun _ hk => hk) trivial (Below.refl _ _) (Nat.le_refl _) (by simp) ?_; (case hd => rfl); (case hg => rfl); (case hr => exact z8); (case hp => exact (Reps.one (show Kd.M (Kd.int .u8) _ _ _ t120 [.int .u8 t120] from rfl) (Reps.one (show Kd.M (Kd.int .u8) _ _ _ t121 [.int .u8 t121] from rfl) (Reps.one (show Kd.M (Kd.int .u8) _ _ _ t122 [.int .u8 t122] from rfl) (Reps.one (show Kd.M (Kd.int .u8) _ _ _ t123 [.int .u8 t123] from rfl) (Reps.none _ _)))))); intro v125 w25 ho26 hb hg_ hnew_; clear hg_ hnew_; (first | rw [← Ny124.out] at ho26 | (simp only [Int.reduceToNat] at ho26; rw [← Ny124.out] at ho26)); have HO126 := aM (Kd.R_lower (Kd.R_new' ho26 (Kd.R_lt (bR HO_3))) (below_size bB)); replace HO_3 := aM (Kd.R_elder' (bR HO_3) (Kd.R_base ho26) hb); replace HB := aM (below_step bB hb); clear hb ho26; have p20 : 0 ≤ (3 : Int) := (by omega); have q20 : (3 : Int) < ((y124.length : Int) : Int) := pI; have qi20 : (3 < y124.length) = True := eq_true (by omega); obtain ⟨go20, co20, eo20, gb20, gl20, cl20, HG20⟩ := Kd.R_form HO126.out (by omega); (first | cases eo20 | (injection eo20 with ea_ en_ ec_; (first | subst ea_ | (injection ea_ with ea_; subst ea_)); subst ec_; clear en_)); have GB20 := aM gb20; have GG20 := aM HG20; clear gb20 gl20 HG20; obtain ⟨hx20_0, hf20_0⟩ := Kd.R_celln 0 HO126.out (3 : Int) p20 q20; (try rw [show ((3 : Int)).toNat = 3 from rfl] at hx20_0); (try simp only [Nat.reduceMul, Nat.zero_mul, Nat.zero_add, Nat.reduceAdd] at hx20_0); (try rw [show ((3 : Int)).toNat = 3 from rfl] at hf20_0); (try simp only [Nat.reduceMul, Nat.zero_mul, Nat.zero_add, Nat.reduceAdd] at hf20_0); replace p20 := eq_true p20; replace q20 := eq_true q20; have n_ := aM (Kd.R_mono (ok' := (fun k_ => some k_ ≠ (u3 : Value).ownBlock)) HO126.out (fun k_ hk => hk.2)); clear HO126; have HO126 := n_; clear n_; obtain ⟨hy27_, hz27_⟩ := Kd.R_celln 0 HO126.out (3 : Int) (by omega) (pI); (try simp only [Int.reduceToNat, Int.toNat_zero, Int.toNat_ofNat, Nat.reduceMul, Nat.zero_mul, Nat.zero_add] at hy27_ hz27_); (try rw [show ((3 : Int)).toNat = 3 from rfl] at hy27_); (try rw [show ((3 : Int)).toNat = 3 from rfl] at hz27_); have HP27 := Kd.R_putg HO126.out (3 : Int) 61) | ((with_reducible refine gate_store (t := 5) (p := 68) rfl ?_); refine store_event (t := 5) (p := 68) (v := ?vo_w28) (w1 := (w25.setCell ⟨go20, (3 : Int).toNat, none⟩ (.int .u8 61))) ?hg ?ho ?hn ?hr ?_; (case ho => rfl); (case hg => rfl); (case hn => rfl); (case hr => exact z8); intro w28 hw; have hg : w25.grownBy w28 (some go20) := (by rw [hw]; exact HP27.2); have hp_ : Kd.R (Kd.int .u8) 5 w28 w.heap.size (fun k_ => some k_ ≠ (u3 : Value).ownBlock) (.slice (some ⟨go20, 0, none⟩) y124.length co20) y127 := (by rw [hw, Ny127.out]; exact HP27.1); clear HP27; replace HO_3 := aM (Kd.R_after (v := (.slice (some ⟨go20, 0, none⟩) y124.length co20)) (v1 := (.slice (some ⟨go20, 0, none⟩) y124.length co20)) (ok := (fun _ => True)) (bR HO_3) hg (.inl rfl)); replace HO126 := aM (hp_); replace HB := aM ((z48 GB20.out : Below w.heap.size w w28)); clear hg hw hp_; have p23 : 0 ≤ (2 : Int) := (by omega); have q23 : (2 : Int) < ((y124.length : Int) : Int) := pI; have qi23 : (2 < y124.length) = True := eq_true (by omega); obtain ⟨hx23_0, hf23_0⟩ := Kd.R_celln 0 HO126.out (2 : Int) p23 q23; (try rw [show ((2 : Int)).toNat = 2 from rfl] at hx23_0); (try simp only [Nat.reduceMul, Nat.zero_mul, Nat.zero_add, Nat.reduceAdd] at hx23_0); (try rw [show ((2 : Int)).toNat = 2 from rfl] at hf23_0); (try simp only [Nat.reduceMul, Nat.zero_mul, Nat.zero_add, Nat.reduceAdd] at hf23_0); replace p23 := eq_true p23; replace q23 := eq_true q23; obtain ⟨hy29_, hz29_⟩ := Kd.R_celln 0 HO126.out (2 : Int) (by omega) (pI); (try simp only [Int.reduceToNat, Int.toNat_zero, Int.toNat_ofNat, Nat.reduceMul, Nat.zero_mul, Nat.zero_add] at hy29_ hz29_); (try rw [show ((2 : Int)).toNat = 2 from rfl] at hy29_); (try rw [show ((2 : Int)).toNat = 2 from rfl] at hz29_); have HP29 := Kd.R_putg HO126.out (2 : Int) 61) | ((with_reducible refine gate_store (t := 5) (p := 75) rfl ?_); refine store_event (t := 5) (p := 75) (v := ?vo_w30) (w1 := (w28.setCell ⟨go20, (2 : Int).toNat, none⟩ (.int .u8 61))) ?hg ?ho ?hn ?hr ?_; (case ho => rfl); (case hg => rfl); (case hn => rfl); (case hr => exact z8); intro w30 hw; have hg : w28.grownBy w30 (some go20) := (by rw [hw]; exact HP29.2); have hp_ : Kd.R (Kd.int .u8) 5 w30 w.heap.size (fun k_ => some k_ ≠ (u3 : Value).ownBlock) (.slice (some ⟨go20, 0, none⟩) y124.length co20) y128 := (by rw [hw, Ny128.out]; exact HP29.1); clear HP29; replace HO_3 := aM (Kd.R_after (v := (.slice (some ⟨go20, 0, none⟩) y124.length co20)) (v1 := (.slice (some ⟨go20, 0, none⟩) y124.length co20)) (ok := (fun _ => True)) (bR HO_3) hg (.inl rfl)); replace HO126 := aM (hp_); replace HB := aM ((z48 GB20.out : Below w.heap.size w w30)); clear hg hw hp_) | ((with_reducible refine gate_builtin (b := .append) (xs := #[.tmp 76, .tmp 77]) rfl ?_); at_builtin; refine Kd.R_append_rows (Kd.int .u8) (w0 := w) w.heap.size rfl (.tmp 76) (.tmp 77) 22 5 (.int .u8 0) 1 rfl Tryz.underlying22 info5 rfl (by decide) (by omega) u3 x3_1 y128 _ _ _ (fun k_ => some k_ ≠ (.slice (some ⟨go20, 0, none⟩) y124.length co20 : Value).ownBlock) (fun _ => False) rfl rfl ?aO ?aR (fun _ _ h => h) (fun _ h => h.elim) ?aF ?aB ?aS ?aL ?_; (case aR => rw [show y124.length = y128.length from (Kd.R_reads' HO126.out).1]; repeat (first | exact (Kd.R_reads' HO126.out).2.2 | (with_reducible refine Kd.C_alloc ?_ _) | (with_reducible refine Kd.C_drewN ?_ _) | (with_reducible refine Kd.C_drew ?_))); (case aB => exact bB); (case aF => exact (fun k_ hk => Kd.fresh' (Kd.R_lt (bR HO126)) k_ hk)); (case aO => exact z10 HO_3.out); (case aS => exact (below_size bB)); (case aL => have := LMc24.out; have hlx_ := (Kd.R_reads' HO126.out).1; omega); intro v130 w31 ho hb hg hat; rw [← Ny129.out] at ho; have n0_ := aM (Kd.R_after (ok := (fun _ => True)) (z32 HO126.out) hg hat); have n1_ := aM (hb); have n2_ := aM (ho); clear HO126; clear HB; clear HO_3; have HO126 := n0_; have HB := n1_; have HO131 := n2_; clear n0_ n1_ n2_; clear ho hb hg hat))
              go_roundg kj9
              case measure => have := HK1.out; have := HJ5.out; have := HJ9.out; omega
              case rel => exact ⟨(y129), (wrap64 (x4_1 + 3)), bS, H', ⟨z49 HK1.out HJ5.out HJ9.out⟩, ⟨z9 HO131.out⟩, ⟨bB⟩⟩
             rw [if_neg c24] at H
             exact absurd H (by simp)
            rw [if_neg c22] at H
            exact absurd H (by simp)
           rw [if_neg c21] at H
           have c21b0 : decide ((l0.length : Int) ≤ (wrap64 (x4_1 + 1))) = false := decide_eq_false c21
           clear c21
           by_cases c32 : x3_1.length + y127.length < 140737488355328
           ·rw [if_pos c32] at H
            have LMc32 := aM c32
            clear c32
            obtain ⟨y132, hy132⟩ : ∃ y_ : List Int, y_ = (x3_1 ++ y127) := ⟨_, rfl⟩
            replace H : (spec_l1Encode.l0 kj9 l0 y132 (wrap64 (x4_1 + 3))) = some r := z0 hy132
            have Ny132 := aM hy132
            clear hy132
            have H' := aM H
            clear H
            go_wp2_with (first | ((with_reducible refine gate_callee (f := 99) rfl ?_); refine gL_ (some 49) Tryz.func99 #[.int .i64 (wrap64 (Int.tdiv x5_9 262144))] ?_; (with_reducible refine (spec_l1Base.calls (wrap64 (Int.tdiv x5_9 262144)) t120 _ A14.out).mono ?_); rintro e w' ⟨rfl, ⟨nd, rfl⟩⟩; refine ⟨_, rfl, ?_⟩; (try (rw [drewN_self wc]; generalize hq_ : World.drewN wc _ = wc; have n0_ : Aside0 (Kd.R (Kd.int .u8) 5 wc w.heap.size (fun _ => True) u3 x3_1) := ⟨z46⟩; have n1_ : Aside0 (Below w.heap.size w wc) := ⟨by rw [← hq_]; exact bB⟩; clear HO_3 HB hq_; have HO_3 := n0_; have HB := n1_; clear n0_ n1_))) | ((with_reducible refine gate_callee (f := 99) rfl ?_); refine gL_ (some 53) Tryz.func99 #[.int .i64 (Int.tmod (wrap64 (Int.tdiv x5_9 4096)) 64)] ?_; (with_reducible refine (spec_l1Base.calls (Int.tmod (wrap64 (Int.tdiv x5_9 4096)) 64) t121 _ A15.out).mono ?_); rintro e w' ⟨rfl, ⟨nd, rfl⟩⟩; refine ⟨_, rfl, ?_⟩; (try (rw [drewN_self wc]; generalize hq_ : World.drewN wc _ = wc; have n0_ : Aside0 (Kd.R (Kd.int .u8) 5 wc w.heap.size (fun _ => True) u3 x3_1) := ⟨z46⟩; have n1_ : Aside0 (Below w.heap.size w wc) := ⟨by rw [← hq_]; exact bB⟩; clear HO_3 HB hq_; have HO_3 := n0_; have HB := n1_; clear n0_ n1_))) | ((with_reducible refine gate_callee (f := 99) rfl ?_); refine gL_ (some 57) Tryz.func99 #[.int .i64 (Int.tmod (wrap64 (Int.tdiv x5_9 64)) 64)] ?_; (with_reducible refine (spec_l1Base.calls (Int.tmod (wrap64 (Int.tdiv x5_9 64)) 64) t122 _ A16.out).mono ?_); rintro e w' ⟨rfl, ⟨nd, rfl⟩⟩; refine ⟨_, rfl, ?_⟩; (try (rw [drewN_self wc]; generalize hq_ : World.drewN wc _ = wc; have n0_ : Aside0 (Kd.R (Kd.int .u8) 5 wc w.heap.size (fun _ => True) u3 x3_1) := ⟨z46⟩; have n1_ : Aside0 (Below w.heap.size w wc) := ⟨by rw [← hq_]; exact bB⟩; clear HO_3 HB hq_; have HO_3 := n0_; have HB := n1_; clear n0_ n1_))) | ((with_reducible refine gate_callee (f := 99) rfl ?_); refine gL_ (some 60) Tryz.func99 #[.int .i64 (Int.tmod x5_9 64)] ?_; (with_reducible refine (spec_l1Base.calls (Int.tmod x5_9 64) t123 _ A17.out).mono ?_); rintro e w' ⟨rfl, ⟨nd, rfl⟩⟩; refine ⟨_, rfl, ?_⟩; (try (rw [drewN_self wc]; generalize hq_ : World.drewN wc _ = wc; have n0_ : Aside0 (Kd.R (Kd.int .u8) 5 wc w.heap.size (fun _ => True) u3 x3_1) := ⟨z46⟩; have n1_ : Aside0 (Below w.heap.size w wc) := ⟨by rw [← hq_]; exact bB⟩; clear HO_3 HB hq_; have HO_3 := n0_; have HB := n1_; clear n0_ n1_))) | ((with_reducible refine gate_dst (N := 61) rfl ?_); refine Kd.R_lit (Kd.int .u8) _ 5 ?hg (N := 61) ?hd (xs := ([t120, t121, t122, t123] : List Int)) (inner := [.int .u8 t120, .int .u8 t121, .int .u8 t122, .int .u8 t123]) (ok := fun _ => True) (okp := fun _ => True) ?hr ?hp (fun _ hk => hk) trivial (Below.refl _ _) (Nat.le_refl _) (by simp) ?_; (case hd => rfl); (case hg => rfl); (case hr => exact z8); (case hp => exact (Reps.one (show Kd.M (Kd.int .u8) _ _ _ t120 [.int .u8 t120] from rfl) (Reps.one (show Kd.M (Kd.int .u8) _ _ _ t121 [.int .u8 t121] from rfl) (Reps.one (show Kd.M (Kd.int .u8) _ _ _ t122 [.int .u8 t122] from rfl) (Reps.one (show Kd.M (Kd.int .u8) _ _ _ t123 [.int .u8 t123] from rfl) (Reps.none _ _)))))); intro v125 w33 ho34 hb hg_ hnew_; clear hg_ hnew_; (first | rw [← Ny124.out] at ho34 | (simp only [Int.reduceToNat] at ho34; rw [← Ny124.out] at ho34)); have HO126 := aM (Kd.R_lower (Kd.R_new' ho34 (Kd.R_lt (bR HO_3))) (below_size bB)); replace HO_3 := aM (Kd.R_elder' (bR HO_3) (Kd.R_base ho34) hb); replace HB := aM (below_step bB hb); clear hb ho34; have p20 : 0 ≤ (3 : Int) := (by omega); have q20 : (3 : Int) < ((y124.length : Int) : Int) := pI; have qi20 : (3 < y124.length) = True := eq_true (by omega); obtain ⟨go20, co20, eo20, gb20, gl20, cl20, HG20⟩ := Kd.R_form HO126.out (by omega); (first | cases eo20 | (injection eo20 with ea_ en_ ec_; (first | subst ea_ | (injection ea_ with ea_; subst ea_)); subst ec_; clear en_)); have GB20 := aM gb20; have GG20 := aM HG20; clear gb20 gl20 HG20; obtain ⟨hx20_0, hf20_0⟩ := Kd.R_celln 0 HO126.out (3 : Int) p20 q20; (try rw [show ((3 : Int)).toNat = 3 from rfl] at hx20_0); (try simp only [Nat.reduceMul, Nat.zero_mul, Nat.zero_add, Nat.reduceAdd] at hx20_0); (try rw [show ((3 : Int)).toNat = 3 from rfl] at hf20_0); (try simp only [Nat.reduceMul, Nat.zero_mul, Nat.zero_add, Nat.reduceAdd] at hf20_0); replace p20 := eq_true p20; replace q20 := eq_true q20; have n_ := aM (Kd.R_mono (ok' := (fun k_ => some k_ ≠ (u3 : Value).ownBlock)) HO126.out (fun k_ hk => hk.2)); clear HO126; have HO126 := n_; clear n_; obtain ⟨hy35_, hz35_⟩ := Kd.R_celln 0 HO126.out (3 : Int) (by omega) (pI); (try simp only [Int.reduceToNat, Int.toNat_zero, Int.toNat_ofNat, Nat.reduceMul, Nat.zero_mul, Nat.zero_add] at hy35_ hz35_); (try rw [show ((3 : Int)).toNat = 3 from rfl] at hy35_); (try rw [show ((3 : Int)).toNat = 3 from rfl] at hz35_); have HP35 := Kd.R_putg HO126.out (3 : Int) 61) | ((with_reducible refine gate_store (t := 5) (p := 68) rfl ?_); refine store_event (t := 5) (p := 68) (v := ?vo_w36) (w1 := (w33.setCell ⟨go20, (3 : Int).toNat, none⟩ (.int .u8 61))) ?hg ?ho ?hn ?hr ?_; (case ho => rfl); (case hg => rfl); (case hn => rfl); (case hr => exact z8); intro w36 hw; have hg : w33.grownBy w36 (some go20) := (by rw [hw]; exact HP35.2); have hp_ : Kd.R (Kd.int .u8) 5 w36 w.heap.size (fun k_ => some k_ ≠ (u3 : Value).ownBlock) (.slice (some ⟨go20, 0, none⟩) y124.length co20) y127 := (by rw [hw, Ny127.out]; exact HP35.1); clear HP35; replace HO_3 := aM (Kd.R_after (v := (.slice (some ⟨go20, 0, none⟩) y124.length co20)) (v1 := (.slice (some ⟨go20, 0, none⟩) y124.length co20)) (ok := (fun _ => True)) (bR HO_3) hg (.inl rfl)); replace HO126 := aM (hp_); replace HB := aM ((z48 GB20.out : Below w.heap.size w w36)); clear hg hw hp_) | ((with_reducible refine gate_builtin (b := .append) (xs := #[.tmp 76, .tmp 77]) rfl ?_); at_builtin; refine Kd.R_append_rows (Kd.int .u8) (w0 := w) w.heap.size rfl (.tmp 76) (.tmp 77) 22 5 (.int .u8 0) 1 rfl Tryz.underlying22 info5 rfl (by decide) (by omega) u3 x3_1 y127 _ _ _ (fun k_ => some k_ ≠ (.slice (some ⟨go20, 0, none⟩) y124.length co20 : Value).ownBlock) (fun _ => False) rfl rfl ?aO ?aR (fun _ _ h => h) (fun _ h => h.elim) ?aF ?aB ?aS ?aL ?_; (case aR => rw [show y124.length = y127.length from (Kd.R_reads' HO126.out).1]; repeat (first | exact (Kd.R_reads' HO126.out).2.2 | (with_reducible refine Kd.C_alloc ?_ _) | (with_reducible refine Kd.C_drewN ?_ _) | (with_reducible refine Kd.C_drew ?_))); (case aB => exact bB); (case aF => exact (fun k_ hk => Kd.fresh' (Kd.R_lt (bR HO126)) k_ hk)); (case aO => exact z10 HO_3.out); (case aS => exact (below_size bB)); (case aL => have := LMc32.out; have hlx_ := (Kd.R_reads' HO126.out).1; omega); intro v133 w37 ho hb hg hat; rw [← Ny132.out] at ho; have n0_ := aM (Kd.R_after (ok := (fun _ => True)) (z32 HO126.out) hg hat); have n1_ := aM (hb); have n2_ := aM (ho); clear HO126; clear HB; clear HO_3; have HO126 := n0_; have HB := n1_; have HO134 := n2_; clear n0_ n1_ n2_; clear ho hb hg hat))
            go_roundg kj9
            case measure => have := HK1.out; have := HJ5.out; have := HJ9.out; omega
            case rel => exact ⟨(y132), (wrap64 (x4_1 + 3)), bS, H', ⟨z49 HK1.out HJ5.out HJ9.out⟩, ⟨z9 HO134.out⟩, ⟨bB⟩⟩
           rw [if_neg c32] at H
           exact absurd H (by simp)
          rw [if_neg c19] at H
          exact absurd H (by simp)
         rw [if_neg c18] at H
         have c18b0 : decide ((l0.length : Int) ≤ (wrap64 (x4_1 + 2))) = false := decide_eq_false c18
         clear c18
         by_cases c38 : (wrap64 (x4_1 + 1)) ≥ (l0.length : Int)
         ·rw [if_pos c38] at H
          have c38b0 : decide ((l0.length : Int) ≤ (wrap64 (x4_1 + 1))) = true := decide_eq_true c38
          clear c38
          by_cases c39 : 2 < (y124.length : Int)
          ·rw [if_pos c39] at H
           have c39b0 : decide (2 < (y124.length : Int)) = true := decide_eq_true c39
           have c39b1 : decide (2 < y124.length) = true := decide_eq_true (by omega)
           clear c39
           obtain ⟨y135, hy135⟩ : ∃ y_ : List Int, y_ = (y124.set (2 : Int).toNat 61) := ⟨_, rfl⟩
           replace H : (if x3_1.length + y135.length < 140737488355328 then (spec_l1Encode.l0 kj9 l0 (x3_1 ++ y135) (wrap64 (x4_1 + 3))) else (none)) = some r := z0 hy135
           have Ny135 := aM hy135
           clear hy135
           by_cases c41 : x3_1.length + y135.length < 140737488355328
           ·rw [if_pos c41] at H
            have LMc41 := aM c41
            clear c41
            obtain ⟨y136, hy136⟩ : ∃ y_ : List Int, y_ = (x3_1 ++ y135) := ⟨_, rfl⟩
            replace H : (spec_l1Encode.l0 kj9 l0 y136 (wrap64 (x4_1 + 3))) = some r := z0 hy136
            have Ny136 := aM hy136
            clear hy136
            have H' := aM H
            clear H
            go_wp2_with (first | ((with_reducible refine gate_callee (f := 99) rfl ?_); refine gL_ (some 49) Tryz.func99 #[.int .i64 (wrap64 (Int.tdiv x5_9 262144))] ?_; (with_reducible refine (spec_l1Base.calls (wrap64 (Int.tdiv x5_9 262144)) t120 _ A14.out).mono ?_); rintro e w' ⟨rfl, ⟨nd, rfl⟩⟩; refine ⟨_, rfl, ?_⟩; (try (rw [drewN_self wc]; generalize hq_ : World.drewN wc _ = wc; have n0_ : Aside0 (Kd.R (Kd.int .u8) 5 wc w.heap.size (fun _ => True) u3 x3_1) := ⟨z46⟩; have n1_ : Aside0 (Below w.heap.size w wc) := ⟨by rw [← hq_]; exact bB⟩; clear HO_3 HB hq_; have HO_3 := n0_; have HB := n1_; clear n0_ n1_))) | ((with_reducible refine gate_callee (f := 99) rfl ?_); refine gL_ (some 53) Tryz.func99 #[.int .i64 (Int.tmod (wrap64 (Int.tdiv x5_9 4096)) 64)] ?_; (with_reducible refine (spec_l1Base.calls (Int.tmod (wrap64 (Int.tdiv x5_9 4096)) 64) t121 _ A15.out).mono ?_); rintro e w' ⟨rfl, ⟨nd, rfl⟩⟩; refine ⟨_, rfl, ?_⟩; (try (rw [drewN_self wc]; generalize hq_ : World.drewN wc _ = wc; have n0_ : Aside0 (Kd.R (Kd.int .u8) 5 wc w.heap.size (fun _ => True) u3 x3_1) := ⟨z46⟩; have n1_ : Aside0 (Below w.heap.size w wc) := ⟨by rw [← hq_]; exact bB⟩; clear HO_3 HB hq_; have HO_3 := n0_; have HB := n1_; clear n0_ n1_))) | ((with_reducible refine gate_callee (f := 99) rfl ?_); refine gL_ (some 57) Tryz.func99 #[.int .i64 (Int.tmod (wrap64 (Int.tdiv x5_9 64)) 64)] ?_; (with_reducible refine (spec_l1Base.calls (Int.tmod (wrap64 (Int.tdiv x5_9 64)) 64) t122 _ A16.out).mono ?_); rintro e w' ⟨rfl, ⟨nd, rfl⟩⟩; refine ⟨_, rfl, ?_⟩; (try (rw [drewN_self wc]; generalize hq_ : World.drewN wc _ = wc; have n0_ : Aside0 (Kd.R (Kd.int .u8) 5 wc w.heap.size (fun _ => True) u3 x3_1) := ⟨z46⟩; have n1_ : Aside0 (Below w.heap.size w wc) := ⟨by rw [← hq_]; exact bB⟩; clear HO_3 HB hq_; have HO_3 := n0_; have HB := n1_; clear n0_ n1_))) | ((with_reducible refine gate_callee (f := 99) rfl ?_); refine gL_ (some 60) Tryz.func99 #[.int .i64 (Int.tmod x5_9 64)] ?_; (with_reducible refine (spec_l1Base.calls (Int.tmod x5_9 64) t123 _ A17.out).mono ?_); rintro e w' ⟨rfl, ⟨nd, rfl⟩⟩; refine ⟨_, rfl, ?_⟩; (try (rw [drewN_self wc]; generalize hq_ : World.drewN wc _ = wc; have n0_ : Aside0 (Kd.R (Kd.int .u8) 5 wc w.heap.size (fun _ => True) u3 x3_1) := ⟨z46⟩; have n1_ : Aside0 (Below w.heap.size w wc) := ⟨by rw [← hq_]; exact bB⟩; clear HO_3 HB hq_; have HO_3 := n0_; have HB := n1_; clear n0_ n1_))) | ((with_reducible refine gate_dst (N := 61) rfl ?_); refine Kd.R_lit (Kd.int .u8) _ 5 ?hg (N := 61) ?hd (xs := ([t120, t121, t122, t123] : List Int)) (inner := [.int .u8 t120, .int .u8 t121, .int .u8 t122, .int .u8 t123]) (ok := fun _ => True) (okp := fun _ => True) ?hr ?hp (fun _ hk => hk) trivial (Below.refl _ _) (Nat.le_refl _) (by simp) ?_; (case hd => rfl); (case hg => rfl); (case hr => exact z8); (case hp => exact (Reps.one (show Kd.M (Kd.int .u8) _ _ _ t120 [.int .u8 t120] from rfl) (Reps.one (show Kd.M (Kd.int .u8) _ _ _ t121 [.int .u8 t121] from rfl) (Reps.one (show Kd.M (Kd.int .u8) _ _ _ t122 [.int .u8 t122] from rfl) (Reps.one (show Kd.M (Kd.int .u8) _ _ _ t123 [.int .u8 t123] from rfl) (Reps.none _ _)))))); intro v125 w42 ho43 hb hg_ hnew_; clear hg_ hnew_; (first | rw [← Ny124.out] at ho43 | (simp only [Int.reduceToNat] at ho43; rw [← Ny124.out] at ho43)); have HO126 := aM (Kd.R_lower (Kd.R_new' ho43 (Kd.R_lt (bR HO_3))) (below_size bB)); replace HO_3 := aM (Kd.R_elder' (bR HO_3) (Kd.R_base ho43) hb); replace HB := aM (below_step bB hb); clear hb ho43; have p40 : 0 ≤ (2 : Int) := (by omega); have q40 : (2 : Int) < ((y124.length : Int) : Int) := pI; have qi40 : (2 < y124.length) = True := eq_true (by omega); obtain ⟨go40, co40, eo40, gb40, gl40, cl40, HG40⟩ := Kd.R_form HO126.out (by omega); (first | cases eo40 | (injection eo40 with ea_ en_ ec_; (first | subst ea_ | (injection ea_ with ea_; subst ea_)); subst ec_; clear en_)); have GB40 := aM gb40; have GG40 := aM HG40; clear gb40 gl40 HG40; obtain ⟨hx40_0, hf40_0⟩ := Kd.R_celln 0 HO126.out (2 : Int) p40 q40; (try rw [show ((2 : Int)).toNat = 2 from rfl] at hx40_0); (try simp only [Nat.reduceMul, Nat.zero_mul, Nat.zero_add, Nat.reduceAdd] at hx40_0); (try rw [show ((2 : Int)).toNat = 2 from rfl] at hf40_0); (try simp only [Nat.reduceMul, Nat.zero_mul, Nat.zero_add, Nat.reduceAdd] at hf40_0); replace p40 := eq_true p40; replace q40 := eq_true q40; have n_ := aM (Kd.R_mono (ok' := (fun k_ => some k_ ≠ (u3 : Value).ownBlock)) HO126.out (fun k_ hk => hk.2)); clear HO126; have HO126 := n_; clear n_; obtain ⟨hy44_, hz44_⟩ := Kd.R_celln 0 HO126.out (2 : Int) (by omega) (pI); (try simp only [Int.reduceToNat, Int.toNat_zero, Int.toNat_ofNat, Nat.reduceMul, Nat.zero_mul, Nat.zero_add] at hy44_ hz44_); (try rw [show ((2 : Int)).toNat = 2 from rfl] at hy44_); (try rw [show ((2 : Int)).toNat = 2 from rfl] at hz44_); have HP44 := Kd.R_putg HO126.out (2 : Int) 61) | ((with_reducible refine gate_store (t := 5) (p := 75) rfl ?_); refine store_event (t := 5) (p := 75) (v := ?vo_w45) (w1 := (w42.setCell ⟨go40, (2 : Int).toNat, none⟩ (.int .u8 61))) ?hg ?ho ?hn ?hr ?_; (case ho => rfl); (case hg => rfl); (case hn => rfl); (case hr => exact z8); intro w45 hw; have hg : w42.grownBy w45 (some go40) := (by rw [hw]; exact HP44.2); have hp_ : Kd.R (Kd.int .u8) 5 w45 w.heap.size (fun k_ => some k_ ≠ (u3 : Value).ownBlock) (.slice (some ⟨go40, 0, none⟩) y124.length co40) y135 := (by rw [hw, Ny135.out]; exact HP44.1); clear HP44; replace HO_3 := aM (Kd.R_after (v := (.slice (some ⟨go40, 0, none⟩) y124.length co40)) (v1 := (.slice (some ⟨go40, 0, none⟩) y124.length co40)) (ok := (fun _ => True)) (bR HO_3) hg (.inl rfl)); replace HO126 := aM (hp_); replace HB := aM ((z48 GB40.out : Below w.heap.size w w45)); clear hg hw hp_) | ((with_reducible refine gate_builtin (b := .append) (xs := #[.tmp 76, .tmp 77]) rfl ?_); at_builtin; refine Kd.R_append_rows (Kd.int .u8) (w0 := w) w.heap.size rfl (.tmp 76) (.tmp 77) 22 5 (.int .u8 0) 1 rfl Tryz.underlying22 info5 rfl (by decide) (by omega) u3 x3_1 y135 _ _ _ (fun k_ => some k_ ≠ (.slice (some ⟨go40, 0, none⟩) y124.length co40 : Value).ownBlock) (fun _ => False) rfl rfl ?aO ?aR (fun _ _ h => h) (fun _ h => h.elim) ?aF ?aB ?aS ?aL ?_; (case aR => rw [show y124.length = y135.length from (Kd.R_reads' HO126.out).1]; repeat (first | exact (Kd.R_reads' HO126.out).2.2 | (with_reducible refine Kd.C_alloc ?_ _) | (with_reducible refine Kd.C_drewN ?_ _) | (with_reducible refine Kd.C_drew ?_))); (case aB => exact bB); (case aF => exact (fun k_ hk => Kd.fresh' (Kd.R_lt (bR HO126)) k_ hk)); (case aO => exact z10 HO_3.out); (case aS => exact (below_size bB)); (case aL => have := LMc41.out; have hlx_ := (Kd.R_reads' HO126.out).1; omega); intro v137 w46 ho hb hg hat; rw [← Ny136.out] at ho; have n0_ := aM (Kd.R_after (ok := (fun _ => True)) (z32 HO126.out) hg hat); have n1_ := aM (hb); have n2_ := aM (ho); clear HO126; clear HB; clear HO_3; have HO126 := n0_; have HB := n1_; have HO138 := n2_; clear n0_ n1_ n2_; clear ho hb hg hat))
            go_roundg kj9
            case measure => have := HK1.out; have := HJ5.out; have := HJ9.out; omega
            case rel => exact ⟨(y136), (wrap64 (x4_1 + 3)), bS, H', ⟨z49 HK1.out HJ5.out HJ9.out⟩, ⟨z9 HO138.out⟩, ⟨bB⟩⟩
           rw [if_neg c41] at H
           exact absurd H (by simp)
          rw [if_neg c39] at H
          exact absurd H (by simp)
         rw [if_neg c38] at H
         have c38b0 : decide ((l0.length : Int) ≤ (wrap64 (x4_1 + 1))) = false := decide_eq_false c38
         clear c38
         by_cases c47 : x3_1.length + y124.length < 140737488355328
         ·rw [if_pos c47] at H
          have LMc47 := aM c47
          clear c47
          obtain ⟨y139, hy139⟩ : ∃ y_ : List Int, y_ = (x3_1 ++ y124) := ⟨_, rfl⟩
          replace H : (spec_l1Encode.l0 kj9 l0 y139 (wrap64 (x4_1 + 3))) = some r := z0 hy139
          have Ny139 := aM hy139
          clear hy139
          have H' := aM H
          clear H
          go_wp2_with (first | ((with_reducible refine gate_callee (f := 99) rfl ?_); refine gL_ (some 49) Tryz.func99 #[.int .i64 (wrap64 (Int.tdiv x5_9 262144))] ?_; (with_reducible refine (spec_l1Base.calls (wrap64 (Int.tdiv x5_9 262144)) t120 _ A14.out).mono ?_); rintro e w' ⟨rfl, ⟨nd, rfl⟩⟩; refine ⟨_, rfl, ?_⟩) | ((with_reducible refine gate_callee (f := 99) rfl ?_); refine gL_ (some 53) Tryz.func99 #[.int .i64 (Int.tmod (wrap64 (Int.tdiv x5_9 4096)) 64)] ?_; (with_reducible refine (spec_l1Base.calls (Int.tmod (wrap64 (Int.tdiv x5_9 4096)) 64) t121 _ A15.out).mono ?_); rintro e w' ⟨rfl, ⟨nd, rfl⟩⟩; refine ⟨_, rfl, ?_⟩) | ((with_reducible refine gate_callee (f := 99) rfl ?_); refine gL_ (some 57) Tryz.func99 #[.int .i64 (Int.tmod (wrap64 (Int.tdiv x5_9 64)) 64)] ?_; (with_reducible refine (spec_l1Base.calls (Int.tmod (wrap64 (Int.tdiv x5_9 64)) 64) t122 _ A16.out).mono ?_); rintro e w' ⟨rfl, ⟨nd, rfl⟩⟩; refine ⟨_, rfl, ?_⟩) | ((with_reducible refine gate_callee (f := 99) rfl ?_); refine gL_ (some 60) Tryz.func99 #[.int .i64 (Int.tmod x5_9 64)] ?_; (with_reducible refine (spec_l1Base.calls (Int.tmod x5_9 64) t123 _ A17.out).mono ?_); rintro e w' ⟨rfl, ⟨nd, rfl⟩⟩; refine ⟨_, rfl, ?_⟩) | ((with_reducible refine gate_dst (N := 61) rfl ?_); refine Kd.R_lit (Kd.int .u8) _ 5 ?hg (N := 61) ?hd (xs := ([t120, t121, t122, t123] : List Int)) (inner := [.int .u8 t120, .int .u8 t121, .int .u8 t122, .int .u8 t123]) (ok := fun _ => True) (okp := fun _ => True) ?hr ?hp (fun _ hk => hk) trivial (Below.refl _ _) (Nat.le_refl _) (by simp) ?_; (case hd => rfl); (case hg => rfl); (case hr => exact z8); (case hp => exact (Reps.one (show Kd.M (Kd.int .u8) _ _ _ t120 [.int .u8 t120] from rfl) (Reps.one (show Kd.M (Kd.int .u8) _ _ _ t121 [.int .u8 t121] from rfl) (Reps.one (show Kd.M (Kd.int .u8) _ _ _ t122 [.int .u8 t122] from rfl) (Reps.one (show Kd.M (Kd.int .u8) _ _ _ t123 [.int .u8 t123] from rfl) (Reps.none _ _)))))); intro v125 w48 ho49 hb hg_ hnew_; clear hg_ hnew_; (first | rw [← Ny124.out] at ho49 | (simp only [Int.reduceToNat] at ho49; rw [← Ny124.out] at ho49)); have HO126 := aM (Kd.R_lower (Kd.R_new' ho49 (Kd.R_lt (bR HO_3))) (below_size bB)); replace HO_3 := aM (Kd.R_elder' (bR HO_3) (Kd.R_base ho49) hb); replace HB := aM (below_step bB hb); clear hb ho49; obtain ⟨Ao51, co51, eo51⟩ := Kd.R_slice HO126.out; subst eo51) | ((with_reducible refine gate_builtin (b := .append) (xs := #[.tmp 76, .tmp 77]) rfl ?_); at_builtin; refine Kd.R_append_rows (Kd.int .u8) (w0 := w) w.heap.size rfl (.tmp 76) (.tmp 77) 22 5 (.int .u8 0) 1 rfl Tryz.underlying22 info5 rfl (by decide) (by omega) u3 x3_1 y124 _ _ _ (fun k_ => some k_ ≠ (.slice Ao51 y124.length co51 : Value).ownBlock) (fun _ => False) rfl rfl ?aO ?aR (fun _ _ h => h) (fun _ h => h.elim) ?aF ?aB ?aS ?aL ?_; (case aR => exact z2 HO126.out); (case aB => exact bB); (case aF => exact (fun k_ hk => Kd.fresh' (Kd.R_lt (bR HO126)) k_ hk)); (case aO => exact z10 HO_3.out); (case aS => exact (below_size bB)); (case aL => have := LMc47.out; omega); intro v140 w50 ho hb hg hat; rw [← Ny139.out] at ho; have n0_ := aM (Kd.R_after (ok := (fun _ => True)) (bR HO126) hg hat); have n1_ := aM (hb); have n2_ := aM (ho); clear HO126; clear HB; clear HO_3; have HO126 := n0_; have HB := n1_; have HO141 := n2_; clear n0_ n1_ n2_; clear ho hb hg hat))
          go_roundg kj9
          case measure => have := HK1.out; have := HJ5.out; have := HJ9.out; omega
          case rel => exact ⟨(y139), (wrap64 (x4_1 + 3)), bS, H', ⟨z49 HK1.out HJ5.out HJ9.out⟩, ⟨z9 HO141.out⟩, ⟨bB⟩⟩
         rw [if_neg c47] at H
         exact absurd H (by simp)
    rw [if_neg c5] at H
    exact absurd H (by simp)
   rw [if_neg c4] at H
   have c4b0 : decide (x4_1 < (l0.length : Int)) = false := decide_eq_false c4
   clear c4
   obtain rfl := Option.some.inj H
   have hcv52 := own_string (P := Tryz.prog) Tryz.underlying22 Tryz.underlying5 Tryz.underlying9 (Kd.own_of_R HO_3.out); (try have hcv52d := fun nq_ : Nat => own_string (P := Tryz.prog) Tryz.underlying22 Tryz.underlying5 Tryz.underlying9 (Kd.own_of_R (Kd.R_drewN HO_3.out nq_)))
   go_wp2
   go_ret
   exact ⟨bE, bB⟩
def spec_l1Digit.l0 : Nat → Int → Int → Option (Int)
 | 0, _, _ => none
 | k + 1, x0, x3 => if x3 < 64 then ((spec_l1Base.f x3).bind fun t142 => (if t142 = x0 then (some x3) else (spec_l1Digit.l0 k x0 (wrap64 (x3 + 1))))) else (some (-1))
def spec_l1Digit.f (k : Nat) (a0 : Int) : Option (Int) := spec_l1Digit.l0 k a0 0
theorem spec_l1Digit.mono_l : ∀ k, (∀ y0 y1, LeO (spec_l1Digit.l0 k y0 y1) (spec_l1Digit.l0 (k + 1) y0 y1))
 | 0 => fun _ _ r h => by simp [spec_l1Digit.l0] at h
 | k + 1 => by
  have ih0 := spec_l1Digit.mono_l k
  ·intro y0 y1
   unfold spec_l1Digit.l0
   repeat' first
   | (with_reducible exact ih0 _ _)
   | (with_reducible exact LeO.refl _)
   | (with_reducible exact LeO.none _)
   | (with_reducible refine LeO.ite ?_ ?_)
   | (with_reducible refine LeO.bind ?_ (fun _ => ?_))
   | exact ih0 _ _
   | exact LeO.none _
   | refine LeO.ite ?_ ?_
   | refine LeO.bind ?_ (fun _ => ?_)
theorem spec_l1Digit.mono : ∀ a0 k, LeO (spec_l1Digit.f k a0) (spec_l1Digit.f (k + 1) a0) := by
 intro a0 k
 have ih0 := spec_l1Digit.mono_l k
 unfold spec_l1Digit.f
 repeat' first
   | (with_reducible exact ih0 _ _)
   | (with_reducible exact LeO.refl _)
   | (with_reducible exact LeO.none _)
   | (with_reducible refine LeO.ite ?_ ?_)
   | (with_reducible refine LeO.bind ?_ (fun _ => ?_))
   | exact ih0 _ _
   | exact LeO.none _
   | refine LeO.ite ?_ ?_
   | refine LeO.bind ?_ (fun _ => ?_)
set_option maxHeartbeats 8000000 in
set_option maxRecDepth 100000 in
theorem spec_l1Digit.calls (k : Nat) (a0 : Int) (r : Int) (w : World) (h : spec_l1Digit.f k a0 = some r) :
  Calls Tryz.prog 137 #[.int .u8 a0] w fun e w' => e = .returned (.int .i64 r) ∧ Drawn0 w w' := by
 have H : (spec_l1Digit.l0 k a0 0) = some r := h
 clear h
 have H' := aM H
 clear H
 go_enter Tryz.func137, Tryz.ntmps137
 go_wp2
 go_loopg [3] k (fun kq v3 w' => ∃ (x3_1 : Int), v3 = .int .i64 x3_1 ∧ Aside0 (spec_l1Digit.l0 kq a0 x3_1 = some r) ∧ Aside0 (kq ≤ k) ∧ Drawn0 w w')
 case atStart => exact ⟨(0), bS, H', ⟨Nat.le_refl _⟩, z1⟩
 case round =>
  clear H'
  try clear c1
  obtain ⟨x3_1, rfl, HA, HK1, ⟨m1, rfl⟩⟩ := hrel
  cases gk with
  | zero => exact absurd HA.out (by simp [spec_l1Digit.l0])
  | succ k1 =>
   have H := HA.out
   clear HA
   simp only [spec_l1Digit.l0] at H
   by_cases c2 : x3_1 < 64
   ·rw [if_pos c2] at H
    have c2b0 : decide (x3_1 < 64) = true := decide_eq_true c2
    clear c2
    replace H := Option.bind_eq_some_iff.mp H
    obtain ⟨t142, A30, H⟩ := H
    replace H : (if t142 = a0 then (some x3_1) else (spec_l1Digit.l0 k1 a0 (wrap64 (x3_1 + 1)))) = some r := H
    have A3 := aM A30
    clear A30
    by_cases c4 : t142 = a0
    ·rw [if_pos c4] at H
     have c4b0 : (t142 == a0) = true := beq_iff_eq.mpr c4
     have c4b1 : (t142 != a0) = false := bne_eq_false_iff_eq.mpr c4
     clear c4
     obtain rfl := Option.some.inj H
     go_wp2_with (first | ((with_reducible refine gate_callee (f := 99) rfl ?_); refine gL_ (some 9) Tryz.func99 #[.int .i64 x3_1] ?_; (with_reducible refine (spec_l1Base.calls x3_1 t142 _ A3.out).mono ?_); rintro e w' ⟨rfl, ⟨nd, rfl⟩⟩; refine ⟨_, rfl, ?_⟩))
     go_ret
     exact ⟨bS, z1⟩
    rw [if_neg c4] at H
    have c4b0 : (t142 == a0) = false := beq_eq_false_iff_ne.mpr c4
    have c4b1 : (t142 != a0) = true := bne_iff_ne.mpr c4
    have H' := aM H
    clear H
    go_wp2_with (first | ((with_reducible refine gate_callee (f := 99) rfl ?_); refine gL_ (some 9) Tryz.func99 #[.int .i64 x3_1] ?_; (with_reducible refine (spec_l1Base.calls x3_1 t142 _ A3.out).mono ?_); rintro e w' ⟨rfl, ⟨nd, rfl⟩⟩; refine ⟨_, rfl, ?_⟩))
    go_roundg k1
    case measure => have := HK1.out; omega
    case rel => exact ⟨(wrap64 (x3_1 + 1)), bS, H', ⟨by have := HK1.out; omega⟩, z1⟩
   rw [if_neg c2] at H
   have c2b0 : decide (x3_1 < 64) = false := decide_eq_false c2
   clear c2
   obtain rfl := Option.some.inj H
   go_wp2
   go_ret
   exact ⟨bS, z1⟩
end Go.Proofs.YtjopgmjmjnfcjaaGreatDoor.PSubjectOf
