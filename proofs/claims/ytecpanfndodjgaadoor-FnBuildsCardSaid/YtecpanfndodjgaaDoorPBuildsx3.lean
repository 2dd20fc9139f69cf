/- Part of the proof; words that it uses. -/
import Derived.Test.YtecpanfndodjgaaDoorPBuildsx0
import Derived.Test.YtecpanfndodjgaaDoorPBuildsx1
namespace Go.Proofs.YtecpanfndodjgaaDoor.PBuilds
set_option maxHeartbeats 8000000
set_option maxRecDepth 100000
open Go.RowKit Go.Proofs.YtecpanfndodjgaaDoorW.PrintWords Go.Proofs.YtecpanfndodjgaaDoorW.PrintLast Go.Proofs.YtecpanfndodjgaaDoorW.PrintMore
attribute [local go_sem] max2_int max_two
set_option linter.unusedVariables false
set_option linter.unusedSimpArgs false
mutual
def impl_parser_marked.l0 : Nat → List Int → Int → ByteArray → List (S134) → Bool → Int → Int → Option ((List (S134)))
 | 0, _, _, _, _, _, _, _ => none
 | k + 1, x0, x2, x3, x9, x10, x11, x12 => if x12 < x2 then (if 0 ≤ x12 then (if x12 ≤ x2 then (if x2 ≤ (x0.length : Int) then ((bytes_IndexByte.f ((x0.take (x2 : Int).toNat).drop (x12 : Int).toNat) 10).bind fun t188 => (if t188 < 0 then (impl_parser_marked.j1 k x0 x2 x3 x9 x10 x11 x12 (wrap64 (x2 - x12)) x2) else (impl_parser_marked.j1 k x0 x2 x3 x9 x10 x11 x12 t188 (wrap64 ((wrap64 (x12 + t188)) + 1))))) else (none)) else (none)) else (none)) else (if x10 = true then (if x9.length < 8796093022208 then (some (x9 ++ [(⟨x11, x2⟩ : S134)])) else (none)) else (some x9))
def impl_parser_marked.j1 : Nat → List Int → Int → ByteArray → List (S134) → Bool → Int → Int → Int → Int → Option ((List (S134)))
 | 0, _, _, _, _, _, _, _, _, _ => none
 | k + 1, x0, x2, x3, x9, x10, x11, x12, x13, x14 => if 0 ≤ x12 then (if x12 ≤ (wrap64 (x12 + x13)) then (if (wrap64 (x12 + x13)) ≤ (x0.length : Int) then (if 2 + x3.size ≤ 9223372036854775807 then (if (strOfNums ((x0.take ((wrap64 (x12 + x13)) : Int).toNat).drop (x12 : Int).toNat)).toList = ((⟨#[45, 45]⟩ : ByteArray) ++ x3).toList then (impl_parser_marked.j2 k x0 x2 x3 x9 x10 x11 x12 x14 (strOfNums ((x0.take ((wrap64 (x12 + x13)) : Int).toNat).drop (x12 : Int).toNat)) true) else (if ((⟨#[45, 45]⟩ : ByteArray) ++ x3).size + 2 ≤ 9223372036854775807 then (impl_parser_marked.j2 k x0 x2 x3 x9 x10 x11 x12 x14 (strOfNums ((x0.take ((wrap64 (x12 + x13)) : Int).toNat).drop (x12 : Int).toNat)) ((strOfNums ((x0.take ((wrap64 (x12 + x13)) : Int).toNat).drop (x12 : Int).toNat)).toList == (((⟨#[45, 45]⟩ : ByteArray) ++ x3) ++ (⟨#[45, 45]⟩ : ByteArray)).toList)) else (none))) else (none)) else (none)) else (none)) else (none)
def impl_parser_marked.j2 : Nat → List Int → Int → ByteArray → List (S134) → Bool → Int → Int → Int → ByteArray → Bool → Option ((List (S134)))
 | 0, _, _, _, _, _, _, _, _, _, _ => none
 | k + 1, x0, x2, x3, x9, x10, x11, x12, x14, x15, x59 => if x59 = true then (if x10 = true then (if x9.length < 8796093022208 then ((some (x9 ++ [(⟨x11, mx x11 (wrap64 (x12 - 1))⟩ : S134)] : List (S134))).bind fun y190 => (if 2 + x3.size ≤ 9223372036854775807 then (if (x15.toList = ((⟨#[45, 45]⟩ : ByteArray) ++ x3).toList) then (impl_parser_marked.l0 k x0 x2 x3 y190 (x15.toList == ((⟨#[45, 45]⟩ : ByteArray) ++ x3).toList) x14 x14) else (some y190)) else (none))) else (none)) else (if 2 + x3.size ≤ 9223372036854775807 then (if (x15.toList = ((⟨#[45, 45]⟩ : ByteArray) ++ x3).toList) then (impl_parser_marked.l0 k x0 x2 x3 x9 (x15.toList == ((⟨#[45, 45]⟩ : ByteArray) ++ x3).toList) x14 x14) else (some x9)) else (none))) else (impl_parser_marked.l0 k x0 x2 x3 x9 x10 x11 x14)
end
def impl_parser_marked.f (k : Nat) (l0 : List Int) (a1 : Int) (a2 : Int) (a3 : ByteArray) : Option ((List (S134))) := impl_parser_marked.l0 k l0 a2 a3 (([] : List (S134))) false 0 a1
theorem impl_parser_marked.calls (k : Nat) (A0 : Option Addr) (c0 : Nat) (l0 : List Int) (a1 : Int) (a2 : Int) (a3 : ByteArray) (r : List (S134)) (w : World) (g_ : Nat) (hg_ : w.cell? ⟨g_, 0, none⟩ = some (.slice A0 l0.length c0)) (hr0 : Kd.C (Kd.int .u8) w A0 l0.length l0) (hc0 : l0.length ≤ c0) (h : impl_parser_marked.f k l0 a1 a2 a3 = some r) :
  Calls Tryd.prog 111 #[.pointer (some ⟨g_, 0, none⟩), .int .i64 a1, .int .i64 a2, .string a3] w fun e w' => ∃ v0_ : Value, e = .returned (v0_) ∧ Kd.R k134 134 w' w.heap.size (fun _ => True) v0_ r ∧ Below w.heap.size w w' := by
 have hu98 := Tryd.underlying98; have HG_ := aM hg_; clear hg_; have hu134 := Tryd.underlying134; have HR0 := aM hr0; have HC0 := aM hc0; clear hr0 hc0; have HB := aM (Below.refl w.heap.size w); have H : (impl_parser_marked.l0 k l0 a2 a3 (([] : List (S134))) false 0 a1) = some r := h; clear h; obtain ⟨y181, hy181⟩ : ∃ y_ : List (S134), y_ = (([] : List (S134))) := ⟨_, rfl⟩; replace H : (impl_parser_marked.l0 k l0 a2 a3 y181 false 0 a1) = some r := zz0 hy181; have Ny181 := aM hy181; clear hy181; have H' := aM H; clear H; go_enter Tryd.func111, Tryd.ntmps111; go_wp2_with (first | ((with_reducible refine gate_dst (N := 16) rfl ?_); refine Kd.R_lit k134 _ 134 ?hg (N := 16) ?hd (xs := ([] : List (S134))) (inner := []) (ok := fun _ => True) (okp := fun _ => True) ?hr ?hp (fun _ hk => hk) trivial (Below.refl _ _) (Nat.le_refl _) (by simp) ?_; (case hd => rfl); (case hg => rfl); (case hr => exact zz13); (case hp => exact (Reps.none _ _)); intro v182 w5 ho6 hb hg_ hnew_; clear hg_ hnew_; (first | rw [← Ny181.out] at ho6 | (simp only [Int.reduceToNat] at ho6; rw [← Ny181.out] at ho6)); have HO183 := aM (Kd.R_lower ho6 (below_size bB)); replace HB := aM (below_step bB hb); clear hb ho6)); go_loopg [9, 10, 11, 12] k (fun kq v9 v10 v11 v12 w' => ∃ (x9_1 : List (S134)) (x10_1 : Bool) (x11_1 : Int) (x12_1 : Int), v10 = .bool x10_1 ∧ v11 = .int .i64 x11_1 ∧ v12 = .int .i64 x12_1 ∧ Aside0 (impl_parser_marked.l0 kq l0 a2 a3 x9_1 x10_1 x11_1 x12_1 = some r) ∧ Aside0 (kq ≤ k) ∧ Aside0 (Kd.R k134 134 w' w.heap.size (fun _ => True) v9 x9_1) ∧ Aside0 (Below w.heap.size w w'))
 case atStart => exact ⟨(y181), (false), (0), (a1), bS, bS, bS, H', ⟨Nat.le_refl _⟩, ⟨bR HO183⟩, ⟨bB⟩⟩
 case round =>
  clear H'; obtain ⟨x9_1, x10_1, x11_1, x12_1, rfl, rfl, rfl, HA, HK1, HO_9, HB⟩ := hrel; have hg1_ := (HB.out.cell (World.block_lt_of_cell? _ _ HG_.out)).trans HG_.out
  cases gk with
  | zero => exact absurd HA.out (by simp [impl_parser_marked.l0])
  | succ k1 =>
   have H := HA.out; clear HA; simp only [impl_parser_marked.l0] at H; by_cases c7 : x12_1 < a2
   ·rw [if_pos c7] at H; have c7b0 := decide_eq_true c7; clear c7; by_cases c8 : 0 ≤ x12_1
    ·rw [if_pos c8] at H; have c8b0 := eq_true c8; have c8b1 := decide_eq_true c8; clear c8; by_cases c9 : x12_1 ≤ a2
     ·rw [if_pos c9] at H; have c9b0 := eq_true c9; have c9b1 := decide_eq_true c9; clear c9; by_cases c10 : a2 ≤ (l0.length : Int)
      ·rw [if_pos c10] at H; have c10b0 := eq_true c10; have c10b1 := decide_eq_true c10; (try have c10z := eq_true (show (a2 : Int) ≤ (c0 : Int) from (by have h_ := HC0.out; omega))); clear c10; replace H := oB H; obtain ⟨t188, A11, H⟩ := H; try dsimp only at H
       have HC12 := aM H; clear H; obtain ⟨i013, hi013, _, hsz13, _⟩ := info_parts info5; obtain ⟨A13, hcut13, hA13, hC13⟩ := print_mid_of (P := Tryd.prog) (Value.int .u8) 0 27 5 .i64 .i64 Tryd.underlying27 hi013 hsz13 A0 c0 l0 x12_1 a2 (pI) (by first | omega | exact pI) (pI) HC0.out; have HR187 := aM (Kd.C_of_reads (h1 := fun _ => rfl) (hA13 _ (Kd.reads_of_C HR0.out))); have HC187 := aM hC13; clear hA13 hC13 hi013 hsz13; go_upto_if 34 with (first | ((with_reducible refine gC 117 rfl ?_); refine goesL_ (some 28) rfl rfl Tryd.func117 (by kernel_rfl) rfl #[.slice A13 ((l0.take (a2 : Int).toNat).drop (x12_1 : Int).toNat).length (c0 - x12_1.toNat), .int .u8 10] rfl (by (try simp only [List.map_toArray, List.map_cons, List.map_nil]); first | done | (rw [show ((l0.take (a2 : Int).toNat).drop (x12_1 : Int).toNat).length = (a2.toNat - x12_1.toNat) from (by rw [List.length_drop, List.length_take]; have h_ : (a2 : Int) ≤ (l0.length : Int) := pI; omega)] <;> rfl) | rfl | (simp only [List.length_drop, List.length_take]; rfl)) ?_; (with_reducible refine (bytes_IndexByte.calls _ _ ((l0.take (a2 : Int).toNat).drop (x12_1 : Int).toNat) 10 t188 _ ?side1 ?side2 A11.out).mono ?_); (case side1 => exact zz11 HR187.out); (case side2 => exact HC187.out); rintro e w' ⟨rfl, ⟨nd, rfl⟩⟩; refine ⟨_, rfl, ?_⟩)); (try simp only [Act.put, List.setIfInBounds_toArray, List.set_cons_zero, List.set_cons_succ]); go_cut [13, 14] (fun v13 v14 wc => ∃ (kq : Nat) (x13_11 : Int) (x14_11 : Int), v13 = .int .i64 x13_11 ∧ v14 = .int .i64 x14_11 ∧ Aside0 (impl_parser_marked.j1 kq l0 a2 a3 x9_1 x10_1 x11_1 x12_1 x13_11 x14_11 = some r) ∧ Aside0 (kq ≤ k1) ∧ Aside0 (Kd.R k134 134 wc w.heap.size (fun _ => True) u9 x9_1) ∧ Aside0 (Below w.heap.size w wc))
       case first =>
        have H := HC12.out; clear HC12; by_cases c14 : t188 < 0
        ·rw [if_pos c14] at H; have c14b0 := decide_eq_true c14; clear c14; (first | rw [c14b0] | (simp only [i64_w, i32_w]; rw [c14b0]) | skip); have H' := aM H; clear H; go_wp2; go_meet
         case rel => exact ⟨_, (wrap64 (a2 - x12_1)), (a2), bS, bS, H', ⟨zz51 HK1.out⟩, ⟨bR HO_9⟩, ⟨bB⟩⟩
        rw [if_neg c14] at H; have c14b0 := decide_eq_false c14; clear c14; (first | rw [c14b0] | (simp only [i64_w, i32_w]; rw [c14b0]) | skip); have H' := aM H; clear H; go_wp2; go_meet
        case rel => exact ⟨_, (t188), (wrap64 ((wrap64 (x12_1 + t188)) + 1)), bS, bS, H', ⟨zz51 HK1.out⟩, ⟨bR HO_9⟩, ⟨bB⟩⟩
       case rest =>
        clear HC12; try clear c7
        try clear c7b0
        try clear c8
        try clear c8b0
        try clear c8b1
        try clear c9
        try clear c9b0
        try clear c9b1
        try clear c10
        try clear c10b0
        try clear c10b1
        obtain ⟨kq, x13_11, x14_11, rfl, rfl, HA, HJ11, HO_9, HB⟩ := hcut; have hg1_ := (HB.out.cell (World.block_lt_of_cell? _ _ HG_.out)).trans HG_.out
        cases kq with
        | zero => exact absurd HA.out (by simp [impl_parser_marked.j1])
        | succ kj11 =>
         have H := HA.out; clear HA; simp only [impl_parser_marked.j1] at H; by_cases c15 : 0 ≤ x12_1
         ·rw [if_pos c15] at H; have c15b0 := eq_true c15; have c15b1 := decide_eq_true c15; clear c15; by_cases c16 : x12_1 ≤ (wrap64 (x12_1 + x13_11))
          ·rw [if_pos c16] at H; have c16b0 := eq_true c16; have c16b1 := decide_eq_true c16; by_cases c17 : (wrap64 (x12_1 + x13_11)) ≤ (l0.length : Int)
           ·rw [if_pos c17] at H; have c17b0 := eq_true c17; have c17b1 := decide_eq_true c17; have HC18 := aM H; clear H; obtain ⟨i019, hi019, _, hsz19, _⟩ := info_parts info5; obtain ⟨A19, hcut19, hA19, hC19⟩ := print_mid_of (P := Tryd.prog) (Value.int .u8) 0 27 5 .i64 .i64 Tryd.underlying27 hi019 hsz19 A0 c0 l0 x12_1 (wrap64 (x12_1 + x13_11)) (pI) (by first | omega | exact pI) (pI) HC0.out; have HR189 := aM (Kd.C_of_reads (h1 := fun _ => rfl) (hA19 _ (Kd.reads_of_C HR0.out))); have HC189 := aM hC19; clear hA19 hC19 hi019 hsz19; have hcv20 := Kd.C_string (P := Tryd.prog) (A := A19) (c := (c0 - x12_1.toNat)) Tryd.underlying27 Tryd.underlying5 Tryd.underlying9 (Kd.C_below HR189.out HB.out); (try have hcd21 := fun nq_ : Nat => Kd.C_string (P := Tryd.prog) (A := A19) (c := (c0 - x12_1.toNat)) Tryd.underlying27 Tryd.underlying5 Tryd.underlying9 (Kd.C_drewN (Kd.C_below HR189.out HB.out) nq_)); (try have hce21 := Kd.C_string (P := Tryd.prog) (A := A19) (c := (c0 - x12_1.toNat)) Tryd.underlying27 Tryd.underlying5 Tryd.underlying9 (Kd.C_below HR189.out HB.out)); (try (have hln21 : ((l0.take ((wrap64 (x12_1 + x13_11)) : Int).toNat).drop (x12_1 : Int).toNat).length = ((wrap64 (x12_1 + x13_11)) : Int).toNat - (x12_1 : Int).toNat := by have h_ := of_decide_eq_true (show decide ((wrap64 (x12_1 + x13_11)) ≤ (l0.length : Int)) = true by assumption); rw [List.length_drop, List.length_take]; omega)); (try rw [hln21] at hce21); (try simp only [hln21] at hcd21); (try clear hln21); go_upto_region 9 with (fail); go_cut [59] (fun v59 wc => ∃ (kq : Nat) (x59_17 : Bool), v59 = .bool x59_17 ∧ Aside0 (impl_parser_marked.j2 kq l0 a2 a3 x9_1 x10_1 x11_1 x12_1 x14_11 (strOfNums ((l0.take ((wrap64 (x12_1 + x13_11)) : Int).toNat).drop (x12_1 : Int).toNat)) x59_17 = some r) ∧ Aside0 (kq ≤ kj11) ∧ Aside0 (Kd.R k134 134 wc w.heap.size (fun _ => True) u9 x9_1) ∧ Aside0 (Below w.heap.size w wc))
            case first =>
             have H := HC18.out; clear HC18; by_cases c22 : 2 + a3.size ≤ 9223372036854775807
             ·rw [if_pos c22] at H; have c22b0 := eq_true c22; have c22b1 := decide_eq_true c22; try have c22b2 : (9223372036854775807 < 2 + a3.size) = False := eq_false (Nat.not_lt.2 c22)
              by_cases c23 : (strOfNums ((l0.take ((wrap64 (x12_1 + x13_11)) : Int).toNat).drop (x12_1 : Int).toNat)).toList = ((⟨#[45, 45]⟩ : ByteArray) ++ a3).toList
              ·rw [if_pos c23] at H; have c23b0 : ((strOfNums ((l0.take ((wrap64 (x12_1 + x13_11)) : Int).toNat).drop (x12_1 : Int).toNat)).toList == ((⟨#[45, 45]⟩ : ByteArray) ++ a3).toList) = true := beq_iff_eq.mpr c23; have c23b1 : ((strOfNums ((l0.take ((wrap64 (x12_1 + x13_11)) : Int).toNat).drop (x12_1 : Int).toNat)).toList != ((⟨#[45, 45]⟩ : ByteArray) ++ a3).toList) = false := bne_eq_false_iff_eq.mpr c23; clear c23; (first | rw [c23b0] | (simp only [i64_w, i32_w]; rw [c23b0]) | skip); have H' := aM H; clear H; go_wp2; go_meet
               case rel => exact ⟨_, (true), bS, H', ⟨zz48 HK1.out HJ11.out⟩, ⟨bR HO_9⟩, ⟨bB⟩⟩
              rw [if_neg c23] at H; have c23b0 : ((strOfNums ((l0.take ((wrap64 (x12_1 + x13_11)) : Int).toNat).drop (x12_1 : Int).toNat)).toList == ((⟨#[45, 45]⟩ : ByteArray) ++ a3).toList) = false := beq_eq_false_iff_ne.mpr c23; have c23b1 : ((strOfNums ((l0.take ((wrap64 (x12_1 + x13_11)) : Int).toNat).drop (x12_1 : Int).toNat)).toList != ((⟨#[45, 45]⟩ : ByteArray) ++ a3).toList) = true := bne_iff_ne.mpr c23; (first | rw [c23b0] | (simp only [i64_w, i32_w]; rw [c23b0]) | skip); by_cases c24 : ((⟨#[45, 45]⟩ : ByteArray) ++ a3).size + 2 ≤ 9223372036854775807
              ·rw [if_pos c24] at H; have c24b0 := eq_true c24; have c24b1 := decide_eq_true c24; try have c24b2 : (9223372036854775807 < ((⟨#[45, 45]⟩ : ByteArray) ++ a3).size + 2) = False := eq_false (Nat.not_lt.2 c24)
               (try (have c24b3 : (9223372036854775807 < 2 + a3.size + 2) = False := by have h_ := c24b2; simp only [ByteArray.size_append] at h_; exact h_)); have H' := aM H; clear H; go_wp2; go_meet
               case rel => exact ⟨_, (((strOfNums ((l0.take ((wrap64 (x12_1 + x13_11)) : Int).toNat).drop (x12_1 : Int).toNat)).toList == (((⟨#[45, 45]⟩ : ByteArray) ++ a3) ++ (⟨#[45, 45]⟩ : ByteArray)).toList)), bS, H', ⟨zz48 HK1.out HJ11.out⟩, ⟨bR HO_9⟩, ⟨bB⟩⟩
              rw [if_neg c24] at H; exact aB H
             rw [if_neg c22] at H; exact aB H
            case rest =>
             clear HC18; try clear c7
             try clear c7b0
             try clear c8
             try clear c8b0
             try clear c8b1
             try clear c9
             try clear c9b0
             try clear c9b1
             try clear c10
             try clear c10b0
             try clear c10b1
             try clear c15
             try clear c15b0
             try clear c15b1
             try clear c16
             try clear c16b0
             try clear c16b1
             try clear c17
             try clear c17b0
             try clear c17b1
             try clear hcv20
             obtain ⟨kq, x59_17, rfl, HA, HJ17, HO_9, HB⟩ := hcut; have hg1_ := (HB.out.cell (World.block_lt_of_cell? _ _ HG_.out)).trans HG_.out
             cases kq with
             | zero => exact absurd HA.out (by simp [impl_parser_marked.j2])
             | succ kj17 =>
              have H := HA.out; clear HA; simp only [impl_parser_marked.j2] at H; by_cases c25 : x59_17 = true
              ·subst c25; replace H : (if x10_1 = true then (if x9_1.length < 8796093022208 then ((some (x9_1 ++ [(⟨x11_1, mx x11_1 (wrap64 (x12_1 - 1))⟩ : S134)] : List (S134))).bind fun y190 => (if 2 + a3.size ≤ 9223372036854775807 then (if ((strOfNums ((l0.take ((wrap64 (x12_1 + x13_11)) : Int).toNat).drop (x12_1 : Int).toNat)).toList = ((⟨#[45, 45]⟩ : ByteArray) ++ a3).toList) then (impl_parser_marked.l0 kj17 l0 a2 a3 y190 ((strOfNums ((l0.take ((wrap64 (x12_1 + x13_11)) : Int).toNat).drop (x12_1 : Int).toNat)).toList == ((⟨#[45, 45]⟩ : ByteArray) ++ a3).toList) x14_11 x14_11) else (some y190)) else (none))) else (none)) else (if 2 + a3.size ≤ 9223372036854775807 then (if ((strOfNums ((l0.take ((wrap64 (x12_1 + x13_11)) : Int).toNat).drop (x12_1 : Int).toNat)).toList = ((⟨#[45, 45]⟩ : ByteArray) ++ a3).toList) then (impl_parser_marked.l0 kj17 l0 a2 a3 x9_1 ((strOfNums ((l0.take ((wrap64 (x12_1 + x13_11)) : Int).toNat).drop (x12_1 : Int).toNat)).toList == ((⟨#[45, 45]⟩ : ByteArray) ++ a3).toList) x14_11 x14_11) else (some x9_1)) else (none))) = some r := zz36; by_cases c26 : x10_1 = true
               ·subst c26; replace H : (if x9_1.length < 8796093022208 then ((some (x9_1 ++ [(⟨x11_1, mx x11_1 (wrap64 (x12_1 - 1))⟩ : S134)] : List (S134))).bind fun y190 => (if 2 + a3.size ≤ 9223372036854775807 then (if ((strOfNums ((l0.take ((wrap64 (x12_1 + x13_11)) : Int).toNat).drop (x12_1 : Int).toNat)).toList = ((⟨#[45, 45]⟩ : ByteArray) ++ a3).toList) then (impl_parser_marked.l0 kj17 l0 a2 a3 y190 ((strOfNums ((l0.take ((wrap64 (x12_1 + x13_11)) : Int).toNat).drop (x12_1 : Int).toNat)).toList == ((⟨#[45, 45]⟩ : ByteArray) ++ a3).toList) x14_11 x14_11) else (some y190)) else (none))) else (none)) = some r := zz36; obtain ⟨ji27, hji27⟩ : ∃ j_ : Int, (mx x11_1 (wrap64 (x12_1 - 1))) = j_ := ⟨_, rfl⟩; replace H : (if x9_1.length < 8796093022208 then ((some (x9_1 ++ [(⟨x11_1, ji27⟩ : S134)] : List (S134))).bind fun y190 => (if 2 + a3.size ≤ 9223372036854775807 then (if ((strOfNums ((l0.take ((wrap64 (x12_1 + x13_11)) : Int).toNat).drop (x12_1 : Int).toNat)).toList = ((⟨#[45, 45]⟩ : ByteArray) ++ a3).toList) then (impl_parser_marked.l0 kj17 l0 a2 a3 y190 ((strOfNums ((l0.take ((wrap64 (x12_1 + x13_11)) : Int).toNat).drop (x12_1 : Int).toNat)).toList == ((⟨#[45, 45]⟩ : ByteArray) ++ a3).toList) x14_11 x14_11) else (some y190)) else (none))) else (none)) = some r := by first | (rw [hji27] at H; exact H) | (simp only [hji27] at H ⊢; exact H)
                have hji27_ : (if x11_1 < (wrap64 (x12_1 - 1)) then (wrap64 (x12_1 - 1)) else x11_1) = ji27 := hji27; by_cases c28 : x9_1.length < 8796093022208
                ·rw [if_pos c28] at H; have LMc28 := aM c28; clear c28; obtain ⟨y190, hy190⟩ : ∃ y_ : List (S134), y_ = (x9_1 ++ [(⟨x11_1, ji27⟩ : S134)]) := ⟨_, rfl⟩; replace H : (if 2 + a3.size ≤ 9223372036854775807 then (if ((strOfNums ((l0.take ((wrap64 (x12_1 + x13_11)) : Int).toNat).drop (x12_1 : Int).toNat)).toList = ((⟨#[45, 45]⟩ : ByteArray) ++ a3).toList) then (impl_parser_marked.l0 kj17 l0 a2 a3 y190 ((strOfNums ((l0.take ((wrap64 (x12_1 + x13_11)) : Int).toNat).drop (x12_1 : Int).toNat)).toList == ((⟨#[45, 45]⟩ : ByteArray) ++ a3).toList) x14_11 x14_11) else (some y190)) else (none)) = some r := zz0 hy190; have Ny190 := aM hy190; clear hy190; by_cases c29 : 2 + a3.size ≤ 9223372036854775807
                 ·rw [if_pos c29] at H; have c29b0 := eq_true c29; have c29b1 := decide_eq_true c29; try have c29b2 : (9223372036854775807 < 2 + a3.size) = False := eq_false (Nat.not_lt.2 c29)
                  by_cases c30 : ((strOfNums ((l0.take ((wrap64 (x12_1 + x13_11)) : Int).toNat).drop (x12_1 : Int).toNat)).toList = ((⟨#[45, 45]⟩ : ByteArray) ++ a3).toList)
                  ·rw [if_pos c30] at H; have c30b0 : ((strOfNums ((l0.take ((wrap64 (x12_1 + x13_11)) : Int).toNat).drop (x12_1 : Int).toNat)).toList == ((⟨#[45, 45]⟩ : ByteArray) ++ a3).toList) = true := beq_iff_eq.mpr c30; have c30b1 : ((strOfNums ((l0.take ((wrap64 (x12_1 + x13_11)) : Int).toNat).drop (x12_1 : Int).toNat)).toList != ((⟨#[45, 45]⟩ : ByteArray) ++ a3).toList) = false := bne_eq_false_iff_eq.mpr c30; clear c30; have H' := aM H; clear H; go_wp2_with (first | ((with_reducible refine gate_builtin (b := .append) (xs := #[.tmp 61, .tmp 68]) rfl ?_); at_builtin; refine Kd.R_append k134 (w0 := w) w.heap.size rfl (.tmp 61) (.tmp 68) 132 134 (.agg #[(.int .i64 0), (.int .i64 0)]) 16 rfl Tryd.underlying132 info134 rfl (by decide) (by omega) u9 x9_1 (⟨x11_1, ji27⟩ : S134) [.int .i64 x11_1, .int .i64 ji27] (fun _ => True) (fun _ => False) rfl rfl ?aP (fun _ hk => hk.elim) ?aF ?aO ?aB ?aS ?aL ?_; (case aP => exact k134_mkM _ _ _ (⟨x11_1, ji27⟩ : S134)); (case aB => exact bB); (case aF => exact (fun _ _ => trivial)); (case aO => exact (bR HO_9)); (case aS => exact (below_size bB)); (case aL => have := LMc28.out; omega); intro v191 w31 ho hb hg hat; rw [← Ny190.out] at ho; have n0_ := aM hb; have n1_ := aM ho; clear HB; clear HO_9; have HB := n0_; have HO192 := n1_; clear n0_ n1_; clear ho hb hg hat)); go_roundg kj17
                   case measure => have := HK1.out; have := HJ11.out; have := HJ17.out; omega
                   case rel => exact ⟨(y190), (((strOfNums ((l0.take ((wrap64 (x12_1 + x13_11)) : Int).toNat).drop (x12_1 : Int).toNat)).toList == ((⟨#[45, 45]⟩ : ByteArray) ++ a3).toList)), (x14_11), (x14_11), bS, bS, bS, H', ⟨zz64 HK1.out HJ11.out HJ17.out⟩, ⟨bR HO192⟩, ⟨bB⟩⟩
                  rw [if_neg c30] at H; have c30b0 : ((strOfNums ((l0.take ((wrap64 (x12_1 + x13_11)) : Int).toNat).drop (x12_1 : Int).toNat)).toList == ((⟨#[45, 45]⟩ : ByteArray) ++ a3).toList) = false := beq_eq_false_iff_ne.mpr c30; have c30b1 : ((strOfNums ((l0.take ((wrap64 (x12_1 + x13_11)) : Int).toNat).drop (x12_1 : Int).toNat)).toList != ((⟨#[45, 45]⟩ : ByteArray) ++ a3).toList) = true := bne_iff_ne.mpr c30; obtain rfl := Option.some.inj H; go_wp2_with (first | ((with_reducible refine gate_builtin (b := .append) (xs := #[.tmp 61, .tmp 68]) rfl ?_); at_builtin; refine Kd.R_append k134 (w0 := w) w.heap.size rfl (.tmp 61) (.tmp 68) 132 134 (.agg #[(.int .i64 0), (.int .i64 0)]) 16 rfl Tryd.underlying132 info134 rfl (by decide) (by omega) u9 x9_1 (⟨x11_1, ji27⟩ : S134) [.int .i64 x11_1, .int .i64 ji27] (fun _ => True) (fun _ => False) rfl rfl ?aP (fun _ hk => hk.elim) ?aF ?aO ?aB ?aS ?aL ?_; (case aP => exact k134_mkM _ _ _ (⟨x11_1, ji27⟩ : S134)); (case aB => exact bB); (case aF => exact (fun _ _ => trivial)); (case aO => exact (bR HO_9)); (case aS => exact (below_size bB)); (case aL => have := LMc28.out; omega); intro v191 w32 ho hb hg hat; rw [← Ny190.out] at ho; have n0_ := aM hb; have n1_ := aM ho; clear HB; clear HO_9; have HB := n0_; have HO192 := n1_; clear n0_ n1_; clear ho hb hg hat)); go_ret; exact ⟨_, by first | rfl | (simp [errW_none, errW_some] <;> rfl) | (simp only [← hji27]; first | rfl | (simp [errW_none, errW_some] <;> rfl)) | (simp [*, errW_none, errW_some] <;> rfl), bR HO192, bB⟩
                 rw [if_neg c29] at H; exact aB H
                rw [if_neg c28] at H; exact aB H
               replace c26 := Bool.eq_false_iff.mpr c26; subst c26; replace H : (if 2 + a3.size ≤ 9223372036854775807 then (if ((strOfNums ((l0.take ((wrap64 (x12_1 + x13_11)) : Int).toNat).drop (x12_1 : Int).toNat)).toList = ((⟨#[45, 45]⟩ : ByteArray) ++ a3).toList) then (impl_parser_marked.l0 kj17 l0 a2 a3 x9_1 ((strOfNums ((l0.take ((wrap64 (x12_1 + x13_11)) : Int).toNat).drop (x12_1 : Int).toNat)).toList == ((⟨#[45, 45]⟩ : ByteArray) ++ a3).toList) x14_11 x14_11) else (some x9_1)) else (none)) = some r := zz21; by_cases c33 : 2 + a3.size ≤ 9223372036854775807
               ·rw [if_pos c33] at H; have c33b0 := eq_true c33; have c33b1 := decide_eq_true c33; try have c33b2 : (9223372036854775807 < 2 + a3.size) = False := eq_false (Nat.not_lt.2 c33)
                by_cases c34 : ((strOfNums ((l0.take ((wrap64 (x12_1 + x13_11)) : Int).toNat).drop (x12_1 : Int).toNat)).toList = ((⟨#[45, 45]⟩ : ByteArray) ++ a3).toList)
                ·rw [if_pos c34] at H; have c34b0 : ((strOfNums ((l0.take ((wrap64 (x12_1 + x13_11)) : Int).toNat).drop (x12_1 : Int).toNat)).toList == ((⟨#[45, 45]⟩ : ByteArray) ++ a3).toList) = true := beq_iff_eq.mpr c34; have c34b1 : ((strOfNums ((l0.take ((wrap64 (x12_1 + x13_11)) : Int).toNat).drop (x12_1 : Int).toNat)).toList != ((⟨#[45, 45]⟩ : ByteArray) ++ a3).toList) = false := bne_eq_false_iff_eq.mpr c34; clear c34; have H' := aM H; clear H; go_wp2; go_roundg kj17
                 case measure => have := HK1.out; have := HJ11.out; have := HJ17.out; omega
                 case rel => exact ⟨(x9_1), (((strOfNums ((l0.take ((wrap64 (x12_1 + x13_11)) : Int).toNat).drop (x12_1 : Int).toNat)).toList == ((⟨#[45, 45]⟩ : ByteArray) ++ a3).toList)), (x14_11), (x14_11), bS, bS, bS, H', ⟨zz64 HK1.out HJ11.out HJ17.out⟩, ⟨bR HO_9⟩, ⟨bB⟩⟩
                rw [if_neg c34] at H; have c34b0 : ((strOfNums ((l0.take ((wrap64 (x12_1 + x13_11)) : Int).toNat).drop (x12_1 : Int).toNat)).toList == ((⟨#[45, 45]⟩ : ByteArray) ++ a3).toList) = false := beq_eq_false_iff_ne.mpr c34; have c34b1 : ((strOfNums ((l0.take ((wrap64 (x12_1 + x13_11)) : Int).toNat).drop (x12_1 : Int).toNat)).toList != ((⟨#[45, 45]⟩ : ByteArray) ++ a3).toList) = true := bne_iff_ne.mpr c34; obtain rfl := Option.some.inj H; go_wp2; go_ret; exact ⟨_, bE, bR HO_9, bB⟩
               rw [if_neg c33] at H; exact aB H
              replace c25 := Bool.eq_false_iff.mpr c25; subst c25; replace H : (impl_parser_marked.l0 kj17 l0 a2 a3 x9_1 x10_1 x11_1 x14_11) = some r := zz21; have H' := aM H; clear H; go_wp2; go_roundg kj17
              case measure => have := HK1.out; have := HJ11.out; have := HJ17.out; omega
              case rel => exact ⟨(x9_1), (x10_1), (x11_1), (x14_11), bS, bS, bS, H', ⟨zz64 HK1.out HJ11.out HJ17.out⟩, ⟨bR HO_9⟩, ⟨bB⟩⟩
           rw [if_neg c17] at H; exact aB H
          rw [if_neg c16] at H; exact aB H
         rw [if_neg c15] at H; exact aB H
      rw [if_neg c10] at H; exact aB H
     rw [if_neg c9] at H; exact aB H
    rw [if_neg c8] at H; exact aB H
   rw [if_neg c7] at H; have c7b0 := decide_eq_false c7; clear c7; by_cases c35 : x10_1 = true
   ·subst c35; replace H : (if x9_1.length < 8796093022208 then (some (x9_1 ++ [(⟨x11_1, a2⟩ : S134)])) else (none)) = some r := zz36; by_cases c36 : x9_1.length < 8796093022208
    ·rw [if_pos c36] at H; have LMc36 := aM c36; clear c36; obtain ⟨y184, hy184⟩ : ∃ y_ : List (S134), y_ = (x9_1 ++ [(⟨x11_1, a2⟩ : S134)]) := ⟨_, rfl⟩; replace H : (some y184) = some r := zz0 hy184; have Ny184 := aM hy184; clear hy184; obtain rfl := Option.some.inj H; go_wp2_with (first | ((with_reducible refine gate_builtin (b := .append) (xs := #[.tmp 80, .tmp 84]) rfl ?_); at_builtin; refine Kd.R_append k134 (w0 := w) w.heap.size rfl (.tmp 80) (.tmp 84) 132 134 (.agg #[(.int .i64 0), (.int .i64 0)]) 16 rfl Tryd.underlying132 info134 rfl (by decide) (by omega) u9 x9_1 (⟨x11_1, a2⟩ : S134) [.int .i64 x11_1, .int .i64 a2] (fun _ => True) (fun _ => False) rfl rfl ?aP (fun _ hk => hk.elim) ?aF ?aO ?aB ?aS ?aL ?_; (case aP => exact k134_mkM _ _ _ (⟨x11_1, a2⟩ : S134)); (case aB => exact bB); (case aF => exact (fun _ _ => trivial)); (case aO => exact (bR HO_9)); (case aS => exact (below_size bB)); (case aL => have := LMc36.out; omega); intro v185 w37 ho hb hg hat; rw [← Ny184.out] at ho; have n0_ := aM hb; have n1_ := aM ho; clear HB; clear HO_9; have HB := n0_; have HO186 := n1_; clear n0_ n1_; clear ho hb hg hat)); go_ret; exact ⟨_, bE, bR HO186, bB⟩
    rw [if_neg c36] at H; exact aB H
   replace c35 := Bool.eq_false_iff.mpr c35; subst c35; replace H : (some x9_1) = some r := zz21; obtain rfl := Option.some.inj H; go_wp2; go_ret; exact ⟨_, bE, bR HO_9, bB⟩
end Go.Proofs.YtecpanfndodjgaaDoor.PBuilds
