/- Part of the proof; words that it uses. -/
import Derived.Test.YtecpanfndodjgaaDoorPPartAtx0
import Derived.Test.YtecpanfndodjgaaDoorPPartAtx6
import Derived.Test.YtecpanfndodjgaaDoorPPartAtx7
import Derived.Test.YtecpanfndodjgaaDoorPPartAtx8
namespace Go.Proofs.YtecpanfndodjgaaDoor.PPartAt
open Go.RowKit Go.Proofs.YtecpanfndodjgaaDoorW.PrintWords Go.Proofs.YtecpanfndodjgaaDoorW.PrintLast Go.Proofs.YtecpanfndodjgaaDoorW.PrintMore
attribute [local go_sem] max2_int max_two
set_option linter.unusedVariables false
set_option linter.unusedSimpArgs false
mutual
def impl_parser_part.j0 : Nat → Int → Int → Int → Int → Int → List (S151) → Int → Bool → ByteArray → List Int → List (S23) → Int → Int → Int → Int → Int → Int → Int → Option ((List (S23)))
 | 0, _, _, _, _, _, _, _, _, _, _, _, _, _, _, _, _, _, _ => none
 | k + 1, x1, x2, x3, x4, x5, x12, x13, x14, x16, x383000, x383001, x393000, x393001, x393002, x393003, x393004, x393005, x393006 => if x14 = true then ((impl_fieldOf.f k x12 (⟨#[67, 111, 110, 116, 101, 110, 116, 45, 84, 114, 97, 110, 115, 102, 101, 114, 45, 69, 110, 99, 111, 100, 105, 110, 103]⟩ : ByteArray)).bind fun bt402 => ((impl_codingOf.f k bt402.1).bind fun t404 => (impl_parser_part.j1 k x5 x16 x383000 x383001 x393000 x393001 t404 (wrap64 (x1 + x13)) x2 x3 x4))) else (impl_parser_part.j1 k x5 x16 x383000 x383001 x393000 x393001 1 x1 x2 x3 x4)
def impl_parser_part.j1 : Nat → Int → ByteArray → List Int → List (S23) → Int → Int → Int → Int → Int → Int → Int → Option ((List (S23)))
 | 0, _, _, _, _, _, _, _, _, _, _, _ => none
 | k + 1, x5, x16, x383000, x383001, x393000, x393001, x393002, x393003, x393004, x393005, x393006 => if x383001.length < 2513169434916 then ((some (x383001 ++ [(⟨x393000, x393001, x393002, x393003, x393004, x393005, x393006⟩ : S23)] : List (S23))).bind fun y405 => (if x393000 = 2 then (impl_parser_part.j2 k x5 x16 (decide ((wrap64 (x5 + 1)) ≥ 3)) x383000 y405 x393000 x393001 x393002 x393003 x393004 x393005 x393006) else (impl_parser_part.j2 k x5 x16 true x383000 y405 x393000 x393001 x393002 x393003 x393004 x393005 x393006))) else (none)
def impl_parser_part.j2 : Nat → Int → ByteArray → Bool → List Int → List (S23) → Int → Int → Int → Int → Int → Int → Int → Option ((List (S23)))
 | 0, _, _, _, _, _, _, _, _, _, _, _, _ => none
 | k + 1, x5, x16, x95, x383000, x383001, x393000, x393001, x393002, x393003, x393004, x393005, x393006 => if x95 = true then (some x383001) else ((impl_parameter.f k x16 (⟨#[98, 111, 117, 110, 100, 97, 114, 121, 61]⟩ : ByteArray)).bind fun bt408 => (if bt408.2 = true then ((impl_within.f (bt408.1.size : Int) 1 20).bind fun t410 => (impl_parser_part.j3 k x5 bt408.1 (!t410) x383000 x383001 x393000 x393001 x393002 x393003 x393004 x393005 x393006)) else (impl_parser_part.j3 k x5 bt408.1 true x383000 x383001 x393000 x393001 x393002 x393003 x393004 x393005 x393006)))
def impl_parser_part.j3 : Nat → Int → ByteArray → Bool → List Int → List (S23) → Int → Int → Int → Int → Int → Int → Int → Option ((List (S23)))
 | 0, _, _, _, _, _, _, _, _, _, _, _, _ => none
 | k + 1, x5, x21, x108, x383000, x383001, x393000, x393001, x393002, x393003, x393004, x393005, x393006 => if x108 = true then (some x383001) else ((impl_Part_85.f x383001).bind fun t411 => ((impl_parser_marked.f k x383000 x393003 x393004 x21).bind fun t412 => (impl_parser_part.l0 k x5 (wrap64 (t411 - 1)) t412 (t412.length : Int) 0 x383000 x383001)))
def impl_parser_part.l0 : Nat → Int → Int → List (S134) → Int → Int → List Int → List (S23) → Option ((List (S23)))
 | 0, _, _, _, _, _, _, _ => none
 | k + 1, x5, x23, x121, x122, x123, x383000, x383001 => if x123 < x122 then (if 0 ≤ x123 then (if x123 < (x121.length : Int) then ((impl_parser_part.f k x383000 ((rd_T134 x121 x123).f0) ((rd_T134 x121 x123).f1) x23 (wrap64 (x123 + 1)) (wrap64 (x5 + 1)) x383001).bind fun t417 => (impl_parser_part.l0 k x5 x23 x121 x122 (wrap64 (x123 + 1)) x383000 t417)) else (none)) else (none)) else (some x383001)
def impl_parser_part.f : Nat → List Int → Int → Int → Int → Int → Int → List (S23) → Option ((List (S23)))
 | 0, _, _, _, _, _, _, _ => none
 | k + 1, l0, a1, a2, a3, a4, a5, l6 => if (l6.length : Int) = 8 then (some l6) else (if 0 ≤ a1 then (if a1 ≤ a2 then (if a2 ≤ (l0.length : Int) then ((impl_parseHeader.f k ((l0.take (a2 : Int).toNat).drop (a1 : Int).toNat)).bind fun bt387 => (if bt387.2.2 = true then ((impl_fieldOf.f k bt387.1 (⟨#[67, 111, 110, 116, 101, 110, 116, 45, 84, 121, 112, 101]⟩ : ByteArray)).bind fun bt393 => (if bt393.2 = true then ((impl_TypeOf.f k bt393.1).bind fun bt395 => (impl_parser_part.j0 k a1 a2 a3 a4 a5 bt387.1 bt387.2.1 bt387.2.2 bt393.1 l0 l6 bt395.1 bt395.2.1 bt395.2.2.1 bt395.2.2.2.1 bt395.2.2.2.2.1 bt395.2.2.2.2.2.1 bt395.2.2.2.2.2.2)) else (impl_parser_part.j0 k a1 a2 a3 a4 a5 bt387.1 bt387.2.1 bt387.2.2 (⟨#[]⟩ : ByteArray) l0 l6 1 1 0 0 0 0 0))) else (impl_parser_part.j0 k a1 a2 a3 a4 a5 bt387.1 bt387.2.1 bt387.2.2 (⟨#[]⟩ : ByteArray) l0 l6 3 0 0 0 0 0 0))) else (none)) else (none)) else (none))
end
def impl_parser_part.T12 : Bool × List (List Nat × List Nat) := (true, [([], []), ([], []), ([1], [1]), ([2], [2]), ([3], [3]), ([], []), ([5], [5]), ([4, 6], [4, 6]), ([0, 0, 1, 2, 3, 4, 5, 6, 7], [0]), ([8, 0, 1, 2, 3, 4, 5, 6, 7], [8]), ([9, 7, 7, 0, 1, 2, 3, 4, 5, 6, 7], [7, 9])])
def impl_parser_part.B12 : List Nat := [0, 0, 2, 6, 14, 0, 32, 126, 255, 511, 1023]
theorem impl_parser_part.tab12 : rtab .any (opsOf Tryd.f86 12) = impl_parser_part.T12 := by kernel_rfl
theorem impl_parser_part.bits12 : waitsOk impl_parser_part.T12.2 impl_parser_part.B12 = true := by kernel_rfl
set_option maxHeartbeats 8000000 in
set_option maxRecDepth 100000 in
theorem impl_parser_part.calls (k : Nat) : ∀ (A0 : Option Addr) (c0 : Nat) (l0 : List Int) (a1 : Int) (a2 : Int) (a3 : Int) (a4 : Int) (a5 : Int) (P6_ : Nat → Prop) (u9000_ : Value) (l6 : List (S23)) (r : List (S23)) (w0 w : World) (gb382 : Nat) (hg_ : w.heap[gb382]? = some (.cells #[.slice A0 l0.length c0, u9000_] 98 (0, 0))) (hge_ : w0.heap.size ≤ gb382) (hgp_ : P6_ gb382) (hB : Below w0.heap.size w0 w) (hr0 : ∀ W_, Kept w W_ (fun k_ => P6_ k_) → Kd.C (Kd.int .u8) W_ A0 l0.length l0) (hc0 : l0.length ≤ c0) (ho6 : Kd.R k23 23 w w0.heap.size P6_ u9000_ l6) (h : impl_parser_part.f k l0 a1 a2 a3 a4 a5 l6 = some r),
  Calls Tryd.prog 86 #[.pointer (some ⟨gb382, 0, none⟩), .int .i64 a1, .int .i64 a2, .int .i64 a3, .int .i64 a4, .int .i64 a5] w fun e w' => e = .returned (.tuple #[]) ∧ ∃ v0_ : Value, w'.heap[gb382]? = some (.cells #[.slice A0 l0.length c0, v0_] 98 (0, 0)) ∧ Kd.R k23 23 w' w0.heap.size (fun k_ => (P6_ k_ ∨ w.heap.size ≤ k_)) v0_ r ∧ Below w0.heap.size w0 w' ∧ Kept w w' (fun k_ => P6_ k_) := by
 induction k using Nat.strongRecOn with
 | _ k ih =>
 intro A0 c0 l0 a1 a2 a3 a4 a5 P6_ u9000_ l6 r w0 w gb382 hg_ hge_ hgp_ hB hr0 hc0 ho6 h
 have hu98_ := Tryd.underlying98
 have BK382 := aM hg_
 have GE382 := aM hge_
 have GW382 := aM hgp_
 clear hg_ hge_ hgp_
 cases k with
 | zero => exact absurd h (by simp [impl_parser_part.f])
 | succ k =>
 simp only [impl_parser_part.f] at h
 have hu98 := Tryd.underlying98
 have hu23 := Tryd.underlying23
 have hu134 := Tryd.underlying134
 have HR0 := aM hr0
 have HC0 := aM hc0
 clear hr0 hc0
 have HO6 := aM (show Kd.R k23 23 w w0.heap.size (fun k_ => (P6_ k_ ∨ w.heap.size ≤ k_)) u9000_ l6 from Kd.R_mono ho6 (fun k_ hk => (.inl hk)))
 have HK := aM (Kept.refl w (fun k_ => P6_ k_))
 have HW0 := aM hB.size
 have HB := aM hB
 clear hB
 have H : (if (l6.length : Int) = 8 then (some l6) else (if 0 ≤ a1 then (if a1 ≤ a2 then (if a2 ≤ (l0.length : Int) then ((impl_parseHeader.f k ((l0.take (a2 : Int).toNat).drop (a1 : Int).toNat)).bind fun bt387 => (if bt387.2.2 = true then ((impl_fieldOf.f k bt387.1 (⟨#[67, 111, 110, 116, 101, 110, 116, 45, 84, 121, 112, 101]⟩ : ByteArray)).bind fun bt393 => (if bt393.2 = true then ((impl_TypeOf.f k bt393.1).bind fun bt395 => (impl_parser_part.j0 k a1 a2 a3 a4 a5 bt387.1 bt387.2.1 bt387.2.2 bt393.1 l0 l6 bt395.1 bt395.2.1 bt395.2.2.1 bt395.2.2.2.1 bt395.2.2.2.2.1 bt395.2.2.2.2.2.1 bt395.2.2.2.2.2.2)) else (impl_parser_part.j0 k a1 a2 a3 a4 a5 bt387.1 bt387.2.1 bt387.2.2 (⟨#[]⟩ : ByteArray) l0 l6 1 1 0 0 0 0 0))) else (impl_parser_part.j0 k a1 a2 a3 a4 a5 bt387.1 bt387.2.1 bt387.2.2 (⟨#[]⟩ : ByteArray) l0 l6 3 0 0 0 0 0 0))) else (none)) else (none)) else (none))) = some r := h
 clear h
 have HQ_ := aM H
 clear H
 obtain ⟨Ao9, co9, eo9⟩ := Kd.R_slice HO6.out
 subst eo9
 have hcz11_0 : w.cell? ⟨gb382, 0, none⟩ = some (.slice A0 l0.length c0) := (blk_cell BK382.out 0).trans rfl
 have hcz11_1 : w.cell? ⟨gb382, 1, none⟩ = some (.slice Ao9 l6.length co9) := (blk_cell BK382.out 1).trans rfl
 have hfz11_0 := blk_frozen BK382.out 0
 have hfz11_1 := blk_frozen BK382.out 1
 have H := HQ_.out
 clear HQ_
 by_cases c8 : (l6.length : Int) = 8
 ·rw [if_pos c8] at H
  have c8b0 : ((l6.length : Int) == 8) = true := beq_iff_eq.mpr c8
  have c8b1 : ((l6.length : Int) != 8) = false := bne_eq_false_iff_eq.mpr c8
  clear c8
  obtain rfl := Option.some.inj H
  (try simp only [c8b0, c8b1])
  go_enter Tryd.func86, Tryd.ntmps86
  go_wp2
  (try simp only [Exit.inBlock, Exit.then])
  first | refine bodyPost_ret (results_none rfl _ _ _) rfl ?_ | refine bodyPost_end (results_none rfl _ _ _) rfl ?_
  exact ⟨rfl, _, bL BK382, bR HO6, bG GE382, zz35 GW382.out⟩
 rw [if_neg c8] at H
 have c8b0 : ((l6.length : Int) == 8) = false := beq_eq_false_iff_ne.mpr c8
 have c8b1 : ((l6.length : Int) != 8) = true := bne_iff_ne.mpr c8
 (try simp only [c8b0, c8b1])
 by_cases c12 : 0 ≤ a1
 ·rw [if_pos c12] at H
  have c12b0 := eq_true c12
  have c12b1 : decide (0 ≤ a1) = true := decide_eq_true c12
  clear c12
  by_cases c13 : a1 ≤ a2
  ·rw [if_pos c13] at H
   have c13b0 := eq_true c13
   have c13b1 : decide (a1 ≤ a2) = true := decide_eq_true c13
   clear c13
   by_cases c14 : a2 ≤ (l0.length : Int)
   ·rw [if_pos c14] at H
    have c14b0 := eq_true c14
    have c14b1 : decide (a2 ≤ (l0.length : Int)) = true := decide_eq_true c14
    (try have c14z := eq_true (show (a2 : Int) ≤ (c0 : Int) from (by have h_ := HC0.out; omega)))
    clear c14
    obtain ⟨y383, hy383⟩ : ∃ y_ : List Int, y_ = ((l0.take (a2 : Int).toNat).drop (a1 : Int).toNat) := ⟨_, rfl⟩
    replace H : ((impl_parseHeader.f k y383).bind fun bt387 => (if bt387.2.2 = true then ((impl_fieldOf.f k bt387.1 (⟨#[67, 111, 110, 116, 101, 110, 116, 45, 84, 121, 112, 101]⟩ : ByteArray)).bind fun bt393 => (if bt393.2 = true then ((impl_TypeOf.f k bt393.1).bind fun bt395 => (impl_parser_part.j0 k a1 a2 a3 a4 a5 bt387.1 bt387.2.1 bt387.2.2 bt393.1 l0 l6 bt395.1 bt395.2.1 bt395.2.2.1 bt395.2.2.2.1 bt395.2.2.2.2.1 bt395.2.2.2.2.2.1 bt395.2.2.2.2.2.2)) else (impl_parser_part.j0 k a1 a2 a3 a4 a5 bt387.1 bt387.2.1 bt387.2.2 (⟨#[]⟩ : ByteArray) l0 l6 1 1 0 0 0 0 0))) else (impl_parser_part.j0 k a1 a2 a3 a4 a5 bt387.1 bt387.2.1 bt387.2.2 (⟨#[]⟩ : ByteArray) l0 l6 3 0 0 0 0 0 0))) = some r := zz2 hy383
    have Ny383 := aM hy383
    clear hy383
    replace H := Option.bind_eq_some_iff.mp H
    obtain ⟨⟨t387, t388, t389⟩, A150, H⟩ := H
    replace H : (if t389 = true then ((impl_fieldOf.f k t387 (⟨#[67, 111, 110, 116, 101, 110, 116, 45, 84, 121, 112, 101]⟩ : ByteArray)).bind fun bt393 => (if bt393.2 = true then ((impl_TypeOf.f k bt393.1).bind fun bt395 => (impl_parser_part.j0 k a1 a2 a3 a4 a5 t387 t388 t389 bt393.1 l0 l6 bt395.1 bt395.2.1 bt395.2.2.1 bt395.2.2.2.1 bt395.2.2.2.2.1 bt395.2.2.2.2.2.1 bt395.2.2.2.2.2.2)) else (impl_parser_part.j0 k a1 a2 a3 a4 a5 t387 t388 t389 (⟨#[]⟩ : ByteArray) l0 l6 1 1 0 0 0 0 0))) else (impl_parser_part.j0 k a1 a2 a3 a4 a5 t387 t388 t389 (⟨#[]⟩ : ByteArray) l0 l6 3 0 0 0 0 0 0)) = some r := H
    have A15 := aM A150
    clear A150
    have HC16 := aM H
    clear H
    have q20 : (a2 : Int) ≤ ((l0.length : Int) : Int) := pI
    obtain ⟨i020, hi020, _, hsz20, _⟩ := info_parts info5
    have hroom20 : l0.length ≤ c0 := HC0.out
    have hC20 : Kd.C (Kd.int .u8) _ A0 l0.length l0 := (Kd.C_kept_now HR0.out HK.out)
    have ql20 : (a1 : Int) ≤ (a2 : Int) := pI
    have q020 : (0 : Int) ≤ (a1 : Int) := pI
    have hcut20 := cut_mid (P := Tryd.prog) 27 5 .i64 .i64 Tryd.underlying27 hi020 1 hsz20 A0 l0.length c0 a1 a2 q020 ql20 q20 hroom20
    have hr20 := Kd.C_mid (lo := (a1 : Int).toNat) (hi := (a2 : Int).toNat) (c := c0) hC20 (by omega) (by omega) hroom20
    obtain ⟨A20, hA20⟩ : ∃ A1, A1 = (if c0 = (a1 : Int).toNat then A0 else (A0 : Option Addr).map (·.add ((a1 : Int).toNat * 1))) := ⟨_, rfl⟩
    obtain ⟨c20, hc20⟩ : ∃ c1, c1 = c0 - (a1 : Int).toNat := ⟨_, rfl⟩
    have hy20 : y383.length = (a2 : Int).toNat - (a1 : Int).toNat := (by rw [Ny383.out, List.length_drop, List.length_take] <;> omega)
    rw [show ((l0).take (a2 : Int).toNat).drop (a1 : Int).toNat = y383 from Ny383.out.symm] at hr20
    replace hr20 : Kd.C (Kd.int .u8) _ A20 y383.length y383 := (by rw [hA20]; exact hr20)
    rw [← hy20, ← hA20, ← hc20] at hcut20
    have HR386 := aM hr20
    have HC386 := aM (show y383.length ≤ c20 from by rw [hy20, hc20]; exact Nat.sub_le_sub_right (Nat.le_trans (by omega) hroom20) _)
    clear hr20 hC20 hroom20 hi020 hsz20 hc20
    have KY20 := aM hy20
    have KA20 := aM hA20
    clear hy20 hA20
    have KL20 := aM (show (a2 : Int).toNat ≤ l0.length from by omega)
    have KM20 := aM (show (a1 : Int).toNat ≤ (a2 : Int).toNat from by omega)
    replace q20 := eq_true q20
    go_enter Tryd.func86, Tryd.ntmps86
    go_upto_if 45 with (first | ((with_reducible refine gate_callee (f := 108) rfl ?_); refine gL_ (some 40) Tryd.func108 #[.slice A20 y383.length c20] ?_; (with_reducible refine (impl_parseHeader.calls k _ _ y383 t387 t388 t389 _ ?side1 ?side2 A15.out).mono ?_); (case side1 => repeat (first | exact (by repeat (first | (with_reducible exact HR386.out) | (with_reducible refine Kd.C_alloc ?_ _) | (with_reducible refine Kd.C_drewN ?_ _) | (with_reducible refine Kd.C_drew ?_) | exact HR386.out)) | (with_reducible refine Kd.C_alloc ?_ _) | (with_reducible refine Kd.C_drewN ?_ _) | (with_reducible refine Kd.C_drew ?_))); (case side2 => exact HC386.out); rintro e w21 ⟨v390, rfl, ho0, hb⟩; refine ⟨_, rfl, ?_⟩; replace HO6 := aM (Kd.R_below (bR HO6) hb); have HO391 := aM (Kd.R_lower (Kd.R_newM (M := fun k_ => (P6_ k_ ∨ w.heap.size ≤ k_)) ho0 (by first | exact HK.out.1 | exact (show Kept w _ (fun k_ => P6_ k_) from zz35 GW382.out).1) (fun k_ h_ => .inr h_)) (below_size (bG GE382))); replace BK382 := aM (blk_below (g := gb382) (o := .cells #[.slice A0 l0.length c0, .slice Ao9 l6.length co9] 98 (0, 0)) (bL BK382) hb); replace HR386 := aM (Kd.C_below (by repeat (first | (with_reducible exact HR386.out) | (with_reducible refine Kd.C_alloc ?_ _) | (with_reducible refine Kd.C_drewN ?_ _) | (with_reducible refine Kd.C_drew ?_) | exact HR386.out)) hb); replace HK := aM (Kept.below (S := (fun k_ => P6_ k_)) (zz35 GW382.out) hb); replace HB := aM (below_step (bG GE382) hb); (try clear ho0)) | ((with_reducible refine gate_dst (N := 15) rfl ?_); (try (refine gate_guard (by rfl) ?_; dsimp only)); refine box_event ?hg (N := 15) ?hd (cs := #[.int .i64 0, .int .i64 0, .int .i64 0, .int .i64 0, .int .i64 0, .int .i64 0, .int .i64 0]) (t := 23) ?hr ?_; (case hd => rfl); (case hg => rfl); (case hr => exact zz13); intro gb392 hg w22 hbox hb; replace HO6 := aM (Kd.R_below (Kd.R_elderB (bR HO6) gb392 (Nat.le_of_eq hg.symm)) hb); replace HO391 := aM (Kd.R_below (bR HO391) hb); have BK392 := aM (hbox); have GW392 := aM ((by rw [hg]; exact (by first | exact HK.out.1 | exact (show Kept w _ (fun k_ => P6_ k_) from zz35 GW382.out).1) : w.heap.size ≤ gb392)); replace HK := aM (Kept.below (S := (fun k_ => P6_ k_)) (zz35 GW382.out) hb); have GE392 := aM ((by rw [hg]; exact (below_size (bG GE382)) : w0.heap.size ≤ gb392)); replace HB := aM (below_step (bG GE382) hb); have NB382_392 := aM ((by rw [hg]; exact Nat.ne_of_lt (blk_lt (g := gb382) (o := .cells #[.slice A0 l0.length c0, .slice Ao9 l6.length co9] 98 (0, 0)) (bL BK382)) : gb382 ≠ gb392)); have NB392_382 := aM ((by rw [hg]; exact Nat.ne_of_gt (blk_lt (g := gb382) (o := .cells #[.slice A0 l0.length c0, .slice Ao9 l6.length co9] 98 (0, 0)) (bL BK382)) : gb392 ≠ gb382)); replace BK382 := aM (blk_below (g := gb382) (o := .cells #[.slice A0 l0.length c0, .slice Ao9 l6.length co9] 98 (0, 0)) (bL BK382) hb); clear hb hbox hg; have hnb23 := NB392_382.out; have hnc23 := NB382_392.out; have hcz24_0 : w22.cell? ⟨gb392, 0, none⟩ = some (.int .i64 0) := (blk_cell BK392.out 0).trans rfl; have hcz24_1 : w22.cell? ⟨gb392, 1, none⟩ = some (.int .i64 0) := (blk_cell BK392.out 1).trans rfl; have hcz24_2 : w22.cell? ⟨gb392, 2, none⟩ = some (.int .i64 0) := (blk_cell BK392.out 2).trans rfl; have hcz24_3 : w22.cell? ⟨gb392, 3, none⟩ = some (.int .i64 0) := (blk_cell BK392.out 3).trans rfl; have hcz24_4 : w22.cell? ⟨gb392, 4, none⟩ = some (.int .i64 0) := (blk_cell BK392.out 4).trans rfl; have hcz24_5 : w22.cell? ⟨gb392, 5, none⟩ = some (.int .i64 0) := (blk_cell BK392.out 5).trans rfl; have hcz24_6 : w22.cell? ⟨gb392, 6, none⟩ = some (.int .i64 0) := (blk_cell BK392.out 6).trans rfl; have hfz24_0 := blk_frozen BK392.out 0; have hfz24_1 := blk_frozen BK392.out 1; have hfz24_2 := blk_frozen BK392.out 2; have hfz24_3 := blk_frozen BK392.out 3; have hfz24_4 := blk_frozen BK392.out 4; have hfz24_5 := blk_frozen BK392.out 5; have hfz24_6 := blk_frozen BK392.out 6) | ((with_reducible refine gate_store (t := 23) (p := 15) rfl ?_); refine store_event (t := 23) (p := 15) (v := ?vo_w25) (w1 := (((((((w22.setCell ⟨gb392, 0, none⟩ (.int .i64 3)).setCell ⟨gb392, 1, none⟩ (.int .i64 0)).setCell ⟨gb392, 2, none⟩ (.int .i64 0)).setCell ⟨gb392, 3, none⟩ (.int .i64 0)).setCell ⟨gb392, 4, none⟩ (.int .i64 0)).setCell ⟨gb392, 5, none⟩ (.int .i64 0)).setCell ⟨gb392, 6, none⟩ (.int .i64 0))) ?hg ?ho ?hn ?hr ?_; (case ho => rfl); (case hg => rfl); (case hn => rfl); (case hr => exact zz13); intro w25 hw; have n0_ : Aside0 (Kd.R k23 23 w25 w0.heap.size (fun k_ => (P6_ k_ ∨ w.heap.size ≤ k_) ∧ k_ ≠ gb392) (.slice Ao9 l6.length co9) l6) := ⟨(by rw [hw]; exact (by (with_reducible repeat (first | apply Kd.R_alloc | apply Kd.R_drewN | apply Kd.R_drew)); exact Kd.R_mono (Kd.R_far (p := ⟨gb392, 6, none⟩) (Kd.R_far (p := ⟨gb392, 5, none⟩) (Kd.R_far (p := ⟨gb392, 4, none⟩) (Kd.R_far (p := ⟨gb392, 3, none⟩) (Kd.R_far (p := ⟨gb392, 2, none⟩) (Kd.R_far (p := ⟨gb392, 1, none⟩) (Kd.R_far (p := ⟨gb392, 0, none⟩) (Kd.R_mono HO6.out (fun k_ hk => (⟨hk, hk.2⟩ : _ ∧ k_ ≠ gb392))) (fun _ hk => hk.2) (.int .i64 3)) (fun _ hk => hk.2) (.int .i64 0)) (fun _ hk => hk.2) (.int .i64 0)) (fun _ hk => hk.2) (.int .i64 0)) (fun _ hk => hk.2) (.int .i64 0)) (fun _ hk => hk.2) (.int .i64 0)) (fun _ hk => hk.2) (.int .i64 0)) (fun _ hk => ⟨hk.1.1, hk.1.2⟩)))⟩; have n1_ : Aside0 (Kd.R k151 151 w25 w0.heap.size (fun k_ => (P6_ k_ ∨ w.heap.size ≤ k_)) v390 t387) := ⟨(by rw [hw]; exact (by (with_reducible repeat (first | apply Kd.R_alloc | apply Kd.R_drewN | apply Kd.R_drew)); exact Kd.R_mono (Kd.R_far (p := ⟨gb392, 6, none⟩) (Kd.R_far (p := ⟨gb392, 5, none⟩) (Kd.R_far (p := ⟨gb392, 4, none⟩) (Kd.R_far (p := ⟨gb392, 3, none⟩) (Kd.R_far (p := ⟨gb392, 2, none⟩) (Kd.R_far (p := ⟨gb392, 1, none⟩) (Kd.R_far (p := ⟨gb392, 0, none⟩) (Kd.R_types HO391.out BK392.out (by decide)) (fun _ hk => hk.2) (.int .i64 3)) (fun _ hk => hk.2) (.int .i64 0)) (fun _ hk => hk.2) (.int .i64 0)) (fun _ hk => hk.2) (.int .i64 0)) (fun _ hk => hk.2) (.int .i64 0)) (fun _ hk => hk.2) (.int .i64 0)) (fun _ hk => hk.2) (.int .i64 0)) (fun _ hk => hk.1.1)))⟩; have n2_ : Aside0 (w25.heap[gb382]? = some (.cells #[.slice A0 l0.length c0, .slice Ao9 l6.length co9] 98 (0, 0))) := ⟨(zz8 NB382_392.out BK382.out)⟩; have n3_ : Aside0 (w25.heap[gb392]? = some (.cells #[.int .i64 3, .int .i64 0, .int .i64 0, .int .i64 0, .int .i64 0, .int .i64 0, .int .i64 0] 23 (0, 0))) := ⟨(by rw [hw]; exact (zz3 BK392.out))⟩; have n4_ : Aside0 (Kept w w25 (fun k_ => P6_ k_)) := ⟨(zz27 GW382.out GW392.out)⟩; have n5_ : Aside0 (Below w0.heap.size w0 w25) := ⟨zz63⟩; clear hw; clear HO6; clear HO391; clear BK382; clear BK392; clear HK; clear HB; have HO6 := n0_; have HO391 := n1_; have BK382 := n2_; have BK392 := n3_; have HK := n4_; have HB := n5_; clear n0_ n1_ n2_ n3_ n4_ n5_))
    (try simp only [Act.put, List.setIfInBounds_toArray, List.set_cons_zero, List.set_cons_succ])
    go_cut [16] (fun v16 wc => ∃ (kq : Nat) (x16_15 : ByteArray) (x393000_15 : Int) (x393001_15 : Int) (x393002_15 : Int) (x393003_15 : Int) (x393004_15 : Int) (x393005_15 : Int) (x393006_15 : Int), v16 = .string x16_15 ∧ Aside0 (impl_parser_part.j0 kq a1 a2 a3 a4 a5 t387 t388 t389 x16_15 l0 l6 x393000_15 x393001_15 x393002_15 x393003_15 x393004_15 x393005_15 x393006_15 = some r) ∧ Aside0 (kq ≤ k) ∧ Aside0 (Kd.R k151 151 wc w0.heap.size (fun k_ => (P6_ k_ ∨ w.heap.size ≤ k_)) v390 t387) ∧ Aside0 (Kd.R k23 23 wc w0.heap.size (fun k_ => (P6_ k_ ∨ w.heap.size ≤ k_) ∧ k_ ≠ gb392) (.slice Ao9 l6.length co9) l6) ∧ Aside0 (wc.heap[gb382]? = some (.cells #[(.slice A0 l0.length c0), (.slice Ao9 l6.length co9)] 98 (0, 0))) ∧ Aside0 (wc.heap[gb392]? = some (.cells #[.int .i64 x393000_15, .int .i64 x393001_15, .int .i64 x393002_15, .int .i64 x393003_15, .int .i64 x393004_15, .int .i64 x393005_15, .int .i64 x393006_15] 23 (0, 0))) ∧ Aside0 (Kept w wc (fun k_ => P6_ k_)) ∧ Aside0 (Below w0.heap.size w0 wc))
    case first =>
     have H := HC16.out
     clear HC16
     by_cases c26 : t389 = true
     ·subst c26
      have H1 : ((impl_fieldOf.f k t387 (⟨#[67, 111, 110, 116, 101, 110, 116, 45, 84, 121, 112, 101]⟩ : ByteArray)).bind fun bt393 => (if bt393.2 = true then ((impl_TypeOf.f k bt393.1).bind fun bt395 => (impl_parser_part.j0 k a1 a2 a3 a4 a5 t387 t388 true bt393.1 l0 l6 bt395.1 bt395.2.1 bt395.2.2.1 bt395.2.2.2.1 bt395.2.2.2.2.1 bt395.2.2.2.2.2.1 bt395.2.2.2.2.2.2)) else (impl_parser_part.j0 k a1 a2 a3 a4 a5 t387 t388 true (⟨#[]⟩ : ByteArray) l0 l6 1 1 0 0 0 0 0))) = some r := zz29
      clear H
      have H := H1
      clear H1
      replace H := Option.bind_eq_some_iff.mp H
      obtain ⟨⟨t393, t394⟩, A270, H⟩ := H
      replace H : (if t394 = true then ((impl_TypeOf.f k t393).bind fun bt395 => (impl_parser_part.j0 k a1 a2 a3 a4 a5 t387 t388 true t393 l0 l6 bt395.1 bt395.2.1 bt395.2.2.1 bt395.2.2.2.1 bt395.2.2.2.2.1 bt395.2.2.2.2.2.1 bt395.2.2.2.2.2.2)) else (impl_parser_part.j0 k a1 a2 a3 a4 a5 t387 t388 true (⟨#[]⟩ : ByteArray) l0 l6 1 1 0 0 0 0 0)) = some r := H
      have A27 := aM A270
      clear A270
      have HQ_ := aM H
      clear H
      have hnb30 := NB392_382.out
      have hnc30 := NB382_392.out
      have hcz31_0 : w25.cell? ⟨gb392, 0, none⟩ = some (.int .i64 3) := (blk_cell BK392.out 0).trans rfl
      have hcz31_1 : w25.cell? ⟨gb392, 1, none⟩ = some (.int .i64 0) := (blk_cell BK392.out 1).trans rfl
      have hcz31_2 : w25.cell? ⟨gb392, 2, none⟩ = some (.int .i64 0) := (blk_cell BK392.out 2).trans rfl
      have hcz31_3 : w25.cell? ⟨gb392, 3, none⟩ = some (.int .i64 0) := (blk_cell BK392.out 3).trans rfl
      have hcz31_4 : w25.cell? ⟨gb392, 4, none⟩ = some (.int .i64 0) := (blk_cell BK392.out 4).trans rfl
      have hcz31_5 : w25.cell? ⟨gb392, 5, none⟩ = some (.int .i64 0) := (blk_cell BK392.out 5).trans rfl
      have hcz31_6 : w25.cell? ⟨gb392, 6, none⟩ = some (.int .i64 0) := (blk_cell BK392.out 6).trans rfl
      have hfz31_0 := blk_frozen BK392.out 0
      have hfz31_1 := blk_frozen BK392.out 1
      have hfz31_2 := blk_frozen BK392.out 2
      have hfz31_3 := blk_frozen BK392.out 3
      have hfz31_4 := blk_frozen BK392.out 4
      have hfz31_5 := blk_frozen BK392.out 5
      have hfz31_6 := blk_frozen BK392.out 6
      have H := HQ_.out
      clear HQ_
      by_cases c28 : t394 = true
      ·subst c28
       have H1 : ((impl_TypeOf.f k t393).bind fun bt395 => (impl_parser_part.j0 k a1 a2 a3 a4 a5 t387 t388 true t393 l0 l6 bt395.1 bt395.2.1 bt395.2.2.1 bt395.2.2.2.1 bt395.2.2.2.2.1 bt395.2.2.2.2.2.1 bt395.2.2.2.2.2.2)) = some r := zz29
       clear H
       have H := H1
       clear H1
       replace H := Option.bind_eq_some_iff.mp H
       obtain ⟨⟨t395, t396, t397, t398, t399, t400, t401⟩, A290, H⟩ := H
       replace H : (impl_parser_part.j0 k a1 a2 a3 a4 a5 t387 t388 true t393 l0 l6 t395 t396 t397 t398 t399 t400 t401) = some r := H
       have A29 := aM A290
       clear A290
       have H' := aM H
       clear H
       go_wp2_with (first | ((with_reducible refine gate_store (t := 23) (p := 15) rfl ?_); refine store_event (t := 23) (p := 15) (v := ?vo_w32) (w1 := (((((((w25.setCell ⟨gb392, 0, none⟩ (.int .i64 1)).setCell ⟨gb392, 1, none⟩ (.int .i64 1)).setCell ⟨gb392, 2, none⟩ (.int .i64 0)).setCell ⟨gb392, 3, none⟩ (.int .i64 0)).setCell ⟨gb392, 4, none⟩ (.int .i64 0)).setCell ⟨gb392, 5, none⟩ (.int .i64 0)).setCell ⟨gb392, 6, none⟩ (.int .i64 0))) ?hg ?ho ?hn ?hr ?_; (case ho => rfl); (case hg => rfl); (case hn => rfl); (case hr => exact zz13); intro w32 hw; have n0_ : Aside0 (Kd.R k23 23 w32 w0.heap.size (fun k_ => (P6_ k_ ∨ w.heap.size ≤ k_) ∧ k_ ≠ gb392) (.slice Ao9 l6.length co9) l6) := ⟨(by rw [hw]; exact (by (with_reducible repeat (first | apply Kd.R_alloc | apply Kd.R_drewN | apply Kd.R_drew)); exact Kd.R_mono (Kd.R_far (p := ⟨gb392, 6, none⟩) (Kd.R_far (p := ⟨gb392, 5, none⟩) (Kd.R_far (p := ⟨gb392, 4, none⟩) (Kd.R_far (p := ⟨gb392, 3, none⟩) (Kd.R_far (p := ⟨gb392, 2, none⟩) (Kd.R_far (p := ⟨gb392, 1, none⟩) (Kd.R_far (p := ⟨gb392, 0, none⟩) (Kd.R_mono HO6.out (fun k_ hk => (⟨hk, hk.2⟩ : _ ∧ k_ ≠ gb392))) (fun _ hk => hk.2) (.int .i64 1)) (fun _ hk => hk.2) (.int .i64 1)) (fun _ hk => hk.2) (.int .i64 0)) (fun _ hk => hk.2) (.int .i64 0)) (fun _ hk => hk.2) (.int .i64 0)) (fun _ hk => hk.2) (.int .i64 0)) (fun _ hk => hk.2) (.int .i64 0)) (fun _ hk => ⟨hk.1.1, hk.1.2⟩)))⟩; have n1_ : Aside0 (Kd.R k151 151 w32 w0.heap.size (fun k_ => (P6_ k_ ∨ w.heap.size ≤ k_)) v390 t387) := ⟨(by rw [hw]; exact (by (with_reducible repeat (first | apply Kd.R_alloc | apply Kd.R_drewN | apply Kd.R_drew)); exact Kd.R_mono (Kd.R_far (p := ⟨gb392, 6, none⟩) (Kd.R_far (p := ⟨gb392, 5, none⟩) (Kd.R_far (p := ⟨gb392, 4, none⟩) (Kd.R_far (p := ⟨gb392, 3, none⟩) (Kd.R_far (p := ⟨gb392, 2, none⟩) (Kd.R_far (p := ⟨gb392, 1, none⟩) (Kd.R_far (p := ⟨gb392, 0, none⟩) (Kd.R_types HO391.out BK392.out (by decide)) (fun _ hk => hk.2) (.int .i64 1)) (fun _ hk => hk.2) (.int .i64 1)) (fun _ hk => hk.2) (.int .i64 0)) (fun _ hk => hk.2) (.int .i64 0)) (fun _ hk => hk.2) (.int .i64 0)) (fun _ hk => hk.2) (.int .i64 0)) (fun _ hk => hk.2) (.int .i64 0)) (fun _ hk => hk.1)))⟩; have n2_ : Aside0 (w32.heap[gb382]? = some (.cells #[.slice A0 l0.length c0, .slice Ao9 l6.length co9] 98 (0, 0))) := ⟨(zz8 NB382_392.out BK382.out)⟩; have n3_ : Aside0 (w32.heap[gb392]? = some (.cells #[.int .i64 1, .int .i64 1, .int .i64 0, .int .i64 0, .int .i64 0, .int .i64 0, .int .i64 0] 23 (0, 0))) := ⟨(by rw [hw]; exact (by (with_reducible repeat (first | refine blk_drewN ?_ _ | refine blk_drew ?_ | refine blk_alloc ?_ _)); refine blk_put (cs := #[.int .i64 1, .int .i64 1, .int .i64 0, .int .i64 0, .int .i64 0, .int .i64 0, .int .i64 0]) ?_ 6 _ rfl; (with_reducible repeat (first | refine blk_drewN ?_ _ | refine blk_drew ?_ | refine blk_alloc ?_ _)); refine blk_put (cs := #[.int .i64 1, .int .i64 1, .int .i64 0, .int .i64 0, .int .i64 0, .int .i64 0, .int .i64 0]) ?_ 5 _ rfl; (with_reducible repeat (first | refine blk_drewN ?_ _ | refine blk_drew ?_ | refine blk_alloc ?_ _)); refine blk_put (cs := #[.int .i64 1, .int .i64 1, .int .i64 0, .int .i64 0, .int .i64 0, .int .i64 0, .int .i64 0]) ?_ 4 _ rfl; (with_reducible repeat (first | refine blk_drewN ?_ _ | refine blk_drew ?_ | refine blk_alloc ?_ _)); refine blk_put (cs := #[.int .i64 1, .int .i64 1, .int .i64 0, .int .i64 0, .int .i64 0, .int .i64 0, .int .i64 0]) ?_ 3 _ rfl; (with_reducible repeat (first | refine blk_drewN ?_ _ | refine blk_drew ?_ | refine blk_alloc ?_ _)); refine blk_put (cs := #[.int .i64 1, .int .i64 1, .int .i64 0, .int .i64 0, .int .i64 0, .int .i64 0, .int .i64 0]) ?_ 2 _ rfl; (with_reducible repeat (first | refine blk_drewN ?_ _ | refine blk_drew ?_ | refine blk_alloc ?_ _)); refine blk_put (cs := #[.int .i64 1, .int .i64 0, .int .i64 0, .int .i64 0, .int .i64 0, .int .i64 0, .int .i64 0]) ?_ 1 _ rfl; (with_reducible repeat (first | refine blk_drewN ?_ _ | refine blk_drew ?_ | refine blk_alloc ?_ _)); refine blk_put (cs := #[.int .i64 3, .int .i64 0, .int .i64 0, .int .i64 0, .int .i64 0, .int .i64 0, .int .i64 0]) ?_ 0 _ rfl; (with_reducible repeat (first | refine blk_drewN ?_ _ | refine blk_drew ?_ | refine blk_alloc ?_ _)); exact BK392.out))⟩; have n4_ : Aside0 (Kept w w32 (fun k_ => P6_ k_)) := ⟨(zz27 GW382.out GW392.out)⟩; have n5_ : Aside0 (Below w0.heap.size w0 w32) := ⟨zz63⟩; clear hw; clear HO6; clear HO391; clear BK382; clear BK392; clear HK; clear HB; have HO6 := n0_; have HO391 := n1_; have BK382 := n2_; have BK392 := n3_; have HK := n4_; have HB := n5_; clear n0_ n1_ n2_ n3_ n4_ n5_; obtain ⟨Ao33, co33, eo33⟩ := Kd.R_slice HO391.out; subst eo33) | ((with_reducible refine gate_callee (f := 109) rfl ?_); refine gL_ (some 49) Tryd.func109 #[.slice Ao33 t387.length co33, .string (⟨#[67, 111, 110, 116, 101, 110, 116, 45, 84, 121, 112, 101]⟩ : ByteArray)] ?_; (with_reducible refine (impl_fieldOf.calls k _ _ t387 (⟨#[67, 111, 110, 116, 101, 110, 116, 45, 84, 121, 112, 101]⟩ : ByteArray) t393 true _ ?side1 ?side2 A27.out).mono ?_); (case side1 => exact zz7 HO391.out); (case side2 => exact (Kd.R_reads' HO391.out).2.1); rintro e w34 ⟨rfl, hb⟩; refine ⟨_, rfl, ?_⟩; replace HO6 := aM (Kd.R_below (bR HO6) hb); replace HO391 := aM (Kd.R_below (bR HO391) hb); replace BK382 := aM (blk_below (g := gb382) (o := .cells #[.slice A0 l0.length c0, .slice Ao9 l6.length co9] 98 (0, 0)) (bL BK382) hb); replace BK392 := aM (blk_below (g := gb392) (o := .cells #[.int .i64 1, .int .i64 1, .int .i64 0, .int .i64 0, .int .i64 0, .int .i64 0, .int .i64 0] 23 (0, 0)) (bL BK392) hb); replace HK := aM (Kept.below (S := (fun k_ => P6_ k_)) (zz4 GW382.out GW392.out) hb); replace HB := aM (below_step (bG2 GE382 GE392) hb); (try clear hi)) | ((with_reducible refine gate_callee (f := 10) rfl ?_); refine gL_ (some 54) Tryd.func10 #[.string t393] ?_; (with_reducible refine (impl_TypeOf.calls k t393 t395 t396 t397 t398 t399 t400 t401 _ A29.out).mono ?_); rintro e w35 ⟨rfl, hb⟩; refine ⟨_, rfl, ?_⟩; replace HO6 := aM (Kd.R_below (bR HO6) hb); replace HO391 := aM (Kd.R_below (bR HO391) hb); replace BK382 := aM (blk_below (g := gb382) (o := .cells #[.slice A0 l0.length c0, .slice Ao9 l6.length co9] 98 (0, 0)) (bL BK382) hb); replace BK392 := aM (blk_below (g := gb392) (o := .cells #[.int .i64 1, .int .i64 1, .int .i64 0, .int .i64 0, .int .i64 0, .int .i64 0, .int .i64 0] 23 (0, 0)) (bL BK392) hb); replace HK := aM (Kept.below (S := (fun k_ => P6_ k_)) (zz4 GW382.out GW392.out) hb); replace HB := aM (below_step (bG2 GE382 GE392) hb); have hcz36_0 : w35.cell? ⟨gb392, 0, none⟩ = some (.int .i64 1) := (blk_cell BK392.out 0).trans rfl; have hcz36_1 : w35.cell? ⟨gb392, 1, none⟩ = some (.int .i64 1) := (blk_cell BK392.out 1).trans rfl; have hcz36_2 : w35.cell? ⟨gb392, 2, none⟩ = some (.int .i64 0) := (blk_cell BK392.out 2).trans rfl; have hcz36_3 : w35.cell? ⟨gb392, 3, none⟩ = some (.int .i64 0) := (blk_cell BK392.out 3).trans rfl; have hcz36_4 : w35.cell? ⟨gb392, 4, none⟩ = some (.int .i64 0) := (blk_cell BK392.out 4).trans rfl; have hcz36_5 : w35.cell? ⟨gb392, 5, none⟩ = some (.int .i64 0) := (blk_cell BK392.out 5).trans rfl; have hcz36_6 : w35.cell? ⟨gb392, 6, none⟩ = some (.int .i64 0) := (blk_cell BK392.out 6).trans rfl; have hfz36_0 := blk_frozen BK392.out 0; have hfz36_1 := blk_frozen BK392.out 1; have hfz36_2 := blk_frozen BK392.out 2; have hfz36_3 := blk_frozen BK392.out 3; have hfz36_4 := blk_frozen BK392.out 4; have hfz36_5 := blk_frozen BK392.out 5; have hfz36_6 := blk_frozen BK392.out 6) | ((with_reducible refine gate_store (t := 23) (p := 15) rfl ?_); refine store_event (t := 23) (p := 15) (v := ?vo_w37) (w1 := (((((((w35.setCell ⟨gb392, 0, none⟩ (.int .i64 t395)).setCell ⟨gb392, 1, none⟩ (.int .i64 t396)).setCell ⟨gb392, 2, none⟩ (.int .i64 t397)).setCell ⟨gb392, 3, none⟩ (.int .i64 t398)).setCell ⟨gb392, 4, none⟩ (.int .i64 t399)).setCell ⟨gb392, 5, none⟩ (.int .i64 t400)).setCell ⟨gb392, 6, none⟩ (.int .i64 t401))) ?hg ?ho ?hn ?hr ?_; (case ho => rfl); (case hg => rfl); (case hn => rfl); (case hr => exact zz13); intro w37 hw; have n0_ : Aside0 (Kd.R k23 23 w37 w0.heap.size (fun k_ => (P6_ k_ ∨ w.heap.size ≤ k_) ∧ k_ ≠ gb392) (.slice Ao9 l6.length co9) l6) := ⟨(by rw [hw]; exact (by (with_reducible repeat (first | apply Kd.R_alloc | apply Kd.R_drewN | apply Kd.R_drew)); exact Kd.R_mono (Kd.R_far (p := ⟨gb392, 6, none⟩) (Kd.R_far (p := ⟨gb392, 5, none⟩) (Kd.R_far (p := ⟨gb392, 4, none⟩) (Kd.R_far (p := ⟨gb392, 3, none⟩) (Kd.R_far (p := ⟨gb392, 2, none⟩) (Kd.R_far (p := ⟨gb392, 1, none⟩) (Kd.R_far (p := ⟨gb392, 0, none⟩) (Kd.R_mono HO6.out (fun k_ hk => (⟨hk, hk.2⟩ : _ ∧ k_ ≠ gb392))) (fun _ hk => hk.2) (.int .i64 t395)) (fun _ hk => hk.2) (.int .i64 t396)) (fun _ hk => hk.2) (.int .i64 t397)) (fun _ hk => hk.2) (.int .i64 t398)) (fun _ hk => hk.2) (.int .i64 t399)) (fun _ hk => hk.2) (.int .i64 t400)) (fun _ hk => hk.2) (.int .i64 t401)) (fun _ hk => ⟨hk.1.1, hk.1.2⟩)))⟩; have n1_ : Aside0 (Kd.R k151 151 w37 w0.heap.size (fun k_ => (P6_ k_ ∨ w.heap.size ≤ k_)) (.slice Ao33 t387.length co33) t387) := ⟨(by rw [hw]; exact (by (with_reducible repeat (first | apply Kd.R_alloc | apply Kd.R_drewN | apply Kd.R_drew)); exact Kd.R_mono (Kd.R_far (p := ⟨gb392, 6, none⟩) (Kd.R_far (p := ⟨gb392, 5, none⟩) (Kd.R_far (p := ⟨gb392, 4, none⟩) (Kd.R_far (p := ⟨gb392, 3, none⟩) (Kd.R_far (p := ⟨gb392, 2, none⟩) (Kd.R_far (p := ⟨gb392, 1, none⟩) (Kd.R_far (p := ⟨gb392, 0, none⟩) (Kd.R_types HO391.out BK392.out (by decide)) (fun _ hk => hk.2) (.int .i64 t395)) (fun _ hk => hk.2) (.int .i64 t396)) (fun _ hk => hk.2) (.int .i64 t397)) (fun _ hk => hk.2) (.int .i64 t398)) (fun _ hk => hk.2) (.int .i64 t399)) (fun _ hk => hk.2) (.int .i64 t400)) (fun _ hk => hk.2) (.int .i64 t401)) (fun _ hk => hk.1)))⟩; have n2_ : Aside0 (w37.heap[gb382]? = some (.cells #[.slice A0 l0.length c0, .slice Ao9 l6.length co9] 98 (0, 0))) := ⟨(zz8 NB382_392.out BK382.out)⟩; have n3_ : Aside0 (w37.heap[gb392]? = some (.cells #[.int .i64 t395, .int .i64 t396, .int .i64 t397, .int .i64 t398, .int .i64 t399, .int .i64 t400, .int .i64 t401] 23 (0, 0))) := ⟨(by rw [hw]; exact (by (with_reducible repeat (first | refine blk_drewN ?_ _ | refine blk_drew ?_ | refine blk_alloc ?_ _)); refine blk_put (cs := #[.int .i64 t395, .int .i64 t396, .int .i64 t397, .int .i64 t398, .int .i64 t399, .int .i64 t400, .int .i64 0]) ?_ 6 _ rfl; (with_reducible repeat (first | refine blk_drewN ?_ _ | refine blk_drew ?_ | refine blk_alloc ?_ _)); refine blk_put (cs := #[.int .i64 t395, .int .i64 t396, .int .i64 t397, .int .i64 t398, .int .i64 t399, .int .i64 0, .int .i64 0]) ?_ 5 _ rfl; (with_reducible repeat (first | refine blk_drewN ?_ _ | refine blk_drew ?_ | refine blk_alloc ?_ _)); refine blk_put (cs := #[.int .i64 t395, .int .i64 t396, .int .i64 t397, .int .i64 t398, .int .i64 0, .int .i64 0, .int .i64 0]) ?_ 4 _ rfl; (with_reducible repeat (first | refine blk_drewN ?_ _ | refine blk_drew ?_ | refine blk_alloc ?_ _)); refine blk_put (cs := #[.int .i64 t395, .int .i64 t396, .int .i64 t397, .int .i64 0, .int .i64 0, .int .i64 0, .int .i64 0]) ?_ 3 _ rfl; (with_reducible repeat (first | refine blk_drewN ?_ _ | refine blk_drew ?_ | refine blk_alloc ?_ _)); refine blk_put (cs := #[.int .i64 t395, .int .i64 t396, .int .i64 0, .int .i64 0, .int .i64 0, .int .i64 0, .int .i64 0]) ?_ 2 _ rfl; (with_reducible repeat (first | refine blk_drewN ?_ _ | refine blk_drew ?_ | refine blk_alloc ?_ _)); refine blk_put (cs := #[.int .i64 t395, .int .i64 1, .int .i64 0, .int .i64 0, .int .i64 0, .int .i64 0, .int .i64 0]) ?_ 1 _ rfl; (with_reducible repeat (first | refine blk_drewN ?_ _ | refine blk_drew ?_ | refine blk_alloc ?_ _)); refine blk_put (cs := #[.int .i64 1, .int .i64 1, .int .i64 0, .int .i64 0, .int .i64 0, .int .i64 0, .int .i64 0]) ?_ 0 _ rfl; (with_reducible repeat (first | refine blk_drewN ?_ _ | refine blk_drew ?_ | refine blk_alloc ?_ _)); exact BK392.out))⟩; have n4_ : Aside0 (Kept w w37 (fun k_ => P6_ k_)) := ⟨(zz27 GW382.out GW392.out)⟩; have n5_ : Aside0 (Below w0.heap.size w0 w37) := ⟨zz63⟩; clear hw; clear HO6; clear HO391; clear BK382; clear BK392; clear HK; clear HB; have HO6 := n0_; have HO391 := n1_; have BK382 := n2_; have BK392 := n3_; have HK := n4_; have HB := n5_; clear n0_ n1_ n2_ n3_ n4_ n5_))
       go_meet
       case rel => exact ⟨_, (t393), (t395), (t396), (t397), (t398), (t399), (t400), (t401), bS, H', ⟨zz52⟩, ⟨bR HO391⟩, ⟨bR HO6⟩, ⟨bL BK382⟩, ⟨bL BK392⟩, ⟨zz4 GW382.out GW392.out⟩, ⟨bG2 GE382 GE392⟩⟩
      replace c28 := Bool.eq_false_iff.mpr c28
      subst c28
      have H1 : (impl_parser_part.j0 k a1 a2 a3 a4 a5 t387 t388 true (⟨#[]⟩ : ByteArray) l0 l6 1 1 0 0 0 0 0) = some r := zz15
      clear H
      have H := H1
      clear H1
      have H' := aM H
      clear H
      go_wp2_with (first | ((with_reducible refine gate_store (t := 23) (p := 15) rfl ?_); refine store_event (t := 23) (p := 15) (v := ?vo_w40) (w1 := (((((((w25.setCell ⟨gb392, 0, none⟩ (.int .i64 1)).setCell ⟨gb392, 1, none⟩ (.int .i64 1)).setCell ⟨gb392, 2, none⟩ (.int .i64 0)).setCell ⟨gb392, 3, none⟩ (.int .i64 0)).setCell ⟨gb392, 4, none⟩ (.int .i64 0)).setCell ⟨gb392, 5, none⟩ (.int .i64 0)).setCell ⟨gb392, 6, none⟩ (.int .i64 0))) ?hg ?ho ?hn ?hr ?_; (case ho => rfl); (case hg => rfl); (case hn => rfl); (case hr => exact zz13); intro w40 hw; have n0_ : Aside0 (Kd.R k23 23 w40 w0.heap.size (fun k_ => (P6_ k_ ∨ w.heap.size ≤ k_) ∧ k_ ≠ gb392) (.slice Ao9 l6.length co9) l6) := ⟨(by rw [hw]; exact (by (with_reducible repeat (first | apply Kd.R_alloc | apply Kd.R_drewN | apply Kd.R_drew)); exact Kd.R_mono (Kd.R_far (p := ⟨gb392, 6, none⟩) (Kd.R_far (p := ⟨gb392, 5, none⟩) (Kd.R_far (p := ⟨gb392, 4, none⟩) (Kd.R_far (p := ⟨gb392, 3, none⟩) (Kd.R_far (p := ⟨gb392, 2, none⟩) (Kd.R_far (p := ⟨gb392, 1, none⟩) (Kd.R_far (p := ⟨gb392, 0, none⟩) (Kd.R_mono HO6.out (fun k_ hk => (⟨hk, hk.2⟩ : _ ∧ k_ ≠ gb392))) (fun _ hk => hk.2) (.int .i64 1)) (fun _ hk => hk.2) (.int .i64 1)) (fun _ hk => hk.2) (.int .i64 0)) (fun _ hk => hk.2) (.int .i64 0)) (fun _ hk => hk.2) (.int .i64 0)) (fun _ hk => hk.2) (.int .i64 0)) (fun _ hk => hk.2) (.int .i64 0)) (fun _ hk => ⟨hk.1.1, hk.1.2⟩)))⟩; have n1_ : Aside0 (Kd.R k151 151 w40 w0.heap.size (fun k_ => (P6_ k_ ∨ w.heap.size ≤ k_)) v390 t387) := ⟨(by rw [hw]; exact (by (with_reducible repeat (first | apply Kd.R_alloc | apply Kd.R_drewN | apply Kd.R_drew)); exact Kd.R_mono (Kd.R_far (p := ⟨gb392, 6, none⟩) (Kd.R_far (p := ⟨gb392, 5, none⟩) (Kd.R_far (p := ⟨gb392, 4, none⟩) (Kd.R_far (p := ⟨gb392, 3, none⟩) (Kd.R_far (p := ⟨gb392, 2, none⟩) (Kd.R_far (p := ⟨gb392, 1, none⟩) (Kd.R_far (p := ⟨gb392, 0, none⟩) (Kd.R_types HO391.out BK392.out (by decide)) (fun _ hk => hk.2) (.int .i64 1)) (fun _ hk => hk.2) (.int .i64 1)) (fun _ hk => hk.2) (.int .i64 0)) (fun _ hk => hk.2) (.int .i64 0)) (fun _ hk => hk.2) (.int .i64 0)) (fun _ hk => hk.2) (.int .i64 0)) (fun _ hk => hk.2) (.int .i64 0)) (fun _ hk => hk.1)))⟩; have n2_ : Aside0 (w40.heap[gb382]? = some (.cells #[.slice A0 l0.length c0, .slice Ao9 l6.length co9] 98 (0, 0))) := ⟨(zz8 NB382_392.out BK382.out)⟩; have n3_ : Aside0 (w40.heap[gb392]? = some (.cells #[.int .i64 1, .int .i64 1, .int .i64 0, .int .i64 0, .int .i64 0, .int .i64 0, .int .i64 0] 23 (0, 0))) := ⟨(by rw [hw]; exact (by (with_reducible repeat (first | refine blk_drewN ?_ _ | refine blk_drew ?_ | refine blk_alloc ?_ _)); refine blk_put (cs := #[.int .i64 1, .int .i64 1, .int .i64 0, .int .i64 0, .int .i64 0, .int .i64 0, .int .i64 0]) ?_ 6 _ rfl; (with_reducible repeat (first | refine blk_drewN ?_ _ | refine blk_drew ?_ | refine blk_alloc ?_ _)); refine blk_put (cs := #[.int .i64 1, .int .i64 1, .int .i64 0, .int .i64 0, .int .i64 0, .int .i64 0, .int .i64 0]) ?_ 5 _ rfl; (with_reducible repeat (first | refine blk_drewN ?_ _ | refine blk_drew ?_ | refine blk_alloc ?_ _)); refine blk_put (cs := #[.int .i64 1, .int .i64 1, .int .i64 0, .int .i64 0, .int .i64 0, .int .i64 0, .int .i64 0]) ?_ 4 _ rfl; (with_reducible repeat (first | refine blk_drewN ?_ _ | refine blk_drew ?_ | refine blk_alloc ?_ _)); refine blk_put (cs := #[.int .i64 1, .int .i64 1, .int .i64 0, .int .i64 0, .int .i64 0, .int .i64 0, .int .i64 0]) ?_ 3 _ rfl; (with_reducible repeat (first | refine blk_drewN ?_ _ | refine blk_drew ?_ | refine blk_alloc ?_ _)); refine blk_put (cs := #[.int .i64 1, .int .i64 1, .int .i64 0, .int .i64 0, .int .i64 0, .int .i64 0, .int .i64 0]) ?_ 2 _ rfl; (with_reducible repeat (first | refine blk_drewN ?_ _ | refine blk_drew ?_ | refine blk_alloc ?_ _)); refine blk_put (cs := #[.int .i64 1, .int .i64 0, .int .i64 0, .int .i64 0, .int .i64 0, .int .i64 0, .int .i64 0]) ?_ 1 _ rfl; (with_reducible repeat (first | refine blk_drewN ?_ _ | refine blk_drew ?_ | refine blk_alloc ?_ _)); refine blk_put (cs := #[.int .i64 3, .int .i64 0, .int .i64 0, .int .i64 0, .int .i64 0, .int .i64 0, .int .i64 0]) ?_ 0 _ rfl; (with_reducible repeat (first | refine blk_drewN ?_ _ | refine blk_drew ?_ | refine blk_alloc ?_ _)); exact BK392.out))⟩; have n4_ : Aside0 (Kept w w40 (fun k_ => P6_ k_)) := ⟨(zz27 GW382.out GW392.out)⟩; have n5_ : Aside0 (Below w0.heap.size w0 w40) := ⟨zz63⟩; clear hw; clear HO6; clear HO391; clear BK382; clear BK392; clear HK; clear HB; have HO6 := n0_; have HO391 := n1_; have BK382 := n2_; have BK392 := n3_; have HK := n4_; have HB := n5_; clear n0_ n1_ n2_ n3_ n4_ n5_; obtain ⟨Ao41, co41, eo41⟩ := Kd.R_slice HO391.out; subst eo41) | ((with_reducible refine gate_callee (f := 109) rfl ?_); refine gL_ (some 49) Tryd.func109 #[.slice Ao41 t387.length co41, .string (⟨#[67, 111, 110, 116, 101, 110, 116, 45, 84, 121, 112, 101]⟩ : ByteArray)] ?_; (with_reducible refine (impl_fieldOf.calls k _ _ t387 (⟨#[67, 111, 110, 116, 101, 110, 116, 45, 84, 121, 112, 101]⟩ : ByteArray) t393 false _ ?side1 ?side2 A27.out).mono ?_); (case side1 => exact zz7 HO391.out); (case side2 => exact (Kd.R_reads' HO391.out).2.1); rintro e w42 ⟨rfl, hb⟩; refine ⟨_, rfl, ?_⟩; replace HO6 := aM (Kd.R_below (bR HO6) hb); replace HO391 := aM (Kd.R_below (bR HO391) hb); replace BK382 := aM (blk_below (g := gb382) (o := .cells #[.slice A0 l0.length c0, .slice Ao9 l6.length co9] 98 (0, 0)) (bL BK382) hb); replace BK392 := aM (blk_below (g := gb392) (o := .cells #[.int .i64 1, .int .i64 1, .int .i64 0, .int .i64 0, .int .i64 0, .int .i64 0, .int .i64 0] 23 (0, 0)) (bL BK392) hb); replace HK := aM (Kept.below (S := (fun k_ => P6_ k_)) (zz4 GW382.out GW392.out) hb); replace HB := aM (below_step (bG2 GE382 GE392) hb); (try clear hi)))
      go_meet
      case rel => exact ⟨_, ((⟨#[]⟩ : ByteArray)), (1), (1), (0), (0), (0), (0), (0), bS, H', ⟨zz52⟩, ⟨bR HO391⟩, ⟨bR HO6⟩, ⟨bL BK382⟩, ⟨bL BK392⟩, ⟨zz4 GW382.out GW392.out⟩, ⟨bG2 GE382 GE392⟩⟩
     replace c26 := Bool.eq_false_iff.mpr c26
     subst c26
     have H1 : (impl_parser_part.j0 k a1 a2 a3 a4 a5 t387 t388 false (⟨#[]⟩ : ByteArray) l0 l6 3 0 0 0 0 0 0) = some r := zz15
     clear H
     have H := H1
     clear H1
     have H' := aM H
     clear H
     go_wp2
     go_meet
     case rel => exact ⟨_, ((⟨#[]⟩ : ByteArray)), (3), (0), (0), (0), (0), (0), (0), bS, H', ⟨zz52⟩, ⟨bR HO391⟩, ⟨bR HO6⟩, ⟨bL BK382⟩, ⟨bL BK392⟩, ⟨zz4 GW382.out GW392.out⟩, ⟨bG2 GE382 GE392⟩⟩
    case rest =>
     clear HC16
     try clear c1
     try clear c2
     try clear p2
     try clear q2
     try clear c3
     try clear c8
     try clear c8b0
     try clear c8b1
     try clear c10
     try clear c12
     try clear c12b0
     try clear c12b1
     try clear c13
     try clear c13b0
     try clear c13b1
     try clear c14
     try clear c14b0
     try clear c14b1
     try clear c20
     try clear q20
     try clear c23
     try clear c26
     try clear c28
     try clear c30
     try clear c38
     try clear hcz11_0
     try clear hcz11_1
     try clear hcz11_0
     try clear hcz11_1
     try clear hcz24_0
     try clear hcz24_1
     try clear hcz24_2
     try clear hcz24_3
     try clear hcz24_4
     try clear hcz24_5
     try clear hcz24_6
     try clear hcz31_0
     try clear hcz31_1
     try clear hcz31_2
     try clear hcz31_3
     try clear hcz31_4
     try clear hcz31_5
     try clear hcz31_6
     try clear hcz36_0
     try clear hcz36_1
     try clear hcz36_2
     try clear hcz36_3
     try clear hcz36_4
     try clear hcz36_5
     try clear hcz36_6
     try clear hcz39_0
     try clear hcz39_1
     try clear hcz39_2
     try clear hcz39_3
     try clear hcz39_4
     try clear hcz39_5
     try clear hcz39_6
     try clear hfz11_0
     try clear hfz11_1
     try clear hfz11_0
     try clear hfz11_1
     try clear hfz24_0
     try clear hfz24_1
     try clear hfz24_2
     try clear hfz24_3
     try clear hfz24_4
     try clear hfz24_5
     try clear hfz24_6
     try clear hfz31_0
     try clear hfz31_1
     try clear hfz31_2
     try clear hfz31_3
     try clear hfz31_4
     try clear hfz31_5
     try clear hfz31_6
     try clear hfz36_0
     try clear hfz36_1
     try clear hfz36_2
     try clear hfz36_3
     try clear hfz36_4
     try clear hfz36_5
     try clear hfz36_6
     try clear hfz39_0
     try clear hfz39_1
     try clear hfz39_2
     try clear hfz39_3
     try clear hfz39_4
     try clear hfz39_5
     try clear hfz39_6
     try clear q020
     try clear q20
     obtain ⟨kq, x16_15, x393000_15, x393001_15, x393002_15, x393003_15, x393004_15, x393005_15, x393006_15, rfl, HA, HJ15, HO_12, HO_383001, BK382, BK392, HK, HB⟩ := hcut
     cases kq with
     | zero => exact absurd HA.out (by simp [impl_parser_part.j0])
     | succ kj15 =>
      have H := HA.out
      clear HA
      simp only [impl_parser_part.j0] at H
      have HC43 := aM H
      clear H
      have hnb44 := NB392_382.out
      have hnc44 := NB382_392.out
      have hcz45_0 : wc.cell? ⟨gb392, 0, none⟩ = some (.int .i64 x393000_15) := (blk_cell BK392.out 0).trans rfl
      have hcz45_1 : wc.cell? ⟨gb392, 1, none⟩ = some (.int .i64 x393001_15) := (blk_cell BK392.out 1).trans rfl
      have hcz45_2 : wc.cell? ⟨gb392, 2, none⟩ = some (.int .i64 x393002_15) := (blk_cell BK392.out 2).trans rfl
      have hcz45_3 : wc.cell? ⟨gb392, 3, none⟩ = some (.int .i64 x393003_15) := (blk_cell BK392.out 3).trans rfl
      have hcz45_4 : wc.cell? ⟨gb392, 4, none⟩ = some (.int .i64 x393004_15) := (blk_cell BK392.out 4).trans rfl
      have hcz45_5 : wc.cell? ⟨gb392, 5, none⟩ = some (.int .i64 x393005_15) := (blk_cell BK392.out 5).trans rfl
      have hcz45_6 : wc.cell? ⟨gb392, 6, none⟩ = some (.int .i64 x393006_15) := (blk_cell BK392.out 6).trans rfl
      have hfz45_0 := blk_frozen BK392.out 0
      have hfz45_1 := blk_frozen BK392.out 1
      have hfz45_2 := blk_frozen BK392.out 2
      have hfz45_3 := blk_frozen BK392.out 3
      have hfz45_4 := blk_frozen BK392.out 4
      have hfz45_5 := blk_frozen BK392.out 5
      have hfz45_6 := blk_frozen BK392.out 6
      go_upto_if 65 with (first | ((with_reducible refine gate_store (t := 2) (p := 64) rfl ?_); refine store_event (t := 2) (p := 64) (v := ?vo_w46) (w1 := (((((wc.setCell ⟨gb392, 2, none⟩ (.int .i64 1)).setCell ⟨gb392, 3, none⟩ (.int .i64 a1)).setCell ⟨gb392, 4, none⟩ (.int .i64 a2)).setCell ⟨gb392, 5, none⟩ (.int .i64 a3)).setCell ⟨gb392, 6, none⟩ (.int .i64 a4))) ?hg ?ho ?hn ?hr ?_; (case ho => rfl); (case hg => rfl); (case hn => rfl); (case hr => exact zz13); intro w46 hw; have n0_ : Aside0 (Kd.R k151 151 w46 w0.heap.size (fun k_ => (P6_ k_ ∨ w.heap.size ≤ k_)) v390 t387) := ⟨(by rw [hw]; exact (by (with_reducible repeat (first | apply Kd.R_alloc | apply Kd.R_drewN | apply Kd.R_drew)); exact Kd.R_mono (Kd.R_far (p := ⟨gb392, 6, none⟩) (Kd.R_far (p := ⟨gb392, 5, none⟩) (Kd.R_far (p := ⟨gb392, 4, none⟩) (Kd.R_far (p := ⟨gb392, 3, none⟩) (Kd.R_far (p := ⟨gb392, 2, none⟩) (Kd.R_types HO_12.out BK392.out (by decide)) (fun _ hk => hk.2) (.int .i64 1)) (fun _ hk => hk.2) (.int .i64 a1)) (fun _ hk => hk.2) (.int .i64 a2)) (fun _ hk => hk.2) (.int .i64 a3)) (fun _ hk => hk.2) (.int .i64 a4)) (fun _ hk => hk.1)))⟩; have n1_ : Aside0 (Kd.R k23 23 w46 w0.heap.size (fun k_ => (P6_ k_ ∨ w.heap.size ≤ k_) ∧ k_ ≠ gb392) (.slice Ao9 l6.length co9) l6) := ⟨(by rw [hw]; exact (by (with_reducible repeat (first | apply Kd.R_alloc | apply Kd.R_drewN | apply Kd.R_drew)); exact Kd.R_mono (Kd.R_far (p := ⟨gb392, 6, none⟩) (Kd.R_far (p := ⟨gb392, 5, none⟩) (Kd.R_far (p := ⟨gb392, 4, none⟩) (Kd.R_far (p := ⟨gb392, 3, none⟩) (Kd.R_far (p := ⟨gb392, 2, none⟩) (Kd.R_mono HO_383001.out (fun k_ hk => (⟨hk, hk.2⟩ : _ ∧ k_ ≠ gb392))) (fun _ hk => hk.2) (.int .i64 1)) (fun _ hk => hk.2) (.int .i64 a1)) (fun _ hk => hk.2) (.int .i64 a2)) (fun _ hk => hk.2) (.int .i64 a3)) (fun _ hk => hk.2) (.int .i64 a4)) (fun _ hk => ⟨hk.1.1, hk.1.2⟩)))⟩; have n2_ : Aside0 (w46.heap[gb382]? = some (.cells #[.slice A0 l0.length c0, .slice Ao9 l6.length co9] 98 (0, 0))) := ⟨(by rw [hw]; exact (by (with_reducible repeat (first | refine blk_drewN ?_ _ | refine blk_drew ?_ | refine blk_alloc ?_ _)); refine blk_far ?_ NB382_392.out _; (with_reducible repeat (first | refine blk_drewN ?_ _ | refine blk_drew ?_ | refine blk_alloc ?_ _)); refine blk_far ?_ NB382_392.out _; (with_reducible repeat (first | refine blk_drewN ?_ _ | refine blk_drew ?_ | refine blk_alloc ?_ _)); refine blk_far ?_ NB382_392.out _; (with_reducible repeat (first | refine blk_drewN ?_ _ | refine blk_drew ?_ | refine blk_alloc ?_ _)); refine blk_far ?_ NB382_392.out _; (with_reducible repeat (first | refine blk_drewN ?_ _ | refine blk_drew ?_ | refine blk_alloc ?_ _)); refine blk_far ?_ NB382_392.out _; (with_reducible repeat (first | refine blk_drewN ?_ _ | refine blk_drew ?_ | refine blk_alloc ?_ _)); exact BK382.out))⟩; have n3_ : Aside0 (w46.heap[gb392]? = some (.cells #[.int .i64 x393000_15, .int .i64 x393001_15, .int .i64 1, .int .i64 a1, .int .i64 a2, .int .i64 a3, .int .i64 a4] 23 (0, 0))) := ⟨(by rw [hw]; exact (by (with_reducible repeat (first | refine blk_drewN ?_ _ | refine blk_drew ?_ | refine blk_alloc ?_ _)); refine blk_put (cs := #[.int .i64 x393000_15, .int .i64 x393001_15, .int .i64 1, .int .i64 a1, .int .i64 a2, .int .i64 a3, .int .i64 x393006_15]) ?_ 6 _ rfl; (with_reducible repeat (first | refine blk_drewN ?_ _ | refine blk_drew ?_ | refine blk_alloc ?_ _)); refine blk_put (cs := #[.int .i64 x393000_15, .int .i64 x393001_15, .int .i64 1, .int .i64 a1, .int .i64 a2, .int .i64 x393005_15, .int .i64 x393006_15]) ?_ 5 _ rfl; (with_reducible repeat (first | refine blk_drewN ?_ _ | refine blk_drew ?_ | refine blk_alloc ?_ _)); refine blk_put (cs := #[.int .i64 x393000_15, .int .i64 x393001_15, .int .i64 1, .int .i64 a1, .int .i64 x393004_15, .int .i64 x393005_15, .int .i64 x393006_15]) ?_ 4 _ rfl; (with_reducible repeat (first | refine blk_drewN ?_ _ | refine blk_drew ?_ | refine blk_alloc ?_ _)); refine blk_put (cs := #[.int .i64 x393000_15, .int .i64 x393001_15, .int .i64 1, .int .i64 x393003_15, .int .i64 x393004_15, .int .i64 x393005_15, .int .i64 x393006_15]) ?_ 3 _ rfl; (with_reducible repeat (first | refine blk_drewN ?_ _ | refine blk_drew ?_ | refine blk_alloc ?_ _)); refine blk_put (cs := #[.int .i64 x393000_15, .int .i64 x393001_15, .int .i64 x393002_15, .int .i64 x393003_15, .int .i64 x393004_15, .int .i64 x393005_15, .int .i64 x393006_15]) ?_ 2 _ rfl; (with_reducible repeat (first | refine blk_drewN ?_ _ | refine blk_drew ?_ | refine blk_alloc ?_ _)); exact BK392.out))⟩; have n4_ : Aside0 (Kept w w46 (fun k_ => P6_ k_)) := ⟨(zz27 GW382.out GW392.out)⟩; have n5_ : Aside0 (Below w0.heap.size w0 w46) := ⟨zz63⟩; clear hw; clear HO_12; clear HO_383001; clear BK382; clear BK392; clear HK; clear HB; have HO_12 := n0_; have HO_383001 := n1_; have BK382 := n2_; have BK392 := n3_; have HK := n4_; have HB := n5_; clear n0_ n1_ n2_ n3_ n4_ n5_))
      (try simp only [Act.put, List.setIfInBounds_toArray, List.set_cons_zero, List.set_cons_succ])
      go_cut [] (fun wc => ∃ (kq : Nat) (x393002_42 : Int) (x393003_42 : Int), Aside0 (impl_parser_part.j1 kq a5 x16_15 l0 l6 x393000_15 x393001_15 x393002_42 x393003_42 a2 a3 a4 = some r) ∧ Aside0 (kq ≤ kj15) ∧ Aside0 (Kd.R k23 23 wc w0.heap.size (fun k_ => (P6_ k_ ∨ w.heap.size ≤ k_) ∧ k_ ≠ gb392) (.slice Ao9 l6.length co9) l6) ∧ Aside0 (wc.heap[gb382]? = some (.cells #[(.slice A0 l0.length c0), (.slice Ao9 l6.length co9)] 98 (0, 0))) ∧ Aside0 (wc.heap[gb392]? = some (.cells #[.int .i64 x393000_15, .int .i64 x393001_15, .int .i64 x393002_42, .int .i64 x393003_42, .int .i64 a2, .int .i64 a3, .int .i64 a4] 23 (0, 0))) ∧ Aside0 (Kept w wc (fun k_ => P6_ k_)) ∧ Aside0 (Below w0.heap.size w0 wc))
      case first =>
       have H := HC43.out
       clear HC43
       by_cases c47 : t389 = true
       ·subst c47
        have H1 : ((impl_fieldOf.f kj15 t387 (⟨#[67, 111, 110, 116, 101, 110, 116, 45, 84, 114, 97, 110, 115, 102, 101, 114, 45, 69, 110, 99, 111, 100, 105, 110, 103]⟩ : ByteArray)).bind fun bt402 => ((impl_codingOf.f kj15 bt402.1).bind fun t404 => (impl_parser_part.j1 kj15 a5 x16_15 l0 l6 x393000_15 x393001_15 t404 (wrap64 (a1 + t388)) a2 a3 a4))) = some r := zz29
        clear H
        have H := H1
        clear H1
        replace H := Option.bind_eq_some_iff.mp H
        obtain ⟨⟨t402, t403⟩, A480, H⟩ := H
        replace H : ((impl_codingOf.f kj15 t402).bind fun t404 => (impl_parser_part.j1 kj15 a5 x16_15 l0 l6 x393000_15 x393001_15 t404 (wrap64 (a1 + t388)) a2 a3 a4)) = some r := H
        have A48 := aM A480
        clear A480
        replace H := Option.bind_eq_some_iff.mp H
        obtain ⟨t404, A490, H⟩ := H
        replace H : (impl_parser_part.j1 kj15 a5 x16_15 l0 l6 x393000_15 x393001_15 t404 (wrap64 (a1 + t388)) a2 a3 a4) = some r := H
        have A49 := aM A490
        clear A490
        have H' := aM H
        clear H
        obtain ⟨Ao50, co50, eo50⟩ := Kd.R_slice HO_12.out
        subst eo50
        go_wp2_with (first | ((with_reducible refine gate_callee (f := 109) rfl ?_); refine gL_ (some 68) Tryd.func109 #[.slice Ao50 t387.length co50, .string (⟨#[67, 111, 110, 116, 101, 110, 116, 45, 84, 114, 97, 110, 115, 102, 101, 114, 45, 69, 110, 99, 111, 100, 105, 110, 103]⟩ : ByteArray)] ?_; (with_reducible refine (impl_fieldOf.calls kj15 _ _ t387 (⟨#[67, 111, 110, 116, 101, 110, 116, 45, 84, 114, 97, 110, 115, 102, 101, 114, 45, 69, 110, 99, 111, 100, 105, 110, 103]⟩ : ByteArray) t402 t403 _ ?side1 ?side2 A48.out).mono ?_); (case side1 => exact zz7 HO_12.out); (case side2 => exact (Kd.R_reads' HO_12.out).2.1); rintro e w51 ⟨rfl, hb⟩; refine ⟨_, rfl, ?_⟩; replace HO_12 := aM (Kd.R_below (bR HO_12) hb); replace HO_383001 := aM (Kd.R_below (bR HO_383001) hb); replace BK382 := aM (blk_below (g := gb382) (o := .cells #[.slice A0 l0.length c0, .slice Ao9 l6.length co9] 98 (0, 0)) (bL BK382) hb); replace BK392 := aM (blk_below (g := gb392) (o := .cells #[.int .i64 x393000_15, .int .i64 x393001_15, .int .i64 1, .int .i64 a1, .int .i64 a2, .int .i64 a3, .int .i64 a4] 23 (0, 0)) (bL BK392) hb); replace HK := aM (Kept.below (S := (fun k_ => P6_ k_)) (zz4 GW382.out GW392.out) hb); replace HB := aM (below_step (bG2 GE382 GE392) hb); (try clear hi)) | ((with_reducible refine gate_callee (f := 110) rfl ?_); refine gL_ (some 72) Tryd.func110 #[.string t402] ?_; (with_reducible refine (impl_codingOf.calls kj15 t402 t404 _ A49.out).mono ?_); rintro e w52 ⟨rfl, hb⟩; refine ⟨_, rfl, ?_⟩; replace HO_12 := aM (Kd.R_below (bR HO_12) hb); replace HO_383001 := aM (Kd.R_below (bR HO_383001) hb); replace BK382 := aM (blk_below (g := gb382) (o := .cells #[.slice A0 l0.length c0, .slice Ao9 l6.length co9] 98 (0, 0)) (bL BK382) hb); replace BK392 := aM (blk_below (g := gb392) (o := .cells #[.int .i64 x393000_15, .int .i64 x393001_15, .int .i64 1, .int .i64 a1, .int .i64 a2, .int .i64 a3, .int .i64 a4] 23 (0, 0)) (bL BK392) hb); replace HK := aM (Kept.below (S := (fun k_ => P6_ k_)) (zz4 GW382.out GW392.out) hb); replace HB := aM (below_step (bG2 GE382 GE392) hb); have hnb53 := NB392_382.out; have hnc53 := NB382_392.out; have hcz54_0 : w52.cell? ⟨gb392, 0, none⟩ = some (.int .i64 x393000_15) := (blk_cell BK392.out 0).trans rfl; have hcz54_1 : w52.cell? ⟨gb392, 1, none⟩ = some (.int .i64 x393001_15) := (blk_cell BK392.out 1).trans rfl; have hcz54_2 : w52.cell? ⟨gb392, 2, none⟩ = some (.int .i64 1) := (blk_cell BK392.out 2).trans rfl; have hcz54_3 : w52.cell? ⟨gb392, 3, none⟩ = some (.int .i64 a1) := (blk_cell BK392.out 3).trans rfl; have hcz54_4 : w52.cell? ⟨gb392, 4, none⟩ = some (.int .i64 a2) := (blk_cell BK392.out 4).trans rfl; have hcz54_5 : w52.cell? ⟨gb392, 5, none⟩ = some (.int .i64 a3) := (blk_cell BK392.out 5).trans rfl; have hcz54_6 : w52.cell? ⟨gb392, 6, none⟩ = some (.int .i64 a4) := (blk_cell BK392.out 6).trans rfl; have hfz54_0 := blk_frozen BK392.out 0; have hfz54_1 := blk_frozen BK392.out 1; have hfz54_2 := blk_frozen BK392.out 2; have hfz54_3 := blk_frozen BK392.out 3; have hfz54_4 := blk_frozen BK392.out 4; have hfz54_5 := blk_frozen BK392.out 5; have hfz54_6 := blk_frozen BK392.out 6))
        go_meet
        case rel => exact ⟨_, (t404), (wrap64 (a1 + t388)), H', ⟨zz45 HJ15.out⟩, ⟨by (with_reducible repeat (first | apply Kd.R_alloc | apply Kd.R_drewN | apply Kd.R_drew)); exact Kd.R_mono (Kd.R_far (p := ⟨gb392, 3, none⟩) (Kd.R_far (p := ⟨gb392, 2, none⟩) (Kd.R_mono HO_383001.out (fun k_ hk => (⟨hk, hk.2⟩ : _ ∧ k_ ≠ gb392))) (fun _ hk => hk.2) (.int .i64 t404)) (fun _ hk => hk.2) (.int .i64 (wrap64 (a1 + t388)))) (fun _ hk => ⟨hk.1.1, hk.1.2⟩)⟩, ⟨zz19 NB382_392.out BK382.out⟩, ⟨by (with_reducible repeat (first | refine blk_drewN ?_ _ | refine blk_drew ?_ | refine blk_alloc ?_ _)); refine blk_put (cs := #[.int .i64 x393000_15, .int .i64 x393001_15, .int .i64 t404, .int .i64 a1, .int .i64 a2, .int .i64 a3, .int .i64 a4]) ?_ 3 _ rfl; (with_reducible repeat (first | refine blk_drewN ?_ _ | refine blk_drew ?_ | refine blk_alloc ?_ _)); refine blk_put (cs := #[.int .i64 x393000_15, .int .i64 x393001_15, .int .i64 1, .int .i64 a1, .int .i64 a2, .int .i64 a3, .int .i64 a4]) ?_ 2 _ rfl; (with_reducible repeat (first | refine blk_drewN ?_ _ | refine blk_drew ?_ | refine blk_alloc ?_ _)); exact BK392.out⟩, ⟨zz4 GW382.out GW392.out⟩, ⟨bG2 GE382 GE392⟩⟩
       replace c47 := Bool.eq_false_iff.mpr c47
       subst c47
       have H1 : (impl_parser_part.j1 kj15 a5 x16_15 l0 l6 x393000_15 x393001_15 1 a1 a2 a3 a4) = some r := zz15
       clear H
       have H := H1
       clear H1
       have H' := aM H
       clear H
       go_wp2
       go_meet
       case rel => exact ⟨_, (1), (a1), H', ⟨zz45 HJ15.out⟩, ⟨bR HO_383001⟩, ⟨bL BK382⟩, ⟨bL BK392⟩, ⟨zz4 GW382.out GW392.out⟩, ⟨bG2 GE382 GE392⟩⟩
      case rest =>
       clear HC43
       try clear c1
       try clear c2
       try clear p2
       try clear q2
       try clear c3
       try clear c4
       try clear c5
       try clear p6
       try clear c8
       try clear c8b0
       try clear c8b1
       try clear c10
       try clear c11
       try clear c12
       try clear c12b0
       try clear c12b1
       try clear c13
       try clear c13b0
       try clear c13b1
       try clear c14
       try clear c14b0
       try clear c14b1
       try clear c20
       try clear q20
       try clear c23
       try clear c26
       try clear c28
       try clear c30
       try clear c38
       try clear c44
       try clear c47
       try clear c53
       try clear hcz11_0
       try clear hcz11_1
       try clear hcz11_0
       try clear hcz11_1
       try clear hcz24_0
       try clear hcz24_1
       try clear hcz24_2
       try clear hcz24_3
       try clear hcz24_4
       try clear hcz24_5
       try clear hcz24_6
       try clear hcz31_0
       try clear hcz31_1
       try clear hcz31_2
       try clear hcz31_3
       try clear hcz31_4
       try clear hcz31_5
       try clear hcz31_6
       try clear hcz36_0
       try clear hcz36_1
       try clear hcz36_2
       try clear hcz36_3
       try clear hcz36_4
       try clear hcz36_5
       try clear hcz36_6
       try clear hcz39_0
       try clear hcz39_1
       try clear hcz39_2
       try clear hcz39_3
       try clear hcz39_4
       try clear hcz39_5
       try clear hcz39_6
       try clear hcz45_0
       try clear hcz45_1
       try clear hcz45_2
       try clear hcz45_3
       try clear hcz45_4
       try clear hcz45_5
       try clear hcz45_6
       try clear hcz54_0
       try clear hcz54_1
       try clear hcz54_2
       try clear hcz54_3
       try clear hcz54_4
       try clear hcz54_5
       try clear hcz54_6
       try clear hfz11_0
       try clear hfz11_1
       try clear hfz11_0
       try clear hfz11_1
       try clear hfz24_0
       try clear hfz24_1
       try clear hfz24_2
       try clear hfz24_3
       try clear hfz24_4
       try clear hfz24_5
       try clear hfz24_6
       try clear hfz31_0
       try clear hfz31_1
       try clear hfz31_2
       try clear hfz31_3
       try clear hfz31_4
       try clear hfz31_5
       try clear hfz31_6
       try clear hfz36_0
       try clear hfz36_1
       try clear hfz36_2
       try clear hfz36_3
       try clear hfz36_4
       try clear hfz36_5
       try clear hfz36_6
       try clear hfz39_0
       try clear hfz39_1
       try clear hfz39_2
       try clear hfz39_3
       try clear hfz39_4
       try clear hfz39_5
       try clear hfz39_6
       try clear hfz45_0
       try clear hfz45_1
       try clear hfz45_2
       try clear hfz45_3
       try clear hfz45_4
       try clear hfz45_5
       try clear hfz45_6
       try clear hfz54_0
       try clear hfz54_1
       try clear hfz54_2
       try clear hfz54_3
       try clear hfz54_4
       try clear hfz54_5
       try clear hfz54_6
       try clear p2
       try clear q020
       try clear q2
       try clear q20
       obtain ⟨kq, x393002_42, x393003_42, HA, HJ42, HO_383001, BK382, BK392, HK, HB⟩ := hcut
       cases kq with
       | zero => exact absurd HA.out (by simp [impl_parser_part.j1])
       | succ kj42 =>
        have H := HA.out
        clear HA
        simp only [impl_parser_part.j1] at H
        by_cases c55 : l6.length < 2513169434916
        ·rw [if_pos c55] at H
         have LMc55 := aM c55
         clear c55
         obtain ⟨y405, hy405⟩ : ∃ y_ : List (S23), y_ = (l6 ++ [(⟨x393000_15, x393001_15, x393002_42, x393003_42, a2, a3, a4⟩ : S23)]) := ⟨_, rfl⟩
         replace H : (if x393000_15 = 2 then (impl_parser_part.j2 kj42 a5 x16_15 (decide ((wrap64 (a5 + 1)) ≥ 3)) l0 y405 x393000_15 x393001_15 x393002_42 x393003_42 a2 a3 a4) else (impl_parser_part.j2 kj42 a5 x16_15 true l0 y405 x393000_15 x393001_15 x393002_42 x393003_42 a2 a3 a4)) = some r := zz2 hy405
         have Ny405 := aM hy405
         clear hy405
         have HC56 := aM H
         clear H
         try go_wp2
         replace HO_383001 := aM (Kd.R_drew HO_383001.out)
         replace BK382 := aM (blk_drew BK382.out)
         replace BK392 := aM (blk_drew BK392.out)
         replace HK := aM (Kept.drew HK.out)
         replace HB := aM (below_drew1 HB.out)
         refine start_ (n := 11) (S := fun w' => w'.cell? ⟨gb382, 0, none⟩ = some (.slice A0 l0.length c0) ∧ w'.cell? ⟨gb382, 1, none⟩ = some (.slice Ao9 l6.length co9) ∧ w'.cell? ⟨gb392, 0, none⟩ = some (.int .i64 x393000_15) ∧ w'.cell? ⟨gb392, 1, none⟩ = some (.int .i64 x393001_15) ∧ w'.cell? ⟨gb392, 2, none⟩ = some (.int .i64 x393002_42) ∧ w'.cell? ⟨gb392, 3, none⟩ = some (.int .i64 x393003_42) ∧ w'.cell? ⟨gb392, 4, none⟩ = some (.int .i64 a2) ∧ w'.cell? ⟨gb392, 5, none⟩ = some (.int .i64 a3) ∧ w'.cell? ⟨gb392, 6, none⟩ = some (.int .i64 a4)) (ds := [10]) (bsA 11 0) (by kernel_rfl) rfl rfl ⟨(blk_cell BK382.out 0).trans rfl, (blk_cell BK382.out 1).trans rfl, (blk_cell BK392.out 0).trans rfl, (blk_cell BK392.out 1).trans rfl, (blk_cell BK392.out 2).trans rfl, (blk_cell BK392.out 3).trans rfl, (blk_cell BK392.out 4).trans rfl, (blk_cell BK392.out 5).trans rfl, (blk_cell BK392.out 6).trans rfl⟩ (fun hHeld => ?_); refine with_tabW impl_parser_part.tab12 impl_parser_part.bits12 (fun HT_ HW_ => ?_)
         generalize wc.drew = w57 at HO_383001 BK382 BK392 HK HB hHeld ⊢
         refine pa_ (i := 0) (N := some 78) (bsA 11 1) (h := ?_)
         refine pa_ (i := 1) (N := some 79) (bsA 11 3) (h := ?_)
         refine pa_ (i := 2) (N := some 80) (bsA 11 7) (h := ?_)
         refine pa_ (i := 3) (N := some 81) (bsA 11 15) (h := ?_)
         refine take_ (i := 4) (N := some 82) (v := ?_) (a' := ?_) (bsA 11 31) rfl rfl (take_ofW HT_.out HW_.out (by kernel_rfl)) (fun _ _ _ h => h) (Or.inl ⟨by rfl, ?_⟩) hHeld ?_ ?_
         rotate_left
         ·rintro w' ⟨s0, s1, s2, s3, s4, s5, s6, s7, s8⟩
          go_simp
          with_reducible rfl
         rotate_left
         ·simp only [Act.put, List.setIfInBounds_toArray, List.set_cons_zero, List.set_cons_succ, i64_w, i32_w]
          rfl
         refine take_ (i := 5) (N := some 83) (v := ?_) (a' := ?_) (bsA 11 63) rfl rfl (take_ofW HT_.out HW_.out (by kernel_rfl)) (fun _ _ _ h => h) (Or.inl ⟨by rfl, ?_⟩) hHeld ?_ ?_
         rotate_left
         ·rintro w' ⟨s0, s1, s2, s3, s4, s5, s6, s7, s8⟩
          go_simp
          with_reducible rfl
         rotate_left
         ·simp only [Act.put, List.setIfInBounds_toArray, List.set_cons_zero, List.set_cons_succ, i64_w, i32_w]
          rfl
         refine one_ (i := 6) (N := some 84) (bsA 11 127) rfl rfl (one_of HT_.out (by kernel_rfl)) (by decide) (fun K hK => ?_)
         refine value_ (w1 := ?_) (v := ?_) (by rfl) rfl ?_ ?_
         rotate_left 2
         ·go_simp
          constructor
          ·rfl
          rfl
         refine hK.out _ _ ⟨(blk_cell (blk_alloc BK382.out _) 0).trans rfl, (blk_cell (blk_alloc BK382.out _) 1).trans rfl, (blk_cell (blk_alloc BK392.out _) 0).trans rfl, (blk_cell (blk_alloc BK392.out _) 1).trans rfl, (blk_cell (blk_alloc BK392.out _) 2).trans rfl, (blk_cell (blk_alloc BK392.out _) 3).trans rfl, (blk_cell (blk_alloc BK392.out _) 4).trans rfl, (blk_cell (blk_alloc BK392.out _) 5).trans rfl, (blk_cell (blk_alloc BK392.out _) 6).trans rfl⟩ (fun hHeld => ?_)
         clear hK K
         refine na_ (N := some 84) (h := ?_)
         refine one_ (i := 7) (N := some 85) (bsA 11 255) rfl rfl (one_of HT_.out (by kernel_rfl)) (by decide) (fun K hK => ?_)
         refine Kd.R_append_step k23 (w0 := w0) w0.heap.size (by rfl) (.tmp 82) (.tmp 84) 50 23 (.agg #[(.int .i64 0), (.int .i64 0), (.int .i64 0), (.int .i64 0), (.int .i64 0), (.int .i64 0), (.int .i64 0)]) 56 rfl Tryd.underlying50 info23 rfl (by decide) (by omega) (.slice Ao9 l6.length co9) l6 (⟨x393000_15, x393001_15, x393002_42, x393003_42, a2, a3, a4⟩ : S23) [.int .i64 x393000_15, .int .i64 x393001_15, .int .i64 x393002_42, .int .i64 x393003_42, .int .i64 a2, .int .i64 a3, .int .i64 a4] (fun k_ => (P6_ k_ ∨ w.heap.size ≤ k_) ∧ k_ ≠ gb392) (fun _ => False) rfl rfl ?aP (fun _ hk => hk.elim) ?aF ?aO ?aB ?aS ?aL ?_
         (case aP => exact k23_mkM _ _ _ (⟨x393000_15, x393001_15, x393002_42, x393003_42, a2, a3, a4⟩ : S23))
         (case aB => exact (bG2 GE382 GE392))
         (case aF => exact (fun k_ hk => ⟨(.inr (Nat.le_trans (zz33 GW382.out GW392.out) hk)), Kd.freshB (g := gb392) (o := .cells #[.int .i64 x393000_15, .int .i64 x393001_15, .int .i64 x393002_42, .int .i64 x393003_42, .int .i64 a2, .int .i64 a3, .int .i64 a4] 23 (0, 0)) (bL BK392) k_ hk⟩))
         (case aO => exact (bR HO_383001))
         (case aS => exact (below_size (bG2 GE382 GE392)))
         (case aL => have := LMc55.out; omega)
         intro v406 w58 ho hb hg hat
         rw [← Ny405.out] at ho
         have n0_ := aM (blk_grown (g := gb382) (o := .cells #[.slice A0 l0.length c0, .slice Ao9 l6.length co9] 98 (0, 0)) (bL BK382) hg (Kd.R_ne HO_383001.out BK382.out (by decide)))
         have n1_ := aM (blk_grown (g := gb392) (o := .cells #[.int .i64 x393000_15, .int .i64 x393001_15, .int .i64 x393002_42, .int .i64 x393003_42, .int .i64 a2, .int .i64 a3, .int .i64 a4] 23 (0, 0)) (bL BK392) hg (Kd.R_away HO_383001.out (fun _ hk => hk.2)))
         have n2_ := aM (hb)
         have n3_ := aM (Kept.of_grown (S := (fun k_ => P6_ k_)) hg (zz4 GW382.out GW392.out) (fun k_ e_ => (HO_383001.out.1 k_ e_).1))
         have n4_ := aM (ho)
         clear BK382
         clear BK392
         clear HB
         clear HK
         clear HO_383001
         have BK382 := n0_
         have BK392 := n1_
         have HB := n2_
         have HK := n3_
         have HO407 := n4_
         clear n0_ n1_ n2_ n3_ n4_
         clear ho hb hg hat
         obtain ⟨Ao59, co59, eo59⟩ := Kd.R_slice HO407.out
         (first | subst eo59 | (injection eo59 with f1_ f2_ f3_; have f4_ := f1_.symm; have f5_ := f3_.symm; clear f1_ f2_ f3_; subst f4_; subst f5_))
         refine hK.out _ _ ⟨(blk_cell BK382.out 0).trans rfl, (blk_cell BK382.out 1).trans rfl, (blk_cell BK392.out 0).trans rfl, (blk_cell BK392.out 1).trans rfl, (blk_cell BK392.out 2).trans rfl, (blk_cell BK392.out 3).trans rfl, (blk_cell BK392.out 4).trans rfl, (blk_cell BK392.out 5).trans rfl, (blk_cell BK392.out 6).trans rfl⟩ (fun hHeld => ?_)
         clear hK K
         refine na_ (N := some 85) (h := ?_)
         refine pa_ (i := 8) (N := some 86) (bsA 11 511) (h := ?_)
         refine pa_ (i := 9) (N := some 87) (bsA 11 1023) (h := ?_)
         refine last_ (i := 10) (N := none) (bsA 11 2047) rfl rfl (one_of HT_.out (by kernel_rfl)) (by decide) (fun K hK => ?_)
         have hs60 : w58.cell? ⟨gb382, 1, none⟩ = some (.slice Ao9 l6.length co9) := (blk_cell BK382.out 1).trans rfl
         have hfs60 := blk_frozen BK382.out 1
         have hns60_1 := NB392_382.out
         have hms60_1 := NB382_392.out
         refine skip_ (w1 := ?_) (by rfl) rfl ?_ ?_
         rotate_left
         ·go_simp
          rfl
         refine hK.out _ _ ?_
         clear hK K
         refine done_ (done_of HT_.out (by kernel_rfl)) ?_
         go_upto_region 13 with (fail)
         go_cut [95] (fun v95 wc => ∃ (kq : Nat) (x95_55 : Bool), v95 = .bool x95_55 ∧ Aside0 (impl_parser_part.j2 kq a5 x16_15 x95_55 l0 y405 x393000_15 x393001_15 x393002_42 x393003_42 a2 a3 a4 = some r) ∧ Aside0 (kq ≤ kj42) ∧ Aside0 (Kd.R k23 23 wc w0.heap.size (fun k_ => (P6_ k_ ∨ w.heap.size ≤ k_) ∧ k_ ≠ gb392) (.slice Ao59 y405.length co59) y405) ∧ Aside0 (wc.heap[gb382]? = some (.cells #[(.slice A0 l0.length c0), (.slice Ao59 y405.length co59)] 98 (0, 0))) ∧ Aside0 (wc.heap[gb392]? = some (.cells #[.int .i64 x393000_15, .int .i64 x393001_15, .int .i64 x393002_42, .int .i64 x393003_42, .int .i64 a2, .int .i64 a3, .int .i64 a4] 23 (0, 0))) ∧ Aside0 (Kept w wc (fun k_ => P6_ k_)) ∧ Aside0 (Below w0.heap.size w0 wc))
         case first =>
          have H := HC56.out
          clear HC56
          by_cases c61 : x393000_15 = 2
          ·rw [if_pos c61] at H
           have c61b0 : (x393000_15 == 2) = true := beq_iff_eq.mpr c61
           have c61b1 : (x393000_15 != 2) = false := bne_eq_false_iff_eq.mpr c61
           clear c61
           (first | rw [c61b0] | (simp only [i64_w, i32_w]; rw [c61b0]) | skip)
           have H' := aM H
           clear H
           have hnb62 := NB392_382.out
           have hnc62 := NB382_392.out
           have hcz63_0 : w58.cell? ⟨gb392, 0, none⟩ = some (.int .i64 x393000_15) := (blk_cell BK392.out 0).trans rfl
           have hcz63_1 : w58.cell? ⟨gb392, 1, none⟩ = some (.int .i64 x393001_15) := (blk_cell BK392.out 1).trans rfl
           have hcz63_2 : w58.cell? ⟨gb392, 2, none⟩ = some (.int .i64 x393002_42) := (blk_cell BK392.out 2).trans rfl
           have hcz63_3 : w58.cell? ⟨gb392, 3, none⟩ = some (.int .i64 x393003_42) := (blk_cell BK392.out 3).trans rfl
           have hcz63_4 : w58.cell? ⟨gb392, 4, none⟩ = some (.int .i64 a2) := (blk_cell BK392.out 4).trans rfl
           have hcz63_5 : w58.cell? ⟨gb392, 5, none⟩ = some (.int .i64 a3) := (blk_cell BK392.out 5).trans rfl
           have hcz63_6 : w58.cell? ⟨gb392, 6, none⟩ = some (.int .i64 a4) := (blk_cell BK392.out 6).trans rfl
           have hfz63_0 := blk_frozen BK392.out 0
           have hfz63_1 := blk_frozen BK392.out 1
           have hfz63_2 := blk_frozen BK392.out 2
           have hfz63_3 := blk_frozen BK392.out 3
           have hfz63_4 := blk_frozen BK392.out 4
           have hfz63_5 := blk_frozen BK392.out 5
           have hfz63_6 := blk_frozen BK392.out 6
           go_wp2
           go_meet
           case rel => exact ⟨_, (decide ((wrap64 (a5 + 1)) ≥ 3)), bS, H', ⟨zz54 HJ15.out HJ42.out⟩, ⟨by (with_reducible repeat (first | apply Kd.R_alloc | apply Kd.R_drewN | apply Kd.R_drew)); exact Kd.R_mono (Kd.R_far (p := ⟨gb382, 1, none⟩) (Kd.R_types HO407.out BK382.out (by decide)) (fun _ hk => hk.2) (.slice Ao59 y405.length co59)) (fun _ hk => ⟨hk.1.1, hk.1.2⟩)⟩, ⟨by (with_reducible repeat (first | refine blk_drewN ?_ _ | refine blk_drew ?_ | refine blk_alloc ?_ _)); refine blk_put (cs := #[.slice A0 l0.length c0, .slice Ao9 l6.length co9]) ?_ 1 _ rfl; (with_reducible repeat (first | refine blk_drewN ?_ _ | refine blk_drew ?_ | refine blk_alloc ?_ _)); exact BK382.out⟩, ⟨zz14 NB392_382.out BK392.out⟩, ⟨zz4 GW382.out GW392.out⟩, ⟨bG2 GE382 GE392⟩⟩
          rw [if_neg c61] at H
          have c61b0 : (x393000_15 == 2) = false := beq_eq_false_iff_ne.mpr c61
          have c61b1 : (x393000_15 != 2) = true := bne_iff_ne.mpr c61
          (first | rw [c61b0] | (simp only [i64_w, i32_w]; rw [c61b0]) | skip)
          have H' := aM H
          clear H
          have hnb64 := NB392_382.out
          have hnc64 := NB382_392.out
          have hcz65_0 : w58.cell? ⟨gb392, 0, none⟩ = some (.int .i64 x393000_15) := (blk_cell BK392.out 0).trans rfl
          have hcz65_1 : w58.cell? ⟨gb392, 1, none⟩ = some (.int .i64 x393001_15) := (blk_cell BK392.out 1).trans rfl
          have hcz65_2 : w58.cell? ⟨gb392, 2, none⟩ = some (.int .i64 x393002_42) := (blk_cell BK392.out 2).trans rfl
          have hcz65_3 : w58.cell? ⟨gb392, 3, none⟩ = some (.int .i64 x393003_42) := (blk_cell BK392.out 3).trans rfl
          have hcz65_4 : w58.cell? ⟨gb392, 4, none⟩ = some (.int .i64 a2) := (blk_cell BK392.out 4).trans rfl
          have hcz65_5 : w58.cell? ⟨gb392, 5, none⟩ = some (.int .i64 a3) := (blk_cell BK392.out 5).trans rfl
          have hcz65_6 : w58.cell? ⟨gb392, 6, none⟩ = some (.int .i64 a4) := (blk_cell BK392.out 6).trans rfl
          have hfz65_0 := blk_frozen BK392.out 0
          have hfz65_1 := blk_frozen BK392.out 1
          have hfz65_2 := blk_frozen BK392.out 2
          have hfz65_3 := blk_frozen BK392.out 3
          have hfz65_4 := blk_frozen BK392.out 4
          have hfz65_5 := blk_frozen BK392.out 5
          have hfz65_6 := blk_frozen BK392.out 6
          go_wp2
          go_meet
          case rel => exact ⟨_, (true), bS, H', ⟨zz54 HJ15.out HJ42.out⟩, ⟨by (with_reducible repeat (first | apply Kd.R_alloc | apply Kd.R_drewN | apply Kd.R_drew)); exact Kd.R_mono (Kd.R_far (p := ⟨gb382, 1, none⟩) (Kd.R_types HO407.out BK382.out (by decide)) (fun _ hk => hk.2) (.slice Ao59 y405.length co59)) (fun _ hk => ⟨hk.1.1, hk.1.2⟩)⟩, ⟨by (with_reducible repeat (first | refine blk_drewN ?_ _ | refine blk_drew ?_ | refine blk_alloc ?_ _)); refine blk_put (cs := #[.slice A0 l0.length c0, .slice Ao9 l6.length co9]) ?_ 1 _ rfl; (with_reducible repeat (first | refine blk_drewN ?_ _ | refine blk_drew ?_ | refine blk_alloc ?_ _)); exact BK382.out⟩, ⟨zz14 NB392_382.out BK392.out⟩, ⟨zz4 GW382.out GW392.out⟩, ⟨bG2 GE382 GE392⟩⟩
         case rest =>
          clear HC56
          try clear c1
          try clear c2
          try clear p2
          try clear q2
          try clear c3
          try clear c4
          try clear c5
          try clear c6
          try clear p6
          try clear c8
          try clear c8b0
          try clear c8b1
          try clear c10
          try clear c11
          try clear c12
          try clear c12b0
          try clear c12b1
          try clear c13
          try clear c13b0
          try clear c13b1
          try clear c14
          try clear c14b0
          try clear c14b1
          try clear c20
          try clear q20
          try clear c23
          try clear c26
          try clear c28
          try clear c30
          try clear c38
          try clear c44
          try clear c47
          try clear c53
          try clear c55
          try clear c61
          try clear c61b0
          try clear c61b1
          try clear c62
          try clear c64
          try clear p64
          try clear hcz11_0
          try clear hcz11_1
          try clear hcz11_0
          try clear hcz11_1
          try clear hcz24_0
          try clear hcz24_1
          try clear hcz24_2
          try clear hcz24_3
          try clear hcz24_4
          try clear hcz24_5
          try clear hcz24_6
          try clear hcz31_0
          try clear hcz31_1
          try clear hcz31_2
          try clear hcz31_3
          try clear hcz31_4
          try clear hcz31_5
          try clear hcz31_6
          try clear hcz36_0
          try clear hcz36_1
          try clear hcz36_2
          try clear hcz36_3
          try clear hcz36_4
          try clear hcz36_5
          try clear hcz36_6
          try clear hcz39_0
          try clear hcz39_1
          try clear hcz39_2
          try clear hcz39_3
          try clear hcz39_4
          try clear hcz39_5
          try clear hcz39_6
          try clear hcz45_0
          try clear hcz45_1
          try clear hcz45_2
          try clear hcz45_3
          try clear hcz45_4
          try clear hcz45_5
          try clear hcz45_6
          try clear hcz54_0
          try clear hcz54_1
          try clear hcz54_2
          try clear hcz54_3
          try clear hcz54_4
          try clear hcz54_5
          try clear hcz54_6
          try clear hcz63_0
          try clear hcz63_1
          try clear hcz63_2
          try clear hcz63_3
          try clear hcz63_4
          try clear hcz63_5
          try clear hcz63_6
          try clear hcz65_0
          try clear hcz65_1
          try clear hcz65_2
          try clear hcz65_3
          try clear hcz65_4
          try clear hcz65_5
          try clear hcz65_6
          try clear hfz11_0
          try clear hfz11_1
          try clear hfz11_0
          try clear hfz11_1
          try clear hfz24_0
          try clear hfz24_1
          try clear hfz24_2
          try clear hfz24_3
          try clear hfz24_4
          try clear hfz24_5
          try clear hfz24_6
          try clear hfz31_0
          try clear hfz31_1
          try clear hfz31_2
          try clear hfz31_3
          try clear hfz31_4
          try clear hfz31_5
          try clear hfz31_6
          try clear hfz36_0
          try clear hfz36_1
          try clear hfz36_2
          try clear hfz36_3
          try clear hfz36_4
          try clear hfz36_5
          try clear hfz36_6
          try clear hfz39_0
          try clear hfz39_1
          try clear hfz39_2
          try clear hfz39_3
          try clear hfz39_4
          try clear hfz39_5
          try clear hfz39_6
          try clear hfz45_0
          try clear hfz45_1
          try clear hfz45_2
          try clear hfz45_3
          try clear hfz45_4
          try clear hfz45_5
          try clear hfz45_6
          try clear hfz54_0
          try clear hfz54_1
          try clear hfz54_2
          try clear hfz54_3
          try clear hfz54_4
          try clear hfz54_5
          try clear hfz54_6
          try clear hfz63_0
          try clear hfz63_1
          try clear hfz63_2
          try clear hfz63_3
          try clear hfz63_4
          try clear hfz63_5
          try clear hfz63_6
          try clear hfz65_0
          try clear hfz65_1
          try clear hfz65_2
          try clear hfz65_3
          try clear hfz65_4
          try clear hfz65_5
          try clear hfz65_6
          try clear p2
          try clear p6
          try clear q020
          try clear q2
          try clear q20
          obtain ⟨kq, x95_55, rfl, HA, HJ55, HO_383001, BK382, BK392, HK, HB⟩ := hcut
          cases kq with
          | zero => exact absurd HA.out (by simp [impl_parser_part.j2])
          | succ kj55 =>
           have H := HA.out
           clear HA
           simp only [impl_parser_part.j2] at H
           by_cases c66 : x95_55 = true
           ·subst c66
            have H1 : (some y405) = some r := zz29
            clear H
            have H := H1
            clear H1
            obtain rfl := Option.some.inj H
            have hnb67 := NB382_392.out
            have hnc67 := NB392_382.out
            have hcz68_0 : wc.cell? ⟨gb382, 0, none⟩ = some (.slice A0 l0.length c0) := (blk_cell BK382.out 0).trans rfl
            have hcz68_1 : wc.cell? ⟨gb382, 1, none⟩ = some (.slice Ao59 y405.length co59) := (blk_cell BK382.out 1).trans rfl
            have hfz68_0 := blk_frozen BK382.out 0
            have hfz68_1 := blk_frozen BK382.out 1
            go_wp2
            (try simp only [Exit.inBlock, Exit.then])
            first | refine bodyPost_ret (results_none rfl _ _ _) rfl ?_ | refine bodyPost_end (results_none rfl _ _ _) rfl ?_
            exact ⟨rfl, _, bL BK382, zz26 HO_383001.out, bG2 GE382 GE392, zz4 GW382.out GW392.out⟩
           replace c66 := Bool.eq_false_iff.mpr c66
           subst c66
           have H1 : ((impl_parameter.f kj55 x16_15 (⟨#[98, 111, 117, 110, 100, 97, 114, 121, 61]⟩ : ByteArray)).bind fun bt408 => (if bt408.2 = true then ((impl_within.f (bt408.1.size : Int) 1 20).bind fun t410 => (impl_parser_part.j3 kj55 a5 bt408.1 (!t410) l0 y405 x393000_15 x393001_15 x393002_42 x393003_42 a2 a3 a4)) else (impl_parser_part.j3 kj55 a5 bt408.1 true l0 y405 x393000_15 x393001_15 x393002_42 x393003_42 a2 a3 a4))) = some r := zz15
           clear H
           have H := H1
           clear H1
           replace H := Option.bind_eq_some_iff.mp H
           obtain ⟨⟨t408, t409⟩, A690, H⟩ := H
           replace H : (if t409 = true then ((impl_within.f (t408.size : Int) 1 20).bind fun t410 => (impl_parser_part.j3 kj55 a5 t408 (!t410) l0 y405 x393000_15 x393001_15 x393002_42 x393003_42 a2 a3 a4)) else (impl_parser_part.j3 kj55 a5 t408 true l0 y405 x393000_15 x393001_15 x393002_42 x393003_42 a2 a3 a4)) = some r := H
           have A69 := aM A690
           clear A690
           have HC70 := aM H
           clear H
           go_upto_region 15 with (first | ((with_reducible refine gate_callee (f := 44) rfl ?_); refine gL_ (some 98) Tryd.func44 #[.string x16_15, .string (⟨#[98, 111, 117, 110, 100, 97, 114, 121, 61]⟩ : ByteArray)] ?_; (with_reducible refine (impl_parameter.calls kj55 x16_15 (⟨#[98, 111, 117, 110, 100, 97, 114, 121, 61]⟩ : ByteArray) t408 t409 _ A69.out).mono ?_); rintro e w71 ⟨rfl, hb⟩; refine ⟨_, rfl, ?_⟩; replace HO_383001 := aM (Kd.R_below (bR HO_383001) hb); replace BK382 := aM (blk_below (g := gb382) (o := .cells #[.slice A0 l0.length c0, .slice Ao59 y405.length co59] 98 (0, 0)) (bL BK382) hb); replace BK392 := aM (blk_below (g := gb392) (o := .cells #[.int .i64 x393000_15, .int .i64 x393001_15, .int .i64 x393002_42, .int .i64 x393003_42, .int .i64 a2, .int .i64 a3, .int .i64 a4] 23 (0, 0)) (bL BK392) hb); replace HK := aM (Kept.below (S := (fun k_ => P6_ k_)) (zz4 GW382.out GW392.out) hb); replace HB := aM (below_step (bG2 GE382 GE392) hb); (try clear hi)))
           (try simp only [Act.put, List.setIfInBounds_toArray, List.set_cons_zero, List.set_cons_succ])
           go_cut [108] (fun v108 wc => ∃ (kq : Nat) (x108_69 : Bool), v108 = .bool x108_69 ∧ Aside0 (impl_parser_part.j3 kq a5 t408 x108_69 l0 y405 x393000_15 x393001_15 x393002_42 x393003_42 a2 a3 a4 = some r) ∧ Aside0 (kq ≤ kj55) ∧ Aside0 (Kd.R k23 23 wc w0.heap.size (fun k_ => (P6_ k_ ∨ w.heap.size ≤ k_) ∧ k_ ≠ gb392) (.slice Ao59 y405.length co59) y405) ∧ Aside0 (wc.heap[gb382]? = some (.cells #[(.slice A0 l0.length c0), (.slice Ao59 y405.length co59)] 98 (0, 0))) ∧ Aside0 (wc.heap[gb392]? = some (.cells #[.int .i64 x393000_15, .int .i64 x393001_15, .int .i64 x393002_42, .int .i64 x393003_42, .int .i64 a2, .int .i64 a3, .int .i64 a4] 23 (0, 0))) ∧ Aside0 (Kept w wc (fun k_ => P6_ k_)) ∧ Aside0 (Below w0.heap.size w0 wc))
           case first =>
            have H := HC70.out
            clear HC70
            by_cases c72 : t409 = true
            ·subst c72
             have H1 : ((impl_within.f (t408.size : Int) 1 20).bind fun t410 => (impl_parser_part.j3 kj55 a5 t408 (!t410) l0 y405 x393000_15 x393001_15 x393002_42 x393003_42 a2 a3 a4)) = some r := zz29
             clear H
             have H := H1
             clear H1
             replace H := Option.bind_eq_some_iff.mp H
             obtain ⟨t410, A730, H⟩ := H
             replace H : (impl_parser_part.j3 kj55 a5 t408 (!t410) l0 y405 x393000_15 x393001_15 x393002_42 x393003_42 a2 a3 a4) = some r := H
             have A73 := aM A730
             clear A730
             have H' := aM H
             clear H
             go_wp2_with (first | (go_at_call 84; (with_reducible refine (impl_within.calls (t408.size : Int) 1 20 t410 _ A73.out).mono ?_); rintro e w' ⟨rfl, ⟨nd, rfl⟩⟩))
             go_meet
             case rel => exact ⟨_, (!t410), bS, H', ⟨by have := HJ15.out; have := HJ42.out; have := HJ55.out; first | omega | exact Nat.le_refl _⟩, ⟨bR HO_383001⟩, ⟨bL BK382⟩, ⟨bL BK392⟩, ⟨zz4 GW382.out GW392.out⟩, ⟨bG2 GE382 GE392⟩⟩
            replace c72 := Bool.eq_false_iff.mpr c72
            subst c72
            have H1 : (impl_parser_part.j3 kj55 a5 t408 true l0 y405 x393000_15 x393001_15 x393002_42 x393003_42 a2 a3 a4) = some r := zz15
            clear H
            have H := H1
            clear H1
            have H' := aM H
            clear H
            go_wp2
            go_meet
            case rel => exact ⟨_, (true), bS, H', ⟨by have := HJ15.out; have := HJ42.out; have := HJ55.out; first | omega | exact Nat.le_refl _⟩, ⟨bR HO_383001⟩, ⟨bL BK382⟩, ⟨bL BK392⟩, ⟨zz4 GW382.out GW392.out⟩, ⟨bG2 GE382 GE392⟩⟩
           case rest =>
            clear HC70
            try clear c1
            try clear c2
            try clear p2
            try clear q2
            try clear c3
            try clear c4
            try clear c5
            try clear c6
            try clear p6
            try clear c7
            try clear c8
            try clear c8b0
            try clear c8b1
            try clear c10
            try clear c11
            try clear c12
            try clear c12b0
            try clear c12b1
            try clear c13
            try clear c13b0
            try clear c13b1
            try clear c14
            try clear c14b0
            try clear c14b1
            try clear c20
            try clear q20
            try clear c23
            try clear c26
            try clear c28
            try clear c30
            try clear c38
            try clear c44
            try clear c47
            try clear c53
            try clear c55
            try clear c61
            try clear c61b0
            try clear c61b1
            try clear c62
            try clear c64
            try clear p64
            try clear c66
            try clear c67
            try clear c72
            try clear hcz11_0
            try clear hcz11_1
            try clear hcz11_0
            try clear hcz11_1
            try clear hcz24_0
            try clear hcz24_1
            try clear hcz24_2
            try clear hcz24_3
            try clear hcz24_4
            try clear hcz24_5
            try clear hcz24_6
            try clear hcz31_0
            try clear hcz31_1
            try clear hcz31_2
            try clear hcz31_3
            try clear hcz31_4
            try clear hcz31_5
            try clear hcz31_6
            try clear hcz36_0
            try clear hcz36_1
            try clear hcz36_2
            try clear hcz36_3
            try clear hcz36_4
            try clear hcz36_5
            try clear hcz36_6
            try clear hcz39_0
            try clear hcz39_1
            try clear hcz39_2
            try clear hcz39_3
            try clear hcz39_4
            try clear hcz39_5
            try clear hcz39_6
            try clear hcz45_0
            try clear hcz45_1
            try clear hcz45_2
            try clear hcz45_3
            try clear hcz45_4
            try clear hcz45_5
            try clear hcz45_6
            try clear hcz54_0
            try clear hcz54_1
            try clear hcz54_2
            try clear hcz54_3
            try clear hcz54_4
            try clear hcz54_5
            try clear hcz54_6
            try clear hcz63_0
            try clear hcz63_1
            try clear hcz63_2
            try clear hcz63_3
            try clear hcz63_4
            try clear hcz63_5
            try clear hcz63_6
            try clear hcz65_0
            try clear hcz65_1
            try clear hcz65_2
            try clear hcz65_3
            try clear hcz65_4
            try clear hcz65_5
            try clear hcz65_6
            try clear hcz68_0
            try clear hcz68_1
            try clear hfz11_0
            try clear hfz11_1
            try clear hfz11_0
            try clear hfz11_1
            try clear hfz24_0
            try clear hfz24_1
            try clear hfz24_2
            try clear hfz24_3
            try clear hfz24_4
            try clear hfz24_5
            try clear hfz24_6
            try clear hfz31_0
            try clear hfz31_1
            try clear hfz31_2
            try clear hfz31_3
            try clear hfz31_4
            try clear hfz31_5
            try clear hfz31_6
            try clear hfz36_0
            try clear hfz36_1
            try clear hfz36_2
            try clear hfz36_3
            try clear hfz36_4
            try clear hfz36_5
            try clear hfz36_6
            try clear hfz39_0
            try clear hfz39_1
            try clear hfz39_2
            try clear hfz39_3
            try clear hfz39_4
            try clear hfz39_5
            try clear hfz39_6
            try clear hfz45_0
            try clear hfz45_1
            try clear hfz45_2
            try clear hfz45_3
            try clear hfz45_4
            try clear hfz45_5
            try clear hfz45_6
            try clear hfz54_0
            try clear hfz54_1
            try clear hfz54_2
            try clear hfz54_3
            try clear hfz54_4
            try clear hfz54_5
            try clear hfz54_6
            try clear hfz63_0
            try clear hfz63_1
            try clear hfz63_2
            try clear hfz63_3
            try clear hfz63_4
            try clear hfz63_5
            try clear hfz63_6
            try clear hfz65_0
            try clear hfz65_1
            try clear hfz65_2
            try clear hfz65_3
            try clear hfz65_4
            try clear hfz65_5
            try clear hfz65_6
            try clear hfz68_0
            try clear hfz68_1
            try clear p2
            try clear p6
            try clear p64
            try clear q020
            try clear q2
            try clear q20
            obtain ⟨kq, x108_69, rfl, HA, HJ69, HO_383001, BK382, BK392, HK, HB⟩ := hcut
            cases kq with
            | zero => exact absurd HA.out (by simp [impl_parser_part.j3])
            | succ kj69 =>
             have H := HA.out
             clear HA
             simp only [impl_parser_part.j3] at H
             have HQ_ := aM H
             clear H
             have hnb75 := NB382_392.out
             have hnc75 := NB392_382.out
             have hcz76_0 : wc.cell? ⟨gb382, 0, none⟩ = some (.slice A0 l0.length c0) := (blk_cell BK382.out 0).trans rfl
             have hcz76_1 : wc.cell? ⟨gb382, 1, none⟩ = some (.slice Ao59 y405.length co59) := (blk_cell BK382.out 1).trans rfl
             have hfz76_0 := blk_frozen BK382.out 0
             have hfz76_1 := blk_frozen BK382.out 1
             have H := HQ_.out
             clear HQ_
             by_cases c74 : x108_69 = true
             ·subst c74
              have H1 : (some y405) = some r := zz29
              clear H
              have H := H1
              clear H1
              obtain rfl := Option.some.inj H
              go_wp2
              (try simp only [Exit.inBlock, Exit.then])
              first | refine bodyPost_ret (results_none rfl _ _ _) rfl ?_ | refine bodyPost_end (results_none rfl _ _ _) rfl ?_
              exact ⟨rfl, _, bL BK382, zz26 HO_383001.out, bG2 GE382 GE392, zz4 GW382.out GW392.out⟩
             replace c74 := Bool.eq_false_iff.mpr c74
             subst c74
             have H1 : ((impl_Part_85.f y405).bind fun t411 => ((impl_parser_marked.f kj69 l0 x393003_42 a2 t408).bind fun t412 => (impl_parser_part.l0 kj69 a5 (wrap64 (t411 - 1)) t412 (t412.length : Int) 0 l0 y405))) = some r := zz15
             clear H
             have H := H1
             clear H1
             replace H := Option.bind_eq_some_iff.mp H
             obtain ⟨t411, A770, H⟩ := H
             replace H : ((impl_parser_marked.f kj69 l0 x393003_42 a2 t408).bind fun t412 => (impl_parser_part.l0 kj69 a5 (wrap64 (t411 - 1)) t412 (t412.length : Int) 0 l0 y405)) = some r := H
             have A77 := aM A770
             clear A770
             replace H := Option.bind_eq_some_iff.mp H
             obtain ⟨t412, A780, H⟩ := H
             replace H : (impl_parser_part.l0 kj69 a5 (wrap64 (t411 - 1)) t412 (t412.length : Int) 0 l0 y405) = some r := H
             have A78 := aM A780
             clear A780
             have H' := aM H
             clear H
             go_wp2_with (first | ((with_reducible refine gate_callee (f := 85) rfl ?_); refine gL_ (some 113) Tryd.func85 #[.slice Ao59 y405.length co59] ?_; (with_reducible refine (impl_Part_85.calls _ _ y405 t411 _ ?side1 ?side2 A77.out).mono ?_); (case side1 => exact zz7 HO_383001.out); (case side2 => exact (Kd.R_reads' HO_383001.out).2.1); rintro e w' ⟨rfl, ⟨nd, rfl⟩⟩; refine ⟨_, rfl, ?_⟩; have hcz81_0 : wc.cell? ⟨gb392, 0, none⟩ = some (.int .i64 x393000_15) := (blk_cell BK392.out 0).trans rfl; have hcz81_1 : wc.cell? ⟨gb392, 1, none⟩ = some (.int .i64 x393001_15) := (blk_cell BK392.out 1).trans rfl; have hcz81_2 : wc.cell? ⟨gb392, 2, none⟩ = some (.int .i64 x393002_42) := (blk_cell BK392.out 2).trans rfl; have hcz81_3 : wc.cell? ⟨gb392, 3, none⟩ = some (.int .i64 x393003_42) := (blk_cell BK392.out 3).trans rfl; have hcz81_4 : wc.cell? ⟨gb392, 4, none⟩ = some (.int .i64 a2) := (blk_cell BK392.out 4).trans rfl; have hcz81_5 : wc.cell? ⟨gb392, 5, none⟩ = some (.int .i64 a3) := (blk_cell BK392.out 5).trans rfl; have hcz81_6 : wc.cell? ⟨gb392, 6, none⟩ = some (.int .i64 a4) := (blk_cell BK392.out 6).trans rfl; have hfz81_0 := blk_frozen BK392.out 0; have hfz81_1 := blk_frozen BK392.out 1; have hfz81_2 := blk_frozen BK392.out 2; have hfz81_3 := blk_frozen BK392.out 3; have hfz81_4 := blk_frozen BK392.out 4; have hfz81_5 := blk_frozen BK392.out 5; have hfz81_6 := blk_frozen BK392.out 6) | ((with_reducible refine gate_callee (f := 111) rfl ?_); refine gL_ (some 121) Tryd.func111 #[.pointer (some ⟨gb382, 0, none⟩), .int .i64 x393003_42, .int .i64 a2, .string t408] ?_; (with_reducible refine (impl_parser_marked.calls kj69 A0 c0 l0 x393003_42 a2 t408 t412 _ gb382 ?sideg ?side1 ?side2 A78.out).mono ?_); (case sideg => refine (blk_cell (g := gb382) (cs := #[.slice A0 l0.length c0, .slice Ao59 y405.length co59]) (t := 98) ?_ 0).trans rfl; (with_reducible repeat (first | refine blk_drewN ?_ _ | refine blk_drew ?_ | refine blk_alloc ?_ _)); exact BK382.out); (case side1 => exact Kd.C_kept_now HR0.out (zz4 GW382.out GW392.out)); (case side2 => exact HC0.out); rintro e w82 ⟨v413, rfl, ho0, hb⟩; refine ⟨_, rfl, ?_⟩; replace HO_383001 := aM (Kd.R_below (bR HO_383001) hb); have HO414 := aM (Kd.R_lower (Kd.R_newM (M := fun k_ => (P6_ k_ ∨ w.heap.size ≤ k_)) ho0 (zz33 GW382.out GW392.out) (fun k_ h_ => .inr h_)) (below_size (bG2 GE382 GE392))); replace BK382 := aM (blk_below (g := gb382) (o := .cells #[.slice A0 l0.length c0, .slice Ao59 y405.length co59] 98 (0, 0)) (bL BK382) hb); replace BK392 := aM (blk_below (g := gb392) (o := .cells #[.int .i64 x393000_15, .int .i64 x393001_15, .int .i64 x393002_42, .int .i64 x393003_42, .int .i64 a2, .int .i64 a3, .int .i64 a4] 23 (0, 0)) (bL BK392) hb); replace HK := aM (Kept.below (S := (fun k_ => P6_ k_)) (zz4 GW382.out GW392.out) hb); replace HB := aM (below_step (bG2 GE382 GE392) hb); (try clear ho0); obtain ⟨Ao83, co83, eo83⟩ := Kd.R_slice HO414.out; subst eo83))
             go_loopg [123] kj69 (fun kq v123 w' => ∃ (x123_5 : Int) (x383001_5 : List (S23)) (u383001 : Value), v123 = .int .i64 x123_5 ∧ Aside0 (impl_parser_part.l0 kq a5 (wrap64 (t411 - 1)) t412 (t412.length : Int) x123_5 l0 x383001_5 = some r) ∧ Aside0 (kq ≤ kj69) ∧ Aside0 (Kd.R k134 134 w' w0.heap.size (fun k_ => (P6_ k_ ∨ w.heap.size ≤ k_)) (.slice Ao83 t412.length co83) t412) ∧ Aside0 (Kd.R k23 23 w' w0.heap.size (fun k_ => (P6_ k_ ∨ w.heap.size ≤ k_) ∧ k_ ≠ gb392) u383001 x383001_5) ∧ Aside0 (w'.heap[gb382]? = some (.cells #[(.slice A0 l0.length c0), u383001] 98 (0, 0))) ∧ Aside0 (w'.heap[gb392]? = some (.cells #[.int .i64 x393000_15, .int .i64 x393001_15, .int .i64 x393002_42, .int .i64 x393003_42, .int .i64 a2, .int .i64 a3, .int .i64 a4] 23 (0, 0))) ∧ Aside0 (Kept w w' (fun k_ => P6_ k_)) ∧ Aside0 (Below w0.heap.size w0 w'))
             case atStart => exact ⟨(0), (y405), (.slice Ao59 y405.length co59), bS, H', ⟨Nat.le_refl _⟩, ⟨zz26 HO414.out⟩, ⟨bR HO_383001⟩, ⟨bL BK382⟩, ⟨bL BK392⟩, ⟨zz4 GW382.out GW392.out⟩, ⟨bG2 GE382 GE392⟩⟩
             case round =>
              clear H'
              try clear c1
              try clear c2
              try clear p2
              try clear q2
              try clear c3
              try clear c4
              try clear c5
              try clear c6
              try clear p6
              try clear c7
              try clear c8
              try clear c8b0
              try clear c8b1
              try clear c10
              try clear c11
              try clear c12
              try clear c12b0
              try clear c12b1
              try clear c13
              try clear c13b0
              try clear c13b1
              try clear c14
              try clear c14b0
              try clear c14b1
              try clear c20
              try clear q20
              try clear c23
              try clear c26
              try clear c28
              try clear c30
              try clear c38
              try clear c44
              try clear c47
              try clear c53
              try clear c55
              try clear c61
              try clear c61b0
              try clear c61b1
              try clear c62
              try clear c64
              try clear p64
              try clear c66
              try clear c67
              try clear c72
              try clear c74
              try clear c75
              try clear c79
              try clear hcz11_0
              try clear hcz11_1
              try clear hcz11_0
              try clear hcz11_1
              try clear hcz24_0
              try clear hcz24_1
              try clear hcz24_2
              try clear hcz24_3
              try clear hcz24_4
              try clear hcz24_5
              try clear hcz24_6
              try clear hcz31_0
              try clear hcz31_1
              try clear hcz31_2
              try clear hcz31_3
              try clear hcz31_4
              try clear hcz31_5
              try clear hcz31_6
              try clear hcz36_0
              try clear hcz36_1
              try clear hcz36_2
              try clear hcz36_3
              try clear hcz36_4
              try clear hcz36_5
              try clear hcz36_6
              try clear hcz39_0
              try clear hcz39_1
              try clear hcz39_2
              try clear hcz39_3
              try clear hcz39_4
              try clear hcz39_5
              try clear hcz39_6
              try clear hcz45_0
              try clear hcz45_1
              try clear hcz45_2
              try clear hcz45_3
              try clear hcz45_4
              try clear hcz45_5
              try clear hcz45_6
              try clear hcz54_0
              try clear hcz54_1
              try clear hcz54_2
              try clear hcz54_3
              try clear hcz54_4
              try clear hcz54_5
              try clear hcz54_6
              try clear hcz63_0
              try clear hcz63_1
              try clear hcz63_2
              try clear hcz63_3
              try clear hcz63_4
              try clear hcz63_5
              try clear hcz63_6
              try clear hcz65_0
              try clear hcz65_1
              try clear hcz65_2
              try clear hcz65_3
              try clear hcz65_4
              try clear hcz65_5
              try clear hcz65_6
              try clear hcz68_0
              try clear hcz68_1
              try clear hcz76_0
              try clear hcz76_1
              try clear hcz76_0
              try clear hcz76_1
              try clear hcz81_0
              try clear hcz81_1
              try clear hcz81_2
              try clear hcz81_3
              try clear hcz81_4
              try clear hcz81_5
              try clear hcz81_6
              try clear hfz11_0
              try clear hfz11_1
              try clear hfz11_0
              try clear hfz11_1
              try clear hfz24_0
              try clear hfz24_1
              try clear hfz24_2
              try clear hfz24_3
              try clear hfz24_4
              try clear hfz24_5
              try clear hfz24_6
              try clear hfz31_0
              try clear hfz31_1
              try clear hfz31_2
              try clear hfz31_3
              try clear hfz31_4
              try clear hfz31_5
              try clear hfz31_6
              try clear hfz36_0
              try clear hfz36_1
              try clear hfz36_2
              try clear hfz36_3
              try clear hfz36_4
              try clear hfz36_5
              try clear hfz36_6
              try clear hfz39_0
              try clear hfz39_1
              try clear hfz39_2
              try clear hfz39_3
              try clear hfz39_4
              try clear hfz39_5
              try clear hfz39_6
              try clear hfz45_0
              try clear hfz45_1
              try clear hfz45_2
              try clear hfz45_3
              try clear hfz45_4
              try clear hfz45_5
              try clear hfz45_6
              try clear hfz54_0
              try clear hfz54_1
              try clear hfz54_2
              try clear hfz54_3
              try clear hfz54_4
              try clear hfz54_5
              try clear hfz54_6
              try clear hfz63_0
              try clear hfz63_1
              try clear hfz63_2
              try clear hfz63_3
              try clear hfz63_4
              try clear hfz63_5
              try clear hfz63_6
              try clear hfz65_0
              try clear hfz65_1
              try clear hfz65_2
              try clear hfz65_3
              try clear hfz65_4
              try clear hfz65_5
              try clear hfz65_6
              try clear hfz68_0
              try clear hfz68_1
              try clear hfz76_0
              try clear hfz76_1
              try clear hfz76_0
              try clear hfz76_1
              try clear hfz81_0
              try clear hfz81_1
              try clear hfz81_2
              try clear hfz81_3
              try clear hfz81_4
              try clear hfz81_5
              try clear hfz81_6
              try clear p2
              try clear p6
              try clear p64
              try clear q020
              try clear q2
              try clear q20
              obtain ⟨x123_5, x383001_5, u383001, rfl, HA, HK5, HO_121, HO_383001, BK382, BK392, HK, HB⟩ := hrel
              cases gk with
              | zero => exact absurd HA.out (by simp [impl_parser_part.l0])
              | succ k5 =>
               have H := HA.out
               clear HA
               simp only [impl_parser_part.l0] at H
               by_cases c84 : x123_5 < (t412.length : Int)
               ·rw [if_pos c84] at H
                have c84b0 : decide (x123_5 < (t412.length : Int)) = true := decide_eq_true c84
                clear c84
                by_cases c85 : 0 ≤ x123_5
                ·rw [if_pos c85] at H
                 have c85b0 : decide (0 ≤ x123_5) = true := decide_eq_true c85
                 clear c85
                 by_cases c86 : x123_5 < (t412.length : Int)
                 ·rw [if_pos c86] at H
                  have c86b0 : decide (x123_5 < (t412.length : Int)) = true := decide_eq_true c86
                  clear c86
                  replace H := Option.bind_eq_some_iff.mp H
                  obtain ⟨t417, A870, H⟩ := H
                  replace H : (impl_parser_part.l0 k5 a5 (wrap64 (t411 - 1)) t412 (t412.length : Int) (wrap64 (x123_5 + 1)) l0 t417) = some r := H
                  have A87 := aM A870
                  clear A870
                  have H' := aM H
                  clear H
                  have p415 : 0 ≤ (x123_5 : Int) := pI
                  have q415 : x123_5 < (t412.length : Int) := pI
                  obtain ⟨ad415, e415, hx415_0, hx415_1⟩ := at_T134 (Kd.R_reads' HO_121.out).2.2 x123_5 p415 q415
                  cases e415
                  replace p415 := eq_true p415
                  replace q415 := eq_true q415
                  go_wp2_with (first | ((with_reducible refine gate_dst (N := 25) rfl ?_); (try (refine gate_guard (by rfl) ?_; dsimp only)); refine box_event ?hg (N := 25) ?hd (cs := #[.int .i64 0, .int .i64 0]) (t := 134) ?hr ?_; (case hd => rfl); (case hg => rfl); (case hr => exact zz13); intro gb416 hg w88 hbox hb; replace HO_121 := aM (Kd.R_below (Kd.R_elderB (bR HO_121) gb416 (Nat.le_of_eq hg.symm)) hb); replace HO_383001 := aM (Kd.R_below (bR HO_383001) hb); have BK416 := aM (hbox); have GW416 := aM ((by rw [hg]; exact (zz33 GW382.out GW392.out) : w.heap.size ≤ gb416)); replace HK := aM (Kept.below (S := (fun k_ => P6_ k_)) (zz4 GW382.out GW392.out) hb); have GE416 := aM ((by rw [hg]; exact (below_size (bG2 GE382 GE392)) : w0.heap.size ≤ gb416)); replace HB := aM (below_step (bG2 GE382 GE392) hb); have NB382_416 := aM ((by rw [hg]; exact Nat.ne_of_lt (blk_lt (g := gb382) (o := .cells #[.slice A0 l0.length c0, u383001] 98 (0, 0)) (bL BK382)) : gb382 ≠ gb416)); have NB416_382 := aM ((by rw [hg]; exact Nat.ne_of_gt (blk_lt (g := gb382) (o := .cells #[.slice A0 l0.length c0, u383001] 98 (0, 0)) (bL BK382)) : gb416 ≠ gb382)); replace BK382 := aM (blk_below (g := gb382) (o := .cells #[.slice A0 l0.length c0, u383001] 98 (0, 0)) (bL BK382) hb); have NB392_416 := aM ((by rw [hg]; exact Nat.ne_of_lt (blk_lt (g := gb392) (o := .cells #[.int .i64 x393000_15, .int .i64 x393001_15, .int .i64 x393002_42, .int .i64 x393003_42, .int .i64 a2, .int .i64 a3, .int .i64 a4] 23 (0, 0)) (bL BK392)) : gb392 ≠ gb416)); have NB416_392 := aM ((by rw [hg]; exact Nat.ne_of_gt (blk_lt (g := gb392) (o := .cells #[.int .i64 x393000_15, .int .i64 x393001_15, .int .i64 x393002_42, .int .i64 x393003_42, .int .i64 a2, .int .i64 a3, .int .i64 a4] 23 (0, 0)) (bL BK392)) : gb416 ≠ gb392)); replace BK392 := aM (blk_below (g := gb392) (o := .cells #[.int .i64 x393000_15, .int .i64 x393001_15, .int .i64 x393002_42, .int .i64 x393003_42, .int .i64 a2, .int .i64 a3, .int .i64 a4] 23 (0, 0)) (bL BK392) hb); clear hb hbox hg; have hnb89 := NB416_382.out; have hnc89 := NB382_416.out; have hnb90 := NB416_392.out; have hnc90 := NB392_416.out; have hcz91_0 : w88.cell? ⟨gb416, 0, none⟩ = some (.int .i64 0) := (blk_cell BK416.out 0).trans rfl; have hcz91_1 : w88.cell? ⟨gb416, 1, none⟩ = some (.int .i64 0) := (blk_cell BK416.out 1).trans rfl; have hfz91_0 := blk_frozen BK416.out 0; have hfz91_1 := blk_frozen BK416.out 1) | ((with_reducible refine gate_store (t := 134) (p := 25) rfl ?_); refine store_event (t := 134) (p := 25) (v := ?vo_w92) (w1 := ((w88.setCell ⟨gb416, 0, none⟩ (.int .i64 ((rd_T134 t412 x123_5).f0))).setCell ⟨gb416, 1, none⟩ (.int .i64 ((rd_T134 t412 x123_5).f1)))) ?hg ?ho ?hn ?hr ?_; (case ho => rfl); (case hg => rfl); (case hn => rfl); (case hr => exact zz13); intro w92 hw; have n0_ : Aside0 (Kd.R k134 134 w92 w0.heap.size (fun k_ => (P6_ k_ ∨ w.heap.size ≤ k_) ∧ k_ ≠ gb416) (.slice (some ad415) t412.length co83) t412) := ⟨(by rw [hw]; exact (by (with_reducible repeat (first | apply Kd.R_alloc | apply Kd.R_drewN | apply Kd.R_drew)); exact Kd.R_mono (Kd.R_far (p := ⟨gb416, 1, none⟩) (Kd.R_far (p := ⟨gb416, 0, none⟩) (Kd.R_mono HO_121.out (fun k_ hk => (⟨hk, hk.2⟩ : _ ∧ k_ ≠ gb416))) (fun _ hk => hk.2) (.int .i64 ((rd_T134 t412 x123_5).f0))) (fun _ hk => hk.2) (.int .i64 ((rd_T134 t412 x123_5).f1))) (fun _ hk => ⟨hk.1.1, hk.1.2⟩)))⟩; have n1_ : Aside0 (Kd.R k23 23 w92 w0.heap.size (fun k_ => (P6_ k_ ∨ w.heap.size ≤ k_) ∧ k_ ≠ gb392) u383001 x383001_5) := ⟨(by rw [hw]; exact (by (with_reducible repeat (first | apply Kd.R_alloc | apply Kd.R_drewN | apply Kd.R_drew)); exact Kd.R_mono (Kd.R_far (p := ⟨gb416, 1, none⟩) (Kd.R_far (p := ⟨gb416, 0, none⟩) (Kd.R_types HO_383001.out BK416.out (by decide)) (fun _ hk => hk.2) (.int .i64 ((rd_T134 t412 x123_5).f0))) (fun _ hk => hk.2) (.int .i64 ((rd_T134 t412 x123_5).f1))) (fun _ hk => ⟨hk.1.1, hk.1.2⟩)))⟩; have n2_ : Aside0 (w92.heap[gb382]? = some (.cells #[.slice A0 l0.length c0, u383001] 98 (0, 0))) := ⟨(by rw [hw]; exact (zz19 NB382_416.out BK382.out))⟩; have n3_ : Aside0 (w92.heap[gb392]? = some (.cells #[.int .i64 x393000_15, .int .i64 x393001_15, .int .i64 x393002_42, .int .i64 x393003_42, .int .i64 a2, .int .i64 a3, .int .i64 a4] 23 (0, 0))) := ⟨(by rw [hw]; exact (zz19 NB392_416.out BK392.out))⟩; have n4_ : Aside0 (w92.heap[gb416]? = some (.cells #[.int .i64 ((rd_T134 t412 x123_5).f0), .int .i64 ((rd_T134 t412 x123_5).f1)] 134 (0, 0))) := ⟨(by rw [hw]; exact (by (with_reducible repeat (first | refine blk_drewN ?_ _ | refine blk_drew ?_ | refine blk_alloc ?_ _)); refine blk_put (cs := #[.int .i64 ((rd_T134 t412 x123_5).f0), .int .i64 0]) ?_ 1 _ rfl; (with_reducible repeat (first | refine blk_drewN ?_ _ | refine blk_drew ?_ | refine blk_alloc ?_ _)); refine blk_put (cs := #[.int .i64 0, .int .i64 0]) ?_ 0 _ rfl; (with_reducible repeat (first | refine blk_drewN ?_ _ | refine blk_drew ?_ | refine blk_alloc ?_ _)); exact BK416.out))⟩; have n5_ : Aside0 (Kept w w92 (fun k_ => P6_ k_)) := ⟨(by rw [hw]; exact (zz25 GW382.out GW392.out GW416.out))⟩; have n6_ : Aside0 (Below w0.heap.size w0 w92) := ⟨(by rw [hw]; exact (zz21 GE382.out GE392.out GE416.out))⟩; clear hw; clear HO_121; clear HO_383001; clear BK382; clear BK392; clear BK416; clear HK; clear HB; have HO_121 := n0_; have HO_383001 := n1_; have BK382 := n2_; have BK392 := n3_; have BK416 := n4_; have HK := n5_; have HB := n6_; clear n0_ n1_ n2_ n3_ n4_ n5_ n6_; have hcz93_0 : w92.cell? ⟨gb416, 0, none⟩ = some (.int .i64 ((rd_T134 t412 x123_5).f0)) := (blk_cell BK416.out 0).trans rfl; have hcz93_1 : w92.cell? ⟨gb416, 1, none⟩ = some (.int .i64 ((rd_T134 t412 x123_5).f1)) := (blk_cell BK416.out 1).trans rfl; have hfz93_0 := blk_frozen BK416.out 0; have hfz93_1 := blk_frozen BK416.out 1; have hnb94 := NB382_392.out; have hnc94 := NB392_382.out; have hcz95_0 : w92.cell? ⟨gb382, 0, none⟩ = some (.slice A0 l0.length c0) := (blk_cell BK382.out 0).trans rfl; have hcz95_1 : w92.cell? ⟨gb382, 1, none⟩ = some (u383001) := (blk_cell BK382.out 1).trans rfl; have hfz95_0 := blk_frozen BK382.out 0; have hfz95_1 := blk_frozen BK382.out 1; obtain ⟨Ao96, co96, eo96⟩ := Kd.R_slice HO_383001.out; subst eo96) | ((with_reducible refine gate_callee (f := 86) rfl ?_); refine gL_ (some 138) Tryd.func86 #[.pointer (some ⟨gb382, 0, none⟩), .int .i64 ((rd_T134 t412 x123_5).f0), .int .i64 ((rd_T134 t412 x123_5).f1), .int .i64 (wrap64 (t411 - 1)), .int .i64 (wrap64 (x123_5 + 1)), .int .i64 (wrap64 (a5 + 1))] ?_; (with_reducible refine (ih k5 (by have := HJ15.out; have := HJ42.out; have := HJ55.out; have := HJ69.out; have := HK5.out; omega) A0 c0 l0 ((rd_T134 t412 x123_5).f0) ((rd_T134 t412 x123_5).f1) (wrap64 (t411 - 1)) (wrap64 (x123_5 + 1)) (wrap64 (a5 + 1)) (fun k_ => some k_ = (.slice Ao96 x383001_5.length co96 : Value).ownBlock ∨ k_ = gb382) (.slice Ao96 x383001_5.length co96) x383001_5 t417 w0 _ gb382 ?sidg GE382.out (.inr rfl) ?side1 ?side2 ?side3 ?side4 A87.out).mono ?_); (case sidg => (with_reducible repeat (first | refine blk_drewN ?_ _ | refine blk_drew ?_ | refine blk_alloc ?_ _)); exact BK382.out); (case side1 => exact zz21 GE382.out GE392.out GE416.out); (case side2 => exact Kd.C_kept_call HR0.out (zz25 GW382.out GW392.out GW416.out) (fun k_ hs_ => hs_.elim (fun hs_ => (fun e_ => (HO_383001.out.1 k_ e_.symm).1) hs_) (fun e_ => .inl (by rw [e_]; exact GW382.out)))); (case side3 => exact HC0.out); (case side4 => exact Kd.R_mono (Kd.R_tight rfl HO_383001.out) (fun k_ hk_ => .inl hk_)); rintro e w97 ⟨rfl, v418, hbk_, ho0, hb, hkp⟩; refine ⟨_, rfl, ?_⟩; have n0_ := aM (Kd.R_mono (ok' := fun k_ => (P6_ k_ ∨ w.heap.size ≤ k_) ∧ k_ ≠ gb416) (Kd.R_keptB (Kd.R_types (Kd.R_apart' HO_121.out (Kd.R_typed HO_383001.out) (by decide)) BK382.out (by decide)) hkp (fun k_ hk_ hs_ => hs_.elim (fun hs_ => hk_.1.2 hs_) (fun e_ => hk_.2 e_))) (fun k_ hk_ => ⟨hk_.1.1.1.1, hk_.1.1.1.2⟩)); have n1_ := aM hbk_; have n2_ := aM (blk_kept (bL BK392) hkp (fun hs_ => hs_.elim (fun hs_ => (fun e_ => (Kd.R_away HO_383001.out (fun _ hk => hk.2)) e_) hs_) (fun e_ => NB392_382.out e_))); have n3_ := aM (blk_kept (bL BK416) hkp (fun hs_ => hs_.elim (fun hs_ => (fun e_ => (Kd.R_ne HO_383001.out BK416.out (by decide)) e_) hs_) (fun e_ => NB416_382.out e_))); have n4_ := aM (Kd.R_mono (ok' := fun k_ => (P6_ k_ ∨ w.heap.size ≤ k_) ∧ k_ ≠ gb392) ho0 (fun k_ hk_ => ⟨Or.elim hk_ (fun hs_ => hs_.elim (fun hs_ => (HO_383001.out.1 k_ (hs_).symm).1) (fun e_ => .inl (by rw [e_]; exact GW382.out))) (fun hn_ => (.inr (Nat.le_trans (by first | exact HK.out.1 | exact (show Kept w _ (fun k_ => P6_ k_) from zz25 GW382.out GW392.out GW416.out).1) hn_))), Or.elim hk_ (fun hs_ => hs_.elim (fun hs_ => fun e_ => (Kd.R_away HO_383001.out (fun _ hk => hk.2)) (by rw [← e_]; exact hs_)) (fun e_ => (by rw [e_]; exact NB382_392.out))) (fun hn_ => (Kd.freshB (g := gb392) (o := .cells #[.int .i64 x393000_15, .int .i64 x393001_15, .int .i64 x393002_42, .int .i64 x393003_42, .int .i64 a2, .int .i64 a3, .int .i64 a4] 23 (0, 0)) (bL BK392) k_ hn_))⟩)); have n5_ := aM (Kept.then_ (S := (fun k_ => P6_ k_)) (zz25 GW382.out GW392.out GW416.out) hkp (fun k_ hs_ => hs_.elim (fun hs_ => (fun e_ => (HO_383001.out.1 k_ e_.symm).1) hs_) (fun e_ => .inl (by rw [e_]; exact GW382.out)))); have n6_ := aM (hb); clear HO_121; clear BK382; clear BK392; clear BK416; clear HK; clear HB; clear HO_383001; have HO_121 := n0_; have BK382 := n1_; have BK392 := n2_; have BK416 := n3_; have HO419 := n4_; have HK := n5_; have HB := n6_; clear n0_ n1_ n2_ n3_ n4_ n5_ n6_; (try clear hkp); (try clear ho0); obtain ⟨Ao98, co98, eo98⟩ := Kd.R_slice HO419.out; subst eo98; have hcz99_0 : w97.cell? ⟨gb382, 0, none⟩ = some (.slice A0 l0.length c0) := (blk_cell BK382.out 0).trans rfl; have hcz99_1 : w97.cell? ⟨gb382, 1, none⟩ = some (.slice Ao98 t417.length co98) := (blk_cell BK382.out 1).trans rfl; have hfz99_0 := blk_frozen BK382.out 0; have hfz99_1 := blk_frozen BK382.out 1))
                  go_roundg k5
                  case measure => have := HJ15.out; have := HJ42.out; have := HJ55.out; have := HJ69.out; have := HK5.out; omega
                  case rel => exact ⟨(wrap64 (x123_5 + 1)), (t417), (.slice Ao98 t417.length co98), bS, H', ⟨by have := HJ15.out; have := HJ42.out; have := HJ55.out; have := HJ69.out; have := HK5.out; omega⟩, ⟨zz26 HO_121.out⟩, ⟨bR HO419⟩, ⟨bL BK382⟩, ⟨by (with_reducible repeat (first | refine blk_drewN ?_ _ | refine blk_drew ?_ | refine blk_alloc ?_ _)); (with_reducible repeat (first | refine blk_drewN ?_ _ | refine blk_drew ?_ | refine blk_alloc ?_ _)); exact BK392.out⟩, ⟨zz25 GW382.out GW392.out GW416.out⟩, ⟨zz21 GE382.out GE392.out GE416.out⟩⟩
                 rw [if_neg c86] at H
                 exact absurd H (by simp)
                rw [if_neg c85] at H
                exact absurd H (by simp)
               rw [if_neg c84] at H
               have c84b0 : decide (x123_5 < (t412.length : Int)) = false := decide_eq_false c84
               clear c84
               obtain rfl := Option.some.inj H
               have hnb100 := NB382_392.out
               have hnc100 := NB392_382.out
               have hcz101_0 : wr.cell? ⟨gb382, 0, none⟩ = some (.slice A0 l0.length c0) := (blk_cell BK382.out 0).trans rfl
               have hcz101_1 : wr.cell? ⟨gb382, 1, none⟩ = some (u383001) := (blk_cell BK382.out 1).trans rfl
               have hfz101_0 := blk_frozen BK382.out 0
               have hfz101_1 := blk_frozen BK382.out 1
               go_wp2
               (try simp only [Exit.inBlock, Exit.then])
               first | refine bodyPost_ret (results_none rfl _ _ _) rfl ?_ | refine bodyPost_end (results_none rfl _ _ _) rfl ?_
               exact ⟨rfl, _, bL BK382, zz26 HO_383001.out, bG2 GE382 GE392, zz4 GW382.out GW392.out⟩
        rw [if_neg c55] at H
        exact absurd H (by simp)
   rw [if_neg c14] at H
   exact absurd H (by simp)
  rw [if_neg c13] at H
  exact absurd H (by simp)
 rw [if_neg c12] at H
 exact absurd H (by simp)
end Go.Proofs.YtecpanfndodjgaaDoor.PPartAt
